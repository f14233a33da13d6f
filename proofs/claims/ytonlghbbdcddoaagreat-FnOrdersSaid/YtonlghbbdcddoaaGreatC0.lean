/- Walks. -/
import Derived.Test.YtonlghbbdcddoaaGreatClB
import Derived.Test.YtonlghbbdcddoaaGreatClA
set_option maxHeartbeats 4000000
set_option maxRecDepth 100000
namespace Go.Proofs.YtonlghbbdcddoaaGreat
namespace Cl
open Go.ChangeShapes Go.WideShapes Go.ChangeAt Go.RowKit
def cN (i:Nat):Cel:=⟨((i%8:Nat):Int),((i/8:Nat):Int)⟩
def idx (c:Cel):Nat:=(c.y*8+c.x).toNat
theorem cn {c:Cel} (h:okc c.x c.y=true):idx c<64:=by have:=bz.1 h;unfold idx;omega
theorem Hf {c:Cel} (h:okc c.x c.y=true):c.y*8+c.x=((idx c:Nat):Int):=by have:=bz.1 h;unfold idx;omega
theorem fk {i:Nat} (h:i<64):okc (cN i).x (cN i).y=true:=bz.2 (by unfold cN;dsimp only;omega)
theorem pQ {c:Cel} (h:okc c.x c.y=true):cN (idx c)=c:=by
 have:=bz.1 h
 unfold cN idx;cases c;simp only[Cel.mk.injEq]at*;omega
theorem dF {i:Nat} (h:i<64):idx (cN i)=i:=by unfold idx cN;dsimp only;omega
theorem eN {p:Nat→Bool} {k:Nat} (h:p k=true):((List.range (k+1)).filter p).map cN=((List.range k).filter p).map cN++[cN k]:=by
 rw[List.range_succ,List.filter_append,List.map_append];simp [h]
theorem fH {p:Nat→Bool} {k:Nat} (h:p k=false):((List.range (k+1)).filter p).map cN=((List.range k).filter p).map cN:=by
 rw[List.range_succ,List.filter_append,List.map_append];simp [h]
theorem ml (p:Nat→Bool) (k:Nat):(((List.range k).filter p).map cN).length≤k:=by
 rw[List.length_map];exact Nat.le_trans (List.length_filter_le _ _) (by simp)
def nbr (a b:Cel):Bool:=okc a.x a.y&&okc b.x b.y&&decide (fu (a.x-b.x)+fu (a.y-b.y)=1)
theorem de (z:Int):(fu z=z∨fu z= -z)∧0≤fu z:=by unfold fu;split<;>omega
theorem JY {a b:Int}:decide (a*a+b*b=1)=decide (fu a+fu b=1):=by
 have key:∀ z:Int,z*z=fu z*fu z:=fun z=>by
  rcases(de z).1 with h |h
  ·rw[h]
  ·rw[h,Int.neg_mul_neg]
 rw[key a,key b,Bool.eq_iff_iff,decide_eq_true_eq,decide_eq_true_eq]
 have h1:=(de a).2
 have h2:=(de b).2
 generalize fu a=p at*
 generalize fu b=q at*
 constructor
 ·intro h
  have hp:p≤1:=by
   rcases Int.lt_or_le 1 p with h3 |h3
   ·have:p*2≤p*p:=Int.mul_le_mul_of_nonneg_left (by omega) h1
    have:0≤q*q:=Int.mul_nonneg h2 h2
    omega
   ·exact h3
  have hq:q≤1:=by
   rcases Int.lt_or_le 1 q with h3 |h3
   ·have:q*2≤q*q:=Int.mul_le_mul_of_nonneg_left (by omega) h2
    have:0≤p*p:=Int.mul_nonneg h1 h1
    omega
   ·exact h3
  have e1:p=0∨p=1:=by omega
  have e2:q=0∨q=1:=by omega
  rcases e1 with rfl |rfl<;>rcases e2 with rfl |rfl<;>omega
 ·intro h
  have e1:p=0∨p=1:=by omega
  rcases e1 with rfl |rfl
  ·have:q=1:=by omega
   subst this;rfl
  ·have:q=0:=by omega
   subst this;rfl
theorem nw {d:Int} (h1: -7≤d) (h2:d≤7):0≤d*d∧d*d≤49:=by
 have:d= -7∨d= -6∨d= -5∨d= -4∨d= -3∨d= -2∨d= -1∨d=0∨d=1∨d=2∨d=3∨d=4∨d=5∨d=6∨d=7:=by omega
 rcases this with rfl |rfl |rfl |rfl |rfl |rfl |rfl |rfl |rfl |rfl |rfl |rfl |rfl |rfl |rfl<;>omega
def qN (c:Cel):List Cel:=[⟨c.x,c.y-1⟩,⟨c.x-1,c.y⟩,⟨c.x+1,c.y⟩,⟨c.x,c.y+1⟩]
def nbs (c:Cel):List Cel:=if okc c.x c.y then(qN c).filter (fun z=>okc z.x z.y)else []
theorem yJ:∀ i,i<64→((List.range 64).filter (fun k=>nbr (cN i) (cN k))).map cN=nbs (cN i):=by decide+kernel
theorem Ax (c:Cel):((List.range 64).filter (fun k=>nbr c (cN k))).map cN=nbs c:=by
 by_cases h:okc c.x c.y=true
 ·have:=yJ (idx c) (cn h)
  rwa [pQ h]at this
 ·simp only[Bool.not_eq_true]at h
  have e:(fun k=>nbr c (cN k))=fun _=>false:=by funext k;unfold nbr;rw[h];rfl
  rw[e];unfold nbs;rw[h];simp
theorem je {p:Cel→Bool} {l:List Cel} {k:Nat} (h:k<l.length) (hp:p (gC l k)=true):(l.take (k+1)).filter p=(l.take k).filter p++[gC l k]:=by
 rw[List.take_succ_eq_append_getElem h,List.filter_append,←jO h];simp [hp]
theorem kL {p:Cel→Bool} {l:List Cel} {k:Nat} (h:k<l.length) (hp:p (gC l k)=false):(l.take (k+1)).filter p=(l.take k).filter p:=by
 rw[List.take_succ_eq_append_getElem h,List.filter_append,←jO h];simp [hp]
theorem rO (p:Cel→Bool) (l:List Cel) (k:Nat):((l.take k).filter p).length≤k:=by
 have:=List.length_filter_le p (l.take k);simp at this⊢;omega
theorem Dz (c:Cel):(nbs c).length≤4:=by
 unfold nbs;split
 ·exact Nat.le_trans (List.length_filter_le _ _) (by simp [qN])
 ·simp
def aj (s:Nat):List Cel:=((List.range 64).filter s.testBit).map cN
theorem kx (s:Nat):(aj s).length≤64:=ml _ 64
def pu (s:Nat) (c:Cel):Nat:=s|||2^ (idx c)
def delC (s:Nat) (c:Cel):Nat:=andn s (2^ (idx c))
theorem oC {s:Nat} (hs:s<18446744073709551616) {c:Cel} (h:okc c.x c.y=true):pu s c<18446744073709551616:=oT 64 hs (pr (cn h))
theorem Da {s:Nat} (hs:s<18446744073709551616) (c:Cel):delC s c<18446744073709551616:=dQ hs
theorem kK (s:Nat) (c:Cel) (i:Nat):(pu s c).testBit i=(s.testBit i||decide (idx c=i)):=by
 unfold pu;rw[Nat.testBit_or,Nat.testBit_two_pow]
def aP (s:Nat) (c:Cel):Bool:=okc c.x c.y&&s.testBit (idx c)
def fI (l:List Cel):Nat:=l.foldl pu 0
theorem wB {l:List Cel} (h:∀ c∈l,okc c.x c.y=true):∀ s,s<18446744073709551616→l.foldl pu s<18446744073709551616:=by
 induction l with
 | nil=>intro s hs;exact hs
 | cons c l ih=>intro s hs;exact ih (fun c hc=>h c (by simp [hc])) _ (oC hs (h c (by simp)))
theorem uq {l:List Cel} (h:∀ c∈l,okc c.x c.y=true):fI l<18446744073709551616:=wB h 0 (by decide)
theorem uM (l:List Cel):∀ s i,(l.foldl pu s).testBit i=(s.testBit i||decide (∃ c∈l,idx c=i)):=by
  induction l with
  | nil=>intro s i;simp
  | cons c l ih=>
    intro s i
    rw[List.foldl_cons,ih,kK,Bool.or_assoc]
    congr 1
    rw[Bool.eq_iff_iff];simp
theorem Iz (l:List Cel) (i:Nat):(fI l).testBit i=decide (∃ c∈l,idx c=i):=by
 unfold fI;rw[uM];simp
def aU (l:List Int):Bool:=decide (l.length≤8)&&fE l 0 255
theorem fD {l:List Int} (h:aU l=true):l.length≤8∧∀ k,k<l.length→0≤gI l k∧gI l k≤255:=by
 unfold aU fE at h
 simp only[Bool.and_eq_true,decide_eq_true_eq,List.all_eq_true]at h
 exact⟨h.1,fun k hk=>by rw[cQ hk];exact bw.1 (h.2 _ (List.getElem_mem hk))⟩
def rs (l:List Int):Nat→Nat
 | 0=>0
 | k+1=>rs l k|||((gI l k).toNat<<<(8*k))
def ag (l:List Int):Nat:=rs l l.length
theorem DQ {a k:Nat} (ha:a≤255) (hk:k<8):a<<<(8*k)<2^ (8*(k+1)):=by
 rw[Nat.shiftLeft_eq]
 have e:8*(k+1)=8*k+8:=by omega
 rw[e,Nat.pow_add,Nat.mul_comm]
 exact Nat.mul_lt_mul_of_pos_left (by omega) (Nat.two_pow_pos _)
theorem Nr {l:List Int} (h:aU l=true) {k:Nat} (hk:k≤l.length):rs l k<2^ (8*k):=by
  obtain⟨h8,hr⟩:=fD h
  induction k with
  | zero=>simp [rs]
  | succ k ih=>
    have:=hr k (by omega)
    unfold rs
    refine Nat.or_lt_two_pow ?_ (DQ (by omega) (by omega))
    exact Nat.lt_of_lt_of_le (ih (by omega)) (Nat.pow_le_pow_right (by decide) (by omega))
theorem LS {l:List Int} (h:aU l=true) {k:Nat} (hk:k≤l.length):rs l k<18446744073709551616:=by
 obtain⟨h8,_⟩:=fD h
 exact Nat.lt_of_lt_of_le (Nr h hk) (Nat.pow_le_pow_right (n:=2) (by decide) (by omega:8*k≤64))
theorem LU {a k:Nat} (ha:a≤255) (hk:k<8):a<<<(8*k)<18446744073709551616:=
 Nat.lt_of_lt_of_le (DQ ha hk) (Nat.pow_le_pow_right (n:=2) (by decide) (by omega:8*(k+1)≤64))
theorem bb {l:List Int} (h:aU l=true):ag l<18446744073709551616:=LS h (Nat.le_refl _)
theorem KN {a:Nat} (ha:a≤255) {x:Nat} (hx:8≤x):a.testBit x=false:=
 Nat.testBit_lt_two_pow (Nat.lt_of_lt_of_le (show a<2^ 8 by omega) (Nat.pow_le_pow_right (by decide) hx))
theorem Nq {l:List Int} (h:aU l=true) {k:Nat} (hk:k≤l.length) (x y:Nat) (hx:x<8):(rs l k).testBit (8*y+x)=(decide (y<k)&&(gI l y).toNat.testBit x):=by
  obtain⟨h8,hr⟩:=fD h
  induction k with
  | zero=>simp [rs]
  | succ k ih=>
    have hb:=hr k (by omega)
    unfold rs
    rw[Nat.testBit_or,ih (by omega),Nat.testBit_shiftLeft]
    rcases Nat.lt_trichotomy y k with hlt |rfl |hgt
    · have e1:decide (8*y+x≥8*k)=false:=by simp;omega
      rw[e1];simp [hlt,show y<k+1 by omega]
    · have e1:8*y+x-8*y=x:=by omega
      rw[e1];simp
    · have e1:(gI l k).toNat.testBit (8*y+x-8*k)=false:=KN (by omega) (by omega)
      rw[e1]
      have n1:¬y<k:=by omega
      have n2:¬y<k+1:=by omega
      simp [n1,n2]
def dm (l:List Int) (c:Cel):Bool:=decide (c.y<l.length)&&(gI l c.y.toNat).toNat.testBit c.x.toNat
theorem jB {l:List Int} (h:aU l=true) {c:Cel} (hc:okc c.x c.y=true):(ag l).testBit (idx c)=dm l c:=by
 have hq:=bz.1 hc
 have e:idx c=8*c.y.toNat+c.x.toNat:=by unfold idx;omega
 unfold ag
 rw[e,Nq h (Nat.le_refl _) _ _ (by omega)]
 unfold dm
 congr 1
 rw[Bool.eq_iff_iff];simp;omega
def eJ (l:List Int) (c:Cel):Bool:=aU l&&(okc c.x c.y&&(ag l).testBit (idx c))
theorem EY {l:List Int} {c:Cel} (h:aU l=true) (hc:okc c.x c.y=true):dm l c=eJ l c:=by unfold eJ;rw[h,hc,jB h hc];rfl
def cellsOf (l:List Int):List Cel:=if aU l then aj (ag l)else []
theorem lq (l:List Int):(cellsOf l).length≤64:=by unfold cellsOf;split;exact kx _;simp
theorem yj {l:List Int} (h:aU l=true):((List.range 64).filter (fun k=>dm l (cN k))).map cN=cellsOf l:=by
 unfold cellsOf aj;rw[h,if_pos rfl]
 congr 1
 refine List.filter_congr fun k hk=> ?_
 have hk:k<64:=by simpa using hk
 rw[←jB h (fk hk),dF hk]
theorem kR {l:List Cel} {k:Nat} (h:k<l.length):gC l k∈l:=by rw[jO h];exact List.getElem_mem h
theorem xB:∀ (a b:Int),Tryz.prog.built 67 [(0,.int .i64 a),(1,.int .i64 b)]=some ([.int .i64 a,.int .i64 b]:List Value).toArray:=fun _ _=>rfl
theorem iA:ce Tryz.prog 67 0=some 0:=by kernel_rfl
theorem iB:ce Tryz.prog 67 1=some 1:=by kernel_rfl
theorem fG:TI Tryz.prog 3 false 1:=⟨⟨_,Tryz.underlying3,rfl⟩,by kernel_rfl⟩
theorem el:TI Tryz.prog 67 true 2:=⟨⟨_,Tryz.underlying67,rfl⟩,by kernel_rfl⟩
theorem xC:ZI Tryz.prog 67 (.agg #[.int .i64 0,.int .i64 0]) 2 16:=by unfold ZI;kernel_rfl
theorem eh (a b c:Int):Fn Tryz.prog 58 [.a (.val (.int .i64 a)),.a (.val (.int .i64 b)),.a (.val (.int .i64 c))] [.val (.bool (inB a b c))]:=by
  refine⟨⟨_,Tryz.func58,by kernel_rfl,by kernel_rfl⟩,fun w args h=> ?_⟩
  match args,eA.1 h with
  | [u0,u1,u2],⟨h0,h1,h2,_⟩=>
    obtain rfl:=fO h0
    obtain rfl:=fO h1
    obtain rfl:=fO h2
    refine Calls.mono (wk a b c w) ?_
    rintro e w' ⟨rfl,rfl⟩
    exact⟨_,rfl,rfl,Below.refl _ _⟩
theorem cP (a b c:Int):Fn Tryz.prog 38 [.a (.val (.int .i64 a)),.a (.val (.int .i64 b)),.a (.val (.int .i64 c))] [.val (.bool (inB a b c))]:=by
  refine⟨⟨_,Tryz.func38,by kernel_rfl,by kernel_rfl⟩,fun w args h=> ?_⟩
  match args,eA.1 h with
  | [u0,u1,u2],⟨h0,h1,h2,_⟩=>
    obtain rfl:=fO h0
    obtain rfl:=fO h1
    obtain rfl:=fO h2
    refine Calls.mono (mO a b c w) ?_
    rintro e w' ⟨rfl,rfl⟩
    exact⟨_,rfl,rfl,Below.refl _ _⟩
theorem qS (l:List Int) (a b:Int) (hl:l.length≤4194304):Fn Tryz.prog 85 [.a (.slv l.length 1 (isl l)),.a (.val (.int .i64 a)),.a (.val (.int .i64 b))] [.val (.bool (fE l a b))]:=by
  refine⟨⟨_,Tryz.func85,by kernel_rfl,by kernel_rfl⟩,fun w args h=> ?_⟩
  match args,eA.1 h with
  | [u0,u1,u2],⟨h0,h1,h2,_⟩=>
    obtain⟨A0,c0,rfl,hc0,hr0⟩:=nK h0
    obtain rfl:=fO h1
    obtain rfl:=fO h2
    refine Calls.mono (nG l A0 l.length c0 a b w hr0 hl) ?_
    rintro e w' ⟨rfl,rfl⟩
    exact⟨_,rfl,rfl,Below.refl _ _⟩
theorem dw (c:Cel):Fn Tryz.prog 87 [.agg ([vI c.x,vI c.y].map A.val)] [.val (.bool (okc c.x c.y))]:=by
  refine⟨⟨_,Tryz.func87,by kernel_rfl,by kernel_rfl⟩,fun w args h=> ?_⟩
  match args,eA.1 h with
  | [u0],⟨h0,_⟩=>
    obtain rfl:=oD h0
    refine Calls.mono (sZ c.x c.y w) ?_
    rintro e w' ⟨rfl,hb⟩
    exact⟨_,rfl,rfl,hb⟩
theorem bW (c:Cel):Fn Tryz.prog 79 [.agg ([vI c.x,vI c.y].map A.val)] [.val (.bool (okc c.x c.y))]:=by
  refine⟨⟨_,Tryz.func79,by kernel_rfl,by kernel_rfl⟩,fun w args h=> ?_⟩
  match args,eA.1 h with
  | [u0],⟨h0,_⟩=>
    obtain rfl:=oD h0
    refine Calls.mono (ta c.x c.y w) ?_
    rintro e w' ⟨rfl,hb⟩
    exact⟨_,rfl,rfl,hb⟩
theorem mK (a:Int) (h1: -9223372036854775807≤a) (h2:a≤9223372036854775807):Fn Tryz.prog 22 [.a (.val (.int .i64 a))] [.val (.int .i64 (fu a))]:=by
  refine⟨⟨_,Tryz.func22,by kernel_rfl,by kernel_rfl⟩,fun w args h=> ?_⟩
  match args,eA.1 h with
  | [u0],⟨h0,_⟩=>
    obtain rfl:=fO h0
    refine Calls.mono (IJ a w h1 h2) ?_
    rintro e w' ⟨rfl,rfl⟩
    exact⟨_,rfl,rfl,Below.refl _ _⟩
theorem fS (c:Cel) (hc:okc c.x c.y=true):Fn Tryz.prog 66 [.agg ([vI c.x,vI c.y].map A.val)] [.val (.int .i64 (((idx c):Nat):Int))]:=by
 have hq:=bz.1 hc
 refine aN (N:=12) Tryz.func66 rfl (by kernel_rfl) rfl (Nat.le_of_ble_eq_true rfl) [1,4] (dB rfl) (fun W=> ?_)
 show Wp _ _ _ [kV 0 (V.av [vI c.x,vI c.y]),kF 1,kF 4]
 refine sq (rg ?_)
 refine z ?_ (h:=fun Z=>aM (h:=1) Z xt (by exact ob1 rfl))
 refine zk (nl (sq (sq (rg ?_))))
 refine z ?_ (h:=fun Z=>aa (xs:=[vI c.x,vI c.y].map A.val) Z el rfl (by decide) rfl)
 refine z ?_ (h:=fun Z=>ah Z (dw c ) (ac (ArgV.va va) an) (aH (congrArg Value.bool hc)))
 refine z ?_ (h:=fun Z=>aK Z vt (bE (c:=false) rfl))
 refine nl (wf (sk (sq (rg ?_))))
 refine z ?_ (h:=fun Z=>ak (off':=1) Z iB rfl)
 refine z ?_ (h:=fun Z=>ai (x:= .val (.int .i64 c.y)) Z fG (by exact rfl))
 refine z ?_ (h:=fun Z=>ab Z vt vc rM)
 refine z ?_ (h:=fun Z=>ak (off':=0) Z iA rfl)
 refine z ?_ (h:=fun Z=>ai (x:= .val (.int .i64 c.x)) Z fG (by exact rfl))
 refine z ?_ (h:=fun Z=>ab Z vt vt rA)
 refine za (nl (aq ?_))
 exact VRes.tmp _ _ _ (by exact rfl) (cc (congrArg (Value.int .i64) (by exact Hf hc)))
theorem dp (c:Cel) (hc:okc c.x c.y=true):Fn Tryz.prog 45 [.agg ([vI c.x,vI c.y].map A.val)] [.val (.int .i64 (((idx c):Nat):Int))]:=by
 have hq:=bz.1 hc
 refine aN (N:=12) Tryz.func45 rfl (by kernel_rfl) rfl (Nat.le_of_ble_eq_true rfl) [1,4] (dB rfl) (fun W=> ?_)
 show Wp _ _ _ [kV 0 (V.av [vI c.x,vI c.y]),kF 1,kF 4]
 refine sq (rg ?_)
 refine z ?_ (h:=fun Z=>aM (h:=1) Z xt (by exact ob1 rfl))
 refine zk (nl (sq (sq (rg ?_))))
 refine z ?_ (h:=fun Z=>aa (xs:=[vI c.x,vI c.y].map A.val) Z el rfl (by decide) rfl)
 refine z ?_ (h:=fun Z=>ah Z (bW c ) (ac (ArgV.va va) an) (aH (congrArg Value.bool hc)))
 refine z ?_ (h:=fun Z=>aK Z vt (bE (c:=false) rfl))
 refine nl (wf (sk (sq (rg ?_))))
 refine z ?_ (h:=fun Z=>ak (off':=1) Z iB rfl)
 refine z ?_ (h:=fun Z=>ai (x:= .val (.int .i64 c.y)) Z fG (by exact rfl))
 refine z ?_ (h:=fun Z=>ab Z vt vc rM)
 refine z ?_ (h:=fun Z=>ak (off':=0) Z iA rfl)
 refine z ?_ (h:=fun Z=>ai (x:= .val (.int .i64 c.x)) Z fG (by exact rfl))
 refine z ?_ (h:=fun Z=>ab Z vt vt rA)
 refine za (nl (aq ?_))
 exact VRes.tmp _ _ _ (by exact rfl) (cc (congrArg (Value.int .i64) (by exact Hf hc)))
theorem kX (i:Nat) (hi:i<64):Fn Tryz.prog 86 [.a (.val (.int .i64 ((i:Nat):Int)))] [.val (.agg ([.int .i64 (cN i).x,.int .i64 (cN i).y]:List Value).toArray)]:=by
 refine aN (N:=8) Tryz.func86 rfl (by kernel_rfl) rfl (Nat.le_of_ble_eq_true rfl) [2] (dB rfl) (fun W=> ?_)
 show Wp _ _ _ [kI 0 ((i:Nat):Int),kF 2]
 refine sq (rg ?_)
 refine z ?_ (h:=fun Z=>aF (h:=2) (cap:=1) (s:=2) (cells:=[aI 0,aI 0]) Z xC rfl rfl (by decide))
 refine nl (sq (rg (zm ?_)))
 refine z ?_ (h:=fun Z=>ab Z vt vc (rh (c:=(((i%8):Nat):Int)) (by decide) (remN (a:=((i:Nat):Int)) (b:=i) (c:=8) rfl)))
 refine zm ?_
 refine z ?_ (h:=fun Z=>ab Z vt vc (vK (c:=(((i/8):Nat):Int)) (by decide) (quoN (a:=((i:Nat):Int)) (b:=i) (c:=8) rfl (by decide) (by omega))))
 refine z ?_ (h:=fun Z=>bC Z xB vt vt)
 refine z ?_ (h:=fun _=>aw (cells:=[aI (((i%8):Nat):Int),aI (((i/8):Nat):Int)]) el xt (by exact rfl) (by decide) (by exact ob1 rfl) (by exact Nat.le_of_ble_eq_true rfl) (by exact rfl))
 refine nl (aq ?_)
 exact VRes.cells 2 67 2 ⟨67,2,true,[aI (((i%8):Nat):Int),aI (((i/8):Nat):Int)]⟩ _ (by kernel_rfl) (by kernel_rfl) el (Nat.le_of_ble_eq_true rfl) (nL (vs:=[vI (((i%8):Nat):Int),vI (((i/8):Nat):Int)]) (by rfl))
theorem iW (i:Nat) (hi:i<64):Fn Tryz.prog 72 [.a (.val (.int .i64 ((i:Nat):Int)))] [.val (.agg ([.int .i64 (cN i).x,.int .i64 (cN i).y]:List Value).toArray),.val (.bool true)]:=by
 have hin:inB ((i:Nat):Int) 0 63=true:=bw.2 (by omega)
 refine aN (N:=13) Tryz.func72 rfl (by kernel_rfl) rfl (Nat.le_of_ble_eq_true rfl) [2,5] (vO rfl rfl (by intro u hu;injection hu with hu;subst hu;rfl)) (fun W=> ?_)
 show Wp _ _ _ [kI 0 ((i:Nat):Int),kF 2,kF 5]
 refine sq (rg ?_)
 refine z ?_ (h:=fun Z=>aF (h:=2) (cap:=1) (s:=2) (cells:=[aI 0,aI 0]) Z xC rfl rfl (by decide))
 refine zk (nl (sq (sq (rg (zm ?_)))))
 refine z ?_ (h:=fun Z=>ah Z (cP ((i:Nat):Int) 0 63 ) (ac (ArgV.v vt) (ac (ArgV.v vc) (ac (ArgV.v vc) an))) (aH (congrArg Value.bool hin)))
 refine z ?_ (h:=fun Z=>aK Z vt (bE (c:=false) rfl))
 refine nl (wf (sk (sq (rg (zm ?_)))))
 refine z ?_ (h:=fun Z=>ab Z vt vc (rh (c:=(((i%8):Nat):Int)) (by decide) (remN (a:=((i:Nat):Int)) (b:=i) (c:=8) rfl)))
 refine zm ?_
 refine z ?_ (h:=fun Z=>ab Z vt vc (vK (c:=(((i/8):Nat):Int)) (by decide) (quoN (a:=((i:Nat):Int)) (b:=i) (c:=8) rfl (by decide) (by omega))))
 refine z ?_ (h:=fun Z=>bC Z xB vt vt)
 refine z ?_ (h:=fun _=>aw (cells:=[aI (((i%8):Nat):Int),aI (((i/8):Nat):Int)]) el xt (by exact rfl) (by decide) (by exact ob1 rfl) (by exact Nat.le_of_ble_eq_true rfl) (by exact rfl))
 refine zk (nl (aq ?_))
 exact⟨VRes.cells 2 67 2 ⟨67,2,true,[aI (((i%8):Nat):Int),aI (((i/8):Nat):Int)]⟩ _ (by kernel_rfl) (by kernel_rfl) el (Nat.le_of_ble_eq_true rfl) (nL (vs:=[vI (((i%8):Nat):Int),vI (((i/8):Nat):Int)]) (by rfl)),VRes.tmp _ _ _ (by exact rfl) (BRes.val _)⟩
theorem nS (a b:Cel):Fn Tryz.prog 98 [.agg ([vI a.x,vI a.y].map A.val),.agg ([vI b.x,vI b.y].map A.val)] [.val (.bool (nbr a b))]:=by
 refine aN (N:=27) Tryz.func98 rfl (by kernel_rfl) rfl (Nat.le_of_ble_eq_true rfl) [2,3,6,9,17,23] (dB rfl) (fun W=> ?_)
 show Wp _ _ _ [kV 0 (V.av [vI a.x,vI a.y]),kV 1 (V.av [vI b.x,vI b.y]),kF 2,kF 3,kF 6,kF 9,kF 17,kF 23]
 refine sq (rg ?_)
 refine z ?_ (h:=fun Z=>aM (h:=2) Z xt (by exact ob1 rfl))
 refine z ?_ (h:=fun Z=>aM (h:=3) Z xt (by exact ob1 rfl))
 refine zk (nl (sq ?_))
 rcases Bool.eq_false_or_eq_true ((okc a.x a.y))with c1 |c1
 ·skip
  have c1Q:=bz.1 c1
  rcases Bool.eq_false_or_eq_true ((okc b.x b.y))with c2 |c2
  ·skip
   have c2Q:=bz.1 c2
   refine cg ?_
   refine zd ?_ (h:=fun Z=>aa (xs:=[vI a.x,vI a.y].map A.val) Z el rfl (by decide) rfl)
   refine zd ?_ (h:=fun Z=>ah Z (dw a ) (ac (ArgV.va va) an) (aH (congrArg Value.bool c1)))
   refine zdm ?_
   refine zdg ?_ (h:=fun Z=>ae rfl rfl (aa (xs:=[vI b.x,vI b.y].map A.val) Z el rfl (by decide) rfl))
   refine zdg ?_ (h:=fun Z=>ae rfl rfl (ah Z (dw b ) (ac (ArgV.va va) an) (aH (congrArg Value.bool c2))))
   refine zd ?_ (h:=fun Z=>al Z vt xt)
   refine zdm ?_
   refine zdg ?_ (h:=fun Z=>ae rfl rfl (ak (off':=0) Z iA rfl))
   refine zdg ?_ (h:=fun Z=>ae rfl rfl (ai (x:= .val (.int .i64 a.x)) Z fG (by exact rfl)))
   refine zdg ?_ (h:=fun Z=>ae rfl rfl (ak (off':=0) Z iA rfl))
   refine zdg ?_ (h:=fun Z=>ae rfl rfl (ai (x:= .val (.int .i64 b.x)) Z fG (by exact rfl)))
   refine zdg ?_ (h:=fun Z=>ae rfl rfl (ab Z vt vt (rS (by(have q1:=de (a.x-b.x);have q2:=de (a.y-b.y);omega)) (by(have q1:=de (a.x-b.x);have q2:=de (a.y-b.y);omega)))))
   refine zdg ?_ (h:=fun Z=>ae rfl rfl (ah Z (mK (a.x-b.x) (by(have q1:=de (a.x-b.x);have q2:=de (a.y-b.y);omega)) (by(have q1:=de (a.x-b.x);have q2:=de (a.y-b.y);omega))) (ac (ArgV.v vt) an) rv))
   refine zdg ?_ (h:=fun Z=>ae rfl rfl (ak (off':=1) Z iB rfl))
   refine zdg ?_ (h:=fun Z=>ae rfl rfl (ai (x:= .val (.int .i64 a.y)) Z fG (by exact rfl)))
   refine zdg ?_ (h:=fun Z=>ae rfl rfl (ak (off':=1) Z iB rfl))
   refine zdg ?_ (h:=fun Z=>ae rfl rfl (ai (x:= .val (.int .i64 b.y)) Z fG (by exact rfl)))
   refine zdg ?_ (h:=fun Z=>ae rfl rfl (ab Z vt vt (rS (by(have q1:=de (a.x-b.x);have q2:=de (a.y-b.y);omega)) (by(have q1:=de (a.x-b.x);have q2:=de (a.y-b.y);omega)))))
   refine zdg ?_ (h:=fun Z=>ae rfl rfl (ah Z (mK (a.y-b.y) (by(have q1:=de (a.x-b.x);have q2:=de (a.y-b.y);omega)) (by(have q1:=de (a.x-b.x);have q2:=de (a.y-b.y);omega))) (ac (ArgV.v vt) an) rv))
   refine zdg ?_ (h:=fun Z=>ae rfl rfl (ab Z vt vt (rA (by(have q1:=de (a.x-b.x);have q2:=de (a.y-b.y);omega)) (by(have q1:=de (a.x-b.x);have q2:=de (a.y-b.y);omega)))))
   refine zdg ?_ (h:=fun Z=>ae rfl rfl (ab Z vt vc (cW rfl)))
   refine zd ?_ (h:=fun Z=>al Z vt xt)
   refine zd ?_ (h:=fun Z=>gt Z)
   refine bJ (aq ?_)
   exact VRes.tmp _ _ _ (by exact rfl) (cc (congrArg Value.bool (by(simp_all [nbr];done))))
  ·skip
   have c2Q:=iz.1 c2
   refine cg ?_
   refine zd ?_ (h:=fun Z=>aa (xs:=[vI a.x,vI a.y].map A.val) Z el rfl (by decide) rfl)
   refine zd ?_ (h:=fun Z=>ah Z (dw a ) (ac (ArgV.va va) an) (aH (congrArg Value.bool c1)))
   refine zdm ?_
   refine zdg ?_ (h:=fun Z=>ae rfl rfl (aa (xs:=[vI b.x,vI b.y].map A.val) Z el rfl (by decide) rfl))
   refine zdg ?_ (h:=fun Z=>ae rfl rfl (ah Z (dw b ) (ac (ArgV.va va) an) (aH (congrArg Value.bool c2))))
   refine zd ?_ (h:=fun Z=>al Z vt xt)
   refine zdm ?_
   refine zdg ?_ (h:=fun Z=>am rfl rfl (by decide) rfl Z)
   refine zdg ?_ (h:=fun Z=>am rfl rfl (by decide) rfl Z)
   refine zdg ?_ (h:=fun Z=>am rfl rfl (by decide) rfl Z)
   refine zdg ?_ (h:=fun Z=>am rfl rfl (by decide) rfl Z)
   refine zdg ?_ (h:=fun Z=>am rfl rfl (by decide) rfl Z)
   refine zdg ?_ (h:=fun Z=>am rfl rfl (by decide) rfl Z)
   refine zdg ?_ (h:=fun Z=>am rfl rfl (by decide) rfl Z)
   refine zdg ?_ (h:=fun Z=>am rfl rfl (by decide) rfl Z)
   refine zdg ?_ (h:=fun Z=>am rfl rfl (by decide) rfl Z)
   refine zdg ?_ (h:=fun Z=>am rfl rfl (by decide) rfl Z)
   refine zdg ?_ (h:=fun Z=>am rfl rfl (by decide) rfl Z)
   refine zdg ?_ (h:=fun Z=>am rfl rfl (by decide) rfl Z)
   refine zdg ?_ (h:=fun Z=>am rfl rfl (by decide) rfl Z)
   refine zdg ?_ (h:=fun Z=>am rfl rfl (by decide) rfl Z)
   refine zd ?_ (h:=fun Z=>ao Z vt xc)
   refine zd ?_ (h:=fun Z=>gt Z)
   refine bJ (aq ?_)
   exact VRes.tmp _ _ _ (by exact rfl) (cc (congrArg Value.bool (by(simp_all [nbr];done))))
 ·skip
  have c1Q:=iz.1 c1
  refine cg ?_
  refine zd ?_ (h:=fun Z=>aa (xs:=[vI a.x,vI a.y].map A.val) Z el rfl (by decide) rfl)
  refine zd ?_ (h:=fun Z=>ah Z (dw a ) (ac (ArgV.va va) an) (aH (congrArg Value.bool c1)))
  refine zdm ?_
  refine zdg ?_ (h:=fun Z=>am rfl rfl (by decide) rfl Z)
  refine zdg ?_ (h:=fun Z=>am rfl rfl (by decide) rfl Z)
  refine zd ?_ (h:=fun Z=>ao Z vt xc)
  refine zdm ?_
  refine zdg ?_ (h:=fun Z=>am rfl rfl (by decide) rfl Z)
  refine zdg ?_ (h:=fun Z=>am rfl rfl (by decide) rfl Z)
  refine zdg ?_ (h:=fun Z=>am rfl rfl (by decide) rfl Z)
  refine zdg ?_ (h:=fun Z=>am rfl rfl (by decide) rfl Z)
  refine zdg ?_ (h:=fun Z=>am rfl rfl (by decide) rfl Z)
  refine zdg ?_ (h:=fun Z=>am rfl rfl (by decide) rfl Z)
  refine zdg ?_ (h:=fun Z=>am rfl rfl (by decide) rfl Z)
  refine zdg ?_ (h:=fun Z=>am rfl rfl (by decide) rfl Z)
  refine zdg ?_ (h:=fun Z=>am rfl rfl (by decide) rfl Z)
  refine zdg ?_ (h:=fun Z=>am rfl rfl (by decide) rfl Z)
  refine zdg ?_ (h:=fun Z=>am rfl rfl (by decide) rfl Z)
  refine zdg ?_ (h:=fun Z=>am rfl rfl (by decide) rfl Z)
  refine zdg ?_ (h:=fun Z=>am rfl rfl (by decide) rfl Z)
  refine zdg ?_ (h:=fun Z=>am rfl rfl (by decide) rfl Z)
  refine zd ?_ (h:=fun Z=>ao Z vt xc)
  refine zd ?_ (h:=fun Z=>gt Z)
  refine bJ (aq ?_)
  exact VRes.tmp _ _ _ (by exact rfl) (cc (congrArg Value.bool (by(simp_all [nbr];done))))
theorem ou (a b:Cel):Fn Tryz.prog 111 [.agg ([vI a.x,vI a.y].map A.val),.agg ([vI b.x,vI b.y].map A.val)] [.val (.bool (nbr a b))]:=by
 refine aN (N:=33) Tryz.func111 rfl (by kernel_rfl) rfl (Nat.le_of_ble_eq_true rfl) [2,3,8,12] (dB rfl) (fun W=> ?_)
 show Wp _ _ _ [kV 0 (V.av [vI a.x,vI a.y]),kV 1 (V.av [vI b.x,vI b.y]),kF 2,kF 3,kF 8,kF 12]
 refine sq (rg ?_)
 refine z ?_ (h:=fun Z=>aM (h:=2) Z xt (by exact ob1 rfl))
 refine z ?_ (h:=fun Z=>aM (h:=3) Z xt (by exact ob1 rfl))
 refine zk (nl (sq (sq ?_)))
 rcases Bool.eq_false_or_eq_true ((okc a.x a.y))with c1 |c1
 ·skip
  have c1Q:=bz.1 c1
  refine rg ?_
  refine z ?_ (h:=fun Z=>aa (xs:=[vI a.x,vI a.y].map A.val) Z el rfl (by decide) rfl)
  refine z ?_ (h:=fun Z=>ah Z (bW a ) (ac (ArgV.va va) an) (aH (congrArg Value.bool c1)))
  refine z ?_ (h:=fun Z=>aK Z vt (bE (c:=false) rfl))
  refine zm ?_
  refine zg ?_ (h:=fun Z=>ae rfl rfl (aa (xs:=[vI b.x,vI b.y].map A.val) Z el rfl (by decide) rfl))
  refine zg ?_ (h:=fun Z=>ae rfl rfl (ah Z (bW b ) (ac (ArgV.va va) an) rv))
  refine zg ?_ (h:=fun Z=>ae rfl rfl (aK Z vt (bE rfl)))
  refine z ?_ (h:=fun Z=>ao Z vt xt)
  refine nl ?_
  refine wi (b:=(!(okc b.x b.y))) (fun c2=> ?_) (fun c2=> ?_)
  ·skip
   have c3:(okc b.x b.y)=false:=by first |(rw[←Bool.not_eq_true'];exact c2) |simpa using c2
   have c3Q:=iz.1 c3
   refine sq (rg (zk (nl (aq ?_))))
   exact VRes.tmp _ _ _ (by exact rfl) (cc (congrArg Value.bool (by(simp_all [nbr];done))))
  ·skip
   have c4:(okc b.x b.y)=true:=by first |(rw[←Bool.not_eq_false'];exact c2) |simpa using c2
   have c4Q:=bz.1 c4
   refine sk (sq (rg ?_))
   refine z ?_ (h:=fun Z=>ak (off':=0) Z iA rfl)
   refine z ?_ (h:=fun Z=>ai (x:= .val (.int .i64 a.x)) Z fG (by exact rfl))
   refine z ?_ (h:=fun Z=>ak (off':=0) Z iA rfl)
   refine z ?_ (h:=fun Z=>ai (x:= .val (.int .i64 b.x)) Z fG (by exact rfl))
   refine z ?_ (h:=fun Z=>ab Z vt vt (rS (by omega) (by omega)))
   refine za (nl (sq (rg ?_)))
   refine z ?_ (h:=fun Z=>ak (off':=1) Z iB rfl)
   refine z ?_ (h:=fun Z=>ai (x:= .val (.int .i64 a.y)) Z fG (by exact rfl))
   refine z ?_ (h:=fun Z=>ak (off':=1) Z iB rfl)
   refine z ?_ (h:=fun Z=>ai (x:= .val (.int .i64 b.y)) Z fG (by exact rfl))
   refine z ?_ (h:=fun Z=>ab Z vt vt (rS (by omega) (by omega)))
   refine za (nl (sq (rg (zm (zm ?_)))))
   refine z ?_ (h:=fun Z=>ab Z vt vt (rM (by(have q1:=@nw (a.x-b.x) (by omega) (by omega);have q2:=@nw (a.y-b.y) (by omega) (by omega);omega)) (by(have q1:=@nw (a.x-b.x) (by omega) (by omega);have q2:=@nw (a.y-b.y) (by omega) (by omega);omega))))
   refine zm (zm ?_)
   refine z ?_ (h:=fun Z=>ab Z vt vt (rM (by(have q1:=@nw (a.x-b.x) (by omega) (by omega);have q2:=@nw (a.y-b.y) (by omega) (by omega);omega)) (by(have q1:=@nw (a.x-b.x) (by omega) (by omega);have q2:=@nw (a.y-b.y) (by omega) (by omega);omega))))
   refine z ?_ (h:=fun Z=>ab Z vt vt (rA (by(have q1:=@nw (a.x-b.x) (by omega) (by omega);have q2:=@nw (a.y-b.y) (by omega) (by omega);omega)) (by(have q1:=@nw (a.x-b.x) (by omega) (by omega);have q2:=@nw (a.y-b.y) (by omega) (by omega);omega))))
   refine z ?_ (h:=fun Z=>ab Z vt vc (cW rfl))
   refine za (nl (aq ?_))
   exact VRes.tmp _ _ _ (by exact rfl) (cc (congrArg Value.bool (by(unfold nbr;simp_all [JY];done))))
 ·skip
  have c1Q:=iz.1 c1
  refine rg ?_
  refine z ?_ (h:=fun Z=>aa (xs:=[vI a.x,vI a.y].map A.val) Z el rfl (by decide) rfl)
  refine z ?_ (h:=fun Z=>ah Z (bW a ) (ac (ArgV.va va) an) (aH (congrArg Value.bool c1)))
  refine z ?_ (h:=fun Z=>aK Z vt (bE (c:=true) rfl))
  refine zm (zo (zo (zo ?_)))
  refine z ?_ (h:=fun Z=>al Z vt xc)
  refine nl (wt (sq (rg (zk (nl (aq ?_))))))
  exact VRes.tmp _ _ _ (by exact rfl) (cc (congrArg Value.bool (by(simp_all [nbr];done))))
end Cl
end Go.Proofs.YtonlghbbdcddoaaGreat
