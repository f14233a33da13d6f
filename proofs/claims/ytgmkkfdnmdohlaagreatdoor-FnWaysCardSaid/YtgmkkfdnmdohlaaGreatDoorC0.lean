/- Walks. -/
import Derived.Test.YtgmkkfdnmdohlaaGreatDoorClB
import Derived.Test.YtgmkkfdnmdohlaaGreatDoorClA
set_option linter.unusedSimpArgs false
set_option linter.unusedVariables false
set_option maxHeartbeats 4000000
set_option maxRecDepth 100000
namespace Go.Proofs.YtgmkkfdnmdohlaaGreatDoor
namespace Cl
open Go.ChangeShapes Go.WideShapes Go.ChangeAt Go.RowKit
def cN (i:Nat):Cel:=⟨((i%8:Nat):Int),((i/8:Nat):Int)⟩
def idx (c:Cel):Nat:=(c.y*8+c.x).toNat
theorem eV {c:Cel} (h:okc c.x c.y=true):idx c<64:=by have:=bL.1 h;unfold idx;omega
theorem Ei {c:Cel} (h:okc c.x c.y=true):c.y*8+c.x=((idx c:Nat):Int):=by have:=bL.1 h;unfold idx;omega
theorem fP {i:Nat} (h:i<64):okc (cN i).x (cN i).y=true:=bL.2 (by unfold cN;dsimp only;omega)
theorem pU {c:Cel} (h:okc c.x c.y=true):cN (idx c)=c:=by
 have:=bL.1 h
 unfold cN idx;cases c;simp only[Cel.mk.injEq]at*;omega
theorem eU {i:Nat} (h:i<64):idx (cN i)=i:=by unfold idx cN;dsimp only;omega
theorem fq {p:Nat→Bool} {k:Nat} (h:p k=true):((List.range (k+1)).filter p).map cN=((List.range k).filter p).map cN++[cN k]:=by
 rw[List.range_succ,List.filter_append,List.map_append];simp [h]
theorem gu {p:Nat→Bool} {k:Nat} (h:p k=false):((List.range (k+1)).filter p).map cN=((List.range k).filter p).map cN:=by
 rw[List.range_succ,List.filter_append,List.map_append];simp [h]
theorem nq (p:Nat→Bool) (k:Nat):(((List.range k).filter p).map cN).length≤k:=by
 rw[List.length_map];exact Nat.le_trans (List.length_filter_le _ _) (by simp)
def nbr (a b:Cel):Bool:=okc a.x a.y&&okc b.x b.y&&decide (nQ (a.x-b.x)+nQ (a.y-b.y)=1)
theorem wg (z:Int):(nQ z=z∨nQ z= -z)∧0≤nQ z:=by unfold nQ;split<;>omega
theorem mL {a b:Int}:decide (a*a+b*b=1)=decide (nQ a+nQ b=1):=by
 have key:∀ z:Int,z*z=nQ z*nQ z:=fun z=>by
  rcases(wg z).1 with h |h
  ·rw[h]
  ·rw[h,Int.neg_mul_neg]
 rw[key a,key b,Bool.eq_iff_iff,decide_eq_true_eq,decide_eq_true_eq]
 have h1:=(wg a).2
 have h2:=(wg b).2
 generalize nQ a=p at*
 generalize nQ b=q at*
 constructor
 ·intro h
  have hp:p≤1:=by
   rcases Int.lt_or_le 1 p with h3 |h3
   ·have:p*2≤p*p:=Int.mul_le_mul_of_nonneg_left (by omega) h1
    have:0≤q*q:=Int.mul_nonneg h2 h2
    omega
   ·exact h3
  have hq:q≤1:=by
   rcases Int.lt_or_le 1 q with h3 |h3
   ·have:q*2≤q*q:=Int.mul_le_mul_of_nonneg_left (by omega) h2
    have:0≤p*p:=Int.mul_nonneg h1 h1
    omega
   ·exact h3
  have e1:p=0∨p=1:=by omega
  have e2:q=0∨q=1:=by omega
  rcases e1 with rfl |rfl<;>rcases e2 with rfl |rfl<;>omega
 ·intro h
  have e1:p=0∨p=1:=by omega
  rcases e1 with rfl |rfl
  ·have:q=1:=by omega
   subst this;rfl
  ·have:q=0:=by omega
   subst this;rfl
theorem gb {d:Int} (h1: -7≤d) (h2:d≤7):0≤d*d∧d*d≤49:=by
 have:d= -7∨d= -6∨d= -5∨d= -4∨d= -3∨d= -2∨d= -1∨d=0∨d=1∨d=2∨d=3∨d=4∨d=5∨d=6∨d=7:=by omega
 rcases this with rfl |rfl |rfl |rfl |rfl |rfl |rfl |rfl |rfl |rfl |rfl |rfl |rfl |rfl |rfl<;>omega
def four (c:Cel):List Cel:=[⟨c.x,c.y-1⟩,⟨c.x-1,c.y⟩,⟨c.x+1,c.y⟩,⟨c.x,c.y+1⟩]
def nbs (c:Cel):List Cel:=if okc c.x c.y then(four c).filter (fun z=>okc z.x z.y)else []
theorem wq:∀ i,i<64→((List.range 64).filter (fun k=>nbr (cN i) (cN k))).map cN=nbs (cN i):=by decide+kernel
theorem xN (c:Cel):((List.range 64).filter (fun k=>nbr c (cN k))).map cN=nbs c:=by
 by_cases h:okc c.x c.y=true
 ·have:=wq (idx c) (eV h)
  rwa [pU h]at this
 ·simp only[Bool.not_eq_true]at h
  have e:(fun k=>nbr c (cN k))=fun _=>false:=by funext k;unfold nbr;rw[h];rfl
  rw[e];unfold nbs;rw[h];simp
theorem mF {p:Cel→Bool} {l:List Cel} {k:Nat} (h:k<l.length) (hp:p (gC l k)=true):(l.take (k+1)).filter p=(l.take k).filter p++[gC l k]:=by
 rw[List.take_succ_eq_append_getElem h,List.filter_append,←gk h];simp [hp]
theorem oE {p:Cel→Bool} {l:List Cel} {k:Nat} (h:k<l.length) (hp:p (gC l k)=false):(l.take (k+1)).filter p=(l.take k).filter p:=by
 rw[List.take_succ_eq_append_getElem h,List.filter_append,←gk h];simp [hp]
theorem uu (p:Cel→Bool) (l:List Cel) (k:Nat):((l.take k).filter p).length≤k:=by
 have:=List.length_filter_le p (l.take k);simp at this⊢;omega
theorem Hr (c:Cel):(nbs c).length≤4:=by
 unfold nbs;split
 ·exact Nat.le_trans (List.length_filter_le _ _) (by simp [four])
 ·simp
def bM (s:Nat):List Cel:=((List.range 64).filter s.testBit).map cN
theorem wD (s:Nat):(bM s).length≤64:=nq _ 64
def nw (s:Nat) (c:Cel):Nat:=s|||2^ (idx c)
def delC (s:Nat) (c:Cel):Nat:=andn s (2^ (idx c))
theorem mC {s:Nat} (hs:s<18446744073709551616) {c:Cel} (h:okc c.x c.y=true):nw s c<18446744073709551616:=qm 64 hs (nu (eV h))
theorem Ab {s:Nat} (hs:s<18446744073709551616) (c:Cel):delC s c<18446744073709551616:=ff hs
theorem jj (s:Nat) (c:Cel) (i:Nat):(nw s c).testBit i=(s.testBit i||decide (idx c=i)):=by
 unfold nw;rw[Nat.testBit_or,Nat.testBit_two_pow]
def bO (s:Nat) (c:Cel):Bool:=okc c.x c.y&&s.testBit (idx c)
def gd (l:List Cel):Nat:=l.foldl nw 0
theorem ud {l:List Cel} (h:∀ c∈l,okc c.x c.y=true):∀ s,s<18446744073709551616→l.foldl nw s<18446744073709551616:=by
 induction l with
 | nil=>intro s hs;exact hs
 | cons c l ih=>intro s hs;exact ih (fun c hc=>h c (by simp [hc])) _ (mC hs (h c (by simp)))
theorem wG {l:List Cel} (h:∀ c∈l,okc c.x c.y=true):gd l<18446744073709551616:=ud h 0 (by decide)
theorem sA (l:List Cel):∀ s i,(l.foldl nw s).testBit i=(s.testBit i||decide (∃ c∈l,idx c=i)):=by
  induction l with
  | nil=>intro s i;simp
  | cons c l ih=>
    intro s i
    rw[List.foldl_cons,ih,jj,Bool.or_assoc]
    congr 1
    rw[Bool.eq_iff_iff];simp
theorem FF (l:List Cel) (i:Nat):(gd l).testBit i=decide (∃ c∈l,idx c=i):=by
 unfold gd;rw[sA];simp
def bj (l:List Int):Bool:=decide (l.length≤8)&&fE l 0 255
theorem ez {l:List Int} (h:bj l=true):l.length≤8∧∀ k,k<l.length→0≤gI l k∧gI l k≤255:=by
 unfold bj fE at h
 simp only[Bool.and_eq_true,decide_eq_true_eq,List.all_eq_true]at h
 exact⟨h.1,fun k hk=>by rw[dh hk];exact bP.1 (h.2 _ (List.getElem_mem hk))⟩
def rs (l:List Int):Nat→Nat
 | 0=>0
 | k+1=>rs l k|||((gI l k).toNat<<<(8*k))
def ao (l:List Int):Nat:=rs l l.length
theorem AX {a k:Nat} (ha:a≤255) (hk:k<8):a<<<(8*k)<2^ (8*(k+1)):=by
 rw[Nat.shiftLeft_eq]
 have e:8*(k+1)=8*k+8:=by omega
 rw[e,Nat.pow_add,Nat.mul_comm]
 exact Nat.mul_lt_mul_of_pos_left (by omega) (Nat.two_pow_pos _)
theorem Kw {l:List Int} (h:bj l=true) {k:Nat} (hk:k≤l.length):rs l k<2^ (8*k):=by
  obtain⟨h8,hr⟩:=ez h
  induction k with
  | zero=>simp [rs]
  | succ k ih=>
    have:=hr k (by omega)
    unfold rs
    refine Nat.or_lt_two_pow ?_ (AX (by omega) (by omega))
    exact Nat.lt_of_lt_of_le (ih (by omega)) (Nat.pow_le_pow_right (by decide) (by omega))
theorem Jg {l:List Int} (h:bj l=true) {k:Nat} (hk:k≤l.length):rs l k<18446744073709551616:=by
 obtain⟨h8,_⟩:=ez h
 exact Nat.lt_of_lt_of_le (Kw h hk) (Nat.pow_le_pow_right (n:=2) (by decide) (by omega:8*k≤64))
theorem Jh {a k:Nat} (ha:a≤255) (hk:k<8):a<<<(8*k)<18446744073709551616:=
 Nat.lt_of_lt_of_le (AX ha hk) (Nat.pow_le_pow_right (n:=2) (by decide) (by omega:8*(k+1)≤64))
theorem dr {l:List Int} (h:bj l=true):ao l<18446744073709551616:=Jg h (Nat.le_refl _)
theorem Ia {a:Nat} (ha:a≤255) {x:Nat} (hx:8≤x):a.testBit x=false:=
 Nat.testBit_lt_two_pow (Nat.lt_of_lt_of_le (show a<2^ 8 by omega) (Nat.pow_le_pow_right (by decide) hx))
theorem Kv {l:List Int} (h:bj l=true) {k:Nat} (hk:k≤l.length) (x y:Nat) (hx:x<8):(rs l k).testBit (8*y+x)=(decide (y<k)&&(gI l y).toNat.testBit x):=by
  obtain⟨h8,hr⟩:=ez h
  induction k with
  | zero=>simp [rs]
  | succ k ih=>
    have hb:=hr k (by omega)
    unfold rs
    rw[Nat.testBit_or,ih (by omega),Nat.testBit_shiftLeft]
    rcases Nat.lt_trichotomy y k with hlt |rfl |hgt
    · have e1:decide (8*y+x≥8*k)=false:=by simp;omega
      rw[e1];simp [hlt,show y<k+1 by omega]
    · have e1:8*y+x-8*y=x:=by omega
      rw[e1];simp
    · have e1:(gI l k).toNat.testBit (8*y+x-8*k)=false:=Ia (by omega) (by omega)
      rw[e1]
      have n1:¬y<k:=by omega
      have n2:¬y<k+1:=by omega
      simp [n1,n2]
def cu (l:List Int) (c:Cel):Bool:=decide (c.y<l.length)&&(gI l c.y.toNat).toNat.testBit c.x.toNat
theorem gZ {l:List Int} (h:bj l=true) {c:Cel} (hc:okc c.x c.y=true):(ao l).testBit (idx c)=cu l c:=by
 have hq:=bL.1 hc
 have e:idx c=8*c.y.toNat+c.x.toNat:=by unfold idx;omega
 unfold ao
 rw[e,Kv h (Nat.le_refl _) _ _ (by omega)]
 unfold cu
 congr 1
 rw[Bool.eq_iff_iff];simp;omega
def gA (l:List Int) (c:Cel):Bool:=bj l&&(okc c.x c.y&&(ao l).testBit (idx c))
theorem BI {l:List Int} {c:Cel} (h:bj l=true) (hc:okc c.x c.y=true):cu l c=gA l c:=by unfold gA;rw[h,hc,gZ h hc];rfl
def cellsOf (l:List Int):List Cel:=if bj l then bM (ao l)else []
theorem lO (l:List Int):(cellsOf l).length≤64:=by unfold cellsOf;split;exact wD _;simp
theorem vS {l:List Int} (h:bj l=true):((List.range 64).filter (fun k=>cu l (cN k))).map cN=cellsOf l:=by
 unfold cellsOf bM;rw[h,if_pos rfl]
 congr 1
 refine List.filter_congr fun k hk=> ?_
 have hk:k<64:=by simpa using hk
 rw[←gZ h (fP hk),eU hk]
theorem qi {l:List Cel} {k:Nat} (h:k<l.length):gC l k∈l:=by rw[gk h];exact List.getElem_mem h
theorem uT:∀ (a b:Int),Tryz.prog.built 70 [(0,.int .i64 a),(1,.int .i64 b)]=some ([.int .i64 a,.int .i64 b]:List Value).toArray:=fun _ _=>rfl
theorem jL:bK Tryz.prog 70 0=some 0:=by kernel_rfl
theorem jM:bK Tryz.prog 70 1=some 1:=by kernel_rfl
theorem il:TI Tryz.prog 3 false 1:=⟨⟨_,Tryz.underlying3,rfl⟩,by kernel_rfl⟩
theorem fk:TI Tryz.prog 70 true 2:=⟨⟨_,Tryz.underlying70,rfl⟩,by kernel_rfl⟩
theorem uU:ZI Tryz.prog 70 (.agg #[.int .i64 0,.int .i64 0]) 2 16:=by unfold ZI;kernel_rfl
theorem sF (a b c:Int):Fn Tryz.prog 61 [.a (.val (.int .i64 a)),.a (.val (.int .i64 b)),.a (.val (.int .i64 c))] [.val (.bool (inB a b c))]:=by
  refine⟨⟨_,Tryz.func61,by kernel_rfl,by kernel_rfl⟩,fun w args h=> ?_⟩
  match args,dK.1 h with
  | [u0,u1,u2],⟨h0,h1,h2,_⟩=>
    obtain rfl:=kM h0
    obtain rfl:=kM h1
    obtain rfl:=kM h2
    refine Calls.mono (mB a b c w) ?_
    rintro e w' ⟨rfl,rfl⟩
    exact⟨_,rfl,rfl,Below.refl _ _⟩
theorem cd (a b c:Int):Fn Tryz.prog 59 [.a (.val (.int .i64 a)),.a (.val (.int .i64 b)),.a (.val (.int .i64 c))] [.val (.bool (inB a b c))]:=by
  refine⟨⟨_,Tryz.func59,by kernel_rfl,by kernel_rfl⟩,fun w args h=> ?_⟩
  match args,dK.1 h with
  | [u0,u1,u2],⟨h0,h1,h2,_⟩=>
    obtain rfl:=kM h0
    obtain rfl:=kM h1
    obtain rfl:=kM h2
    refine Calls.mono (mN a b c w) ?_
    rintro e w' ⟨rfl,rfl⟩
    exact⟨_,rfl,rfl,Below.refl _ _⟩
theorem oQ (l:List Int) (a b:Int) (hl:l.length≤4194304):Fn Tryz.prog 107 [.a (.slv l.length 1 (isl l)),.a (.val (.int .i64 a)),.a (.val (.int .i64 b))] [.val (.bool (fE l a b))]:=by
  refine⟨⟨_,Tryz.func107,by kernel_rfl,by kernel_rfl⟩,fun w args h=> ?_⟩
  match args,dK.1 h with
  | [u0,u1,u2],⟨h0,h1,h2,_⟩=>
    obtain⟨A0,c0,rfl,hc0,hr0⟩:=jZ h0
    obtain rfl:=kM h1
    obtain rfl:=kM h2
    refine Calls.mono (wZ l A0 l.length c0 a b w hr0 hl) ?_
    rintro e w' ⟨rfl,rfl⟩
    exact⟨_,rfl,rfl,Below.refl _ _⟩
theorem jl (c:Cel):Fn Tryz.prog 112 [.agg ([vI c.x,vI c.y].map A.val)] [.val (.bool (okc c.x c.y))]:=by
  refine⟨⟨_,Tryz.func112,by kernel_rfl,by kernel_rfl⟩,fun w args h=> ?_⟩
  match args,dK.1 h with
  | [u0],⟨h0,_⟩=>
    obtain rfl:=jE h0
    refine Calls.mono (lN c.x c.y w) ?_
    rintro e w' ⟨rfl,hb⟩
    exact⟨_,rfl,rfl,hb⟩
theorem bB (c:Cel):Fn Tryz.prog 78 [.agg ([vI c.x,vI c.y].map A.val)] [.val (.bool (okc c.x c.y))]:=by
  refine⟨⟨_,Tryz.func78,by kernel_rfl,by kernel_rfl⟩,fun w args h=> ?_⟩
  match args,dK.1 h with
  | [u0],⟨h0,_⟩=>
    obtain rfl:=jE h0
    refine Calls.mono (qP c.x c.y w) ?_
    rintro e w' ⟨rfl,hb⟩
    exact⟨_,rfl,rfl,hb⟩
theorem jJ (c:Cel) (hc:okc c.x c.y=true):Fn Tryz.prog 118 [.agg ([vI c.x,vI c.y].map A.val)] [.val (.int .i64 (((idx c):Nat):Int))]:=by
 have hq:=bL.1 hc
 refine bm (N:=12) Tryz.func118 rfl (by kernel_rfl) rfl (Nat.le_of_ble_eq_true rfl) [1,4] (dN rfl) (fun W=> ?_)
 show Wp _ _ _ [kV 0 (V.av [vI c.x,vI c.y]),kF 1,kF 4]
 refine sq (rg ?_)
 refine z ?_ (h:=fun Z=>bo (h:=1) Z xt (by exact ob1 rfl))
 refine zk (nl (sq (sq (rg ?_))))
 refine z ?_ (h:=fun Z=>ab (xs:=[vI c.x,vI c.y].map A.val) Z fk rfl (by decide) rfl)
 refine z ?_ (h:=fun Z=>ag Z (jl c ) (ac (ArgV.va va) an) (bi (congrArg Value.bool hc)))
 refine z ?_ (h:=fun Z=>bn Z vt (bS (c:=false) rfl))
 refine nl (wf (sk (sq (rg ?_))))
 refine z ?_ (h:=fun Z=>aq (off':=1) Z jM rfl)
 refine z ?_ (h:=fun Z=>ah (x:= .val (.int .i64 c.y)) Z il (by exact rfl))
 refine z ?_ (h:=fun Z=>aa Z vt vc rM)
 refine z ?_ (h:=fun Z=>aq (off':=0) Z jL rfl)
 refine z ?_ (h:=fun Z=>ah (x:= .val (.int .i64 c.x)) Z il (by exact rfl))
 refine z ?_ (h:=fun Z=>aa Z vt vt rA)
 refine za (nl (aC ?_))
 exact VRes.tmp _ _ _ (by exact rfl) (ce (congrArg (Value.int .i64) (by exact Ei hc)))
theorem gy (c:Cel) (hc:okc c.x c.y=true):Fn Tryz.prog 104 [.agg ([vI c.x,vI c.y].map A.val)] [.val (.int .i64 (((idx c):Nat):Int))]:=by
 have hq:=bL.1 hc
 refine bm (N:=12) Tryz.func104 rfl (by kernel_rfl) rfl (Nat.le_of_ble_eq_true rfl) [1,4] (dN rfl) (fun W=> ?_)
 show Wp _ _ _ [kV 0 (V.av [vI c.x,vI c.y]),kF 1,kF 4]
 refine sq (rg ?_)
 refine z ?_ (h:=fun Z=>bo (h:=1) Z xt (by exact ob1 rfl))
 refine zk (nl (sq (sq (rg ?_))))
 refine z ?_ (h:=fun Z=>ab (xs:=[vI c.x,vI c.y].map A.val) Z fk rfl (by decide) rfl)
 refine z ?_ (h:=fun Z=>ag Z (bB c ) (ac (ArgV.va va) an) (bi (congrArg Value.bool hc)))
 refine z ?_ (h:=fun Z=>bn Z vt (bS (c:=false) rfl))
 refine nl (wf (sk (sq (rg ?_))))
 refine z ?_ (h:=fun Z=>aq (off':=1) Z jM rfl)
 refine z ?_ (h:=fun Z=>ah (x:= .val (.int .i64 c.y)) Z il (by exact rfl))
 refine z ?_ (h:=fun Z=>aa Z vt vc rM)
 refine z ?_ (h:=fun Z=>aq (off':=0) Z jL rfl)
 refine z ?_ (h:=fun Z=>ah (x:= .val (.int .i64 c.x)) Z il (by exact rfl))
 refine z ?_ (h:=fun Z=>aa Z vt vt rA)
 refine za (nl (aC ?_))
 exact VRes.tmp _ _ _ (by exact rfl) (ce (congrArg (Value.int .i64) (by exact Ei hc)))
theorem lX (i:Nat) (hi:i<64):Fn Tryz.prog 71 [.a (.val (.int .i64 ((i:Nat):Int)))] [.val (.agg ([.int .i64 (cN i).x,.int .i64 (cN i).y]:List Value).toArray)]:=by
 refine bm (N:=8) Tryz.func71 rfl (by kernel_rfl) rfl (Nat.le_of_ble_eq_true rfl) [2] (dN rfl) (fun W=> ?_)
 show Wp _ _ _ [kI 0 ((i:Nat):Int),kF 2]
 refine sq (rg ?_)
 refine z ?_ (h:=fun Z=>aL (h:=2) (cap:=1) (s:=2) (cells:=[aI 0,aI 0]) Z uU rfl rfl (by decide))
 refine nl (sq (rg (zm ?_)))
 refine z ?_ (h:=fun Z=>aa Z vt vc (tw (c:=(((i%8):Nat):Int)) (by decide) (remN (a:=((i:Nat):Int)) (b:=i) (c:=8) rfl)))
 refine zm ?_
 refine z ?_ (h:=fun Z=>aa Z vt vc (AP (c:=(((i/8):Nat):Int)) (by decide) (quoN (a:=((i:Nat):Int)) (b:=i) (c:=8) rfl (by decide) (by omega))))
 refine z ?_ (h:=fun Z=>bC Z uT vt vt)
 refine z ?_ (h:=fun _=>aE (cells:=[aI (((i%8):Nat):Int),aI (((i/8):Nat):Int)]) fk xt (by exact rfl) (by decide) (by exact ob1 rfl) (by exact Nat.le_of_ble_eq_true rfl) (by exact rfl))
 refine nl (aC ?_)
 exact VRes.cells 2 70 2 ⟨70,2,true,[aI (((i%8):Nat):Int),aI (((i/8):Nat):Int)]⟩ _ (by kernel_rfl) (by kernel_rfl) fk (Nat.le_of_ble_eq_true rfl) (pQ (vs:=[vI (((i%8):Nat):Int),vI (((i/8):Nat):Int)]) (by rfl))
theorem gx (i:Nat) (hi:i<64):Fn Tryz.prog 68 [.a (.val (.int .i64 ((i:Nat):Int)))] [.val (.agg ([.int .i64 (cN i).x,.int .i64 (cN i).y]:List Value).toArray),.val (.bool true)]:=by
 have hin:inB ((i:Nat):Int) 0 63=true:=bP.2 (by omega)
 refine bm (N:=13) Tryz.func68 rfl (by kernel_rfl) rfl (Nat.le_of_ble_eq_true rfl) [2,5] (ret2 rfl rfl (by intro u hu;injection hu with hu;subst hu;rfl)) (fun W=> ?_)
 show Wp _ _ _ [kI 0 ((i:Nat):Int),kF 2,kF 5]
 refine sq (rg ?_)
 refine z ?_ (h:=fun Z=>aL (h:=2) (cap:=1) (s:=2) (cells:=[aI 0,aI 0]) Z uU rfl rfl (by decide))
 refine zk (nl (sq (sq (rg (zm ?_)))))
 refine z ?_ (h:=fun Z=>ag Z (cd ((i:Nat):Int) 0 63 ) (ac (ArgV.v vt) (ac (ArgV.v vc) (ac (ArgV.v vc) an))) (bi (congrArg Value.bool hin)))
 refine z ?_ (h:=fun Z=>bn Z vt (bS (c:=false) rfl))
 refine nl (wf (sk (sq (rg (zm ?_)))))
 refine z ?_ (h:=fun Z=>aa Z vt vc (tw (c:=(((i%8):Nat):Int)) (by decide) (remN (a:=((i:Nat):Int)) (b:=i) (c:=8) rfl)))
 refine zm ?_
 refine z ?_ (h:=fun Z=>aa Z vt vc (AP (c:=(((i/8):Nat):Int)) (by decide) (quoN (a:=((i:Nat):Int)) (b:=i) (c:=8) rfl (by decide) (by omega))))
 refine z ?_ (h:=fun Z=>bC Z uT vt vt)
 refine z ?_ (h:=fun _=>aE (cells:=[aI (((i%8):Nat):Int),aI (((i/8):Nat):Int)]) fk xt (by exact rfl) (by decide) (by exact ob1 rfl) (by exact Nat.le_of_ble_eq_true rfl) (by exact rfl))
 refine zk (nl (aC ?_))
 exact⟨VRes.cells 2 70 2 ⟨70,2,true,[aI (((i%8):Nat):Int),aI (((i/8):Nat):Int)]⟩ _ (by kernel_rfl) (by kernel_rfl) fk (Nat.le_of_ble_eq_true rfl) (pQ (vs:=[vI (((i%8):Nat):Int),vI (((i/8):Nat):Int)]) (by rfl)),VRes.tmp _ _ _ (by exact rfl) (BRes.val _)⟩
theorem mu (a b:Cel):Fn Tryz.prog 120 [.agg ([vI a.x,vI a.y].map A.val),.agg ([vI b.x,vI b.y].map A.val)] [.val (.bool (nbr a b))]:=by
 refine bm (N:=33) Tryz.func120 rfl (by kernel_rfl) rfl (Nat.le_of_ble_eq_true rfl) [2,3,8,12] (dN rfl) (fun W=> ?_)
 show Wp _ _ _ [kV 0 (V.av [vI a.x,vI a.y]),kV 1 (V.av [vI b.x,vI b.y]),kF 2,kF 3,kF 8,kF 12]
 refine sq (rg ?_)
 refine z ?_ (h:=fun Z=>bo (h:=2) Z xt (by exact ob1 rfl))
 refine z ?_ (h:=fun Z=>bo (h:=3) Z xt (by exact ob1 rfl))
 refine zk (nl (sq (sq ?_)))
 rcases Bool.eq_false_or_eq_true ((okc a.x a.y))with c1 |c1
 ·skip
  have c1Q:=bL.1 c1
  refine rg ?_
  refine z ?_ (h:=fun Z=>ab (xs:=[vI a.x,vI a.y].map A.val) Z fk rfl (by decide) rfl)
  refine z ?_ (h:=fun Z=>ag Z (bB a ) (ac (ArgV.va va) an) (bi (congrArg Value.bool c1)))
  refine z ?_ (h:=fun Z=>bn Z vt (bS (c:=false) rfl))
  refine zm ?_
  refine zg ?_ (h:=fun Z=>ae rfl rfl (ab (xs:=[vI b.x,vI b.y].map A.val) Z fk rfl (by decide) rfl))
  refine zg ?_ (h:=fun Z=>ae rfl rfl (ag Z (bB b ) (ac (ArgV.va va) an) rv))
  refine zg ?_ (h:=fun Z=>ae rfl rfl (bn Z vt (bS rfl)))
  refine z ?_ (h:=fun Z=>ar Z vt xt)
  refine nl ?_
  refine wi (b:=(!(okc b.x b.y))) (fun c2=> ?_) (fun c2=> ?_)
  ·skip
   have c3:(okc b.x b.y)=false:=by first |(rw[←Bool.not_eq_true'];exact c2) |simpa using c2
   have c3Q:=mP.1 c3
   refine sq (rg (zk (nl (aC ?_))))
   exact VRes.tmp _ _ _ (by exact rfl) (ce (congrArg Value.bool (by first |(simp_all [nbr];done) |(unfold nbr;simp_all [mL];done) |(unfold nbr;rw[mL];simp_all;done))))
  ·skip
   have c4:(okc b.x b.y)=true:=by first |(rw[←Bool.not_eq_false'];exact c2) |simpa using c2
   have c4Q:=bL.1 c4
   refine sk (sq (rg ?_))
   refine z ?_ (h:=fun Z=>aq (off':=0) Z jL rfl)
   refine z ?_ (h:=fun Z=>ah (x:= .val (.int .i64 a.x)) Z il (by exact rfl))
   refine z ?_ (h:=fun Z=>aq (off':=0) Z jL rfl)
   refine z ?_ (h:=fun Z=>ah (x:= .val (.int .i64 b.x)) Z il (by exact rfl))
   refine z ?_ (h:=fun Z=>aa Z vt vt (rS (by first |omega |(have q1:=@gb (a.x-b.x) (by omega) (by omega);have q2:=@gb (a.y-b.y) (by omega) (by omega);omega)) (by first |omega |(have q1:=@gb (a.x-b.x) (by omega) (by omega);have q2:=@gb (a.y-b.y) (by omega) (by omega);omega))))
   refine za (nl (sq (rg ?_)))
   refine z ?_ (h:=fun Z=>aq (off':=1) Z jM rfl)
   refine z ?_ (h:=fun Z=>ah (x:= .val (.int .i64 a.y)) Z il (by exact rfl))
   refine z ?_ (h:=fun Z=>aq (off':=1) Z jM rfl)
   refine z ?_ (h:=fun Z=>ah (x:= .val (.int .i64 b.y)) Z il (by exact rfl))
   refine z ?_ (h:=fun Z=>aa Z vt vt (rS (by first |omega |(have q1:=@gb (a.x-b.x) (by omega) (by omega);have q2:=@gb (a.y-b.y) (by omega) (by omega);omega)) (by first |omega |(have q1:=@gb (a.x-b.x) (by omega) (by omega);have q2:=@gb (a.y-b.y) (by omega) (by omega);omega))))
   refine za (nl (sq (rg (zm (zm ?_)))))
   refine z ?_ (h:=fun Z=>aa Z vt vt (rM (by first |omega |(have q1:=@gb (a.x-b.x) (by omega) (by omega);have q2:=@gb (a.y-b.y) (by omega) (by omega);omega)) (by first |omega |(have q1:=@gb (a.x-b.x) (by omega) (by omega);have q2:=@gb (a.y-b.y) (by omega) (by omega);omega))))
   refine zm (zm ?_)
   refine z ?_ (h:=fun Z=>aa Z vt vt (rM (by first |omega |(have q1:=@gb (a.x-b.x) (by omega) (by omega);have q2:=@gb (a.y-b.y) (by omega) (by omega);omega)) (by first |omega |(have q1:=@gb (a.x-b.x) (by omega) (by omega);have q2:=@gb (a.y-b.y) (by omega) (by omega);omega))))
   refine z ?_ (h:=fun Z=>aa Z vt vt (rA (by first |omega |(have q1:=@gb (a.x-b.x) (by omega) (by omega);have q2:=@gb (a.y-b.y) (by omega) (by omega);omega)) (by first |omega |(have q1:=@gb (a.x-b.x) (by omega) (by omega);have q2:=@gb (a.y-b.y) (by omega) (by omega);omega))))
   refine z ?_ (h:=fun Z=>aa Z vt vc (ct rfl))
   refine za (nl (aC ?_))
   exact VRes.tmp _ _ _ (by exact rfl) (ce (congrArg Value.bool (by first |(simp_all [nbr];done) |(unfold nbr;simp_all [mL];done) |(unfold nbr;rw[mL];simp_all;done))))
 ·skip
  have c1Q:=mP.1 c1
  refine rg ?_
  refine z ?_ (h:=fun Z=>ab (xs:=[vI a.x,vI a.y].map A.val) Z fk rfl (by decide) rfl)
  refine z ?_ (h:=fun Z=>ag Z (bB a ) (ac (ArgV.va va) an) (bi (congrArg Value.bool c1)))
  refine z ?_ (h:=fun Z=>bn Z vt (bS (c:=true) rfl))
  refine zm (zo (zo (zo ?_)))
  refine z ?_ (h:=fun Z=>au Z vt xc)
  refine nl (wt (sq (rg (zk (nl (aC ?_))))))
  exact VRes.tmp _ _ _ (by exact rfl) (ce (congrArg Value.bool (by first |(simp_all [nbr];done) |(unfold nbr;simp_all [mL];done) |(unfold nbr;rw[mL];simp_all;done))))
end Cl
end Go.Proofs.YtgmkkfdnmdohlaaGreatDoor
