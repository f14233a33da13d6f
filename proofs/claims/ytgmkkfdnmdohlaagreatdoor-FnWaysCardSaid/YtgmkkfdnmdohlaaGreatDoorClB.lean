/- Parts put together: Cl13, Cl14, Cl15, Cl16, Cl17, Cl18, Cl19, Cl20, Cl21, Cl22, Cl23, Cl24, Cl25, Cl26, Cl27. -/
import Derived.Test.YtgmkkfdnmdohlaaGreatDoorClA
set_option linter.unusedSimpArgs false
set_option linter.unusedVariables false
namespace Go.Proofs.YtgmkkfdnmdohlaaGreatDoor
namespace Cl
theorem rj {a:Int} {n:Nat} (h:a=(n:Int)) (hn:n<18446744073709551616):(BitVec.ofInt 64 a).toNat=n:=by
 subst h
 simp [BitVec.toNat_ofInt];omega
theorem qI {n:Nat} (hn:n<18446744073709551616):IntKind.u64.wrap (n:Int)=(n:Int):=by
 have e:IntKind.u64.wrap (n:Int)=(n:Int)%18446744073709551616:=by
  simp only[IntKind.wrap,IntKind.signed,IntKind.bits]
  simp
 rw[e];omega
theorem ox {n:Nat} (hn:n<9223372036854775808):IntKind.i64.wrap (n:Int)=(n:Int):=w64 (by omega) (by omega)
theorem nU {a b m:Nat} (ha:a<m):a&&&b<m:=Nat.lt_of_le_of_lt Nat.and_le_left ha
theorem qm {a b:Nat} (n:Nat) (ha:a<2^ n) (hb:b<2^ n):a|||b<2^ n:=Nat.or_lt_two_pow ha hb
theorem andU {a b:Int} {m n:Nat} (ha:a=(m:Int)) (hb:b=(n:Int)) (hm:m<18446744073709551616) (hn:n<18446744073709551616):IntKind.u64.wrap ((BitVec.ofInt IntKind.u64.bits a)&&&(BitVec.ofInt IntKind.u64.bits b)).toNat=((m&&&n:Nat):Int):=by
 have e1:(BitVec.ofInt IntKind.u64.bits a).toNat=m:=rj ha hm
 have e2:(BitVec.ofInt IntKind.u64.bits b).toNat=n:=rj hb hn
 rw[BitVec.toNat_and,e1,e2];exact qI (nU hm)
theorem orU {a b:Int} {m n:Nat} (ha:a=(m:Int)) (hb:b=(n:Int)) (hm:m<18446744073709551616) (hn:n<18446744073709551616):IntKind.u64.wrap ((BitVec.ofInt IntKind.u64.bits a)|||(BitVec.ofInt IntKind.u64.bits b)).toNat=((m|||n:Nat):Int):=by
 have e1:(BitVec.ofInt IntKind.u64.bits a).toNat=m:=rj ha hm
 have e2:(BitVec.ofInt IntKind.u64.bits b).toNat=n:=rj hb hn
 rw[BitVec.toNat_or,e1,e2];exact qI (qm 64 hm hn)
theorem pN {a b:Int} {m n:Nat} (ha:a=(m:Int)) (hb:b=(n:Int)) (hm:m<9223372036854775808) (hn:n<9223372036854775808):IntKind.i64.wrap ((BitVec.ofInt IntKind.i64.bits a)&&&(BitVec.ofInt IntKind.i64.bits b)).toNat=((m&&&n:Nat):Int):=by
 have e1:(BitVec.ofInt IntKind.i64.bits a).toNat=m:=rj ha (by omega)
 have e2:(BitVec.ofInt IntKind.i64.bits b).toNat=n:=rj hb (by omega)
 rw[BitVec.toNat_and,e1,e2];exact ox (nU hm)
theorem orI {a b:Int} {m n:Nat} (ha:a=(m:Int)) (hb:b=(n:Int)) (hm:m<9223372036854775808) (hn:n<9223372036854775808):IntKind.i64.wrap ((BitVec.ofInt IntKind.i64.bits a)|||(BitVec.ofInt IntKind.i64.bits b)).toNat=((m|||n:Nat):Int):=by
 have e1:(BitVec.ofInt IntKind.i64.bits a).toNat=m:=rj ha (by omega)
 have e2:(BitVec.ofInt IntKind.i64.bits b).toNat=n:=rj hb (by omega)
 rw[BitVec.toNat_or,e1,e2];exact ox (qm 63 hm hn)
def andn (m n:Nat):Nat:=m^^^ (m&&&n)
theorem cE (m n i:Nat):(andn m n).testBit i=(m.testBit i&& !(n.testBit i)):=by
 unfold andn
 rw[Nat.testBit_xor,Nat.testBit_and]
 cases m.testBit i<;>cases n.testBit i<;>rfl
theorem ff {m n:Nat} (hm:m<18446744073709551616):andn m n<18446744073709551616:=by
 unfold andn
 exact Nat.xor_lt_two_pow (n:=64) hm (nU hm)
theorem andnU {a b:Int} {m n:Nat} (ha:a=(m:Int)) (hb:b=(n:Int)) (hm:m<18446744073709551616) (hn:n<18446744073709551616):IntKind.u64.wrap ((BitVec.ofInt IntKind.u64.bits a)&&& ~~~(BitVec.ofInt IntKind.u64.bits b)).toNat=((andn m n:Nat):Int):=by
 have e1:(BitVec.ofInt IntKind.u64.bits a).toNat=m:=rj ha hm
 have e2:(BitVec.ofInt IntKind.u64.bits b).toNat=n:=rj hb hn
 have e:((BitVec.ofInt IntKind.u64.bits a)&&& ~~~(BitVec.ofInt IntKind.u64.bits b)).toNat=andn m n:=by
  apply Nat.eq_of_testBit_eq
  intro i
  rw[cE,BitVec.testBit_toNat,BitVec.getLsbD_and,BitVec.getLsbD_not,←BitVec.testBit_toNat,←BitVec.testBit_toNat,e1,e2]
  by_cases hi:i<64
  ·have:i<IntKind.u64.bits:=hi
   simp [this]
  ·have:m.testBit i=false:=Nat.testBit_lt_two_pow (Nat.lt_of_lt_of_le hm (Nat.pow_le_pow_right (n:=2) (by decide) (by omega:64≤i)))
   simp [this]
 rw[e];exact qI (ff hm)
theorem wH {k:IntKind} {a b:Int} {m n:Nat} (ha:a=(m:Int)) (hb:b=(n:Int)) (hn:n<64) (hk:k.bits=64):a.fdiv (2^ (min b.toNat k.bits))=((m>>>n:Nat):Int):=by
 subst ha;subst hb
 rw[hk,Int.toNat_natCast,Nat.min_eq_left (by omega),Nat.shiftRight_eq_div_pow]
 rw[show((2:Int)^ n)=((2^ n:Nat):Int) by simp]
 exact(Int.ofNat_fdiv m (2^ n)).symm
theorem nu {n:Nat} (h:n<64):(2:Nat)^ n<18446744073709551616:=Nat.pow_lt_pow_right (a:=2) (m:=n) (n:=64) (by decide) h
theorem CR {n:Nat} (h:n<63):(2:Nat)^ n<9223372036854775808:=Nat.pow_lt_pow_right (a:=2) (m:=n) (n:=63) (by decide) h
theorem shl1U {b:Int} {n:Nat} (hb:b=(n:Int)) (hn:n<64):IntKind.u64.wrap (1*2^ (min b.toNat IntKind.u64.bits))=((2^ n:Nat):Int):=by
 subst hb
 have e:min ((n:Int)).toNat IntKind.u64.bits=n:=by rw[Int.toNat_natCast];exact Nat.min_eq_left (show n≤64 by omega)
 rw[e,Int.one_mul,show((2:Int)^ n)=((2^ n:Nat):Int) by simp]
 exact qI (nu hn)
theorem kA {b:Int} {n:Nat} (hb:b=(n:Int)) (hn:n<63):IntKind.i64.wrap (1*2^ (min b.toNat IntKind.i64.bits))=((2^ n:Nat):Int):=by
 subst hb
 have e:min ((n:Int)).toNat IntKind.i64.bits=n:=by rw[Int.toNat_natCast];exact Nat.min_eq_left (show n≤64 by omega)
 rw[e,Int.one_mul,show((2:Int)^ n)=((2^ n:Nat):Int) by simp]
 exact ox (CR hn)
theorem shlU {a b:Int} {m n:Nat} (ha:a=(m:Int)) (hb:b=(n:Int)) (hn:n≤64) (hm:m<<<n<18446744073709551616):IntKind.u64.wrap (a*2^ (min b.toNat IntKind.u64.bits))=((m<<<n:Nat):Int):=by
 subst ha;subst hb
 have e:min ((n:Int)).toNat IntKind.u64.bits=n:=by rw[Int.toNat_natCast];exact Nat.min_eq_left (show n≤64 from hn)
 have e2:(m:Int)*(2:Int)^ n=((m<<<n:Nat):Int):=by rw[Nat.shiftLeft_eq];simp
 rw[e,e2]
 exact qI hm
theorem mD (m n:Nat):decide (((m>>>n&&&1:Nat):Int)=1)=m.testBit n:=by
 rw[Bool.eq_iff_iff,decide_eq_true_eq,Nat.testBit,bne_iff_ne]
 have:m>>>n&&&1=1&&&m>>>n:=Nat.and_comm _ _
 rw[this]
 have h2:1&&&m>>>n≤1:=Nat.and_le_left
 omega
theorem oC (m n:Nat):decide (((m>>>n&&&1:Nat):Int)=0)= !(m.testBit n):=by
 rw[←mD,Bool.eq_iff_iff]
 have h2:m>>>n&&&1≤1:=Nat.and_le_right
 simp;omega
theorem w_u64 {z:Int} (h0:0≤z) (h1:z≤18446744073709551615):IntKind.u64.wrap z=z:=by
 obtain⟨n,rfl⟩:=Int.eq_ofNat_of_zero_le h0
 exact qI (by omega)
theorem Jk {z:Int} (h0: -9223372036854775808≤z) (h1:z≤9223372036854775807):IntKind.i64.wrap z=z:=w64 h0 h1
theorem mP {x y:Int}:okc x y=false↔¬((0≤x∧x≤7)∧(0≤y∧y≤7)):=by rw[←bL];simp
theorem jA (s i:Nat):s>>>i≤s:=by rw[Nat.shiftRight_eq_div_pow];exact Nat.div_le_self _ _
end Cl
end Go.Proofs.YtgmkkfdnmdohlaaGreatDoor
namespace Go.Proofs.YtgmkkfdnmdohlaaGreatDoor
namespace Cl
open Go.ChangeShapes Go.WideShapes Go.ChangeAt Go.RowKit
def oD (ρ:Nat→Option Place) (w:World) (os:St) (b:Nat):Prop:=(∃ h o p,get os (.o h)=some (.o o)∧ρ h=some p∧p.live=true∧p.block=b)∨∃ h j T n s xs cap,RowIn os w ρ h j T n s xs b cap
structure Objs (ρ:Nat→Option Place) (I:Nat→Prop) (w:World) (os:St):Prop where
 ow:∀ h o,get os (.o h)=some (.o o)→Own ρ I w h o
 pl:∀ h o p,get os (.o h)=some (.o o)→ρ h=some p→p.live=true→¬I p.block∧p.block<w.heap.size
 inj:∀ h h' p p' o o',get os (.o h)=some (.o o)→get os (.o h')=some (.o o')→ρ h=some p→ρ h'=some p'→p.live=true→p'.live=true→p.block=p'.block→h=h'
 im:∀ b,I b→b<w.heap.size
 rs:Rws os w ρ I
def zU (ρ:Nat→Option Place) (I:Nat→Prop) (w:World) (bs:List B) (args:List Value):Prop:=args.length=bs.length∧∀ (j:Nat) b u,bs[j]? =some b→args[j]? =some u→RelB ρ I w b u
def Da (own:Nat→Prop) (w w':World):Prop:=w'.os=w.os∧w'.tape=w.tape∧w'.output=w.output∧w.heap.size≤w'.heap.size∧∀ b,b<w.heap.size→¬own b→w'.heap[b]? =w.heap[b]?
def Left (ρ:Nat→Option Place) (I:Nat→Prop) (w:World) (os:St) (r:V) (os':St) (keep:List Nat) (u:Value) (w':World):Prop:=
 ∃ ρ' I',(∀ h,h∈keep→ρ' h=ρ h)∧Objs ρ' I' w' os'∧RelV ρ' I' w' r u∧(∀ b,I' b→I b∨oD ρ w os b∨w.heap.size≤b)∧(∀ b,oD ρ' w' os' b→oD ρ w os b∨w.heap.size≤b)∧Da (oD ρ w os) w w'
def FnO (P:Program) (f:Nat) (bs:List B) (os:St) (r:V) (os':St) (keep:List Nat):Prop:=
 ji P f∧∀ w args ρ I,Objs ρ I w os→zU ρ I w bs args→Calls P f args.toArray w fun e w'=>∃ u,e= .returned u∧Left ρ I w os r os' keep u w'
def iw:St→Bool
 | []=>true
 | (.o _,some (.o _))::r=>iw r
 | _=>false
theorem Ki {os:St} (h:iw os=true) (k:Nat):get os (.s k)=none:=by
  induction os with
  | nil=>rfl
  | cons a r ih=>
    match a,h with
    | (.o x,some (.o o)),h=>rw[bf (by rfl)];exact ih h
theorem HA {os:St} (h:iw os=true) (k:Nat):has os (.s k)=false:=by
  induction os with
  | nil=>rfl
  | cons a r ih=>
    match a,h with
    | (.o x,some (.o o)),h=>simp only[has];rw[ih h];rfl
theorem wy {os:St} (h:iw os=true) {x:Nat} (hx:has os (.o x)=true):∃ o,get os (.o x)=some (.o o):=by
  induction os with
  | nil=>cases hx
  | cons a r ih=>
    match a,h with
    | (.o y,some (.o o)),h=>
      simp only[has,get]at hx⊢
      rcases Bool.eq_false_or_eq_true (Key.eq (.o y) (.o x))with e |e
      · rw[e];exact⟨o,rfl⟩
      · rw[e]at hx⊢;exact ih h (by simpa using hx)
theorem cW {os:St} {k:Key} {c:Cell} (h:get os k=some c):has os k=true:=by
  induction os with
  | nil=>cases h
  | cons a r ih=>
    obtain⟨k',c'⟩:=a
    simp only[has,get]at h⊢
    rcases Bool.eq_false_or_eq_true (Key.eq k' k)with e |e
    · rw[e];rfl
    · rw[e]at h⊢;exact ih h
def iniO (bs:List B) (os:St) (free:List Nat):St:=(bs.zipIdx.map fun x=>(Key.s x.2,some (Cell.s (.b x.1))))++(os++free.map fun h=>(Key.o h,some Cell.free))
theorem Im (l:List (B × Nat)) (h:Nat):has (l.map fun x=>(Key.s x.2,some (Cell.s (.b x.1)))) (.o h)=false:=by
 induction l with
 | nil=>rfl
 | cons a l ih=>simp only[List.map_cons,has,ih];rfl
theorem JN (fr:List Nat) (k:Nat):get (fr.map fun h=>(Key.o h,some Cell.free)) (.s k)=none:=by
 induction fr with
 | nil=>rfl
 | cons a l ih=>rw[List.map_cons,bf rfl];exact ih
theorem JM {fr:List Nat} {k:Nat} {c:Cell} (h:get (fr.map fun h=>(Key.o h,some Cell.free)) (.o k)=some c):c= .free:=by
  induction fr with
  | nil=>cases h
  | cons a l ih=>
    simp only[List.map_cons,get]at h
    rcases Bool.eq_false_or_eq_true (Key.eq (.o a) (.o k))with e |e<;>rw[e]at h
    · injection h with h;exact h.symm
    · exact ih h
theorem JU {bs:List B} {os:St} {free:List Nat} (h:iw os=true) (k:Nat):get (iniO bs os free) (.s k)=get (ini bs []) (.s k):=by
 unfold iniO ini
 rw[fh,fh,fh,Ki h,JN]
 by_cases hh:has os (.s k)=true<;>simp [hh,get]
theorem Ek {bs:List B} {os:St} {free:List Nat} (k:Nat):get (iniO bs os free) (.o k)=if has os (.o k)then get os (.o k)else get (free.map fun h=>(Key.o h,some Cell.free)) (.o k):=by
 unfold iniO
 rw[fh,Im,fh];simp
theorem mM {bs:List B} {os:St} {free:List Nat} {k:Nat} {o:Ob} (h:get (iniO bs os free) (.o k)=some (.o o)):get os (.o k)=some (.o o):=by
 rw[Ek]at h
 split at h
 ·exact h
 ·have:=JM h;cases this
theorem He {bs:List B} {os:St} {free:List Nat} (hos:iw os=true) {k:Nat} (h:get (iniO bs os free) (.o k)=some .free):has os (.o k)=false:=by
 rw[Ek]at h
 split at h
 ·rename_i hh
  obtain⟨o,ho⟩:=wy hos hh
  rw[ho]at h;cases h
 ·rename_i hh;simpa using hh
def cxo (P:Program) (N:Nat) (W:World) (own:Nat→Prop) (keep:List Nat) (kp:Nat→Option Place) (im0:Nat→Prop):Cx:=⟨P,N,W,own,fun _=>false,fun _=>none,keep,kp,im0⟩
def A.hOk (os:St):A→Bool
 | .sl h _ _=>has os (.o h)
 | .ptr h _=>has os (.o h)
 | .fn _ caps=>caps.all fun h=>has os (.o h)
 | _=>true
def B.hOk (os:St):B→Bool
 | .a x=>x.hOk os
 | .agg xs=>xs.all (A.hOk os)
def V.hOk (os:St):V→Bool
 | .b x=>x.hOk os
 | .tup xs=>xs.all (B.hOk os)
def rst (ρ:Nat→Option Place) (os:St):Nat→Option Place:=fun h=>if has os (.o h)then ρ h else none
theorem FB {ρ:Nat→Option Place} {os:St} {h:Nat} (hh:has os (.o h)=true):rst ρ os h=ρ h:=by simp [rst,hh]
theorem mn {ρ:Nat→Option Place} {os:St} {h:Nat} {p:Place} (hh:rst ρ os h=some p):has os (.o h)=true∧ρ h=some p:=by
 unfold rst at hh;split at hh
 ·rename_i h1;exact⟨h1,hh⟩
 ·cases hh
theorem RelA.to {ρ ρ':Nat→Option Place} {I I':Nat→Prop} {w:World} {os:St} {x:A} {u:Value} (h:RelA ρ I w x u) (hx:x.hOk os=true) (hρ:∀ h p,has os (.o h)=true→ρ h=some p→ρ' h=some p) (hI:∀ b,I b→I' b):RelA ρ' I' w x u:=by
  cases x with
  | val v=>exact h
  | sl h0 off n=>obtain⟨p,A0,hp,r⟩:=h;exact⟨p,A0,hρ _ _ hx hp,r⟩
  | ptr h0 off=>obtain⟨p,hp,r⟩:=h;exact⟨p,hρ _ _ hx hp,r⟩
  | slv n s xs=>exact RelA.mono (x:= .slv n s xs) (ρ:=ρ') (I:=I) (by exact h) (fun _ _ h=>h) fun b hb=>⟨hI b hb,rfl⟩
  | ptrv s xs off=>exact RelA.mono (x:= .ptrv s xs off) (ρ:=ρ') (I:=I) (by exact h) (fun _ _ h=>h) fun b hb=>⟨hI b hb,rfl⟩
  | slvv s rows=>exact RelA.mono (x:= .slvv s rows) (ρ:=ρ') (I:=I) (by exact h) (fun _ _ h=>h) fun b hb=>⟨hI b hb,rfl⟩
  | ptrvv s rows k=>exact RelA.mono (x:= .ptrvv s rows k) (ρ:=ρ') (I:=I) (by exact h) (fun _ _ h=>h) fun b hb=>⟨hI b hb,rfl⟩
  | slg T g n s xs=>exact RelA.mono (x:= .slg T g n s xs) (ρ:=ρ') (I:=I) (by exact h) (fun _ _ h=>h) fun b hb=>⟨hI b hb,rfl⟩
  | row T n s xs=>exact h
  | fn f caps=>
    obtain⟨vs,e,hl,hc⟩:=h
    refine⟨vs,e,hl,fun j h hj=> ?_⟩
    obtain⟨p,hp,hq⟩:=hc j h hj
    simp only[A.hOk,List.all_eq_true]at hx
    exact⟨p,hρ _ _ (hx h (List.mem_of_getElem? hj)) hp,hq⟩
theorem RelB.to {ρ ρ':Nat→Option Place} {I I':Nat→Prop} {w:World} {os:St} {x:B} {u:Value} (h:RelB ρ I w x u) (hx:x.hOk os=true) (hρ:∀ h p,has os (.o h)=true→ρ h=some p→ρ' h=some p) (hI:∀ b,I b→I' b):RelB ρ' I' w x u:=by
  cases x with
  | a x=>exact RelA.to h hx hρ hI
  | agg xs=>
    obtain⟨cs,e,hl,hc⟩:=h
    simp only[B.hOk,List.all_eq_true]at hx
    exact⟨cs,e,hl,fun j x c h1 h2=>(hc j x c h1 h2).to (hx x (List.mem_of_getElem? h1)) hρ hI⟩
theorem RelV.to {ρ ρ':Nat→Option Place} {I I':Nat→Prop} {w:World} {os:St} {x:V} {u:Value} (h:RelV ρ I w x u) (hx:x.hOk os=true) (hρ:∀ h p,has os (.o h)=true→ρ h=some p→ρ' h=some p) (hI:∀ b,I b→I' b):RelV ρ' I' w x u:=by
  cases x with
  | b x=>exact RelB.to h hx hρ hI
  | tup xs=>
    obtain⟨cs,e,hl,hc⟩:=h
    simp only[V.hOk,List.all_eq_true]at hx
    exact⟨cs,e,hl,fun j x c h1 h2=>(hc j x c h1 h2).to (hx x (List.mem_of_getElem? h1)) hρ hI⟩
theorem Own.to {ρ ρ':Nat→Option Place} {I I':Nat→Prop} {w:World} {os:St} {h:Nat} {o:Ob} (ho:Own ρ I w h o) (hh:has os (.o h)=true) (hx:∀ x∈o.cells,x.hOk os=true) (hρ:∀ h p,has os (.o h)=true→ρ h=some p→ρ' h=some p) (hI:∀ b,I b→I' b):Own ρ' I' w h o:=by
 obtain⟨p,hp,q1,q2,q3,qz,q4⟩:=ho
 refine⟨p,hρ _ _ hh hp,q1,q2,q3,qz,fun hl=> ?_⟩
 obtain⟨cur,c1,c2,c3,c4⟩:=q4 hl
 refine⟨cur,c1,c2,c3,fun j x hj=> ?_⟩
 obtain⟨u,hu,hr⟩:=c4 j x hj
 exact⟨u,hu,hr.to (hx x (List.mem_of_getElem? hj)) hρ hI⟩
def OCells (p:A→Prop):St→Prop
 | []=>True
 | (.o _,some (.o o))::r=>(∀ x∈o.cells,p x)∧OCells p r
 | _::r=>OCells p r
theorem OCells.get {p:A→Prop} {os:St} (h:OCells p os) (hos:iw os=true) {x:Nat} {o:Ob} (hx:get os (.o x)=some (.o o)):∀ y∈o.cells,p y:=by
  induction os with
  | nil=>cases hx
  | cons a r ih=>
    match a,hos,h with
    | (.o y,some (.o o')),hos,h=>
      simp only[Cl.get]at hx
      rcases Bool.eq_false_or_eq_true (Key.eq (.o y) (.o x))with e |e<;>rw[e]at hx
      · simp only[cond_true]at hx
        injection hx with hx;injection hx with hx
        subst hx
        exact h.1
      · exact ih h.2 hos hx
def PostO (σ:St):St→Prop
 | []=>True
 | (.o h,some (.o o))::r=>get σ (.o h)=some (.o o)∧PostO σ r
 | _::r=>PostO σ r
theorem PostO.get {σ os:St} (h:PostO σ os) (hos:iw os=true) {x:Nat} {o:Ob} (hx:get os (.o x)=some (.o o)):get σ (.o x)=some (.o o):=by
  induction os with
  | nil=>cases hx
  | cons a r ih=>
    match a,hos,h with
    | (.o y,some (.o o')),hos,h=>
      simp only[Cl.get]at hx
      rcases Bool.eq_false_or_eq_true (Key.eq (.o y) (.o x))with e |e<;>rw[e]at hx
      · have:=Key.eq_iff.1 e
        injection this with this
        subst this
        simp only[cond_true]at hx
        injection hx with hx;injection hx with hx
        subst hx
        exact h.1
      · exact ih h.2 hos hx
theorem bW {P:Program} {f:Nat} {fn:Func} {c:Code} {bs:List B} {os os':St} {r:V} {keep:List Nat} {N:Nat} (hf:P.funcs[f]? =some fn) (hb:fn.body=some c) (hname:(fn.name== "runtime.NumGoroutine")=false) (hN:fn.ntmps=N) (hle:bs.length≤N)
    (hos:iw os=true) (hos':iw os'=true) (hkeep:(keep.all fun h=>has os (.o h))=true) (hbo:bs.all (B.hOk os)=true) (hco:OCells (fun x=>x.hOk os=true) os) (free:List Nat) {Q:St→Prop}
    (hQ:∀ Γ σ a w ρ I,Γ.P=P→Sat Γ σ a w ρ I→Q σ→∃ u,(results fn a.tmps).run P w= .ok u w∧RelV ρ I w r u)
    (h:∀ W own kp im0,Wp (cxo P N W own keep kp im0) c (RetK fun σ=>∃ τ,eO (cxo P N W own keep kp im0) σ τ∧PostO τ os'∧Q τ) (iniO bs os free)):FnO P f bs os r os' keep:=by
  refine⟨⟨fn,hf,hname,by rw[hb];rfl⟩,fun w args ρ I hobj hargs=> ?_⟩
  obtain⟨hal,har⟩:=hargs
  have hto:∀ h p,has os (.o h)=true→ρ h=some p→rst ρ os h=some p:=fun h p hh hp=>(FB hh).trans hp
  refine calls_of_wp hf hb (wp_mono (h w (oD ρ w os) (rst ρ os) I _ w ⟨rst ρ os,I,?_⟩) fun e a' w' hq=> ?_)
  · have htm:∀ k,k<bs.length→(args.toArray++Array.replicate (fn.ntmps-args.toArray.size) undef).getD k undef=args.getD k undef:=fun k hk=>by
      have:k<args.length:=by omega
      simp [Array.getD_eq_getD_getElem?,Array.getElem?_append,this]
    refine⟨by simp [hN,cxo];omega,rfl,fun k x h' hk=>(by cases hk),⟨fun y hy=> ?_,fun b hb=> .inl hb⟩,fun k v hk=> ?_,fun h o ho=> ?_,fun h hfr=> ?_,fun h p o ho hp hl=> ?_,fun h h' p p' o o' ho ho' hp hp' hl hl' e=>hobj.inj h h' p p' o o' (mM ho) (mM ho') (mn hp).2 (mn hp').2 hl hl' e,hobj.im,hobj.rs.same (fun _ _=>mM) (fun _ _ _ _ hp=>(mn hp).2) (fun _ _ _ _ _ _=>rfl) (fun hr=>⟨rfl,(hobj.rs.ok hr).ni,(hobj.rs.ok hr).lt⟩),(fun {_ _ _ _ _ _ _ _} ⟨o1,p1,q1,q2,q3⟩=> .inl (.inr ⟨_,_,_,_,_,_,_,o1,p1,mM q1,(mn q2).2,q3⟩)),rfl,rfl,rfl,Nat.le_refl _,fun _ _ _=>rfl⟩
    · rw[List.all_eq_true]at hkeep
      obtain⟨o,ho⟩:=wy hos (hkeep y hy)
      obtain⟨p,hp,_⟩:=hobj.ow y o ho
      exact⟨p,hto _ _ (cW ho) hp,hto _ _ (cW ho) hp⟩
    · rw[JU hos]at hk
      obtain⟨b,hb,rfl⟩:=uF hk
      have hkl:=(List.getElem?_eq_some_iff.1 hb).1
      have hka:k<args.length:=by omega
      show RelB _ _ _ b _
      rw[htm k hkl]
      rw[List.all_eq_true]at hbo
      exact(har k b _ hb (by simp [hka])).to (hbo b (List.mem_of_getElem? hb)) hto (fun _ h=>h)
    · have ho':=mM ho
      exact(hobj.ow h o ho').to (cW ho') (hco.get hos ho') hto (fun _ h=>h)
    · have:=He hos hfr
      simp [rst,this]
    · have ho':=mM ho
      obtain⟨g1,g2⟩:=mn hp
      obtain⟨q1,q2⟩:=hobj.pl h o p ho' g2 hl
      exact⟨q1,.inl (.inl ⟨h,o,p,ho',g2,hl,rfl⟩),q2⟩
  · obtain⟨σ0,hs0,hk0⟩:=hq
    have fin:(∃ τ,eO (cxo P N w (oD ρ w os) keep (rst ρ os) I) σ0 τ∧PostO τ os'∧Q τ)→∃ u,(results fn a'.tmps).run P w'= .ok u w'∧a'.defers=[]∧Left ρ I w os r os' keep u w':=fun⟨σ',hw,hp,hq⟩=>by
      obtain⟨ρ',I',hs⟩:=hw a' w' hs0
      have hfr:Da (oD ρ w os) w w':=by
        obtain⟨h1,h2,h3,h4,h5⟩:=hs.m.fm
        exact⟨h1,h2,h3,h4,h5⟩
      obtain⟨u,hu,hr⟩:=hQ _ σ' a' w' ρ' I' rfl hs hq
      have g:∀ h o,get os' (.o h)=some (.o o)→get σ' (.o h)=some (.o o):=fun h o ho=>hp.get hos' ho
      refine⟨u,hu,hs.d,ρ',I',fun y hy=> ?_,⟨fun h o ho=>hs.m.ow h o (g h o ho),fun h o p ho hp hl=> ?_,fun h h' p p' o o' ho ho' hp hp' hl hl' e=>hs.m.inj h h' p p' o o' (g h o ho) (g h' o' ho') hp hp' hl hl' e,hs.m.im,(hs.m.rows0 g).1⟩,hr,hs.kp.2,fun b hb=> ?_,hfr⟩
      · obtain⟨p,e1,e2⟩:=hs.kp.1 y hy
        rw[e2,←e1]
        rw[List.all_eq_true]at hkeep
        exact FB (hkeep y hy)
      · obtain⟨q1,q2,q3⟩:=hs.m.pl h p o (g h o ho) hp hl
        exact⟨q1,q3⟩
      · rcases hb with⟨h,o,p,ho,hp,hl,e⟩ |⟨h,j,T,n,s,xs,cap,hr⟩
        · subst e
          exact(hs.m.pl h p o (g h o ho) hp hl).2.1
        · exact(hs.m.rows0 g).2 hr
    cases e<;>first
      | exact hk0.elim
      | (obtain⟨u,h1,h2,h3⟩:=fin hk0
         exact⟨h2,u,h1,u,rfl,h3⟩)
theorem dt {Γ:Cx} {σ:St}:eO Γ σ σ:=fun _ _ h=>h
inductive VO (P:Program) (σ:St):ResultVar→B→Prop
 | tmp (t:Nat) (b:B) (hg:get σ (.s t)=some (.s (.b b))):VO P σ (.tmp t) b
 | cells (t T h:Nat) (o:Ob) (hg:get σ (.s t)=some (.s (V.p h 0))) (ho:get σ (.o h)=some (.o o)) (hT:TI P T true o.cells.length) (hp:0<o.cells.length):VO P σ (.cell t T) (.agg o.cells)
 | cell (t T h n:Nat) (o:Ob) (x:A) (hg:get σ (.s t)=some (.s (V.p h 0))) (ho:get σ (.o h)=some (.o o)) (hT:TI P T false n) (hx:o.cells[0]? =some x):VO P σ (.cell t T) (.a x)
theorem VO.run {Γ:Cx} {σ:St} {a:Act} {w:World} {ρ:Nat→Option Place} {I:Nat→Prop} (hs:Sat Γ σ a w ρ I) {rv:ResultVar} {b:B} (h:VO Γ.P σ rv b):∃ u,(jP a.tmps rv).run Γ.P w= .ok u w∧RelB ρ I w b u:=by
  cases h with
  | tmp t b hg=>exact⟨_,rfl,hs.sl t _ hg⟩
  | cells t T h o hg ho hT hp=>
    obtain⟨p,hp',he⟩:=hs.sl t _ hg
    have how:=hs.m.ow h o ho
    obtain⟨p',cur,hpp,_,hl,_,hgg,hsz,_,hc⟩:=iI (j:=0) how hp
    rw[hp']at hpp;injection hpp with hpp;subst hpp
    let cs:List Value:=(cur.toList.drop p.base).take o.cells.length
    have hcl:cs.length=o.cells.length:=by simp [cs];omega
    have hcg:∀ (j:Nat) v,cs[j]? =some v→cur[p.base+j]? =some v:=fun j v hv=>by
      have hjn:j<o.cells.length:=by rw[←hcl];exact(List.getElem?_eq_some_iff.1 hv).1
      simpa [cs,List.getElem?_take,hjn,List.getElem?_drop] using hv
    refine⟨.agg cs.toArray,?_,⟨cs,rfl,hcl,fun j x c h1 h2=> ?_⟩⟩
    · obtain⟨⟨dd,hu,hd⟩,hi⟩:=hT
      simp only[jP]
      have he':a.tmps.getD t undef= .pointer (some ⟨p.block,p.base,none⟩):=he
      rw[he']
      rw[Sem.run_bind]
      simp only[asAddr,Sem.run_pure,Result.andThen_ok]
      exact run_loadVar_mid w p.block p.base T cs dd (fun j v hv=>by simp [World.cell?,hgg,hcg j v hv]) hu hd (by rw[hi,hcl])
    · obtain⟨u,hu,hru⟩:=hc j x h1
      have:=hcg j c h2
      rw[hu]at this;injection this with this
      subst this;exact hru
  | cell t T h n o x hg ho hT hx=>
    obtain⟨p,hp',he⟩:=hs.sl t _ hg
    have how:=hs.m.ow h o ho
    obtain⟨p',cur,hpp,_,hl,_,hgg,hsz,_,hc⟩:=iI (j:=0) how (List.getElem?_eq_some_iff.1 hx).1
    rw[hp']at hpp;injection hpp with hpp;subst hpp
    obtain⟨u,hu,hru⟩:=hc 0 x hx
    refine⟨u,?_,hru⟩
    simp only[jP]
    have he':a.tmps.getD t undef= .pointer (some ⟨p.block,p.base,none⟩):=he
    have hl:=fc (w:=w) (ad:=⟨p.block,p.base,none⟩) (v:=u) hT (by simpa [World.cell?,hgg] using hu)
    rw[he',Sem.run_bind]
    simp only[asAddr,Sem.run_pure,Result.andThen_ok]
    simpa [Instr.loadAt,Instr.sureAddr] using hl
theorem ip {P:Program} {fn:Func} {rv:ResultVar} {b:B} (hr:fn.results= #[rv]):∀ Γ σ a w ρ I,Γ.P=P→Sat Γ σ a w ρ I→VO P σ rv b→∃ u,(results fn a.tmps).run P w= .ok u w∧RelV ρ I w (.b b) u:=by
 intro Γ σ a w ρ I hP hs h
 subst hP
 obtain⟨u,hu,hb⟩:=VO.run hs h
 exact⟨u,yy hr hu,hb⟩
theorem retO2 {P:Program} {fn:Func} {r1 r2:ResultVar} {b1 b2:B} (hr:fn.results= #[r1,r2]):∀ Γ σ a w ρ I,Γ.P=P→Sat Γ σ a w ρ I→(VO P σ r1 b1∧VO P σ r2 b2)→∃ u,(results fn a.tmps).run P w= .ok u w∧RelV ρ I w (.tup [b1,b2]) u:=by
 intro Γ σ a w ρ I hP hs ⟨h1,h2⟩
 subst hP
 obtain⟨u1,hu1,hb1⟩:=VO.run hs h1
 obtain⟨u2,hu2,hb2⟩:=VO.run hs h2
 refine⟨_,yz hr hu1 hu2,[u1,u2],rfl,rfl,fun j x c e1 e2=> ?_⟩
 match j,e1,e2 with
 | 0,e1,e2=>simp at e1 e2;subst e1;subst e2;exact hb1
 | 1,e1,e2=>simp at e1 e2;subst e1;subst e2;exact hb2
theorem AQ {P:Program} {fn:Func} (hr:fn.results= #[]):∀ Γ σ a w ρ I,Γ.P=P→Sat Γ σ a w ρ I→True→∃ u,(results fn a.tmps).run P w= .ok u w∧RelV ρ I w (V.v (.tuple #[])) u:=by
 intro Γ σ a w ρ I hP hs _
 exact⟨.tuple #[],by simp [lr,hr],rfl⟩
end Cl
end Go.Proofs.YtgmkkfdnmdohlaaGreatDoor
namespace Go.Proofs.YtgmkkfdnmdohlaaGreatDoor
namespace Cl
open Go.ChangeShapes Go.WideShapes Go.ChangeAt Go.RowKit
def oR (os:St):List (Key × Cell):=os.filterMap fun kc=>kc.2.map fun c=>(kc.1,c)
theorem EG {os:St} (hos:iw os=true) {h:Nat} {o:Ob} (hg:get os (.o h)=some (.o o)):((.o h:Key),(.o o:Cell))∈oR os:=by
  induction os with
  | nil=>cases hg
  | cons a r ih=>
    match a,hos with
    | (.o y,some (.o o')),hos=>
      simp only[get]at hg
      rcases Bool.eq_false_or_eq_true (Key.eq (.o y) (.o h))with e |e<;>rw[e]at hg
      · have:=Key.eq_iff.1 e
        injection this with this
        subst this
        simp only[cond_true]at hg
        injection hg with hg;injection hg with hg
        subst hg
        simp [oR]
      · have:=ih hos hg
        simp only[oR,List.filterMap_cons,Option.map_some]at this⊢
        exact List.mem_cons_of_mem _ this
inductive ArgO:Operand→B→List (Key × Cell)→Prop
 | v {x:Operand} {v:Value} {R:List (Key × Cell)} (h:OpV x v R):ArgO x (.a (.val v)) R
 | va {x:Operand} {vs:List Value} {R:List (Key × Cell)} (h:OpV x (.agg vs.toArray) R):ArgO x (.agg (vs.map A.val)) R
 | slot (t:Nat) (b:B):ArgO (.tmp t) b [(.s t,.s (.b b))]
 | fn (f:Nat):ArgO (.func f) (.a (.fn f [])) []
theorem ArgO.ok {Γ:Cx} {σ:St} {a:Act} {w:World} {ρ:Nat→Option Place} {I:Nat→Prop} (hs:Sat Γ σ a w ρ I) {x:Operand} {b:B} {R:List (Key × Cell)} (h:ArgO x b R) (hR:∀ kv∈R,get σ kv.1=some kv.2):RelB ρ I w b (a.eval x):=by
 have hf:=fF hs hR
 cases h with
 | v h=>exact h.ev hf
 | va h=>rw[h.ev hf];exact kz _
 | slot t b=>exact hf (.s t) (.s (.b b)) (List.mem_singleton.2 rfl)
 | fn f=>exact⟨[],rfl,rfl,fun j h hj=>by simp at hj⟩
inductive ArgOs:List Operand→List B→List (Key × Cell)→Prop
 | nil:ArgOs [] [] []
 | cons {x:Operand} {b:B} {R R':List (Key × Cell)} {xs:List Operand} {bs:List B} (h:ArgO x b R) (hs:ArgOs xs bs R'):ArgOs (x::xs) (b::bs) (R++R')
theorem ArgOs.ok {Γ:Cx} {σ:St} {a:Act} {w:World} {ρ:Nat→Option Place} {I:Nat→Prop} (hs:Sat Γ σ a w ρ I) {xs:List Operand} {bs:List B} {R:List (Key × Cell)} (h:ArgOs xs bs R) (hR:∀ kv∈R,get σ kv.1=some kv.2):zU ρ I w bs (xs.map a.eval):=by
  induction h with
  | nil=>exact⟨rfl,fun j b u h=>by simp at h⟩
  | cons h hr ih=>
    obtain⟨h1,h2⟩:=ih fun kv hk=>hR kv (by simp [hk])
    refine⟨by simpa using h1,fun j b u hb hu=> ?_⟩
    cases j with
    | zero=>simp at hb hu;subst hb;subst hu;exact h.ok hs (fun kv hk=>hR kv (by simp [hk]))
    | succ j=>exact h2 j b u (by simpa using hb) (by simpa using hu)
theorem AC {Γ:Cx} {σ:St} {a:Act} {w:World} {ρ:Nat→Option Place} {I:Nat→Prop} (hs:Sat Γ σ a w ρ I) {os:St} (hos:iw os=true) (hR:∀ kv∈oR os,get σ kv.1=some kv.2):Objs ρ I w os:=by
 have g:∀ h o,get os (.o h)=some (.o o)→get σ (.o h)=some (.o o):=fun h o ho=>hR _ (EG hos ho)
 refine⟨fun h o ho=>hs.m.ow h o (g h o ho),fun h o p ho hp hl=> ?_,fun h h' p p' o o' ho ho' hp hp' hl hl' e=>hs.m.inj h h' p p' o o' (g h o ho) (g h' o' ho') hp hp' hl hl' e,hs.m.im,(hs.m.rows0 g).1⟩
 obtain⟨q1,q2,q3⟩:=hs.m.pl h p o (g h o ho) hp hl
 exact⟨q1,q3⟩
def ie (dead:List Nat):St:=dead.map fun h=>(Key.o h,none)
theorem Jw (dead:List Nat) (k:Nat):has (ie dead) (.s k)=false:=by
 induction dead with
 | nil=>rfl
 | cons a l ih=>simp only[ie,List.map_cons,has];exact ih
theorem DB {dead:List Nat} {h:Nat} (hh:dead.contains h=true):has (ie dead) (.o h)=true:=by
  induction dead with
  | nil=>simp at hh
  | cons a l ih=>
    simp only[ie,List.map_cons,has,Bool.or_eq_true]
    rw[List.contains_cons,Bool.or_eq_true]at hh
    rcases hh with hh |hh
    · left;rw[Key.eq_iff,eq_of_beq hh]
    · exact .inr (ih hh)
theorem xg {dead:List Nat} {k:Key}:get (ie dead) k=none:=by
  induction dead with
  | nil=>rfl
  | cons a l ih=>
    simp only[ie,List.map_cons,get]
    rcases Bool.eq_false_or_eq_true (Key.eq (.o a) k)with e |e<;>rw[e]
    · rfl
    · exact ih
theorem CH {Γ:Cx} {σ:St} {a:Act} {w w':World} {ρ:Nat→Option Place} {I:Nat→Prop} (hs:Sat Γ σ a w ρ I) {os os':St} {keep:List Nat} (dead:List Nat) (hos:iw os=true) (hos':iw os'=true) (hR:∀ kv∈oR os,get σ kv.1=some kv.2)
  (hn:∀ x,has os' (.o x)=true→x∈keep∨get σ (.o x)=some .free) (hd:∀ x,has os (.o x)=true→has os' (.o x)=true∨dead.contains x=true) (hco:OCells (fun x=>x.hOk os'=true) os') {r:V} {u:Value} (hrn:r.hOk os'=true) (hL:Left ρ I w os r os' keep u w'):∃ ρ2 I2,Sat Γ (os'++(ie dead++σ)) a w' ρ2 I2∧RelV ρ2 I2 w' r u:=by
 obtain⟨ρ',I',hkeep,hobj,hrel,hi1,hi2,f1,f2,f3,f4,f5⟩:=hL
 let ρ2:Nat→Option Place:=fun h=>if has os' (.o h)then ρ' h else ρ h
 let I2:Nat→Prop:=fun b=>I b∨I' b
 have g:∀ h o,get os (.o h)=some (.o o)→get σ (.o h)=some (.o o):=fun h o ho=>hR _ (EG hos ho)
 have r1:∀ h,has os' (.o h)=true→ρ2 h=ρ' h:=fun h hh=>by simp [ρ2,hh]
 have r0:∀ h,has os' (.o h)=false→ρ2 h=ρ h:=fun h hh=>by simp [ρ2,hh]
 have hρ:∀ h p,ρ h=some p→ρ2 h=some p:=fun h p hp=>by
  cases hh:has os' (.o h)
  ·rw[r0 h hh];exact hp
  ·rw[r1 h hh]
   rcases hn h hh with q |q
   ·rw[hkeep h q];exact hp
   ·rw[hs.m.fr h q]at hp;cases hp
 have hrσ:∀ {h j T n s xs b cap},RowIn os w ρ h j T n s xs b cap→RowIn σ w ρ h j T n s xs b cap:=fun⟨o,p,q1,q⟩=>⟨o,p,g _ _ q1,q⟩
 have hblk:∀ b,I b→¬oD ρ w os b:=fun b hb hq=>by
  rcases hq with⟨h,o,p,ho,hp,hl,e⟩ |⟨h,j,T,n,s,xs,cap,hr⟩
  ·exact(hs.m.pl h p o (g h o ho) hp hl).1 (e▸hb)
  ·exact(hs.m.rs.ok (hrσ hr)).ni hb
 have hI:∀ b,I b→I2 b∧w'.heap[b]? =w.heap[b]? :=fun b hb=>⟨.inl hb,f5 b (hs.m.im b hb) (hblk b hb)⟩
 have gs:∀ k,get (os'++(ie dead++σ)) (.s k)=get σ (.s k):=fun k=>by rw[fh,HA hos',fh,Jw];simp
 have go:∀ h o,get (os'++(ie dead++σ)) (.o h)=some (.o o)→(has os' (.o h)=true∧get os' (.o h)=some (.o o))∨(has os' (.o h)=false∧has os (.o h)=false∧get σ (.o h)=some (.o o)):=fun h o ho=>by
  rw[fh]at ho
  cases hh:has os' (.o h)
  ·rw[hh]at ho
   simp only[Bool.false_eq_true,if_false]at ho
   rw[fh]at ho
   cases hq:has (ie dead) (.o h)
   ·rw[hq]at ho
    simp only[Bool.false_eq_true,if_false]at ho
    refine .inr ⟨rfl,?_,ho⟩
    cases hz:has os (.o h)
    ·rfl
    ·rcases hd h hz with q |q
     ·rw[hh]at q;cases q
     ·rw[DB q]at hq;cases hq
   ·rw[hq]at ho;simp only[if_true]at ho
    rw[xg]at ho;cases ho
  ·rw[hh]at ho;simp only[if_true]at ho
   exact .inl ⟨rfl,ho⟩
 have notin:∀ h o p,has os (.o h)=false→get σ (.o h)=some (.o o)→ρ h=some p→p.live=true→¬oD ρ w os p.block:=fun h o p hh ho hp hl hq=>by
  rcases hq with⟨h1,o1,p1,ho1,hp1,hl1,e⟩ |⟨h1,j,T,n,s,xs,cap,hr⟩
  rotate_left
  ·exact hs.m.rs.sep (hrσ hr) ho hp hl rfl
  have:=hs.m.inj h1 h p1 p o1 o (g h1 o1 ho1) ho hp1 hp hl1 hl e
  subst this
  rw[cW ho1]at hh;cases hh
 have notinR:∀ {h j T n s xs b cap},has os (.o h)=false→RowIn σ w ρ h j T n s xs b cap→¬oD ρ w os b:=fun {h j T n s xs b cap} hh hr hq=>by
  rcases hq with⟨h1,o1,p1,ho1,hp1,hl1,e⟩ |⟨h1,j1,T1,n1,s1,xs1,cap1,hr1⟩
  ·exact hs.m.rs.sep hr (g h1 o1 ho1) hp1 hl1 e
  ·have:=(hs.m.rs.inj hr (hrσ hr1)).1
   subst this
   obtain⟨o1,p1,ho1,_⟩:=hr1
   rw[cW ho1]at hh;cases hh
 have hold:∀ b,oD ρ w os b→Γ.own b∨Γ.W.heap.size≤b:=fun b hq=>by
  rcases hq with⟨h,o,p,ho,hp,hl,e⟩ |⟨h,j,T,n,s,xs,cap,hr⟩
  ·exact e▸(hs.m.pl h p o (g h o ho) hp hl).2.1
  ·exact hs.m.rp (hrσ hr)
 have hin:∀ {h j T n s xs b cap},RowIn (os'++(ie dead++σ)) w' ρ2 h j T n s xs b cap→RowIn os' w' ρ' h j T n s xs b cap∨(has os (.o h)=false∧RowIn σ w ρ h j T n s xs b cap):=by
  rintro h j T n s xs b cap ⟨o,p,q1,q2,q3,q4,q5⟩
  rcases go h o q1 with⟨a1,a2⟩ |⟨a1,a2,a3⟩
  ·exact .inl ⟨o,p,a2,(r1 h a1)▸q2,q3,q4,q5⟩
  ·have hp:=(r0 h a1)▸q2
   refine .inr ⟨a2,o,p,a3,hp,q3,q4,?_⟩
   rw[←World.cell?_of_block (w:=w) (w':=w') (f5 _ (hs.m.pl h p o a3 hp q3).2.2 (notin h o p a2 a3 hp q3))]
   exact q5
 have hnew:∀ {h j T n s xs b cap},RowIn os' w' ρ' h j T n s xs b cap→oD ρ w os b∨w.heap.size≤b:=fun {h j T n s xs b cap} hr=>hi2 b (.inr ⟨h,j,T,n,s,xs,cap,hr⟩)
 have hrw:Rws (os'++(ie dead++σ)) w' ρ2 I2:=by
  refine⟨fun hr=> ?_,fun hr h1 h2 h3=> ?_,fun hr hr'=> ?_⟩
  ·rcases hin hr with hr |⟨hh,hr⟩
   ·obtain⟨k1,k2,k3,k4,k5,k6⟩:=hobj.rs.ok hr
    refine⟨k1,k2,k3,k4,fun hi=>hi.elim (fun hi=> ?_) k5,k6⟩
    rcases hnew hr with q |q
    ·exact hblk _ hi q
    ·have:=hs.m.im _ hi;omega
   ·obtain⟨⟨cur,c1,c2,c3⟩,k2,k3,k4,k5,k6⟩:=hs.m.rs.ok hr
    have hnb:=notinR hh hr
    refine⟨⟨cur,(f5 _ k6 hnb).trans c1,c2,c3⟩,k2,k3,k4,fun hi=>hi.elim k5 fun hi=> ?_,Nat.lt_of_lt_of_le k6 f4⟩
    rcases hi1 _ hi with z |z |z
    ·exact k5 z
    ·exact hnb z
    ·omega
  ·rename_i h0 j0 T0 n0 s0 xs0 b cap0 h' o' p'
   rcases hin hr with hr |⟨hh,hr⟩<;>rcases go h' o' h1 with⟨a1,a2⟩ |⟨a1,a2,a3⟩
   ·exact hobj.rs.sep hr a2 ((r1 h' a1)▸h2) h3
   ·intro e
    have hp:=(r0 h' a1)▸h2
    rcases hnew hr with q |q
    ·exact notin h' o' p' a2 a3 hp h3 (e▸q)
    ·have:=(hs.m.pl h' p' o' a3 hp h3).2.2
     omega
   ·intro e
    rcases hi2 p'.block (.inl ⟨h',o',p',a2,(r1 h' a1)▸h2,h3,rfl⟩)with q |q
    ·exact notinR hh hr (e▸q)
    ·have:=(hs.m.rs.ok hr).lt
     omega
   ·exact hs.m.rs.sep hr a3 ((r0 h' a1)▸h2) h3
  ·have cross:∀ {h j T n s xs b cap h' j' T' n' s' xs' cap'},RowIn os' w' ρ' h j T n s xs b cap→has os (.o h')=false→RowIn σ w ρ h' j' T' n' s' xs' b cap'→False:=fun q1 q2 q3=>by
    rcases hnew q1 with q |q
    ·exact notinR q2 q3 q
    ·have:=(hs.m.rs.ok q3).lt
     omega
   rcases hin hr with hr |⟨hh,hr⟩<;>rcases hin hr' with hr' |⟨hh',hr'⟩
   ·exact hobj.rs.inj hr hr'
   ·exact(cross hr hh' hr').elim
   ·exact(cross hr' hh hr).elim
   ·exact hs.m.rs.inj hr hr'
 have hrp:∀ {h j T n s xs b cap},RowIn (os'++(ie dead++σ)) w' ρ2 h j T n s xs b cap→Γ.own b∨Γ.W.heap.size≤b:=fun hr=>by
  rcases hin hr with hr |⟨hh,hr⟩
  ·rcases hnew hr with q |q
   ·exact hold _ q
   ·exact .inr (Nat.le_trans hs.m.fm.2.2.2.1 q)
  ·exact hs.m.rp hr
 refine⟨ρ2,I2,?_,hrel.to hrn (fun h p hh hp=>(r1 h hh).trans hp) (fun b hb=> .inr hb)⟩
 refine⟨hs.n,hs.d,fun k x h' hf hg hh=> ?_,⟨fun y hy=> ?_,fun b hb=> ?_⟩,fun k v hv=>(hs.sl k v ((gs k)▸hv)).mono hρ hI,fun h o ho=> ?_,fun h hfr=> ?_,fun h p o ho hp hl=> ?_,fun h h' p p' o o' ho ho' hp hp' hl hl' e=> ?_,fun b hb=> ?_,hrw,hrp,?_⟩
 ·obtain⟨q,e1,e2⟩:=hs.fx k x h' hf ((gs k)▸hg) hh
  exact⟨q,e1,hρ _ _ e2⟩
 ·obtain⟨q,e1,e2⟩:=hs.kp.1 y hy
  exact⟨q,e1,hρ _ _ e2⟩
 ·rcases hb with hb |hb
  ·exact hs.kp.2 b hb
  ·rcases hi1 b hb with q |q |q
   ·exact hs.kp.2 b q
   ·exact .inr (hold b q)
   ·exact .inr (.inr (Nat.le_trans hs.m.fm.2.2.2.1 q))
 ·rcases go h o ho with⟨a1,a2⟩ |⟨a1,a2,a3⟩
  ·exact(hobj.ow h o a2).to a1 (hco.get hos' a2) (fun h p hh hp=>(r1 h hh).trans hp) (fun b hb=> .inr hb)
  ·exact(hs.m.ow h o a3).mono hρ hI fun p hp hl=>f5 _ (hs.m.pl h p o a3 hp hl).2.2 (notin h o p a2 a3 hp hl)
 ·rw[fh]at hfr
  cases hh:has os' (.o h)
  ·rw[hh]at hfr
   simp only[Bool.false_eq_true,if_false]at hfr
   rw[fh]at hfr
   cases hq:has (ie dead) (.o h)
   ·rw[hq]at hfr;simp only[Bool.false_eq_true,if_false]at hfr
    rw[r0 h hh];exact hs.m.fr h hfr
   ·rw[hq]at hfr;simp only[if_true]at hfr
    rw[xg]at hfr;cases hfr
  ·obtain⟨o',ho'⟩:=wy hos' hh
   rw[hh]at hfr;simp only[if_true]at hfr
   rw[ho']at hfr;cases hfr
 ·rcases go h o ho with⟨a1,a2⟩ |⟨a1,a2,a3⟩
  ·rw[r1 h a1]at hp
   obtain⟨q1,q2⟩:=hobj.pl h o p a2 hp hl
   rcases hi2 p.block (.inl ⟨h,o,p,a2,hp,hl,rfl⟩)with q |q
   ·exact⟨fun hi=>hi.elim (fun hi=>hblk _ hi q) q1,hold _ q,q2⟩
   ·exact⟨fun hi=>hi.elim (fun hi=>by have:=hs.m.im _ hi;omega) q1,.inr (Nat.le_trans hs.m.fm.2.2.2.1 q),q2⟩
  ·rw[r0 h a1]at hp
   obtain⟨q1,q2,q3⟩:=hs.m.pl h p o a3 hp hl
   refine⟨fun hi=>hi.elim q1 fun hi=> ?_,q2,Nat.lt_of_lt_of_le q3 f4⟩
   rcases hi1 _ hi with z |z |z
   ·exact q1 z
   ·exact notin h o p a2 a3 hp hl z
   ·omega
 ·have cross:∀ h h' p p' o o',has os' (.o h)=true→get os' (.o h)=some (.o o)→ρ' h=some p→p.live=true→has os (.o h')=false→get σ (.o h')=some (.o o')→ρ h'=some p'→p'.live=true→p.block=p'.block→False:=fun h h' p p' o o' a1 a2 a3 a4 b1 b2 b3 b4 e=>by
   rcases hi2 p.block (.inl ⟨h,o,p,a2,a3,a4,rfl⟩)with q |q
   ·exact notin h' o' p' b1 b2 b3 b4 (e▸q)
   ·have:=(hs.m.pl h' p' o' b2 b3 b4).2.2
    omega
  rcases go h o ho with⟨a1,a2⟩ |⟨a1,a2,a3⟩<;>rcases go h' o' ho' with⟨b1,b2⟩ |⟨b1,b2,b3⟩
  ·rw[r1 h a1]at hp;rw[r1 h' b1]at hp'
   exact hobj.inj h h' p p' o o' a2 b2 hp hp' hl hl' e
  ·rw[r1 h a1]at hp;rw[r0 h' b1]at hp'
   exact(cross h h' p p' o o' a1 a2 hp hl b2 b3 hp' hl' e).elim
  ·rw[r0 h a1]at hp;rw[r1 h' b1]at hp'
   exact(cross h' h p' p o' o b1 b2 hp' hl' a2 a3 hp hl e.symm).elim
  ·rw[r0 h a1]at hp;rw[r0 h' b1]at hp'
   exact hs.m.inj h h' p p' o o' a3 b3 hp hp' hl hl' e
 ·rcases hb with hb |hb
  ·exact Nat.lt_of_lt_of_le (hs.m.im b hb) f4
  ·exact hobj.im b hb
 ·obtain⟨h1,h2,h3,h4,h5⟩:=hs.m.fm
  refine⟨f1.trans h1,f2.trans h2,f3.trans h3,Nat.le_trans h4 f4,fun b hlt hno=> ?_⟩
  refine(f5 b (Nat.lt_of_lt_of_le hlt h4) fun hq=> ?_).trans (h5 b hlt hno)
  rcases hold b hq with q |q
  ·exact hno q
  ·omega
def Al (new:List Nat):List (Key × Cell):=new.map fun h=>(Key.o h,Cell.free)
def pW (os os':St) (keep new dead:List Nat):Bool:=iw os&&iw os'&&(dS os').all (fun h=>keep.contains h||new.contains h)&&(dS os).all (fun h=>has os' (.o h)||dead.contains h)
theorem eS {os:St} (hos:iw os=true) {h:Nat}:has os (.o h)=true↔h∈dS os:=by
  induction os with
  | nil=>simp [has,dS]
  | cons a r ih=>
    match a,hos with
    | (.o y,some (.o o)),hos=>
      simp only[has,dS,Bool.or_eq_true,List.mem_cons,ih hos]
      rw[Key.eq_iff]
      constructor
      · rintro(e |e)
        · injection e with e;exact .inl e.symm
        · exact .inr e
      · rintro(e |e)
        · exact .inl (by rw[e])
        · exact .inr e
theorem yA {Γ:Cx} {σ:St} {a:Act} {w w':World} {ρ:Nat→Option Place} {I:Nat→Prop} (hs:Sat Γ σ a w ρ I) {os os':St} {keep new dead:List Nat} (hok:pW os os' keep new dead=true) (hR:∀ kv∈oR os,get σ kv.1=some kv.2) (hF:∀ kv∈Al new,get σ kv.1=some kv.2)
  (hco:OCells (fun x=>x.hOk os'=true) os') {r:V} {u:Value} (hrn:r.hOk os'=true) (hL:Left ρ I w os r os' keep u w'):∃ ρ2 I2,Sat Γ (os'++(ie dead++σ)) a w' ρ2 I2∧RelV ρ2 I2 w' r u:=by
 unfold pW at hok
 simp only[Bool.and_eq_true]at hok
 obtain⟨⟨⟨h1,h2⟩,h3⟩,h4⟩:=hok
 rw[List.all_eq_true]at h3 h4
 refine CH hs dead h1 h2 hR (fun x hx=> ?_) (fun x hx=> ?_) hco hrn hL
 ·have:=h3 x ((eS h2).1 hx)
  rw[Bool.or_eq_true]at this
  rcases this with q |q
  ·exact .inl (by simpa using q)
  ·exact .inr (hF (.o x,.free) (by simp only[Al,List.mem_map];exact⟨x,by simpa using q,rfl⟩))
 ·have:=h4 x ((eS h1).1 hx)
  rwa [Bool.or_eq_true]at this
section
variable {Γ:Cx} {d:Nat} {ty:TypeId} {pos:String} {af:Array Edge} {g:Option (Nat × Bool)}
theorem Sat.assoc {Γ:Cx} {A B C:St} {a:Act} {w:World} {ρ:Nat→Option Place} {I:Nat→Prop} (h:Sat Γ (A++(B++C)) a w ρ I):Sat Γ ((A++B)++C) a w ρ I:=by rwa [List.append_assoc]
theorem aK {f:Nat} {xs:List Operand} {bs:List B} {os os':St} {r:V} {keep new dead:List Nat} {R:List (Key × Cell)} {tys:Array TypeId} (hN:Γ.ok d) (hF:FnO Γ.P f bs os r os' keep) (hok:pW os os' keep new dead=true)
  (hco:OCells (fun x=>x.hOk os'=true) os') (hrn:r.hOk os'=true) (hx:ArgOs xs bs R):
  Acts Γ ⟨some d,.call { callee:= .value (.func f),args:=xs.toArray,argTypes:=tys },ty,pos,af,g⟩ (R++(oR os++Al new)) ((.s d,some (.s r))::(os'++ie dead)):=by
 intro σ a w ρ I hs hR K Q hK
 obtain⟨hcl,hF⟩:=hF
 have hobj:=AC hs (os:=os) (by unfold pW at hok;simp only[Bool.and_eq_true]at hok;exact hok.1.1.1) (fun kv hk=>hR kv (by simp [hk]))
 have hargs:=hx.ok hs (fun kv hk=>hR kv (by simp [hk]))
 unfold Oper.wp
 rw[tC (f:=f) (xs:=xs) (tys:=tys) rfl rfl hcl w]
 rw[Oper.upon_enter]
 refine(hF w _ _ _ hobj hargs).mono fun e w' h=> ?_
 obtain⟨u,rfl,hL⟩:=h
 obtain⟨ρ2,I2,h3,h4⟩:=yA hs hok (fun kv hk=>hR kv (by simp [hk])) (fun kv hk=>hR kv (by simp [hk])) hco hrn hL
 exact hK _ _ ⟨ρ2,I2,h3.assoc.put (V:=r) hN h4⟩
theorem CE {P:Program} {ev:Operand→Value} {o:Oper} {f t:Nat} {xs:List Operand} {tys:Array TypeId} {vs:List Value} (ho:o.op= .call { callee:= .value (.tmp t),args:=xs.toArray,argTypes:=tys }) (hev:ev (.tmp t)= .func (.func f) #[] vs.toArray) (hc:ji P f) (w:World):
  (execOp ev o).run P w= .ok (.enter f (xs.map ev++vs).toArray) w:=by
 obtain⟨fn,h1,h2,h3⟩:=hc
 simp only[execOp,ho,resolve,hev,Deferred.ofValue,List.map_toArray]
 have h3':¬fn.body.isNone=true:=by rw[h3];simp
 simp only[Sem.run_bind,Sem.run_pure,Result.andThen_ok,invoke,callFunc]
 simp only[program,Sem.run,h1,h2,h3',Result.andThen_ok,if_false,Bool.false_eq_true]
 simp [go_sem]
theorem argsV {σ:St} {a:Act} {w:World} {ρ:Nat→Option Place} {I:Nat→Prop} (hs:Sat Γ σ a w ρ I) {f t:Nat} {caps:List Nat} {xs:List Operand} {bs:List B} {R:List (Key × Cell)} (hx:ArgOs xs bs R) (hR:∀ kv∈R,get σ kv.1=some kv.2) (ht:get σ (.s t)=some (.s (.b (.a (.fn f caps))))):
    ∃ vs:List Value,a.eval (.tmp t)= .func (.func f) #[] vs.toArray∧zU ρ I w (bs++caps.map fun h=>B.a (.ptr h 0)) (xs.map a.eval++vs):=by
  obtain⟨a1,a2⟩:=hx.ok hs hR
  have hfn:RelA ρ I w (.fn f caps) (a.eval (.tmp t)):=hs.sl t _ ht
  obtain⟨vs,he,hvl,hvc⟩:=hfn
  refine⟨vs,he,by simp [a1,hvl],fun j b u hb hu=> ?_⟩
  have hal:(xs.map a.eval).length=bs.length:=a1
  by_cases hj:j<bs.length
  · rw[List.getElem?_append_left hj]at hb
    rw[List.getElem?_append_left (by omega)]at hu
    exact a2 j b u hb hu
  · rw[List.getElem?_append_right (by omega)]at hb
    rw[List.getElem?_append_right (by omega)]at hu
    rw[hal]at hu
    rw[List.getElem?_map]at hb
    cases hq:caps[j-bs.length]? with
    | none=>rw[hq]at hb;simp at hb
    | some h=>
      rw[hq]at hb;simp at hb;subst hb
      obtain⟨p,hp,hv⟩:=hvc _ h hq
      rw[hv]at hu;injection hu with hu;subst hu
      exact⟨p,hp,rfl⟩
theorem cV {f t:Nat} {caps:List Nat} {xs:List Operand} {bs:List B} {os os':St} {r:V} {keep new dead:List Nat} {R:List (Key × Cell)} {tys:Array TypeId} (hN:Γ.ok d) (hF:FnO Γ.P f (bs++caps.map fun h=>B.a (.ptr h 0)) os r os' keep) (hok:pW os os' keep new dead=true)
  (hco:OCells (fun x=>x.hOk os'=true) os') (hrn:r.hOk os'=true) (hx:ArgOs xs bs R):
  Acts Γ ⟨some d,.call { callee:= .value (.tmp t),args:=xs.toArray,argTypes:=tys },ty,pos,af,g⟩ ((Key.s t,Cell.s (.b (.a (.fn f caps))))::(R++(oR os++Al new))) ((.s d,some (.s r))::(os'++ie dead)):=by
 intro σ a w ρ I hs hR K Q hK
 obtain⟨hcl,hF⟩:=hF
 have hobj:=AC hs (os:=os) (by unfold pW at hok;simp only[Bool.and_eq_true]at hok;exact hok.1.1.1) (fun kv hk=>hR kv (by simp [hk]))
 obtain⟨vs,he,hargs⟩:=argsV hs hx (fun kv hk=>hR kv (by simp [hk])) (hR (.s t,.s (.b (.a (.fn f caps)))) (by simp))
 unfold Oper.wp
 rw[CE (f:=f) (t:=t) (xs:=xs) (tys:=tys) (vs:=vs) rfl he hcl w]
 rw[Oper.upon_enter]
 refine(hF w _ _ _ hobj hargs).mono fun e w' h=> ?_
 obtain⟨u,rfl,hL⟩:=h
 obtain⟨ρ2,I2,h3,h4⟩:=yA hs hok (fun kv hk=>hR kv (by simp [hk])) (fun kv hk=>hR kv (by simp [hk])) hco hrn hL
 exact hK _ _ ⟨ρ2,I2,h3.assoc.put (V:=r) hN h4⟩
theorem jS {f:Nat} {l:List (Nat × Nat)} (hN:Γ.ok d):
    Acts Γ ⟨some d,.makeFunc (.func f) #[] (l.map fun x=>Operand.tmp x.1).toArray,ty,pos,af,g⟩ (l.map fun x=>(Key.s x.1,Cell.s (V.p x.2 0))) [(.s d,some (.s (.b (.a (.fn f (l.map (·.2)))))))]:=
  Acts.pure rfl hN fun a w ρ I hf=>⟨.func (.func f) #[] (l.map fun x=>a.eval (.tmp x.1)).toArray,by simp [execOp,Instr.makeFunc,go_sem,Function.comp_def],_,rfl,by simp,fun j h hj=>by
    rw[List.getElem?_map]at hj
    cases hq:l[j]? with
    | none=>rw[hq]at hj;simp at hj
    | some x=>
      rw[hq]at hj;simp at hj;subst hj
      obtain⟨p,hp,hv⟩:=hf (.s x.1) (.s (V.p x.2 0)) (by simp only[List.mem_map];exact⟨x,List.mem_of_getElem? hq,rfl⟩)
      exact⟨p,hp,by simp [hq];exact hv⟩⟩
end
theorem FnO.of_fn {P:Program} {f:Nat} {bs:List B} {v:Value} (h:Fn P f bs [.val v]) (hb:bs.all (B.hOk [])=true):FnO P f bs [] (V.v v) [] []:=by
 obtain⟨hc,hF⟩:=h
 refine⟨hc,fun w args ρ I hobj hargs=> ?_⟩
 obtain⟨a1,a2⟩:=hargs
 rw[List.all_eq_true]at hb
 refine(hF w args ⟨a1,fun j b u hj hu=>(a2 j b u hj hu).to (os:=[]) (hb b (List.mem_of_getElem? hj)) (fun h p hh=>by cases hh) hobj.im⟩).mono fun e w' hq=> ?_
 obtain⟨u,rfl,hv,hb⟩:=hq
 obtain rfl:u=v:=hv
 exact⟨u,rfl,ρ,I,fun _ _=>rfl,⟨(fun h o ho=>by cases ho),(fun h o p ho=>by cases ho),(fun h h' p p' o o' ho=>by cases ho),(fun b hi=>Nat.lt_of_lt_of_le (hobj.im b hi) hb.size),Rws.nil (fun h o ho=>by cases ho)⟩,rfl,fun b hi=> .inl hi,(fun b hq=>by rcases hq with⟨h,o,p,ho,_⟩ |⟨h,j,T,n,s,xs,cap,o,p,ho,_⟩<;>cases ho),hb.os,hb.tape,hb.output,hb.size,fun b hlt _=>hb.block b hlt⟩
def Ob.ren (π:Nat→Nat) (o:Ob):Ob:=⟨o.T,o.s,o.ex,o.cells.map (A.ren π)⟩
def bv (π:Nat→Nat):St→St
 | []=>[]
 | (.o h,some (.o o))::r=>(.o (π h),some (.o (o.ren π)))::bv π r
 | a::r=>a::bv π r
theorem HZ {π:Nat→Nat} {os:St} (hos:iw os=true) {h':Nat} {o':Ob} (hg:get (bv π os) (.o h')=some (.o o')):∃ h,h∈dS os∧π h=h':=by
  induction os with
  | nil=>cases hg
  | cons a r ih=>
    match a,hos with
    | (.o y,some (.o o)),hos=>
      simp only[bv,get]at hg
      rcases Bool.eq_false_or_eq_true (Key.eq (.o (π y)) (.o h'))with e |e<;>rw[e]at hg
      · have:=Key.eq_iff.1 e
        injection this with this
        exact⟨y,by simp [dS],this⟩
      · obtain⟨h,h1,h2⟩:=ih hos hg
        exact⟨h,by simp [dS,h1],h2⟩
theorem pA {π:Nat→Nat} {os:St} (hos:iw os=true) (hinj:∀ x∈dS os,∀ y∈dS os,π x=π y→x=y) {h:Nat} (hh:h∈dS os):get (bv π os) (.o (π h))=(get os (.o h)).map fun c=>match c with | .o o=> .o (o.ren π) |c=>c:=by
  have key:∀ (l:St),iw l=true→(∀ x∈dS l,x∈dS os)→h∈dS l→get (bv π l) (.o (π h))=(get l (.o h)).map fun c=>match c with | .o o=> .o (o.ren π) |c=>c:=by
    intro l
    induction l with
    | nil=>intro _ _ h;cases h
    | cons a r ih=>
      intro hl hsub hm
      match a,hl with
      | (.o y,some (.o o)),hl=>
        by_cases e:y=h
        · subst e
          simp only[bv]
          rw[bz,bz];rfl
        · have e2:π y≠π h:=fun q=>e (hinj y (hsub y (by simp [dS])) h hh q)
          simp only[bv]
          rw[bf (fj e2),bf (fj e)]
          have hm':h∈dS r:=by
            simp only[dS,List.mem_cons]at hm
            rcases hm with rfl |hm
            · exact absurd rfl e
            · exact hm
          exact ih hl (fun x hx=>hsub x (by simp [dS,hx])) hm'
  exact key os hos (fun x hx=>hx) hh
theorem lq {π:Nat→Nat} {os:St} (hos:iw os=true) (hinj:∀ x∈dS os,∀ y∈dS os,π x=π y→x=y) {h':Nat} {o':Ob} (hg:get (bv π os) (.o h')=some (.o o')):∃ h o,h∈dS os∧π h=h'∧get os (.o h)=some (.o o)∧o'=o.ren π:=by
 obtain⟨h,hh,rfl⟩:=HZ hos hg
 obtain⟨o,ho⟩:=wy hos ((eS hos).2 hh)
 rw[pA hos hinj hh,ho]at hg
 injection hg with hg;injection hg with hg
 exact⟨h,o,hh,rfl,ho,hg.symm⟩
theorem RelA.push {π:Nat→Nat} {os:St} {ρ ρ':Nat→Option Place} {I:Nat→Prop} {w:World} {x:A} {u:Value} (hx:x.hOk os=true) (hρ:∀ h p,has os (.o h)=true→ρ' h=some p→ρ (π h)=some p) (h:RelA ρ' I w x u):RelA ρ I w (x.ren π) u:=by
  cases x with
  | val v=>exact h
  | sl h0 off n=>obtain⟨p,A0,hp,r⟩:=h;exact⟨p,A0,hρ _ _ hx hp,r⟩
  | ptr h0 off=>obtain⟨p,hp,r⟩:=h;exact⟨p,hρ _ _ hx hp,r⟩
  | slv n s xs=>exact h
  | ptrv s xs off=>exact h
  | slvv s rows=>exact h
  | ptrvv s rows k=>exact h
  | slg T g n s xs=>exact h
  | row T n s xs=>exact h
  | fn f caps=>
    obtain⟨vs,e,hl,hc⟩:=h
    refine⟨vs,e,by simp [hl],fun j h' hj=> ?_⟩
    rw[List.getElem?_map]at hj
    cases hq:caps[j]? with
    | none=>rw[hq]at hj;simp at hj
    | some h=>
      rw[hq]at hj;simp at hj;subst hj
      obtain⟨p,hp,hv⟩:=hc j h hq
      simp only[A.hOk,List.all_eq_true]at hx
      exact⟨p,hρ _ _ (hx h (List.mem_of_getElem? hq)) hp,hv⟩
theorem RelA.pull {π:Nat→Nat} {ρ ρ':Nat→Option Place} {I:Nat→Prop} {w:World} {x:A} {u:Value} (hρ:∀ h p,ρ (π h)=some p→ρ' h=some p) (h:RelA ρ I w (x.ren π) u):RelA ρ' I w x u:=by
  cases x with
  | val v=>exact h
  | sl h0 off n=>obtain⟨p,A0,hp,r⟩:=h;exact⟨p,A0,hρ _ _ hp,r⟩
  | ptr h0 off=>obtain⟨p,hp,r⟩:=h;exact⟨p,hρ _ _ hp,r⟩
  | slv n s xs=>exact h
  | ptrv s xs off=>exact h
  | slvv s rows=>exact h
  | ptrvv s rows k=>exact h
  | slg T g n s xs=>exact h
  | row T n s xs=>exact h
  | fn f caps=>
    obtain⟨vs,e,hl,hc⟩:=h
    refine⟨vs,e,by simpa using hl,fun j h hj=> ?_⟩
    obtain⟨p,hp,hv⟩:=hc j (π h) (by simp [hj])
    exact⟨p,hρ _ _ hp,hv⟩
theorem RelB.push {π:Nat→Nat} {os:St} {ρ ρ':Nat→Option Place} {I:Nat→Prop} {w:World} {x:B} {u:Value} (hx:x.hOk os=true) (hρ:∀ h p,has os (.o h)=true→ρ' h=some p→ρ (π h)=some p) (h:RelB ρ' I w x u):RelB ρ I w (x.ren π) u:=by
  cases x with
  | a x=>exact RelA.push hx hρ h
  | agg xs=>
    obtain⟨cs,e,hl,hc⟩:=h
    simp only[B.hOk,List.all_eq_true]at hx
    refine⟨cs,e,by simpa using hl,fun j x c h1 h2=> ?_⟩
    rw[List.getElem?_map]at h1
    cases hq:xs[j]? with
    | none=>rw[hq]at h1;simp at h1
    | some y=>rw[hq]at h1;simp at h1;subst h1;exact RelA.push (hx y (List.mem_of_getElem? hq)) hρ (hc j y c hq h2)
theorem RelV.push {π:Nat→Nat} {os:St} {ρ ρ':Nat→Option Place} {I:Nat→Prop} {w:World} {x:V} {u:Value} (h:RelV ρ' I w x u) (hx:x.hOk os=true) (hρ:∀ h p,has os (.o h)=true→ρ' h=some p→ρ (π h)=some p):RelV ρ I w (x.ren π) u:=by
  cases x with
  | b x=>exact RelB.push hx hρ h
  | tup xs=>
    obtain⟨cs,e,hl,hc⟩:=h
    simp only[V.hOk,List.all_eq_true]at hx
    refine⟨cs,e,by simpa using hl,fun j x c h1 h2=> ?_⟩
    rw[List.getElem?_map]at h1
    cases hq:xs[j]? with
    | none=>rw[hq]at h1;simp at h1
    | some y=>rw[hq]at h1;simp at h1;subst h1;exact RelB.push (hx y (List.mem_of_getElem? hq)) hρ (hc j y c hq h2)
def back (π:Nat→Nat) (l:List Nat) (h':Nat):Option Nat:=l.find? fun h=>π h==h'
theorem rH {π:Nat→Nat} {l:List Nat} (hinj:∀ x∈l,∀ y∈l,π x=π y→x=y) {h:Nat} (hh:h∈l):back π l (π h)=some h:=by
  unfold back
  cases hq:l.find? fun x=>π x==π h with
  | none=>rw[List.find?_eq_none]at hq;exact absurd (by simp) (hq h hh)
  | some x=>
    have h1:=List.find?_some hq
    have h2:=List.mem_of_find?_eq_some hq
    rw[hinj x h2 h hh (by simpa using h1)]
def subL (l m:List Nat):Bool:=l.all m.contains
theorem CM {l m:List Nat} (h:subL l m=true) {x:Nat} (hx:x∈l):x∈m:=by
 unfold subL at h;rw[List.all_eq_true]at h;simpa using h x hx
theorem FnO.ren {P:Program} {f:Nat} {bs:List B} {os os':St} {r:V} {keep:List Nat} (hF:FnO P f bs os r os' keep) (π:Nat→Nat) (hos:iw os=true) (hos':iw os'=true) (hi:sG π (dS os++dS os')=true) (hk:subL keep (dS os)=true) (hco:OCells (fun x=>x.hOk os'=true) os') (hrn:r.hOk os'=true):
    FnO P f (bs.map (B.ren π)) (bv π os) (r.ren π) (bv π os') (keep.map π):=by
  obtain⟨hcl,hF⟩:=hF
  have hinjA:∀ x∈dS os++dS os',∀ y∈dS os++dS os',π x=π y→x=y:=fun x hx y hy e=>nT hi hx hy e
  have hinj:∀ x∈dS os,∀ y∈dS os,π x=π y→x=y:=fun x hx y hy e=>hinjA x (by simp [hx]) y (by simp [hy]) e
  have hinj':∀ x∈dS os',∀ y∈dS os',π x=π y→x=y:=fun x hx y hy e=>hinjA x (by simp [hx]) y (by simp [hy]) e
  refine⟨hcl,fun w args ρ I hobj hargs=> ?_⟩
  let ρ0:Nat→Option Place:=fun h=>ρ (π h)
  have hrow1:∀ {h j T n s xs b cap},RowIn os w ρ0 h j T n s xs b cap→RowIn (bv π os) w ρ (π h) j T n s xs b cap:=by
    rintro h j T n s xs b cap ⟨o,p,q1,q2,q3,q4,q5⟩
    have hg:=pA hos hinj ((eS hos).1 (cW q1))
    rw[q1]at hg
    exact⟨o.ren π,p,hg,q2,q3,by simp only[Ob.ren,List.getElem?_map,q4];rfl,q5⟩
  have hblk:∀ b,oD ρ0 w os b→oD ρ w (bv π os) b:=fun b hq=>by
    rcases hq with⟨h,o,p,ho,hp,hl,e⟩ |⟨h,j,T,n,s,xs,cap,hr⟩
    · have hm:=(eS hos).1 (cW ho)
      have hg:=pA hos hinj hm
      rw[ho]at hg
      exact .inl ⟨π h,o.ren π,p,hg,hp,hl,e⟩
    · exact .inr ⟨π h,j,T,n,s,xs,cap,hrow1 hr⟩
  have hobj':Objs ρ0 I w os:=by
    have gg:∀ h o,get os (.o h)=some (.o o)→get (bv π os) (.o (π h))=some (.o (o.ren π)):=fun h o ho=>by
      have hg:=pA hos hinj ((eS hos).1 (cW ho))
      rw[ho]at hg
      exact hg
    refine⟨fun h o ho=> ?_,fun h o p ho hp hl=>hobj.pl _ _ p (gg h o ho) hp hl,fun h h' p p' o o' ho ho' hp hp' hl hl' e=> ?_,hobj.im,hobj.rs.map (fun h j=>(π h,j)) hrow1 (fun {_ _ _ _ _ _ _ _ _ _ _ _ _ _ _} hr hr' e=>by
        injection e with e1 e2
        obtain⟨o1,_,g1,_⟩:=hr
        obtain⟨o2,_,g2,_⟩:=hr'
        exact⟨hinj _ ((eS hos).1 (cW g2)) _ ((eS hos).1 (cW g1)) e1,e2⟩) (fun hr=>⟨rfl,(hobj.rs.ok hr).ni,(hobj.rs.ok hr).lt⟩) fun hr h1 h2 h3=>hobj.rs.sep hr (gg _ _ h1) h2 h3⟩
    · obtain⟨p,hp,q1,q2,q3,qz,q4⟩:=hobj.ow (π h) (o.ren π) (gg h o ho)
      refine⟨p,hp,q1,by simpa [Ob.ren] using q2,q3,qz,fun hl=> ?_⟩
      obtain⟨cur,c1,c2,c3,c4⟩:=q4 hl
      refine⟨cur,c1,c2,c3,fun j x hj=> ?_⟩
      obtain⟨u,hu,hr⟩:=c4 j (x.ren π) (by simp [Ob.ren,hj])
      exact⟨u,hu,RelA.pull (π:=π) (ρ:=ρ) (fun h p hp=>hp) hr⟩
    · exact hinj h ((eS hos).1 (cW ho)) h' ((eS hos).1 (cW ho')) (hobj.inj _ _ p p' _ _ (gg h o ho) (gg h' o' ho') hp hp' hl hl' e)
  have hargs':zU ρ0 I w bs args:=by
    obtain⟨a1,a2⟩:=hargs
    refine⟨by simpa using a1,fun j b u hj hu=> ?_⟩
    have hr:=a2 j (b.ren π) u (by simp [hj]) hu
    cases b with
    | a x=>exact RelA.pull (π:=π) (ρ:=ρ) (fun h p hp=>hp) hr
    | agg xs=>
      obtain⟨cs,e,hl,hx⟩:=hr
      exact⟨cs,e,by simpa using hl,fun j x c h1 h2=>RelA.pull (π:=π) (ρ:=ρ) (fun h p hp=>hp) (hx j (x.ren π) c (by simp [h1]) h2)⟩
  refine(hF w args ρ0 I hobj' hargs').mono fun e w' h=> ?_
  obtain⟨u,e1,ρ',I',hkeep,hob,hrel,hi1,hi2,f1,f2,f3,f4,f5⟩:=h
  refine⟨u,e1,?_⟩
  let l:=dS os++dS os'
  let ρ2:Nat→Option Place:=fun h'=>match back π l h' with |some h=>ρ' h |none=>none
  have r2:∀ h,h∈l→ρ2 (π h)=ρ' h:=fun h hh=>by show(match back π l (π h)with |some h=>ρ' h |none=>none)=ρ' h;rw[rH hinjA hh]
  have r3:∀ h p,has os' (.o h)=true→ρ' h=some p→ρ2 (π h)=some p:=fun h p hh hp=>by rw[r2 h (List.mem_append_right _ ((eS hos').1 hh))];exact hp
  have hrow2:∀ {h' j T n s xs b cap},RowIn (bv π os') w' ρ2 h' j T n s xs b cap→∃ h,h∈dS os'∧π h=h'∧RowIn os' w' ρ' h j T n s xs b cap:=by
    rintro h' j T n s xs b cap ⟨o',p,q1,q2,q3,q4,q5⟩
    obtain⟨h,o,hh,rfl,h2,rfl⟩:=lq hos' hinj' q1
    refine⟨h,hh,rfl,o,p,h2,(r2 h (List.mem_append_right _ hh))▸q2,q3,?_,q5⟩
    simp only[Ob.ren,List.getElem?_map]at q4
    cases hq:o.cells[j]? with
    | none=>rw[hq]at q4;simp at q4
    | some y=>
      rw[hq]at q4;simp only[Option.map_some,Option.some.injEq]at q4
      cases y<;>simp only[A.ren]at q4<;>first |exact congrArg some q4 |cases q4
  have hrw2:Rws (bv π os') w' ρ2 I':=by
    refine hob.rs.map (fun h' j=>((back π l h').getD 0,j)) (fun {h' j _ _ _ _ _ _} hr=> ?_) (fun {h j _ _ _ _ _ _ h' j' _ _ _ _ _} hr hr' e=> ?_) (fun hr=>⟨rfl,(hob.rs.ok hr).ni,(hob.rs.ok hr).lt⟩) fun hr h1 h2 h3=> ?_
    · obtain⟨h,hh,rfl,hr2⟩:=hrow2 hr
      rw[rH hinjA (List.mem_append_right _ hh)]
      exact hr2
    · obtain⟨h1,hh1,rfl,_⟩:=hrow2 hr
      obtain⟨h2,hh2,rfl,_⟩:=hrow2 hr'
      rw[rH hinjA (List.mem_append_right _ hh1),rH hinjA (List.mem_append_right _ hh2)]at e
      injection e with e1 e2
      exact⟨congrArg π e1,e2⟩
    · obtain⟨h,o,hh,rfl,h4,rfl⟩:=lq hos' hinj' h1
      exact hob.rs.sep hr h4 ((r2 h (List.mem_append_right _ hh))▸h2) h3
  refine⟨fun h'=>match back π l h' with |some h=>ρ' h |none=>none,I',fun y hy=> ?_,⟨fun h' o' ho'=> ?_,fun h' o' p ho' hp hl=> ?_,fun h1 h2 p p' o1 o2 ho1 ho2 hp hp' hl hl' e=> ?_,hob.im,hrw2⟩,hrel.push hrn r3,fun b hb=>(hi1 b hb).imp_right fun q=>q.imp_left (hblk b),fun b hq=> ?_,f1,f2,f3,f4,fun b hlt hn=>f5 b hlt fun q=>hn (hblk b q)⟩
  · obtain⟨x,hx,rfl⟩:=List.mem_map.1 hy
    show ρ2 (π x)=ρ (π x)
    rw[r2 x (List.mem_append_left _ (CM hk hx))]
    exact hkeep x hx
  · obtain⟨h,o,hh,rfl,h2,rfl⟩:=lq hos' hinj' ho'
    obtain⟨p,hp,q1,q2,q3,qz,q4⟩:=hob.ow h o h2
    refine⟨p,r3 h p (cW h2) hp,q1,by simpa [Ob.ren] using q2,q3,qz,fun hl=> ?_⟩
    obtain⟨cur,c1,c2,c3,c4⟩:=q4 hl
    refine⟨cur,c1,c2,c3,fun j x hj=> ?_⟩
    simp only[Ob.ren,List.getElem?_map]at hj
    cases hq:o.cells[j]? with
    | none=>rw[hq]at hj;simp at hj
    | some y=>
      rw[hq]at hj;simp at hj;subst hj
      obtain⟨u,hu,hr⟩:=c4 j y hq
      refine⟨u,hu,?_⟩
      exact RelA.push (hco.get hos' h2 y (List.mem_of_getElem? hq)) r3 hr
  · obtain⟨h,o,hh,rfl,h2,rfl⟩:=lq hos' hinj' ho'
    exact hob.pl h o p h2 ((r2 h (List.mem_append_right _ hh))▸hp) hl
  · obtain⟨a1,o3,m1,rfl,g1,rfl⟩:=lq hos' hinj' ho1
    obtain⟨a2,o4,m2,rfl,g2,rfl⟩:=lq hos' hinj' ho2
    have:=hob.inj a1 a2 p p' o3 o4 g1 g2 ((r2 a1 (List.mem_append_right _ m1))▸hp) ((r2 a2 (List.mem_append_right _ m2))▸hp') hl hl' e
    rw[this]
  · rcases hq with⟨h',o',p,ho',hp,hl,e⟩ |⟨h',j,T,n,s,xs,cap,hr⟩
    · obtain⟨h,o,hh,rfl,h2,rfl⟩:=lq hos' hinj' ho'
      exact(hi2 b (.inl ⟨h,o,p,h2,(r2 h (List.mem_append_right _ hh))▸hp,hl,e⟩)).imp_left (hblk b)
    · obtain⟨h,hh,rfl,hr2⟩:=hrow2 hr
      exact(hi2 b (.inr ⟨h,j,T,n,s,xs,cap,hr2⟩)).imp_left (hblk b)
theorem aY {π:Nat→Nat} {xs:List Value}:(pl xs).map (A.ren π)=pl xs:=by
 unfold pl;rw[List.map_map];rfl
theorem FnO.ren' {P:Program} {f:Nat} {bs bs2:List B} {os os' os2 os2':St} {r r2:V} {keep keep2:List Nat} (hF:FnO P f bs os r os' keep) (π:Nat→Nat) (hos:iw os=true) (hos':iw os'=true) (hi:sG π (dS os++dS os')=true) (hk:subL keep (dS os)=true) (hco:OCells (fun x=>x.hOk os'=true) os') (hrn:r.hOk os'=true)
  (e1:bs.map (B.ren π)=bs2) (e2:bv π os=os2) (e3:bv π os'=os2') (e4:keep.map π=keep2) (e5:r.ren π=r2):FnO P f bs2 os2 r2 os2' keep2:=by
 subst e1;subst e2;subst e3;subst e4;subst e5;exact hF.ren π hos hos' hi hk hco hrn
end Cl
end Go.Proofs.YtgmkkfdnmdohlaaGreatDoor
namespace Go.Proofs.YtgmkkfdnmdohlaaGreatDoor
namespace Cl
open Go.ChangeShapes Go.WideShapes Go.ChangeAt Go.RowKit
def tG (L:List (List Dom)):List A:=L.map fun r=> .slv r.length 3 (dsl r)
def tH (L:List (List Int)):List A:=L.map fun r=> .slv r.length 1 (isl r)
def tF (L:List (List Cel)):List A:=L.map fun r=> .slv r.length 2 (csl r)
theorem ak {π:Nat→Nat} (L:List (List Dom)):(tG L).map (A.ren π)=tG L:=by unfold tG;rw[List.map_map];rfl
theorem am {π:Nat→Nat} (L:List (List Int)):(tH L).map (A.ren π)=tH L:=by unfold tH;rw[List.map_map];rfl
theorem aj {π:Nat→Nat} (L:List (List Cel)):(tF L).map (A.ren π)=tF L:=by unfold tF;rw[List.map_map];rfl
theorem bh {p:A→Prop} {xs:List Value} (h:∀ v,p (.val v)):∀ x∈pl xs,p x:=fun x hx=>by
 unfold pl at hx;obtain⟨v,_,rfl⟩:=List.mem_map.1 hx;exact h v
theorem ocs {os:St} {cells:List A} (h:cells.all (A.hOk os)=true):∀ x∈cells,A.hOk os x=true:=by rwa [List.all_eq_true]at h
theorem bT {σ:St} {k:Key} {T s:Nat} {ex:Bool} {c c':List A} (h:get σ k=some (.o ⟨T,s,ex,c⟩)) (e:c=c'):get σ k=some (.o ⟨T,s,ex,c'⟩):=by rw[←e];exact h
theorem dC {P:Program} {σ:St} (t:Nat) (b b':B) (hg:get σ (.s t)=some (.s (.b b))) (e:b=b'):VO P σ (.tmp t) b':=by subst e;exact .tmp t b hg
end Cl
end Go.Proofs.YtgmkkfdnmdohlaaGreatDoor
namespace Go.Proofs.YtgmkkfdnmdohlaaGreatDoor
namespace Cl
open Go.ChangeShapes Go.WideShapes Go.ChangeAt Go.RowKit
section
variable {Γ:Cx} {d:Nat} {ty:TypeId} {pos:String} {af:Array Edge} {g:Option (Nat × Bool)}
end
theorem Sat.freeze {Γ:Cx} {σ:St} {a:Act} {w:World} {ρ:Nat→Option Place} {I:Nat→Prop} (hs:Sat Γ σ a w ρ I) {h:Nat} {o:Ob} (ho:get σ (.o h)=some (.o o)) {p:Place} (hp:ρ h=some p) (hl:p.live=true):
  Sat Γ ((.o h,none)::σ) a w ρ (fun b=>I b∨b=p.block):=by
 obtain⟨q1,q2,q3⟩:=hs.m.pl h p o ho hp hl
 have hI:∀ b,I b→(I b∨b=p.block)∧w.heap[b]? =w.heap[b]? :=fun b hb=>⟨.inl hb,rfl⟩
 have hgs:∀ k,get ((Key.o h,none)::σ) (.s k)=get σ (.s k):=fun k=>bf rfl
 have hgo:∀ y,y≠h→get ((Key.o h,none)::σ) (.o y)=get σ (.o y):=fun y hy=>bf (fj (fun e=>hy e.symm))
 have hne:∀ y c,get ((Key.o h,none)::σ) (.o y)=some c→y≠h:=fun y c hy e=>by subst e;rw[bz]at hy;cases hy
 refine⟨hs.n,hs.d,fun k x h' hk hg hh=>hs.fx k x h' hk ((hgs k)▸hg) hh,⟨hs.kp.1,fun b hb=> ?_⟩,fun k v hk=>(hs.sl k v ((hgs k)▸hk)).mono (fun _ _ h=>h) hI,?_⟩
 ·rcases hb with hb |rfl
  ·exact hs.kp.2 b hb
  ·exact .inr q2
 ·have hrw:=hs.m.rows (τ:=(.o h,none)::σ) (w':=w) (ρ':=ρ) (I':=fun b=>I b∨b=p.block) (fun y o' hy=>(Sat.get_kill hy).2) (fun _ _ _ _ h=>h) (fun _ _ _ _ _ _=>rfl) fun hr=>⟨rfl,(fun hb=>hb.elim (hs.m.rs.ok hr).ni fun e=>hs.m.rs.sep hr ho hp hl e.symm),(hs.m.rs.ok hr).lt⟩
  refine⟨fun y o' hy=> ?_,fun y hy=> ?_,fun y p' o' hy hp' hl'=> ?_,fun y z p1 p2 o1 o2 hy hz hp1 hp2 hl1 hl2 e=> ?_,fun b hb=> ?_,hrw.1,hrw.2,hs.m.fm⟩
  ·have:=hne y _ hy
   rw[hgo y this]at hy
   exact(hs.m.ow y o' hy).mono (fun _ _ h=>h) hI fun _ _ _=>rfl
  ·have:=hne y _ hy
   rw[hgo y this]at hy
   exact hs.m.fr y hy
  ·have hn:=hne y _ hy
   rw[hgo y hn]at hy
   obtain⟨r1,r2,r3⟩:=hs.m.pl y p' o' hy hp' hl'
   refine⟨fun hb=> ?_,r2,r3⟩
   rcases hb with hb |hb
   ·exact r1 hb
   ·exact hn (hs.m.inj y h p' p o' o hy ho hp' hp hl' hl hb)
  ·have n1:=hne y _ hy
   have n2:=hne z _ hz
   rw[hgo y n1]at hy
   rw[hgo z n2]at hz
   exact hs.m.inj y z p1 p2 o1 o2 hy hz hp1 hp2 hl1 hl2 e
  ·rcases hb with hb |rfl
   ·exact hs.m.im b hb
   ·exact q3
theorem Sat.drop {Γ:Cx} {σ:St} {a:Act} {w:World} {ρ:Nat→Option Place} {I:Nat→Prop} (hs:Sat Γ σ a w ρ I) (h:Nat):Sat Γ ((.o h,none)::σ) a w ρ I:=by
 have hgs:∀ k,get ((Key.o h,none)::σ) (.s k)=get σ (.s k):=fun k=>bf rfl
 have hgo:∀ y,y≠h→get ((Key.o h,none)::σ) (.o y)=get σ (.o y):=fun y hy=>bf (fj (fun e=>hy e.symm))
 have hne:∀ y c,get ((Key.o h,none)::σ) (.o y)=some c→y≠h:=fun y c hy e=>by subst e;rw[bz]at hy;cases hy
 refine⟨hs.n,hs.d,fun k x h' hk hg hh=>hs.fx k x h' hk ((hgs k)▸hg) hh,hs.kp,fun k v hk=>hs.sl k v ((hgs k)▸hk),?_⟩
 refine⟨fun y o' hy=> ?_,fun y hy=> ?_,fun y p' o' hy=> ?_,fun y z p1 p2 o1 o2 hy hz=> ?_,hs.m.im,(hs.m.rows0 fun y o hy=>(Sat.get_kill hy).2).1,(hs.m.rows0 fun y o hy=>(Sat.get_kill hy).2).2,hs.m.fm⟩
 ·rw[hgo y (hne y _ hy)]at hy;exact hs.m.ow y o' hy
 ·rw[hgo y (hne y _ hy)]at hy;exact hs.m.fr y hy
 ·rw[hgo y (hne y _ hy)]at hy;exact hs.m.pl y p' o' hy
 ·rw[hgo y (hne y _ hy)]at hy;rw[hgo z (hne z _ hz)]at hz;exact hs.m.inj y z p1 p2 o1 o2 hy hz
theorem Sat.rename {Γ:Cx} {σ:St} {a:Act} {w:World} {ρ:Nat→Option Place} {I:Nat→Prop} (hs:Sat Γ σ a w ρ I) {k:Nat} {v:V} (hv:RelV ρ I w v (a.tmps.getD k undef)) (hh:∀ x,v= .b (.a x)→∀ h,¬x.hd h):Sat Γ ((.s k,some (.s v))::σ) a w ρ I:=by
  have hg:∀ x,get ((Key.s k,some (Cell.s v))::σ) (.o x)=get σ (.o x):=fun x=>bf rfl
  refine⟨hs.n,hs.d,fun k' x h' hf hgx hx=> ?_,hs.kp,fun k' v' hk'=> ?_,?_⟩
  · by_cases e:k=k'
    · subst e
      rw[bz]at hgx
      injection hgx with hgx;injection hgx with hgx
      exact absurd hx (hh x hgx h')
    · rw[bf (lZ e)]at hgx
      exact hs.fx k' x h' hf hgx hx
  · by_cases e:k=k'
    · subst e
      rw[bz]at hk'
      injection hk' with hk';injection hk' with hk'
      subst hk'
      exact hv
    · rw[bf (lZ e)]at hk'
      exact hs.sl k' v' hk'
  · exact⟨fun x o ho=>hs.m.ow x o ((hg x)▸ho),fun x hx=>hs.m.fr x ((hg x)▸hx),fun x p o ho=>hs.m.pl x p o ((hg x)▸ho),fun x y p p' o o' h1 h2=>hs.m.inj x y p p' o o' ((hg x)▸h1) ((hg y)▸h2),hs.m.im,(hs.m.rows0 fun x o ho=>(hg x)▸ho).1,(hs.m.rows0 fun x o ho=>(hg x)▸ho).2,hs.m.fm⟩
theorem BO {ρ:Nat→Option Place} {I:Nat→Prop} {w:World} {h T s:Nat} {ex:Bool} {xs:List Value} (ho:Own ρ I w h ⟨T,s,ex,pl xs⟩) (hx:0<xs.length):∃ p,ρ h=some p∧p.live=true∧p.size=s∧∀ (j:Nat) x,xs[j]? =some x→w.cell? ⟨p.block,p.base+j,none⟩=some x:=by
 obtain⟨p,hp,q1,q2,q3,qz,q4⟩:=ho
 have hl:p.live=true:=by
  rcases Bool.eq_false_or_eq_true p.live with e |e
  ·exact e
  ·have:=qz e
   rw[this,Nat.zero_mul]at q2
   rw[show(⟨T,s,ex,pl xs⟩:Ob).cells=pl xs from rfl,iy]at q2
   omega
 refine⟨p,hp,hl,q1,fun j x hj=> ?_⟩
 obtain⟨cur,c1,c2,c3,c4⟩:=q4 hl
 obtain⟨u,hu,hr⟩:=c4 j (.val x) (jY hj)
 have hr:u=x:=hr
 subst hr
 simp [World.cell?,c1,hu]
theorem tV {Γ:Cx} {σ:St} {k h T s off n:Nat} {ex:Bool} {xs ys:List Value} (hk:get σ (.s k)=some (.s (.b (.a (.sl h off n))))) (ho:get σ (.o h)=some (.o ⟨T,s,ex,pl xs⟩)) (hx:(off+n)*s≤xs.length) (hs0:0<s) (hy:(xs.drop (off*s)).take (n*s)=ys):
  eO Γ σ ((.s k,some (.s (.b (.a (.slv n s ys)))))::(.o h,none)::σ):=by
 intro a w ⟨ρ,I,hs⟩
 obtain⟨p',A0,hp',he,hcap,hA⟩:=hs.sl k _ hk
 have hyl:ys.length=n*s:=by rw[←hy];simp only[List.length_take,List.length_drop];rw[Nat.add_mul]at hx;omega
 have hhd:∀ x,V.b (B.a (A.slv n s ys))=V.b (B.a x)→∀ h',¬x.hd h':=fun x hx h'=>by
  injection hx with hx;injection hx with hx;subst hx;exact id
 rcases Nat.eq_zero_or_pos n with hn |hn
 ·exact⟨ρ,I,(hs.drop h).rename ⟨hyl,A0,p'.cap-off,he,by omega,fun h=>by omega⟩ hhd⟩
 ·have hpos:0<xs.length:=Nat.lt_of_lt_of_le (Nat.mul_pos (by omega) hs0) hx
  obtain⟨p,hp,hl,hsz,hc⟩:=BO (hs.m.ow h _ ho) hpos
  rw[hp]at hp';injection hp' with hp';subst hp'
  refine⟨ρ,_,(hs.freeze ho hp hl).rename ⟨hyl,A0,p.cap-off,he,by omega,fun _=>⟨p.block,p.base+off*s,?_,.inr rfl,fun j x hj=> ?_⟩⟩ hhd⟩
  ·rw[hA (.inr (by omega)),hl,hsz];rfl
  ·rw[Nat.add_assoc]
   apply hc
   rw[←hy,List.getElem?_take]at hj
   split at hj
   ·rw[List.getElem?_drop]at hj;exact hj
   ·cases hj
section
variable {Γ:Cx} {d:Nat} {ty:TypeId} {pos:String} {af:Array Edge} {g:Option (Nat × Bool)}
end
end Cl
end Go.Proofs.YtgmkkfdnmdohlaaGreatDoor
namespace Go.Proofs.YtgmkkfdnmdohlaaGreatDoor
namespace Cl
open Go.ChangeShapes Go.WideShapes Go.ChangeAt Go.RowKit
theorem Sat.rnobN {Γ:Cx} {σ:St} {a:Act} {w:World} {ρ:Nat→Option Place} {I:Nat→Prop} (hs:Sat Γ σ a w ρ I) {j T s:Nat} {ex:Bool} {cs cs':List A} (ho:get σ (.o j)=some (.o ⟨T,s,ex,cs⟩)) (hl:cs'.length≤cs.length)
    (hr:∀ (i:Nat) (x':A),cs'[i]? =some x'→∃ x,cs[i]? =some x∧∀ u,RelA ρ I w x u→RelA ρ I w x' u) (hrow:∀ (i:Nat) (x':A),cs'[i]? =some x'→x'.isRow=true→cs[i]? =some x'∨cs[i]? =some (.val (.slice none 0 0))):Sat Γ ((.o j,some (.o ⟨T,s,ex,cs'⟩))::σ) a w ρ I:=by
  have hgs:∀ k,get ((Key.o j,some (Cell.o ⟨T,s,ex,cs'⟩))::σ) (.s k)=get σ (.s k):=fun k=>bf rfl
  have hgo:∀ y,y≠j→get ((Key.o j,some (Cell.o ⟨T,s,ex,cs'⟩))::σ) (.o y)=get σ (.o y):=fun y hy=>bf (fj (fun e=>hy e.symm))
  have hback:∀ y o,get ((Key.o j,some (Cell.o ⟨T,s,ex,cs'⟩))::σ) (.o y)=some (.o o)→∃ o',get σ (.o y)=some (.o o'):=by
    intro y o hy
    by_cases e:y=j
    · subst e;exact⟨_,ho⟩
    · rw[hgo y e]at hy;exact⟨_,hy⟩
  have hin:∀ {h i T' n s' xs b cap},RowIn ((Key.o j,some (Cell.o ⟨T,s,ex,cs'⟩))::σ) w ρ h i T' n s' xs b cap→RowIn σ w ρ h i T' n s' xs b cap:=by
    rintro h i T' n s' xs b cap ⟨o1,p1,q1,q2,q3,q4,q5⟩
    by_cases e:h=j
    · subst e
      rw[bz]at q1
      injection q1 with q1;injection q1 with q1
      subst q1
      rcases hrow i _ q4 rfl with e |e
      · exact⟨_,p1,ho,q2,q3,e,q5⟩
      · obtain⟨p',hp',_,_,_,_,k4⟩:=hs.m.ow h _ ho
        rw[q2]at hp';injection hp' with hp';subst hp'
        obtain⟨cur,c1,_,_,c4⟩:=k4 q3
        obtain⟨u,hu,hv⟩:=c4 i _ e
        have hv:u= .slice none 0 0:=hv
        rw[World.cell?,c1]at q5
        simp [hu,hv]at q5
    · rw[hgo h e]at q1
      exact⟨o1,p1,q1,q2,q3,q4,q5⟩
  have hrw:Rws ((Key.o j,some (Cell.o ⟨T,s,ex,cs'⟩))::σ) w ρ I:=hs.m.rs.map (fun h i=>(h,i)) hin (fun _ _ e=>by injection e with e1 e2;exact⟨e1,e2⟩) (fun hr=>⟨rfl,(hs.m.rs.ok hr).ni,(hs.m.rs.ok hr).lt⟩) fun hr h1 h2 h3=>by
    obtain⟨o'',ho''⟩:=hback _ _ h1
    exact hs.m.rs.sep hr ho'' h2 h3
  refine⟨hs.n,hs.d,fun k x h' hk hg hh=>hs.fx k x h' hk ((hgs k)▸hg) hh,hs.kp,fun k v hk=>hs.sl k v ((hgs k)▸hk),?_⟩
  refine⟨fun y o' hy=> ?_,fun y hy=> ?_,fun y p' o' hy=> ?_,fun y z p1 p2 o1 o2 hy hz=> ?_,hs.m.im,hrw,fun hr=>hs.m.rp (hin hr),hs.m.fm⟩
  · by_cases e:y=j
    · subst e
      rw[bz]at hy
      injection hy with hy;injection hy with hy
      subst hy
      obtain⟨p,hp,q1,q2,q3,qz,q4⟩:=hs.m.ow y _ ho
      refine⟨p,hp,q1,?_,q3,qz,fun hlv=> ?_⟩
      · exact Nat.le_trans hl q2
      · obtain⟨cur,c1,c2,c3,c4⟩:=q4 hlv
        refine⟨cur,c1,c2,c3,fun i x' hx'=> ?_⟩
        obtain⟨x,hx,hu⟩:=hr i x' hx'
        obtain⟨u,hu1,hu2⟩:=c4 i x hx
        exact⟨u,hu1,hu u hu2⟩
    · rw[hgo y e]at hy;exact hs.m.ow y o' hy
  · by_cases e:y=j
    · subst e;rw[bz]at hy;injection hy with hy;cases hy
    · rw[hgo y e]at hy;exact hs.m.fr y hy
  · intro h1 h2
    obtain⟨o'',ho''⟩:=hback y o' hy
    exact hs.m.pl y p' o'' ho'' h1 h2
  · obtain⟨o1',h1'⟩:=hback y o1 hy
    obtain⟨o2',h2'⟩:=hback z o2 hz
    exact hs.m.inj y z p1 p2 o1' o2' h1' h2'
theorem Sat.rnob {Γ:Cx} {σ:St} {a:Act} {w:World} {ρ:Nat→Option Place} {I:Nat→Prop} (hs:Sat Γ σ a w ρ I) {j T s:Nat} {ex:Bool} {cs cs':List A} (ho:get σ (.o j)=some (.o ⟨T,s,ex,cs⟩)) (hl:cs'.length≤cs.length)
  (hr:∀ (i:Nat) (x':A),cs'[i]? =some x'→∃ x,cs[i]? =some x∧∀ u,RelA ρ I w x u→RelA ρ I w x' u) (hrow:∀ (i:Nat) (x':A),cs'[i]? =some x'→x'.isRow=true→cs[i]? =some x'):Sat Γ ((.o j,some (.o ⟨T,s,ex,cs'⟩))::σ) a w ρ I:=
 hs.rnobN ho hl hr fun i x' h1 h2=> .inl (hrow i x' h1 h2)
section
variable {Γ:Cx} {d:Nat} {ty:TypeId} {pos:String} {af:Array Edge} {g:Option (Nat × Bool)}
end
theorem rZ {Γ:Cx} {c:Code} {K:Exit→St→Prop} {σ:St} (σ':St) (h1:Wp Γ c (fun e τ=>e= .normal∧eO Γ τ σ') σ) (h2:K .normal σ'):Wp Γ c K σ:=by
 intro a w hs
 refine wp_mono (h1 a w hs) fun e a' w' hq=> ?_
 obtain⟨τ,hτ,he,hw⟩:=hq
 subst he
 exact⟨σ',hw a' w' hτ,h2⟩
def ReadsS (σ:St):St→Prop
 | []=>True
 | (k,some c)::r=>get σ k=some c∧ReadsS σ r
 | (_,none)::r=>ReadsS σ r
theorem ReadsS.get {σ τ:St} (h:ReadsS σ τ) {k:Key} {c:Cell} (hk:Cl.get τ k=some c):Cl.get σ k=some c:=by
  induction τ with
  | nil=>cases hk
  | cons a r ih=>
    obtain⟨k',oc⟩:=a
    rcases Bool.eq_false_or_eq_true (Key.eq k' k)with e |e
    · have e2:=Key.eq_iff.1 e
      subst e2
      rw[bz]at hk
      subst hk
      exact h.1
    · rw[bf e]at hk
      cases oc with
      | none=>exact ih h hk
      | some c'=>exact ih h.2 hk
theorem dM {Γ:Cx} {σ τ:St} (h:ReadsS σ τ):eO Γ σ τ:=by
 intro a w ⟨ρ,I,hs⟩
 exact⟨ρ,I,hs.n,hs.d,fun k x h' hf hg hh=>hs.fx k x h' hf (h.get hg) hh,hs.kp,fun k v hk=>hs.sl k v (h.get hk),
  ⟨fun x o ho=>hs.m.ow x o (h.get ho),fun x hx=>hs.m.fr x (h.get hx),fun x p o ho=>hs.m.pl x p o (h.get ho),fun x y p p' o o' h1 h2=>hs.m.inj x y p p' o o' (h.get h1) (h.get h2),hs.m.im,(hs.m.rows0 fun x o ho=>h.get ho).1,(hs.m.rows0 fun x o ho=>h.get ho).2,hs.m.fm⟩⟩
theorem yN {a b:Bool} (h:(a&&b)=true):a=true∧b=true:=by rwa [Bool.and_eq_true]at h
theorem Df {a b:Bool} (h:(a&&b)=false):a=false∨b=false:=by cases a<;>cases b<;>simp_all
theorem AH {a b:Bool} (h:(a||b)=false):a=false∧b=false:=by cases a<;>cases b<;>simp_all
theorem Jb {a b:Bool} (h:(a||b)=true):a=true∨b=true:=by cases a<;>cases b<;>simp_all
theorem Jf {P:Program} {fn:Func} {r1 r2 r3:ResultVar} {b1 b2 b3:B} (hr:fn.results= #[r1,r2,r3]):∀ Γ σ a w ρ I,Γ.P=P→Sat Γ σ a w ρ I→(VO P σ r1 b1∧VO P σ r2 b2∧VO P σ r3 b3)→∃ u,(results fn a.tmps).run P w= .ok u w∧RelV ρ I w (.tup [b1,b2,b3]) u:=by
 intro Γ σ a w ρ I hP hs ⟨h1,h2,h3⟩
 subst hP
 obtain⟨u1,hu1,hb1⟩:=VO.run hs h1
 obtain⟨u2,hu2,hb2⟩:=VO.run hs h2
 obtain⟨u3,hu3,hb3⟩:=VO.run hs h3
 refine⟨_,Fq hr hu1 hu2 hu3,[u1,u2,u3],rfl,rfl,fun j x c e1 e2=> ?_⟩
 match j,e1,e2 with
 | 0,e1,e2=>simp at e1 e2;subst e1;subst e2;exact hb1
 | 1,e1,e2=>simp at e1 e2;subst e1;subst e2;exact hb2
 | 2,e1,e2=>simp at e1 e2;subst e1;subst e2;exact hb3
section
variable {Γ:Cx} {ops:Array Oper} {o:Oper} {rest:List Oper} {K:Exit→St→Prop} {σ:St} {R:List (Key × Cell)} {W:St}
theorem w1 (h:Acts Γ o R W) (hk:WpL Γ ops rest K (W++σ)) (hg:o.guard=none:=by exact rfl) (hr:kj σ R=fz R:=by kernel_rfl):WpL Γ ops (o::rest) K σ:=wpc (eA hg h) hr hk
theorem w2 (h:fA Γ ops o R W) (hk:WpL Γ ops rest K (W++σ)) (hr:kj σ R=fz R:=by kernel_rfl):WpL Γ ops (o::rest) K σ:=wpc h hr hk
end
section
variable {Γ:Cx} {ty:TypeId} {pos:String} {af:Array Edge} {g:Option (Nat × Bool)}
end
end Cl
end Go.Proofs.YtgmkkfdnmdohlaaGreatDoor
namespace Go.Proofs.YtgmkkfdnmdohlaaGreatDoor
namespace Cl
open Go.ChangeShapes Go.WideShapes Go.ChangeAt Go.RowKit
abbrev kI (k:Nat) (t:Int):Key × Option Cell:=(.s k,some (.s (V.v (.int .i64 t))))
abbrev kU (k:Nat) (t:Int):Key × Option Cell:=(.s k,some (.s (V.v (.int .u64 t))))
abbrev kB (k:Nat) (t:Bool):Key × Option Cell:=(.s k,some (.s (V.v (.bool t))))
abbrev kV (k:Nat) (v:V):Key × Option Cell:=(.s k,some (.s v))
abbrev kP (k h off:Nat):Key × Option Cell:=(.s k,some (.s (V.p h off)))
abbrev kS (k h off n:Nat):Key × Option Cell:=(.s k,some (.s (V.b (.a (.sl h off n)))))
abbrev kO (h T s:Nat) (ex:Bool) (c:List A):Key × Option Cell:=(.o h,some (.o ⟨T,s,ex,c⟩))
abbrev kF (h:Nat):Key × Option Cell:=(.o h,some .free)
abbrev vI (t:Int):Value:= .int .i64 t
abbrev aI (t:Int):A:= .val (.int .i64 t)
abbrev aB (t:Bool):A:= .val (.bool t)
def kh (Γ:Cx):Option Nat→Prop
 | some d=>Γ.ok d
 | none=>True
def JG (Γ:Cx):Option Nat→Bool
 | some d=>Γ.okb d
 | none=>true
theorem ltD {Γ:Cx} {d:Option Nat} (h:JG Γ d=true):kh Γ d:=by
 cases d with
 | none=>trivial
 | some d=>exact ltN h
section
variable {Γ:Cx} {ops:Array Oper} {o:Oper} {rest:List Oper} {K:Exit→St→Prop} {σ:St} {R:List (Key × Cell)} {W:St}
theorem z (hk:WpL Γ ops rest K (W++σ)) (hr:kj σ R=fz R:=by exact rfl) (h:kh Γ o.dst→Acts Γ o R W) (hg:o.guard=none:=by exact rfl) (hn:kh Γ o.dst:=by exact ltD rfl):WpL Γ ops (o::rest) K σ:=wpc (eA hg (h hn)) hr hk
theorem zg (hk:WpL Γ ops rest K (W++σ)) (hr:kj σ R=fz R:=by exact rfl) (h:kh Γ o.dst→fA Γ ops o R W) (hn:kh Γ o.dst:=by exact ltD rfl):WpL Γ ops (o::rest) K σ:=wpc (h hn) hr hk
def DW (Γ:Cx) (l:List Oper) (K:Exit→St→Prop) (rest:List Oper) (acc:Tr) (σ:St):Prop:=
 ∃ tr,AllSteps Γ l.toArray rest tr∧(qG tr σ=tr.map fun x=>fz x.1)∧lh ((acc++tr).map lb) (lL l []) 0 []=true∧K .normal (after tr σ tr.length)
theorem ch {id:Nat} {l:List Oper} (h:DW Γ l K l [] σ) (hm:Γ.P.follows .mixedOrders=true:=by kernel_rfl) (hd:qn l=true:=by kernel_rfl):Wp Γ (.region id l.toArray true) K σ:=by
 obtain⟨tr,h1,h2,h3,h4⟩:=h
 exact CZ hm h1 h2 hd h3 h4
theorem bG {l:List Oper} {acc:Tr} (hK:K .normal σ) (hp:lh (acc.map lb) (lL l []) 0 []=true:=by kernel_rfl):DW Γ l K [] acc σ:=
 ⟨[],.nil,rfl,by rw[List.append_nil];exact hp,hK⟩
theorem vW {l:List Oper} {acc:Tr} (h:fA Γ l.toArray o R W) (hr:kj σ R=fz R) (hk:DW Γ l K rest (acc++[(R,W)]) (W++σ)):DW Γ l K (o::rest) acc σ:=by
 obtain⟨tr,h1,h2,h3,h4⟩:=hk
 exact⟨(R,W)::tr,.cons h h1,by simp only[qG,List.map_cons,hr,h2],by rw[List.append_assoc]at h3;exact h3,h4⟩
theorem zd {l:List Oper} {acc:Tr} (hk:DW Γ l K rest (acc++[(R,W)]) (W++σ)) (hr:kj σ R=fz R:=by exact rfl) (h:kh Γ o.dst→Acts Γ o R W) (hg:o.guard=none:=by exact rfl) (hn:kh Γ o.dst:=by exact ltD rfl):DW Γ l K (o::rest) acc σ:=vW (eA hg (h hn)) hr hk
theorem zdg {l:List Oper} {acc:Tr} (hk:DW Γ l K rest (acc++[(R,W)]) (W++σ)) (hr:kj σ R=fz R:=by exact rfl) (h:kh Γ o.dst→fA Γ l.toArray o R W) (hn:kh Γ o.dst:=by exact ltD rfl):DW Γ l K (o::rest) acc σ:=vW (h hn) hr hk
theorem sq {x y:Code} (h:Wp Γ x (Bd (fun σ=>Wp Γ y K σ) K) σ):Wp Γ (.seq x y) K σ:=IK h
theorem bkk {id:Nat} {c:Code} (h:Wp Γ c (yR id K) σ):Wp Γ (.block id c) K σ:=CY h
theorem rg {id:Nat} {l:List Oper} (h:WpL Γ l.toArray l K σ):Wp Γ (.region id l.toArray false) K σ:=yH h
theorem nl {ops:Array Oper} (h:K .normal σ):WpL Γ ops [] K σ:=IL h
theorem sk (h:K .normal σ):Wp Γ .skip K σ:=Gg h
theorem wi {t:Nat} {x y:Code} {b:Bool} (ht:b=true→Wp Γ x K σ) (hf:b=false→Wp Γ y K σ) (hb:get σ (.s t)=some (.s (V.v (.bool b))):=by exact rfl):Wp Γ (.cond (.tmp t) x y) K σ:=Gf b hb ht hf
theorem wt {t:Nat} {x y:Code} (ht:Wp Γ x K σ) (hb:get σ (.s t)=some (.s (V.v (.bool true))):=by kernel_rfl):Wp Γ (.cond (.tmp t) x y) K σ:=II hb ht
theorem wf {t:Nat} {x y:Code} (hf:Wp Γ y K σ) (hb:get σ (.s t)=some (.s (V.v (.bool false))):=by kernel_rfl):Wp Γ (.cond (.tmp t) x y) K σ:=IH hb hf
theorem wS {π:Nat→Nat} {F:List Nat} {k:Nat} {v:V} {r:St} (h:Wk σ π F r) (h1:get σ (.s k)=some (.s (v.ren π)):=by kernel_rfl) (h3:v.avd F=true:=by kernel_rfl):Wk σ π F ((.s k,some (.s v))::r):=wk_s h1 rfl h3 h
theorem wE {π:Nat→Nat} {F:List Nat} {k:Nat} {v v':V} {r:St} (h:Wk σ π F r) (h1:get σ (.s k)=some (.s v'):=by exact rfl) (e:v.ren π=v') (h3:v.avd F=true:=by kernel_rfl):Wk σ π F ((.s k,some (.s v))::r):=wk_s h1 e h3 h
theorem wO {π:Nat→Nat} {F:List Nat} {x:Nat} {o o':Ob} {r:St} (h:Wk σ π F r) (h1:get σ (.o (π x))=some (.o o'):=by exact rfl) (e:qJ π F o o') (h3:F.contains x=false:=by kernel_rfl):Wk σ π F ((.o x,some (.o o))::r):=wk_o h1 e h3 h
theorem wP {π:Nat→Nat} {F:List Nat} {x T s:Nat} {ex:Bool} {xs:List Value} {r:St} (h:Wk σ π F r) (h1:get σ (.o (π x))=some (.o ⟨T,s,ex,pl xs⟩):=by kernel_rfl) (h3:F.contains x=false:=by kernel_rfl):Wk σ π F ((.o x,some (.o ⟨T,s,ex,pl xs⟩))::r):=wk_o h1 (tz (fun h=>h)) h3 h
theorem wX {π:Nat→Nat} {F:List Nat} {x T s:Nat} {ex:Bool} {c:List A} {r:St} (h:Wk σ π F r) (h1:get σ (.o (π x))=some (.o ⟨T,s,ex,c.map (A.ren π)⟩):=by kernel_rfl) (h2:c.all (A.avd F)=true:=by kernel_rfl) (h3:F.contains x=false:=by kernel_rfl):Wk σ π F ((.o x,some (.o ⟨T,s,ex,c⟩))::r):=wk_o h1 (gv (fun h=>h) rfl h2) h3 h
theorem wF {π:Nat→Nat} {F:List Nat} {x:Nat} {r:St} (h:Wk σ π F r) (h1:F.contains x=true:=by kernel_rfl):Wk σ π F ((.o x,some .free)::r):=wk_f h1 h
theorem wN {π:Nat→Nat} {F:List Nat}:Wk σ π F []:=trivial
end
theorem xt {t:Nat} {X:V}:OpX (.tmp t) X [(.s t,.s X)]:= .tmp t X
theorem xc {v:Value}:OpX (.const v) (V.v v) []:= .const v
theorem vt {t:Nat} {v:Value}:OpV (.tmp t) v [(.s t,.s (V.v v))]:= .tmp t v
theorem va {t:Nat} {vs:List Value}:OpV (.tmp t) (.agg vs.toArray) [(.s t,.s (V.av vs))]:= .agg t vs
theorem vc {v:Value}:OpV (.const v) v []:= .const v
theorem ac {x:Operand} {b:B} {R R':List (Key × Cell)} {xs:List Operand} {bs:List B} (h:ArgV x b R) (hs:ArgVs xs bs R'):ArgVs (x::xs) (b::bs) (R++R'):= .cons h hs
theorem an:ArgVs [] [] []:= .nil
theorem rv {v:Value}:ResV (.val v) (.a (.val v)) [] []:= .val v
theorem ob1 {b:B} (h:b.cs.all A.one=true):∀ y∈b.cs,y.one=true:=List.all_eq_true.1 h
section
variable {P:Program} {xT:TypeId} {x y:Operand}
theorem rA {a b:Int} (h1: -9223372036854775808≤a+b:=by omega) (h2:a+b≤9223372036854775807:=by omega) (w:World):((do eqGuard .add xT x y (.int .i64 a) (.int .i64 b);binOp .add xT (.int .i64 a) (.int .i64 b)):Sem Value).run P w= .ok (.int .i64 (a+b)) w:=Je (w64 h1 h2) w
theorem rS {a b:Int} (h1: -9223372036854775808≤a-b:=by omega) (h2:a-b≤9223372036854775807:=by omega) (w:World):((do eqGuard .sub xT x y (.int .i64 a) (.int .i64 b);binOp .sub xT (.int .i64 a) (.int .i64 b)):Sem Value).run P w= .ok (.int .i64 (a-b)) w:=nH (w64 h1 h2) w
theorem rM {a b:Int} (h1: -9223372036854775808≤a*b:=by omega) (h2:a*b≤9223372036854775807:=by omega) (w:World):((do eqGuard .mul xT x y (.int .i64 a) (.int .i64 b);binOp .mul xT (.int .i64 a) (.int .i64 b)):Sem Value).run P w= .ok (.int .i64 (a*b)) w:=AO (w64 h1 h2) w
end
section
variable {Γ:Cx} {d:Nat} {ty:TypeId} {pos:String} {af:Array Edge} {g:Option (Nat × Bool)}
theorem mt {t:Nat} {X:V} (n:Γ.ok d):Acts Γ ⟨some d,.move (.tmp t),ty,pos,af,g⟩ [(.s t,.s X)] [(.s d,some (.s X))]:=um n xt
theorem mc {v:Value} (n:Γ.ok d):Acts Γ ⟨some d,.move (.const v),ty,pos,af,g⟩ [] [(.s d,some (.s (V.v v)))]:=um n xc
theorem gt {t:Nat} {X:V} (n:Γ.ok d):Acts Γ ⟨some d,.assign (.tmp t),ty,pos,af,g⟩ [(.s t,.s X)] [(.s d,some (.s X))]:=qK n xt
theorem gc {v:Value} (n:Γ.ok d):Acts Γ ⟨some d,.assign (.const v),ty,pos,af,g⟩ [] [(.s d,some (.s (V.v v)))]:=qK n xc
theorem lI {t T m h k T':Nat} {ex:Bool} {L:List Int} (n:Γ.ok d) (q:TI Γ.P T false m) (hk:k<L.length:=by omega):Acts Γ ⟨some d,.load T (.tmp t),ty,pos,af,g⟩ [(.s t,.s (V.p h (k*1))),(.o h,.o ⟨T',1,ex,pl (isl L)⟩)] [(.s d,some (.s (V.v (.int .i64 (gI L k)))))]:=ah n q (jY (xG hk))
theorem lB {t T m h k T':Nat} {ex:Bool} {L:List Bool} (n:Γ.ok d) (q:TI Γ.P T false m) (hk:k<L.length:=by omega):Acts Γ ⟨some d,.load T (.tmp t),ty,pos,af,g⟩ [(.s t,.s (V.p h (k*1))),(.o h,.o ⟨T',1,ex,pl (bsl L)⟩)] [(.s d,some (.s (V.v (.bool (gB L k)))))]:=ah n q (jY (sh hk))
theorem lC {t T h k T':Nat} {ex:Bool} {L:List Cel} (n:Γ.ok d) (q:TI Γ.P T true 2) (hk:k<L.length:=by omega):Acts Γ ⟨some d,.load T (.tmp t),ty,pos,af,g⟩ [(.s t,.s (V.p h (k*2))),(.o h,.o ⟨T',2,ex,pl (csl L)⟩)] [(.s d,some (.s (V.av [.int .i64 (gC L k).x,.int .i64 (gC L k).y])))]:=ab n q rfl (by decide) (pl_at (Du hk))
theorem uI {t T m k:Nat} {L:List Int} (n:Γ.ok d) (q:TI Γ.P T false m) (hk:k<L.length:=by omega):Acts Γ ⟨some d,.load T (.tmp t),ty,pos,af,g⟩ [(.s t,.s (.b (.a (.ptrv 1 (isl L) (k*1)))))] [(.s d,some (.s (V.v (.int .i64 (gI L k)))))]:=qM n q (xG hk)
theorem uD {t T k:Nat} {L:List Dom} (n:Γ.ok d) (q:TI Γ.P T true 3) (hk:k<L.length:=by omega):Acts Γ ⟨some d,.load T (.tmp t),ty,pos,af,g⟩ [(.s t,.s (.b (.a (.ptrv 3 (dsl L) (k*3)))))] [(.s d,some (.s (V.av [.int .i64 (gD L k).x,.int .i64 (gD L k).y,.bool (gD L k).d])))]:=oA n q rfl (JF hk)
theorem uC {t T k:Nat} {L:List Cel} (n:Γ.ok d) (q:TI Γ.P T true 2) (hk:k<L.length:=by omega):Acts Γ ⟨some d,.load T (.tmp t),ty,pos,af,g⟩ [(.s t,.s (.b (.a (.ptrv 2 (csl L) (k*2)))))] [(.s d,some (.s (V.av [.int .i64 (gC L k).x,.int .i64 (gC L k).y])))]:=oA n q rfl (Du hk)
theorem sI {t T m h k T':Nat} {ex:Bool} {L:List Int} {e:Int} {x:Operand} {R:List (Key × Cell)} (q:TI Γ.P T false m) (hx:OpX x (V.v (.int .i64 e)) R) (hk:k<L.length:=by omega) (hm:m=1:=by exact rfl):Acts Γ ⟨none,.store T (.tmp t) x,ty,pos,af,g⟩ ((.s t,.s (V.p h (k*1)))::(.o h,.o ⟨T',1,ex,pl (isl L)⟩)::R) [(.o h,some (.o ⟨T',1,ex,pl (isl (L.set k e))⟩))]:=by
 subst hm
 exact aE (o:=⟨T',1,ex,pl (isl L)⟩) (b:= .a (.val (.int .i64 e))) q hx rfl (by decide) (by intro y hy;simp [B.cs]at hy;subst hy;rfl) (by simp only[iy,dl];omega) (Hh hk)
theorem sB {t T m h k T':Nat} {ex:Bool} {L:List Bool} {e:Bool} {x:Operand} {R:List (Key × Cell)} (q:TI Γ.P T false m) (hx:OpX x (V.v (.bool e)) R) (hk:k<L.length:=by omega) (hm:m=1:=by exact rfl):Acts Γ ⟨none,.store T (.tmp t) x,ty,pos,af,g⟩ ((.s t,.s (V.p h (k*1)))::(.o h,.o ⟨T',1,ex,pl (bsl L)⟩)::R) [(.o h,some (.o ⟨T',1,ex,pl (bsl (L.set k e))⟩))]:=by
 subst hm
 exact aE (o:=⟨T',1,ex,pl (bsl L)⟩) (b:= .a (.val (.bool e))) q hx rfl (by decide) (by intro y hy;simp [B.cs]at hy;subst hy;rfl) (by simp only[iy,Gs];omega) (Gt hk)
theorem ix {x t e h off n k s T:Nat} {ex:Bool} {c:List A} {i:Operand} {iv:Int} {R:List (Key × Cell)} (hN:Γ.ok d) (hu:Γ.P.underlying t=some (.slice e)) (he:(Γ.P.info? e).map (·.size)=some s) (hi:OpV i (.int .i64 iv) R) (hk:iv=(k:Int):=by exact rfl) (hlt:k<n:=by omega):
    Acts Γ ⟨some d,.indexAddr t (.tmp x) i,ty,pos,af,g⟩ ((.s x,.s (.b (.a (.sl h off n))))::(.o h,.o ⟨T,s,ex,c⟩)::R) [(.s d,some (.s (V.p h ((off+k)*s))))]:=jR hN hu he hi hk hlt (by simp only[Nat.add_mul])
theorem ix0 {x t e h n k s T:Nat} {ex:Bool} {c:List A} {i:Operand} {iv:Int} {R:List (Key × Cell)} (hN:Γ.ok d) (hu:Γ.P.underlying t=some (.slice e)) (he:(Γ.P.info? e).map (·.size)=some s) (hi:OpV i (.int .i64 iv) R) (hk:iv=(k:Int):=by exact rfl) (hlt:k<n:=by omega):
    Acts Γ ⟨some d,.indexAddr t (.tmp x) i,ty,pos,af,g⟩ ((.s x,.s (.b (.a (.sl h 0 n))))::(.o h,.o ⟨T,s,ex,c⟩)::R) [(.s d,some (.s (V.p h (k*s))))]:=jR hN hu he hi hk hlt (by simp)
theorem ixz {x t e h off n s T:Nat} {ex:Bool} {c:List A} {i:Operand} {R:List (Key × Cell)} (hN:Γ.ok d) (hu:Γ.P.underlying t=some (.slice e)) (he:(Γ.P.info? e).map (·.size)=some s) (hi:OpV i (.int .i64 0) R) (hlt:0<n:=by omega):
    Acts Γ ⟨some d,.indexAddr t (.tmp x) i,ty,pos,af,g⟩ ((.s x,.s (.b (.a (.sl h off n))))::(.o h,.o ⟨T,s,ex,c⟩)::R) [(.s d,some (.s (V.p h (off*s))))]:=jR hN hu he hi rfl hlt (by simp)
theorem ixv {x t e s n k:Nat} {i:Operand} {iv:Int} {xs:List Value} {R:List (Key × Cell)} (hN:Γ.ok d) (hu:Γ.P.underlying t=some (.slice e)) (he:(Γ.P.info? e).map (·.size)=some s) (hi:OpV i (.int .i64 iv) R) (hk:iv=(k:Int):=by exact rfl) (hlt:k<n:=by omega):
    Acts Γ ⟨some d,.indexAddr t (.tmp x) i,ty,pos,af,g⟩ ((.s x,.s (.b (.a (.slv n s xs))))::R) [(.s d,some (.s (.b (.a (.ptrv s xs (k*s))))))]:=vN hN hu he hi hk hlt
theorem slS {x t e s h0 off n l h m off' T:Nat} {ex:Bool} {c:List A} {lo hi:Option Operand} {R R':List (Key × Cell)} (hN:Γ.ok d) (hu:Γ.P.underlying t=some (.slice e)) (he:(Γ.P.info? e).map (·.size)=some s) (hl:OpB lo 0 l R) (hh:OpB hi n h R') (h1:l≤h) (h2:h≤n) (hm:h-l=m) (ho:off+l=off'):
    Acts Γ ⟨some d,.slice t (.tmp x) lo hi none,ty,pos,af,g⟩ ((.s x,.s (.b (.a (.sl h0 off n))))::(.o h0,.o ⟨T,s,ex,c⟩)::(R++R')) [(.s d,some (.s (.b (.a (.sl h0 off' m)))))]:=ub (o:=⟨T,s,ex,c⟩) hN hu he hl hh h1 h2 hm ho
theorem lnS {t x e h off n:Nat} {iv:Int} (hN:Γ.ok d) (hu:Γ.P.underlying t=some (.slice e)) (hi:(n:Int)=iv:=by exact rfl):Acts Γ ⟨some d,.call { callee:= .builtin .len,args:= #[.tmp x],argTypes:= #[t] },ty,pos,af,g⟩ [(.s x,.s (.b (.a (.sl h off n))))] [(.s d,some (.s (V.v (.int .i64 iv))))]:=oz hN hu xt (LenOf.sl _ _ _) hi
theorem lnV {t x e n s:Nat} {xs:List Value} {iv:Int} (hN:Γ.ok d) (hu:Γ.P.underlying t=some (.slice e)) (hi:(n:Int)=iv:=by exact rfl):Acts Γ ⟨some d,.call { callee:= .builtin .len,args:= #[.tmp x],argTypes:= #[t] },ty,pos,af,g⟩ [(.s x,.s (.b (.a (.slv n s xs))))] [(.s d,some (.s (V.v (.int .i64 iv))))]:=oz hN hu xt (LenOf.slv _ _ _) hi
theorem aI_ {x h h2 n m t e b hy Ty:Nat} {z:Value} {y:Nat} {exy:Bool} {L L2 L3:List Int} (hN:Γ.ok d) (ht:Γ.P.underlying t=some (.slice e)) (hz:ZI Γ.P e z 1 b) (hl:L.length=n:=by simp) (h3:L++L2=L3:=by exact rfl) (h2':L2.length=m:=by simp) (hn:L3.length≤4194304:=by(simp;omega)) (hb:b≤1000:=by decide) (hzc:z.cells.size=1:=by exact rfl):
  Acts Γ ⟨some d,.call { callee:= .builtin .append,args:= #[.tmp x,.tmp y],argTypes:= #[t,t] },ty,pos,af,g⟩ ((.s x,.s (.b (.a (.sl h 0 n))))::(.o h,.o ⟨e,1,true,pl (isl L)⟩)::(.o h2,.free)::([(.s y,.s (V.b (.a (.sl hy 0 m))))]++[(.o hy,.o ⟨Ty,1,exy,pl (isl L2)⟩)]))
   [(.s d,some (.s (.b (.a (.sl h2 0 L3.length))))),(.o h2,some (.o ⟨e,1,true,pl (isl L3)⟩)),(.o h,none)]:=by
 subst h3
 exact gf hN ht hz hzc (by decide) hb (by rw[dl,hl,Nat.mul_one]) xt (pI (by rw[dl,h2',Nat.mul_one])) (wh _) (by rw[List.length_append,hl,h2']at hn;exact hn) (sJ _ _).symm (by rw[List.length_append,hl,h2'])
theorem aD_ {x h h2 n m t e b hy Ty:Nat} {z:Value} {y:Nat} {exy:Bool} {L L2 L3:List Dom} (hN:Γ.ok d) (ht:Γ.P.underlying t=some (.slice e)) (hz:ZI Γ.P e z 3 b) (hl:L.length=n:=by simp) (h3:L++L2=L3:=by exact rfl) (h2':L2.length=m:=by simp) (hn:L3.length≤4194304:=by(simp;omega)) (hb:b≤1000:=by decide) (hzc:z.cells.size=3:=by exact rfl):
  Acts Γ ⟨some d,.call { callee:= .builtin .append,args:= #[.tmp x,.tmp y],argTypes:= #[t,t] },ty,pos,af,g⟩ ((.s x,.s (.b (.a (.sl h 0 n))))::(.o h,.o ⟨e,3,true,pl (dsl L)⟩)::(.o h2,.free)::([(.s y,.s (V.b (.a (.sl hy 0 m))))]++[(.o hy,.o ⟨Ty,3,exy,pl (dsl L2)⟩)]))
   [(.s d,some (.s (.b (.a (.sl h2 0 L3.length))))),(.o h2,some (.o ⟨e,3,true,pl (dsl L3)⟩)),(.o h,none)]:=by
 subst h3
 exact gf hN ht hz hzc (by decide) hb (by rw[cc,hl]) xt (pI (by rw[cc,h2'])) (kg _) (by rw[List.length_append,hl,h2']at hn;exact hn) (dv _ _).symm (by rw[List.length_append,hl,h2'])
theorem aC_ {x h h2 n m t e b hy Ty:Nat} {z:Value} {y:Nat} {exy:Bool} {L L2 L3:List Cel} (hN:Γ.ok d) (ht:Γ.P.underlying t=some (.slice e)) (hz:ZI Γ.P e z 2 b) (hl:L.length=n:=by simp) (h3:L++L2=L3:=by exact rfl) (h2':L2.length=m:=by simp) (hn:L3.length≤4194304:=by(simp;omega)) (hb:b≤1000:=by decide) (hzc:z.cells.size=2:=by exact rfl):
  Acts Γ ⟨some d,.call { callee:= .builtin .append,args:= #[.tmp x,.tmp y],argTypes:= #[t,t] },ty,pos,af,g⟩ ((.s x,.s (.b (.a (.sl h 0 n))))::(.o h,.o ⟨e,2,true,pl (csl L)⟩)::(.o h2,.free)::([(.s y,.s (V.b (.a (.sl hy 0 m))))]++[(.o hy,.o ⟨Ty,2,exy,pl (csl L2)⟩)]))
   [(.s d,some (.s (.b (.a (.sl h2 0 L3.length))))),(.o h2,some (.o ⟨e,2,true,pl (csl L3)⟩)),(.o h,none)]:=by
 subst h3
 exact gf hN ht hz hzc (by decide) hb (by rw[rJ,hl]) xt (pI (by rw[rJ,h2'])) (Dv _) (by rw[List.length_append,hl,h2']at hn;exact hn) (sn _ _).symm (by rw[List.length_append,hl,h2'])
theorem b0I {t e h b:Nat} {z:Value} (hN:Γ.ok d) (hu:Γ.P.underlying t=some (.slice e)) (hz:ZI Γ.P e z 1 b):Acts Γ ⟨some d,.buildSlice t 0 #[],ty,pos,af,g⟩ [(.o h,.free)] [(.s d,some (.s (.b (.a (.sl h 0 0))))),(.o h,some (.o ⟨e,1,true,pl (isl [])⟩))]:=df hN hu hz
theorem wnI {σ:St} {k h T:Nat} (hk:get σ (.s k)=some (.s (V.v (.slice none 0 0)))) (hh:get σ (.o h)=some .free):eO Γ σ ((.s k,some (.s (.b (.a (.sl h 0 0)))))::(.o h,some (.o ⟨T,1,true,pl (isl [])⟩))::σ):=tX hk hh
theorem b0D {t e h b:Nat} {z:Value} (hN:Γ.ok d) (hu:Γ.P.underlying t=some (.slice e)) (hz:ZI Γ.P e z 3 b):Acts Γ ⟨some d,.buildSlice t 0 #[],ty,pos,af,g⟩ [(.o h,.free)] [(.s d,some (.s (.b (.a (.sl h 0 0))))),(.o h,some (.o ⟨e,3,true,pl (dsl [])⟩))]:=df hN hu hz
theorem b0C {t e h b:Nat} {z:Value} (hN:Γ.ok d) (hu:Γ.P.underlying t=some (.slice e)) (hz:ZI Γ.P e z 2 b):Acts Γ ⟨some d,.buildSlice t 0 #[],ty,pos,af,g⟩ [(.o h,.free)] [(.s d,some (.s (.b (.a (.sl h 0 0))))),(.o h,some (.o ⟨e,2,true,pl (csl [])⟩))]:=df hN hu hz
theorem wnC {σ:St} {k h T:Nat} (hk:get σ (.s k)=some (.s (V.v (.slice none 0 0)))) (hh:get σ (.o h)=some .free):eO Γ σ ((.s k,some (.s (.b (.a (.sl h 0 0)))))::(.o h,some (.o ⟨T,2,true,pl (csl [])⟩))::σ):=tX hk hh
theorem bC {t:TypeId} {x y:Operand} {a b:Int} {R R':List (Key × Cell)} (hN:Γ.ok d) (q:∀ a b:Int,Γ.P.built t [(0,.int .i64 a),(1,.int .i64 b)]=some ([.int .i64 a,.int .i64 b]:List Value).toArray) (hx:OpV x (.int .i64 a) R) (hy:OpV y (.int .i64 b) R'):
  Acts Γ ⟨some d,.build t #[(0,x),(1,y)],ty,pos,af,g⟩ (R++(R'++[])) [(.s d,some (.s (V.av [.int .i64 a,.int .i64 b])))]:=kK hN (OpVs.cons hx (OpVs.cons hy OpVs.nil)) (q a b)
theorem bD {t:TypeId} {x y z:Operand} {a b:Int} {c:Bool} {R R' R2:List (Key × Cell)} (hN:Γ.ok d) (q:∀ (a b:Int) (c:Bool),Γ.P.built t [(0,.int .i64 a),(1,.int .i64 b),(2,.bool c)]=some ([.int .i64 a,.int .i64 b,.bool c]:List Value).toArray) (hx:OpV x (.int .i64 a) R) (hy:OpV y (.int .i64 b) R') (hz:OpV z (.bool c) R2):
  Acts Γ ⟨some d,.build t #[(0,x),(1,y),(2,z)],ty,pos,af,g⟩ (R++(R'++(R2++[]))) [(.s d,some (.s (V.av [.int .i64 a,.int .i64 b,.bool c])))]:=kK hN (OpVs.cons hx (OpVs.cons hy (OpVs.cons hz OpVs.nil))) (q a b c)
end
section
variable {Γ:Cx} {ops:Array Oper} {rest:List Oper} {K:Exit→St→Prop} {σ:St} {d t:Nat} {X:V} {v:Value} {ty:TypeId} {pos:String} {af:Array Edge}
theorem zm (hk:WpL Γ ops rest K ([(.s d,some (.s X))]++σ)) (hr:get σ (.s t)=some (.s X):=by exact rfl) (hn:Γ.ok d:=by exact ltN rfl):WpL Γ ops (⟨some d,.move (.tmp t),ty,pos,af,none⟩::rest) K σ:=wpc (eA rfl (mt hn)) (by simp only[kj,fz,List.map_cons,List.map_nil,hr]) hk
theorem za (hk:WpL Γ ops rest K ([(.s d,some (.s X))]++σ)) (hr:get σ (.s t)=some (.s X):=by exact rfl) (hn:Γ.ok d:=by exact ltN rfl):WpL Γ ops (⟨some d,.assign (.tmp t),ty,pos,af,none⟩::rest) K σ:=wpc (eA rfl (gt hn)) (by simp only[kj,fz,List.map_cons,List.map_nil,hr]) hk
theorem zk (hk:WpL Γ ops rest K ([(.s d,some (.s (V.v v)))]++σ)) (hn:Γ.ok d:=by exact ltN rfl):WpL Γ ops (⟨some d,.assign (.const v),ty,pos,af,none⟩::rest) K σ:=wpc (eA rfl (gc hn)) rfl hk
theorem zo {op:Op} {j dj:Nat} {b:Bool} (hk:WpL Γ ops rest K ([(.s d,none)]++σ)) (hj:(ops[j]?).bind (·.dst)=some dj:=by exact rfl) (hr:get σ (.s dj)=some (.s (V.v (.bool (!b)))):=by exact rfl) (hn:Γ.ok d:=by exact ltN rfl):WpL Γ ops (⟨some d,op,ty,pos,af,some (j,b)⟩::rest) K σ:=wpc (aG (b':= !b) rfl hj (by cases b<;>decide) rfl hn) (by simp only[kj,fz,List.map_cons,List.map_nil,hr]) hk
variable {l:List Oper} {acc:Tr}
theorem zdm (hk:DW Γ l K rest (acc++[([(.s t,.s X)],[(.s d,some (.s X))])]) ([(.s d,some (.s X))]++σ)) (hr:get σ (.s t)=some (.s X):=by exact rfl) (hn:Γ.ok d:=by exact ltN rfl):DW Γ l K (⟨some d,.move (.tmp t),ty,pos,af,none⟩::rest) acc σ:=vW (eA rfl (mt hn)) (by simp only[kj,fz,List.map_cons,List.map_nil,hr]) hk
end
def frs:St→List Nat
 | []=>[]
 | (.o h,some .free)::r=>h::frs r
 | _::r=>frs r
theorem wkf {Γ:Cx} {σ τ:St} (π:Nat→Nat) (h:Wk σ π (frs τ) τ) (hi:sG π (dS τ)=true:=by kernel_rfl) (hx:okw Γ.keep π (frs τ)=true:=by kernel_rfl):eO Γ σ τ:=IC π (frs τ) hi h hx
end Cl
end Go.Proofs.YtgmkkfdnmdohlaaGreatDoor
namespace Go.Proofs.YtgmkkfdnmdohlaaGreatDoor
namespace Cl
open Go.ChangeShapes Go.WideShapes Go.ChangeAt Go.RowKit
def rwI (T:Nat) (L:List (List Int)):List A:=L.map fun r=> .row T r.length 1 (isl r)
def rwD (T:Nat) (L:List (List Dom)):List A:=L.map fun r=> .row T r.length 3 (dsl r)
def vwI (L:List (List Int)):List (Nat × List Value):=L.map fun r=>(r.length,isl r)
def vwD (L:List (List Dom)):List (Nat × List Value):=L.map fun r=>(r.length,dsl r)
theorem Sat.pack {Γ:Cx} {σ:St} {a:Act} {w:World} {ρ:Nat→Option Place} {I:Nat→Prop} (hs:Sat Γ σ a w ρ I) {h h1 j n T s T0 s0:Nat} {ex0:Bool} {cs:List A} {xs:List Value} (ho:get σ (.o h)=some (.o ⟨T0,s0,ex0,cs⟩)) (ho1:get σ (.o h1)=some (.o ⟨T,s,true,pl xs⟩)) (hne:h≠h1)
    (hj:cs[j]? =some (.sl h1 0 n)) (hl:xs.length=n*s):Sat Γ ((.o h,some (.o ⟨T0,s0,ex0,cs.set j (.row T n s xs)⟩))::(.o h1,none)::σ) a w ρ I:=by
  have hjl:j<cs.length:=(List.getElem?_eq_some_iff.1 hj).1
  have hgs:∀ k,get ((Key.o h,some (Cell.o ⟨T0,s0,ex0,cs.set j (.row T n s xs)⟩))::(Key.o h1,none)::σ) (.s k)=get σ (.s k):=fun k=>by rw[bf rfl,bf rfl]
  have hgh:get ((Key.o h,some (Cell.o ⟨T0,s0,ex0,cs.set j (.row T n s xs)⟩))::(Key.o h1,none)::σ) (.o h)=some (.o ⟨T0,s0,ex0,cs.set j (.row T n s xs)⟩):=bz
  have hgo:∀ y c,y≠h→get ((Key.o h,some (Cell.o ⟨T0,s0,ex0,cs.set j (.row T n s xs)⟩))::(Key.o h1,none)::σ) (.o y)=some c→y≠h1∧get σ (.o y)=some c:=fun y c hy hc=>by
    rw[bf (fj (fun e=>hy e.symm))]at hc
    exact Sat.get_kill hc
  obtain⟨p1,hp1,s1,l1,x1,z1,c1⟩:=hs.m.ow h1 _ ho1
  obtain⟨px,pb,pm⟩:=x1 rfl
  have hback:∀ y o,get ((Key.o h,some (Cell.o ⟨T0,s0,ex0,cs.set j (.row T n s xs)⟩))::(Key.o h1,none)::σ) (.o y)=some (.o o)→y≠h1∧∃ o',get σ (.o y)=some (.o o'):=fun y o hy=>by
    by_cases e:y=h
    · subst e;exact⟨hne,_,ho⟩
    · obtain⟨q1,q2⟩:=hgo y _ e hy
      exact⟨q1,o,q2⟩
  obtain⟨p,cur,hp,hps,hcl,hlv,hg,hsz,_,hc⟩:=iI (hs.m.ow h _ ho) hjl
  obtain⟨u,hu,p1',A0,hp1',he,hcap,hA⟩:=hc j _ hj
  rw[hp1]at hp1';injection hp1' with hp1';subst hp1'
  have hA':=hA (.inl ⟨px,rfl⟩)
  have hval:u= .slice ((if p1.live then some p1.block else none:Option Nat).map fun b=>⟨b,0,none⟩) n p1.cap:=by
    rw[he,hA',pb]
    cases p1.live<;>simp
  have hin:∀ {y i T' n' s' ys b cap},RowIn ((Key.o h,some (Cell.o ⟨T0,s0,ex0,cs.set j (.row T n s xs)⟩))::(Key.o h1,none)::σ) w ρ y i T' n' s' ys b cap→
      (y=h∧i=j∧p1.live=true∧b=p1.block∧cap=p1.cap∧T'=T∧n'=n∧s'=s∧ys=xs)∨(¬(y=h∧i=j)∧RowIn σ w ρ y i T' n' s' ys b cap):=by
    rintro y i T' n' s' ys b cap ⟨o,q,g1,g2,g3,g4,g5⟩
    by_cases e:y=h
    · subst e
      rw[hgh]at g1;injection g1 with g1;injection g1 with g1;subst g1
      rw[hp]at g2;injection g2 with g2;subst g2
      by_cases ei:i=j
      · subst ei
        rw[List.getElem?_set_self hjl]at g4
        injection g4 with g4;injection g4 with e1 e2 e3 e4
        have hcv:w.cell? ⟨p.block,p.base+i,none⟩=some u:=by simp only[World.cell?,hg];exact hu
        rw[hcv,hval]at g5
        injection g5 with g5;injection g5 with f1 f2 f3
        cases hlv1:p1.live with
        | false=>rw[hlv1]at f1;simp at f1
        | true=>
          rw[hlv1]at f1;simp only[if_true,Option.map_some,Option.some.injEq,Addr.mk.injEq]at f1
          exact .inl ⟨rfl,rfl,rfl,f1.1.symm,f3.symm,e1.symm,e2.symm,e3.symm,e4.symm⟩
      · rw[List.getElem?_set_ne (fun e=>ei e.symm)]at g4
        exact .inr ⟨fun e=>ei e.2,_,p,ho,hp,hlv,g4,g5⟩
    · obtain⟨q1,q2⟩:=hgo y _ e g1
      exact .inr ⟨fun e2=>e e2.1,o,q,q2,g2,g3,g4,g5⟩
  have hpl:p1.live=true→¬I p1.block∧(Γ.own p1.block∨Γ.W.heap.size≤p1.block)∧p1.block<w.heap.size:=fun hl1=>hs.m.pl h1 p1 _ ho1 hp1 hl1
  refine⟨hs.n,hs.d,fun k x h' hk hg' hh=>hs.fx k x h' hk ((hgs k)▸hg') hh,hs.kp,fun k v hk=>hs.sl k v ((hgs k)▸hk),?_⟩
  refine⟨fun y o hy=> ?_,fun y hy=> ?_,fun y q o hy hq hn=> ?_,fun y z q q' o o' hy hz hq hq' hn hn' hb=> ?_,hs.m.im,⟨fun hr=> ?_,fun {y i _ _ _ _ _ _ _ _ _} hr h1' h2 h3=> ?_,fun {y i _ _ _ _ _ _ y' i' _ _ _ _ _} hr hr'=> ?_⟩,fun hr=> ?_,hs.m.fm⟩
  · by_cases e:y=h
    · subst e
      rw[hgh]at hy;injection hy with hy;injection hy with hy;subst hy
      obtain⟨p',hp',q1,q2,q3,qz,q4⟩:=hs.m.ow y _ ho
      refine⟨p',hp',q1,by simpa using q2,q3,qz,fun hlv'=> ?_⟩
      obtain⟨cur',k1,k2,k3,k4⟩:=q4 hlv'
      refine⟨cur',k1,k2,k3,fun i x hx=> ?_⟩
      by_cases ei:i=j
      · subst ei
        rw[List.getElem?_set_self hjl]at hx
        injection hx with hx;subst hx
        obtain⟨u',hu',hr'⟩:=k4 i _ hj
        rw[hp]at hp';injection hp' with hp';subst hp'
        rw[hg]at k1;injection k1 with k1;injection k1 with k1;subst k1
        rw[hu]at hu';injection hu' with hu';subst hu'
        refine⟨u,hu,hl,_,p1.cap,hval,by simpa using hcap,fun hn=> ?_⟩
        cases hlv1:p1.live with
        | false=>exact z1 hlv1
        | true=>rw[hlv1]at hn;simp at hn
      · rw[List.getElem?_set_ne (fun e=>ei e.symm)]at hx
        exact k4 i x hx
    · exact hs.m.ow y o (hgo y _ e hy).2
  · by_cases e:y=h
    · subst e;rw[hgh]at hy;injection hy with hy;cases hy
    · exact hs.m.fr y (hgo y _ e hy).2
  · obtain⟨_,o',ho'⟩:=hback y o hy
    exact hs.m.pl y q o' ho' hq hn
  · obtain⟨_,o1,g1⟩:=hback y o hy
    obtain⟨_,o2,g2⟩:=hback z o' hz
    exact hs.m.inj y z q q' o1 o2 g1 g2 hq hq' hn hn' hb
  · rcases hin hr with⟨rfl,rfl,hl1,rfl,rfl,rfl,rfl,rfl,rfl⟩ |⟨_,hr⟩
    · obtain⟨cur1,k1,k2,k3,k4⟩:=c1 hl1
      obtain⟨m1,m2,m3⟩:=hpl hl1
      have hs1:p1.size=_:=s1
      refine⟨⟨cur1,k1,by rw[k3 rfl,hs1],fun i x hx=> ?_⟩,by simpa using hcap,pm,hl,m1,m3⟩
      obtain⟨v,hv,hvr⟩:=k4 i _ (jY hx)
      have:v=x:=hvr
      rw[pb]at hv;rw[←this];simpa using hv
    · exact hs.m.rs.ok hr
  · obtain⟨hh1,o'',ho''⟩:=hback _ _ h1'
    rcases hin hr with⟨rfl,rfl,hl1,rfl,rfl,rfl,rfl,rfl,rfl⟩ |⟨_,hr⟩
    · exact fun e=>hh1 (hs.m.inj _ _ _ _ _ _ ho'' ho1 h2 hp1 h3 hl1 e)
    · exact hs.m.rs.sep hr ho'' h2 h3
  · rcases hin hr with⟨e1,e2,hl1,e3,_⟩ |⟨_,hr⟩<;>rcases hin hr' with⟨e1',e2',hl1',e3',_⟩ |⟨_,hr'⟩
    · exact⟨e1'.trans e1.symm,e2'.trans e2.symm⟩
    · exact absurd e3.symm (hs.m.rs.sep hr' ho1 hp1 hl1)
    · exact absurd e3'.symm (hs.m.rs.sep hr ho1 hp1 hl1')
    · exact hs.m.rs.inj hr hr'
  · rcases hin hr with⟨rfl,rfl,hl1,rfl,_⟩ |⟨_,hr⟩
    · exact(hpl hl1).2.1
    · exact hs.m.rp hr
theorem vH {Γ:Cx} {σ:St} {h h1 j n T s T0 s0:Nat} {ex0:Bool} {cs cs':List A} {xs:List Value} (ho:get σ (.o h)=some (.o ⟨T0,s0,ex0,cs⟩)) (ho1:get σ (.o h1)=some (.o ⟨T,s,true,pl xs⟩)) (hne:Nat.beq h h1=false)
  (hj:cs[j]? =some (.sl h1 0 n)) (hl:xs.length=n*s) (hc:cs.set j (.row T n s xs)=cs'):eO Γ σ ((.o h,some (.o ⟨T0,s0,ex0,cs'⟩))::(.o h1,none)::σ):=by
 subst hc
 intro a w ⟨ρ,I,hs⟩
 exact⟨ρ,I,hs.pack ho ho1 (fun e=>by subst e;rw[Nat.beq_refl]at hne;cases hne) hj hl⟩
theorem Sat.freezeDeep {Γ:Cx} {σ:St} {a:Act} {w:World} {ρ:Nat→Option Place} {I:Nat→Prop} (hs:Sat Γ σ a w ρ I) {h T0 s:Nat} {ex0:Bool} {cs:List A} {rows:List (Nat × List Value)} (ho:get σ (.o h)=some (.o ⟨T0,1,ex0,cs⟩))
    (hcs:∀ (j:Nat) r,rows[j]? =some r→∃ T,cs[j]? =some (.row T r.1 s r.2)):∃ I',(∀ b,I b→I' b)∧(∀ {u:Value} {n:Nat},n=rows.length→RelA ρ I w (.sl h 0 n) u→RelA ρ I' w (.slvv s rows) u)∧Sat Γ ((.o h,none)::σ) a w ρ I':=by
  obtain⟨p,hp,ps,pl0,pe,pz,pc⟩:=hs.m.ow h _ ho
  let I':Nat→Prop:=fun b=>I b∨(p.live=true∧b=p.block)∨∃ j T n s xs cap,RowIn σ w ρ h j T n s xs b cap
  have hI:∀ b,I b→I' b:=fun b hb=> .inl hb
  refine⟨I',hI,fun {u n} hn hu=> ?_,?_⟩
  · subst hn
    obtain⟨p',A0,hp',he,hcap,hA⟩:=hu
    rw[hp]at hp';injection hp' with hp';subst hp'
    refine⟨A0,p.cap-0,he,by omega,fun hpos=> ?_⟩
    have hlv:p.live=true:=by
      rcases Bool.eq_false_or_eq_true p.live with q |q
      · exact q
      · have:=pz q;omega
    have hA':=hA (.inr (by omega))
    rw[hlv,if_pos rfl]at hA'
    obtain⟨cur,c1,c2,c3,c4⟩:=pc hlv
    refine⟨p.block,p.base,by rw[hA'];simp,.inr (.inl ⟨hlv,rfl⟩),fun j r hj=> ?_⟩
    obtain⟨T,hT⟩:=hcs j r hj
    obtain⟨v,hv,hxl,ob,cap,hval,hnc,hob⟩:=c4 j _ hT
    have hcv:w.cell? ⟨p.block,p.base+j,none⟩=some v:=by simp only[World.cell?,c1];exact hv
    refine⟨hxl,ob.map fun b=>⟨b,0,none⟩,cap,by rw[hcv,hval],hnc,fun hr=> ?_⟩
    cases ob with
    | none=>have:=hob rfl;omega
    | some b=>
      have hri:RowIn σ w ρ h j T r.1 s r.2 b cap:=⟨_,p,ho,hp,hlv,hT,by rw[hcv,hval];rfl⟩
      obtain⟨⟨cb,k1,k2,k3⟩,k4,k5,k6,k7,k8⟩:=hs.m.rs.ok hri
      exact⟨b,0,rfl,.inr (.inr ⟨j,T,_,_,_,cap,hri⟩),fun i x hx=>by simp only[World.cell?,k1,Nat.zero_add];exact k3 i x hx⟩
  · have hgs:∀ k,get ((Key.o h,none)::σ) (.s k)=get σ (.s k):=fun k=>bf rfl
    have hI2:∀ b,I b→I' b∧w.heap[b]? =w.heap[b]? :=fun b hb=>⟨.inl hb,rfl⟩
    have hrw:=hs.m.rows (τ:=(.o h,none)::σ) (w':=w) (ρ':=ρ) (I':=I) (fun y o' hy=>(Sat.get_kill hy).2) (fun _ _ _ _ h=>h) (fun _ _ _ _ _ _=>rfl) fun hr=>⟨rfl,(hs.m.rs.ok hr).ni,(hs.m.rs.ok hr).lt⟩
    have hin:∀ {y i T n s xs b cap},RowIn ((.o h,none)::σ) w ρ y i T n s xs b cap→y≠h∧RowIn σ w ρ y i T n s xs b cap:=fun⟨o,q,g1,g⟩=>⟨(Sat.get_kill g1).1,o,q,(Sat.get_kill g1).2,g⟩
    refine⟨hs.n,hs.d,fun k x h' hk hg hh=>hs.fx k x h' hk ((hgs k)▸hg) hh,⟨hs.kp.1,fun b hb=> ?_⟩,fun k v hk=>(hs.sl k v ((hgs k)▸hk)).mono (fun _ _ h=>h) hI2,?_⟩
    · rcases hb with hb |⟨hlv,rfl⟩ |⟨j,T,n,s',xs,cap,hr⟩
      · exact hs.kp.2 b hb
      · exact .inr (hs.m.pl h p _ ho hp hlv).2.1
      · exact .inr (hs.m.rp hr)
    · refine⟨fun y o' hy=> ?_,fun y hy=>hs.m.fr y (Sat.get_kill hy).2,fun y p' o' hy hp' hl'=> ?_,fun y z p1 p2 o1 o2 hy hz=>hs.m.inj y z p1 p2 o1 o2 (Sat.get_kill hy).2 (Sat.get_kill hz).2,fun b hb=> ?_,⟨fun hr=> ?_,hrw.1.sep,hrw.1.inj⟩,hrw.2,hs.m.fm⟩
      · exact(hs.m.ow y o' (Sat.get_kill hy).2).mono (fun _ _ h=>h) hI2 fun _ _ _=>rfl
      · obtain⟨hyh,hy'⟩:=Sat.get_kill hy
        obtain⟨r1,r2,r3⟩:=hs.m.pl y p' o' hy' hp' hl'
        refine⟨fun hb=> ?_,r2,r3⟩
        rcases hb with hb |⟨hlv,e⟩ |⟨j,T,n,s',xs,cap,hr⟩
        · exact r1 hb
        · exact hyh (hs.m.inj y h p' p o' _ hy' ho hp' hp hl' hlv e)
        · exact hs.m.rs.sep hr hy' hp' hl' rfl
      · rcases hb with hb |⟨hlv,rfl⟩ |⟨j,T,n,s',xs,cap,hr⟩
        · exact hs.m.im b hb
        · exact(hs.m.pl h p _ ho hp hlv).2.2
        · exact(hs.m.rs.ok hr).lt
      · obtain⟨hyh,hr'⟩:=hin hr
        obtain⟨k0,k4,k5,k6,k7,k8⟩:=hs.m.rs.ok hr'
        refine⟨k0,k4,k5,k6,fun hb=> ?_,k8⟩
        rcases hb with hb |⟨hlv,e⟩ |⟨j,T,n,s',xs,cap,hr2⟩
        · exact k7 hb
        · exact hs.m.rs.sep hr' ho hp hlv e.symm
        · exact hyh (hs.m.rs.inj hr2 hr').1
theorem kJ {Γ:Cx} {σ:St} {k h T0 s n:Nat} {ex0:Bool} {cs:List A} {rows:List (Nat × List Value)} (hk:get σ (.s k)=some (.s (.b (.a (.sl h 0 n))))) (ho:get σ (.o h)=some (.o ⟨T0,1,ex0,cs⟩)) (hcs:∀ (j:Nat) r,rows[j]? =some r→∃ T,cs[j]? =some (.row T r.1 s r.2)) (hn:n=rows.length):
  eO Γ σ ((.s k,some (.s (.b (.a (.slvv s rows)))))::(.o h,none)::σ):=by
 intro a w ⟨ρ,I,hs⟩
 obtain⟨I',hI,hrel,hs2⟩:=hs.freezeDeep ho hcs
 refine⟨ρ,I',hs2.rename (hrel hn (hs.sl k _ hk)) fun x e h'=> ?_⟩
 injection e with e;injection e with e;subst e
 exact fun hh=>hh
theorem Ii {T:Nat} {L:List (List Int)}:∀ (j:Nat) r,(vwI L)[j]? =some r→∃ T',(rwI T L)[j]? =some (.row T' r.1 1 r.2):=by
 intro j r hj
 unfold vwI at hj;rw[List.getElem?_map]at hj
 cases hq:L[j]? with
 | none=>rw[hq]at hj;simp at hj
 | some x=>rw[hq]at hj;simp at hj;subst hj;exact⟨T,by unfold rwI;rw[List.getElem?_map,hq];rfl⟩
theorem AV {T:Nat} {L:List (List Dom)}:∀ (j:Nat) r,(vwD L)[j]? =some r→∃ T',(rwD T L)[j]? =some (.row T' r.1 3 r.2):=by
 intro j r hj
 unfold vwD at hj;rw[List.getElem?_map]at hj
 cases hq:L[j]? with
 | none=>rw[hq]at hj;simp at hj
 | some x=>rw[hq]at hj;simp at hj;subst hj;exact⟨T,by unfold rwD;rw[List.getElem?_map,hq];rfl⟩
end Cl
end Go.Proofs.YtgmkkfdnmdohlaaGreatDoor
namespace Go.Proofs.YtgmkkfdnmdohlaaGreatDoor
namespace Cl
open Go.ChangeShapes Go.WideShapes Go.ChangeAt Go.RowKit
def gLs (L:List (List Int)) (k:Nat):List Int:=L.getD k []
def gLd (L:List (List Dom)) (k:Nat):List Dom:=L.getD k []
theorem zc {L:List (List Int)} {k:Nat} (h:k<L.length):gLs L k=L[k]:=by simp [gLs,h]
theorem cI {L:List (List Dom)} {k:Nat} (h:k<L.length):gLd L k=L[k]:=by simp [gLd,h]
theorem ic (L:List (List Int)):(vwI L).length=L.length:=by simp [vwI]
theorem fu (L:List (List Dom)):(vwD L).length=L.length:=by simp [vwD]
theorem lv (T:Nat) (L:List (List Int)):(rwI T L).length=L.length:=by simp [rwI]
theorem lu (T:Nat) (L:List (List Dom)):(rwD T L).length=L.length:=by simp [rwD]
theorem KH {L:List (List Int)} {k:Nat} (h:k<L.length):(vwI L)[k]? =some ((gLs L k).length,isl (gLs L k)):=by unfold vwI;rw[List.getElem?_map,List.getElem?_eq_getElem h,zc h];rfl
theorem KG {L:List (List Dom)} {k:Nat} (h:k<L.length):(vwD L)[k]? =some ((gLd L k).length,dsl (gLd L k)):=by unfold vwD;rw[List.getElem?_map,List.getElem?_eq_getElem h,cI h];rfl
theorem Ih (T:Nat) (L M:List (List Int)):rwI T (L++M)=rwI T L++rwI T M:=by simp [rwI]
theorem Ig (T:Nat) (L M:List (List Dom)):rwD T (L++M)=rwD T L++rwD T M:=by simp [rwD]
theorem aO {π:Nat→Nat} (T:Nat) (L:List (List Int)):(rwI T L).map (A.ren π)=rwI T L:=by unfold rwI;rw[List.map_map];rfl
theorem aN {π:Nat→Nat} (T:Nat) (L:List (List Dom)):(rwD T L).map (A.ren π)=rwD T L:=by unfold rwD;rw[List.map_map];rfl
theorem en {os:St} {T:Nat} {L:List (List Dom)}:∀ x∈rwD T L,A.hOk os x=true:=fun x hx=>by unfold rwD at hx;obtain⟨v,_,rfl⟩:=List.mem_map.1 hx;rfl
theorem wQI {σ:St} {π:Nat→Nat} {F:List Nat} {x T T' s:Nat} {ex:Bool} {L L':List (List Int)} {r:St} (h:Wk σ π F r) (h1:get σ (.o (π x))=some (.o ⟨T,s,ex,rwI T' L'⟩):=by exact rfl) (e:L=L':=by rfl) (h3:F.contains x=false:=by kernel_rfl):Wk σ π F ((.o x,some (.o ⟨T,s,ex,rwI T' L⟩))::r):=
 wk_o h1 ⟨rfl,rfl,fun h=>h,by subst e;exact(aO T' L).symm,fun y hy=>by unfold rwI at hy;obtain⟨v,_,rfl⟩:=List.mem_map.1 hy;rfl⟩ h3 h
theorem wQD {σ:St} {π:Nat→Nat} {F:List Nat} {x T T' s:Nat} {ex:Bool} {L L':List (List Dom)} {r:St} (h:Wk σ π F r) (h1:get σ (.o (π x))=some (.o ⟨T,s,ex,rwD T' L'⟩):=by exact rfl) (e:L=L':=by rfl) (h3:F.contains x=false:=by kernel_rfl):Wk σ π F ((.o x,some (.o ⟨T,s,ex,rwD T' L⟩))::r):=
 wk_o h1 ⟨rfl,rfl,fun h=>h,by subst e;exact(aN T' L).symm,fun y hy=>by unfold rwD at hy;obtain⟨v,_,rfl⟩:=List.mem_map.1 hy;rfl⟩ h3 h
theorem pkI {Γ:Cx} {σ:St} {h h1 n T T0 s0:Nat} {ex0:Bool} {L:List (List Int)} {r:List Int} (ho:get σ (.o h)=some (.o ⟨T0,s0,ex0,rwI T L++[.sl h1 0 n]⟩):=by kernel_rfl) (ho1:get σ (.o h1)=some (.o ⟨T,1,true,pl (isl r)⟩):=by kernel_rfl) (hne:Nat.beq h h1=false:=by kernel_rfl) (hn:n=r.length:=by simp):
  eO Γ σ ((.o h,some (.o ⟨T0,s0,ex0,rwI T (L++[r])⟩))::(.o h1,none)::σ):=by
 subst hn
 refine vH (j:=L.length) (n:=r.length) (T:=T) (s:=1) (xs:=isl r) ho ho1 hne (by rw[List.getElem?_append_right (by rw[lv];omega),lv];simp) (by rw[dl,Nat.mul_one]) ?_
 rw[List.set_append,if_neg (by rw[lv];omega),lv,Ih];simp [rwI]
theorem pkD {Γ:Cx} {σ:St} {h h1 n T T0 s0:Nat} {ex0:Bool} {L:List (List Dom)} {r:List Dom} (ho:get σ (.o h)=some (.o ⟨T0,s0,ex0,rwD T L++[.sl h1 0 n]⟩):=by kernel_rfl) (ho1:get σ (.o h1)=some (.o ⟨T,3,true,pl (dsl r)⟩):=by kernel_rfl) (hne:Nat.beq h h1=false:=by kernel_rfl) (hn:n=r.length:=by simp):
  eO Γ σ ((.o h,some (.o ⟨T0,s0,ex0,rwD T (L++[r])⟩))::(.o h1,none)::σ):=by
 subst hn
 refine vH (j:=L.length) (n:=r.length) (T:=T) (s:=3) (xs:=dsl r) ho ho1 hne (by rw[List.getElem?_append_right (by rw[lu];omega),lu];simp) (by rw[cc]) ?_
 rw[List.set_append,if_neg (by rw[lu];omega),lu,Ig];simp [rwD]
theorem fzI {Γ:Cx} {σ:St} {k h T0 T n:Nat} {ex0:Bool} {L:List (List Int)} (hk:get σ (.s k)=some (.s (.b (.a (.sl h 0 n)))):=by kernel_rfl) (ho:get σ (.o h)=some (.o ⟨T0,1,ex0,rwI T L⟩):=by kernel_rfl) (hn:n=L.length:=by simp):eO Γ σ ((.s k,some (.s (.b (.a (.slvv 1 (vwI L))))))::(.o h,none)::σ):=
 kJ hk ho Ii (by rw[hn,ic])
theorem fzD {Γ:Cx} {σ:St} {k h T0 T n:Nat} {ex0:Bool} {L:List (List Dom)} (hk:get σ (.s k)=some (.s (.b (.a (.sl h 0 n)))):=by kernel_rfl) (ho:get σ (.o h)=some (.o ⟨T0,1,ex0,rwD T L⟩):=by kernel_rfl) (hn:n=L.length:=by simp):eO Γ σ ((.s k,some (.s (.b (.a (.slvv 3 (vwD L))))))::(.o h,none)::σ):=
 kJ hk ho AV (by rw[hn,fu])
theorem dvD {t h n T0 T:Nat} {ex:Bool} {L:List (List Dom)} (hn:n=L.length:=by simp):ArgV (.tmp t) (.a (.slvv 3 (vwD L))) [(.s t,.s (.b (.a (.sl h 0 n)))),(.o h,.o ⟨T0,1,ex,rwD T L⟩)]:=ArgV.deep t h n 3 (by rw[hn,fu]) AV
section
variable {Γ:Cx} {d:Nat} {ty:TypeId} {pos:String} {af:Array Edge} {g:Option (Nat × Bool)}
theorem b0Q {t e h b T:Nat} (hN:Γ.ok d) (hu:Γ.P.underlying t=some (.slice e)) (hz:ZI Γ.P e (.slice none 0 0) 1 b):Acts Γ ⟨some d,.buildSlice t 0 #[],ty,pos,af,g⟩ [(.o h,.free)] [(.s d,some (.s (.b (.a (.sl h 0 0))))),(.o h,some (.o ⟨e,1,true,rwI T []⟩))]:=df hN hu hz
theorem b0P {t e h b T:Nat} (hN:Γ.ok d) (hu:Γ.P.underlying t=some (.slice e)) (hz:ZI Γ.P e (.slice none 0 0) 1 b):Acts Γ ⟨some d,.buildSlice t 0 #[],ty,pos,af,g⟩ [(.o h,.free)] [(.s d,some (.s (.b (.a (.sl h 0 0))))),(.o h,some (.o ⟨e,1,true,rwD T []⟩))]:=df hN hu hz
theorem fill1 (A:Option Addr) (n c:Nat):Instr.fill (fun i=>some (i*1,1)) ((Array.range (1*1)).map ((Value.slice none 0 0).cells[· %(Value.slice none 0 0).cells.size]!)) (#[(0,Value.slice A n c)]:Array (Nat × Value)).toList=some #[.slice A n c]:=by
  have e:(Array.range (1*1)).map ((Value.slice none 0 0).cells[· %(Value.slice none 0 0).cells.size]!)= #[.slice none 0 0]:=by rw[show Array.range (1*1)= #[0] from by decide];simp [Value.cells]
  rw[e];simp [Instr.fill,Value.cells]
theorem bs1 {t e x h b:Nat} {X:A} (hN:Γ.ok d) (hu:Γ.P.underlying t=some (.slice e)) (hz:ZI Γ.P e (.slice none 0 0) 1 b) (hX:∃ h off n,X= .sl h off n∨(∃ s xs,X= .slv n s xs)):
  Acts Γ ⟨some d,.buildSlice t 1 #[(0,.tmp x)],ty,pos,af,g⟩ [(.o h,.free),(.s x,.s (.b (.a X)))] [(.s d,some (.s (.b (.a (.sl h 0 1))))),(.o h,some (.o ⟨e,1,true,[X]⟩))]:=by
 intro σ a w ρ I hs' hR K Q hK
 obtain⟨i,hi,hz,hs,_⟩:=hz.get
 have hr:RelA ρ I w X (a.eval (.tmp x)):=hs'.sl x _ (hR (.s x,.s (.b (.a X))) (by simp))
 have hu':∃ A n c,a.eval (.tmp x)= .slice A n c:=by
  obtain⟨h',off,n,rfl |⟨s,xs,rfl⟩⟩:=hX
  ·obtain⟨p,A,_,e,_⟩:=hr;exact⟨_,_,_,e⟩
  ·obtain⟨_,A,c,e,_⟩:=hr;exact⟨_,_,_,e⟩
 have hnr:X.isRow=false:=by
  obtain⟨h',off,n,rfl |⟨s,xs,rfl⟩⟩:=hX<;>rfl
 obtain⟨A0,n0,c0,hu0⟩:=hu'
 obtain⟨ρ',hρ,hx',hs2⟩:=hs'.new (hR (.o h,.free) (by simp)) (cur:= #[a.eval (.tmp x)]) (T:=e) (cap:=1) (s:=1) (ex:=true) (cells:=[X]) (by simp) (by simp) (fun _=>by unfold maxLen;omega) (fun j y hj=>by
  match j,hj with
  | 0,hj=>simp at hj;subst hj;exact⟨_,rfl,hr⟩
  | j+1,hj=>simp at hj) (RowFit.no (by intro y hy;simp at hy;subst hy;exact hnr))
 have hrun:=run_buildSlice (P:=Γ.P) w t e 1 #[(0,a.eval (.tmp x))] #[a.eval (.tmp x)] i (.slice none 0 0) hu hi hz (by rw[hs];omega) (by rw[hs];omega) (by rw[hs,hu0];exact fill1 A0 n0 c0)
 unfold Oper.wp
 simp only[execOp,List.map_toArray,List.map_cons,List.map_nil]
 rw[Sem.run_bind,hrun]
 show K (a.put (some d) _) _
 exact hK _ _ ⟨ρ',I,hs2.put (V:= .b (.a (.sl h 0 1))) hN ⟨_,some ⟨w.heap.size,0,none⟩,hx',by simp,by simp,fun _=>by simp⟩⟩
theorem aQ {x h h2 n nm t e b y hy Ty:Nat} {X:A} {exy:Bool} {c:List A} (hN:Γ.ok d) (ht:Γ.P.underlying t=some (.slice e)) (hz:ZI Γ.P e (.slice none 0 0) 1 b) (hX:∃ h off n,X= .sl h off n∨(∃ s xs,X= .slv n s xs)) (hl:c.length=n) (hn:n+1≤4194304) (hnm:n+1=nm) (hb:b≤1000:=by decide):
  Acts Γ ⟨some d,.call { callee:= .builtin .append,args:= #[.tmp x,.tmp y],argTypes:= #[t,t] },ty,pos,af,g⟩ ((.s x,.s (.b (.a (.sl h 0 n))))::(.o h,.o ⟨e,1,true,c⟩)::(.o h2,.free)::([(.s y,.s (V.b (.a (.sl hy 0 1))))]++[(.o hy,.o ⟨Ty,1,exy,[X]⟩)]))
   [(.s d,some (.s (.b (.a (.sl h2 0 nm))))),(.o h2,some (.o ⟨e,1,true,c++[X]⟩)),(.o h,none)]:=by
 obtain⟨i,hi,hz,hs,hib⟩:=hz.get
 subst hnm
 refine jD (i:=i) (z:= .slice none 0 0) (o:=⟨e,1,true,c⟩) (X:= .sl hy 0 1) (m:=1) (off:=0) (xs:=c) (ys:=[X]) (zs:=c++[X]) (ex:=true) hN ht hi hz (by rw[hs];rfl) hs Nat.one_pos rfl (by simp;omega) (by simp [←hl]) (fun _=>⟨rfl,rfl⟩) xt (Src.sl hy 0 1 ⟨Ty,1,exy,[X]⟩ [X] (by simp) (by simp)) ?_ (by unfold maxLen;omega) (by rw[hib];exact Nat.le_trans (Nat.mul_le_mul hn hb) (by omega)) rfl
 intro z hz
 simp at hz;subst hz
 obtain⟨h',off,n,rfl |⟨s,xs,rfl⟩⟩:=hX<;>rfl
theorem xvv {x t e s k:Nat} {i:Operand} {iv:Int} {rows:List (Nat × List Value)} {R:List (Key × Cell)} (hN:Γ.ok d) (hu:Γ.P.underlying t=some (.slice e)) (he:(Γ.P.info? e).map (·.size)=some 1) (hi:OpV i (.int .i64 iv) R) (hk:iv=(k:Int):=by exact rfl) (hlt:k<rows.length:=by(simp only[ic,fu];omega)):
    Acts Γ ⟨some d,.indexAddr t (.tmp x) i,ty,pos,af,g⟩ ((.s x,.s (.b (.a (.slvv s rows))))::R) [(.s d,some (.s (.b (.a (.ptrvv s rows k)))))]:=ua hN hu he hi hk hlt
theorem lvI {t T n k:Nat} {L:List (List Int)} (hN:Γ.ok d) (hT:TI Γ.P T false n) (hx:k<L.length:=by omega):
  Acts Γ ⟨some d,.load T (.tmp t),ty,pos,af,g⟩ [(.s t,.s (.b (.a (.ptrvv 1 (vwI L) k))))] [(.s d,some (.s (.b (.a (.slv (gLs L k).length 1 (isl (gLs L k)))))))]:=oB hN hT (KH hx)
theorem lvD {t T n k:Nat} {L:List (List Dom)} (hN:Γ.ok d) (hT:TI Γ.P T false n) (hx:k<L.length:=by omega):
  Acts Γ ⟨some d,.load T (.tmp t),ty,pos,af,g⟩ [(.s t,.s (.b (.a (.ptrvv 3 (vwD L) k))))] [(.s d,some (.s (.b (.a (.slv (gLd L k).length 3 (dsl (gLd L k)))))))]:=oB hN hT (KG hx)
theorem lnI {t x e:Nat} {L:List (List Int)} {iv:Int} (hN:Γ.ok d) (hu:Γ.P.underlying t=some (.slice e)) (hi:(L.length:Int)=iv:=by exact rfl):Acts Γ ⟨some d,.call { callee:= .builtin .len,args:= #[.tmp x],argTypes:= #[t] },ty,pos,af,g⟩ [(.s x,.s (.b (.a (.slvv 1 (vwI L)))))] [(.s d,some (.s (V.v (.int .i64 iv))))]:=oz hN hu xt (LenOf.slvv _ _) (by rw[ic];exact hi)
theorem lnD {t x e:Nat} {L:List (List Dom)} {iv:Int} (hN:Γ.ok d) (hu:Γ.P.underlying t=some (.slice e)) (hi:(L.length:Int)=iv:=by exact rfl):Acts Γ ⟨some d,.call { callee:= .builtin .len,args:= #[.tmp x],argTypes:= #[t] },ty,pos,af,g⟩ [(.s x,.s (.b (.a (.slvv 3 (vwD L)))))] [(.s d,some (.s (V.v (.int .i64 iv))))]:=oz hN hu xt (LenOf.slvv _ _) (by rw[fu];exact hi)
end
end Cl
end Go.Proofs.YtgmkkfdnmdohlaaGreatDoor
namespace Go.Proofs.YtgmkkfdnmdohlaaGreatDoor
namespace Cl
open Go.ChangeShapes Go.WideShapes Go.ChangeAt Go.RowKit
theorem vJ {Γ:Cx} {σ:St} {h T s:Nat} {ex:Bool} {cs cs':List A} (n:Nat) (ho:get σ (.o h)=some (.o ⟨T,s,ex,cs⟩)) (hc:cs.take n=cs'):eO Γ σ ((.o h,some (.o ⟨T,s,ex,cs'⟩))::σ):=by
 subst hc
 intro a w ⟨ρ,I,hs⟩
 have g:∀ (i:Nat) (x:A),(cs.take n)[i]? =some x→cs[i]? =some x:=fun i x hx=>by
  rw[List.getElem?_take]at hx
  split at hx
  ·exact hx
  ·cases hx
 exact⟨ρ,I,hs.rnob ho (by rw[List.length_take];omega) (fun i x hx=>⟨x,g i x hx,fun _ h=>h⟩) fun i x hx _=>g i x hx⟩
theorem trD {Γ:Cx} {σ:St} {h T:Nat} {ex:Bool} {L L':List Dom} (n:Nat) (ho:get σ (.o h)=some (.o ⟨T,3,ex,pl (dsl L)⟩):=by kernel_rfl) (hc:L.take n=L'):eO Γ σ ((.o h,some (.o ⟨T,3,ex,pl (dsl L')⟩))::σ):=
 vJ (n*3) ho (by rw[←hc,←oJ];unfold pl;rw[List.map_take])
theorem wnP {Γ:Cx} {σ:St} {k h T T':Nat} (hk:get σ (.s k)=some (.s (V.v (.slice none 0 0)))) (hh:get σ (.o h)=some .free):eO Γ σ ((.s k,some (.s (.b (.a (.sl h 0 0)))))::(.o h,some (.o ⟨T,1,true,rwD T' []⟩))::σ):=tX hk hh
section
variable {Γ:Cx} {d:Nat} {ty:TypeId} {pos:String} {af:Array Edge} {g:Option (Nat × Bool)}
end
section
variable {Γ:Cx} {d:Nat} {ty:TypeId} {pos:String} {af:Array Edge} {g:Option (Nat × Bool)}
end
end Cl
end Go.Proofs.YtgmkkfdnmdohlaaGreatDoor
namespace Go.Proofs.YtgmkkfdnmdohlaaGreatDoor
namespace Cl
open Go.ChangeShapes Go.WideShapes Go.ChangeAt Go.RowKit
theorem zS {Γ:Cx} {σ τ υ:St} (h1:eO Γ σ τ) (h2:eO Γ τ υ):eO Γ σ υ:=fun a w h=>h2 a w (h1 a w h)
section
variable {Γ:Cx} {d:Nat} {ty:TypeId} {pos:String} {af:Array Edge} {g:Option (Nat × Bool)}
end
def mW (a b:Int):Int:=IntKind.i64.wrap (a*b)
end Cl
end Go.Proofs.YtgmkkfdnmdohlaaGreatDoor
namespace Go.Proofs.YtgmkkfdnmdohlaaGreatDoor
namespace Cl
open Go.ChangeShapes Go.WideShapes Go.ChangeAt Go.RowKit
def rvD (L:List (List Dom)):List A:=L.map fun r=> .slv r.length 3 (dsl r)
theorem AU (L:List (List Dom)):(rvD L).length=L.length:=by simp [rvD]
theorem Ib (L M:List (List Dom)):rvD (L++M)=rvD L++rvD M:=by simp [rvD]
theorem Ie {π:Nat→Nat} (L:List (List Dom)):(rvD L).map (A.ren π)=rvD L:=by unfold rvD;rw[List.map_map];rfl
theorem Ic {L:List (List Dom)}:∀ x∈rvD L,x.one=true:=fun x hx=>by unfold rvD at hx;obtain⟨v,_,rfl⟩:=List.mem_map.1 hx;rfl
theorem Kx (L:List (List Dom)):(vwD L).map (fun r=>A.slv r.1 3 r.2)=rvD L:=by unfold vwD rvD;rw[List.map_map];rfl
theorem wQV {σ:St} {π:Nat→Nat} {F:List Nat} {x T s:Nat} {ex:Bool} {L L':List (List Dom)} {r:St} (h:Wk σ π F r) (h1:get σ (.o (π x))=some (.o ⟨T,s,ex,rvD L'⟩):=by exact rfl) (e:L=L':=by rfl) (h3:F.contains x=false:=by kernel_rfl):Wk σ π F ((.o x,some (.o ⟨T,s,ex,rvD L⟩))::r):=
 wk_o h1 ⟨rfl,rfl,fun h=>h,by subst e;exact(Ie L).symm,fun y hy=>by unfold rvD at hy;obtain⟨v,_,rfl⟩:=List.mem_map.1 hy;rfl⟩ h3 h
theorem fzV {Γ:Cx} {σ:St} {k h T0 n:Nat} {ex0:Bool} {L:List (List Dom)} (hk:get σ (.s k)=some (.s (.b (.a (.sl h 0 n)))):=by kernel_rfl) (ho:get σ (.o h)=some (.o ⟨T0,1,ex0,rvD L⟩):=by kernel_rfl) (hn:n=L.length:=by simp):
  eO Γ σ ((.s k,some (.s (.b (.a (.slvv 3 (vwD L))))))::(.o h,none)::σ):=by
 subst hn
 intro a w ⟨ρ,I,hs⟩
 obtain⟨p',A0,hp',he,hcap,hA⟩:=hs.sl k _ hk
 obtain⟨p,hp,ps,pl0,pe,pz,pc⟩:=hs.m.ow h _ ho
 rw[hp]at hp';injection hp' with hp';subst hp'
 have hhd:∀ x,V.b (B.a (A.slvv 3 (vwD L)))=V.b (B.a x)→∀ h',¬x.hd h':=fun x hx h'=>by
  injection hx with hx;injection hx with hx;subst hx;exact id
 have hl:=fu L
 rcases Nat.eq_zero_or_pos L.length with hn |hn
 ·exact⟨ρ,I,(hs.drop h).rename ⟨A0,p.cap-0,by rw[hl];exact he,by rw[hl];omega,fun h=>by rw[hl]at h;omega⟩ hhd⟩
 ·have hlv:p.live=true:=by
   rcases Bool.eq_false_or_eq_true p.live with q |q
   ·exact q
   ·have:=pz q;omega
  have hA':=hA (.inr (by omega))
  rw[hlv,if_pos rfl]at hA'
  obtain⟨cur,c1,c2,c3,c4⟩:=pc hlv
  refine⟨ρ,_,(hs.freeze ho hp hlv).rename ⟨A0,p.cap-0,by rw[hl];exact he,by rw[hl];omega,fun _=>⟨p.block,p.base,by rw[hA'];simp,.inr rfl,fun j r hj=> ?_⟩⟩ hhd⟩
  have hx:∃ x,(rvD L)[j]? =some (.slv r.1 3 r.2)∧L[j]? =some x:=by
   unfold vwD at hj;rw[List.getElem?_map]at hj
   cases hq:L[j]? with
   | none=>rw[hq]at hj;simp at hj
   | some x=>rw[hq]at hj;simp at hj;subst hj;exact⟨x,by unfold rvD;rw[List.getElem?_map,hq];rfl,rfl⟩
  obtain⟨x,hx,_⟩:=hx
  obtain⟨v,hv,hxl,A1,k1,e,hle,hx⟩:=c4 j _ hx
  subst e
  refine⟨hxl,A1,k1,?_,hle,fun hr=> ?_⟩
  ·simp only[World.cell?,c1];exact hv
  ·obtain⟨g,o,e1,e2,e3⟩:=hx hr
   exact⟨g,o,e1,.inl e2,e3⟩
theorem rV {L M:List Dom} (h:L=M):B.a (.slv L.length 3 (dsl L))=B.a (.slv M.length 3 (dsl M)):=by rw[h]
section
variable {Γ:Cx} {d:Nat} {ty:TypeId} {pos:String} {af:Array Edge} {g:Option (Nat × Bool)}
theorem aV {x h h2 n nm t e b y:Nat} {L M:List (List Dom)} (hN:Γ.ok d) (ht:Γ.P.underlying t=some (.slice e)) (hz:ZI Γ.P e (.slice none 0 0) 1 b) (hl:L.length=n) (hn:n+M.length≤4194304) (hnm:n+M.length=nm) (hb:b≤1000:=by decide):
  Acts Γ ⟨some d,.call { callee:= .builtin .append,args:= #[.tmp x,.tmp y],argTypes:= #[t,t] },ty,pos,af,g⟩ ((.s x,.s (.b (.a (.sl h 0 n))))::(.o h,.o ⟨e,1,true,rvD L⟩)::(.o h2,.free)::([(.s y,.s (V.b (.a (.slvv 3 (vwD M)))))]++[]))
   [(.s d,some (.s (.b (.a (.sl h2 0 nm))))),(.o h2,some (.o ⟨e,1,true,rvD (L++M)⟩)),(.o h,none)]:=by
 obtain⟨i,hi,hz,hs,hib⟩:=hz.get
 subst hnm
 exact jD (i:=i) (z:= .slice none 0 0) (o:=⟨e,1,true,rvD L⟩) (X:= .slvv 3 (vwD M)) (m:=M.length) (off:=0) (xs:=rvD L) (ys:=rvD M) (zs:=rvD (L++M)) (ex:=true) hN ht hi hz (by rw[hs];rfl) hs Nat.one_pos rfl (by simp only[AU];omega) (by simp only[Nat.zero_mul,List.drop_zero];exact List.take_of_length_le (by rw[AU];omega)) (fun _=>⟨rfl,rfl⟩) xt (by have:=Src.slvv 3 (vwD M);rw[Kx,fu]at this;exact this) Ic (by unfold maxLen;omega) (by rw[hib];exact Nat.le_trans (Nat.mul_le_mul hn hb) (by omega)) (Ib L M).symm
end
end Cl
end Go.Proofs.YtgmkkfdnmdohlaaGreatDoor
namespace Go.Proofs.YtgmkkfdnmdohlaaGreatDoor
namespace Cl
open Go.ChangeShapes Go.WideShapes Go.ChangeAt Go.RowKit
end Cl
end Go.Proofs.YtgmkkfdnmdohlaaGreatDoor
namespace Go.Proofs.YtgmkkfdnmdohlaaGreatDoor
namespace Cl
open Go.ChangeShapes Go.WideShapes Go.ChangeAt Go.RowKit
def ysl (l:List Nat):List Value:=l.map fun b:Nat=> .int .u8 (b:Int)
def gY (l:List Nat) (k:Nat):Nat:=l.getD k 0
theorem Ea {l:List Nat} {k:Nat} (h:k<l.length):gY l k=l[k]:=by simp [gY,h]
theorem wU (l:List Nat):(ysl l).length=l.length*1:=by simp [ysl]
theorem Bo {l:List Nat} {k:Nat} (h:k<l.length):(ysl l)[k]? =some (.int .u8 ((gY l k:Nat):Int)):=by simp [ysl,Ea h,h]
theorem Gk {l:List Nat} {k:Nat} (h:k<l.length):(ysl l)[k*1]? =some (.int .u8 ((gY l k:Nat):Int)):=by rw[Nat.mul_one];exact Bo h
theorem DZ {l:List Nat} (h:∀ x∈l,x<256) (k:Nat):gY l k<256:=by
 rcases Nat.lt_or_ge k l.length with h1 |h1
 ·rw[Ea h1];exact h _ (List.getElem_mem h1)
 ·unfold gY;rw[List.getD_eq_getElem?_getD,List.getElem?_eq_none h1];decide
theorem CW {Γ:Cx} {σ:St} {h h1 T0 s0 T s:Nat} {ex:Bool} (ho:get σ (.o h)=some (.o ⟨T0,s0,ex,[.val (.slice none 0 0)]⟩):=by kernel_rfl) (hh:get σ (.o h1)=some .free:=by kernel_rfl):
    eO Γ σ ((.o h,some (.o ⟨T0,s0,ex,[.sl h1 0 0]⟩))::(.o h1,some (.o ⟨T,s,true,pl []⟩))::σ):=by
  intro a w ⟨ρ,I,hs⟩
  obtain⟨ρ',hρ,hx',hs2⟩:=hs.adopt hh (p:=⟨0,0,0,s,false,true⟩) (o:=⟨T,s,true,pl []⟩) rfl (by simp [pl]) (fun _=>⟨rfl,rfl,Nat.zero_le _⟩) (fun _=>rfl) (fun h=>by simp at h) (RowFit.no pg) (fun h=>by simp at h) (fun h=>by simp at h)
  have hne:h≠h1:=fun e=>by rw[e,hh]at ho;cases ho
  have ho':get ((Key.o h1,some (Cell.o ⟨T,s,true,pl []⟩))::σ) (.o h)=some (.o ⟨T0,s0,ex,[.val (.slice none 0 0)]⟩):=by rw[bf (fj (fun e=>hne e.symm))];exact ho
  refine⟨ρ',I,hs2.rnob ho' (by simp) (fun i x' hx=> ?_) fun i x' hx hr=> ?_⟩
  · match i,hx with
    | 0,hx=>
      simp at hx;subst hx
      refine⟨_,rfl,fun u hu=> ?_⟩
      have hu:u= .slice none 0 0:=hu
      subst hu;exact⟨_,none,hx',rfl,Nat.le_refl _,fun _=>rfl⟩
    | i+1,hx=>simp at hx
  · match i,hx with
    | 0,hx=>simp at hx;subst hx;cases hr
    | i+1,hx=>simp at hx
theorem zR {Γ:Cx} {σ:St} {h h1 T0 s0 T:Nat} {ex:Bool} (ho:get σ (.o h)=some (.o ⟨T0,s0,ex,[.val (.slice none 0 0)]⟩):=by kernel_rfl) (hh:get σ (.o h1)=some .free:=by kernel_rfl):
  eO Γ σ ((.o h,some (.o ⟨T0,s0,ex,[.sl h1 0 0]⟩))::(.o h1,some (.o ⟨T,1,true,pl (isl [])⟩))::σ):=CW ho hh
section
variable {Γ:Cx} {d:Nat} {ty:TypeId} {pos:String} {af:Array Edge} {g:Option (Nat × Bool)}
theorem uY {t T m k:Nat} {L:List Nat} (n:Γ.ok d) (q:TI Γ.P T false m) (hk:k<L.length:=by omega):Acts Γ ⟨some d,.load T (.tmp t),ty,pos,af,g⟩ [(.s t,.s (.b (.a (.ptrv 1 (ysl L) (k*1)))))] [(.s d,some (.s (V.v (.int .u8 ((gY L k:Nat):Int)))))]:=qM n q (Gk hk)
theorem qL {t x:Nat} {X:A} {y:Operand} {v:Value} {R:List (Key × Cell)} (hN:Γ.ok d) (hX:∃ h off n,X= .sl h off n∨(∃ s xs,X= .slv n s xs)) (hy:OpV y v R) (hb:∀ A n c,Γ.P.built t [(0,.slice A n c),(2,v)]=some #[.slice A n c,.int .i64 0,v]):
  Acts Γ ⟨some d,.build t #[(0,.tmp x),(2,y)],ty,pos,af,g⟩ ((.s x,.s (.b (.a X)))::R) [(.s d,some (.s (.b (.agg [X,.val (.int .i64 0),.val v]))))]:=
 Acts.pure rfl hN fun a w ρ I hfa=>by
  have hr:RelA ρ I w X (a.eval (.tmp x)):=hfa (.s x) (.s (.b (.a X))) (by simp)
  have hsl:∃ A n c,a.eval (.tmp x)= .slice A n c:=by
   obtain⟨h,off,n,rfl |⟨s,xs,rfl⟩⟩:=hX
   ·obtain⟨p,A,_,e,_⟩:=hr;exact⟨A,_,_,e⟩
   ·obtain⟨_,A,c,e,_⟩:=hr;exact⟨A,_,c,e⟩
  obtain⟨A,n,c,he⟩:=hsl
  have hv:=hy.ev (fun k c hk=>hfa k c (by simp [hk]))
  refine⟨.agg #[.slice A n c,.int .i64 0,v],?_,[.slice A n c,.int .i64 0,v],rfl,rfl,fun j z u h1 h2=> ?_⟩
  ·simp only[execOp,List.map_toArray,List.map_cons,List.map_nil,he,hv]
   rw[Sem.run_bind,run_build w t #[(0,.slice A n c),(2,v)] #[.slice A n c,.int .i64 0,v] (hb A n c)]
   rfl
  ·match j,h1,h2 with
   | 0,h1,h2=>simp at h1 h2;subst h1;subst h2;rw[←he];exact hr
   | 1,h1,h2=>simp at h1 h2;subst h1;subst h2;rfl
   | 2,h1,h2=>simp at h1 h2;subst h1;subst h2;rfl
theorem dX {t h off:Nat} (hN:Γ.ok d):Acts Γ ⟨some d,.nilCheck (.tmp t),ty,pos,af,g⟩ [(.s t,.s (V.p h off))] [(.s d,some (.s (V.p h off)))]:=
 Acts.pure rfl hN fun a w ρ I hf=>by
  obtain⟨p,hp,he⟩:=hf (.s t) (.s (V.p h off)) (by simp)
  have he':a.eval (.tmp t)= .pointer (some ⟨p.block,p.base+off,none⟩):=he
  refine⟨.pointer (some ⟨p.block,p.base+off,none⟩),?_,p,hp,rfl⟩
  simp only[execOp,he']
  simp [go_sem]
end
theorem dV {P:Program} {σ:St} {t T h:Nat} (o:Ob) {cs:List A} (hg:get σ (.s t)=some (.s (V.p h 0))) (ho:get σ (.o h)=some (.o o)) (hT:TI P T true o.cells.length) (hp:0<o.cells.length) (e:o.cells=cs):VO P σ (.cell t T) (.agg cs):=by
 subst e;exact .cells t T h o hg ho hT hp
def aW (a b:Int):Int:=IntKind.i64.wrap (a+b)
end Cl
end Go.Proofs.YtgmkkfdnmdohlaaGreatDoor
namespace Go.Proofs.YtgmkkfdnmdohlaaGreatDoor
namespace Cl
open Go.ChangeShapes Go.WideShapes Go.ChangeAt Go.RowKit
def Cx.reb (Γ:Cx) (B:Nat) (w:World):Cx:= { Γ with W:=w,own:=fun b=>(Γ.own b∨Γ.W.heap.size≤b)∧b≠B,im0:=fun b=>(Γ.im0 b∨Γ.own b∨Γ.W.heap.size≤b)∧b≠B }
theorem Sat.frame {Γ:Cx} {σ:St} {a:Act} {w:World} {ρ:Nat→Option Place} {I:Nat→Prop} (h:Sat Γ σ a w ρ I):Frame0 Γ w:=h.m.fm
theorem Sat.reb {Γ:Cx} {σ:St} {a:Act} {w:World} {ρ:Nat→Option Place} {I:Nat→Prop} {B:Nat} (h:Sat Γ σ a w ρ I)
  (hp:∀ x o p,get σ (.o x)=some (.o o)→ρ x=some p→p.live=true→p.block≠B) (hr:∀ {h j T n s xs b cap},RowIn σ w ρ h j T n s xs b cap→b≠B) (hI:¬I B):Sat (Γ.reb B w) σ a w ρ I:=by
 refine⟨h.n,h.d,h.fx,⟨h.kp.1,fun b hb=> .inl ⟨h.kp.2 b hb,fun e=>hI (e▸hb)⟩⟩,h.sl,?_⟩
 refine⟨h.m.ow,h.m.fr,fun x p o ho hq hl=> ?_,h.m.inj,h.m.im,h.m.rs,fun hri=> .inl ⟨h.m.rp hri,hr hri⟩,⟨rfl,rfl,rfl,Nat.le_refl _,fun _ _ _=>rfl⟩⟩
 obtain⟨h1,h2,h3⟩:=h.m.pl x p o ho hq hl
 exact⟨h1,.inl ⟨h2,hp x o p ho hq hl⟩,h3⟩
theorem Sat.reb_off {Γ:Cx} {σ:St} {a:Act} {w w0:World} {ρ:Nat→Option Place} {I:Nat→Prop} {B:Nat} (hB:B<w0.heap.size) (h:Sat (Γ.reb B w0) σ a w ρ I):
  (∀ x o p,get σ (.o x)=some (.o o)→ρ x=some p→p.live=true→p.block≠B)∧(∀ {h j T n s xs b cap},RowIn σ w ρ h j T n s xs b cap→b≠B)∧¬I B∧w.heap[B]? =w0.heap[B]? :=by
 refine⟨fun x o p ho hq hl=> ?_,fun hri=> ?_,fun hI=> ?_,?_⟩
 ·rcases(h.m.pl x p o ho hq hl).2.1 with h1 |h1
  ·exact h1.2
  ·have:w0.heap.size≤p.block:=h1;omega
 ·rcases h.m.rp hri with h1 |h1
  ·exact h1.2
  ·have:w0.heap.size≤_:=h1;omega
 ·rcases h.kp.2 B hI with h1 |h1 |h1
  ·exact h1.2 rfl
  ·exact h1.2 rfl
  ·have:w0.heap.size≤B:=h1;omega
 ·exact h.m.fm.2.2.2.2 B hB fun h1=>h1.2 rfl
theorem Sat.back {Γ:Cx} {σ:St} {a:Act} {w w0:World} {ρ:Nat→Option Place} {I:Nat→Prop} {B:Nat} (hB:Γ.W.heap.size≤B) (hF:Frame0 Γ w0) (h:Sat (Γ.reb B w0) σ a w ρ I):Sat Γ σ a w ρ I:=by
 have hn:∀ b,((Γ.own b∨Γ.W.heap.size≤b)∧b≠B)∨w0.heap.size≤b→Γ.own b∨Γ.W.heap.size≤b:=fun b hb=>by
  rcases hb with hb |hb
  ·exact hb.1
  ·exact .inr (Nat.le_trans hF.2.2.2.1 hb)
 refine⟨h.n,h.d,h.fx,⟨h.kp.1,fun b hb=> ?_⟩,h.sl,?_⟩
 ·rcases h.kp.2 b hb with h1 |h1
  ·exact h1.1
  ·exact .inr (hn b h1)
 refine⟨h.m.ow,h.m.fr,fun x p o ho hq hl=> ?_,h.m.inj,h.m.im,h.m.rs,fun hri=>hn _ (h.m.rp hri),?_⟩
 ·obtain⟨h1,h2,h3⟩:=h.m.pl x p o ho hq hl
  exact⟨h1,hn _ h2,h3⟩
 ·obtain⟨f1,f2,f3,f4,f5⟩:=h.m.fm
  obtain⟨g1,g2,g3,g4,g5⟩:=hF
  exact⟨f1.trans g1,f2.trans g2,f3.trans g3,Nat.le_trans g4 f4,fun b hb ho=>(f5 b (Nat.lt_of_lt_of_le hb g4) fun h1=>by
   rcases h1.1 with h2 |h2
   ·exact ho h2
   ·exact absurd hb (Nat.not_lt.2 h2)).trans (g5 b hb ho)⟩
theorem Frame0.trans {Γ:Cx} {w0 w:World} {B:Nat} (hB:Γ.W.heap.size≤B) (hF:Frame0 Γ w0) (h:Frame0 (Γ.reb B w0) w):Frame0 Γ w:=by
 obtain⟨f1,f2,f3,f4,f5⟩:=h
 obtain⟨g1,g2,g3,g4,g5⟩:=hF
 exact⟨f1.trans g1,f2.trans g2,f3.trans g3,Nat.le_trans g4 f4,fun b hb ho=>(f5 b (Nat.lt_of_lt_of_le hb g4) fun h1=>by
  rcases h1.1 with h2 |h2
  ·exact ho h2
  ·exact absurd hb (Nat.not_lt.2 h2)).trans (g5 b hb ho)⟩
theorem Sat.turned {Γ:Cx} {σ:St} {a:Act} {w w0 w1:World} {ρ:Nat→Option Place} {I:Nat→Prop} {B:Nat} (hB:B<w0.heap.size) (hF:Frame0 Γ w0) (h:Sat (Γ.reb B w0) σ a w ρ I)
  (hs:w.heap.size≤w1.heap.size) (ho:∀ b,b<w.heap.size→b≠B→w1.heap[b]? =w.heap[b]?):Sat (Γ.reb B w1) σ a w1 ρ I:=by
 obtain⟨o1,o2,o3,_⟩:=h.reb_off hB
 have hn:∀ b,((Γ.own b∨Γ.W.heap.size≤b)∧b≠B)∨w0.heap.size≤b→(Γ.own b∨Γ.W.heap.size≤b):=fun b hb=>by
  rcases hb with hb |hb
  ·exact hb.1
  ·exact .inr (Nat.le_trans hF.2.2.2.1 hb)
 have hI:∀ b,I b→I b∧w1.heap[b]? =w.heap[b]? :=fun b hb=>⟨hb,ho b (h.m.im b hb) fun e=>o3 (e▸hb)⟩
 have hrw:=h.m.rows (τ:=σ) (w':=w1) (ρ':=ρ) (I':=I) (fun _ _ h=>h) (fun _ _ _ _ h=>h) (fun x o p hx hp hl=>ho _ (h.m.pl x p o hx hp hl).2.2 (o1 x o p hx hp hl)) fun hr=>⟨ho _ (h.m.rs.ok hr).lt (o2 hr),(h.m.rs.ok hr).ni,Nat.lt_of_lt_of_le (h.m.rs.ok hr).lt hs⟩
 refine⟨h.n,h.d,h.fx,⟨h.kp.1,fun b hb=> .inl ⟨?_,fun e=>o3 (e▸hb)⟩⟩,fun k v hk=>(h.sl k v hk).mono (fun _ _ h=>h) hI,?_⟩
 ·rcases h.kp.2 b hb with h1 |h1
  ·exact h1.1
  ·exact .inr (hn b h1)
 refine⟨fun x o hx=>(h.m.ow x o hx).mono (fun _ _ h=>h) hI fun p hp hl=>ho _ (h.m.pl x p o hx hp hl).2.2 (o1 x o p hx hp hl),h.m.fr,fun x p o hx hp hl=> ?_,h.m.inj,fun b hb=>Nat.lt_of_lt_of_le (h.m.im b hb) hs,hrw.1,fun hri=> ?_,⟨rfl,rfl,rfl,Nat.le_refl _,fun _ _ _=>rfl⟩⟩
 ·obtain⟨h1,h2,h3⟩:=h.m.pl x p o hx hp hl
  exact⟨h1,.inl ⟨hn _ h2,o1 x o p hx hp hl⟩,Nat.lt_of_lt_of_le h3 hs⟩
 ·have h2:=hrw.2 hri
  obtain⟨o',p',q1,q2,q3,q4,q5⟩:=hri
  have q6:=(World.cell?_of_block (w:=w) (w':=w1) (ho _ (h.m.pl _ p' o' q1 q2 q3).2.2 (o1 _ o' p' q1 q2 q3))).symm.trans q5
  exact .inl ⟨hn _ h2,o2 ⟨o',p',q1,q2,q3,q4,q6⟩⟩
theorem Frame0.turned {Γ:Cx} {w w1:World} {B:Nat} (hB:Γ.W.heap.size≤B) (hF:Frame0 Γ w) (hos:w1.os=w.os) (htp:w1.tape=w.tape) (hout:w1.output=w.output) (hs:w.heap.size≤w1.heap.size) (ho:∀ b,b<w.heap.size→b≠B→w1.heap[b]? =w.heap[b]?):Frame0 Γ w1:=by
 obtain⟨g1,g2,g3,g4,g5⟩:=hF
 exact⟨hos.trans g1,htp.trans g2,hout.trans g3,Nat.le_trans g4 hs,fun b hb hn=>(ho b (Nat.lt_of_lt_of_le hb g4) (by omega)).trans (g5 b hb hn)⟩
end Cl
end Go.Proofs.YtgmkkfdnmdohlaaGreatDoor
