/- Parts put together: Edge, Cells, Cl, Cl2, Cl3, Cl4, Cl5, Cl6, Cl7, Cl8, Cl9, Cl10, Cl11, Cl12. -/
import Derived.Test.YtgmkkfdnmdohlaaGreatDoorBase
import Derived.Deep.MidRow
import Derived.Great.BuildSlice
import Derived.Orders
set_option linter.unusedSimpArgs false
set_option linter.unusedVariables false
namespace Go.Proofs.YtgmkkfdnmdohlaaGreatDoor
open Go.ChangeShapes Go.WideShapes Go.ChangeAt Go.RowKit
def inB (a b c:Int):Bool:=decide (b≤a)&&decide (a≤c)
theorem bP {a b c:Int}:inB a b c=true↔b≤a∧a≤c:=by unfold inB;simp
theorem uG {a b c:Int}:inB a b c=false↔¬(b≤a∧a≤c):=by rw[←bP];simp
theorem mB (a b c:Int) (w:World):
  Calls Tryz.prog 61 #[.int .i64 a,.int .i64 b,.int .i64 c] w fun e w'=>e= .returned (.bool (inB a b c))∧w=w':=by
 go_enter Tryz.func61,Tryz.ntmps61
 go_wp2
 all_goals (go_ret;refine⟨?_,rfl⟩;unfold inB;simp;try omega)
theorem mN (a b c:Int) (w:World):
  Calls Tryz.prog 59 #[.int .i64 a,.int .i64 b,.int .i64 c] w fun e w'=>e= .returned (.bool (inB a b c))∧w=w':=by
 go_enter Tryz.func59,Tryz.ntmps59
 go_wp2
 all_goals (go_ret;refine⟨?_,rfl⟩;unfold inB;simp;try omega)
def fE (l:List Int) (a b:Int):Bool:=l.all fun x=>inB x a b
set_option maxHeartbeats 400000 in
theorem wZ (l:List Int) (A:Option Addr) (n c:Nat) (a b:Int) (w:World) (hrd:Rd w 1 A n (isl l)) (hl:n≤4194304):
  Calls Tryz.prog 107 #[.slice A n c,.int .i64 a,.int .i64 b] w fun e w'=>e= .returned (.bool (fE l a b))∧w=w':=by
 obtain rfl:=hrd.len1
 go_enter Tryz.func107,Tryz.ntmps107
 go_wp2
 go_loop [8,11] (fun _ i=>∃ k:Nat,k≤l.length∧i= .int .i64 k∧fE (l.take k) a b=true) (fun _ i=>l.length-(intOf i).toNat)
 case atStart=>exact⟨0,Nat.zero_le _,rfl,rfl⟩
 case round=>
  obtain⟨k,hk,rfl,hp⟩:=hrel
  have HP:=Lib.hid hp
  clear hp
  by_cases hlt:k<l.length
  ·obtain⟨g,off,rfl,hg,c0⟩:=hrd.ints hlt
   have HT:=Lib.hid (show fE (l.take (k+1)) a b=(fE (l.take k) a b&&inB l[k] a b) by unfold fE;rw[List.take_succ_eq_append_getElem hlt,List.all_append];simp)
   have HF:=Lib.hid (show inB l[k] a b=false→fE l a b=false by
    intro h;unfold fE;rw[List.all_eq_false];exact⟨l[k],List.getElem_mem hlt,by simp [h]⟩)
   go_wp2_with (go_at_call 61;refine(mB _ _ _ _).mono ?_;rintro e w2 ⟨rfl,rfl⟩)
   all_goals first
    | (go_round;(case rel=>exact⟨k+1,by omega,by go_num,by rw[HT.out,HP.out];simp_all⟩);(case measure=>simp [intOf];omega))
    | (go_ret;exact⟨fb (HF.out (by simp_all)).symm,rfl⟩)
  ·obtain rfl:k=l.length:=by omega
   have hfin:=Lib.hid (show fE l a b=true by have:=HP.out;rwa [List.take_length]at this)
   go_wp2
   go_ret
   exact⟨fb hfin.out.symm,rfl⟩
def nQ (a:Int):Int:=if a<0 then -a else a
end Go.Proofs.YtgmkkfdnmdohlaaGreatDoor
namespace Go.Proofs.YtgmkkfdnmdohlaaGreatDoor
open Go.ChangeShapes Go.WideShapes Go.ChangeAt Go.RowKit
def okc (x y:Int):Bool:=inB x 0 7&&inB y 0 7
def okd (x y:Int) (d:Bool):Bool:=okc x y&&(if d then okc x (y+1)else okc (x+1) y)
def Dom.ok (d:Dom):Bool:=okd d.x d.y d.d
def Cel.ok (c:Cel):Bool:=okc c.x c.y
theorem bL {x y:Int}:okc x y=true↔(0≤x∧x≤7)∧(0≤y∧y≤7):=by unfold okc;rw[Bool.and_eq_true,bP,bP]
theorem km {x y:Int} {d:Bool}:okd x y d=true↔(0≤x∧x≤(if d then 7 else 6))∧(0≤y∧y≤(if d then 6 else 7)):=by
 unfold okd;rw[Bool.and_eq_true,bL]
 cases d<;>simp only[if_true,Bool.false_eq_true,if_false,bL]<;>omega
theorem lN (x y:Int) (w:World):
  Calls Tryz.prog 112 #[.agg #[.int .i64 x,.int .i64 y]] w fun e w'=>e= .returned (.bool (okc x y))∧Below w.heap.size w w':=by
 go_enter Tryz.func112,Tryz.ntmps112
 go_wp2_with (go_at_call 61;refine(mB _ _ _ _).mono ?_;rintro e w2 ⟨rfl,rfl⟩)
 all_goals (go_ret;refine⟨fb ?_,by((repeat(first |exact Below.refl _ _ |with_reducible assumption |refine Below.alloc0 ?_ _ |refine Below.step0 ?_ (by with_reducible assumption) |refine Below.step ?_ (by with_reducible assumption) ?_ |refine Below.alloc ?_ ?_ _ |refine Below.drew ?_ |refine bb ?_ _ |refine Below.setCell ?_ ?_ _))<;>(first |omega |exact hsz |exact Below.size (by with_reducible assumption) |(simp;done) |(simp;omega) |(simp at*;omega)))⟩;unfold okc;simp_all)
theorem qP (x y:Int) (w:World):
  Calls Tryz.prog 78 #[.agg #[.int .i64 x,.int .i64 y]] w fun e w'=>e= .returned (.bool (okc x y))∧Below w.heap.size w w':=by
 go_enter Tryz.func78,Tryz.ntmps78
 go_wp2_with (go_at_call 59;refine(mN _ _ _ _).mono ?_;rintro e w2 ⟨rfl,rfl⟩)
 all_goals (go_ret;refine⟨fb ?_,by((repeat(first |exact Below.refl _ _ |with_reducible assumption |refine Below.alloc0 ?_ _ |refine Below.step0 ?_ (by with_reducible assumption) |refine Below.step ?_ (by with_reducible assumption) ?_ |refine Below.alloc ?_ ?_ _ |refine Below.drew ?_ |refine bb ?_ _ |refine Below.setCell ?_ ?_ _))<;>(first |omega |exact hsz |exact Below.size (by with_reducible assumption) |(simp;done) |(simp;omega) |(simp at*;omega)))⟩;unfold okc;simp_all)
def sx (x:Int) (d:Bool):Int:=if d then x else wrap64 (x+1)
def sy (y:Int) (d:Bool):Int:=if d then wrap64 (y+1)else y
theorem xQ (x y:Int) (d:Bool):okd x y d=(okc x y&&okc (sx x d) (sy y d)):=by
 unfold okd sx sy
 by_cases h:okc x y=true
 ·have h':=bL.1 h
  have e1:wrap64 (x+1)=x+1:=IntWalk.wrap64_in _ (by omega)
  have e2:wrap64 (y+1)=y+1:=IntWalk.wrap64_in _ (by omega)
  rw[e1,e2]
  cases d<;>simp
 ·simp only[Bool.not_eq_true]at h
  rw[h];simp
set_option maxHeartbeats 400000 in
theorem JH (x y:Int) (d:Bool) (w:World):
  Calls Tryz.prog 111 #[.agg #[.int .i64 x,.int .i64 y,.bool d]] w fun e w'=>e= .returned (.tuple #[.agg #[.int .i64 x,.int .i64 y],.agg #[.int .i64 (sx x d),.int .i64 (sy y d)]])∧Below w.heap.size w w':=by
 cases d
 all_goals
  go_enter Tryz.func111,Tryz.ntmps111
  go_wp2
  go_region
  all_goals go_wp2
  all_goals exact bodyPost_ret (by simp [results,Tryz.results111,go_sem];rfl) rfl ⟨by simp [sx,sy],by((repeat(first |exact Below.refl _ _ |with_reducible assumption |refine Below.alloc0 ?_ _ |refine Below.step0 ?_ (by with_reducible assumption) |refine Below.step ?_ (by with_reducible assumption) ?_ |refine Below.alloc ?_ ?_ _ |refine Below.drew ?_ |refine bb ?_ _ |refine Below.setCell ?_ ?_ _))<;>(first |omega |exact hsz |exact Below.size (by with_reducible assumption) |(simp;done) |(simp;omega) |(simp at*;omega)))⟩
set_option maxHeartbeats 400000 in
theorem jT (x y:Int) (d:Bool) (w:World):
  Calls Tryz.prog 92 #[.agg #[.int .i64 x,.int .i64 y,.bool d]] w fun e w'=>e= .returned (.bool (okd x y d))∧Below w.heap.size w w':=by
 have H:=Lib.hid (xQ x y d)
 go_enter Tryz.func92,Tryz.ntmps92
 go_wp2_with (first
  | (go_at_call 111;refine(JH _ _ _ _).mono ?_;rintro e w1 ⟨rfl,hb1⟩;obtain⟨hc1,hf1,hs1⟩:=qN hb1)
  | (go_at_call 112;refine(lN _ _ _).mono ?_;rintro e w2 ⟨rfl,hb2⟩;obtain⟨hc2,hf2,hs2⟩:=qN hb2))
 all_goals (go_ret;refine⟨fb ?_,?_⟩)
 all_goals first |(rw[H.out];simp_all;done) |skip
 all_goals ((repeat(first |exact Below.refl _ _ |with_reducible assumption |refine Below.alloc0 ?_ _ |refine Below.step0 ?_ (by with_reducible assumption) |refine Below.step ?_ (by with_reducible assumption) ?_ |refine Below.alloc ?_ ?_ _ |refine Below.drew ?_ |refine bb ?_ _ |refine Below.setCell ?_ ?_ _))<;>(first |omega |exact hsz |exact Below.size (by with_reducible assumption) |(simp;done) |(simp;omega) |(simp at*;omega)))
theorem xJ (x y:Int) (d:Bool) (w:World):
  Calls Tryz.prog 85 #[.agg #[.int .i64 x,.int .i64 y,.bool d]] w fun e w'=>e= .returned (.agg #[.int .i64 (sx x d),.int .i64 (sy y d)])∧Below w.heap.size w w':=by
 cases d
 all_goals
  go_enter Tryz.func85,Tryz.ntmps85
  go_wp2
  exact bodyPost_ret (v:= .agg #[.int .i64 (sx x _),.int .i64 (sy y _)]) (by simp [results,Tryz.results85,go_sem,sx,sy]) rfl ⟨rfl,by((repeat(first |exact Below.refl _ _ |with_reducible assumption |refine Below.alloc0 ?_ _ |refine Below.step0 ?_ (by with_reducible assumption) |refine Below.step ?_ (by with_reducible assumption) ?_ |refine Below.alloc ?_ ?_ _ |refine Below.drew ?_ |refine bb ?_ _ |refine Below.setCell ?_ ?_ _))<;>(first |omega |exact hsz |exact Below.size (by with_reducible assumption) |(simp;done) |(simp;omega) |(simp at*;omega)))⟩
set_option maxHeartbeats 400000 in
theorem hZ (x y:Int) (d:Bool) (w:World):
  Calls Tryz.prog 86 #[.agg #[.int .i64 x,.int .i64 y,.bool d]] w fun e w'=>e= .returned (.bool (okd x y d))∧Below w.heap.size w w':=by
 have H:=Lib.hid (xQ x y d)
 go_enter Tryz.func86,Tryz.ntmps86
 go_wp2_with (first
  | (go_at_call 85;refine(xJ _ _ _ _).mono ?_;rintro e w1 ⟨rfl,hb1⟩;obtain⟨hc1,hf1,hs1⟩:=qN hb1)
  | (go_at_call 78;refine(qP _ _ _).mono ?_;rintro e w2 ⟨rfl,hb2⟩;obtain⟨hc2,hf2,hs2⟩:=qN hb2))
 all_goals (go_ret;refine⟨fb ?_,?_⟩)
 all_goals first |(rw[H.out];simp_all;done) |skip
 all_goals ((repeat(first |exact Below.refl _ _ |with_reducible assumption |refine Below.alloc0 ?_ _ |refine Below.step0 ?_ (by with_reducible assumption) |refine Below.step ?_ (by with_reducible assumption) ?_ |refine Below.alloc ?_ ?_ _ |refine Below.drew ?_ |refine bb ?_ _ |refine Below.setCell ?_ ?_ _))<;>(first |omega |exact hsz |exact Below.size (by with_reducible assumption) |(simp;done) |(simp;omega) |(simp at*;omega)))
end Go.Proofs.YtgmkkfdnmdohlaaGreatDoor
namespace Go.Proofs.YtgmkkfdnmdohlaaGreatDoor
namespace Cl
open Go.ChangeShapes Go.WideShapes Go.ChangeAt Go.RowKit
inductive A where
 | val (v:Value)
 | sl (h off len:Nat)
 | ptr (h off:Nat)
 | slv (n s:Nat) (xs:List Value)
 | ptrv (s:Nat) (xs:List Value) (off:Nat)
 | slvv (s:Nat) (rows:List (Nat × List Value))
 | ptrvv (s:Nat) (rows:List (Nat × List Value)) (k:Nat)
 | fn (f:Nat) (caps:List Nat)
 | slg (T g n s:Nat) (xs:List Value)
 | row (T n s:Nat) (xs:List Value)
inductive B where
 | a (x:A)
 | agg (xs:List A)
inductive V where
 | b (x:B)
 | tup (xs:List B)
structure Ob where
 T:TypeId
 s:Nat
 ex:Bool
 cells:List A
inductive Cell where
 | s (v:V)
 | o (x:Ob)
 | free
inductive Key where
 | s (k:Nat)
 | o (h:Nat)
 deriving DecidableEq
def Key.eq:Key→Key→Bool
 | .s a,.s b=>Nat.beq a b
 | .o a,.o b=>Nat.beq a b
 | _,_=>false
theorem Key.eq_iff {a b:Key}:Key.eq a b=true↔a=b:=by
 cases a<;>cases b<;>simp [Key.eq]
theorem lZ {d k:Nat} (h:¬d=k):Key.eq (.s d) (.s k)=false:=by
 rcases Bool.eq_false_or_eq_true (Key.eq (.s d) (.s k))with e |e
 ·exact absurd (Key.eq_iff.1 e) (by simpa using h)
 ·exact e
theorem fj {d k:Nat} (h:¬d=k):Key.eq (.o d) (.o k)=false:=by
 rcases Bool.eq_false_or_eq_true (Key.eq (.o d) (.o k))with e |e
 ·exact absurd (Key.eq_iff.1 e) (by simpa using h)
 ·exact e
abbrev St:=List (Key × Option Cell)
def get:St→Key→Option Cell
 | [],_=>none
 | (k',c)::r,k=>bif Key.eq k' k then c else get r k
def has:St→Key→Bool
 | [],_=>false
 | (k',_)::r,k=>Key.eq k' k||has r k
theorem fh (W σ:St) (k:Key):get (W++σ) k=if has W k then get W k else get σ k:=by
  induction W with
  | nil=>simp [has]
  | cons a W ih=>
    obtain⟨k',c⟩:=a
    simp only[List.cons_append,get,has,ih]
    rcases Bool.eq_false_or_eq_true (Key.eq k' k)with h |h<;>simp only[h,cond_true,cond_false,Bool.true_or,Bool.false_or,if_true]
theorem bf {σ:St} {k k':Key} {c:Option Cell} (h:Key.eq k' k=false):get ((k',c)::σ) k=get σ k:=by simp [get,h]
theorem bz {σ:St} {k:Key} {c:Option Cell}:get ((k,c)::σ) k=c:=by
 have h:Key.eq k k=true:=Key.eq_iff.2 rfl
 simp [get,h]
structure Place where
 block:Nat
 base:Nat
 cap:Nat
 size:Nat
 live:Bool
 x:Bool
def RelA (ρ:Nat→Option Place) (I:Nat→Prop) (w:World):A→Value→Prop
 | .val v,u=>u=v
 | .sl h off len,u=>∃ p A,ρ h=some p∧u= .slice A len (p.cap-off)∧off+len≤p.cap∧((p.x=true∧off=0)∨p.cap-off≠0→A=if p.live then some ⟨p.block,p.base+off*p.size,none⟩else none)
 | .ptr h off,u=>∃ p,ρ h=some p∧u= .pointer (some ⟨p.block,p.base+off,none⟩)
 | .slv n s xs,u=>xs.length=n*s∧∃ A c,u= .slice A n c∧n≤c∧(0<n→∃ g o,A=some ⟨g,o,none⟩∧I g∧∀ j x,xs[j]? =some x→w.cell? ⟨g,o+j,none⟩=some x)
 | .ptrv _ xs off,u=>∃ g o,u= .pointer (some ⟨g,o+off,none⟩)∧I g∧∀ j x,xs[j]? =some x→w.cell? ⟨g,o+j,none⟩=some x
 | .slvv s rows,u=>∃ A c,u= .slice A rows.length c∧rows.length≤c∧(0<rows.length→∃ g o,A=some ⟨g,o,none⟩∧I g∧∀ j r,rows[j]? =some r→r.2.length=r.1*s∧∃ A' c',w.cell? ⟨g,o+j,none⟩=some (.slice A' r.1 c')∧r.1≤c'∧(0<r.1→∃ g o,A'=some ⟨g,o,none⟩∧I g∧∀ j x,r.2[j]? =some x→w.cell? ⟨g,o+j,none⟩=some x))
 | .ptrvv s rows k,u=>∃ g o,u= .pointer (some ⟨g,o+k,none⟩)∧I g∧∀ j r,rows[j]? =some r→r.2.length=r.1*s∧∃ A' c',w.cell? ⟨g,o+j,none⟩=some (.slice A' r.1 c')∧r.1≤c'∧(0<r.1→∃ g o,A'=some ⟨g,o,none⟩∧I g∧∀ j x,r.2[j]? =some x→w.cell? ⟨g,o+j,none⟩=some x)
 | .fn f caps,u=>∃ vs:List Value,u= .func (.func f) #[] vs.toArray∧vs.length=caps.length∧∀ (j:Nat) (h:Nat),caps[j]? =some h→∃ p:Place,ρ h=some p∧vs[j]? =some (Value.pointer (some ⟨p.block,p.base,none⟩))
 | .slg T g n s xs,u=>xs.length=n*s∧((u= .slice none 0 0∧n=0)∨∃ cap cur,u= .slice (some ⟨g,0,none⟩) n cap∧I g∧w.heap[g]? =some (.cells cur T (0,0))∧n≤cap∧cap≤maxLen∧cur.size=cap*s∧cur.toList.take (n*s)=xs)
 | .row _ n s xs,u=>xs.length=n*s∧∃ (ob:Option Nat) (cap:Nat),u= .slice (ob.map fun b=>⟨b,0,none⟩) n cap∧n≤cap∧(ob=none→cap=0)
def RelB (ρ:Nat→Option Place) (I:Nat→Prop) (w:World):B→Value→Prop
 | .a x,u=>RelA ρ I w x u
 | .agg xs,u=>∃ cs:List Value,u= .agg cs.toArray∧cs.length=xs.length∧∀ (j:Nat) x c,xs[j]? =some x→cs[j]? =some c→RelA ρ I w x c
def RelV (ρ:Nat→Option Place) (I:Nat→Prop) (w:World):V→Value→Prop
 | .b x,u=>RelB ρ I w x u
 | .tup xs,u=>∃ cs:List Value,u= .tuple cs.toArray∧cs.length=xs.length∧∀ (j:Nat) x c,xs[j]? =some x→cs[j]? =some c→RelB ρ I w x c
def Own (ρ:Nat→Option Place) (I:Nat→Prop) (w:World) (h:Nat) (o:Ob):Prop:=
 ∃ p,ρ h=some p∧p.size=o.s∧o.cells.length≤p.cap*p.size∧(o.ex=true→p.x=true∧p.base=0∧p.cap≤maxLen)∧(p.live=false→p.cap=0)∧
  (p.live=true→∃ cur,w.heap[p.block]? =some (.cells cur o.T (0,0))∧p.base+p.cap*p.size≤cur.size∧(o.ex=true→cur.size=p.cap*p.size)∧
   ∀ (j:Nat) x,o.cells[j]? =some x→∃ u,cur[p.base+j]? =some u∧RelA ρ I w x u)
def A.hd:A→Nat→Prop
 | .sl h _ n,h'=>h=h'∧0<n
 | .ptr h _,h'=>h=h'
 | _,_=>False
structure Cx where
 P:Program
 N:Nat
 W:World
 own:Nat→Prop
 fix:Nat→Bool
 pp:Nat→Option Place
 keep:List Nat
 kp:Nat→Option Place
 im0:Nat→Prop
def Cx.okb (Γ:Cx) (d:Nat):Bool:=Nat.blt d Γ.N&& !Γ.fix d
def Cx.ok (Γ:Cx) (d:Nat):Prop:=d<Γ.N∧Γ.fix d=false
def Frame0 (Γ:Cx) (w:World):Prop:=
 w.os=Γ.W.os∧w.tape=Γ.W.tape∧w.output=Γ.W.output∧Γ.W.heap.size≤w.heap.size∧∀ b,b<Γ.W.heap.size→¬Γ.own b→w.heap[b]? =Γ.W.heap[b]?
def A.isRow:A→Bool
 | .row .. =>true
 | _=>false
def RowIn (σ:St) (w:World) (ρ:Nat→Option Place) (h j T n s:Nat) (xs:List Value) (b cap:Nat):Prop:=
 ∃ o p,get σ (.o h)=some (.o o)∧ρ h=some p∧p.live=true∧o.cells[j]? =some (.row T n s xs)∧w.cell? ⟨p.block,p.base+j,none⟩=some (.slice (some ⟨b,0,none⟩) n cap)
structure RowOk (w:World) (I:Nat→Prop) (T n s:Nat) (xs:List Value) (b cap:Nat):Prop where
 hp:∃ cur,w.heap[b]? =some (.cells cur T (0,0))∧cur.size=cap*s∧∀ (i:Nat) x,xs[i]? =some x→cur[i]? =some x
 le:n≤cap
 mx:cap≤maxLen
 xl:xs.length=n*s
 ni:¬I b
 lt:b<w.heap.size
structure Rws (σ:St) (w:World) (ρ:Nat→Option Place) (I:Nat→Prop):Prop where
 ok:∀ {h j T n s xs b cap},RowIn σ w ρ h j T n s xs b cap→RowOk w I T n s xs b cap
 sep:∀ {h j T n s xs b cap h' o' p'},RowIn σ w ρ h j T n s xs b cap→get σ (.o h')=some (.o o')→ρ h'=some p'→p'.live=true→p'.block≠b
 inj:∀ {h j T n s xs b cap h' j' T' n' s' xs' cap'},RowIn σ w ρ h j T n s xs b cap→RowIn σ w ρ h' j' T' n' s' xs' b cap'→h'=h∧j'=j
theorem Rws.nil {σ:St} {w:World} {ρ:Nat→Option Place} {I:Nat→Prop} (h:∀ h o,¬get σ (.o h)=some (.o o)):Rws σ w ρ I:=
 ⟨fun⟨o,_,q,_⟩=>absurd q (h _ o),fun⟨o,_,q,_⟩=>absurd q (h _ o),fun⟨o,_,q,_⟩=>absurd q (h _ o)⟩
theorem Rws.map {σ τ:St} {w w':World} {ρ ρ':Nat→Option Place} {I I':Nat→Prop} (H:Rws σ w ρ I) (f:Nat→Nat→Nat × Nat)
  (ho:∀ {h j T n s xs b cap},RowIn τ w' ρ' h j T n s xs b cap→RowIn σ w ρ (f h j).1 (f h j).2 T n s xs b cap)
  (hi:∀ {h j T n s xs b cap h' j' T' n' s' xs' cap'},RowIn τ w' ρ' h j T n s xs b cap→RowIn τ w' ρ' h' j' T' n' s' xs' b cap'→f h' j'=f h j→h'=h∧j'=j)
  (hb:∀ {h j T n s xs b cap},RowIn σ w ρ h j T n s xs b cap→w'.heap[b]? =w.heap[b]? ∧¬I' b∧b<w'.heap.size)
  (hl:∀ {h j T n s xs b cap h' o' p'},RowIn σ w ρ h j T n s xs b cap→get τ (.o h')=some (.o o')→ρ' h'=some p'→p'.live=true→p'.block≠b):Rws τ w' ρ' I':=by
 refine⟨fun h=> ?_,fun h h1 h2 h3=>hl (ho h) h1 h2 h3,fun h h'=> ?_⟩
 ·obtain⟨⟨cur,c1,c2,c3⟩,h2,h3,h4,h5,h6⟩:=H.ok (ho h)
  obtain⟨b1,b2,b3⟩:=hb (ho h)
  exact⟨⟨cur,b1.trans c1,c2,c3⟩,h2,h3,h4,b2,b3⟩
 ·obtain⟨e1,e2⟩:=H.inj (ho h) (ho h')
  exact hi h h' (Prod.ext e1 e2)
theorem Rws.same {σ τ:St} {w w':World} {ρ ρ':Nat→Option Place} {I I':Nat→Prop} (H:Rws σ w ρ I)
  (hg:∀ h o,get τ (.o h)=some (.o o)→get σ (.o h)=some (.o o)) (hρ:∀ h o p,get τ (.o h)=some (.o o)→ρ' h=some p→ρ h=some p)
  (hc:∀ h o p,get τ (.o h)=some (.o o)→ρ h=some p→p.live=true→w'.heap[p.block]? =w.heap[p.block]?)
  (hb:∀ {h j T n s xs b cap},RowIn σ w ρ h j T n s xs b cap→w'.heap[b]? =w.heap[b]? ∧¬I' b∧b<w'.heap.size):Rws τ w' ρ' I':=by
 have ho:∀ {h j T n s xs b cap},RowIn τ w' ρ' h j T n s xs b cap→RowIn σ w ρ h j T n s xs b cap:=by
  rintro h j T n s xs b cap ⟨o,p,h1,h2,h3,h4,h5⟩
  exact⟨o,p,hg h o h1,hρ h o p h1 h2,h3,h4,by rw[←World.cell?_of_block (w:=w) (w':=w') (hc h o p h1 (hρ h o p h1 h2) h3)];exact h5⟩
 exact H.map (fun h j=>(h,j)) ho (fun _ _ e=>by injection e with e1 e2;exact⟨e1,e2⟩) hb fun h h1 h2 h3=>H.sep h (hg _ _ h1) (hρ _ _ _ h1 h2) h3
structure Mem (Γ:Cx) (σ:St) (w:World) (ρ:Nat→Option Place) (I:Nat→Prop):Prop where
 ow:∀ h o,get σ (.o h)=some (.o o)→Own ρ I w h o
 fr:∀ h,get σ (.o h)=some .free→ρ h=none
 pl:∀ h p o,get σ (.o h)=some (.o o)→ρ h=some p→p.live=true→¬I p.block∧(Γ.own p.block∨Γ.W.heap.size≤p.block)∧p.block<w.heap.size
 inj:∀ h h' p p' o o',get σ (.o h)=some (.o o)→get σ (.o h')=some (.o o')→ρ h=some p→ρ h'=some p'→p.live=true→p'.live=true→p.block=p'.block→h=h'
 im:∀ b,I b→b<w.heap.size
 rs:Rws σ w ρ I
 rp:∀ {h j T n s xs b cap},RowIn σ w ρ h j T n s xs b cap→Γ.own b∨Γ.W.heap.size≤b
 fm:Frame0 Γ w
theorem Mem.rows {Γ:Cx} {σ τ:St} {w w':World} {ρ ρ':Nat→Option Place} {I I':Nat→Prop} (H:Mem Γ σ w ρ I)
  (hg:∀ h o,get τ (.o h)=some (.o o)→get σ (.o h)=some (.o o)) (hρ:∀ h o p,get τ (.o h)=some (.o o)→ρ' h=some p→ρ h=some p)
  (hc:∀ h o p,get τ (.o h)=some (.o o)→ρ h=some p→p.live=true→w'.heap[p.block]? =w.heap[p.block]?)
  (hb:∀ {h j T n s xs b cap},RowIn σ w ρ h j T n s xs b cap→w'.heap[b]? =w.heap[b]? ∧¬I' b∧b<w'.heap.size):Rws τ w' ρ' I'∧∀ {h j T n s xs b cap},RowIn τ w' ρ' h j T n s xs b cap→Γ.own b∨Γ.W.heap.size≤b:=
 ⟨H.rs.same hg hρ hc hb,by
  rintro h j T n s xs b cap ⟨o,p,h1,h2,h3,h4,h5⟩
  exact H.rp ⟨o,p,hg h o h1,hρ h o p h1 h2,h3,h4,by rw[←World.cell?_of_block (w:=w) (w':=w') (hc h o p h1 (hρ h o p h1 h2) h3)];exact h5⟩⟩
theorem Mem.rows0 {Γ:Cx} {σ τ:St} {w:World} {ρ:Nat→Option Place} {I:Nat→Prop} (H:Mem Γ σ w ρ I) (hg:∀ h o,get τ (.o h)=some (.o o)→get σ (.o h)=some (.o o)):
  Rws τ w ρ I∧∀ {h j T n s xs b cap},RowIn τ w ρ h j T n s xs b cap→Γ.own b∨Γ.W.heap.size≤b:=
 H.rows hg (fun _ _ _ _ h=>h) (fun _ _ _ _ _ _=>rfl) fun h=>⟨rfl,(H.rs.ok h).ni,(H.rs.ok h).lt⟩
def Slots (σ:St) (a:Act) (w:World) (ρ:Nat→Option Place) (I:Nat→Prop):Prop:=
 ∀ k v,get σ (.s k)=some (.s v)→RelV ρ I w v (a.tmps.getD k undef)
def Kept0 (Γ:Cx) (ρ:Nat→Option Place) (I:Nat→Prop):Prop:=(∀ h,h∈Γ.keep→∃ p,Γ.kp h=some p∧ρ h=some p)∧∀ b,I b→Γ.im0 b∨Γ.own b∨Γ.W.heap.size≤b
theorem Kept0.mono {Γ:Cx} {ρ ρ':Nat→Option Place} {I:Nat→Prop} (h:Kept0 Γ ρ I) (hρ:∀ h p,ρ h=some p→ρ' h=some p):Kept0 Γ ρ' I:=
 ⟨fun y hy=>by obtain⟨q,e1,e2⟩:=h.1 y hy;exact⟨q,e1,hρ _ _ e2⟩,h.2⟩
structure Sat (Γ:Cx) (σ:St) (a:Act) (w:World) (ρ:Nat→Option Place) (I:Nat→Prop):Prop where
 n:a.tmps.size=Γ.N
 d:a.defers=[]
 fx:∀ k x h,Γ.fix k=true→get σ (.s k)=some (.s (.b (.a x)))→x.hd h→∃ p,Γ.pp k=some p∧ρ h=some p
 kp:Kept0 Γ ρ I
 sl:Slots σ a w ρ I
 m:Mem Γ σ w ρ I
def Sats (Γ:Cx) (σ:St) (a:Act) (w:World):Prop:=∃ ρ I,Sat Γ σ a w ρ I
theorem RelA.mono {ρ ρ':Nat→Option Place} {I I':Nat→Prop} {w w':World} {x:A} {u:Value} (h:RelA ρ I w x u)
    (hρ:∀ h p,ρ h=some p→ρ' h=some p) (hI:∀ b,I b→I' b∧w'.heap[b]? =w.heap[b]?):RelA ρ' I' w' x u:=by
  have hc:∀ g o,I g→w'.cell? ⟨g,o,none⟩=w.cell? ⟨g,o,none⟩:=fun g o hg=>World.cell?_of_block (w:=w) (hI g hg).2
  cases x with
  | val v=>exact(show u=v from h)
  | sl h0 off len=>obtain⟨p,A,h1,h2⟩:=h;exact⟨p,A,hρ _ _ h1,h2⟩
  | ptr h0 off=>obtain⟨p,h1,h2⟩:=h;exact⟨p,hρ _ _ h1,h2⟩
  | slv n s xs=>
    obtain⟨hl,A,c,h1,h2,h3⟩:=h
    refine⟨hl,A,c,h1,h2,fun hn=> ?_⟩
    obtain⟨g,o,e,hg,hx⟩:=h3 hn
    exact⟨g,o,e,(hI g hg).1,fun j x hj=>(hc g _ hg).trans (hx j x hj)⟩
  | ptrv s xs off=>
    obtain⟨g,o,e,hg,hx⟩:=h
    exact⟨g,o,e,(hI g hg).1,fun j x hj=>(hc g _ hg).trans (hx j x hj)⟩
  | slvv s rows=>
    obtain⟨A,c,h1,h2,h3⟩:=h
    refine⟨A,c,h1,h2,fun hn=> ?_⟩
    obtain⟨g,o,e,hg,hx⟩:=h3 hn
    refine⟨g,o,e,(hI g hg).1,fun j r hj=> ?_⟩
    obtain⟨q0,A',c',q1,q2,q3⟩:=hx j r hj
    refine⟨q0,A',c',(hc g _ hg).trans q1,q2,fun hr=> ?_⟩
    obtain⟨g',o',e',hg',hx'⟩:=q3 hr
    exact⟨g',o',e',(hI g' hg').1,fun j x hj=>(hc g' _ hg').trans (hx' j x hj)⟩
  | ptrvv s rows k=>
    obtain⟨g,o,e,hg,hx⟩:=h
    refine⟨g,o,e,(hI g hg).1,fun j r hj=> ?_⟩
    obtain⟨q0,A',c',q1,q2,q3⟩:=hx j r hj
    refine⟨q0,A',c',(hc g _ hg).trans q1,q2,fun hr=> ?_⟩
    obtain⟨g',o',e',hg',hx'⟩:=q3 hr
    exact⟨g',o',e',(hI g' hg').1,fun j x hj=>(hc g' _ hg').trans (hx' j x hj)⟩
  | fn f caps=>
    obtain⟨vs,e,hl,hx⟩:=h
    refine⟨vs,e,hl,fun j h hj=> ?_⟩
    obtain⟨p,hp,hq⟩:=hx j h hj
    exact⟨p,hρ _ _ hp,hq⟩
  | slg T g n s xs=>
    obtain⟨hl,h1 |⟨cap,cur,h1,h2,h3,h4⟩⟩:=h
    · exact⟨hl,.inl h1⟩
    · exact⟨hl,.inr ⟨cap,cur,h1,(hI g h2).1,((hI g h2).2).trans h3,h4⟩⟩
  | row T n s xs=>exact h
theorem RelB.mono {ρ ρ':Nat→Option Place} {I I':Nat→Prop} {w w':World} {x:B} {u:Value} (h:RelB ρ I w x u)
  (hρ:∀ h p,ρ h=some p→ρ' h=some p) (hI:∀ b,I b→I' b∧w'.heap[b]? =w.heap[b]?):RelB ρ' I' w' x u:=by
 cases x with
 | a x=>exact RelA.mono h hρ hI
 | agg xs=>obtain⟨cs,e,hl,hx⟩:=h;exact⟨cs,e,hl,fun j x c h1 h2=>(hx j x c h1 h2).mono hρ hI⟩
theorem RelV.mono {ρ ρ':Nat→Option Place} {I I':Nat→Prop} {w w':World} {x:V} {u:Value} (h:RelV ρ I w x u)
  (hρ:∀ h p,ρ h=some p→ρ' h=some p) (hI:∀ b,I b→I' b∧w'.heap[b]? =w.heap[b]?):RelV ρ' I' w' x u:=by
 cases x with
 | b x=>exact RelB.mono h hρ hI
 | tup xs=>obtain⟨cs,e,hl,hx⟩:=h;exact⟨cs,e,hl,fun j x c h1 h2=>(hx j x c h1 h2).mono hρ hI⟩
theorem Own.mono {ρ ρ':Nat→Option Place} {I I':Nat→Prop} {w w':World} {h:Nat} {o:Ob} (ho:Own ρ I w h o)
  (hρ:∀ h p,ρ h=some p→ρ' h=some p) (hI:∀ b,I b→I' b∧w'.heap[b]? =w.heap[b]?) (hb:∀ p,ρ h=some p→p.live=true→w'.heap[p.block]? =w.heap[p.block]?):Own ρ' I' w' h o:=by
 obtain⟨p,hp,hs,hl,he,hz,hx⟩:=ho
 refine⟨p,hρ _ _ hp,hs,hl,he,hz,fun hn=> ?_⟩
 obtain⟨cur,h1,h2,h3,h4⟩:=hx hn
 refine⟨cur,(hb p hp hn).trans h1,h2,h3,fun j x hj=> ?_⟩
 obtain⟨u,hu,hr⟩:=h4 j x hj
 exact⟨u,hu,hr.mono hρ hI⟩
structure RowFit (Γ:Cx) (σ:St) (w:World) (ρ:Nat→Option Place) (I:Nat→Prop) (cells:List A) (val:Nat→Option Value):Prop where
 fit:∀ {j T n s xs b cap},cells[j]? =some (.row T n s xs)→val j=some (.slice (some ⟨b,0,none⟩) n cap)→
  RowOk w I T n s xs b cap∧(Γ.own b∨Γ.W.heap.size≤b)∧(∀ {h' o' p'},get σ (.o h')=some (.o o')→ρ h'=some p'→p'.live=true→p'.block≠b)∧(∀ {h' j' T' n' s' xs' cap'},¬RowIn σ w ρ h' j' T' n' s' xs' b cap')∧
  ∀ {j' T' n' s' xs' cap'},cells[j']? =some (.row T' n' s' xs')→val j'=some (.slice (some ⟨b,0,none⟩) n' cap')→j'=j
theorem RowFit.no {Γ:Cx} {σ:St} {w:World} {ρ:Nat→Option Place} {I:Nat→Prop} {cells:List A} {val:Nat→Option Value} (h:∀ y∈cells,y.isRow=false):RowFit Γ σ w ρ I cells val:=by
 constructor
 intro j T n s xs b cap hj
 have:=h _ (List.mem_of_getElem? hj)
 cases this
theorem Mem.cons {Γ:Cx} {σ:St} {w w':World} {ρ ρ':Nat→Option Place} {I:Nat→Prop} (H:Mem Γ σ w ρ I) {x:Nat} {o:Ob} {p:Place} (hx':ρ' x=some p) (hold:∀ y,y≠x→ρ' y=ρ y)
  (hw:∀ b,b<w.heap.size→w'.heap[b]? =w.heap[b]?) (hsz:w.heap.size≤w'.heap.size) (hf:RowFit Γ σ w ρ I o.cells (fun j=>w'.cell? ⟨p.block,p.base+j,none⟩))
  (hpb:p.live=true→∀ {h j T n s xs b cap},RowIn σ w ρ h j T n s xs b cap→p.block≠b)
  (hself:p.live=true→∀ {j T n s xs b cap},o.cells[j]? =some (.row T n s xs)→w'.cell? ⟨p.block,p.base+j,none⟩=some (.slice (some ⟨b,0,none⟩) n cap)→p.block≠b):
  Rws ((.o x,some (.o o))::σ) w' ρ' I∧∀ {h j T n s xs b cap},RowIn ((.o x,some (.o o))::σ) w' ρ' h j T n s xs b cap→Γ.own b∨Γ.W.heap.size≤b:=by
 have hgo:∀ y,y≠x→get ((Key.o x,some (Cell.o o))::σ) (.o y)=get σ (.o y):=fun y hy=>bf (fj (fun e=>hy e.symm))
 have hin:∀ {h j T n s xs b cap},RowIn ((.o x,some (.o o))::σ) w' ρ' h j T n s xs b cap→(h=x∧p.live=true∧o.cells[j]? =some (.row T n s xs)∧w'.cell? ⟨p.block,p.base+j,none⟩=some (.slice (some ⟨b,0,none⟩) n cap))∨(h≠x∧RowIn σ w ρ h j T n s xs b cap):=by
  rintro h j T n s xs b cap ⟨o1,p1,h1,h2,h3,h4,h5⟩
  by_cases e:h=x
  ·subst e
   rw[bz]at h1
   injection h1 with h1;injection h1 with h1
   subst h1
   rw[hx']at h2;injection h2 with h2;subst h2
   exact .inl ⟨rfl,h3,h4,h5⟩
  ·rw[hgo h e]at h1
   rw[hold h e]at h2
   exact .inr ⟨e,o1,p1,h1,h2,h3,h4,by rw[←World.cell?_of_block (w:=w) (w':=w') (hw _ (H.pl h p1 o1 h1 h2 h3).2.2)];exact h5⟩
 have hup:∀ {T n s xs b cap},RowOk w I T n s xs b cap→RowOk w' I T n s xs b cap:=by
  rintro T n s xs b cap ⟨⟨cur,c1,c2,c3⟩,h2,h3,h4,h5,h6⟩
  exact⟨⟨cur,(hw b h6).trans c1,c2,c3⟩,h2,h3,h4,h5,Nat.lt_of_lt_of_le h6 hsz⟩
 refine⟨⟨fun h=> ?_,fun h h1 h2 h3=> ?_,fun h h'=> ?_⟩,fun h=> ?_⟩
 ·rcases hin h with⟨_,h2,h3,h4⟩ |⟨_,h2⟩
  ·exact hup (hf.fit h3 h4).1
  ·exact hup (H.rs.ok h2)
 ·rename_i h0 j T n s xs b cap y o1 p1
  by_cases e:y=x
  ·subst e
   rw[hx']at h2;injection h2 with h2;subst h2
   rcases hin h with⟨_,q2,q3,q4⟩ |⟨_,q2⟩
   ·exact hself q2 q3 q4
   ·exact hpb h3 q2
  ·rw[hgo y e]at h1;rw[hold y e]at h2
   rcases hin h with⟨_,q2,q3,q4⟩ |⟨_,q2⟩
   ·exact(hf.fit q3 q4).2.2.1 h1 h2 h3
   ·exact H.rs.sep q2 h1 h2 h3
 ·rcases hin h with⟨e,q2,q3,q4⟩ |⟨e,q2⟩<;>rcases hin h' with⟨e',r2,r3,r4⟩ |⟨e',r2⟩
  ·exact⟨e'.trans e.symm,(hf.fit q3 q4).2.2.2.2 r3 r4⟩
  ·exact absurd r2 (hf.fit q3 q4).2.2.2.1
  ·exact absurd q2 (hf.fit r3 r4).2.2.2.1
  ·exact H.rs.inj q2 r2
 ·rcases hin h with⟨_,h2,h3,h4⟩ |⟨_,h2⟩
  ·exact(hf.fit h3 h4).2.1
  ·exact H.rp h2
theorem Sat.world {Γ:Cx} {σ:St} {a:Act} {w w':World} {ρ:Nat→Option Place} {I:Nat→Prop} (h:Sat Γ σ a w ρ I) (hb:Below w.heap.size w w'):Sat Γ σ a w' ρ I:=by
 have hI:∀ b,I b→I b∧w'.heap[b]? =w.heap[b]? :=fun b hb'=>⟨hb',hb.block b (h.m.im b hb')⟩
 refine⟨h.n,h.d,h.fx,h.kp,fun k v hk=>(h.sl k v hk).mono (fun _ _ h=>h) hI,?_⟩
 have hrw:=h.m.rows (τ:=σ) (w':=w') (ρ':=ρ) (I':=I) (fun _ _ h=>h) (fun _ _ _ _ h=>h) (fun x o p ho hp hn=>hb.block _ (h.m.pl x p o ho hp hn).2.2) fun hr=>⟨hb.block _ (h.m.rs.ok hr).lt,(h.m.rs.ok hr).ni,Nat.lt_of_lt_of_le (h.m.rs.ok hr).lt hb.size⟩
 refine⟨fun x o ho=>(h.m.ow x o ho).mono (fun _ _ h=>h) hI fun p hp hn=>hb.block _ (h.m.pl x p o ho hp hn).2.2,h.m.fr,fun x p o ho hp hn=> ?_,h.m.inj,fun b hb'=>Nat.lt_of_lt_of_le (h.m.im b hb') hb.size,hrw.1,hrw.2,?_⟩
 ·obtain⟨h1,h2,h3⟩:=h.m.pl x p o ho hp hn
  exact⟨h1,h2,Nat.lt_of_lt_of_le h3 hb.size⟩
 ·obtain⟨h1,h2,h3,h4,h5⟩:=h.m.fm
  exact⟨hb.os.trans h1,hb.tape.trans h2,hb.output.trans h3,Nat.le_trans h4 hb.size,fun b hlt ho=>(hb.block b (Nat.lt_of_lt_of_le hlt h4)).trans (h5 b hlt ho)⟩
theorem xy (t:Array Value) (d k:Nat) (v:Value) (hd:d<t.size):(t.setIfInBounds d v).getD k undef=if d=k then v else t.getD k undef:=by
 simp only[Array.getD_eq_getD_getElem?,Array.getElem?_setIfInBounds]
 by_cases h:d=k
 ·subst h;simp [hd]
 ·simp [h]
theorem Sat.put {Γ:Cx} {σ:St} {a:Act} {w:World} {ρ:Nat→Option Place} {I:Nat→Prop} (h:Sat Γ σ a w ρ I) {d:Nat} (hd:Γ.ok d) {V:V} {v:Value} (hv:RelV ρ I w V v):
  Sat Γ ((.s d,some (.s V))::σ) (a.put (some d) v) w ρ I:=by
 refine⟨by simp [Act.put,h.n],h.d,fun k x h' hk hg hh=> ?_,h.kp,fun k x hk=> ?_,?_⟩
 ·rw[bf (lZ (fun e=>by subst e;rw[hd.2]at hk;cases hk))]at hg
  exact h.fx k x h' hk hg hh
 ·simp only[Act.put]
  rw[xy _ _ _ _ (by rw[h.n];exact hd.1)]
  by_cases e:d=k
  ·subst e
   rw[bz]at hk
   injection hk with hk;injection hk with hk
   subst hk
   simpa using hv
  ·rw[bf (lZ e)]at hk
   simpa [e] using h.sl k x hk
 ·have hg:∀ x,get ((Key.s d,some (Cell.s V))::σ) (.o x)=get σ (.o x):=fun x=>bf rfl
  exact⟨fun x o ho=>h.m.ow x o ((hg x)▸ho),fun x hx=>h.m.fr x ((hg x)▸hx),fun x p o ho=>h.m.pl x p o ((hg x)▸ho),fun x y p p' o o' h1 h2=>h.m.inj x y p p' o o' ((hg x)▸h1) ((hg y)▸h2),h.m.im,(h.m.rows0 fun x o ho=>(hg x)▸ho).1,(h.m.rows0 fun x o ho=>(hg x)▸ho).2,h.m.fm⟩
theorem Sat.putU {Γ:Cx} {σ:St} {a:Act} {w:World} {ρ:Nat→Option Place} {I:Nat→Prop} (h:Sat Γ σ a w ρ I) {d:Nat} (hd:Γ.ok d) {v:Value}:
  Sat Γ ((.s d,none)::σ) (a.put (some d) v) w ρ I:=by
 refine⟨by simp [Act.put,h.n],h.d,fun k x h' hk hg hh=> ?_,h.kp,fun k x hk=> ?_,?_⟩
 ·rw[bf (lZ (fun e=>by subst e;rw[hd.2]at hk;cases hk))]at hg
  exact h.fx k x h' hk hg hh
 ·simp only[Act.put]
  rw[xy _ _ _ _ (by rw[h.n];exact hd.1)]
  by_cases e:d=k
  ·subst e
   rw[bz]at hk
   cases hk
  ·rw[bf (lZ e)]at hk
   simpa [e] using h.sl k x hk
 ·have hg:∀ x,get ((Key.s d,none)::σ) (.o x)=get σ (.o x):=fun x=>bf rfl
  exact⟨fun x o ho=>h.m.ow x o ((hg x)▸ho),fun x hx=>h.m.fr x ((hg x)▸hx),fun x p o ho=>h.m.pl x p o ((hg x)▸ho),fun x y p p' o o' h1 h2=>h.m.inj x y p p' o o' ((hg x)▸h1) ((hg y)▸h2),h.m.im,(h.m.rows0 fun x o ho=>(hg x)▸ho).1,(h.m.rows0 fun x o ho=>(hg x)▸ho).2,h.m.fm⟩
theorem Sat.new {Γ:Cx} {σ:St} {a:Act} {w:World} {ρ:Nat→Option Place} {I:Nat→Prop} (h:Sat Γ σ a w ρ I) {x:Nat} (hx:get σ (.o x)=some .free)
    {cur:Array Value} {T:TypeId} {cap s:Nat} {ex:Bool} {cells:List A} (hcur:cur.size=cap*s) (hl:cells.length≤cap*s) (hm:ex=true→cap≤maxLen)
    (hr:∀ (j:Nat) y,cells[j]? =some y→∃ u,cur[j]? =some u∧RelA ρ I w y u) (hf:RowFit Γ σ w ρ I cells (fun j=>cur[j]?)):
    ∃ ρ',(∀ h p,ρ h=some p→ρ' h=some p)∧ρ' x=some ⟨w.heap.size,0,cap,s,true,true⟩∧Sat Γ ((.o x,some (.o ⟨T,s,ex,cells⟩))::σ) a (w.alloc (.cells cur T)) ρ' I:=by
  have hfree:=h.m.fr x hx
  let ρ':Nat→Option Place:=fun y=>if y=x then some ⟨w.heap.size,0,cap,s,true,true⟩else ρ y
  have hρ:∀ h p,ρ h=some p→ρ' h=some p:=fun y p hy=>by
    have:y≠x:=fun e=>by rw[e,hfree]at hy;cases hy
    simp [ρ',this,hy]
  have hx':ρ' x=some ⟨w.heap.size,0,cap,s,true,true⟩:=by simp [ρ']
  have hI:∀ b,I b→I b∧(w.alloc (.cells cur T)).heap[b]? =w.heap[b]? :=fun b hb=>⟨hb,Below.heap_alloc w _ b (h.m.im b hb)⟩
  have hgs:∀ k,get ((Key.o x,some (Cell.o ⟨T,s,ex,cells⟩))::σ) (.s k)=get σ (.s k):=fun k=>bf rfl
  have hgo:∀ y,y≠x→get ((Key.o x,some (Cell.o ⟨T,s,ex,cells⟩))::σ) (.o y)=get σ (.o y):=fun y hy=>bf (fj (fun e=>hy e.symm))
  have hold:∀ y,y≠x→ρ' y=ρ y:=fun y hy=>by simp [ρ',hy]
  refine⟨ρ',hρ,hx',h.n,h.d,(fun k x h' hk hg hh=>by obtain⟨q,e1,e2⟩:=h.fx k x h' hk ((hgs k)▸hg) hh;exact⟨q,e1,hρ _ _ e2⟩),h.kp.mono hρ,fun k v hk=>(h.sl k v ((hgs k)▸hk)).mono hρ hI,?_⟩
  have hlt:∀ y p o,get σ (.o y)=some (.o o)→ρ y=some p→p.live=true→p.block<w.heap.size:=fun y p o ho hp hn=>(h.m.pl y p o ho hp hn).2.2
  have hcell:∀ j,(w.alloc (.cells cur T)).cell? ⟨w.heap.size,0+j,none⟩=cur[j]? :=fun j=>by
    have e:=eT w (.cells cur T)
    simp only[World.cell?,e];simp
  have hrw:=h.m.cons (w':=w.alloc (.cells cur T)) (o:=⟨T,s,ex,cells⟩) hx' hold (fun b hb=>Below.heap_alloc w _ b hb) (by simp) (by constructor;intro j T' n' s' xs' b' cap' h1 h2;obtain⟨q1,q2,q3,q4,q5⟩:=hf.fit h1 ((hcell j).symm.trans h2);exact⟨q1,q2,q3,q4,fun {j' _ _ _ _ _} r1 r2=>q5 r1 ((hcell j').symm.trans r2)⟩)
    (fun _ {_ _ _ _ _ _ _ _} hr e=>by have:=(h.m.rs.ok hr).lt;simp only at e;omega) (fun _ {j _ _ _ _ _ _} h1 h2 e=>by have:=(hf.fit h1 ((hcell j).symm.trans h2)).1.lt;simp only at e;omega)
  refine⟨fun y o ho=> ?_,fun y hy=> ?_,fun y p o ho hp hn=> ?_,fun y z p p' o o' ho ho' hp hp' hn hn' hb=> ?_,fun b hb=> ?_,hrw.1,hrw.2,?_⟩
  · by_cases e:y=x
    · subst e
      rw[bz]at ho
      injection ho with ho;injection ho with ho
      subst ho
      refine⟨_,hx',rfl,hl,fun he=>⟨rfl,rfl,hm he⟩,fun h=>by simp at h,fun hn=>⟨cur,eT w _,by simp [hcur],fun _=>hcur,fun j z hj=> ?_⟩⟩
      obtain⟨u,hu,hru⟩:=hr j z hj
      exact⟨u,by simpa using hu,hru.mono hρ hI⟩
    · rw[hgo y e]at ho
      exact(h.m.ow y o ho).mono hρ hI fun p hp hn=>Below.heap_alloc w _ _ (hlt y p o ho hp hn)
  · by_cases e:y=x
    · subst e;rw[bz]at hy;cases hy
    · rw[hgo y e]at hy;rw[hold y e];exact h.m.fr y hy
  · by_cases e:y=x
    · subst e
      rw[hx']at hp;injection hp with hp;subst hp
      exact⟨fun hi=>Nat.lt_irrefl _ (h.m.im _ hi),.inr h.m.fm.2.2.2.1,by simp⟩
    · rw[hgo y e]at ho;rw[hold y e]at hp
      obtain⟨q1,q2,q3⟩:=h.m.pl y p o ho hp hn
      exact⟨q1,q2,by simp;omega⟩
  · by_cases e:y=x<;>by_cases e':z=x
    · rw[e,e']
    · subst e
      rw[hx']at hp;injection hp with hp;subst hp
      rw[hgo z e']at ho';rw[hold z e']at hp'
      have:=hlt z p' o' ho' hp' hn'
      simp only at hb;omega
    · subst e'
      rw[hx']at hp';injection hp' with hp';subst hp'
      rw[hgo y e]at ho;rw[hold y e]at hp
      have:=hlt y p o ho hp hn
      simp only at hb;omega
    · rw[hgo y e]at ho;rw[hold y e]at hp;rw[hgo z e']at ho';rw[hold z e']at hp'
      exact h.m.inj y z p p' o o' ho ho' hp hp' hn hn' hb
  · have:=h.m.im b hb;simp;omega
  · obtain⟨h1,h2,h3,h4,h5⟩:=h.m.fm
    exact⟨h1,h2,h3,by simp;omega,fun b hlt ho=>(Below.heap_alloc w _ b (by omega)).trans (h5 b hlt ho)⟩
theorem Sat.write {Γ:Cx} {σ:St} {a:Act} {w:World} {ρ:Nat→Option Place} {I:Nat→Prop} (h:Sat Γ σ a w ρ I) {x:Nat} {o:Ob} (hx:get σ (.o x)=some (.o o)) {p:Place} (hp:ρ x=some p) (hn0:p.live=true)
    {cur:Array Value} {cells:List A} (hl:cells.length≤p.cap*p.size) (hsz:p.base+p.cap*p.size≤cur.size) (hex:o.ex=true→cur.size=p.cap*p.size)
    (hr:∀ (j:Nat) y,cells[j]? =some y→∃ u,cur[p.base+j]? =some u∧RelA ρ I w y u)
    (hrow:∀ (j:Nat) y,cells[j]? =some y→y.isRow=true→o.cells[j]? =some y∧w.cell? ⟨p.block,p.base+j,none⟩=cur[p.base+j]?):
    Sat Γ ((.o x,some (.o ⟨o.T,o.s,o.ex,cells⟩))::σ) a (w.setRow p.block cur) ρ I:=by
  obtain⟨hni,hbo,hlt⟩:=h.m.pl x p o hx hp hn0
  obtain⟨p',hp',hps,hpl,hpe,hpz,hpx⟩:=h.m.ow x o hx
  rw[hp]at hp';injection hp' with hp';subst hp'
  obtain⟨old,hold,_⟩:=hpx hn0
  have hother:∀ b,b≠p.block→(w.setRow p.block cur).heap[b]? =w.heap[b]? :=fun b hb=>setRow_other w p.block b cur hb
  have hI:∀ b,I b→I b∧(w.setRow p.block cur).heap[b]? =w.heap[b]? :=fun b hb=>⟨hb,hother b (fun e=>hni (e▸hb))⟩
  have hgs:∀ k,get ((Key.o x,some (Cell.o ⟨o.T,o.s,o.ex,cells⟩))::σ) (.s k)=get σ (.s k):=fun k=>bf rfl
  have hgo:∀ y,y≠x→get ((Key.o x,some (Cell.o ⟨o.T,o.s,o.ex,cells⟩))::σ) (.o y)=get σ (.o y):=fun y hy=>bf (fj (fun e=>hy e.symm))
  have hsize:(w.setRow p.block cur).heap.size=w.heap.size:=by simp
  have hst:∀ y o',get ((Key.o x,some (Cell.o ⟨o.T,o.s,o.ex,cells⟩))::σ) (.o y)=some (.o o')→∃ o'',get σ (.o y)=some (.o o''):=fun y o' hy=>by
    by_cases e:y=x
    · exact⟨o,e▸hx⟩
    · exact⟨o',(hgo y e)▸hy⟩
  have hnew:(w.setRow p.block cur).heap[p.block]? =some (.cells cur o.T (0,0)):=setRow_heap w p.block old cur _ _ hold
  have hin:∀ {h' j T n s xs b cap},RowIn ((Key.o x,some (Cell.o ⟨o.T,o.s,o.ex,cells⟩))::σ) (w.setRow p.block cur) ρ h' j T n s xs b cap→RowIn σ w ρ h' j T n s xs b cap:=by
    rintro h' j T n s xs b cap ⟨o1,p1,h1,h2,h3,h4,h5⟩
    by_cases e:h'=x
    · subst e
      rw[bz]at h1
      injection h1 with h1;injection h1 with h1
      subst h1
      rw[hp]at h2;injection h2 with h2;subst h2
      obtain⟨q1,q2⟩:=hrow j _ h4 rfl
      refine⟨o,p,hx,hp,h3,q1,q2.trans ?_⟩
      simp only[World.cell?,hnew]at h5
      exact h5
    · rw[hgo h' e]at h1
      refine⟨o1,p1,h1,h2,h3,h4,?_⟩
      rw[←World.cell?_of_block (w:=w) (w':=w.setRow p.block cur) (hother _ fun e2=>e (h.m.inj h' x p1 p o1 o h1 hx h2 hp h3 hn0 e2))]
      exact h5
  have hrw:Rws ((Key.o x,some (Cell.o ⟨o.T,o.s,o.ex,cells⟩))::σ) (w.setRow p.block cur) ρ I:=by
    refine h.m.rs.map (fun h j=>(h,j)) hin (fun _ _ e=>by injection e with e1 e2;exact⟨e1,e2⟩) (fun hr=>⟨hother _ fun e=>h.m.rs.sep hr hx hp hn0 e.symm,(h.m.rs.ok hr).ni,by rw[hsize];exact(h.m.rs.ok hr).lt⟩) fun hr h1 h2 h3=> ?_
    obtain⟨o'',ho''⟩:=hst _ _ h1
    exact h.m.rs.sep hr ho'' h2 h3
  refine⟨h.n,h.d,(fun k x h' hk hg hh=>h.fx k x h' hk ((hgs k)▸hg) hh),h.kp,fun k v hk=>(h.sl k v ((hgs k)▸hk)).mono (fun _ _ h=>h) hI,?_⟩
  refine⟨fun y o' ho=> ?_,fun y hy=> ?_,fun y q o' ho hq hn=> ?_,fun y z q q' o' o'' ho ho' hq hq' hn hn' hb=> ?_,fun b hb=>by rw[hsize];exact h.m.im b hb,hrw,fun hr=>h.m.rp (hin hr),?_⟩
  · by_cases e:y=x
    · subst e
      rw[bz]at ho
      injection ho with ho;injection ho with ho
      subst ho
      refine⟨p,hp,hps,hl,hpe,hpz,fun _=>⟨cur,setRow_heap w p.block old cur _ _ hold,hsz,hex,fun j z hj=> ?_⟩⟩
      obtain⟨u,hu,hru⟩:=hr j z hj
      exact⟨u,hu,hru.mono (fun _ _ h=>h) hI⟩
    · rw[hgo y e]at ho
      refine(h.m.ow y o' ho).mono (fun _ _ h=>h) hI fun q hq hn=>hother _ fun e'=>e ?_
      exact h.m.inj y x q p o' o ho hx hq hp hn hn0 e'
  · by_cases e:y=x
    · subst e;rw[bz]at hy;cases hy
    · rw[hgo y e]at hy;exact h.m.fr y hy
  · obtain⟨o'',ho''⟩:=hst y o' ho
    rw[hsize]
    exact h.m.pl y q o'' ho'' hq hn
  · obtain⟨o1,ho1⟩:=hst y o' ho
    obtain⟨o2,ho2⟩:=hst z o'' ho'
    exact h.m.inj y z q q' o1 o2 ho1 ho2 hq hq' hn hn' hb
  · obtain⟨h1,h2,h3,h4,h5⟩:=h.m.fm
    refine⟨h1,h2,h3,by rw[hsize];exact h4,fun b hlt' ho=> ?_⟩
    rw[hother b (fun e=> ?_)]
    · exact h5 b hlt' ho
    · subst e
      rcases hbo with hb |hb
      · exact ho hb
      · omega
theorem Sat.kill {Γ:Cx} {σ:St} {a:Act} {w:World} {ρ:Nat→Option Place} {I:Nat→Prop} (h:Sat Γ σ a w ρ I) (k:Key):Sat Γ ((k,none)::σ) a w ρ I:=by
 have hg:∀ k' c,get ((k,none)::σ) k'=some c→get σ k'=some c:=fun k' c hk=>by
  simp only[get]at hk
  rcases Bool.eq_false_or_eq_true (Key.eq k k')with e |e<;>rw[e]at hk
  ·cases hk
  ·exact hk
 exact⟨h.n,h.d,(fun k' x h' hk hg' hh=>h.fx k' x h' hk (hg _ _ hg') hh),h.kp,fun k' v hk=>h.sl k' v (hg _ _ hk),fun y o ho=>h.m.ow y o (hg _ _ ho),fun y hy=>h.m.fr y (hg _ _ hy),fun y p o ho=>h.m.pl y p o (hg _ _ ho),fun y z p p' o o' ho ho'=>h.m.inj y z p p' o o' (hg _ _ ho) (hg _ _ ho'),h.m.im,(h.m.rows0 fun x o ho=>hg _ _ ho).1,(h.m.rows0 fun x o ho=>hg _ _ ho).2,h.m.fm⟩
theorem Sat.scribble {Γ:Cx} {σ:St} {a:Act} {w:World} {ρ:Nat→Option Place} {I:Nat→Prop} (h:Sat Γ σ a w ρ I) {b:Nat} (hni:¬I b) (hbo:Γ.own b∨Γ.W.heap.size≤b)
  (hlive:∀ y p o,get σ (.o y)=some (.o o)→ρ y=some p→p.live=true→p.block≠b) (hrow:∀ {h j T n s xs b' cap},RowIn σ w ρ h j T n s xs b' cap→b'≠b) (cur:Array Value):Sat Γ σ a (w.setRow b cur) ρ I:=by
 have hother:∀ k,k≠b→(w.setRow b cur).heap[k]? =w.heap[k]? :=fun k hk=>setRow_other w b k cur hk
 have hI:∀ k,I k→I k∧(w.setRow b cur).heap[k]? =w.heap[k]? :=fun k hk=>⟨hk,hother k (fun e=>hni (e▸hk))⟩
 have hsize:(w.setRow b cur).heap.size=w.heap.size:=by simp
 have hrw:=h.m.rows (τ:=σ) (w':=w.setRow b cur) (ρ':=ρ) (I':=I) (fun _ _ h=>h) (fun _ _ _ _ h=>h) (fun y o p ho hp hn=>hother _ (hlive y p o ho hp hn)) fun hr=>⟨hother _ (hrow hr),(h.m.rs.ok hr).ni,by rw[hsize];exact(h.m.rs.ok hr).lt⟩
 refine⟨h.n,h.d,h.fx,h.kp,fun k v hk=>(h.sl k v hk).mono (fun _ _ h=>h) hI,?_⟩
 refine⟨fun y o ho=>(h.m.ow y o ho).mono (fun _ _ h=>h) hI fun p hp hn=>hother _ (hlive y p o ho hp hn),h.m.fr,fun y p o ho hp hn=>by rw[hsize];exact h.m.pl y p o ho hp hn,h.m.inj,fun k hk=>by rw[hsize];exact h.m.im k hk,hrw.1,hrw.2,?_⟩
 obtain⟨h1,h2,h3,h4,h5⟩:=h.m.fm
 refine⟨h1,h2,h3,by rw[hsize];exact h4,fun k hlt' ho=> ?_⟩
 rw[hother k (fun e=> ?_)]
 ·exact h5 k hlt' ho
 ·subst e
  rcases hbo with hb |hb
  ·exact ho hb
  ·omega
theorem Sat.adopt {Γ:Cx} {σ:St} {a:Act} {w:World} {ρ:Nat→Option Place} {I:Nat→Prop} (h:Sat Γ σ a w ρ I) {x:Nat} (hx:get σ (.o x)=some .free) {p:Place} {o:Ob}
    (hs:p.size=o.s) (hl:o.cells.length≤p.cap*p.size) (he:o.ex=true→p.x=true∧p.base=0∧p.cap≤maxLen) (hz:p.live=false→p.cap=0)
    (hb:p.live=true→¬I p.block∧(Γ.own p.block∨Γ.W.heap.size≤p.block)∧p.block<w.heap.size∧(∀ y q o,get σ (.o y)=some (.o o)→ρ y=some q→q.live=true→q.block≠p.block)∧
      ∃ cur,w.heap[p.block]? =some (.cells cur o.T (0,0))∧p.base+p.cap*p.size≤cur.size∧(o.ex=true→cur.size=p.cap*p.size)∧∀ (j:Nat) y,o.cells[j]? =some y→∃ u,cur[p.base+j]? =some u∧RelA ρ I w y u)
    (hf:RowFit Γ σ w ρ I o.cells (fun j=>w.cell? ⟨p.block,p.base+j,none⟩)) (hpb:p.live=true→∀ {h j T n s xs b cap},RowIn σ w ρ h j T n s xs b cap→p.block≠b)
    (hself:p.live=true→∀ {j T n s xs b cap},o.cells[j]? =some (.row T n s xs)→w.cell? ⟨p.block,p.base+j,none⟩=some (.slice (some ⟨b,0,none⟩) n cap)→p.block≠b):
    ∃ ρ',(∀ h p,ρ h=some p→ρ' h=some p)∧ρ' x=some p∧Sat Γ ((.o x,some (.o o))::σ) a w ρ' I:=by
  have hfree:=h.m.fr x hx
  let ρ':Nat→Option Place:=fun y=>if y=x then some p else ρ y
  have hρ:∀ h p,ρ h=some p→ρ' h=some p:=fun y q hy=>by
    have:y≠x:=fun e=>by rw[e,hfree]at hy;cases hy
    simp [ρ',this,hy]
  have hx':ρ' x=some p:=by simp [ρ']
  have hI:∀ b,I b→I b∧w.heap[b]? =w.heap[b]? :=fun b hb=>⟨hb,rfl⟩
  have hgs:∀ k,get ((Key.o x,some (Cell.o o))::σ) (.s k)=get σ (.s k):=fun k=>bf rfl
  have hgo:∀ y,y≠x→get ((Key.o x,some (Cell.o o))::σ) (.o y)=get σ (.o y):=fun y hy=>bf (fj (fun e=>hy e.symm))
  have hold:∀ y,y≠x→ρ' y=ρ y:=fun y hy=>by simp [ρ',hy]
  have hrw:=h.m.cons (w':=w) (o:=o) hx' hold (fun _ _=>rfl) (Nat.le_refl _) hf hpb hself
  refine⟨ρ',hρ,hx',h.n,h.d,(fun k x h' hk hg hh=>by obtain⟨q,e1,e2⟩:=h.fx k x h' hk ((hgs k)▸hg) hh;exact⟨q,e1,hρ _ _ e2⟩),h.kp.mono hρ,fun k v hk=>(h.sl k v ((hgs k)▸hk)).mono hρ hI,?_⟩
  refine⟨fun y o' ho=> ?_,fun y hy=> ?_,fun y q o' ho hq hn=> ?_,fun y z q q' o' o'' ho ho' hq hq' hn hn' hbb=> ?_,h.m.im,hrw.1,hrw.2,h.m.fm⟩
  · by_cases e:y=x
    · subst e
      rw[bz]at ho
      injection ho with ho;injection ho with ho
      subst ho
      refine⟨p,hx',hs,hl,he,hz,fun hn=> ?_⟩
      obtain⟨_,_,_,_,cur,c1,c2,c3,c4⟩:=hb hn
      refine⟨cur,c1,c2,c3,fun j z hj=> ?_⟩
      obtain⟨u,hu,hr⟩:=c4 j z hj
      exact⟨u,hu,hr.mono hρ hI⟩
    · rw[hgo y e]at ho
      exact(h.m.ow y o' ho).mono hρ hI fun _ _ _=>rfl
  · by_cases e:y=x
    · subst e;rw[bz]at hy;cases hy
    · rw[hgo y e]at hy;rw[hold y e];exact h.m.fr y hy
  · by_cases e:y=x
    · subst e
      rw[hx']at hq;injection hq with hq;subst hq
      obtain⟨b1,b2,b3,_⟩:=hb hn
      exact⟨b1,b2,b3⟩
    · rw[hgo y e]at ho;rw[hold y e]at hq
      exact h.m.pl y q o' ho hq hn
  · by_cases e:y=x<;>by_cases e':z=x
    · rw[e,e']
    · subst e
      rw[hx']at hq;injection hq with hq;subst hq
      rw[hgo z e']at ho';rw[hold z e']at hq'
      exact absurd hbb.symm ((hb hn).2.2.2.1 z q' o'' ho' hq' hn')
    · subst e'
      rw[hx']at hq';injection hq' with hq';subst hq'
      rw[hgo y e]at ho;rw[hold y e]at hq
      exact absurd hbb ((hb hn').2.2.2.1 y q o' ho hq hn)
    · rw[hgo y e]at ho;rw[hold y e]at hq;rw[hgo z e']at ho';rw[hold z e']at hq'
      exact h.m.inj y z q q' o' o'' ho ho' hq hq' hn hn' hbb
theorem Sat.get_kill {σ:St} {h y:Nat} {c:Cell} (hy:get ((.o h,none)::σ) (.o y)=some c):y≠h∧get σ (.o y)=some c:=by
 by_cases e:y=h
 ·subst e;rw[bz]at hy;cases hy
 ·rw[bf (fj (fun e'=>e e'.symm))]at hy
  exact⟨e,hy⟩
theorem RowIn.back {Γ:Cx} {σ:St} {w w':World} {ρ:Nat→Option Place} {I:Nat→Prop} (H:Mem Γ σ w ρ I) (hw:∀ b,b<w.heap.size→w'.heap[b]? =w.heap[b]?)
  {y j T n s:Nat} {xs:List Value} {b cap:Nat} (hr:RowIn σ w' ρ y j T n s xs b cap):RowIn σ w ρ y j T n s xs b cap:=by
 obtain⟨o1,p1,h1,h2,h3,h4,h5⟩:=hr
 exact⟨o1,p1,h1,h2,h3,h4,by rw[←World.cell?_of_block (w:=w) (w':=w') (hw _ (H.pl y p1 o1 h1 h2 h3).2.2)];exact h5⟩
theorem RowIn.unkill {Γ:Cx} {σ:St} {w w':World} {ρ:Nat→Option Place} {I:Nat→Prop} (H:Mem Γ σ w ρ I) {h:Nat} {o:Ob} {p:Place} (ho:get σ (.o h)=some (.o o)) (hp:ρ h=some p) (hl:p.live=true) (hw:∀ b,b<w.heap.size→b≠p.block→w'.heap[b]? =w.heap[b]?)
  {y j T n s:Nat} {xs:List Value} {b cap:Nat} (hr:RowIn ((.o h,none)::σ) w' ρ y j T n s xs b cap):y≠h∧RowIn σ w ρ y j T n s xs b cap:=by
 obtain⟨o1,p1,h1,h2,h3,h4,h5⟩:=hr
 obtain⟨e,h1'⟩:=Sat.get_kill h1
 exact⟨e,o1,p1,h1',h2,h3,h4,by rw[←World.cell?_of_block (w:=w) (w':=w') (hw _ (H.pl y p1 o1 h1' h2 h3).2.2 fun e2=>e (H.inj y h p1 p o1 o h1' ho h2 hp h3 hl e2))];exact h5⟩
theorem RowFit.moved {Γ:Cx} {σ:St} {w w':World} {ρ:Nat→Option Place} {I:Nat→Prop} (H:Mem Γ σ w ρ I) {h:Nat} {o:Ob} {p:Place} (ho:get σ (.o h)=some (.o o)) (hp:ρ h=some p) (hl:p.live=true) (hw:∀ b,b<w.heap.size→b≠p.block→w'.heap[b]? =w.heap[b]?) (hsz:w.heap.size≤w'.heap.size)
  {d:Nat} {zs:List A} {val:Nat→Option Value} (hz:∀ (j:Nat) y v,zs[j]? =some y→y.isRow=true→val j=some v→o.cells[d+j]? =some y∧w.cell? ⟨p.block,p.base+(d+j),none⟩=some v):
  RowFit Γ ((.o h,none)::σ) w' ρ I zs val∧∀ {j T n s xs b cap},zs[j]? =some (.row T n s xs)→val j=some (.slice (some ⟨b,0,none⟩) n cap)→p.block≠b:=by
 have key:∀ {j T n s xs b cap},zs[j]? =some (.row T n s xs)→val j=some (.slice (some ⟨b,0,none⟩) n cap)→RowIn σ w ρ h (d+j) T n s xs b cap:=by
  intro j T n s xs b cap h1 h2
  obtain⟨q1,q2⟩:=hz j _ _ h1 rfl h2
  exact⟨o,p,ho,hp,hl,q1,q2⟩
 refine⟨⟨?_⟩,fun h1 h2=>H.rs.sep (key h1 h2) ho hp hl⟩
 intro j T n s xs b cap h1 h2
 have hr:=key h1 h2
 have hne:=H.rs.sep hr ho hp hl
 obtain⟨⟨cur,c1,c2,c3⟩,k2,k3,k4,k5,k6⟩:=H.rs.ok hr
 refine⟨⟨⟨cur,(hw b k6 (fun e=>hne e.symm)).trans c1,c2,c3⟩,k2,k3,k4,k5,Nat.lt_of_lt_of_le k6 hsz⟩,H.rp hr,fun g1 g2 g3=>H.rs.sep hr (Sat.get_kill g1).2 g2 g3,fun {y _ _ _ _ _ _} hr2=> ?_,fun {j' _ _ _ _ _} r1 r2=> ?_⟩
 ·obtain⟨e,hr3⟩:=RowIn.unkill H ho hp hl hw hr2
  exact e (H.rs.inj hr hr3).1
 ·have:=(H.rs.inj hr (key r1 r2)).2
  omega
def V.v (v:Value):V:= .b (.a (.val v))
def V.av (vs:List Value):V:= .b (.agg (vs.map A.val))
def Facts (R:List (Key × Cell)) (a:Act) (w:World) (ρ:Nat→Option Place) (I:Nat→Prop):Prop:=
 ∀ k c,(k,c)∈R→match k,c with
  | .s k,.s v=>RelV ρ I w v (a.tmps.getD k undef)
  | .o h,.o o=>Own ρ I w h o
  | _,_=>True
def Acts (Γ:Cx) (o:Oper) (R:List (Key × Cell)) (W:St):Prop:=
 ∀ σ a w ρ I,Sat Γ σ a w ρ I→(∀ kv∈R,get σ kv.1=some kv.2)→∀ (K:Act→World→Prop) Q,(∀ a' w',Sats Γ (W++σ) a' w'→K a' w')→o.wp Γ.P a w K Q
theorem fF {Γ:Cx} {σ:St} {a:Act} {w:World} {ρ:Nat→Option Place} {I:Nat→Prop} {R:List (Key × Cell)} (h:Sat Γ σ a w ρ I) (hR:∀ kv∈R,get σ kv.1=some kv.2):Facts R a w ρ I:=by
 intro k c hk
 have hg:=hR _ hk
 cases k<;>cases c<;>first |exact trivial |exact h.sl _ _ hg |exact h.m.ow _ _ hg
theorem Acts.pure {Γ:Cx} {o:Oper} {d:Nat} {X:V} {R:List (Key × Cell)} (hd:o.dst=some d) (hN:Γ.ok d)
  (h:∀ a w ρ I,Facts R a w ρ I→∃ v,(execOp a.eval o).run Γ.P w= .ok (.value v) w∧RelV ρ I w X v):Acts Γ o R [(.s d,some (.s X))]:=by
 intro σ a w ρ I hs hR K Q hK
 obtain⟨v,hr,hv⟩:=h a w ρ I (fF hs hR)
 unfold Oper.wp
 rw[hr]
 show K (a.put o.dst v) w
 rw[hd]
 exact hK _ _ ⟨ρ,I,hs.put hN hv⟩
inductive OpX:Operand→V→List (Key × Cell)→Prop
 | tmp (t:Nat) (X:V):OpX (.tmp t) X [(.s t,.s X)]
 | const (v:Value):OpX (.const v) (V.v v) []
inductive OpV:Operand→Value→List (Key × Cell)→Prop
 | tmp (t:Nat) (v:Value):OpV (.tmp t) v [(.s t,.s (V.v v))]
 | agg (t:Nat) (vs:List Value):OpV (.tmp t) (.agg vs.toArray) [(.s t,.s (V.av vs))]
 | const (v:Value):OpV (.const v) v []
theorem OpX.rel {x:Operand} {X:V} {R:List (Key × Cell)} (h:OpX x X R) {a:Act} {w:World} {ρ:Nat→Option Place} {I:Nat→Prop} (hf:Facts R a w ρ I):RelV ρ I w X (a.eval x):=by
 cases h with
 | tmp t X=>exact hf (.s t) (.s X) (by simp)
 | const v=>exact(rfl:v=v)
theorem Fl {ρ:Nat→Option Place} {I:Nat→Prop} {w:World} {vs:List Value} {u:Value} (h:RelV ρ I w (V.av vs) u):u= .agg vs.toArray:=by
 obtain⟨cs,rfl,hl,hx⟩:=h
 congr 1
 congr 1
 apply List.ext_getElem?
 intro j
 rw[List.length_map]at hl
 rcases Nat.lt_or_ge j vs.length with hlt |hge
 ·have:=hx j (.val vs[j]) (cs[j]'(by omega)) (by simp [hlt]) (by simp)
  rw[List.getElem?_eq_getElem hlt,List.getElem?_eq_getElem (by omega)]
  exact congrArg some this
 ·rw[List.getElem?_eq_none hge,List.getElem?_eq_none (by omega)]
theorem kz {ρ:Nat→Option Place} {I:Nat→Prop} {w:World} (vs:List Value):RelV ρ I w (V.av vs) (.agg vs.toArray):=by
 refine⟨vs,rfl,by simp,fun j x c h1 h2=> ?_⟩
 simp only[List.getElem?_map,h2,Option.map_some]at h1
 injection h1 with h1
 subst h1
 exact(rfl:c=c)
theorem OpV.ev {x:Operand} {v:Value} {R:List (Key × Cell)} (h:OpV x v R) {a:Act} {w:World} {ρ:Nat→Option Place} {I:Nat→Prop} (hf:Facts R a w ρ I):a.eval x=v:=by
 cases h with
 | tmp t X=>exact hf (.s t) (.s (V.v v)) (by simp)
 | agg t vs=>exact Fl (hf (.s t) (.s (V.av vs)) (by simp))
 | const v=>rfl
theorem Facts.left {R R':List (Key × Cell)} {a:Act} {w:World} {ρ:Nat→Option Place} {I:Nat→Prop} (h:Facts (R++R') a w ρ I):Facts R a w ρ I:=fun k c hk=>h k c (by simp [hk])
theorem Facts.right {R R':List (Key × Cell)} {a:Act} {w:World} {ρ:Nat→Option Place} {I:Nat→Prop} (h:Facts (R++R') a w ρ I):Facts R' a w ρ I:=fun k c hk=>h k c (by simp [hk])
section
variable {Γ:Cx} {d:Nat} {ty:TypeId} {pos:String} {af:Array Edge} {g:Option (Nat × Bool)}
theorem um {x:Operand} {X:V} {R:List (Key × Cell)} (hN:Γ.ok d) (hx:OpX x X R):Acts Γ ⟨some d,.move x,ty,pos,af,g⟩ R [(.s d,some (.s X))]:=
 Acts.pure rfl hN fun a w ρ I hf=>⟨a.eval x,by simp [execOp,go_sem],hx.rel hf⟩
theorem qK {x:Operand} {X:V} {R:List (Key × Cell)} (hN:Γ.ok d) (hx:OpX x X R):Acts Γ ⟨some d,.assign x,ty,pos,af,g⟩ R [(.s d,some (.s X))]:=
 Acts.pure rfl hN fun a w ρ I hf=>⟨a.eval x,by simp [execOp,go_sem],hx.rel hf⟩
theorem au {c x y:Operand} {X:V} {R R':List (Key × Cell)} (hN:Γ.ok d) (hc:OpV c (.bool true) R) (hx:OpX x X R'):Acts Γ ⟨some d,.pick c x y,ty,pos,af,g⟩ (R++R') [(.s d,some (.s X))]:=
 Acts.pure rfl hN fun a w ρ I hf=>⟨a.eval x,by(have he:=hc.ev hf.left;simp only[execOp,he];simp [go_sem,asBool]),hx.rel hf.right⟩
theorem ar {c x y:Operand} {X:V} {R R':List (Key × Cell)} (hN:Γ.ok d) (hc:OpV c (.bool false) R) (hx:OpX y X R'):Acts Γ ⟨some d,.pick c x y,ty,pos,af,g⟩ (R++R') [(.s d,some (.s X))]:=
 Acts.pure rfl hN fun a w ρ I hf=>⟨a.eval y,by(have he:=hc.ev hf.left;simp only[execOp,he];simp [go_sem,asBool]),hx.rel hf.right⟩
theorem aa {x y:Operand} {op:BinOp} {xT yT:TypeId} {u v r:Value} {R R':List (Key × Cell)} (hN:Γ.ok d) (hx:OpV x u R) (hy:OpV y v R')
  (hr:∀ w,((do eqGuard op xT x y u v;binOp op xT u v):Sem Value).run Γ.P w= .ok r w):Acts Γ ⟨some d,.binOp op xT x y yT,ty,pos,af,g⟩ (R++R') [(.s d,some (.s (V.v r)))]:=
 Acts.pure rfl hN fun a w ρ I hf=>⟨r,by
  have h:=hr w
  simp only[execOp,hx.ev hf.left,hy.ev hf.right]
  rw[Sem.run_bind,h]
  rfl,rfl⟩
theorem bn {x:Operand} {op:UnOp} {xT:TypeId} {u r:Value} {R:List (Key × Cell)} (hN:Γ.ok d) (hx:OpV x u R)
  (hr:∀ w,(Op.unary op u).run Γ.P w= .ok r w):Acts Γ ⟨some d,.unOp op xT x,ty,pos,af,g⟩ R [(.s d,some (.s (V.v r)))]:=
 Acts.pure rfl hN fun a w ρ I hf=>⟨r,by
  have h:=hr w
  simp only[execOp,hx.ev hf]
  rw[Sem.run_bind,h]
  rfl,rfl⟩
theorem gH {x:Operand} {src dst:TypeId} {u r:Value} {R:List (Key × Cell)} (hN:Γ.ok d) (hx:OpV x u R)
  (hr:∀ w,(convert src dst u).run Γ.P w= .ok r w):Acts Γ ⟨some d,.convert src dst x,ty,pos,af,g⟩ R [(.s d,some (.s (V.v r)))]:=
 Acts.pure rfl hN fun a w ρ I hf=>⟨r,by
  have h:=hr w
  simp only[execOp,hx.ev hf]
  rw[Sem.run_bind,h]
  rfl,rfl⟩
theorem ba {t ix:Nat} {xs:List B} {X:B} (hN:Γ.ok d) (hX:xs[ix]? =some X):Acts Γ ⟨some d,.extract (.tmp t) ix,ty,pos,af,g⟩ [(.s t,.s (.tup xs))] [(.s d,some (.s (.b X)))]:=
 Acts.pure rfl hN fun a w ρ I hf=>by
  obtain⟨cs,e,hl,hx⟩:=hf (.s t) (.s (.tup xs)) (by simp)
  have hlt:ix<cs.length:=by rw[hl];exact(List.getElem?_eq_some_iff.1 hX).1
  refine⟨cs[ix],?_,hx ix X _ hX (by simp)⟩
  have he:a.eval (.tmp t)= .tuple cs.toArray:=e
  simp only[execOp,he]
  simp [go_sem,Instr.extract,hlt]
end
section
variable {P:Program}
theorem Je {xT:TypeId} {x y:Operand} {k:IntKind} {a b c:Int} (h:k.wrap (a+b)=c) (w:World):((do eqGuard .add xT x y (.int k a) (.int k b);binOp .add xT (.int k a) (.int k b)):Sem Value).run P w= .ok (.int k c) w:=by
 subst h;simp [eqGuard,binOp,Op.intArith,go_sem]
theorem nH {xT:TypeId} {x y:Operand} {k:IntKind} {a b c:Int} (h:k.wrap (a-b)=c) (w:World):((do eqGuard .sub xT x y (.int k a) (.int k b);binOp .sub xT (.int k a) (.int k b)):Sem Value).run P w= .ok (.int k c) w:=by
 subst h;simp [eqGuard,binOp,Op.intArith,go_sem]
theorem AO {xT:TypeId} {x y:Operand} {k:IntKind} {a b c:Int} (h:k.wrap (a*b)=c) (w:World):((do eqGuard .mul xT x y (.int k a) (.int k b);binOp .mul xT (.int k a) (.int k b)):Sem Value).run P w= .ok (.int k c) w:=by
 subst h;simp [eqGuard,binOp,Op.intArith,go_sem]
theorem AP {xT:TypeId} {x y:Operand} {k:IntKind} {a b c:Int} (hb:b≠0) (h:k.wrap (a.tdiv b)=c) (w:World):((do eqGuard .quo xT x y (.int k a) (.int k b);binOp .quo xT (.int k a) (.int k b)):Sem Value).run P w= .ok (.int k c) w:=by
 subst h;simp [eqGuard,binOp,Op.intDiv,go_sem,hb]
theorem tw {xT:TypeId} {x y:Operand} {k:IntKind} {a b c:Int} (hb:b≠0) (h:a.tmod b=c) (w:World):((do eqGuard .rem xT x y (.int k a) (.int k b);binOp .rem xT (.int k a) (.int k b)):Sem Value).run P w= .ok (.int k c) w:=by
 subst h;simp [eqGuard,binOp,Op.intDiv,go_sem,hb]
theorem bA {xT:TypeId} {x y:Operand} {k:IntKind} {a b:Int} {c:Bool} (h:decide (a<b)=c) (w:World):((do eqGuard .lss xT x y (.int k a) (.int k b);binOp .lss xT (.int k a) (.int k b)):Sem Value).run P w= .ok (.bool c) w:=by
 subst h;simp [eqGuard,binOp,Op.intCmp,go_sem]
theorem qZ {xT:TypeId} {x y:Operand} {k:IntKind} {a b:Int} {c:Bool} (h:decide (a≤b)=c) (w:World):((do eqGuard .leq xT x y (.int k a) (.int k b);binOp .leq xT (.int k a) (.int k b)):Sem Value).run P w= .ok (.bool c) w:=by
 subst h;simp [eqGuard,binOp,Op.intCmp,go_sem]
theorem vz {xT:TypeId} {x y:Operand} {k:IntKind} {a b:Int} {c:Bool} (h:decide (b<a)=c) (w:World):((do eqGuard .gtr xT x y (.int k a) (.int k b);binOp .gtr xT (.int k a) (.int k b)):Sem Value).run P w= .ok (.bool c) w:=by
 subst h;simp [eqGuard,binOp,Op.intCmp,go_sem]
theorem Fk {xT:TypeId} {x y:Operand} {k:IntKind} {a b:Int} {c:Bool} (h:decide (b≤a)=c) (w:World):((do eqGuard .geq xT x y (.int k a) (.int k b);binOp .geq xT (.int k a) (.int k b)):Sem Value).run P w= .ok (.bool c) w:=by
 subst h;simp [eqGuard,binOp,Op.intCmp,go_sem]
theorem ct {xT:TypeId} {x y:Operand} {k:IntKind} {a b:Int} {c:Bool} (h:decide (a=b)=c) (w:World):((do eqGuard .eql xT x y (.int k a) (.int k b);binOp .eql xT (.int k a) (.int k b)):Sem Value).run P w= .ok (.bool c) w:=by
 subst h;simp [eqGuard,binOp,Op.intCmp,go_sem];first |rfl |exact Bool.beq_eq_decide_eq _ _ |(rw[Bool.eq_iff_iff];simp)
theorem fv {xT:TypeId} {x y:Operand} {k:IntKind} {a b:Int} {c:Bool} (h:decide (a≠b)=c) (w:World):((do eqGuard .neq xT x y (.int k a) (.int k b);binOp .neq xT (.int k a) (.int k b)):Sem Value).run P w= .ok (.bool c) w:=by
 subst h;simp [eqGuard,binOp,Op.intCmp,go_sem];first |rfl |exact Bool.beq_eq_decide_eq _ _ |(rw[Bool.eq_iff_iff];simp)
theorem bS {a c:Bool} (h:(!a)=c) (w:World):(Op.unary .not (.bool a)).run P w= .ok (.bool c) w:=by
 subst h;simp [Op.unary,go_sem]
theorem jx {xT:TypeId} {x y:Operand} {a b c:Bool} (ht:P.underlying xT=some .bool) (h:decide (a=b)=c) (w:World):((do eqGuard .eql xT x y (.bool a) (.bool b);binOp .eql xT (.bool a) (.bool b)):Sem Value).run P w= .ok (.bool c) w:=by
 subst h;simp [eqGuard,binOp,Op.equal,Op.maxDepth,go_sem,ht];rw[Bool.eq_iff_iff];simp
theorem zF {xT:TypeId} {x y:Operand} {a b c:Bool} (ht:P.underlying xT=some .bool) (h:decide (a≠b)=c) (w:World):((do eqGuard .neq xT x y (.bool a) (.bool b);binOp .neq xT (.bool a) (.bool b)):Sem Value).run P w= .ok (.bool c) w:=by
 subst h;simp [eqGuard,binOp,Op.equal,Op.maxDepth,go_sem,ht];rw[Bool.eq_iff_iff];simp
theorem pt {xT:TypeId} {x y:Operand} {u v:Array Value} {c:Bool} (hg:P.eqGuardType P.depth xT=false) (h:∀ w,(binOp .eql xT (.agg u) (.agg v)).run P w= .ok (.bool c) w) (w:World):((do eqGuard .eql xT x y (.agg u) (.agg v);binOp .eql xT (.agg u) (.agg v)):Sem Value).run P w= .ok (.bool c) w:=by
 rw[Sem.run_bind]
 have e:(eqGuard .eql xT x y (.agg u) (.agg v)).run P w= .ok () w:=by simp [eqGuard,go_sem,hg]
 rw[e];exact h w
theorem eN {xT:TypeId} {x y:Operand} {u v:Array Value} {c:Bool} (hg:P.eqGuardType P.depth xT=false) (h:∀ w,(binOp .neq xT (.agg u) (.agg v)).run P w= .ok (.bool c) w) (w:World):((do eqGuard .neq xT x y (.agg u) (.agg v);binOp .neq xT (.agg u) (.agg v)):Sem Value).run P w= .ok (.bool c) w:=by
 rw[Sem.run_bind]
 have e:(eqGuard .neq xT x y (.agg u) (.agg v)).run P w= .ok () w:=by simp [eqGuard,go_sem,hg]
 rw[e];exact h w
theorem io {xT:TypeId} {x y:Operand} {k:IntKind} {a b c:Int} (h:k.wrap ((BitVec.ofInt k.bits a)&&&(BitVec.ofInt k.bits b)).toNat=c) (w:World):((do eqGuard .and xT x y (.int k a) (.int k b);binOp .and xT (.int k a) (.int k b)):Sem Value).run P w= .ok (.int k c) w:=by
 subst h;simp [eqGuard,binOp,Op.intBits,go_sem]
theorem pu {xT:TypeId} {x y:Operand} {k:IntKind} {a b c:Int} (h:k.wrap ((BitVec.ofInt k.bits a)|||(BitVec.ofInt k.bits b)).toNat=c) (w:World):((do eqGuard .or xT x y (.int k a) (.int k b);binOp .or xT (.int k a) (.int k b)):Sem Value).run P w= .ok (.int k c) w:=by
 subst h;simp [eqGuard,binOp,Op.intBits,go_sem]
theorem r_xor {xT:TypeId} {x y:Operand} {k:IntKind} {a b c:Int} (h:k.wrap ((BitVec.ofInt k.bits a)^^^ (BitVec.ofInt k.bits b)).toNat=c) (w:World):((do eqGuard .xor xT x y (.int k a) (.int k b);binOp .xor xT (.int k a) (.int k b)):Sem Value).run P w= .ok (.int k c) w:=by
 subst h;simp [eqGuard,binOp,Op.intBits,go_sem]
theorem yv {xT:TypeId} {x y:Operand} {k:IntKind} {a b c:Int} (h:k.wrap ((BitVec.ofInt k.bits a)&&& ~~~(BitVec.ofInt k.bits b)).toNat=c) (w:World):((do eqGuard .andNot xT x y (.int k a) (.int k b);binOp .andNot xT (.int k a) (.int k b)):Sem Value).run P w= .ok (.int k c) w:=by
 subst h;simp [eqGuard,binOp,Op.intBits,go_sem]
theorem fw {xT:TypeId} {x y:Operand} {k k':IntKind} {a b c:Int} (hb:0≤b) (h:k.wrap (a*2^ (min b.toNat k.bits))=c) (w:World):((do eqGuard .shl xT x y (.int k a) (.int k' b);binOp .shl xT (.int k a) (.int k' b)):Sem Value).run P w= .ok (.int k c) w:=by
 subst h;have h':¬b<0:=by omega
 simp [eqGuard,binOp,Op.shift,go_sem,h']
theorem ml {xT:TypeId} {x y:Operand} {k k':IntKind} {a b c:Int} (hb:0≤b) (h:a.fdiv (2^ (min b.toNat k.bits))=c) (w:World):((do eqGuard .shr xT x y (.int k a) (.int k' b);binOp .shr xT (.int k a) (.int k' b)):Sem Value).run P w= .ok (.int k c) w:=by
 subst h;have h':¬b<0:=by omega
 simp [eqGuard,binOp,Op.shift,go_sem,h']
theorem oh {src dst:TypeId} {k k':IntKind} {a c:Int} (hs:P.underlying src=some (.int k')) (hd:P.underlying dst=some (.int k)) (h:k.wrap a=c) (w:World):(convert src dst (.int k' a)).run P w= .ok (.int k c) w:=by
 subst h;simp [convert,run_underlying hs,run_underlying hd,go_sem,Conv.intToInt]
end
end Cl
end Go.Proofs.YtgmkkfdnmdohlaaGreatDoor
namespace Go.Proofs.YtgmkkfdnmdohlaaGreatDoor
namespace Cl
open Go.ChangeShapes Go.WideShapes Go.ChangeAt Go.RowKit
def A.one:A→Bool
 | .val v=>v.oneCell'
 | .row .. =>false
 | _=>true
theorem zp {y:A} (h:y.one=true):y.isRow=false:=by cases y<;>first |rfl |cases h
theorem pg {xs:List Value}:∀ y∈xs.map A.val,y.isRow=false:=by intro y hy;obtain⟨v,_,rfl⟩:=List.mem_map.1 hy;rfl
theorem RelA.one {ρ:Nat→Option Place} {I:Nat→Prop} {w:World} {x:A} {u:Value} (h:RelA ρ I w x u) (hx:x.one=true):u.oneCell'=true:=by
 cases x with
 | val v=>have e:u=v:=h;subst e;exact hx
 | sl h0 off len=>obtain⟨p,A,_,rfl,_⟩:=h;rfl
 | ptr h0 off=>obtain⟨p,_,rfl⟩:=h;rfl
 | slv n s xs=>obtain⟨_,A,c,rfl,_⟩:=h;rfl
 | ptrv s xs off=>obtain⟨g,o,rfl,_⟩:=h;rfl
 | slvv s rows=>obtain⟨A,c,rfl,_⟩:=h;rfl
 | ptrvv s rows k=>obtain⟨g,o,rfl,_⟩:=h;rfl
 | fn f caps=>obtain⟨vs,rfl,_⟩:=h;rfl
 | slg T g n s xs=>obtain⟨_,⟨rfl,_⟩ |⟨cap,cur,rfl,_⟩⟩:=h<;>rfl
 | row T n s xs=>cases hx
theorem Bu {v:Value} (h:v.oneCell'=true):v.cells= #[v]:=by
 cases v<;>first |rfl |cases h
def B.cs:B→List A
 | .a x=>[x]
 | .agg xs=>xs
theorem RelB.cells {ρ:Nat→Option Place} {I:Nat→Prop} {w:World} {b:B} {u:Value} (h:RelB ρ I w b u) (hb:∀ x∈b.cs,x.one=true):
    u.cells.size=b.cs.length∧(∀ (j:Nat) x,b.cs[j]? =some x→∃ c,u.cells.toList[j]? =some c∧RelA ρ I w x c)∧∀ c∈u.cells.toList,c.oneCell'=true:=by
  cases b with
  | a x=>
    have h1:=RelA.one h (hb x (by simp [B.cs]))
    rw[Bu h1]
    refine⟨rfl,fun j y hj=> ?_,by simpa using h1⟩
    match j,hj with
    | 0,hj=>simp [B.cs]at hj;subst hj;exact⟨u,rfl,h⟩
  | agg xs=>
    obtain⟨cs,rfl,hl,hx⟩:=h
    refine⟨by simpa [Value.cells,B.cs] using hl,fun j x hj=> ?_,fun c hc=> ?_⟩
    · have hlt:j<cs.length:=by rw[hl];exact(List.getElem?_eq_some_iff.1 hj).1
      exact⟨cs[j],by simp [Value.cells,hlt],hx j x _ hj (by simp)⟩
    · simp only[Value.cells]at hc
      obtain⟨j,hj,rfl⟩:=List.getElem_of_mem hc
      have hlt:j<xs.length:=by rw[←hl];exact hj
      exact RelA.one (hx j xs[j] cs[j] (by simp) (by simp)) (hb _ (by simp [B.cs]))
structure TI (P:Program) (T:TypeId) (row:Bool) (n:Nat):Prop where
  u:∃ d,P.underlying T=some d∧d.isRow=row
  i:(P.info? T).map (·.size)=some n
theorem gh (b o j:Nat):(⟨b,o,none⟩:Addr).add j=⟨b,o+j,none⟩:=by unfold Addr.add;split<;>simp_all
section
variable {P:Program}
theorem fc {w:World} {T:TypeId} {n:Nat} {ad:Addr} {v:Value} (hT:TI P T false n) (hc:w.cell? ad=some v):(Instr.loadAt T (.pointer (some ad))).run P w= .ok v w:=by
 obtain⟨⟨d,hu,hd⟩,_⟩:=hT
 have hagg:(isAgg T).run P w= .ok false w:=by
  unfold isAgg
  rw[Sem.run_bind,run_underlying hu w]
  cases d<;>simp_all
 simp [Instr.loadAt,Instr.sureAddr,loadVar,Sem.run_bind,hagg,load,Sem.run,hc]
theorem rx {w:World} {T Tc:TypeId} {row:Bool} {n b o:Nat} {v:Value} {cur:Array Value} (hT:TI P T row n) (hg:w.heap[b]? =some (.cells cur Tc (0,0))) (hv:v.cells.size=n) (hf:o+n≤cur.size) (h1:∀ c∈v.cells.toList,c.oneCell'=true):
    (storeVar T ⟨b,o,none⟩ v).run P w= .ok () (w.setRow b (cur.toList.take o++v.cells.toList++cur.toList.drop (o+n)).toArray):=by
  have hst:=run_storeCells_at P b o Tc v.cells.toList 0 cur w hg (by simp;omega) h1
  obtain⟨_,hi⟩:=hT
  cases hq:P.info? T with
  | none=>simp [hq]at hi
  | some i=>
    have hs:v.cells.size=i.size:=by simp [hq]at hi;omega
    simp only[Nat.add_zero,Array.length_toList,hv]at hst
    simp [storeVar,sizeOf,typeInfo,hq,hs,hst]
end
theorem iI {ρ:Nat→Option Place} {I:Nat→Prop} {w:World} {h:Nat} {o:Ob} (ho:Own ρ I w h o) {j:Nat} (hj:j<o.cells.length):
  ∃ p cur,ρ h=some p∧p.size=o.s∧o.cells.length≤p.cap*p.size∧p.live=true∧w.heap[p.block]? =some (.cells cur o.T (0,0))∧p.base+p.cap*p.size≤cur.size∧(o.ex=true→cur.size=p.cap*p.size)∧
   ∀ (j:Nat) x,o.cells[j]? =some x→∃ u,cur[p.base+j]? =some u∧RelA ρ I w x u:=by
 obtain⟨p,hp,hs,hl,he,hz,hx⟩:=ho
 have hn:p.live=true:=by
  rcases Bool.eq_false_or_eq_true p.live with h |h
  ·exact h
  ·rw[hz h,Nat.zero_mul]at hl;omega
 obtain⟨cur,h1,h2,h3,h4⟩:=hx hn
 exact⟨p,cur,hp,hs,hl,hn,h1,h2,h3,h4⟩
section
variable {Γ:Cx} {d:Nat} {ty:TypeId} {pos:String} {af:Array Edge} {g:Option (Nat × Bool)}
abbrev V.p (h off:Nat):V:= .b (.a (.ptr h off))
theorem ah {t T n h off:Nat} {o:Ob} {x:A} (hN:Γ.ok d) (hT:TI Γ.P T false n) (hx:o.cells[off]? =some x):
  Acts Γ ⟨some d,.load T (.tmp t),ty,pos,af,g⟩ [(.s t,.s (V.p h off)),(.o h,.o o)] [(.s d,some (.s (.b (.a x))))]:=
 Acts.pure rfl hN fun a w ρ I hf=>by
  obtain⟨p,hp,he⟩:=hf (.s t) (.s (V.p h off)) (by simp)
  have ho:Own ρ I w h o:=hf (.o h) (.o o) (by simp)
  obtain⟨p',cur,hp',_,_,_,hg,_,_,hc⟩:=iI ho (List.getElem?_eq_some_iff.1 hx).1
  rw[hp]at hp';injection hp' with hp';subst hp'
  obtain⟨u,hu,hr⟩:=hc off x hx
  refine⟨u,?_,hr⟩
  have he':a.eval (.tmp t)= .pointer (some ⟨p.block,p.base+off,none⟩):=he
  simp only[execOp,he']
  rw[Sem.run_bind,fc hT (v:=u) (by simp [World.cell?,hg,hu])]
  rfl
theorem ab {t T n h off:Nat} {o:Ob} {xs:List A} (hN:Γ.ok d) (hT:TI Γ.P T true n) (hn:xs.length=n) (hp0:0<n) (hx:(o.cells.drop off).take n=xs):
  Acts Γ ⟨some d,.load T (.tmp t),ty,pos,af,g⟩ [(.s t,.s (V.p h off)),(.o h,.o o)] [(.s d,some (.s (.b (.agg xs))))]:=
 Acts.pure rfl hN fun a w ρ I hf=>by
  obtain⟨p,hp,he⟩:=hf (.s t) (.s (V.p h off)) (by simp)
  have ho:Own ρ I w h o:=hf (.o h) (.o o) (by simp)
  have hlen:off+n≤o.cells.length:=by
   have:=congrArg List.length hx
   simp at this;omega
  obtain⟨p',cur,hp',_,hl,_,hg,hsz,_,hc⟩:=iI (j:=off) ho (by omega)
  rw[hp]at hp';injection hp' with hp';subst hp'
  have he':a.eval (.tmp t)= .pointer (some ⟨p.block,p.base+off,none⟩):=he
  have hj:∀ j,j<n→p.base+off+j<cur.size:=fun j hj=>by omega
  let cs:List Value:=(cur.toList.drop (p.base+off)).take n
  have hcl:cs.length=n:=by simp [cs];omega
  have hcg:∀ (j:Nat) v,cs[j]? =some v→cur[p.base+(off+j)]? =some v:=fun j v hv=>by
   have hjn:j<n:=by rw[←hcl];exact(List.getElem?_eq_some_iff.1 hv).1
   simp only[cs,List.getElem?_take,hjn,if_true,List.getElem?_drop,Array.getElem?_toList]at hv
   rw[←Nat.add_assoc];exact hv
  refine⟨.agg cs.toArray,?_,cs,rfl,by omega,fun j x c h1 h2=> ?_⟩
  ·obtain⟨⟨dd,hu,hd⟩,hi⟩:=hT
   simp only[execOp,he']
   rw[Sem.run_bind,run_loadAt_mid w p.block (p.base+off) T cs dd (fun j v hv=>by simp [World.cell?,hg,hcg j v hv,Nat.add_assoc]) hu hd (by rw[hi,hcl])]
   rfl
  ·have hjn:j<n:=by rw[←hn];exact(List.getElem?_eq_some_iff.1 h1).1
   have hoc:o.cells[off+j]? =some x:=by
    rw[←hx]at h1
    simpa [List.getElem?_take,hjn,List.getElem?_drop] using h1
   obtain⟨u,hu,hr⟩:=hc (off+j) x hoc
   have:=hcg j c h2
   rw[hu]at this;injection this with this
   subst this;exact hr
theorem qM {t T n s off:Nat} {xs:List Value} {v:Value} (hN:Γ.ok d) (hT:TI Γ.P T false n) (hx:xs[off]? =some v):
  Acts Γ ⟨some d,.load T (.tmp t),ty,pos,af,g⟩ [(.s t,.s (.b (.a (.ptrv s xs off))))] [(.s d,some (.s (V.v v)))]:=
 Acts.pure rfl hN fun a w ρ I hf=>by
  obtain⟨b,o,he,_,hc⟩:=hf (.s t) (.s (.b (.a (.ptrv s xs off)))) (by simp)
  refine⟨v,?_,rfl⟩
  have he':a.eval (.tmp t)= .pointer (some ⟨b,o+off,none⟩):=he
  simp only[execOp,he']
  rw[Sem.run_bind,fc hT (hc off v hx)]
  rfl
theorem oA {t T n s off:Nat} {xs vs:List Value} (hN:Γ.ok d) (hT:TI Γ.P T true n) (hn:vs.length=n) (hx:(xs.drop off).take n=vs):
  Acts Γ ⟨some d,.load T (.tmp t),ty,pos,af,g⟩ [(.s t,.s (.b (.a (.ptrv s xs off))))] [(.s d,some (.s (V.av vs)))]:=
 Acts.pure rfl hN fun a w ρ I hf=>by
  obtain⟨b,o,he,_,hc⟩:=hf (.s t) (.s (.b (.a (.ptrv s xs off)))) (by simp)
  refine⟨.agg vs.toArray,?_,kz vs⟩
  have he':a.eval (.tmp t)= .pointer (some ⟨b,o+off,none⟩):=he
  obtain⟨⟨dd,hu,hd⟩,hi⟩:=hT
  simp only[execOp,he']
  rw[Sem.run_bind,run_loadAt_mid w b (o+off) T vs dd (fun j v hv=> ?_) hu hd (by rw[hi,hn])]
  ·rfl
  ·have hjn:j<n:=by rw[←hn];exact(List.getElem?_eq_some_iff.1 hv).1
   rw[Nat.add_assoc]
   apply hc
   rw[←hx]at hv
   simpa [List.getElem?_take,hjn,List.getElem?_drop] using hv
theorem oB {t T n s k:Nat} {rows:List (Nat × List Value)} {r:Nat × List Value} (hN:Γ.ok d) (hT:TI Γ.P T false n) (hx:rows[k]? =some r):
  Acts Γ ⟨some d,.load T (.tmp t),ty,pos,af,g⟩ [(.s t,.s (.b (.a (.ptrvv s rows k))))] [(.s d,some (.s (.b (.a (.slv r.1 s r.2)))))]:=
 Acts.pure rfl hN fun a w ρ I hf=>by
  obtain⟨b,o,he,_,hc⟩:=hf (.s t) (.s (.b (.a (.ptrvv s rows k)))) (by simp)
  obtain⟨q0,A',c',q1,q2,q3⟩:=hc k r hx
  refine⟨.slice A' r.1 c',?_,q0,A',c',rfl,q2,q3⟩
  have he':a.eval (.tmp t)= .pointer (some ⟨b,o+k,none⟩):=he
  simp only[execOp,he']
  rw[Sem.run_bind,fc hT q1]
  rfl
theorem aE {t T n h off:Nat} {row:Bool} {o:Ob} {x:Operand} {b:B} {R:List (Key × Cell)} {cells:List A} (hT:TI Γ.P T row n) (hx:OpX x (.b b) R) (hn:b.cs.length=n) (hp0:0<n) (h1:∀ y∈b.cs,y.one=true)
    (hof:off+n≤o.cells.length) (hc:o.cells.take off++b.cs++o.cells.drop (off+n)=cells):
    Acts Γ ⟨none,.store T (.tmp t) x,ty,pos,af,g⟩ ((.s t,.s (V.p h off))::(.o h,.o o)::R) [(.o h,some (.o ⟨o.T,o.s,o.ex,cells⟩))]:=by
  intro σ a w ρ I hs hR K Q hK
  have hf:=fF hs hR
  obtain⟨p,hp,he⟩:=hf (.s t) (.s (V.p h off)) (by simp)
  have ho:Own ρ I w h o:=hf (.o h) (.o o) (by simp)
  have hv:RelB ρ I w b (a.eval x):=hx.rel (fun k c hk=>hf k c (by simp [hk]))
  obtain⟨p',cur,hp',hps,hl,hn0,hg,hsz,hex,hcc⟩:=iI (j:=off) ho (by omega)
  rw[hp]at hp';injection hp' with hp';subst hp'
  have h1':=h1
  obtain⟨v1,v2,v3⟩:=hv.cells h1
  have he':a.eval (.tmp t)= .pointer (some ⟨p.block,p.base+off,none⟩):=he
  have hrun:=rx (o:=p.base+off) (v:=a.eval x) hT hg (by rw[v1,hn]) (by omega) v3
  unfold Oper.wp
  simp only[execOp,he']
  rw[Sem.run_bind,Instr.storeAt,Sem.run_bind]
  simp only[Instr.sureAddr,Sem.run_pure,Result.andThen_ok]
  rw[hrun]
  show K a _
  refine hK _ _ ⟨ρ,I,?_⟩
  have hlen:cells.length=o.cells.length:=by rw[←hc];simp;omega
  have hvl:(a.eval x).cells.toList.length=n:=by rw[Array.length_toList,v1,hn]
  refine hs.write (hR (.o h,.o o) (by simp)) hp hn0 (by omega) (by simp;omega) (fun e=>by have:=hex e;simp;omega) (fun j y hj=> ?_) (fun j y hj hrw=> ?_)
  rotate_left
  · have hcell:w.cell? ⟨p.block,p.base+j,none⟩=cur[p.base+j]? :=by simp [World.cell?,hg]
    rw[hcell]
    rw[←hc]at hj
    simp only[List.getElem?_toArray]
    by_cases h1:j<off
    · rw[List.append_assoc,List.getElem?_append_left (by simp;omega),List.getElem?_take,if_pos h1]at hj
      refine⟨hj,?_⟩
      rw[List.append_assoc,List.getElem?_append_left (by simp;omega),List.getElem?_take,if_pos (by omega)];simp
    · by_cases h2:j<off+n
      · rw[List.append_assoc,List.getElem?_append_right (by simp;omega),List.getElem?_append_left (by simp;omega)]at hj
        have:=zp (h1' _ (List.mem_of_getElem? hj))
        rw[this]at hrw;cases hrw
      · rw[List.append_assoc,List.getElem?_append_right (by simp;omega),List.getElem?_append_right (by simp;omega)]at hj
        simp only[List.length_take,Nat.min_eq_left (show off≤o.cells.length by omega),List.getElem?_drop]at hj
        rw[show off+n+(j-off-b.cs.length)=j by omega]at hj
        refine⟨hj,?_⟩
        rw[List.append_assoc,List.getElem?_append_right (by simp;omega),List.getElem?_append_right (by simp;omega),List.getElem?_drop]
        have:p.base+off+n+(p.base+j-(List.take (p.base+off) cur.toList).length-(a.eval x).cells.toList.length)=p.base+j:=by simp;omega
        rw[this];simp
  have hjl:j<o.cells.length:=by rw[←hlen];exact(List.getElem?_eq_some_iff.1 hj).1
  rw[←hc]at hj
  simp only[List.getElem?_toArray]
  by_cases h1:j<off
  · rw[List.append_assoc,List.getElem?_append_left (by simp;omega),List.getElem?_take,if_pos h1]at hj
    obtain⟨u,hu,hr⟩:=hcc j y hj
    refine⟨u,?_,hr⟩
    rw[List.append_assoc,List.getElem?_append_left (by simp;omega),List.getElem?_take,if_pos (by omega)]
    simpa using hu
  · by_cases h2:j<off+n
    · rw[List.append_assoc,List.getElem?_append_right (by simp;omega),List.getElem?_append_left (by simp;omega)]at hj
      simp only[List.length_take,Nat.min_eq_left (show off≤o.cells.length by omega)]at hj
      obtain⟨c,hc1,hc2⟩:=v2 _ y hj
      refine⟨c,?_,hc2⟩
      rw[List.append_assoc,List.getElem?_append_right (by simp;omega),List.getElem?_append_left (by simp;omega)]
      have:p.base+j-(List.take (p.base+off) cur.toList).length=j-off:=by simp;omega
      rw[this];exact hc1
    · rw[List.append_assoc,List.getElem?_append_right (by simp;omega),List.getElem?_append_right (by simp;omega)]at hj
      simp only[List.length_take,Nat.min_eq_left (show off≤o.cells.length by omega),List.getElem?_drop]at hj
      rw[show off+n+(j-off-b.cs.length)=j by omega]at hj
      obtain⟨u,hu,hr⟩:=hcc j y hj
      refine⟨u,?_,hr⟩
      rw[List.append_assoc,List.getElem?_append_right (by simp;omega),List.getElem?_append_right (by simp;omega),List.getElem?_drop]
      have:p.base+off+n+(p.base+j-(List.take (p.base+off) cur.toList).length-(a.eval x).cells.toList.length)=p.base+j:=by simp;omega
      rw[this];simpa using hu
theorem yJ {T h cap s:Nat} {i:TypeInfo} {z:Value} {cells:List A} (hN:Γ.ok d) (hi:Γ.P.info? T=some i) (hz:i.zero=some z) (hc:z.cells.toList.map A.val=cells) (hcs:cells.length=cap*s) (hm:cap≤1000000):
  Acts Γ ⟨some d,.alloc T,ty,pos,af,g⟩ [(.o h,.free)] [(.s d,some (.s (V.p h 0))),(.o h,some (.o ⟨T,s,true,cells⟩))]:=by
 intro σ a w ρ I hs hR K Q hK
 have hl:z.cells.size=cells.length:=by rw[←hc];simp
 obtain⟨ρ',hρ,hx,hs'⟩:=hs.new (hR (.o h,.free) (by simp)) (cur:=z.cells) (T:=T) (cap:=cap) (s:=s) (ex:=true) (cells:=cells) (by omega) (by omega) (fun _=>by unfold maxLen;omega) (fun j y hj=>by
  rw[←hc]at hj
  simp only[List.getElem?_map]at hj
  cases hq:z.cells.toList[j]? with
  | none=>simp [hq]at hj
  | some u=>rw[hq]at hj;injection hj with hj;subst hj;exact⟨u,by simpa using hq,rfl⟩) (RowFit.no (by rw[←hc];exact pg))
 unfold Oper.wp
 have hrun:(execOp a.eval ⟨some d,.alloc T,ty,pos,af,g⟩).run Γ.P w= .ok (.value (.pointer (some ⟨w.heap.size,0,none⟩))) (w.alloc (.cells z.cells T)):=by
  simp [execOp,Instr.alloc,newVar,newRow,zeroValue,typeInfo,hi,hz,go_sem]
 rw[hrun]
 show K (a.put (some d) _) _
 exact hK _ _ ⟨ρ',I,hs'.put hN ⟨_,hx,rfl⟩⟩
theorem bo {T h:Nat} {x:Operand} {b:B} {R:List (Key × Cell)} (hN:Γ.ok d) (hx:OpX x (.b b) R) (h1:∀ y∈b.cs,y.one=true):
  Acts Γ ⟨some d,.box T x,ty,pos,af,g⟩ ((.o h,.free)::R) [(.s d,some (.s (V.p h 0))),(.o h,some (.o ⟨T,b.cs.length,true,b.cs⟩))]:=by
 intro σ a w ρ I hs hR K Q hK
 have hf:=fF hs hR
 have hv:RelB ρ I w b (a.eval x):=hx.rel (fun k c hk=>hf k c (by simp [hk]))
 obtain⟨v1,v2,v3⟩:=hv.cells h1
 obtain⟨ρ',hρ,hx,hs'⟩:=hs.new (hR (.o h,.free) (by simp)) (cur:=(a.eval x).cells) (T:=T) (cap:=1) (s:=b.cs.length) (ex:=true) (cells:=b.cs) (by omega) (by omega) (fun _=>by unfold maxLen;omega) (fun j y hj=>by
  obtain⟨c,c1,c2⟩:=v2 j y hj
  exact⟨c,by simpa using c1,c2⟩) (RowFit.no fun y hy=>zp (h1 y hy))
 unfold Oper.wp
 have hrun:(execOp a.eval ⟨some d,.box T x,ty,pos,af,g⟩).run Γ.P w= .ok (.value (.pointer (some ⟨w.heap.size,0,none⟩))) (w.alloc (.cells (a.eval x).cells T)):=by
  simp only[execOp]
  generalize a.eval x=u
  simp [Instr.box,newVar,newRow,go_sem]
 rw[hrun]
 show K (a.put (some d) _) _
 exact hK _ _ ⟨ρ',I,hs'.put hN ⟨_,hx,rfl⟩⟩
end
end Cl
end Go.Proofs.YtgmkkfdnmdohlaaGreatDoor
namespace Go.Proofs.YtgmkkfdnmdohlaaGreatDoor
namespace Cl
open Go.ChangeShapes Go.WideShapes Go.ChangeAt Go.RowKit
def bK (P:Program) (T:TypeId) (f:Nat):Option Nat:=
  match P.underlying T with
  | some (.struct fs)=>match fs[f]? with
    | some fl=>match P.info? fl.type with
      | some i=>if i.size=0 then none else some fl.offset
      | none=>none
    | none=>none
  | _=>none
theorem CF {P:Program} {T:TypeId} {f fo b o:Nat} (h:bK P T f=some fo) (w:World):(Instr.fieldAt T (.pointer (some ⟨b,o,none⟩)) f).run P w= .ok (.pointer (some ⟨b,o+fo,none⟩)) w:=by
 unfold bK at h
 split at h
 ·rename_i fs hu
  split at h
  ·rename_i fl hf
   split at h
   ·rename_i i hi
    split at h
    ·cases h
    ·rename_i hz
     injection h with h
     subst h
     simp [Instr.fieldAt,run_underlying hu,hf,Instr.sureAddr,fieldPlace,sizeOf,typeInfo,hi,hz,gh]
   ·cases h
  ·cases h
 ·cases h
theorem qD {P:Program} {t e:TypeId} {s b o n c k:Nat} {iv:Int} (hu:P.underlying t=some (.slice e)) (he:(P.info? e).map (·.size)=some s) (hk:iv=(k:Int)) (hlt:k<n) (w:World):
    (Instr.indexAt t (.slice (some ⟨b,o,none⟩) n c) (.int .i64 iv)).run P w= .ok (.pointer (some ⟨b,o+k*s,none⟩)) w:=by
  subst hk
  cases hq:P.info? e with
  | none=>simp [hq]at he
  | some i=>
    have hi:i.size=s:=by simpa [hq] using he
    simp [Instr.indexAt,run_underlying hu,asIntOf,sizeOf,typeInfo,hq,hi,hlt,gh]
theorem wC {P:Program} {t e:TypeId} {s b o n k:Nat} {iv:Int} (hu:P.underlying t=some (.array n e)) (he:(P.info? e).map (·.size)=some s) (hk:iv=(k:Int)) (hlt:k<n) (w:World):
    (Instr.indexAt t (.pointer (some ⟨b,o,none⟩)) (.int .i64 iv)).run P w= .ok (.pointer (some ⟨b,o+k*s,none⟩)) w:=by
  subst hk
  cases hq:P.info? e with
  | none=>simp [hq]at he
  | some i=>
    have hi:i.size=s:=by simpa [hq] using he
    simp [Instr.indexAt,run_underlying hu,asIntOf,Instr.sureAddr,sizeOf,typeInfo,hq,hi,hlt,gh]
section
variable {Γ:Cx} {d:Nat} {ty:TypeId} {pos:String} {af:Array Edge} {g:Option (Nat × Bool)}
theorem aq {t T f fo h off off':Nat} (hN:Γ.ok d) (hf:bK Γ.P T f=some fo) (ho:off+fo=off'):
  Acts Γ ⟨some d,.fieldAddr T (.tmp t) f,ty,pos,af,g⟩ [(.s t,.s (V.p h off))] [(.s d,some (.s (V.p h off')))]:=
 Acts.pure rfl hN fun a w ρ I hfa=>by
  subst ho
  obtain⟨p,hp,he⟩:=hfa (.s t) (.s (V.p h off)) (by simp)
  have he':a.eval (.tmp t)= .pointer (some ⟨p.block,p.base+off,none⟩):=he
  refine⟨.pointer (some ⟨p.block,p.base+off+fo,none⟩),?_,p,hp,by rw[Nat.add_assoc]⟩
  simp only[execOp,he']
  rw[Sem.run_bind,CF hf]
  rfl
theorem vN {x t e s n k:Nat} {i:Operand} {iv:Int} {xs:List Value} {R:List (Key × Cell)} (hN:Γ.ok d) (hu:Γ.P.underlying t=some (.slice e)) (he:(Γ.P.info? e).map (·.size)=some s) (hi:OpV i (.int .i64 iv) R) (hk:iv=(k:Int)) (hlt:k<n):
    Acts Γ ⟨some d,.indexAddr t (.tmp x) i,ty,pos,af,g⟩ ((.s x,.s (.b (.a (.slv n s xs))))::R) [(.s d,some (.s (.b (.a (.ptrv s xs (k*s))))))]:=
  Acts.pure rfl hN fun a w ρ I hfa=>by
    obtain⟨hl,A,c,h1,h2,h3⟩:=hfa (.s x) (.s (.b (.a (.slv n s xs)))) (by simp)
    obtain⟨b,o,rfl,hI,hc⟩:=h3 (by omega)
    have hiv:=hi.ev (fun k c hk=>hfa k c (by simp [hk]))
    have he':a.eval (.tmp x)= .slice (some ⟨b,o,none⟩) n c:=h1
    refine⟨.pointer (some ⟨b,o+k*s,none⟩),?_,b,o,rfl,hI,hc⟩
    simp only[execOp,he',hiv]
    rw[Sem.run_bind,qD hu he hk hlt]
    rfl
theorem ua {x t e s k:Nat} {i:Operand} {iv:Int} {rows:List (Nat × List Value)} {R:List (Key × Cell)} (hN:Γ.ok d) (hu:Γ.P.underlying t=some (.slice e)) (he:(Γ.P.info? e).map (·.size)=some 1) (hi:OpV i (.int .i64 iv) R) (hk:iv=(k:Int)) (hlt:k<rows.length):
    Acts Γ ⟨some d,.indexAddr t (.tmp x) i,ty,pos,af,g⟩ ((.s x,.s (.b (.a (.slvv s rows))))::R) [(.s d,some (.s (.b (.a (.ptrvv s rows k)))))]:=
  Acts.pure rfl hN fun a w ρ I hfa=>by
    obtain⟨A,c,h1,h2,h3⟩:=hfa (.s x) (.s (.b (.a (.slvv s rows)))) (by simp)
    obtain⟨b,o,rfl,hI,hc⟩:=h3 (by omega)
    have hiv:=hi.ev (fun k c hk=>hfa k c (by simp [hk]))
    have he':a.eval (.tmp x)= .slice (some ⟨b,o,none⟩) rows.length c:=h1
    refine⟨.pointer (some ⟨b,o+k,none⟩),?_,b,o,rfl,hI,hc⟩
    simp only[execOp,he',hiv]
    rw[Sem.run_bind,qD hu he hk hlt,Nat.mul_one]
    rfl
theorem jR {x t e h off n k off':Nat} {i:Operand} {iv:Int} {o:Ob} {R:List (Key × Cell)} (hN:Γ.ok d) (hu:Γ.P.underlying t=some (.slice e)) (he:(Γ.P.info? e).map (·.size)=some o.s) (hi:OpV i (.int .i64 iv) R) (hk:iv=(k:Int)) (hlt:k<n) (ho:off*o.s+k*o.s=off'):
    Acts Γ ⟨some d,.indexAddr t (.tmp x) i,ty,pos,af,g⟩ ((.s x,.s (.b (.a (.sl h off n))))::(.o h,.o o)::R) [(.s d,some (.s (V.p h off')))]:=
  Acts.pure rfl hN fun a w ρ I hfa=>by
    obtain⟨p,A,hp,h1,h2,h3⟩:=hfa (.s x) (.s (.b (.a (.sl h off n)))) (by simp)
    obtain⟨p',hp',hs,_,_,hz,_⟩:Own ρ I w h o:=hfa (.o h) (.o o) (by simp)
    rw[hp]at hp';injection hp' with hp';subst hp'
    have hlv:p.live=true:=by
      rcases Bool.eq_false_or_eq_true p.live with h |h
      · exact h
      · have:=hz h;omega
    have h3':=h3 (.inr (by omega))
    rw[hlv,if_pos rfl]at h3'
    subst h3'
    have hiv:=hi.ev (fun k c hk=>hfa k c (by simp [hk]))
    have he':a.eval (.tmp x)= .slice (some ⟨p.block,p.base+off*p.size,none⟩) n (p.cap-off):=h1
    refine⟨.pointer (some ⟨p.block,p.base+off*p.size+k*o.s,none⟩),?_,p,hp,by rw[←ho,hs,Nat.add_assoc]⟩
    simp only[execOp,he',hiv]
    rw[Sem.run_bind,qD hu he hk hlt]
    rfl
theorem bw {x t e s h off n k off':Nat} {i:Operand} {iv:Int} {R:List (Key × Cell)} (hN:Γ.ok d) (hu:Γ.P.underlying t=some (.array n e)) (he:(Γ.P.info? e).map (·.size)=some s) (hi:OpV i (.int .i64 iv) R) (hk:iv=(k:Int)) (hlt:k<n) (ho:off+k*s=off'):
    Acts Γ ⟨some d,.indexAddr t (.tmp x) i,ty,pos,af,g⟩ ((.s x,.s (V.p h off))::R) [(.s d,some (.s (V.p h off')))]:=
  Acts.pure rfl hN fun a w ρ I hfa=>by
    obtain⟨p,hp,h1⟩:=hfa (.s x) (.s (V.p h off)) (by simp)
    have hiv:=hi.ev (fun k c hk=>hfa k c (by simp [hk]))
    have he':a.eval (.tmp x)= .pointer (some ⟨p.block,p.base+off,none⟩):=h1
    refine⟨.pointer (some ⟨p.block,p.base+off+k*s,none⟩),?_,p,hp,by rw[←ho,Nat.add_assoc]⟩
    simp only[execOp,he',hiv]
    rw[Sem.run_bind,wC hu he hk hlt]
    rfl
inductive LenOf:A→Nat→Prop
 | sl (h off n:Nat):LenOf (.sl h off n) n
 | slv (n s:Nat) (xs:List Value):LenOf (.slv n s xs) n
 | slvv (s:Nat) (rows:List (Nat × List Value)):LenOf (.slvv s rows) rows.length
 | nil (n c:Nat):LenOf (.val (.slice none n c)) n
theorem LenOf.val {x:A} {n:Nat} (h:LenOf x n) {ρ:Nat→Option Place} {I:Nat→Prop} {w:World} {u:Value} (hr:RelA ρ I w x u):∃ A c,u= .slice A n c:=by
 cases h with
 | sl h off n=>obtain⟨p,A,_,e,_⟩:=hr;exact⟨A,_,e⟩
 | slv n s xs=>obtain⟨_,A,c,e,_⟩:=hr;exact⟨A,c,e⟩
 | slvv s rows=>obtain⟨A,c,e,_⟩:=hr;exact⟨A,c,e⟩
 | nil n c=>exact⟨none,c,hr⟩
theorem oz {x:Operand} {X:A} {t e n:Nat} {iv:Int} {R:List (Key × Cell)} (hN:Γ.ok d) (hu:Γ.P.underlying t=some (.slice e)) (hx:OpX x (.b (.a X)) R) (hl:LenOf X n) (hi:(n:Int)=iv):
  Acts Γ ⟨some d,.call { callee:= .builtin .len,args:= #[x],argTypes:= #[t] },ty,pos,af,g⟩ R [(.s d,some (.s (V.v (.int .i64 iv))))]:=
 Acts.pure rfl hN fun a w ρ I hfa=>by
  subst hi
  obtain⟨A,c,he⟩:=hl.val (hx.rel hfa)
  refine⟨_,?_,rfl⟩
  have hrun:(Builtin.len_ #[t] ty #[a.eval x]).run Γ.P w= .ok (.int .i64 n) w:=by
   rw[he];simp [Builtin.len_,run_underlying hu,goInt]
  simp only[execOp,resolve]
  simp only[List.map_toArray,List.map_cons,List.map_nil]
  simp only[Sem.run_bind,Sem.run_pure,Result.andThen_ok,invoke,builtin,hrun]
end
end Cl
end Go.Proofs.YtgmkkfdnmdohlaaGreatDoor
namespace Go.Proofs.YtgmkkfdnmdohlaaGreatDoor
namespace Cl
open Go.ChangeShapes Go.WideShapes Go.ChangeAt Go.RowKit
def pl (xs:List Value):List A:=xs.map A.val
theorem iy (xs:List Value):(pl xs).length=xs.length:=by simp [pl]
theorem uR (xs ys:List Value):pl (xs++ys)=pl xs++pl ys:=by simp [pl]
theorem jY {xs:List Value} {j:Nat} {v:Value} (h:xs[j]? =some v):(pl xs)[j]? =some (.val v):=by simp [pl,h]
theorem ph (xs:List Value) (i n:Nat):((pl xs).drop i).take n=pl ((xs.drop i).take n):=by simp [pl]
theorem EN {xs:List Value} (h:∀ v∈xs,v.oneCell'=true):∀ y∈pl xs,y.one=true:=by
 intro y hy
 simp only[pl,List.mem_map]at hy
 obtain⟨v,hv,rfl⟩:=hy
 exact h v hv
theorem wh (l:List Int):∀ v∈isl l,v.oneCell'=true:=by
 intro v hv;simp only[isl,List.mem_map]at hv;obtain⟨z,_,rfl⟩:=hv;rfl
theorem kg (l:List Dom):∀ v∈dsl l,v.oneCell'=true:=by
 intro v hv;simp only[dsl,List.mem_flatMap]at hv;obtain⟨z,_,hz⟩:=hv
 simp [Dom.cs]at hz;rcases hz with rfl |rfl |rfl<;>rfl
theorem Dv (l:List Cel):∀ v∈csl l,v.oneCell'=true:=by
 intro v hv;simp only[csl,List.mem_flatMap]at hv;obtain⟨z,_,hz⟩:=hv
 simp [Cel.cs]at hz;rcases hz with rfl |rfl<;>rfl
inductive OpB:Option Operand→Nat→Nat→List (Key × Cell)→Prop
 | no (n:Nat):OpB none n n []
 | so {x:Operand} {R:List (Key × Cell)} {k:IntKind} {iv:Int} (n l:Nat) (h:OpV x (.int k iv) R) (e:iv=(l:Int)):OpB (some x) n l R
theorem OpB.bound {lo hi:Option Operand} {n cap l h:Nat} {R R':List (Key × Cell)} (hl:OpB lo 0 l R) (hh:OpB hi n h R') (h1:l≤h) (h2:h≤cap) {a:Act} {w:World} {ρ:Nat→Option Place} {I:Nat→Prop} (hf:Facts R a w ρ I) (hf':Facts R' a w ρ I) {P:Program} (b:Bool):
    (Instr.sliceBounds b n cap (lo.map a.eval) (hi.map a.eval) none).run P w= .ok (l,h,cap) w:=by
  cases hl with
  | no=>
    cases hh with
    | no=>simp [Instr.sliceBounds,go_sem]
    | so _ _ hx e=>subst e;simp only[Option.map_some,hx.ev hf',Option.map_none];simp [Instr.sliceBounds,Instr.sliceBound,asIntOf,go_sem,h2]
  | so _ _ hx e=>
    subst e
    cases hh with
    | no=>simp only[Option.map_some,hx.ev hf,Option.map_none];simp [Instr.sliceBounds,Instr.sliceBound,asIntOf,go_sem,h1]
    | so _ _ hx' e'=>subst e';simp only[Option.map_some,hx.ev hf,hx'.ev hf'];simp [Instr.sliceBounds,Instr.sliceBound,asIntOf,go_sem,h1,h2]
theorem tE {P:Program} {t e s n c l h:Nat} {A:Option Addr} {lo hi:Option Value} (hu:P.underlying t=some (.slice e)) (he:(P.info? e).map (·.size)=some s) {w:World}
    (hb:(Instr.sliceBounds true n c lo hi none).run P w= .ok (l,h,c) w):(Instr.sliceAt t (.slice A n c) lo hi none).run P w= .ok (.slice (if c=l then A else A.map (·.add (l*s))) (h-l) (c-l)) w:=by
  cases hq:P.info? e with
  | none=>simp [hq]at he
  | some i=>
    have hi:i.size=s:=by simpa [hq] using he
    simp only[Instr.sliceAt,Sem.run_bind,run_underlying hu,Result.andThen_ok]
    simp only[Instr.slice,Sem.run_bind,run_underlying hu,Result.andThen_ok,hb]
    simp [sizeOf,typeInfo,hq,hi]
section
variable {Γ:Cx} {d:Nat} {ty:TypeId} {pos:String} {af:Array Edge} {g:Option (Nat × Bool)}
theorem ub {x t e h0 off n l h m off':Nat} {lo hi:Option Operand} {o:Ob} {R R':List (Key × Cell)} (hN:Γ.ok d) (hu:Γ.P.underlying t=some (.slice e)) (he:(Γ.P.info? e).map (·.size)=some o.s)
    (hl:OpB lo 0 l R) (hh:OpB hi n h R') (h1:l≤h) (h2:h≤n) (hm:h-l=m) (ho:off+l=off'):
    Acts Γ ⟨some d,.slice t (.tmp x) lo hi none,ty,pos,af,g⟩ ((.s x,.s (.b (.a (.sl h0 off n))))::(.o h0,.o o)::(R++R')) [(.s d,some (.s (.b (.a (.sl h0 off' m)))))]:=
  Acts.pure rfl hN fun a w ρ I hfa=>by
    obtain⟨p,A,hp,e1,e2,e3⟩:=hfa (.s x) (.s (.b (.a (.sl h0 off n)))) (by simp)
    obtain⟨p',hp',hs,_,_,hz,_⟩:Own ρ I w h0 o:=hfa (.o h0) (.o o) (by simp)
    rw[hp]at hp';injection hp' with hp';subst hp'
    have hb:=OpB.bound hl hh h1 (show h≤p.cap-off by omega) (fun k c hk=>hfa k c (by simp [hk])) (fun k c hk=>hfa k c (by simp [hk])) (P:=Γ.P) true
    have he':a.eval (.tmp x)= .slice A n (p.cap-off):=e1
    refine⟨.slice (if p.cap-off=l then A else A.map (·.add (l*o.s))) (h-l) (p.cap-off-l),?_,?_⟩
    · simp only[execOp,he',Option.map_none]
      rw[Sem.run_bind,tE hu he hb]
      rfl
    · subst hm;subst ho
      refine⟨p,_,hp,by rw[Nat.sub_sub],by omega,fun hne=> ?_⟩
      rcases hne with⟨hx,h0'⟩ |hne
      · have h0:off=0:=by omega
        have h00:l=0:=by omega
        subst h0;subst h00
        have h3:=e3 (.inl ⟨hx,rfl⟩)
        by_cases hc0:p.cap-0=0
        · rw[if_pos hc0,h3]
        · rw[if_neg hc0,h3]
          rcases Bool.eq_false_or_eq_true p.live with h |h<;>simp [h,gh]
      · have hc0:p.cap-off≠0:=by omega
        have hne':¬p.cap-off=l:=by omega
        have hlv:p.live=true:=by
          rcases Bool.eq_false_or_eq_true p.live with h |h
          · exact h
          · have:=hz h;omega
        rw[if_neg hne',e3 (.inr hc0),hlv]
        simp [gh,hs,Nat.add_mul,Nat.add_assoc]
theorem Bp {t e h n s:Nat} {i:TypeInfo} {z:Value} {x y:Operand} {iv iv':Int} {xs:List Value} {R R':List (Key × Cell)} (hN:Γ.ok d) (hu:Γ.P.underlying t=some (.slice e)) (hi:Γ.P.info? e=some i) (hz:i.zero=some z) (hs:i.size=s)
  (hx:OpV x (.int .i64 iv) R) (hy:OpV y (.int .i64 iv') R') (e1:iv=(n:Int)) (e2:iv'=(n:Int)) (hb:i.bytes*n≤281474976710656) (hm:n≤maxLen) (hxs:(madeCells z.cells (n*s)).toList=xs):
  Acts Γ ⟨some d,.makeSlice t x y,ty,pos,af,g⟩ ((.o h,.free)::(R++R')) [(.s d,some (.s (.b (.a (.sl h 0 n))))),(.o h,some (.o ⟨e,s,true,pl xs⟩))]:=by
 intro σ a w ρ I hs' hR K Q hK
 have hf:=fF hs' hR
 subst e1;subst hs
 have hvx:=hx.ev (fun k c hk=>hf k c (by simp [hk]))
 have hvy:=hy.ev (fun k c hk=>hf k c (by simp [hk]))
 have hsz:(madeCells z.cells (n*i.size)).size=n*i.size:=size_madeCells _ _
 obtain⟨ρ',hρ,hx',hs2⟩:=hs'.new (hR (.o h,.free) (by simp)) (cur:=madeCells z.cells (n*i.size)) (T:=e) (cap:=n) (s:=i.size) (ex:=true) (cells:=pl xs) hsz (by rw[iy,←hxs];simp [hsz]) (fun _=>hm) (fun j y hj=>by
  rw[←hxs]at hj
  simp only[pl,List.getElem?_map]at hj
  cases hq:(madeCells z.cells (n*i.size)).toList[j]? with
  | none=>simp [hq]at hj
  | some u=>rw[hq]at hj;injection hj with hj;subst hj;exact⟨u,by simpa using hq,rfl⟩) (RowFit.no pg)
 have hrun:=CG t e i z hu hi hz n hb hm w
 unfold Oper.wp
 simp only[execOp,hvx,hvy,e2]
 rw[Sem.run_bind,hrun]
 show K (a.put (some d) _) _
 exact hK _ _ ⟨ρ',I,hs2.put (V:= .b (.a (.sl h 0 n))) hN ⟨_,some ⟨w.heap.size,0,none⟩,hx',rfl,by simp,fun _=>by simp⟩⟩
inductive OpVs:List (Nat × Operand)→List (Nat × Value)→List (Key × Cell)→Prop
 | nil:OpVs [] [] []
 | cons {i:Nat} {x:Operand} {v:Value} {R R':List (Key × Cell)} {ps:List (Nat × Operand)} {vs:List (Nat × Value)} (h:OpV x v R) (hs:OpVs ps vs R'):OpVs ((i,x)::ps) ((i,v)::vs) (R++R')
theorem OpVs.ev {ps:List (Nat × Operand)} {vs:List (Nat × Value)} {R:List (Key × Cell)} (h:OpVs ps vs R) {a:Act} {w:World} {ρ:Nat→Option Place} {I:Nat→Prop} (hf:Facts R a w ρ I):(ps.map fun(i,x)=>(i,a.eval x))=vs:=by
 induction h with
 | nil=>rfl
 | cons h hs ih=>simp only[List.map_cons];rw[h.ev hf.left,ih hf.right]
theorem kK {t:TypeId} {ps:List (Nat × Operand)} {vs:List (Nat × Value)} {cells:List Value} {R:List (Key × Cell)} (hN:Γ.ok d) (hv:OpVs ps vs R) (hb:Γ.P.built t vs=some cells.toArray):
  Acts Γ ⟨some d,.build t ps.toArray,ty,pos,af,g⟩ R [(.s d,some (.s (V.av cells)))]:=
 Acts.pure rfl hN fun a w ρ I hfa=>by
  refine⟨.agg cells.toArray,?_,kz cells⟩
  have he:=hv.ev hfa
  simp only[execOp,List.map_toArray,he]
  rw[Sem.run_bind,run_build w t vs.toArray cells.toArray (by simpa using hb)]
  rfl
theorem ri {t e h n s:Nat} {i:TypeInfo} {z:Value} {ps:List (Nat × Operand)} {vs:List (Nat × Value)} {xs:List Value} {R:List (Key × Cell)} (hN:Γ.ok d) (hu:Γ.P.underlying t=some (.slice e)) (hi:Γ.P.info? e=some i) (hz:i.zero=some z) (hs:i.size=s)
    (hv:OpVs ps vs R) (hpos:0<n*s) (hsm:n*s≤1000) (hf:Instr.fill (fun i=>some (i*s,s)) ((Array.range (n*s)).map (z.cells[· %z.cells.size]!)) vs=some xs.toArray) (hl:xs.length=n*s):
    Acts Γ ⟨some d,.buildSlice t n ps.toArray,ty,pos,af,g⟩ ((.o h,.free)::R) [(.s d,some (.s (.b (.a (.sl h 0 n))))),(.o h,some (.o ⟨e,s,true,pl xs⟩))]:=by
  intro σ a w ρ I hs' hR K Q hK
  have hfa:=fF hs' hR
  subst hs
  have he:=hv.ev (fun k c hk=>hfa k c (by simp [hk]))
  have hn:n≤1000:=by
    rcases Nat.eq_zero_or_pos i.size with h0 |h0
    · rw[h0]at hpos;omega
    · exact Nat.le_trans (Nat.le_mul_of_pos_right n h0) hsm
  obtain⟨ρ',hρ,hx',hs2⟩:=hs'.new (hR (.o h,.free) (by simp)) (cur:=xs.toArray) (T:=e) (cap:=n) (s:=i.size) (ex:=true) (cells:=pl xs) (by simpa using hl) (by rw[iy];omega) (fun _=>by unfold maxLen;omega) (fun j y hj=>by
    simp only[pl,List.getElem?_map]at hj
    cases hq:xs[j]? with
    | none=>simp [hq]at hj
    | some u=>rw[hq]at hj;injection hj with hj;subst hj;exact⟨u,by simpa using hq,rfl⟩) (RowFit.no pg)
  have hrun:=run_buildSlice w t e n vs.toArray xs.toArray i z hu hi hz (by omega) (by omega) (by simpa using hf)
  unfold Oper.wp
  simp only[execOp,List.map_toArray,he]
  rw[Sem.run_bind,hrun]
  show K (a.put (some d) _) _
  exact hK _ _ ⟨ρ',I,hs2.put (V:= .b (.a (.sl h 0 n))) hN ⟨_,some ⟨w.heap.size,0,none⟩,hx',rfl,by simp,fun _=>by simp⟩⟩
theorem pM {t e h s:Nat} {i:TypeInfo} (hN:Γ.ok d) (hu:Γ.P.underlying t=some (.slice e)) (hi:Γ.P.info? e=some i) (hs:i.size=s):
  Acts Γ ⟨some d,.buildSlice t 0 #[],ty,pos,af,g⟩ [(.o h,.free)] [(.s d,some (.s (.b (.a (.sl h 0 0))))),(.o h,some (.o ⟨e,s,true,pl []⟩))]:=by
 intro σ a w ρ I hs' hR K Q hK
 obtain⟨ρ',hρ,hx',hs2⟩:=hs'.new (hR (.o h,.free) (by simp)) (cur:= #[]) (T:=e) (cap:=0) (s:=s) (ex:=true) (cells:=pl []) (by simp) (by simp [pl]) (fun _=>by unfold maxLen;omega) (fun j y hj=>by simp [pl]at hj) (RowFit.no pg)
 have hrun:(Instr.buildSlice t 0 #[]).run Γ.P w= .ok (.slice (some ⟨w.heap.size,0,none⟩) 0 0) (w.alloc (.cells #[] e)):=by
  simp [Instr.buildSlice,run_underlying hu,sizeOf,typeInfo,hi,Instr.fill,newRow,go_sem]
 unfold Oper.wp
 simp only[execOp,List.map_toArray,List.map_nil]
 rw[Sem.run_bind,hrun]
 show K (a.put (some d) _) _
 exact hK _ _ ⟨ρ',I,hs2.put (V:= .b (.a (.sl h 0 0))) hN ⟨_,some ⟨w.heap.size,0,none⟩,hx',rfl,by simp,fun hne=>by simp⟩⟩
end
end Cl
end Go.Proofs.YtgmkkfdnmdohlaaGreatDoor
namespace Go.Proofs.YtgmkkfdnmdohlaaGreatDoor
namespace Cl
open Go.ChangeShapes Go.WideShapes Go.ChangeAt Go.RowKit
def RdS (w:World) (s:Nat) (A:Option Addr) (n:Nat) (us:List Value):Prop:=
 us.length=n*s∧(n=0∨∃ a,A=some a∧∀ (j:Nat) v,us[j]? =some v→w.cell? (a.add j)=some v)
theorem RdS.first {w:World} {s n c:Nat} {A:Option Addr} {us:List Value} (h:RdS w s A n us) {P:Program}:(Builtin.firstCells s n (.slice A n c)).run P w= .ok us.toArray w:=by
 obtain⟨hl,hr⟩:=h
 rcases hr with rfl |⟨a,rfl,hc⟩
 ·have:us=[]:=List.eq_nil_of_length_eq_zero (by simpa using hl)
  subst this
  cases A<;>simp [Builtin.firstCells,loadCells,loadCellsFrom,go_sem]
 ·exact run_firstCells_some (P:=P) w s n a n c us hl hc
theorem qC {P:Program} {w:World} {t ty e:TypeId} {i:TypeInfo} {z:Value} (ht:P.underlying t=some (.slice e)) (hi:P.info? e=some i) (hz:i.zero=some z)
  {A B:Option Addr} {n c m c':Nat} {olds news:List Value} (ho:RdS w i.size A n olds) (hn:RdS w i.size B m news) (hg:c<n+m) (h63:((n+m:Nat):Int)≤9223372036854775807) (hfit:Builtin.nextslicecap (n+m) c*i.bytes≤281474976710656):
  (Builtin.append_ #[t,t] ty #[.slice A n c,.slice B m c']).run P w=
   .ok (.slice (some ⟨w.heap.size,0,none⟩) (n+m) (grownCap w (n+m) c e)) (w.drew.alloc (.cells (olds++news++(Builtin.zeroCells z.cells (grownCap w (n+m) c e-(n+m))).toList).toArray e)):=by
 have hn':¬(n+m≤c):=by omega
 have h63':¬(9223372036854775807<((n:Int)+(m:Int))):=by omega
 have h48':¬(281474976710656<Builtin.nextslicecap (n+m) c*i.bytes):=by omega
 have hf:=RdS.first (w:=w.drew) (c:=c') hn (P:=P)
 have hfo:=RdS.first (w:=w.drew) (c:=c) ho (P:=P)
 simp [Builtin.append_,run_underlying ht,sizeOf,typeInfo,zeroValue,hi,hz,Builtin.lenOf,hn',h63',h48',Question.forced,hf,hfo,newRow,grownCap]
 congr 2
 apply Array.ext'
 simp
theorem ug {P:Program} {w:World} {t ty e:TypeId} {i:TypeInfo} (ht:P.underlying t=some (.slice e)) (hi:P.info? e=some i)
  {b o n c m c':Nat} {B:Option Addr} {news:List Value} {cur:Array Value} {T:TypeId} (hg:w.heap[b]? =some (.cells cur T (0,0))) (hn:RdS w i.size B m news) (h1:∀ u∈news,u.oneCell'=true) (hroom:n+m≤c) (hfit:o+n*i.size+news.length≤cur.size):
  (Builtin.append_ #[t,t] ty #[.slice (some ⟨b,o,none⟩) n c,.slice B m c']).run P w=
   .ok (.slice (some ⟨b,o,none⟩) (n+m) c) (w.setRow b (cur.toList.take (o+n*i.size)++news++cur.toList.drop (o+n*i.size+news.length)).toArray):=by
 have hf:=hn.first (c:=c') (P:=P)
 have hst:=run_storeCells_at P b (o+n*i.size) T news 0 cur w hg (by simpa using hfit) h1
 simp only[Nat.add_zero]at hst
 simp [Builtin.append_,run_underlying ht,sizeOf,typeInfo,hi,Builtin.lenOf,hroom,hf,gh,hst]
theorem ru {P:Program} {w:World} {t ty e:TypeId} {i:TypeInfo} (ht:P.underlying t=some (.slice e)) (hi:P.info? e=some i) {A B:Option Addr} {c':Nat}:
  (Builtin.append_ #[t,t] ty #[.slice A 0 0,.slice B 0 c']).run P w= .ok (.slice A 0 0) w:=by
 cases A<;>cases B<;>simp [Builtin.append_,run_underlying ht,sizeOf,typeInfo,hi,Builtin.lenOf,Builtin.firstCells,loadCells,loadCellsFrom,storeCells,go_sem]
inductive Src:A→List (Key × Cell)→Nat→Nat→List A→Prop
 | slv (m s:Nat) (xs:List Value):Src (.slv m s xs) [] s m (pl xs)
 | sl (h off m:Nat) (o:Ob) (ys:List A) (hl:off*o.s+m*o.s≤o.cells.length) (hy:(o.cells.drop (off*o.s)).take (m*o.s)=ys):Src (.sl h off m) [(.o h,.o o)] o.s m ys
 | nil (s:Nat):Src (.val (.slice none 0 0)) [] s 0 []
 | slvv (s:Nat) (rows:List (Nat × List Value)):Src (.slvv s rows) [] 1 rows.length (rows.map fun r=>A.slv r.1 s r.2)
theorem Src.read {X:A} {R:List (Key × Cell)} {s m:Nat} {ys:List A} (h:Src X R s m ys) {a:Act} {w:World} {ρ:Nat→Option Place} {I:Nat→Prop} (hf:Facts R a w ρ I) {u:Value} (hr:RelA ρ I w X u):
    ∃ B c us,u= .slice B m c∧RdS w s B m us∧ys.length=m*s∧∀ (j:Nat) y,ys[j]? =some y→∃ v,us[j]? =some v∧RelA ρ I w y v:=by
  cases h with
  | slv m s xs=>
    obtain⟨hl,A,c,rfl,_,h3⟩:=hr
    refine⟨A,c,xs,rfl,⟨hl,?_⟩,by rw[iy,hl],fun j y hj=> ?_⟩
    · rcases Nat.eq_zero_or_pos m with h0 |h0
      · exact .inl h0
      · obtain⟨g,o,rfl,_,hc⟩:=h3 h0
        exact .inr ⟨_,rfl,fun j v hv=>by rw[gh];exact hc j v hv⟩
    · simp only[pl,List.getElem?_map]at hj
      cases hq:xs[j]? with
      | none=>simp [hq]at hj
      | some v=>rw[hq]at hj;injection hj with hj;subst hj;exact⟨v,rfl,rfl⟩
  | nil s=>
    have e:u= .slice none 0 0:=hr
    subst e
    exact⟨none,0,[],rfl,⟨by simp,.inl rfl⟩,by simp,fun j y hj=>by simp at hj⟩
  | slvv s rows=>
    obtain⟨A,c,rfl,_,h3⟩:=hr
    rcases Nat.eq_zero_or_pos rows.length with h0 |h0
    · have e:rows=[]:=List.eq_nil_of_length_eq_zero h0
      subst e
      exact⟨A,c,[],rfl,⟨by simp,.inl rfl⟩,by simp,fun j y hj=>by simp at hj⟩
    · obtain⟨g,o,rfl,hg,hc⟩:=h3 h0
      let us:List Value:=(List.range rows.length).map fun j=>(w.cell? ⟨g,o+j,none⟩).getD undef
      have hus:∀ (j:Nat) r,rows[j]? =some r→∃ v,us[j]? =some v∧w.cell? ⟨g,o+j,none⟩=some v∧RelA ρ I w (.slv r.1 s r.2) v:=fun j r hj=>by
        obtain⟨q1,A',c',q2,q3,q4⟩:=hc j r hj
        have hjl:j<rows.length:=(List.getElem?_eq_some_iff.1 hj).1
        refine⟨.slice A' r.1 c',?_,q2,q1,A',c',rfl,q3,q4⟩
        simp only[us,List.getElem?_map,List.getElem?_range hjl,Option.map_some,q2,Option.getD_some]
      refine⟨_,c,us,rfl,⟨by simp [us],.inr ⟨_,rfl,fun j v hv=> ?_⟩⟩,by simp,fun j y hj=> ?_⟩
      · have hjl:j<rows.length:=by have:=(List.getElem?_eq_some_iff.1 hv).1;simpa [us] using this
        obtain⟨v',e1,e2,_⟩:=hus j rows[j] (by simp)
        rw[e1]at hv;injection hv with hv;subst hv
        rw[gh];exact e2
      · rw[List.getElem?_map]at hj
        cases hq:rows[j]? with
        | none=>rw[hq]at hj;simp at hj
        | some r=>
          rw[hq]at hj;simp at hj;subst hj
          obtain⟨v,e1,_,e3⟩:=hus j r hq
          exact⟨v,e1,e3⟩
  | sl h off m o ys hl hy=>
    obtain⟨p,A,hp,rfl,h2,h3⟩:=hr
    have ho:Own ρ I w h o:=hf (.o h) (.o o) (by simp)
    have hyl:ys.length=m*o.s:=by rw[←hy];simp;omega
    rcases Nat.eq_zero_or_pos (m*o.s)with h0 |h0
    · have hy0:ys=[]:=List.eq_nil_of_length_eq_zero (by omega)
      subst hy0
      rcases Nat.eq_zero_or_pos m with hm |hm
      · exact⟨A,_,[],rfl,⟨by simp [hm],.inl hm⟩,by omega,fun j y hj=>by simp at hj⟩
      · have h3':=h3 (.inr (by omega))
        obtain⟨p',hp',_,_,_,hz,_⟩:=ho
        rw[hp]at hp';injection hp' with hp';subst hp'
        have hlv:p.live=true:=by
          rcases Bool.eq_false_or_eq_true p.live with h |h
          · exact h
          · have:=hz h;omega
        rw[hlv,if_pos rfl]at h3'
        subst h3'
        exact⟨_,_,[],rfl,⟨by simp [h0],.inr ⟨_,rfl,fun j v hv=>by simp at hv⟩⟩,by omega,fun j y hj=>by simp at hj⟩
    · obtain⟨p',cur,hp',hs,hcl,hn0,hg,hsz,_,hc⟩:=iI (j:=off*o.s) ho (by omega)
      rw[hp]at hp';injection hp' with hp';subst hp'
      have hm0:m≠0:=fun e=>by rw[e]at h0;simp at h0
      have h3':=h3 (.inr (by omega))
      rw[hn0,if_pos rfl]at h3'
      subst h3'
      let us:List Value:=(cur.toList.drop (p.base+off*p.size)).take (m*o.s)
      have hul:us.length=m*o.s:=by simp [us];rw[hs]at hcl hsz⊢;omega
      have hug:∀ (j:Nat) v,us[j]? =some v→cur[p.base+off*p.size+j]? =some v:=fun j v hv=>by
        have hjn:j<m*o.s:=by rw[←hul];exact(List.getElem?_eq_some_iff.1 hv).1
        simpa [us,List.getElem?_take,hjn,List.getElem?_drop] using hv
      refine⟨_,_,us,rfl,⟨hul,.inr ⟨_,rfl,fun j v hv=> ?_⟩⟩,hyl,fun j y hj=> ?_⟩
      · rw[gh];simp [World.cell?,hg,hug j v hv]
      · have hjn:j<m*o.s:=by rw[←hyl];exact(List.getElem?_eq_some_iff.1 hj).1
        have hoc:o.cells[off*o.s+j]? =some y:=by rw[←hy]at hj;simpa [List.getElem?_take,hjn,List.getElem?_drop] using hj
        obtain⟨v,hv,hrv⟩:=hc _ y hoc
        have hju:j<us.length:=by omega
        refine⟨us[j],by simp,?_⟩
        have h5:=hug j us[j] (by simp)
        rw[hs,Nat.add_assoc,hv]at h5
        injection h5 with h5
        rw[←h5];exact hrv
section
variable {Γ:Cx} {d:Nat} {ty:TypeId} {pos:String} {af:Array Edge} {g:Option (Nat × Bool)}
theorem jD {x h off n h2 m t e:Nat} {i:TypeInfo} {z:Value} {y:Operand} {o:Ob} {X:A} {R R':List (Key × Cell)} {xs ys zs:List A} {ex:Bool} (hN:Γ.ok d) (ht:Γ.P.underlying t=some (.slice e)) (hi:Γ.P.info? e=some i) (hz:i.zero=some z) (hzs:z.cells.size=i.size) (hs:i.size=o.s) (hsz:0<o.s) (hT:o.T=e)
    (hol:off*o.s+n*o.s≤o.cells.length) (hxs:(o.cells.drop (off*o.s)).take (n*o.s)=xs) (hex:ex=true→o.ex=true∧off=0)
    (hy:OpX y (.b (.a X)) R) (hsrc:Src X R' o.s m ys) (h1:∀ y∈ys,y.one=true) (h63:n+m≤maxLen) (hby:(n+m)*i.bytes≤140737488355328) (hzs':xs++ys=zs):
    Acts Γ ⟨some d,.call { callee:= .builtin .append,args:= #[.tmp x,y],argTypes:= #[t,t] },ty,pos,af,g⟩ ((.s x,.s (.b (.a (.sl h off n))))::(.o h,.o o)::(.o h2,.free)::(R++R'))
      [(.s d,some (.s (.b (.a (.sl h2 0 (n+m)))))),(.o h2,some (.o ⟨o.T,o.s,ex,zs⟩)),(.o h,none)]:=by
  intro σ a w ρ I hs' hR K Q hK
  have hf:=fF hs' hR
  obtain⟨p,A,hp,e1,e2,e3⟩:=hf (.s x) (.s (.b (.a (.sl h off n)))) (by simp)
  have ho:Own ρ I w h o:=hf (.o h) (.o o) (by simp)
  have hrX:RelA ρ I w X (a.eval y):=hy.rel (fun k c hk=>hf k c (by simp [hk]))
  obtain⟨B,c',us,eu,hus,hyl,hyr⟩:=hsrc.read (fun k c hk=>hf k c (by simp [hk])) hrX
  have hx0:=Src.read (.sl h off n o xs hol hxs) (a:=a) (w:=w) (ρ:=ρ) (I:=I) (fun k c hk=>by simp at hk;obtain⟨rfl,rfl⟩:=hk;exact ho) (u:=a.eval (.tmp x)) ⟨p,A,hp,e1,e2,e3⟩
  obtain⟨A0,c0,os,eo,hos,hxl,hxr⟩:=hx0
  have hev:a.eval (.tmp x)= .slice A n (p.cap-off):=e1
  rw[hev]at eo;injection eo with eo1 eo2 eo3
  subst eo1;subst eo3
  obtain⟨pp,hpp,hps,hpl,hpe,hpz,hpx⟩:=ho
  rw[hp]at hpp;injection hpp with hpp;subst hpp
  have hone:∀ u∈us,u.oneCell'=true:=by
    intro u hu
    obtain⟨j,hj,rfl⟩:=List.getElem_of_mem hu
    have hjy:j<ys.length:=by rw[hyl,←hus.1];exact hj
    obtain⟨v,hv,hr⟩:=hyr j ys[j] (by simp)
    have:v=us[j]:=by rw[List.getElem?_eq_getElem hj]at hv;injection hv with hv;exact hv.symm
    rw[←this];exact hr.one (h1 _ (by simp))
  have hzl:zs.length=(n+m)*o.s:=by rw[←hzs',List.length_append,hxl,hyl,Nat.add_mul]
  have hzr:∀ (j:Nat) y,zs[j]? =some y→∃ v,(os++us)[j]? =some v∧RelA ρ I w y v:=by
    intro j y hj
    rw[←hzs']at hj
    rcases Nat.lt_or_ge j xs.length with hlt |hge
    · rw[List.getElem?_append_left hlt]at hj
      obtain⟨v,hv,hr⟩:=hxr j y hj
      exact⟨v,by rw[List.getElem?_append_left (by rw[hos.1,←hxl];exact hlt)];exact hv,hr⟩
    · rw[List.getElem?_append_right hge]at hj
      obtain⟨v,hv,hr⟩:=hyr _ y hj
      exact⟨v,by rw[List.getElem?_append_right (by rw[hos.1,←hxl];exact hge),hos.1,←hxl];exact hv,hr⟩
  have hkill:=hs'.kill (.o h)
  have hne:h2≠h:=fun e=>by
    have q1:=hR (.o h,.o o) (by simp)
    have q2:=hR (.o h2,.free) (by simp)
    rw[e]at q2
    simp only at q1 q2
    rw[q1]at q2;cases q2
  have hfree:get ((Key.o h,none)::σ) (.o h2)=some .free:=by
    rw[bf (fj (fun e=>hne e.symm))]
    exact hR (.o h2,.free) (by simp)
  have wpk:∀ v w',(Builtin.append_ #[t,t] ty #[a.eval (.tmp x),a.eval y]).run Γ.P w= .ok v w'→K (a.put (some d) v) w'→Oper.wp Γ.P ⟨some d,.call { callee:= .builtin .append,args:= #[.tmp x,y],argTypes:= #[t,t] },ty,pos,af,g⟩ a w K Q:=by
    intro v w' hrun hk
    unfold Oper.wp
    simp only[execOp,resolve,List.map_toArray,List.map_cons,List.map_nil]
    simp only[Sem.run_bind,Sem.run_pure,Result.andThen_ok,invoke,builtin,hrun]
    exact hk
  rw[hev,eu]at wpk
  have hzrow:∀ (j:Nat) y,zs[j]? =some y→y.isRow=true→j<n*o.s∧o.cells[off*o.s+j]? =some y:=by
    intro j y hj hrow
    rw[←hzs']at hj
    rcases Nat.lt_or_ge j xs.length with hlt |hge
    · rw[List.getElem?_append_left hlt,←hxs,List.getElem?_take]at hj
      split at hj
      · rename_i hjn
        rw[List.getElem?_drop]at hj;exact⟨hjn,hj⟩
      · cases hj
    · rw[List.getElem?_append_right hge]at hj
      rw[zp (h1 _ (List.mem_of_getElem? hj))]at hrow;cases hrow
  by_cases hroom:n+m≤p.cap-off
  · by_cases hc0:p.cap-off=0
    · have hn0:n=0:=by omega
      have hm0:m=0:=by omega
      subst hn0;subst hm0
      rw[hc0]at wpk
      refine wpk _ _ (ru ht hi) (hK _ _ ?_)
      have hz0:zs=[]:=List.eq_nil_of_length_eq_zero (by rw[hzl];simp)
      have hznr:∀ y∈zs,y.isRow=false:=by rw[hz0];intro y hy;cases hy
      by_cases hexx:p.x=true∧off=0
      · obtain⟨hxx,hoo⟩:=hexx
        subst hoo
        have hcap0:p.cap=0:=by omega
        have hkl:∀ y q o',get ((Key.o h,none)::σ) (.o y)=some (.o o')→ρ y=some q→q.live=true→p.live=true→q.block≠p.block:=by
          intro y q o' hy hq hnq hn0 e
          obtain⟨hyh,hy'⟩:=Sat.get_kill hy
          exact hyh (hs'.m.inj y h q p o' o hy' (hR (.o h,.o o) (by simp)) hq hp hnq hn0 e)
        obtain⟨ρ',hρ,hx',hs2⟩:=hkill.adopt hfree (p:=⟨p.block,p.base,0,o.s,p.live,true⟩) (o:=⟨o.T,o.s,ex,zs⟩) rfl (by rw[hz0];simp) (fun he=>⟨rfl,(hpe (hex he).1).2.1,Nat.zero_le _⟩) (fun _=>rfl)
          (fun hlv=>by
            obtain⟨b1,b2,b3⟩:=hs'.m.pl h p o (hR (.o h,.o o) (by simp)) hp hlv
            obtain⟨cur,hg,hcs,hce,_⟩:=hpx hlv
            refine⟨b1,b2,b3,fun y q o' hy hq hnq=>hkl y q o' hy hq hnq hlv,cur,hg,by simp only;omega,fun he=> ?_,fun j y hj=>by rw[hz0]at hj;simp at hj⟩
            have:=hce (hex he).1
            rw[hcap0]at this;simpa using this) (RowFit.no hznr) (fun hlv {_ _ _ _ _ _ _ _} hr=>(show p.block≠_ from hs'.m.rs.sep (p':=p) (RowIn.unkill hs'.m (p:=p) (hR (.o h,.o o) (by simp)) hp hlv (fun _ _ _=>rfl) hr).2 (hR (.o h,.o o) (by simp)) hp hlv)) (fun _ {j _ _ _ _ _ _} (h1:zs[j]? =_)=>by rw[hz0]at h1;simp at h1)
        refine⟨ρ',I,hs2.put (V:= .b (.a (.sl h2 0 (0+0)))) hN ⟨_,A,hx',by simp,by simp,fun _=> ?_⟩⟩
        have:=e3 (.inl ⟨hxx,rfl⟩)
        simpa using this
      · obtain⟨ρ',hρ,hx',hs2⟩:=hkill.adopt hfree (p:=⟨p.block,0,0,o.s,false,false⟩) (o:=⟨o.T,o.s,ex,zs⟩) rfl (by rw[hz0];simp) (fun he=>absurd ⟨(hpe (hex he).1).1,(hex he).2⟩ hexx) (fun _=>rfl) (fun hne'=>by simp at hne') (RowFit.no hznr) (fun hne'=>by simp at hne') (fun hne'=>by simp at hne')
        exact⟨ρ',I,hs2.put (V:= .b (.a (.sl h2 0 (0+0)))) hN ⟨_,A,hx',by simp,by simp,fun h=>by simp at h⟩⟩
    · have hn0:p.live=true:=by
        rcases Bool.eq_false_or_eq_true p.live with h |h
        · exact h
        · have:=hpz h;omega
      have e3':=e3 (.inr hc0)
      rw[hn0,if_pos rfl]at e3'
      subst e3'
      obtain⟨cur,hg,hcs,hce,hcc⟩:=hpx hn0
      have hroomc:off*o.s+n*o.s+m*o.s≤p.cap*o.s:=by rw[←Nat.add_mul,←Nat.add_mul];exact Nat.mul_le_mul_right _ (by omega)
      rw[hps]at hcs hce hpl
      have hul:=hus.1
      have hrun:=ug (w:=w) (ty:=ty) (o:=p.base+off*p.size) (n:=n) (c:=p.cap-off) (c':=c') ht hi hg (by rw[hs];exact hus) hone hroom (by rw[hs,hps];omega)
      rw[hs,hps]at hrun
      rw[hps]at wpk
      refine wpk _ _ hrun (hK _ _ ?_)
      obtain⟨b1,b2,b3⟩:=hs'.m.pl h p o (hR (.o h,.o o) (by simp)) hp hn0
      have hlive:∀ y q o',get ((Key.o h,none)::σ) (.o y)=some (.o o')→ρ y=some q→q.live=true→q.block≠p.block:=by
        intro y q o' hy hq hnq e
        obtain⟨hyh,hy'⟩:=Sat.get_kill hy
        exact hyh (hs'.m.inj y h q p o' o hy' (hR (.o h,.o o) (by simp)) hq hp hnq hn0 e)
      have hsc:=hkill.scribble b1 b2 hlive (fun {_ _ _ _ _ _ _ _} hr e=>hs'.m.rs.sep (RowIn.unkill hs'.m (hR (.o h,.o o) (by simp)) hp hn0 (fun _ _ _=>rfl) hr).2 (hR (.o h,.o o) (by simp)) hp hn0 e.symm) (List.take (p.base+off*o.s+n*o.s) cur.toList++us++List.drop (p.base+off*o.s+n*o.s+us.length) cur.toList).toArray
      have hos':∀ (j:Nat) v,os[j]? =some v→cur[p.base+off*o.s+j]? =some v:=by
        intro j v hv
        rcases hos.2 with h0 |⟨ad,e,hc⟩
        · have:os=[]:=List.eq_nil_of_length_eq_zero (by rw[hos.1,h0];simp)
          rw[this]at hv;simp at hv
        · injection e with e
          subst e
          have:=hc j v hv
          rw[gh,hps]at this
          simpa [World.cell?,hg] using this
      have hcells:∀ (j:Nat) y,zs[j]? =some y→∃ u,(List.take (p.base+off*o.s+n*o.s) cur.toList++us++List.drop (p.base+off*o.s+n*o.s+us.length) cur.toList).toArray[p.base+off*o.s+j]? =some u∧RelA ρ I (w.setRow p.block (List.take (p.base+off*o.s+n*o.s) cur.toList++us++List.drop (p.base+off*o.s+n*o.s+us.length) cur.toList).toArray) y u:=by
        intro j y hj
        obtain⟨v,hv,hr⟩:=hzr j y hj
        refine⟨v,?_,hr.mono (fun _ _ h=>h) (fun b hb=>⟨hb,setRow_other w p.block b _ (fun e=>b1 (e▸hb))⟩)⟩
        simp only[List.getElem?_toArray]
        have hol':=hos.1
        rcases Nat.lt_or_ge j os.length with hlt |hge
        · rw[List.getElem?_append_left hlt]at hv
          have:=hos' j v hv
          rw[List.append_assoc,List.getElem?_append_left (by simp;omega),List.getElem?_take,if_pos (by omega)]
          simpa using this
        · rw[List.getElem?_append_right hge]at hv
          have hjl:=(List.getElem?_eq_some_iff.1 hv).1
          rw[List.append_assoc,List.getElem?_append_right (by simp;omega),List.getElem?_append_left (by simp;omega)]
          have:p.base+off*o.s+j-(List.take (p.base+off*o.s+n*o.s) cur.toList).length=j-os.length:=by simp;omega
          rw[this];exact hv
      have hmv:=RowFit.moved hs'.m (hR (.o h,.o o) (by simp)) hp hn0 (w':=w.setRow p.block (List.take (p.base+off*o.s+n*o.s) cur.toList++us++List.drop (p.base+off*o.s+n*o.s+us.length) cur.toList).toArray) (fun b _ hb=>setRow_other w p.block b _ hb) (by simp) (d:=off*o.s) (zs:=zs)
        (val:=fun j=>(w.setRow p.block (List.take (p.base+off*o.s+n*o.s) cur.toList++us++List.drop (p.base+off*o.s+n*o.s+us.length) cur.toList).toArray).cell? ⟨p.block,p.base+off*o.s+j,none⟩) (fun j y v hj hrow hv=>by
          obtain⟨q1,q2⟩:=hzrow j y hj hrow
          refine⟨q2,?_⟩
          simp only[World.cell?,setRow_heap w p.block cur _ _ _ hg]at hv
          simp only[List.getElem?_toArray]at hv
          have hj2:p.base+off*o.s+j<p.base+off*o.s+n*o.s:=by omega
          have hsz2:p.base+off*o.s+n*o.s≤cur.size:=by omega
          rw[List.append_assoc,List.getElem?_append_left (by rw[List.length_take,Array.length_toList];omega),List.getElem?_take,if_pos hj2]at hv
          simp only[World.cell?,hg]
          rw[←Nat.add_assoc];rw[Array.getElem?_toList]at hv;exact hv)
      obtain⟨ρ',hρ,hx',hs2⟩:=hsc.adopt hfree (p:=⟨p.block,p.base+off*o.s,p.cap-off,o.s,true,true⟩) (o:=⟨o.T,o.s,ex,zs⟩) rfl (by simp only;rw[hzl];exact Nat.mul_le_mul_right _ hroom)
        (fun he=>by obtain⟨q1,q2⟩:=hex he;obtain⟨_,q3,q4⟩:=hpe q1;subst q2;exact⟨rfl,by show p.base+0*o.s=0;rw[q3];simp,by show p.cap-0≤maxLen;omega⟩) (fun h=>by simp at h)
        (fun _=>⟨b1,b2,by simpa using b3,hlive,_,setRow_heap w p.block cur _ _ _ hg,by
          simp only
          have hbd:p.base+off*o.s+(p.cap-off)*o.s≤cur.size:=by
            rw[Nat.add_assoc,←Nat.add_mul]
            refine Nat.le_trans (Nat.add_le_add_left (Nat.mul_le_mul_right _ (by omega:off+(p.cap-off)≤p.cap)) _) hcs
          simp;omega,fun he=>by
          obtain⟨q1,q2⟩:=hex he
          have:=hce q1
          subst q2
          simp;omega,hcells⟩) hmv.1 (fun _ {_ _ _ _ _ _ _ _} hr=>(show p.block≠_ from hs'.m.rs.sep (p':=p) (RowIn.unkill hs'.m (p:=p) (hR (.o h,.o o) (by simp)) hp hn0 (fun b _ hb=>setRow_other w p.block b _ hb) hr).2 (hR (.o h,.o o) (by simp)) hp hn0)) (fun _ {_ _ _ _ _ _ _} h1 h2=>hmv.2 h1 h2)
      exact⟨ρ',I,hs2.put (V:= .b (.a (.sl h2 0 (n+m)))) hN ⟨_,some ⟨p.block,p.base+off*o.s,none⟩,hx',by simp,by simpa using hroom,fun _=>by simp⟩⟩
  · have hcap:p.cap-off<n+m:=by omega
    have hsmall:n+m≤9223372036854775807:=by simp only[maxLen]at h63;omega
    have hrun:=qC (w:=w) (ty:=ty) (c':=c') ht hi hz (by rw[hs];exact hos) (by rw[hs];exact hus) hcap (by omega) (growslice_fits hcap hby)
    refine wpk _ _ hrun (hK _ _ ?_)
    have hge:=grownCap_ge w (n+m) (p.cap-off) e
    have hcm:=grownCap_le_maxLen w (n+m) (p.cap-off) e h63
    have hdr:Sat Γ ((Key.o h,none)::σ) a w.drew ρ I:=hkill.world ⟨rfl,rfl,rfl,Nat.le_refl _,fun _ _=>rfl⟩
    have hlen:(os++us).length=(n+m)*o.s:=by rw[List.length_append,hos.1,hus.1,Nat.add_mul]
    obtain⟨ρ',hρ,hx',hs2⟩:=hdr.new hfree (cur:=(os++us++(Builtin.zeroCells z.cells (grownCap w (n+m) (p.cap-off) e-(n+m))).toList).toArray) (T:=e) (cap:=grownCap w (n+m) (p.cap-off) e) (s:=o.s) (ex:=ex) (cells:=zs)
      (by simp only[List.size_toArray,List.length_append,Array.length_toList,size_zeroCells,hzs,hs]
          have h3:os.length+us.length=(n+m)*o.s:=by rw[←List.length_append];exact hlen
          rw[h3,←Nat.add_mul];congr 1;omega) (by rw[hzl];exact Nat.mul_le_mul_right _ hge) (fun _=>hcm) (fun j y hj=>by
        obtain⟨v,hv,hr⟩:=hzr j y hj
        refine⟨v,?_,hr.mono (fun _ _ h=>h) (fun b hb=>⟨hb,rfl⟩)⟩
        simp only[List.getElem?_toArray]
        rw[List.getElem?_append_left (List.getElem?_eq_some_iff.1 hv).1];exact hv) (by
        by_cases hn00:n=0
        · refine RowFit.no fun y hy=> ?_
          obtain⟨j,hj,rfl⟩:=List.getElem_of_mem hy
          rcases Bool.eq_false_or_eq_true (zs[j].isRow)with hq |hq
          · have:=(hzrow j _ (List.getElem?_eq_getElem hj) hq).1
            rw[hn00]at this;omega
          · exact hq
        · have hc0:p.cap-off≠0:=by omega
          have hn0:p.live=true:=by
            rcases Bool.eq_false_or_eq_true p.live with h |h
            · exact h
            · have:=hpz h;omega
          have e3':=e3 (.inr hc0)
          rw[hn0,if_pos rfl]at e3'
          obtain⟨cur,hg,hcs,hce,hcc⟩:=hpx hn0
          refine(RowFit.moved hs'.m (hR (.o h,.o o) (by simp)) hp hn0 (w':=w.drew) (fun _ _ _=>rfl) (Nat.le_refl _) (d:=off*o.s) (zs:=zs) fun j y v hj hrow hv=> ?_).1
          obtain⟨q1,q2⟩:=hzrow j y hj hrow
          refine⟨q2,?_⟩
          simp only[List.getElem?_toArray]at hv
          rw[List.append_assoc,List.getElem?_append_left (by rw[hos.1];exact q1)]at hv
          rcases hos.2 with h0 |⟨ad,e,hc⟩
          · exact absurd h0 hn00
          · rw[e3']at e
            injection e with e
            subst e
            have:=hc j v hv
            rw[gh,hps,Nat.add_assoc]at this
            exact this)
    rw[hT]
    exact⟨ρ',I,hs2.put (V:= .b (.a (.sl h2 0 (n+m)))) hN ⟨_,some ⟨w.heap.size,0,none⟩,hx',by simp,by simpa using hge,fun _=>by simp⟩⟩
end
end Cl
end Go.Proofs.YtgmkkfdnmdohlaaGreatDoor
namespace Go.Proofs.YtgmkkfdnmdohlaaGreatDoor
namespace Cl
open Go.ChangeShapes Go.WideShapes Go.ChangeAt Go.RowKit
def lift (Γ:Cx) (K:Exit→St→Prop):Exit→Act→World→Prop:=fun e a w=>∃ σ,Sats Γ σ a w∧K e σ
def Wp (Γ:Cx) (c:Code) (K:Exit→St→Prop) (σ:St):Prop:=∀ a w,Sats Γ σ a w→c.wp Γ.P (lift Γ K) a w
def Reads (σ:St):List (Key × Cell)→Prop
 | []=>True
 | kv::r=>get σ kv.1=some kv.2∧Reads σ r
theorem Reads.all {σ:St} {R:List (Key × Cell)} (h:Reads σ R):∀ kv∈R,get σ kv.1=some kv.2:=by
  induction R with
  | nil=>intro kv hk;cases hk
  | cons a R ih=>
    intro kv hk
    rcases List.mem_cons.1 hk with rfl |hk
    · exact h.1
    · exact ih h.2 kv hk
theorem Reads.of {σ:St} {R:List (Key × Cell)} (h:∀ kv∈R,get σ kv.1=some kv.2):Reads σ R:=by
 induction R with
 | nil=>trivial
 | cons a R ih=>exact⟨h a (by simp),ih fun kv hk=>h kv (by simp [hk])⟩
def fA (Γ:Cx) (ops:Array Oper) (o:Oper) (R:List (Key × Cell)) (W:St):Prop:=
 ∀ σ a w,Sats Γ σ a w→(∀ kv∈R,get σ kv.1=some kv.2)→∀ (K:Act→World→Prop) Q,(∀ a' w',Sats Γ (W++σ) a' w'→K a' w')→
  if Region.wanted o (yielded ops a.tmps)then o.wp Γ.P a w K Q else K (a.put o.dst undef) w
theorem eA {Γ:Cx} {ops:Array Oper} {o:Oper} {R:List (Key × Cell)} {W:St} (hg:o.guard=none) (h:Acts Γ o R W):fA Γ ops o R W:=by
 intro σ a w ⟨ρ,I,hs⟩ hR K Q hK
 rw[if_pos (by simp [Region.wanted,hg])]
 exact h σ a w ρ I hs hR K Q hK
theorem oy {Γ:Cx} {ops:Array Oper} {σ:St} {a:Act} {w:World} {ρ:Nat→Option Place} {I:Nat→Prop} (hs:Sat Γ σ a w ρ I) {j dj:Nat} {b:Bool} (hj:(ops[j]?).bind (·.dst)=some dj) (hb:get σ (.s dj)=some (.s (V.v (.bool b)))):
    yielded ops a.tmps j=some b:=by
  have h:a.tmps.getD dj undef= .bool b:=hs.sl dj _ hb
  have h2:a.tmps[dj]? =some (.bool b):=by
    rw[Array.getD_eq_getD_getElem?]at h
    cases hq:a.tmps[dj]? with
    | none=>rw[hq]at h;simp [undef]at h
    | some v=>rw[hq]at h;simp at h;rw[h]
  simp [yielded,hj,h2]
theorem ae {Γ:Cx} {ops:Array Oper} {o:Oper} {R:List (Key × Cell)} {W:St} {j dj:Nat} {b:Bool} (hg:o.guard=some (j,b)) (hj:(ops[j]?).bind (·.dst)=some dj) (h:Acts Γ o R W):
    fA Γ ops o ((.s dj,.s (V.v (.bool b)))::R) W:=by
  intro σ a w ⟨ρ,I,hs⟩ hR K Q hK
  rw[if_pos (by simp [Region.wanted,hg,oy hs hj (hR (.s dj,.s (V.v (.bool b))) (by simp))])]
  exact h σ a w ρ I hs (fun kv hk=>hR kv (by simp [hk])) K Q hK
theorem aG {Γ:Cx} {ops:Array Oper} {o:Oper} {j dj d:Nat} {b b':Bool} (hg:o.guard=some (j,b)) (hj:(ops[j]?).bind (·.dst)=some dj) (hb:b'≠b) (hd:o.dst=some d) (hN:Γ.ok d):
    fA Γ ops o [(.s dj,.s (V.v (.bool b')))] [(.s d,none)]:=by
  intro σ a w ⟨ρ,I,hs⟩ hR K Q hK
  rw[if_neg (by simp [Region.wanted,hg,oy hs hj (hR (.s dj,.s (V.v (.bool b'))) (by simp)),hb]),hd]
  exact hK _ _ ⟨ρ,I,hs.putU hN⟩
def WpL (Γ:Cx) (ops:Array Oper) (rest:List Oper) (K:Exit→St→Prop) (σ:St):Prop:=∀ a w,Sats Γ σ a w→wpList Γ.P ops (lift Γ K) rest a w
theorem IL {Γ:Cx} {ops:Array Oper} {K:Exit→St→Prop} {σ:St} (h:K .normal σ):WpL Γ ops [] K σ:=fun _ _ hs=>⟨σ,hs,h⟩
theorem Gi {Γ:Cx} {ops:Array Oper} {o:Oper} {rest:List Oper} {K:Exit→St→Prop} {σ:St} {R:List (Key × Cell)} {W:St} (h:fA Γ ops o R W) (hR:Reads σ R) (hr:WpL Γ ops rest K (W++σ)):WpL Γ ops (o::rest) K σ:=by
 intro a w hs
 refine wpList_step fun K' hK'=>h σ a w hs hR.all K' _ fun a' w' hs'=>hK' a' w' (hr a' w' hs')
theorem yH {Γ:Cx} {id:Nat} {l:List Oper} {K:Exit→St→Prop} {σ:St} (h:WpL Γ l.toArray l K σ):Wp Γ (.region id l.toArray false) K σ:=fun a w hs=>wp_region_lit (h a w hs)
theorem Sats.ext {Γ:Cx} {σ τ:St} {a:Act} {w:World} (h:Sats Γ σ a w) (he:∀ k,get τ k=get σ k):Sats Γ τ a w:=by
 obtain⟨ρ,I,h⟩:=h
 refine⟨ρ,I,h.n,h.d,(fun k x h' hk hg hh=>h.fx k x h' hk ((he _)▸hg) hh),h.kp,fun k v hk=>h.sl k v ((he _)▸hk),fun y o ho=>h.m.ow y o ((he _)▸ho),fun y hy=>h.m.fr y ((he _)▸hy),fun y p o ho=>h.m.pl y p o ((he _)▸ho),fun y z p p' o o' ho ho'=>h.m.inj y z p p' o o' ((he _)▸ho) ((he _)▸ho'),h.m.im,(h.m.rows0 fun y o ho=>(he _)▸ho).1,(h.m.rows0 fun y o ho=>(he _)▸ho).2,h.m.fm⟩
abbrev Tr:=List (List (Key × Cell) × St)
def nA (D:Nat→Bool) (σ:St):List (Nat × St)→Key→Option Cell
 | [],k=>get σ k
 | (i,W)::r,k=>if D i&&has W k then get W k else nA D σ r k
theorem lc {D D':Nat→Bool} {σ:St} {ws:List (Nat × St)} {k:Key} (h:∀ i W,(i,W)∈ws→has W k=true→D i=D' i):nA D σ ws k=nA D' σ ws k:=by
  induction ws with
  | nil=>rfl
  | cons a ws ih=>
    obtain⟨i,W⟩:=a
    simp only[nA]
    rw[ih fun j W' hj=>h j W' (by simp [hj])]
    by_cases hk:has W k=true
    · rw[h i W (by simp) hk]
    · simp [hk]
theorem uN {D:Nat→Bool} {σ:St} {ws:List (Nat × St)} {k:Key} (h:∀ i W,(i,W)∈ws→has W k=true→D i=false):nA D σ ws k=get σ k:=by
  induction ws with
  | nil=>rfl
  | cons a ws ih=>
    obtain⟨i,W⟩:=a
    simp only[nA]
    rw[ih fun j W' hj=>h j W' (by simp [hj])]
    by_cases hk:has W k=true
    · rw[h i W (by simp) hk];simp
    · simp [hk]
def rws (tr:Tr):List (Nat × St):=(tr.zipIdx.map fun x=>(x.2,x.1.2)).reverse
theorem wm {tr:Tr} {i:Nat} {W:St}:(i,W)∈rws tr↔∃ R,tr[i]? =some (R,W):=by
 simp only[rws,List.mem_reverse,List.mem_map]
 constructor
 ·rintro⟨⟨⟨R,W'⟩,j⟩,hm,he⟩
  obtain⟨rfl,rfl⟩:=Prod.mk.inj he
  exact⟨R,by simpa using List.mk_mem_zipIdx_iff_getElem?.1 hm⟩
 ·rintro⟨R,h⟩
  exact⟨((R,W),i),List.mk_mem_zipIdx_iff_getElem?.2 h,rfl⟩
def after:Tr→St→Nat→St
 | _,σ,0=>σ
 | [],σ,_+1=>σ
 | (_,W)::r,σ,i+1=>after r (W++σ) i
def TrReads:Tr→St→Prop
 | [],_=>True
 | (R,W)::r,σ=>Reads σ R∧TrReads r (W++σ)
theorem TrReads.at {tr:Tr} {σ:St} (h:TrReads tr σ) {i:Nat} {R:List (Key × Cell)} {W:St} (hi:tr[i]? =some (R,W)):Reads (after tr σ i) R:=by
  induction tr generalizing σ i with
  | nil=>simp at hi
  | cons a tr ih=>
    obtain⟨R',W'⟩:=a
    cases i with
    | zero=>simp at hi;obtain⟨rfl,rfl⟩:=hi;exact h.1
    | succ i=>exact ih h.2 (by simpa using hi)
theorem yK {tr:Tr} {σ:St} {i:Nat} {R:List (Key × Cell)} {W:St} (hi:tr[i]? =some (R,W)):after tr σ (i+1)=W++after tr σ i:=by
  induction tr generalizing σ i with
  | nil=>simp at hi
  | cons a tr ih=>
    obtain⟨R',W'⟩:=a
    cases i with
    | zero=>simp at hi;obtain⟨rfl,rfl⟩:=hi;simp [after]
    | succ i=>exact ih (by simpa using hi)
theorem sM {D:Nat→Bool} {σ:St} {us vs:List (Nat × St)} {k:Key} (h:∀ i W,(i,W)∈us→has W k=true→D i=false):nA D σ (us++vs) k=nA D σ vs k:=by
  induction us with
  | nil=>rfl
  | cons a us ih=>
    obtain⟨i,W⟩:=a
    simp only[List.cons_append,nA]
    rw[ih fun j W' hj=>h j W' (by simp [hj])]
    by_cases hk:has W k=true
    · rw[h i W (by simp) hk];simp
    · simp [hk]
theorem vA {tr:Tr} {i:Nat} {R:List (Key × Cell)} {W:St} (hi:tr[i]? =some (R,W)):∃ us vs,rws tr=us++(i,W)::vs∧(∀ j V,(j,V)∈us→i<j)∧(∀ j V,(j,V)∈vs→j<i):=by
 have hlt:=(List.getElem?_eq_some_iff.1 hi).1
 let l:=tr.zipIdx.map fun x=>(x.2,x.1.2)
 have hl:l[i]? =some (i,W):=by simp [l,hi]
 have hll:∀ j:Nat,∀ x,l[j]? =some x→x.1=j:=fun j x hx=>by
  simp only[l,List.getElem?_map,List.getElem?_zipIdx]at hx
  cases hq:tr[j]? with
  | none=>simp [hq]at hx
  | some y=>simp [hq]at hx;rw[←hx]
 have hlen:i<l.length:=by simpa [l] using hlt
 have hsp:l=l.take i++(i,W)::l.drop (i+1):=by
  have h1:=List.drop_eq_getElem_cons hlen
  have h2:l[i]=(i,W):=by rw[List.getElem?_eq_getElem hlen]at hl;injection hl
  rw[h2]at h1
  rw[←h1,List.take_append_drop]
 refine⟨(l.drop (i+1)).reverse,(l.take i).reverse,?_,fun j V hj=> ?_,fun j V hj=> ?_⟩
 ·show l.reverse=_
  conv=>lhs;rw[hsp]
  simp
 ·obtain⟨m,hm,he⟩:=List.getElem_of_mem (List.mem_reverse.1 hj)
  have:l[i+1+m]? =some (j,V):=by rw[←List.getElem?_drop,List.getElem?_eq_getElem hm,he]
  have:=hll _ _ this
  simp at this;omega
 ·obtain⟨m,hm,he⟩:=List.getElem_of_mem (List.mem_reverse.1 hj)
  have hm':m<i:=by simp at hm;omega
  have:l[m]? =some (j,V):=by
   have:=List.getElem?_eq_getElem hm
   rw[he,List.getElem?_take,if_pos hm']at this;exact this
  have:=hll _ _ this
  simp at this;omega
theorem uE {tr:Tr} {σ:St} {i:Nat} (hi:i≤tr.length) {k:Key}:get (after tr σ i) k=nA (fun j=>decide (j<i)) σ (rws tr) k:=by
  induction i with
  | zero=>rw[uN (fun i W _ _=>by simp)];cases tr<;>rfl
  | succ i ih=>
    have hlt:i<tr.length:=hi
    obtain⟨us,vs,hsp,hu,hv⟩:=vA (tr:=tr) (i:=i) (R:=tr[i].1) (W:=tr[i].2) (by simp [hlt])
    rw[yK (R:=tr[i].1) (W:=tr[i].2) (by simp [hlt]),fh,ih (by omega),hsp]
    rw[sM (fun j V hj _=>by have:=hu j V hj;simp;omega),sM (fun j V hj _=>by have:=hu j V hj;simp;omega)]
    simp only[nA]
    have e:nA (fun j=>decide (j<i)) σ vs k=nA (fun j=>decide (j<i+1)) σ vs k:=lc fun j V hj _=>by have:=hv j V hj;simp;omega
    rw[e]
    by_cases hk:has tr[i].2 k=true<;>simp [hk]
def eI (o:Oper):List Nat:=(o.after.toList.filter (Region.binds .any)).map (·.on)
def lL:List Oper→List (List Nat)→List (List Nat)
 | [],acc=>acc
 | o::r,acc=>lL r (acc++[eI o++(eI o).flatMap fun j=>acc.getD j []])
def pO (a b:List Key):Bool:=a.any fun x=>b.any fun y=>Key.eq x y
def pP (x y:List Key × List Key):Bool:= !(pO x.2 y.1)&& !(pO x.2 y.2)&& !(pO y.2 x.1)
def lb (x:List (Key × Cell) × St):List Key × List Key:=(x.1.map (·.1),x.2.map (·.1))
def lh:List (List Key × List Key)→List (List Nat)→Nat→List (List Key × List Key)→Bool
 | [],_,_,_=>true
 | x::r,an,i,prev=>(prev.zipIdx.all fun y=>(an.getD i []).contains y.2||pP y.1 x)&&lh r an (i+1) (prev++[x])
theorem oO {W:St} {k:Key}:has W k=true↔k∈W.map (·.1):=by
  induction W with
  | nil=>simp [has]
  | cons a W ih=>simp only[has,Bool.or_eq_true,Key.eq_iff,ih,List.map_cons,List.mem_cons];constructor<;>(rintro(h |h)<;>first |exact .inl h.symm |exact .inr h)
theorem kL {a b:List Key} (h:pO a b=false) {k:Key} (ha:k∈a):k∉b:=by
 intro hb
 have:pO a b=true:=by
  simp only[pO,List.any_eq_true]
  exact⟨k,ha,k,hb,Key.eq_iff.2 rfl⟩
 rw[h]at this;cases this
theorem wv {xs:List (List Key × List Key)} {an:List (List Nat)} {i:Nat} {prev:List (List Key × List Key)} (hp:prev.length=i) (h:lh xs an i prev=true) {p q:Nat} (hpq:p<q) {x y:List Key × List Key}
    (hx:(prev++xs)[p]? =some x) (hy:(prev++xs)[q]? =some y) (hq:i≤q):p∈an.getD q []∨pP x y=true:=by
  induction xs generalizing i prev with
  | nil=>rw[List.append_nil]at hy;rw[List.getElem?_eq_none (by omega)]at hy;cases hy
  | cons z xs ih=>
    simp only[lh,Bool.and_eq_true,List.all_eq_true]at h
    obtain⟨h1,h2⟩:=h
    rcases Nat.lt_or_ge i q with hlt |hge
    · exact ih (i:=i+1) (prev:=prev++[z]) (by simp [hp]) h2 (by simpa using hx) (by simpa using hy) hlt
    · have hqi:q=i:=by omega
      subst hqi
      rw[List.getElem?_append_right (by omega),hp,Nat.sub_self]at hy
      simp at hy;subst hy
      rw[List.getElem?_append_left (by omega)]at hx
      have:=h1 (x,p) (List.mk_mem_zipIdx_iff_getElem?.2 hx)
      rcases Bool.or_eq_true _ _▸this with h |h
      · exact .inl (by simpa using h)
      · exact .inr h
def qn (l:List Oper):Bool:=l.zipIdx.all fun x=>(eI x.1).all (· <x.2)
theorem Br (l:List Oper):∀ (acc:List (List Nat)),(∀ m o,l[m]? =some o→∀ j∈eI o,j<acc.length+m)→
    (∀ j,j<acc.length→(lL l acc).getD j []=acc.getD j [])∧∀ m o,l[m]? =some o→(lL l acc).getD (acc.length+m) []=eI o++(eI o).flatMap fun j=>(lL l acc).getD j []:=by
  induction l with
  | nil=>intro acc _;exact⟨fun _ _=>rfl,fun m o h=>by simp at h⟩
  | cons a l ih=>
    intro acc h
    obtain⟨h1,h2⟩:=ih (acc++[eI a++(eI a).flatMap fun j=>acc.getD j []]) (fun m o hm j hj=>by
      have:=h (m+1) o (by simpa using hm) j hj
      simp;omega)
    have hk:∀ j,j<acc.length→(lL (a::l) acc).getD j []=acc.getD j []:=fun j hj=>by
      simp only[lL]
      rw[h1 j (by simp;omega)]
      simp [List.getD,List.getElem?_append_left hj]
    refine⟨hk,fun m o hm=> ?_⟩
    cases m with
    | zero=>
      simp at hm;subst hm
      have hf:(eI a).flatMap (fun j=>(lL (a::l) acc).getD j [])=(eI a).flatMap fun j=>acc.getD j []:=by
        rw[List.flatMap_eq_foldl,List.flatMap_eq_foldl]
        have:∀ (ds:List Nat) (z:List Nat),(∀ j∈ds,j<acc.length)→List.foldl (fun s j=>s++(lL (a::l) acc).getD j []) z ds=List.foldl (fun s j=>s++acc.getD j []) z ds:=by
          intro ds
          induction ds with
          | nil=>intros;rfl
          | cons d ds ihd=>intro z hz;simp only[List.foldl_cons];rw[hk d (hz d (by simp))];exact ihd _ fun j hj=>hz j (by simp [hj])
        exact this _ _ fun j hj=>by have:=h 0 a (by simp) j hj;simpa using this
      rw[hf]
      simp only[lL]
      rw[h1 (acc.length+0) (by simp)]
      simp [List.getD]
    | succ m=>
      have:=h2 m o (by simpa using hm)
      simp only[List.length_append,List.length_cons,List.length_nil]at this
      simp only[lL]
      rw[show acc.length+(m+1)=acc.length+(0+1)+m by omega]
      exact this
theorem De {l:List Oper} (hd:qn l=true) {D:Nat→Bool} (hc:∀ i o,l[i]? =some o→D i=true→∀ j∈eI o,D j=true) {i:Nat} {o:Oper} (ho:l[i]? =some o) (hi:∀ j∈eI o,D j=true):
    ∀ p∈(lL l []).getD i [],D p=true:=by
  have hlt:∀ (m:Nat) o,l[m]? =some o→∀ j∈eI o,j<m:=fun m o hm j hj=>by
    simp only[qn,List.all_eq_true]at hd
    simpa using hd (o,m) (List.mk_mem_zipIdx_iff_getElem?.2 hm) j hj
  have hs:=(Br l [] (fun m o hm j hj=>by have:=hlt m o hm j hj;simp;omega)).2
  induction i using Nat.strongRecOn generalizing o with
  | _ i ih=>
    have h:=hs i o ho
    simp only[List.length_nil,Nat.zero_add]at h
    intro p hp
    rw[h]at hp
    rcases List.mem_append.1 hp with hp |hp
    · exact hi p hp
    · obtain⟨j,hj,hpj⟩:=List.mem_flatMap.1 hp
      have hji:=hlt i o ho j hj
      have hjl:j<l.length:=Nat.lt_trans hji (List.getElem?_eq_some_iff.1 ho).1
      exact ih j hji (o:=l[j]) (by simp [hjl]) (hc j l[j] (by simp [hjl]) (hi j hj)) p hpj
def unl (n:Nat) (listed:Array Bool):Nat:=((List.range n).filter fun i=> !listed.getD i true).length
theorem BA {l:List Nat} {p q:Nat→Bool} (h:∀ x∈l,q x=true→p x=true) {x:Nat} (hx:x∈l) (hp:p x=true) (hq:q x=false):(l.filter q).length<(l.filter p).length:=by
  induction l with
  | nil=>cases hx
  | cons a l ih=>
    have hle:∀ (l:List Nat),(∀ x∈l,q x=true→p x=true)→(l.filter q).length≤(l.filter p).length:=by
      intro l
      induction l with
      | nil=>intro _;simp
      | cons b l ih2=>
        intro hb
        have:=ih2 fun x hx=>hb x (by simp [hx])
        simp only[List.filter_cons]
        by_cases e:q b=true
        · rw[if_pos e,if_pos (hb b (by simp) e)];simp;omega
        · rw[if_neg e];split<;>simp<;>omega
    simp only[List.filter_cons]
    rcases List.mem_cons.1 hx with rfl |hx
    · rw[if_neg (by simp [hq]),if_pos hp]
      have:=hle l fun x hx=>h x (by simp [hx])
      simp;omega
    · have:=ih (fun x hx=>h x (by simp [hx])) hx
      by_cases e:q a=true
      · rw[if_pos e,if_pos (h a (by simp) e)];simp;omega
      · rw[if_neg e];split<;>simp<;>omega
theorem Ge {Γ:Cx} {id:Nat} {l:List Oper} {K:Exit→St→Prop} {σ:St} {tr:Tr} (hm:Γ.P.follows .mixedOrders=true) (hlen:tr.length=l.length)
    (hst:∀ (i:Nat) o R W,l[i]? =some o→tr[i]? =some (R,W)→fA Γ l.toArray o R W) (hr:TrReads tr σ) (hd:qn l=true) (hp:lh (tr.map lb) (lL l []) 0 []=true)
    (hK:K .normal (after tr σ tr.length)):Wp Γ (.region id l.toArray true) K σ:=by
  intro a w hs
  refine wp_region_any hm ?_
  have hpair:∀ {p q:Nat} {x y:List (Key × Cell) × St},p<q→tr[p]? =some x→tr[q]? =some y→p∈(lL l []).getD q []∨pP (lb x) (lb y)=true:=by
    intro p q x y hpq hx hy
    exact wv (i:=0) (prev:=[]) rfl hp hpq (by simp [hx]) (by simp [hy]) (Nat.zero_le _)
  have key : ∀ (fuel:Nat) (listed:Array Bool) (τ:St) (a:Act) (w:World),listed.size=l.length→unl l.length listed≤fuel→
      (∀ i o,l[i]? =some o→listed.getD i false=true→∀ j∈eI o,listed.getD j false=true)→Sats Γ τ a w→(∀ k,get τ k=nA (fun j=>listed.getD j false) σ (rws tr) k)→
      wpAny Γ.P .any l.toArray (lift Γ K) fuel listed a w:=by
    intro fuel
    have done:∀ (listed:Array Bool) (τ:St) (a:Act) (w:World),listed.size=l.length→Region.ready .any l.toArray listed=[]→Sats Γ τ a w→(∀ k,get τ k=nA (fun j=>listed.getD j false) σ (rws tr) k)→lift Γ K .normal a w:=by
      intro listed τ a w hsz hrd hs hg
      have hall:∀ j,j<l.length→listed.getD j false=true:=by
        intro j
        induction j using Nat.strongRecOn with
        | _ j ih=>
          intro hj
          rcases Bool.eq_false_or_eq_true (listed.getD j false)with e |e
          · exact e
          · exfalso
            have hmem:j∈Region.ready .any l.toArray listed:=by
              refine mem_ready.2 ⟨?_,l[j],by simp [hj],fun x hx hb=> ?_⟩
              · rw[Array.getD_eq_getD_getElem?]at e⊢
                have:j<listed.size:=by omega
                simpa [this] using e
              · have hdx:x.on∈eI l[j]:=by
                  simp only[eI,List.mem_map,List.mem_filter]
                  exact⟨x,⟨by simpa using hx,hb⟩,rfl⟩
                have hlt:x.on<j:=by
                  simp only[qn,List.all_eq_true]at hd
                  simpa using hd (l[j],j) (List.mk_mem_zipIdx_iff_getElem?.2 (by simp [hj])) x.on hdx
                exact ih x.on hlt (by omega)
            rw[hrd]at hmem;cases hmem
      refine⟨_,hs.ext (τ:=after tr σ tr.length) fun k=> ?_,hK⟩
      rw[uE (Nat.le_refl _),hg]
      refine lc fun j W hj _=> ?_
      obtain⟨R,hR⟩:=wm.1 hj
      have hjl:=(List.getElem?_eq_some_iff.1 hR).1
      rw[hall j (by omega)]
      simp [hjl]
    induction fuel with
    | zero=>
      intro listed τ a w hsz hu hc hs hg
      have hrd:Region.ready .any l.toArray listed=[]:=by
        rcases hq:Region.ready .any l.toArray listed with _ |⟨x,xs⟩
        · rfl
        · exfalso
          have hx:x∈Region.ready .any l.toArray listed:=by rw[hq];simp
          obtain⟨x2,o,x1,_⟩:=mem_ready.1 hx
          have x1:x<l.length:=by simpa using(Array.getElem?_eq_some_iff.1 x1).1
          have:x∈(List.range l.length).filter fun i=> !listed.getD i true:=by
            simp only[List.mem_filter,List.mem_range]
            exact⟨x1,by rw[x2];rfl⟩
          have hpos:=List.length_pos_of_mem this
          unfold unl at hu;omega
      exact⟨hrd,done listed τ a w hsz hrd hs hg⟩
    | succ fuel ih=>
      intro listed τ a w hsz hu hc hs hg
      refine⟨fun hrd=>done listed τ a w hsz hrd hs hg,fun i hi=> ?_⟩
      obtain⟨x2,o0,x1,x3⟩:=mem_ready.1 hi
      have hil:i<l.length:=by simpa using(Array.getElem?_eq_some_iff.1 x1).1
      have hilt:i<tr.length:=by omega
      have hol:l[i]? =some l[i]:=by simp [hil]
      obtain⟨R,W,htr⟩:∃ R W,tr[i]? =some (R,W):=⟨tr[i].1,tr[i].2,by simp [hilt]⟩
      have hDi:listed.getD i false=false:=by
        rw[Array.getD_eq_getD_getElem?]at x2⊢
        have:i<listed.size:=by omega
        simpa [this] using x2
      have hdep:∀ j∈eI l[i],listed.getD j false=true:=by
        intro j hj
        simp only[eI,List.mem_map,List.mem_filter]at hj
        obtain⟨x,⟨hx,hb⟩,rfl⟩:=hj
        have e0:o0=l[i]:=by rw[List.getElem?_toArray,hol]at x1;injection x1 with x1;exact x1.symm
        subst e0
        exact x3 x (by simpa using hx) hb
      have hanc:=De hd (D:=fun j=>listed.getD j false) hc hol hdep
      have hanc2:∀ q,listed.getD q false=true→q<l.length→i∉(lL l []).getD q []:=by
        intro q hq hql hmem
        have:=De hd (D:=fun j=>listed.getD j false) hc (i:=q) (o:=l[q]) (by simp [hql]) (hc q l[q] (by simp [hql]) hq) i hmem
        simp only[hDi]at this;cases this
      have hDlt:∀ j V,(j,V)∈rws tr→∃ R',tr[j]? =some (R',V)∧j<l.length:=fun j V hj=>by
        obtain⟨R',h⟩:=wm.1 hj
        exact⟨R',h,by have:=(List.getElem?_eq_some_iff.1 h).1;omega⟩
      unfold wpOp
      rw[show l.toArray[i]? =some l[i] by simp [hil]]
      have hreads:∀ kv∈R,get τ kv.1=some kv.2:=by
        intro kv hkv
        have h0:=(hr.at htr).all kv hkv
        rw[hg,←h0,uE (by omega)]
        refine lc fun j V hj hk=> ?_
        obtain⟨R',hR',hjl⟩:=hDlt j V hj
        rcases Nat.lt_trichotomy j i with hji |rfl |hij
        · rcases Bool.eq_false_or_eq_true (listed.getD j false)with e |e
          · simp only[e];simp [hji]
          · exfalso
            rcases hpair hji hR' htr with h |h
            · have:=hanc j h;simp only[e]at this;cases this
            · simp only[pP,lb,Bool.and_eq_true,Bool.not_eq_true']at h
              exact kL h.1.1 (oO.1 hk) (List.mem_map.2 ⟨kv,hkv,rfl⟩)
        · simp only[hDi];simp
        · rcases Bool.eq_false_or_eq_true (listed.getD j false)with e |e
          · exfalso
            rcases hpair hij htr hR' with h |h
            · exact hanc2 j e hjl h
            · simp only[pP,lb,Bool.and_eq_true,Bool.not_eq_true']at h
              exact kL h.2 (oO.1 hk) (List.mem_map.2 ⟨kv,hkv,rfl⟩)
          · simp only[e];simp;omega
      have hset:∀ j,(listed.setIfInBounds i true).getD j false=(decide (j=i)||listed.getD j false):=by
        intro j
        by_cases e:j=i
        · subst e
          have:j<listed.size:=by omega
          simp [Array.getD_eq_getD_getElem?,this]
        · rw[getD_set_ne false (fun h=>e h.symm)];simp [e]
      have step:=hst i l[i] R W hol htr τ a w hs hreads (wpAny Γ.P .any l.toArray (lift Γ K) fuel (listed.setIfInBounds i true)) (lift Γ K) (fun a' w' hs'=>by
        refine ih _ (W++τ) a' w' (by simp [hsz]) ?_ ?_ hs' ?_
        · have:unl l.length (listed.setIfInBounds i true)<unl l.length listed:=by
            refine BA (x:=i) (fun x hx hq=> ?_) (by simpa using hil) (by rw[x2];rfl) ?_
            · by_cases e:x=i
              · subst e;rw[x2];rfl
              · rw[getD_set_ne true (fun h=>e h.symm)]at hq;exact hq
            · have:i<listed.size:=by omega
              simp [Array.getD_eq_getD_getElem?,this]
          omega
        · intro q o hq hl j hj
          rw[hset]at hl⊢
          by_cases e:q=i
          · subst e
            rw[hol]at hq;injection hq with hq;subst hq
            rw[hdep j hj];simp
          · have:listed.getD q false=true:=by simpa [e] using hl
            rw[hc q o hq this j hj];simp
        · intro k
          rw[fh,hg]
          obtain⟨us,vs,hsp,hu',hv'⟩:=vA htr
          by_cases hk:has W k=true
          · rw[if_pos hk,hsp,sM (fun j V hj hkj=> ?_)]
            · simp only[nA,hset];simp [hk]
            · have hji:=hu' j V hj
              obtain⟨R',hR',hjl⟩:=hDlt j V (by rw[hsp];simp [hj])
              rw[hset]
              have hne:¬j=i:=by omega
              rcases Bool.eq_false_or_eq_true (listed.getD j false)with e |e
              · exfalso
                rcases hpair hji htr hR' with h |h
                · exact hanc2 j e hjl h
                · simp only[pP,lb,Bool.and_eq_true,Bool.not_eq_true']at h
                  exact kL h.1.2 (oO.1 hk) (oO.1 hkj)
              · simp [hne,e]
          · rw[if_neg hk]
            refine lc fun j V hj hkj=> ?_
            rw[hset]
            by_cases e:j=i
            · subst e
              obtain⟨R',hR',_⟩:=hDlt j V hj
              rw[htr]at hR';injection hR' with hR'
              injection hR' with _ h2
              rw[h2]at hk;exact absurd hkj hk
            · simp [e])
      split at step<;>rename_i hw
      · dsimp only;rw[if_pos hw];exact .inl step
      · dsimp only;rw[if_neg hw];exact step
  refine key l.length (Array.replicate l.length false) σ a { w with drawn:=w.drawn+1 } (by simp) ?_ ?_ ?_ ?_
  · unfold unl
    exact Nat.le_trans (List.length_filter_le _ _) (by simp)
  · intro i o hi hl
    have hil:=(List.getElem?_eq_some_iff.1 hi).1
    simp [Array.getD_eq_getD_getElem?,hil]at hl
  · obtain⟨ρ,I,hs⟩:=hs
    exact⟨ρ,I,hs.world (w':=w.drew) ⟨rfl,rfl,rfl,Nat.le_refl _,fun _ _=>rfl⟩⟩
  · intro k
    refine(uN fun j W hj _=> ?_).symm
    obtain⟨R',hR'⟩:=wm.1 hj
    have hjl:j<l.length:=by have:=(List.getElem?_eq_some_iff.1 hR').1;omega
    simp [Array.getD_eq_getD_getElem?,hjl]
end Cl
end Go.Proofs.YtgmkkfdnmdohlaaGreatDoor
namespace Go.Proofs.YtgmkkfdnmdohlaaGreatDoor
namespace Cl
open Go.ChangeShapes Go.WideShapes Go.ChangeAt Go.RowKit
def Bd (n:St→Prop) (K:Exit→St→Prop):Exit→St→Prop
 | .normal,σ=>n σ
 | e,σ=>K e σ
def yR (id:Nat) (K:Exit→St→Prop):Exit→St→Prop
 | .exit id',σ=>bif Nat.beq id' id then K .normal σ else K (.exit id') σ
 | e,σ=>K e σ
section
variable {Γ:Cx} {K:Exit→St→Prop} {σ:St}
theorem IK {x y:Code} (h:Wp Γ x (Bd (fun σ=>Wp Γ y K σ) K) σ):Wp Γ (.seq x y) K σ:=by
 intro a w hs
 refine wp_seq (wp_mono (h a w hs) fun e a' w' hq=> ?_)
 obtain⟨σ',hs',hk⟩:=hq
 cases e<;>first |exact hk a' w' hs' |exact⟨σ',hs',hk⟩
theorem CY {id:Nat} {c:Code} (h:Wp Γ c (yR id K) σ):Wp Γ (.block id c) K σ:=by
  intro a w hs
  refine wp_block (wp_mono (h a w hs) fun e a' w' hq=> ?_)
  obtain⟨σ',hs',hk⟩:=hq
  cases e with
  | exit id'=>
    simp only[yR]at hk
    simp only[Exit.inBlock]
    by_cases e:id'=id
    · subst e
      rw[if_pos rfl]
      have:Nat.beq id' id'=true:=by simp
      rw[this]at hk;exact⟨σ',hs',hk⟩
    · rw[if_neg e]
      have:Nat.beq id' id=false:=by
        rcases Bool.eq_false_or_eq_true (Nat.beq id' id)with h |h
        · exact absurd (Nat.eq_of_beq_eq_true h) e
        · exact h
      rw[this]at hk;exact⟨σ',hs',hk⟩
  | _=>exact⟨σ',hs',hk⟩
theorem aU {id:Nat} (h:K (.exit id) σ):Wp Γ (.exit id) K σ:=fun _ _ hs=>wp_exit ⟨σ,hs,h⟩
theorem aC (h:K .ret σ):Wp Γ .ret K σ:=fun _ _ hs=>wp_ret ⟨σ,hs,h⟩
theorem Gg (h:K .normal σ):Wp Γ .skip K σ:=fun _ _ hs=>wp_skip ⟨σ,hs,h⟩
theorem Gf {t:Nat} {x y:Code} (b:Bool) (hb:get σ (.s t)=some (.s (V.v (.bool b)))) (ht:b=true→Wp Γ x K σ) (hf:b=false→Wp Γ y K σ):Wp Γ (.cond (.tmp t) x y) K σ:=by
 intro a w hs
 obtain⟨ρ,I,h⟩:=hs
 have he:a.eval (.tmp t)= .bool b:=h.sl t _ hb
 exact wp_cond_split he (fun e=>ht e a w ⟨ρ,I,h⟩) (fun e=>hf e a w ⟨ρ,I,h⟩)
theorem II {t:Nat} {x y:Code} (hb:get σ (.s t)=some (.s (V.v (.bool true)))) (ht:Wp Γ x K σ):Wp Γ (.cond (.tmp t) x y) K σ:=Gf true hb (fun _=>ht) (fun h=>by cases h)
theorem IH {t:Nat} {x y:Code} (hb:get σ (.s t)=some (.s (V.v (.bool false)))) (hf:Wp Γ y K σ):Wp Γ (.cond (.tmp t) x y) K σ:=Gf false hb (fun h=>by cases h) (fun _=>hf)
def eO (Γ:Cx) (σ τ:St):Prop:=∀ a w,Sats Γ σ a w→Sats Γ τ a w
theorem dW {c:Code} {τ:St} (h:eO Γ σ τ) (hw:Wp Γ c K τ):Wp Γ c K σ:=fun a w hs=>hw a w (h a w hs)
theorem bg {c:Code} {α:Type} (inv:α→Prop) (head:α→St) (μ :α→Nat) (x0:α) (h0:inv x0) (hσ:eO Γ σ (head x0))
    (round:∀ x,inv x→Wp Γ c (Bd (fun σ'=>∃ y,inv y∧ μ y< μ x∧eO Γ σ' (head y)) K) (head x)):Wp Γ (.loop c) K σ:=by
  classical
  intro a w hs
  let Pn:Act→World→Nat→Prop:=fun a w n=>∃ x,inv x∧Sats Γ (head x) a w∧ μ x=n
  let M:Act→World→Nat:=fun a w=>if h:∃ n,Pn a w n then Classical.choose (show ∃ n,Pn a w n∧∀ m,Pn a w m→n≤m from by
    obtain⟨n,hn⟩:=h
    induction n using Nat.strongRecOn with
    | _ n ih=>
      by_cases hm:∃ m,m<n∧Pn a w m
      · obtain⟨m,hm,hp⟩:=hm;exact ih m hm hp
      · exact⟨n,hn,fun m hp=>Nat.le_of_not_lt fun hlt=>hm ⟨m,hlt,hp⟩⟩)else 0
  have hM:∀ a w,(∃ n,Pn a w n)→Pn a w (M a w)∧∀ m,Pn a w m→M a w≤m:=fun a w h=>by
    simp only[M,dif_pos h]
    exact Classical.choose_spec (p:=fun n=>Pn a w n∧∀ m,Pn a w m→n≤m) _
  refine wp_loop (fun a w=>∃ n,Pn a w n) M ⟨_,x0,h0,hσ a w hs,rfl⟩ fun a w hI=> ?_
  obtain⟨⟨x,hx,hsx,hmx⟩,_⟩:=hM a w hI
  refine wp_mono (round x hx a w hsx) fun e a' w' hq=> ?_
  obtain⟨σ',hs',hk⟩:=hq
  cases e with
  | normal=>
    obtain⟨y,hy,hlt,hwk⟩:=hk
    have hp:Pn a' w' (μ y):=⟨y,hy,hwk a' w' hs',rfl⟩
    have:=(hM a' w' ⟨_,hp⟩).2 _ hp
    exact⟨⟨_,hp⟩,by omega⟩
  | _=>exact⟨σ',hs',hk⟩
end
def A.ren (π:Nat→Nat):A→A
 | .sl h off n=> .sl (π h) off n
 | .ptr h off=> .ptr (π h) off
 | .fn f caps=> .fn f (caps.map π)
 | x=>x
def A.avd (F:List Nat):A→Bool
 | .sl h _ _=> !F.contains h
 | .ptr h _=> !F.contains h
 | .fn _ caps=>caps.all fun h=> !F.contains h
 | _=>true
def B.ren (π:Nat→Nat):B→B
 | .a x=> .a (x.ren π)
 | .agg xs=> .agg (xs.map (A.ren π))
def B.avd (F:List Nat):B→Bool
 | .a x=>x.avd F
 | .agg xs=>xs.all (A.avd F)
def V.ren (π:Nat→Nat):V→V
 | .b x=> .b (x.ren π)
 | .tup xs=> .tup (xs.map (B.ren π))
def V.avd (F:List Nat):V→Bool
 | .b x=>x.avd F
 | .tup xs=>xs.all (B.avd F)
theorem RelA.ren {π:Nat→Nat} {F:List Nat} {ρ:Nat→Option Place} {I:Nat→Prop} {w:World} {x:A} {u:Value} (h:RelA ρ I w (x.ren π) u) (hF:x.avd F=true):
    RelA (fun h=>if F.contains h then none else ρ (π h)) I w x u:=by
  cases x with
  | sl h0 off n=>obtain⟨p,A0,hp,r⟩:=h;simp only[A.avd,Bool.not_eq_true']at hF;exact⟨p,A0,by simp only[hF];exact hp,r⟩
  | ptr h0 off=>obtain⟨p,hp,r⟩:=h;simp only[A.avd,Bool.not_eq_true']at hF;exact⟨p,by simp only[hF];exact hp,r⟩
  | fn f caps=>
    obtain⟨vs,e,hl,hx⟩:=h
    refine⟨vs,e,by simpa using hl,fun j h hj=> ?_⟩
    obtain⟨p,hp,hv⟩:=hx j (π h) (by simp [hj])
    simp only[A.avd,List.all_eq_true,Bool.not_eq_true']at hF
    exact⟨p,by simp only[hF h (List.mem_of_getElem? hj)];exact hp,hv⟩
  | _=>exact h
theorem RelB.ren {π:Nat→Nat} {F:List Nat} {ρ:Nat→Option Place} {I:Nat→Prop} {w:World} {x:B} {u:Value} (h:RelB ρ I w (x.ren π) u) (hF:x.avd F=true):
    RelB (fun h=>if F.contains h then none else ρ (π h)) I w x u:=by
  cases x with
  | a x=>exact RelA.ren h hF
  | agg xs=>
    obtain⟨cs,e,hl,hx⟩:=h
    simp only[B.avd,List.all_eq_true]at hF
    exact⟨cs,e,by simpa using hl,fun j x c h1 h2=>RelA.ren (hx j _ c (by simp [h1]) h2) (hF x (List.mem_of_getElem? h1))⟩
theorem RelV.ren {π:Nat→Nat} {F:List Nat} {ρ:Nat→Option Place} {I:Nat→Prop} {w:World} {x:V} {u:Value} (h:RelV ρ I w (x.ren π) u) (hF:x.avd F=true):
    RelV (fun h=>if F.contains h then none else ρ (π h)) I w x u:=by
  cases x with
  | b x=>exact RelB.ren h hF
  | tup xs=>
    obtain⟨cs,e,hl,hx⟩:=h
    simp only[V.avd,List.all_eq_true]at hF
    exact⟨cs,e,by simpa using hl,fun j x c h1 h2=>RelB.ren (hx j _ c (by simp [h1]) h2) (hF x (List.mem_of_getElem? h1))⟩
def qJ (π:Nat→Nat) (F:List Nat) (o o':Ob):Prop:=
 o'.T=o.T∧o'.s=o.s∧(o.ex=true→o'.ex=true)∧o'.cells=o.cells.map (A.ren π)∧∀ x∈o.cells,x.avd F=true
theorem tz {π:Nat→Nat} {F:List Nat} {T s:Nat} {ex ex':Bool} {xs:List Value} (h:ex=true→ex'=true):qJ π F ⟨T,s,ex,pl xs⟩ ⟨T,s,ex',pl xs⟩:=by
 refine⟨rfl,rfl,h,?_,fun x hx=> ?_⟩
 ·simp only[pl,List.map_map];exact List.map_congr_left fun _ _=>rfl
 ·simp only[pl,List.mem_map]at hx;obtain⟨v,_,rfl⟩:=hx;rfl
theorem gv {π:Nat→Nat} {F:List Nat} {T s:Nat} {ex ex':Bool} {xs ys:List A} (h:ex=true→ex'=true) (h1:xs.map (A.ren π)=ys) (h2:xs.all (A.avd F)=true):qJ π F ⟨T,s,ex,xs⟩ ⟨T,s,ex',ys⟩:=by
 subst h1
 exact⟨rfl,rfl,h,rfl,fun x hx=>List.all_eq_true.1 h2 x hx⟩
def Wk (σ:St) (π:Nat→Nat) (F:List Nat):St→Prop
 | []=>True
 | (.s k,some (.s v))::r=>(∃ v',get σ (.s k)=some (.s v')∧v.ren π=v'∧v.avd F=true)∧Wk σ π F r
 | (.o h,some (.o o))::r=>(∃ o',get σ (.o (π h))=some (.o o')∧qJ π F o o'∧F.contains h=false)∧Wk σ π F r
 | (.o h,some .free)::r=>F.contains h=true∧Wk σ π F r
 | _::r=>Wk σ π F r
def dS:St→List Nat
 | []=>[]
 | (.o h,some (.o _))::r=>h::dS r
 | _::r=>dS r
def sG (π:Nat→Nat):List Nat→Bool
 | []=>true
 | h::r=>(r.all fun h'=>Nat.beq h' h|| !(Nat.beq (π h') (π h)))&&sG π r
theorem nT {π:Nat→Nat} {l:List Nat} (h:sG π l=true) {x y:Nat} (hx:x∈l) (hy:y∈l) (e:π x=π y):x=y:=by
  induction l with
  | nil=>cases hx
  | cons a l ih=>
    simp only[sG,Bool.and_eq_true,List.all_eq_true,Bool.or_eq_true,Bool.not_eq_true']at h
    obtain⟨h1,h2⟩:=h
    rcases List.mem_cons.1 hx with ex |hx'<;>rcases List.mem_cons.1 hy with ey |hy'
    · rw[ex,ey]
    · rcases h1 y hy' with h |h
      · rw[ex];exact(Nat.eq_of_beq_eq_true h).symm
      · rw[←e,ex]at h;simp at h
    · rcases h1 x hx' with h |h
      · rw[ey];exact Nat.eq_of_beq_eq_true h
      · rw[e,ey]at h;simp at h
    · exact ih h2 hx' hy'
theorem Wk.slot {σ:St} {π:Nat→Nat} {F:List Nat} {τ:St} (h:Wk σ π F τ) {k:Nat} {v:V} (hk:get τ (.s k)=some (.s v)):∃ v',get σ (.s k)=some (.s v')∧v.ren π=v'∧v.avd F=true:=by
  induction τ with
  | nil=>cases hk
  | cons a τ ih=>
    obtain⟨k',c⟩:=a
    simp only[get]at hk
    rcases Bool.eq_false_or_eq_true (Key.eq k' (.s k))with e |e<;>rw[e]at hk
    · obtain rfl:=Key.eq_iff.1 e
      simp only[cond_true]at hk
      subst hk
      exact h.1
    · simp only[cond_false]at hk
      refine ih ?_ hk
      match k',c,h with
      | .s _,some (.s _),h=>exact h.2
      | .s _,some (.o _),h=>exact h
      | .s _,some .free,h=>exact h
      | .s _,none,h=>exact h
      | .o _,some (.s _),h=>exact h
      | .o _,some (.o _),h=>exact h.2
      | .o _,some .free,h=>exact h.2
      | .o _,none,h=>exact h
theorem Wk.obj {σ:St} {π:Nat→Nat} {F:List Nat} {τ:St} (h:Wk σ π F τ) {y:Nat} {o:Ob} (hk:get τ (.o y)=some (.o o)):(∃ o',get σ (.o (π y))=some (.o o')∧qJ π F o o'∧F.contains y=false)∧y∈dS τ:=by
  induction τ with
  | nil=>cases hk
  | cons a τ ih=>
    obtain⟨k',c⟩:=a
    simp only[get]at hk
    rcases Bool.eq_false_or_eq_true (Key.eq k' (.o y))with e |e<;>rw[e]at hk
    · obtain rfl:=Key.eq_iff.1 e
      simp only[cond_true]at hk
      subst hk
      exact⟨h.1,by simp [dS]⟩
    · simp only[cond_false]at hk
      have hr:Wk σ π F τ:=by
        match k',c,h with
        | .s _,some (.s _),h=>exact h.2
        | .s _,some (.o _),h=>exact h
        | .s _,some .free,h=>exact h
        | .s _,none,h=>exact h
        | .o _,some (.s _),h=>exact h
        | .o _,some (.o _),h=>exact h.2
        | .o _,some .free,h=>exact h.2
        | .o _,none,h=>exact h
      obtain⟨h1,h2⟩:=ih hr hk
      refine⟨h1,?_⟩
      match k',c with
      | .s _,some (.s _)=>exact h2
      | .s _,some (.o _)=>exact h2
      | .s _,some .free=>exact h2
      | .s _,none=>exact h2
      | .o _,some (.s _)=>exact h2
      | .o _,some (.o _)=>exact List.mem_cons_of_mem _ h2
      | .o _,some .free=>exact h2
      | .o _,none=>exact h2
theorem Wk.free {σ:St} {π:Nat→Nat} {F:List Nat} {τ:St} (h:Wk σ π F τ) {y:Nat} (hk:get τ (.o y)=some .free):F.contains y=true:=by
  induction τ with
  | nil=>cases hk
  | cons a τ ih=>
    obtain⟨k',c⟩:=a
    simp only[get]at hk
    rcases Bool.eq_false_or_eq_true (Key.eq k' (.o y))with e |e<;>rw[e]at hk
    · obtain rfl:=Key.eq_iff.1 e
      simp only[cond_true]at hk
      subst hk
      exact h.1
    · simp only[cond_false]at hk
      refine ih ?_ hk
      match k',c,h with
      | .s _,some (.s _),h=>exact h.2
      | .s _,some (.o _),h=>exact h
      | .s _,some .free,h=>exact h
      | .s _,none,h=>exact h
      | .o _,some (.s _),h=>exact h
      | .o _,some (.o _),h=>exact h.2
      | .o _,some .free,h=>exact h.2
      | .o _,none,h=>exact h
def okw (keep:List Nat) (π:Nat→Nat) (F:List Nat):Bool:=keep.all fun h=>Nat.beq (π h) h&& !F.contains h
theorem IC {Γ:Cx} {σ τ:St} (π:Nat→Nat) (F:List Nat) (hi:sG π (dS τ)=true) (h:Wk σ π F τ) (hx:okw Γ.keep π F=true:=by kernel_rfl):eO Γ σ τ:=by
 intro a w ⟨ρ,I,hs⟩
 refine⟨fun h=>if F.contains h then none else ρ (π h),I,hs.n,hs.d,fun k x h' hk hg hh=> ?_,⟨fun y hy=> ?_,hs.kp.2⟩,fun k v hk=> ?_,?_⟩
 ·obtain⟨v',h1,h2,h3⟩:=h.slot hg
  subst h2
  have hc:F.contains h'=false∧(x.ren π).hd (π h'):=by
   cases x with
   | sl a b c=>obtain⟨rfl,hp⟩:=(show a=h'∧0<c from hh);exact⟨by simpa [V.avd,B.avd,A.avd] using h3,rfl,hp⟩
   | ptr a b=>obtain rfl:=(show a=h' from hh);exact⟨by simpa [V.avd,B.avd,A.avd] using h3,rfl⟩
   | _=>exact(show False from hh).elim
  obtain⟨q,e1,e2⟩:=hs.fx k (x.ren π) (π h') hk h1 hc.2
  exact⟨q,e1,by simp only[hc.1];exact e2⟩
 ·obtain⟨q,e1,e2⟩:=hs.kp.1 y hy
  unfold okw at hx
  rw[List.all_eq_true]at hx
  have h2:=hx y hy
  simp only[Bool.and_eq_true,Nat.beq_eq_true_eq,Bool.not_eq_true']at h2
  have h3:π y=y:=Nat.eq_of_beq_eq_true (by simpa using h2.1)
  exact⟨q,e1,by simp only[h2.2,Bool.false_eq_true,if_false];rw[h3];exact e2⟩
 ·obtain⟨v',h1,h2,h3⟩:=h.slot hk
  subst h2
  exact RelV.ren (hs.sl k _ h1) h3
 ·have hob:∀ y o,get τ (.o y)=some (.o o)→∃ o',get σ (.o (π y))=some (.o o')∧qJ π F o o'∧(if F.contains y then none else ρ (π y))=ρ (π y):=fun y o hy=>by
   obtain⟨⟨o',h1,h2,h3⟩,_⟩:=h.obj hy
   exact⟨o',h1,h2,by rw[h3];rfl⟩
  have hin:∀ {y j T n s xs b cap},RowIn τ w (fun h=>if F.contains h then none else ρ (π h)) y j T n s xs b cap→RowIn σ w ρ (π y) j T n s xs b cap:=by
   rintro y j T n s xs b cap ⟨o1,p1,h1,h2,h3,h4,h5⟩
   obtain⟨o',q1,⟨_,_,_,q2,_⟩,q3⟩:=hob y o1 h1
   exact⟨o',p1,q1,q3.symm.trans h2,h3,by rw[q2,List.getElem?_map,h4];rfl,h5⟩
  have hrw:Rws τ w (fun h=>if F.contains h then none else ρ (π h)) I:=by
   refine hs.m.rs.map (fun y j=>(π y,j)) hin (fun {y j _ _ _ _ _ _ y' j' _ _ _ _ _} hr hr' e=> ?_) (fun hr=>⟨rfl,(hs.m.rs.ok hr).ni,(hs.m.rs.ok hr).lt⟩) fun hr h1 h2 h3=> ?_
   ·injection e with e1 e2
    obtain⟨o1,_,g1,_⟩:=hr
    obtain⟨o2,_,g2,_⟩:=hr'
    exact⟨nT hi (h.obj g2).2 (h.obj g1).2 e1,e2⟩
   ·obtain⟨o',q1,_,q3⟩:=hob _ _ h1
    exact hs.m.rs.sep hr q1 (q3.symm.trans h2) h3
  refine⟨fun y o hy=> ?_,fun y hy=>by simp only[h.free hy,if_true],fun y p o hy hp hn=> ?_,fun y z p p' o o' hy hz hp hp' hn hn' hb=> ?_,hs.m.im,hrw,fun hr=>hs.m.rp (hin hr),hs.m.fm⟩
  ·obtain⟨o',h1,⟨r1,r2,r3,r4,r5⟩,h3⟩:=hob y o hy
   obtain⟨p,hp,q1,q2,q3,qz,q4⟩:=hs.m.ow _ _ h1
   refine⟨p,h3.trans hp,by rw[q1,r2],?_,fun e=>q3 (r3 e),qz,fun hn=> ?_⟩
   ·rw[r4,List.length_map]at q2;exact q2
   ·obtain⟨cur,c1,c2,c3,c4⟩:=q4 hn
    refine⟨cur,by rw[←r1];exact c1,c2,fun e=>c3 (r3 e),fun j x hj=> ?_⟩
    obtain⟨u,hu,hr⟩:=c4 j (x.ren π) (by rw[r4];simp [hj])
    exact⟨u,hu,RelA.ren hr (r5 x (List.mem_of_getElem? hj))⟩
  ·obtain⟨o',h1,_,h3⟩:=hob y o hy
   replace hp:=h3.symm.trans hp
   exact hs.m.pl _ p o' h1 hp hn
  ·obtain⟨o1,h1,_,h3⟩:=hob y o hy
   obtain⟨o2,h4,_,h6⟩:=hob z o' hz
   replace hp:=h3.symm.trans hp;replace hp':=h6.symm.trans hp'
   exact nT hi (h.obj hy).2 (h.obj hz).2 (hs.m.inj _ _ p p' o1 o2 h1 h4 hp hp' hn hn' hb)
end Cl
end Go.Proofs.YtgmkkfdnmdohlaaGreatDoor
namespace Go.Proofs.YtgmkkfdnmdohlaaGreatDoor
namespace Cl
open Go.ChangeShapes Go.WideShapes Go.ChangeAt Go.RowKit
def ρ0:Nat→Option Place:=fun _=>none
def I0 (w:World):Nat→Prop:=fun b=>b<w.heap.size
def Args (w:World) (bs:List B) (args:List Value):Prop:=args.length=bs.length∧∀ (j:Nat) b u,bs[j]? =some b→args[j]? =some u→RelB ρ0 (I0 w) w b u
inductive RB where
 | val (v:Value)
 | row (T s n:Nat) (xs:List Value)
 | reg (T s n:Nat) (xs:List Value)
def tY (base:Nat) (w:World) (v:Value):RB→Prop
 | .val u=>v=u
 | .row T s n xs=>w.ownsRow base T s v n xs
 | .reg T s n xs=>∃ u,v= .agg #[u]∧w.ownsRow base T s u n xs
def wV (base:Nat) (w:World) (v:Value):List RB→Prop
 | [r]=>tY base w v r
 | rs=>∃ vs:List Value,v= .tuple vs.toArray∧vs.length=rs.length∧(∀ (j:Nat) r u,rs[j]? =some r→vs[j]? =some u→tY base w u r)∧
   ∀ (j j':Nat) u u',j≠j'→vs[j]? =some u→vs[j']? =some u'→u.ownBlock=none∨u.ownBlock≠u'.ownBlock
def ji (P:Program) (f:Nat):Prop:=∃ fn,P.funcs[f]? =some fn∧(fn.name== "runtime.NumGoroutine")=false∧fn.body.isNone=false
def Fn (P:Program) (f:Nat) (bs:List B) (rs:List RB):Prop:=
 ji P f∧∀ w args,Args w bs args→Calls P f args.toArray w fun e w'=>∃ v,e= .returned v∧wV w.heap.size w' v rs∧Below w.heap.size w w'
inductive BRes (σ:St):B→RB→Prop
 | val (v:Value):BRes σ (.a (.val v)) (.val v)
 | agg (vs:List Value):BRes σ (.agg (vs.map A.val)) (.val (.agg vs.toArray))
 | row (h n T s:Nat) (xs:List Value) (hg:get σ (.o h)=some (.o ⟨T,s,true,pl xs⟩)) (hl:xs.length=n*s):BRes σ (.a (.sl h 0 n)) (.row T s n xs)
 | nil (T s:Nat):BRes σ (.a (.val (.slice none 0 0))) (.row T s 0 [])
 | reg (h n T s:Nat) (xs:List Value) (hg:get σ (.o h)=some (.o ⟨T,s,true,pl xs⟩)) (hl:xs.length=n*s):BRes σ (.agg [.sl h 0 n]) (.reg T s n xs)
 | regnil (T s:Nat):BRes σ (.agg [.val (.slice none 0 0)]) (.reg T s 0 [])
theorem AI {Γ:Cx} {σ:St} {a:Act} {w:World} {ρ:Nat→Option Place} {I:Nat→Prop} (hs:Sat Γ σ a w ρ I) (hw:∀ b,¬Γ.own b) {h n T s:Nat} {xs:List Value} (hg:get σ (.o h)=some (.o ⟨T,s,true,pl xs⟩)) (hl:xs.length=n*s) {u:Value} (hr:RelA ρ I w (.sl h 0 n) u):
  w.ownsRow Γ.W.heap.size T s u n xs:=by
 obtain⟨p,A,hp,rfl,h2,h3⟩:=hr
 obtain⟨p',hp',q1,q2,q3,qz,q4⟩:=hs.m.ow h _ hg
 rw[hp]at hp';injection hp' with hp';subst hp'
 obtain⟨x1,x2,x3⟩:=q3 rfl
 have h3':=h3 (.inl ⟨x1,rfl⟩)
 refine⟨hl,?_⟩
 rcases Bool.eq_false_or_eq_true p.live with hv |hv
 ·rw[hv,if_pos rfl]at h3'
  subst h3'
  obtain⟨cur,c1,c2,c3,c4⟩:=q4 hv
  obtain⟨b1,b2,b3⟩:=hs.m.pl h p _ hg hp hv
  refine .inr ⟨p.block,p.cap-0,cur,by simp [x2],b2.resolve_left (hw _),c1,by omega,by omega,?_,?_⟩
  ·have h8:=c3 rfl;simp only at q1;rw[h8,q1,Nat.sub_zero]
  ·have c3':=c3 rfl
   simp only at q1 c4
   apply List.ext_getElem?
   intro j
   rw[List.getElem?_take]
   by_cases hj:j<n*s
   ·rw[if_pos hj]
    have hx:xs[j]? =some (xs[j]'(by omega)):=List.getElem?_eq_getElem (by omega)
    obtain⟨u,hu,hru⟩:=c4 j (.val (xs[j]'(by omega))) (jY hx)
    rw[x2,Nat.zero_add]at hu
    have:u=xs[j]'(by omega):=hru
    rw[hx,←this];simpa using hu
   ·rw[if_neg hj,List.getElem?_eq_none (by omega)]
 ·have hc:=qz hv
  rw[hv]at h3'
  simp only[Bool.false_eq_true,if_false]at h3'
  subst h3'
  have hn:n=0:=by omega
  exact .inl ⟨by rw[hc,hn],hn⟩
theorem BRes.ok {Γ:Cx} {σ:St} {a:Act} {w:World} {ρ:Nat→Option Place} {I:Nat→Prop} (hs:Sat Γ σ a w ρ I) (hw:∀ b,¬Γ.own b) {b:B} {r:RB} (h:BRes σ b r) {u:Value} (hr:RelB ρ I w b u):tY Γ.W.heap.size w u r:=by
  cases h with
  | val v=>exact hr
  | agg vs=>exact Fl hr
  | row h n T s xs hg hl=>exact AI hs hw hg hl hr
  | nil T s=>exact⟨by simp,.inl ⟨hr,rfl⟩⟩
  | reg h n T s xs hg hl=>
    obtain⟨cs,rfl,hlen,hx⟩:=hr
    match cs,hlen with
    | [c],_=>exact⟨c,rfl,AI hs hw hg hl (hx 0 _ c rfl rfl)⟩
  | regnil T s=>
    obtain⟨cs,rfl,hlen,hx⟩:=hr
    match cs,hlen with
    | [c],_=>exact⟨c,rfl,by simp,.inl ⟨hx 0 _ c rfl rfl,rfl⟩⟩
inductive VRes (P:Program) (σ:St):ResultVar→RB→Prop
 | tmp (t:Nat) (b:B) (r:RB) (hg:get σ (.s t)=some (.s (.b b))) (hb:BRes σ b r):VRes P σ (.tmp t) r
 | cells (t T h:Nat) (o:Ob) (r:RB) (hg:get σ (.s t)=some (.s (V.p h 0))) (ho:get σ (.o h)=some (.o o)) (hT:TI P T true o.cells.length) (hp:0<o.cells.length) (hb:BRes σ (.agg o.cells) r):VRes P σ (.cell t T) r
 | cell (t T h n:Nat) (o:Ob) (x:A) (r:RB) (hg:get σ (.s t)=some (.s (V.p h 0))) (ho:get σ (.o h)=some (.o o)) (hT:TI P T false n) (hx:o.cells[0]? =some x) (hb:BRes σ (.a x) r):VRes P σ (.cell t T) r
def jP (tmps:Array Value):ResultVar→Sem Value
 | .tmp t=>pure (tmps.getD t undef)
 | .cell a t=>do loadVar t (←asAddr (tmps.getD a undef))
theorem VRes.run {Γ:Cx} {σ:St} {a:Act} {w:World} {ρ:Nat→Option Place} {I:Nat→Prop} (hs:Sat Γ σ a w ρ I) {rv:ResultVar} {r:RB} (h:VRes Γ.P σ rv r):∃ u b,(jP a.tmps rv).run Γ.P w= .ok u w∧RelB ρ I w b u∧BRes σ b r:=by
  cases h with
  | tmp t b r hg hb=>exact⟨_,b,rfl,hs.sl t _ hg,hb⟩
  | cells t T h o r hg ho hT hp hb=>
    have hr:=ab (Γ:=Γ) (d:=0) (ty:=0) (pos:= "") (af:= #[]) (g:=none) (t:=t) (T:=T) (n:=o.cells.length) (h:=h) (off:=0) (o:=o) (xs:=o.cells)
    obtain⟨p,hp',he⟩:=hs.sl t _ hg
    have how:=hs.m.ow h o ho
    obtain⟨p',cur,hpp,_,hl,_,hgg,hsz,_,hc⟩:=iI (j:=0) how hp
    rw[hp']at hpp;injection hpp with hpp;subst hpp
    let cs:List Value:=(cur.toList.drop p.base).take o.cells.length
    have hcl:cs.length=o.cells.length:=by simp [cs];omega
    have hcg:∀ (j:Nat) v,cs[j]? =some v→cur[p.base+j]? =some v:=fun j v hv=>by
      have hjn:j<o.cells.length:=by rw[←hcl];exact(List.getElem?_eq_some_iff.1 hv).1
      simpa [cs,List.getElem?_take,hjn,List.getElem?_drop] using hv
    refine⟨.agg cs.toArray,.agg o.cells,?_,⟨cs,rfl,hcl,fun j x c h1 h2=> ?_⟩,hb⟩
    · obtain⟨⟨dd,hu,hd⟩,hi⟩:=hT
      simp only[jP]
      have he':a.tmps.getD t undef= .pointer (some ⟨p.block,p.base,none⟩):=he
      rw[he']
      rw[Sem.run_bind]
      simp only[asAddr,Sem.run_pure,Result.andThen_ok]
      exact run_loadVar_mid w p.block p.base T cs dd (fun j v hv=>by simp [World.cell?,hgg,hcg j v hv]) hu hd (by rw[hi,hcl])
    · obtain⟨u,hu,hru⟩:=hc j x h1
      have:=hcg j c h2
      rw[hu]at this;injection this with this
      subst this;exact hru
  | cell t T h n o x r hg ho hT hx hb=>
    obtain⟨p,hp',he⟩:=hs.sl t _ hg
    have how:=hs.m.ow h o ho
    obtain⟨p',cur,hpp,_,hl,_,hgg,hsz,_,hc⟩:=iI (j:=0) how (List.getElem?_eq_some_iff.1 hx).1
    rw[hp']at hpp;injection hpp with hpp;subst hpp
    obtain⟨u,hu,hru⟩:=hc 0 x hx
    refine⟨u,.a x,?_,hru,hb⟩
    simp only[jP]
    have he':a.tmps.getD t undef= .pointer (some ⟨p.block,p.base,none⟩):=he
    have hl:=fc (w:=w) (ad:=⟨p.block,p.base,none⟩) (v:=u) hT (by simpa [World.cell?,hgg] using hu)
    rw[he',Sem.run_bind]
    simp only[asAddr,Sem.run_pure,Result.andThen_ok]
    simpa [Instr.loadAt,Instr.sureAddr] using hl
section
variable {P:Program} {fn:Func} {tmps:Array Value} {w:World}
theorem lr (fn:Func) (tmps:Array Value):results fn tmps=(do let vs ←fn.results.mapM (jP tmps);pure (if h:vs.size=1 then vs[0]else .tuple vs)):=by
 unfold results
 have e:(fun(x:ResultVar)=>(match x with
  | .tmp t=>(pure (tmps.getD t undef):Sem Value)
  | .cell a t=>do loadVar t (←asAddr (tmps.getD a undef))))=jP tmps:=by funext x;cases x<;>rfl
 exact congrArg (fun f=>(do let vs ←fn.results.mapM f;pure (if h:vs.size=1 then vs[0]else .tuple vs):Sem Value)) e
theorem yy {rv:ResultVar} (h:fn.results= #[rv]) {v:Value} (hr:(jP tmps rv).run P w= .ok v w):(results fn tmps).run P w= .ok v w:=by
 simp [lr,h,hr]
theorem yz {r1 r2:ResultVar} (h:fn.results= #[r1,r2]) {v1 v2:Value} (h1:(jP tmps r1).run P w= .ok v1 w) (h2:(jP tmps r2).run P w= .ok v2 w):(results fn tmps).run P w= .ok (.tuple #[v1,v2]) w:=by
 simp [lr,h,h1,h2]
theorem Fq {r1 r2 r3:ResultVar} (h:fn.results= #[r1,r2,r3]) {v1 v2 v3:Value} (h1:(jP tmps r1).run P w= .ok v1 w) (h2:(jP tmps r2).run P w= .ok v2 w) (h3:(jP tmps r3).run P w= .ok v3 w):(results fn tmps).run P w= .ok (.tuple #[v1,v2,v3]) w:=by
 simp [lr,h,h1,h2,h3]
end
def ini (bs:List B) (free:List Nat):St:=(bs.zipIdx.map fun x=>(Key.s x.2,some (Cell.s (.b x.1))))++free.map fun h=>(Key.o h,some Cell.free)
theorem uF {bs:List B} {free:List Nat} {k:Nat} {v:V} (h:get (ini bs free) (.s k)=some (.s v)):∃ b,bs[k]? =some b∧v= .b b:=by
  have key:∀ (l:List (B × Nat)) (fr:List Nat),get ((l.map fun x=>(Key.s x.2,some (Cell.s (.b x.1))))++fr.map fun h=>(Key.o h,some Cell.free)) (.s k)=some (.s v)→∃ b,(b,k)∈l∧v= .b b:=by
    intro l
    induction l with
    | nil=>
      intro fr h
      induction fr with
      | nil=>cases h
      | cons f fr ih=>exact ih h
    | cons x l ih=>
      intro fr h
      simp only[List.map_cons,List.cons_append,get]at h
      rcases Bool.eq_false_or_eq_true (Key.eq (.s x.2) (.s k))with e |e<;>rw[e]at h
      · have:=Key.eq_iff.1 e
        injection this with this
        simp only[cond_true]at h
        injection h with h;injection h with h
        exact⟨x.1,by rw[←this];simp,h.symm⟩
      · simp only[cond_false]at h
        obtain⟨b,hb,e⟩:=ih fr h
        exact⟨b,by simp [hb],e⟩
  obtain⟨b,hb,e⟩:=key _ _ h
  exact⟨b,List.mk_mem_zipIdx_iff_getElem?.1 hb,e⟩
theorem ki {bs:List B} {free:List Nat} {k:Nat} {o:Ob} (h:get (ini bs free) (.o k)=some (.o o)):False:=by
  have key:∀ (l:List (B × Nat)) (fr:List Nat),get ((l.map fun x=>(Key.s x.2,some (Cell.s (.b x.1))))++fr.map fun h=>(Key.o h,some Cell.free)) (.o k)=some (.o o)→False:=by
    intro l
    induction l with
    | nil=>
      intro fr h
      induction fr with
      | nil=>cases h
      | cons f fr ih=>
        simp only[List.map_nil,List.nil_append,List.map_cons,get]at h
        rcases Bool.eq_false_or_eq_true (Key.eq (.o f) (.o k))with e |e<;>rw[e]at h
        · cases h
        · exact ih h
    | cons x l ih=>intro fr h;exact ih fr h
  exact key _ _ h
def RetK (K:St→Prop):Exit→St→Prop
 | .ret,σ=>K σ
 | .normal,σ=>K σ
 | _,_=>False
def cx (P:Program) (N:Nat) (W:World):Cx:=⟨P,N,W,fun _=>False,fun _=>false,fun _=>none,[],fun _=>none,fun b=>b<W.heap.size⟩
theorem bm {P:Program} {f:Nat} {fn:Func} {c:Code} {bs:List B} {rs:List RB} {N:Nat} (hf:P.funcs[f]? =some fn) (hb:fn.body=some c) (hname:(fn.name== "runtime.NumGoroutine")=false) (hN:fn.ntmps=N) (hle:bs.length≤N) (free:List Nat) {Q:St→Prop}
    (hQ:∀ W σ a w ρ I,Sat (cx P N W) σ a w ρ I→Q σ→∃ v,(results fn a.tmps).run P w= .ok v w∧wV W.heap.size w v rs)
    (h:∀ W,Wp (cx P N W) c (RetK Q) (ini bs free)):Fn P f bs rs:=by
  refine⟨⟨fn,hf,hname,by rw[hb];rfl⟩,fun w args hargs=> ?_⟩
  obtain⟨hal,har⟩:=hargs
  refine calls_of_wp hf hb (wp_mono (h w _ w ⟨ρ0,I0 w,?_⟩) fun e a' w' hq=> ?_)
  · have htm:∀ k,k<bs.length→(args.toArray++Array.replicate (fn.ntmps-args.toArray.size) undef).getD k undef=args.getD k undef:=fun k hk=>by
      have:k<args.length:=by omega
      simp [Array.getD_eq_getD_getElem?,Array.getElem?_append,this]
    refine⟨by simp [hN,cx];omega,rfl,(fun k x h hk=>by cases hk),⟨(fun h hh=>by cases hh),fun b hb=> .inl hb⟩,fun k v hk=> ?_,fun h o ho=>(ki ho).elim,fun h _=>rfl,fun h p o ho=>(ki ho).elim,fun h h' p p' o o' ho=>(ki ho).elim,fun b hb=>hb,Rws.nil (fun h o ho=>(ki ho).elim),(fun⟨_,_,ho,_⟩=>(ki ho).elim),rfl,rfl,rfl,Nat.le_refl _,fun _ _ _=>rfl⟩
    obtain⟨b,hb,rfl⟩:=uF hk
    have hkl:=(List.getElem?_eq_some_iff.1 hb).1
    have hka:k<args.length:=by omega
    show RelB _ _ _ b _
    rw[htm k hkl]
    exact har k b _ hb (by simp [hka])
  · obtain⟨σ',⟨ρ,I,hs⟩,hk⟩:=hq
    have hbel:Below w.heap.size w w':=by
      obtain⟨h1,h2,h3,h4,h5⟩:=hs.m.fm
      exact⟨h1,h2,h3,h4,fun b hb=>h5 b hb (fun h=>h)⟩
    cases e<;>first
      | exact hk.elim
      | (obtain⟨v,hr,hv⟩:=hQ w σ' a' w' ρ I hs hk
         exact⟨hs.d,v,hr,v,rfl,hv,hbel⟩)
theorem dN {P:Program} {N:Nat} {fn:Func} {rv:ResultVar} {r:RB} (hr:fn.results= #[rv]):∀ W σ a w ρ I,Sat (cx P N W) σ a w ρ I→VRes P σ rv r→∃ v,(results fn a.tmps).run P w= .ok v w∧wV W.heap.size w v [r]:=by
 intro W σ a w ρ I hs h
 obtain⟨u,b,hu,hb,hbr⟩:=VRes.run hs h
 exact⟨u,yy hr hu,BRes.ok hs (fun _ h=>h) hbr hb⟩
def RB.flat:RB→Bool
 | .row .. =>false
 | _=>true
theorem RB.flat_none {base:Nat} {w:World} {v:Value} {r:RB} (h:tY base w v r) (hf:r.flat=true) (hv:∀ u,r= .val u→u.ownBlock=none):v.ownBlock=none:=by
 cases r with
 | val u=>have e:v=u:=h;subst e;exact hv _ rfl
 | row T s n xs=>cases hf
 | reg T s n xs=>obtain⟨u,rfl,_⟩:=h;rfl
theorem ret2 {P:Program} {N:Nat} {fn:Func} {r1 r2:ResultVar} {q1 q2:RB} (hr:fn.results= #[r1,r2]) (hf:q2.flat=true) (hv:∀ u,q2= .val u→u.ownBlock=none):
    ∀ W σ a w ρ I,Sat (cx P N W) σ a w ρ I→(VRes P σ r1 q1∧VRes P σ r2 q2)→∃ v,(results fn a.tmps).run P w= .ok v w∧wV W.heap.size w v [q1,q2]:=by
  intro W σ a w ρ I hs ⟨h1,h2⟩
  obtain⟨u1,b1,hu1,hb1,hbr1⟩:=VRes.run hs h1
  obtain⟨u2,b2,hu2,hb2,hbr2⟩:=VRes.run hs h2
  have k1:tY W.heap.size w u1 q1:=BRes.ok hs (fun _ h=>h) hbr1 hb1
  have k2:tY W.heap.size w u2 q2:=BRes.ok hs (fun _ h=>h) hbr2 hb2
  have hn:=RB.flat_none k2 hf hv
  refine⟨.tuple #[u1,u2],yz hr hu1 hu2,[u1,u2],rfl,rfl,fun j r u e1 e2=> ?_,fun j j' u u' hj e1 e2=> ?_⟩
  · match j,e1,e2 with
    | 0,e1,e2=>simp at e1 e2;subst e1;subst e2;exact k1
    | 1,e1,e2=>simp at e1 e2;subst e1;subst e2;exact k2
  · match j,j',hj,e1,e2 with
    | 0,0,hj,_,_=>exact absurd rfl hj
    | 0,1,_,e1,e2=>
      simp at e1 e2;subst e1;subst e2
      rw[hn]
      cases u1.ownBlock
      · exact .inl rfl
      · exact .inr (by simp)
    | 1,_,_,e1,e2=>simp at e1;subst e1;exact .inl hn
end Cl
end Go.Proofs.YtgmkkfdnmdohlaaGreatDoor
namespace Go.Proofs.YtgmkkfdnmdohlaaGreatDoor
namespace Cl
open Go.ChangeShapes Go.WideShapes Go.ChangeAt Go.RowKit
inductive ArgV:Operand→B→List (Key × Cell)→Prop
 | v {x:Operand} {v:Value} {R:List (Key × Cell)} (h:OpV x v R):ArgV x (.a (.val v)) R
 | va {x:Operand} {vs:List Value} {R:List (Key × Cell)} (h:OpV x (.agg vs.toArray) R):ArgV x (.agg (vs.map A.val)) R
 | slv (t n s:Nat) (xs:List Value):ArgV (.tmp t) (.a (.slv n s xs)) [(.s t,.s (.b (.a (.slv n s xs))))]
 | slvv (t s:Nat) (rows:List (Nat × List Value)):ArgV (.tmp t) (.a (.slvv s rows)) [(.s t,.s (.b (.a (.slvv s rows))))]
 | regv (t n s:Nat) (xs:List Value):ArgV (.tmp t) (.agg [.slv n s xs]) [(.s t,.s (.b (.agg [.slv n s xs])))]
 | sl (t h off n:Nat) {T s:Nat} {ex:Bool} {xs ys:List Value} (hl:off*s+n*s≤xs.length) (hy:(xs.drop (off*s)).take (n*s)=ys):ArgV (.tmp t) (.a (.slv n s ys)) [(.s t,.s (.b (.a (.sl h off n)))),(.o h,.o ⟨T,s,ex,pl xs⟩)]
 | reg (t h n:Nat) {T s:Nat} {ex:Bool} {xs ys:List Value} (hl:n*s≤xs.length) (hy:xs.take (n*s)=ys):ArgV (.tmp t) (.agg [.slv n s ys]) [(.s t,.s (.b (.agg [.sl h 0 n]))),(.o h,.o ⟨T,s,ex,pl xs⟩)]
 | nil {x:Operand} {R:List (Key × Cell)} (s:Nat) (h:OpV x (.slice none 0 0) R):ArgV x (.a (.slv 0 s [])) R
 | regnil (t s:Nat):ArgV (.tmp t) (.agg [.slv 0 s []]) [(.s t,.s (.b (.agg [.val (.slice none 0 0)])))]
 | fn (f:Nat):ArgV (.func f) (.a (.fn f [])) []
 | fns (t f:Nat):ArgV (.tmp t) (.a (.fn f [])) [(.s t,.s (.b (.a (.fn f []))))]
 | deep (t h n s:Nat) {T0:Nat} {ex:Bool} {cs:List A} {rows:List (Nat × List Value)} (hn:n=rows.length) (hcs:∀ (j:Nat) r,rows[j]? =some r→∃ T,cs[j]? =some (.row T r.1 s r.2)):ArgV (.tmp t) (.a (.slvv s rows)) [(.s t,.s (.b (.a (.sl h 0 n)))),(.o h,.o ⟨T0,1,ex,cs⟩)]
 | nilnil {x:Operand} {R:List (Key × Cell)} (s:Nat) (h:OpV x (.slice none 0 0) R):ArgV x (.a (.slvv s [])) R
 | slg (t T g n s:Nat) (xs:List Value):ArgV (.tmp t) (.a (.slv n s xs)) [(.s t,.s (.b (.a (.slg T g n s xs))))]
theorem AZ {Γ:Cx} {σ:St} {a:Act} {w:World} {ρ:Nat→Option Place} {I:Nat→Prop} (hs:Sat Γ σ a w ρ I) {h off n T s:Nat} {ex:Bool} {xs ys:List Value} (hg:get σ (.o h)=some (.o ⟨T,s,ex,pl xs⟩)) (hl:off*s+n*s≤xs.length) (hy:(xs.drop (off*s)).take (n*s)=ys)
  {u:Value} (hr:RelA ρ I w (.sl h off n) u):RelA ρ0 (I0 w) w (.slv n s ys) u:=by
 obtain⟨p,A,hp,rfl,h2,h3⟩:=hr
 have hyl:ys.length=n*s:=by rw[←hy];simp;omega
 refine⟨hyl,A,_,rfl,by omega,fun hn=> ?_⟩
 obtain⟨p',hp',hps,hpl,_,hz,hx⟩:=hs.m.ow h _ hg
 rw[hp]at hp';injection hp' with hp';subst hp'
 have hlv:p.live=true:=by
  rcases Bool.eq_false_or_eq_true p.live with h |h
  ·exact h
  ·have:=hz h;omega
 have h3':=h3 (.inr (by omega))
 rw[hlv,if_pos rfl]at h3'
 obtain⟨cur,c1,c2,c3,c4⟩:=hx hlv
 refine⟨p.block,_,h3',(hs.m.pl h p _ hg hp hlv).2.2,fun j x hj=> ?_⟩
 simp only at hps c4
 have hjn:j<n*s:=by rw[←hyl];exact(List.getElem?_eq_some_iff.1 hj).1
 have hxx:xs[off*s+j]? =some x:=by rw[←hy]at hj;simpa [List.getElem?_take,hjn,List.getElem?_drop] using hj
 obtain⟨u,hu,hru⟩:=c4 (off*s+j) (.val x) (jY hxx)
 have:u=x:=hru
 rw[hps,Nat.add_assoc]
 simp [World.cell?,c1,hu,this]
theorem Bx {Γ:Cx} {σ:St} {a:Act} {w:World} {ρ:Nat→Option Place} {I:Nat→Prop} (hs:Sat Γ σ a w ρ I) {h T0 s:Nat} {ex0:Bool} {cs:List A} {rows:List (Nat × List Value)} (ho:get σ (.o h)=some (.o ⟨T0,1,ex0,cs⟩)) (hcs:∀ (j:Nat) r,rows[j]? =some r→∃ T,cs[j]? =some (.row T r.1 s r.2))
    {u:Value} (hu:RelA ρ I w (.sl h 0 rows.length) u):RelA ρ0 (I0 w) w (.slvv s rows) u:=by
  obtain⟨p,hp,ps,pl0,pe,pz,pc⟩:=hs.m.ow h _ ho
  obtain⟨p',A0,hp',he,hcap,hA⟩:=hu
  rw[hp]at hp';injection hp' with hp';subst hp'
  refine⟨A0,p.cap-0,he,by omega,fun hpos=> ?_⟩
  have hlv:p.live=true:=by
    rcases Bool.eq_false_or_eq_true p.live with q |q
    · exact q
    · have:=pz q;omega
  have hA':=hA (.inr (by omega))
  rw[hlv,if_pos rfl]at hA'
  obtain⟨cur,c1,c2,c3,c4⟩:=pc hlv
  refine⟨p.block,p.base,by rw[hA'];simp,(hs.m.pl h p _ ho hp hlv).2.2,fun j r hj=> ?_⟩
  obtain⟨T,hT⟩:=hcs j r hj
  obtain⟨v,hv,hxl,ob,cap,hval,hnc,hob⟩:=c4 j _ hT
  have hcv:w.cell? ⟨p.block,p.base+j,none⟩=some v:=by simp only[World.cell?,c1];exact hv
  refine⟨hxl,ob.map fun b=>⟨b,0,none⟩,cap,by rw[hcv,hval],hnc,fun hr=> ?_⟩
  cases ob with
  | none=>have:=hob rfl;omega
  | some b=>
    have hri:RowIn σ w ρ h j T r.1 s r.2 b cap:=⟨_,p,ho,hp,hlv,hT,by rw[hcv,hval];rfl⟩
    obtain⟨⟨cb,k1,k2,k3⟩,k4,k5,k6,k7,k8⟩:=hs.m.rs.ok hri
    exact⟨b,0,rfl,k8,fun i x hx=>by simp only[World.cell?,k1,Nat.zero_add];exact k3 i x hx⟩
theorem RelA.nr {ρ:Nat→Option Place} {I I':Nat→Prop} {w:World} {x:A} {u:Value} (h:RelA ρ I w x u) (hI:∀ b,I b→I' b) (hx:∃ v,x= .val v∨(∃ n s xs,x= .slv n s xs)∨∃ s rows,x= .slvv s rows):RelA ρ0 I' w x u:=by
 obtain⟨v,rfl |⟨n,s,xs,rfl⟩ |⟨s,rows,rfl⟩⟩:=hx
 ·exact h
 ·exact RelA.mono (x:= .slv n s xs) (ρ:=ρ0) (by exact h) (fun _ _ h=>h) fun b hb=>⟨hI b hb,rfl⟩
 ·exact RelA.mono (x:= .slvv s rows) (ρ:=ρ0) (by exact h) (fun _ _ h=>h) fun b hb=>⟨hI b hb,rfl⟩
theorem Il {ρ:Nat→Option Place} {I:Nat→Prop} {w:World} {T g n s:Nat} {xs:List Value} {u:Value} (h:RelA ρ I w (.slg T g n s xs) u):RelA ρ I w (.slv n s xs) u:=by
 obtain⟨hl,⟨rfl,rfl⟩ |⟨cap,cur,rfl,h2,h3,h4,h5,h6,h7⟩⟩:=h
 ·exact⟨hl,none,0,rfl,Nat.le_refl _,fun h=>absurd h (by omega)⟩
 ·refine⟨hl,_,cap,rfl,h4,fun _=>⟨g,0,rfl,h2,fun j x hj=> ?_⟩⟩
  rw[←h7,List.getElem?_take]at hj
  split at hj
  ·simp only[World.cell?,h3,Nat.zero_add]
   simpa using hj
  ·cases hj
theorem ArgV.ok {Γ:Cx} {σ:St} {a:Act} {w:World} {ρ:Nat→Option Place} {I:Nat→Prop} (hs:Sat Γ σ a w ρ I) {x:Operand} {b:B} {R:List (Key × Cell)} (h:ArgV x b R) (hR:∀ kv∈R,get σ kv.1=some kv.2):RelB ρ0 (I0 w) w b (a.eval x):=by
  have hf:=fF hs hR
  cases h with
  | v h=>exact h.ev hf
  | va h=>rw[h.ev hf];exact kz _
  | slv t n s xs=>exact RelA.nr (show RelA ρ I w (.slv n s xs) _ from hf (.s t) _ (List.mem_singleton.2 rfl)) hs.m.im ⟨undef,.inr (.inl ⟨_,_,_,rfl⟩)⟩
  | slvv t s rows=>exact RelA.nr (show RelA ρ I w (.slvv s rows) _ from hf (.s t) _ (List.mem_singleton.2 rfl)) hs.m.im ⟨undef,.inr (.inr ⟨_,_,rfl⟩)⟩
  | regv t n s xs=>
    obtain⟨cs,e,hl,hx⟩:=hf (.s t) (.s (.b (.agg [.slv n s xs]))) (List.mem_singleton.2 rfl)
    refine⟨cs,e,hl,fun j x c h1 h2=> ?_⟩
    have:=hx j x c h1 h2
    match j,h1 with
    | 0,h1=>simp at h1;subst h1;exact RelA.nr this hs.m.im ⟨undef,.inr (.inl ⟨_,_,_,rfl⟩)⟩
  | @sl t h off n T s ex xs ys hl hy=>exact AZ hs (hR (.o h,.o ⟨T,s,ex,pl xs⟩) (by simp)) hl hy (hf (.s t) (.s (.b (.a (.sl h off n)))) (by simp))
  | @reg t h n T s ex xs ys hl hy=>
    obtain⟨cs,e,hcl,hx⟩:=hf (.s t) (.s (.b (.agg [.sl h 0 n]))) (by simp)
    refine⟨cs,e,hcl,fun j x c h1 h2=> ?_⟩
    match j,h1 with
    | 0,h1=>simp at h1;subst h1;exact AZ hs (hR (.o h,.o ⟨T,s,ex,pl xs⟩) (by simp)) (by simpa using hl) (by simpa using hy) (hx 0 _ c rfl h2)
  | nil s h=>rw[h.ev hf];exact⟨by simp,none,0,rfl,Nat.le_refl _,fun h=>absurd h (by omega)⟩
  | regnil t s=>
    obtain⟨cs,e,hcl,hx⟩:=hf (.s t) (.s (.b (.agg [.val (.slice none 0 0)]))) (by simp)
    refine⟨cs,e,hcl,fun j x c h1 h2=> ?_⟩
    match j,h1 with
    | 0,h1=>
      simp at h1;subst h1
      have:c= .slice none 0 0:=hx 0 _ c rfl h2
      rw[this];exact⟨by simp,none,0,rfl,Nat.le_refl _,fun h=>absurd h (by omega)⟩
  | fn f=>exact⟨[],rfl,rfl,fun j h hj=>by simp at hj⟩
  | fns t f=>
    obtain⟨vs,e,hl,_⟩:=(show RelA ρ I w (.fn f []) _ from hf (.s t) _ (List.mem_singleton.2 rfl))
    exact⟨vs,e,hl,fun j h hj=>by simp at hj⟩
  | @deep t h n s T0 ex cs rows hn hcs=>
    subst hn
    exact Bx hs (hR (.o h,.o ⟨T0,1,ex,cs⟩) (by simp)) hcs (hf (.s t) (.s (.b (.a (.sl h 0 rows.length)))) (by simp))
  | nilnil s h=>rw[h.ev hf];exact⟨none,0,rfl,Nat.le_refl _,fun h=>absurd h (by simp)⟩
  | slg t T g n s xs=>exact RelA.nr (Il (show RelA ρ I w (.slg T g n s xs) _ from hf (.s t) _ (List.mem_singleton.2 rfl))) hs.m.im ⟨undef,.inr (.inl ⟨_,_,_,rfl⟩)⟩
inductive ArgVs:List Operand→List B→List (Key × Cell)→Prop
 | nil:ArgVs [] [] []
 | cons {x:Operand} {b:B} {R R':List (Key × Cell)} {xs:List Operand} {bs:List B} (h:ArgV x b R) (hs:ArgVs xs bs R'):ArgVs (x::xs) (b::bs) (R++R')
theorem ArgVs.ok {Γ:Cx} {σ:St} {a:Act} {w:World} {ρ:Nat→Option Place} {I:Nat→Prop} (hs:Sat Γ σ a w ρ I) {xs:List Operand} {bs:List B} {R:List (Key × Cell)} (h:ArgVs xs bs R) (hR:∀ kv∈R,get σ kv.1=some kv.2):Args w bs (xs.map a.eval):=by
  induction h with
  | nil=>exact⟨rfl,fun j b u h=>by simp at h⟩
  | cons h hr ih=>
    obtain⟨h1,h2⟩:=ih fun kv hk=>hR kv (by simp [hk])
    refine⟨by simpa using h1,fun j b u hb hu=> ?_⟩
    cases j with
    | zero=>simp at hb hu;subst hb;subst hu;exact h.ok hs fun kv hk=>hR kv (by simp [hk])
    | succ j=>exact h2 j b u (by simpa using hb) (by simpa using hu)
theorem un {Γ:Cx} {σ:St} {a:Act} {w:World} {ρ:Nat→Option Place} {I:Nat→Prop} (hs:Sat Γ σ a w ρ I) {h:Nat} (hx:get σ (.o h)=some .free) {base T s n:Nat} {u:Value} {xs:List Value} (ho:w.ownsRow base T s u n xs)
    (hb:Γ.W.heap.size≤base) (hI:∀ b,I b→b<base) (hlive:∀ y q o,get σ (.o y)=some (.o o)→ρ y=some q→q.live=true→u.ownBlock≠some q.block) (hrow:∀ {h j T n s xs b cap},RowIn σ w ρ h j T n s xs b cap→u.ownBlock≠some b):
    ∃ ρ',(∀ h p,ρ h=some p→ρ' h=some p)∧(∃ p,ρ' h=some p∧(p.live=true→u.ownBlock=some p.block))∧RelA ρ' I w (.sl h 0 n) u∧Sat Γ ((.o h,some (.o ⟨T,s,true,pl xs⟩))::σ) a w ρ' I:=by
  obtain⟨hl,hr⟩:=ho
  rcases hr with⟨rfl,rfl⟩ |⟨g,cap,cur,rfl,hbg,hg,hn,hm,hcs,htk⟩
  · have hx0:xs=[]:=List.eq_nil_of_length_eq_zero (by simpa using hl)
    subst hx0
    obtain⟨ρ',hρ,hx',hs2⟩:=hs.adopt hx (p:=⟨0,0,0,s,false,true⟩) (o:=⟨T,s,true,pl []⟩) rfl (by simp [pl]) (fun _=>⟨rfl,rfl,Nat.zero_le _⟩) (fun _=>rfl) (fun h=>by simp at h) (RowFit.no pg) (fun h=>by simp at h) (fun h=>by simp at h)
    exact⟨ρ',hρ,⟨_,hx',fun h=>by simp at h⟩,⟨_,none,hx',by simp,by simp,fun _=>by simp⟩,hs2⟩
  · have hglt:g<w.heap.size:=by
      rcases Nat.lt_or_ge g w.heap.size with h |h
      · exact h
      · rw[Array.getElem?_eq_none h]at hg;cases hg
    obtain⟨ρ',hρ,hx',hs2⟩:=hs.adopt hx (p:=⟨g,0,cap,s,true,true⟩) (o:=⟨T,s,true,pl xs⟩) rfl (by simp only[iy,hl];exact Nat.mul_le_mul_right _ hn) (fun _=>⟨rfl,rfl,hm⟩) (fun h=>by simp at h)
      (fun _=>⟨fun hi=>by have:=hI _ hi;simp only at this;omega,.inr (by simp only;omega),hglt,fun y q o hy hq hlv e=>hlive y q o hy hq hlv (by simp [Value.ownBlock,e]),cur,hg,by simp only;omega,fun _=>hcs,fun j y hj=>by
        simp only[pl,List.getElem?_map]at hj
        cases hq:xs[j]? with
        | none=>simp [hq]at hj
        | some v=>
          rw[hq]at hj;injection hj with hj;subst hj
          refine⟨v,?_,rfl⟩
          rw[←htk,List.getElem?_take]at hq
          split at hq
          · simpa using hq
          · cases hq⟩) (RowFit.no pg) (fun _ {_ _ _ _ _ _ _ _} hr e=>hrow hr (by simp only at e;simp [Value.ownBlock,e])) (fun _ {j _ _ _ _ _ _} h1=>absurd (pg (xs:=xs) _ (List.mem_of_getElem? h1)) (by simp [A.isRow]))
    exact⟨ρ',hρ,⟨_,hx',fun _=>rfl⟩,⟨_,some ⟨g,0,none⟩,hx',by simp,by simpa using hn,fun _=>by simp⟩,hs2⟩
inductive ResV:RB→B→St→List (Key × Cell)→Prop
 | val (v:Value):ResV (.val v) (.a (.val v)) [] []
 | agg (vs:List Value):ResV (.val (.agg vs.toArray)) (.agg (vs.map A.val)) [] []
 | row (T s n:Nat) (xs:List Value) (h:Nat):ResV (.row T s n xs) (.a (.sl h 0 n)) [(.o h,some (.o ⟨T,s,true,pl xs⟩))] [(.o h,.free)]
 | reg (T s n:Nat) (xs:List Value) (h:Nat):ResV (.reg T s n xs) (.agg [.sl h 0 n]) [(.o h,some (.o ⟨T,s,true,pl xs⟩))] [(.o h,.free)]
theorem ResV.ok {Γ:Cx} {σ:St} {a:Act} {w:World} {ρ:Nat→Option Place} {I:Nat→Prop} (hs:Sat Γ σ a w ρ I) {r:RB} {b:B} {W:St} {R:List (Key × Cell)} (h:ResV r b W R) (hR:∀ kv∈R,get σ kv.1=some kv.2) {base:Nat} {u:Value} (ho:tY base w u r)
    (hb:Γ.W.heap.size≤base) (hI:∀ b,I b→b<base) (hlive:∀ y q o,get σ (.o y)=some (.o o)→ρ y=some q→q.live=true→q.block<base) (hrows:∀ {h j T n s xs b cap},RowIn σ w ρ h j T n s xs b cap→b<base):
    ∃ ρ',(∀ h p,ρ h=some p→ρ' h=some p)∧RelB ρ' I w b u∧Sat Γ (W++σ) a w ρ' I:=by
  have hne:∀ {T s n:Nat} {v:Value} {xs:List Value},w.ownsRow base T s v n xs→∀ y q o,get σ (.o y)=some (.o o)→ρ y=some q→q.live=true→v.ownBlock≠some q.block:=by
    intro T s n v xs how y q o hy hq hlv e
    have h1:=hlive y q o hy hq hlv
    have h2:=(how.lt _ e).1
    omega
  have hnr:∀ {T s n:Nat} {v:Value} {xs:List Value},w.ownsRow base T s v n xs→∀ {h j T n s xs b cap},RowIn σ w ρ h j T n s xs b cap→v.ownBlock≠some b:=by
    intro T s n v xs how h j T' n' s' xs' b cap hr e
    have h1:=hrows hr
    have h2:=(how.lt _ e).1
    omega
  cases h with
  | val v=>exact⟨ρ,fun _ _ h=>h,ho,hs⟩
  | agg vs=>
    have e:u= .agg vs.toArray:=ho
    subst e
    exact⟨ρ,fun _ _ h=>h,kz vs,hs⟩
  | row T s n xs h=>
    obtain⟨ρ',h1,_,h3,h4⟩:=un hs (hR (.o h,.free) (by simp)) ho hb hI (hne ho) (hnr ho)
    exact⟨ρ',h1,h3,h4⟩
  | reg T s n xs h=>
    obtain⟨v,rfl,ho⟩:=ho
    obtain⟨ρ',h1,_,h3,h4⟩:=un hs (hR (.o h,.free) (by simp)) ho hb hI (hne ho) (hnr ho)
    refine⟨ρ',h1,⟨[v],rfl,rfl,fun j x c e1 e2=> ?_⟩,h4⟩
    match j,e1,e2 with
    | 0,e1,e2=>simp at e1 e2;subst e1;subst e2;exact h3
section
variable {Γ:Cx} {d:Nat} {ty:TypeId} {pos:String} {af:Array Edge} {g:Option (Nat × Bool)}
theorem tC {P:Program} {ev:Operand→Value} {o:Oper} {f:Nat} {xs:List Operand} {tys:Array TypeId} (ho:o.op= .call { callee:= .value (.func f),args:=xs.toArray,argTypes:=tys }) (hev:ev (.func f)= .func (.func f) #[] #[]) (hc:ji P f) (w:World):
  (execOp ev o).run P w= .ok (.enter f (xs.map ev).toArray) w:=by
 obtain⟨fn,h1,h2,h3⟩:=hc
 simp only[execOp,ho,resolve,hev,Deferred.ofValue,List.map_toArray]
 have h3':¬fn.body.isNone=true:=by rw[h3];simp
 simp only[Sem.run_bind,Sem.run_pure,Result.andThen_ok,invoke,callFunc]
 simp only[program,Sem.run,h1,h2,h3',Result.andThen_ok,if_false,Bool.false_eq_true]
 simp [go_sem]
theorem ag {f:Nat} {xs:List Operand} {bs:List B} {r:RB} {b:B} {W:St} {R R':List (Key × Cell)} {tys:Array TypeId} (hN:Γ.ok d) (hF:Fn Γ.P f bs [r]) (hx:ArgVs xs bs R) (hr:ResV r b W R'):
  Acts Γ ⟨some d,.call { callee:= .value (.func f),args:=xs.toArray,argTypes:=tys },ty,pos,af,g⟩ (R++R') ((.s d,some (.s (.b b)))::W):=by
 intro σ a w ρ I hs hR K Q hK
 obtain⟨hc,hF⟩:=hF
 have hargs:=hx.ok hs fun kv hk=>hR kv (by simp [hk])
 unfold Oper.wp
 rw[tC (f:=f) (xs:=xs) (tys:=tys) rfl rfl hc w]
 rw[Oper.upon_enter]
 refine(hF w _ hargs).mono fun e w' h=> ?_
 obtain⟨v,rfl,hv,hb⟩:=h
 have hs':=hs.world hb
 obtain⟨ρ',h1,h2,h3⟩:=ResV.ok hs' hr (fun kv hk=>hR kv (by simp [hk])) (show tY w.heap.size w' v r from hv) (hs.m.fm.2.2.2.1) (fun b hb=>hs.m.im b hb) (fun y q o hy hq hlv=>(hs.m.pl y q o hy hq hlv).2.2) (fun hr=>(hs.m.rs.ok (RowIn.back hs.m (fun b hb'=>hb.block b hb') hr)).lt)
 exact hK _ _ ⟨ρ',I,h3.put (V:= .b b) hN h2⟩
theorem cH {f:Nat} {xs:List Operand} {bs:List B} {r1 r2:RB} {b1 b2:B} {W1:St} {R R1:List (Key × Cell)} {tys:Array TypeId} (hN:Γ.ok d) (hF:Fn Γ.P f bs [r1,r2]) (hx:ArgVs xs bs R) (hr1:ResV r1 b1 W1 R1) (hr2:ResV r2 b2 [] []):
    Acts Γ ⟨some d,.call { callee:= .value (.func f),args:=xs.toArray,argTypes:=tys },ty,pos,af,g⟩ (R++R1) ((.s d,some (.s (.tup [b1,b2])))::W1):=by
  intro σ a w ρ I hs hR K Q hK
  obtain⟨hc,hF⟩:=hF
  have hargs:=hx.ok hs fun kv hk=>hR kv (by simp [hk])
  unfold Oper.wp
  rw[tC (f:=f) (xs:=xs) (tys:=tys) rfl rfl hc w]
  rw[Oper.upon_enter]
  refine(hF w _ hargs).mono fun e w' h=> ?_
  obtain⟨v,rfl,hv,hb⟩:=h
  have hs':=hs.world hb
  obtain⟨vs,rfl,hvl,hvr,_⟩:=hv
  match vs,hvl with
  | [v1,v2],_=>
    obtain⟨ρ',h1,h2,h3⟩:=ResV.ok hs' hr1 (fun kv hk=>hR kv (by simp [hk])) (hvr 0 r1 v1 rfl rfl) (hs.m.fm.2.2.2.1) (fun b hb=>hs.m.im b hb) (fun y q o hy hq hlv=>(hs.m.pl y q o hy hq hlv).2.2) (fun hr=>(hs.m.rs.ok (RowIn.back hs.m (fun b hb'=>hb.block b hb') hr)).lt)
    have h4:RelB ρ' I w' b2 v2:=by
      have hv2:=hvr 1 r2 v2 rfl rfl
      cases hr2 with
      | val v=>exact hv2
      | agg vs=>have e:v2= .agg vs.toArray:=hv2;subst e;exact kz vs
    refine hK _ _ ⟨ρ',I,h3.put (V:= .tup [b1,b2]) hN ⟨[v1,v2],rfl,rfl,fun j x c e1 e2=> ?_⟩⟩
    match j,e1,e2 with
    | 0,e1,e2=>simp at e1 e2;subst e1;subst e2;exact h2
    | 1,e1,e2=>simp at e1 e2;subst e1;subst e2;exact h4
end
theorem kM {w:World} {v u:Value} (h:RelB ρ0 (I0 w) w (.a (.val v)) u):u=v:=h
theorem jE {w:World} {vs:List Value} {u:Value} (h:RelB ρ0 (I0 w) w (.agg (vs.map A.val)) u):u= .agg vs.toArray:=Fl h
theorem jZ {w:World} {n s:Nat} {xs:List Value} {u:Value} (h:RelB ρ0 (I0 w) w (.a (.slv n s xs)) u):∃ A c,u= .slice A n c∧n≤c∧Rd w s A n xs:=by
 obtain⟨hl,A,c,rfl,hc,hr⟩:=h
 exact⟨A,c,rfl,hc,hl,fun hn=>by obtain⟨g,o,e,hI,hx⟩:=hr hn;exact⟨g,o,e,hI,hx⟩⟩
def sa (w:World):List B→List Value→Prop
 | [],[]=>True
 | b::bs,u::us=>RelB ρ0 (I0 w) w b u∧sa w bs us
 | _,_=>False
theorem dK {w:World} {bs:List B} {us:List Value}:Args w bs us↔sa w bs us:=by
  induction bs generalizing us with
  | nil=>cases us<;>simp [Args,sa]
  | cons b bs ih=>
    cases us with
    | nil=>simp [Args,sa]
    | cons u us=>
      simp only[sa,←ih]
      constructor
      · rintro⟨h1,h2⟩
        exact⟨h2 0 b u rfl rfl,by simpa using h1,fun j b u hb hu=>h2 (j+1) b u (by simpa using hb) (by simpa using hu)⟩
      · rintro⟨h0,h1,h2⟩
        refine⟨by simpa using h1,fun j b u hb hu=> ?_⟩
        cases j with
        | zero=>simp at hb hu;subst hb;subst hu;exact h0
        | succ j=>exact h2 j b u (by simpa using hb) (by simpa using hu)
end Cl
end Go.Proofs.YtgmkkfdnmdohlaaGreatDoor
namespace Go.Proofs.YtgmkkfdnmdohlaaGreatDoor
namespace Cl
open Go.ChangeShapes Go.WideShapes Go.ChangeAt Go.RowKit
theorem ltN {Γ:Cx} {d:Nat} (h:Γ.okb d=true):Γ.ok d:=by
 unfold Cx.okb at h;simp only[Bool.and_eq_true,Bool.not_eq_true']at h
 exact⟨by simpa [Nat.blt_eq] using h.1,h.2⟩
theorem w64 {z:Int} (h1: -9223372036854775808≤z) (h2:z≤9223372036854775807):IntKind.i64.wrap z=z:=by
 have e:IntKind.i64.wrap z=(z+9223372036854775808)%18446744073709551616-9223372036854775808:=by
  simp only[IntKind.wrap,IntKind.signed,IntKind.bits]
  simp
  first |rfl |omega
 rw[e];omega
def bsl (l:List Bool):List Value:=l.map Value.bool
theorem Gs (l:List Bool):(bsl l).length=l.length*1:=by simp [bsl]
def gI (l:List Int) (k:Nat):Int:=l.getD k 0
def gB (l:List Bool) (k:Nat):Bool:=l.getD k false
def gD (l:List Dom) (k:Nat):Dom:=l.getD k ⟨0,0,false⟩
def gC (l:List Cel) (k:Nat):Cel:=l.getD k ⟨0,0⟩
theorem dh {l:List Int} {k:Nat} (h:k<l.length):gI l k=l[k]:=by simp [gI,List.getD,h]
theorem An {l:List Bool} {k:Nat} (h:k<l.length):gB l k=l[k]:=by simp [gB,List.getD,h]
theorem gl {l:List Dom} {k:Nat} (h:k<l.length):gD l k=l[k]:=by simp [gD,List.getD,h]
theorem gk {l:List Cel} {k:Nat} (h:k<l.length):gC l k=l[k]:=by simp [gC,List.getD,h]
theorem Hg {l:List Int} {k:Nat} (h:k<l.length):(isl l)[k]? =some (.int .i64 (gI l k)):=by simp [isl,dh h,h]
theorem Gr {l:List Bool} {k:Nat} (h:k<l.length):(bsl l)[k]? =some (.bool (gB l k)):=by simp [bsl,An h,h]
theorem xG {l:List Int} {k:Nat} (h:k<l.length):(isl l)[k*1]? =some (.int .i64 (gI l k)):=by rw[Nat.mul_one];exact Hg h
theorem sh {l:List Bool} {k:Nat} (h:k<l.length):(bsl l)[k*1]? =some (.bool (gB l k)):=by rw[Nat.mul_one];exact Gr h
theorem dsl_x {l:List Dom} {k:Nat} (h:k<l.length):(dsl l)[k*3]? =some (.int .i64 (gD l k).x):=by
 rw[gl h];exact de Dom.cs 3 (fun _=>rfl) l k 0 h (by omega)
theorem dsl_y {l:List Dom} {k:Nat} (h:k<l.length):(dsl l)[k*3+1]? =some (.int .i64 (gD l k).y):=by
 rw[gl h];exact de Dom.cs 3 (fun _=>rfl) l k 1 h (by omega)
theorem dsl_d {l:List Dom} {k:Nat} (h:k<l.length):(dsl l)[k*3+2]? =some (.bool (gD l k).d):=by
 rw[gl h];exact de Dom.cs 3 (fun _=>rfl) l k 2 h (by omega)
theorem IT {l:List Cel} {k:Nat} (h:k<l.length):(csl l)[k*2]? =some (.int .i64 (gC l k).x):=by
 rw[gk h];exact de Cel.cs 2 (fun _=>rfl) l k 0 h (by omega)
theorem IU {l:List Cel} {k:Nat} (h:k<l.length):(csl l)[k*2+1]? =some (.int .i64 (gC l k).y):=by
 rw[gk h];exact de Cel.cs 2 (fun _=>rfl) l k 1 h (by omega)
theorem rf {xs ys:List Value} {o n:Nat} (hl:ys.length=n) (h:∀ j v,ys[j]? =some v→xs[o+j]? =some v):(xs.drop o).take n=ys:=by
 apply List.ext_getElem?
 intro j
 rw[List.getElem?_take]
 by_cases hj:j<n
 ·rw[if_pos hj,List.getElem?_drop]
  have hy:ys[j]? =some ys[j]:=List.getElem?_eq_getElem (by omega)
  rw[hy];exact h j _ hy
 ·rw[if_neg hj,List.getElem?_eq_none (by omega)]
theorem JF {l:List Dom} {k:Nat} (h:k<l.length):((dsl l).drop (k*3)).take 3=[.int .i64 (gD l k).x,.int .i64 (gD l k).y,.bool (gD l k).d]:=
 rf rfl fun j v hj=>by
  match j,hj with
  | 0,hj=>simp at hj;subst hj;exact dsl_x h
  | 1,hj=>simp at hj;subst hj;exact dsl_y h
  | 2,hj=>simp at hj;subst hj;exact dsl_d h
theorem Du {l:List Cel} {k:Nat} (h:k<l.length):((csl l).drop (k*2)).take 2=[.int .i64 (gC l k).x,.int .i64 (gC l k).y]:=
 rf rfl fun j v hj=>by
  match j,hj with
  | 0,hj=>simp at hj;subst hj;exact IT h
  | 1,hj=>simp at hj;subst hj;exact IU h
theorem pl_at {xs ys:List Value} {o n:Nat} (h:(xs.drop o).take n=ys):((pl xs).drop o).take n=pl ys:=by rw[ph,h]
theorem Hh {l:List Int} {k:Nat} {e:Int} (h:k<l.length):(pl (isl l)).take (k*1)++[A.val (.int .i64 e)]++(pl (isl l)).drop (k*1+1)=pl (isl (l.set k e)):=by
 rw[Nat.mul_one,List.set_eq_take_append_cons_drop,if_pos h]
 simp [pl,isl]
theorem Gt {l:List Bool} {k:Nat} {e:Bool} (h:k<l.length):(pl (bsl l)).take (k*1)++[A.val (.bool e)]++(pl (bsl l)).drop (k*1+1)=pl (bsl (l.set k e)):=by
 rw[Nat.mul_one,List.set_eq_take_append_cons_drop,if_pos h]
 simp [pl,bsl]
theorem oJ (l:List Dom) (k:Nat):(dsl l).take (k*3)=dsl (l.take k):=by
  induction l generalizing k with
  | nil=>simp [dsl]
  | cons a l ih=>
    cases k with
    | zero=>simp [dsl]
    | succ k=>
      have e:(k+1)*3=k*3+3:=by omega
      simp only[dsl,List.flatMap_cons,List.take_succ_cons,e]at ih⊢
      simp only[Dom.cs,List.cons_append,List.nil_append,List.take_succ_cons,ih]
theorem sv (l:List Dom) (k:Nat):(dsl l).drop (k*3)=dsl (l.drop k):=by
  induction l generalizing k with
  | nil=>simp [dsl]
  | cons a l ih=>
    cases k with
    | zero=>simp [dsl]
    | succ k=>
      have e:(k+1)*3=k*3+3:=by omega
      simp only[dsl,List.flatMap_cons,List.drop_succ_cons,e]at ih⊢
      simp only[Dom.cs,List.cons_append,List.nil_append,List.drop_succ_cons,ih]
theorem Eo (l:List Int) (k:Nat):(isl l).take (k*1)=isl (l.take k):=by simp [isl,List.map_take]
theorem En (l:List Int) (k:Nat):(isl l).drop (k*1)=isl (l.drop k):=by simp [isl,List.map_drop]
def ZI (P:Program) (T:TypeId) (z:Value) (s b:Nat):Prop:=(P.info? T).map (fun i=>(i.zero,i.size,i.bytes))=some (some z,s,b)
theorem ZI.get {P:Program} {T:TypeId} {z:Value} {s b:Nat} (h:ZI P T z s b):∃ i,P.info? T=some i∧i.zero=some z∧i.size=s∧i.bytes=b:=by
 unfold ZI at h
 cases hq:P.info? T with
 | none=>simp [hq]at h
 | some i=>simp [hq]at h;exact⟨i,rfl,h.1,h.2.1,h.2.2⟩
section
variable {Γ:Cx} {d:Nat} {ty:TypeId} {pos:String} {af:Array Edge} {g:Option (Nat × Bool)}
theorem aL {T h cap s s' b:Nat} {z:Value} {cells:List A} (hN:Γ.ok d) (hz:ZI Γ.P T z s' b) (hc:z.cells.toList.map A.val=cells) (hcs:cells.length=cap*s) (hm:cap≤1000000):
  Acts Γ ⟨some d,.alloc T,ty,pos,af,g⟩ [(.o h,.free)] [(.s d,some (.s (V.p h 0))),(.o h,some (.o ⟨T,s,true,cells⟩))]:=by
 obtain⟨i,h1,h2,_,_⟩:=hz.get
 exact yJ hN h1 h2 hc hcs hm
theorem fJ {t e h n s b:Nat} {z:Value} {x y:Operand} {iv iv':Int} {xs:List Value} {R R':List (Key × Cell)} (hN:Γ.ok d) (hu:Γ.P.underlying t=some (.slice e)) (hz:ZI Γ.P e z s b)
  (hx:OpV x (.int .i64 iv) R) (hy:OpV y (.int .i64 iv') R') (e1:iv=(n:Int)) (e2:iv'=(n:Int)) (hb:b≤1000) (hm:n≤4194304) (hxs:(madeCells z.cells (n*s)).toList=xs):
  Acts Γ ⟨some d,.makeSlice t x y,ty,pos,af,g⟩ ((.o h,.free)::(R++R')) [(.s d,some (.s (.b (.a (.sl h 0 n))))),(.o h,some (.o ⟨e,s,true,pl xs⟩))]:=by
 obtain⟨i,h1,h2,h3,h4⟩:=hz.get
 refine Bp hN hu h1 h2 h3 hx hy e1 e2 ?_ (by unfold maxLen;omega) hxs
 rw[h4]
 exact Nat.le_trans (Nat.mul_le_mul hb hm) (by decide)
theorem aP {t e h n s b:Nat} {z:Value} {ps:List (Nat × Operand)} {vs:List (Nat × Value)} {xs:List Value} {R:List (Key × Cell)} (hN:Γ.ok d) (hu:Γ.P.underlying t=some (.slice e)) (hz:ZI Γ.P e z s b)
    (hv:OpVs ps vs R) (hpos:0<n*s) (hsm:n*s≤1000) (hf:Instr.fill (fun i=>some (i*s,s)) ((Array.range (n*s)).map (z.cells[· %z.cells.size]!)) vs=some xs.toArray) (hl:xs.length=n*s):
    Acts Γ ⟨some d,.buildSlice t n ps.toArray,ty,pos,af,g⟩ ((.o h,.free)::R) [(.s d,some (.s (.b (.a (.sl h 0 n))))),(.o h,some (.o ⟨e,s,true,pl xs⟩))]:=by
  obtain⟨i,h1,h2,h3,h4⟩:=hz.get
  exact ri hN hu h1 h2 h3 hv hpos hsm hf hl
theorem df {t e h s b:Nat} {z:Value} (hN:Γ.ok d) (hu:Γ.P.underlying t=some (.slice e)) (hz:ZI Γ.P e z s b):
  Acts Γ ⟨some d,.buildSlice t 0 #[],ty,pos,af,g⟩ [(.o h,.free)] [(.s d,some (.s (.b (.a (.sl h 0 0))))),(.o h,some (.o ⟨e,s,true,pl []⟩))]:=by
 obtain⟨i,h1,h2,h3,h4⟩:=hz.get
 exact pM hN hu h1 h3
theorem gf {x h h2 n m nm t e s b:Nat} {z:Value} {y:Operand} {X:A} {xs ys zs:List Value} {R R':List (Key × Cell)} (hN:Γ.ok d) (ht:Γ.P.underlying t=some (.slice e)) (hz:ZI Γ.P e z s b) (hzc:z.cells.size=s) (hs0:0<s) (hb:b≤1000)
  (hxl:xs.length=n*s) (hy:OpX y (.b (.a X)) R) (hsrc:Src X R' s m (pl ys)) (h1:∀ v∈ys,v.oneCell'=true) (hn:n+m≤4194304) (hzs:xs++ys=zs) (hnm:n+m=nm):
  Acts Γ ⟨some d,.call { callee:= .builtin .append,args:= #[.tmp x,y],argTypes:= #[t,t] },ty,pos,af,g⟩ ((.s x,.s (.b (.a (.sl h 0 n))))::(.o h,.o ⟨e,s,true,pl xs⟩)::(.o h2,.free)::(R++R'))
   [(.s d,some (.s (.b (.a (.sl h2 0 nm))))),(.o h2,some (.o ⟨e,s,true,pl zs⟩)),(.o h,none)]:=by
 obtain⟨i,i1,i2,i3,i4⟩:=hz.get
 subst hnm
 refine jD (o:=⟨e,s,true,pl xs⟩) (off:=0) (xs:=pl xs) (ys:=pl ys) (zs:=pl zs) (ex:=true) hN ht i1 i2 (by rw[hzc,i3]) i3 hs0 rfl (by simp only[iy,hxl];omega) ?_ (fun _=>⟨rfl,rfl⟩) hy hsrc (EN h1) (by unfold maxLen;omega) ?_ (by rw[←hzs,uR])
 ·simp only[Nat.zero_mul,List.drop_zero];rw[List.take_of_length_le (by rw[iy,hxl];exact Nat.le_refl _)]
 ·rw[i4];exact Nat.le_trans (Nat.mul_le_mul hn hb) (by decide)
end
theorem jo (n:Nat):(madeCells (Value.int .i64 0).cells (n*1)).toList=isl (List.replicate n 0):=BL n
theorem sO (n:Nat):(madeCells (Value.bool false).cells (n*1)).toList=bsl (List.replicate n false):=by
 have h:(Value.bool false).cells= #[Value.bool false]:=rfl
 rw[h,Nat.mul_one,toList_madeCells_one]
 simp [bsl]
theorem tX {Γ:Cx} {σ:St} {k h T s:Nat} (hk:get σ (.s k)=some (.s (V.v (.slice none 0 0)))) (hh:get σ (.o h)=some .free):
    eO Γ σ ((.s k,some (.s (.b (.a (.sl h 0 0)))))::(.o h,some (.o ⟨T,s,true,pl []⟩))::σ):=by
  intro a w ⟨ρ,I,hs⟩
  obtain⟨ρ',hρ,hx',hs2⟩:=hs.adopt hh (p:=⟨0,0,0,s,false,true⟩) (o:=⟨T,s,true,pl []⟩) rfl (by simp [pl]) (fun _=>⟨rfl,rfl,Nat.zero_le _⟩) (fun _=>rfl) (fun h=>by simp at h) (RowFit.no pg) (fun h=>by simp at h) (fun h=>by simp at h)
  have hv:a.tmps.getD k undef= .slice none 0 0:=hs.sl k _ hk
  refine⟨ρ',I,hs2.n,hs2.d,fun k' x h' hf hg hh=> ?_,hs2.kp,fun k' v hk'=> ?_,?_⟩
  · by_cases e:k=k'
    · subst e
      rw[bz]at hg
      injection hg with hg;injection hg with hg;injection hg with hg;injection hg with hg
      subst hg
      exact absurd (show h=h'∧0<0 from hh).2 (by omega)
    · rw[bf (lZ e)]at hg
      exact hs2.fx k' x h' hf hg hh
  · by_cases e:k=k'
    · subst e
      rw[bz]at hk'
      injection hk' with hk';injection hk' with hk'
      subst hk'
      rw[hv]
      exact⟨_,none,hx',by simp,by simp,fun _=>by simp⟩
    · rw[bf (lZ e)]at hk'
      exact hs2.sl k' v hk'
  · have hg:∀ x,get ((Key.s k,some (Cell.s (V.b (B.a (A.sl h 0 0)))))::(Key.o h,some (Cell.o ⟨T,s,true,pl []⟩))::σ) (.o x)=get ((Key.o h,some (Cell.o ⟨T,s,true,pl []⟩))::σ) (.o x):=fun x=>bf rfl
    exact⟨fun x o ho=>hs2.m.ow x o ((hg x)▸ho),fun x hx=>hs2.m.fr x ((hg x)▸hx),fun x p o ho=>hs2.m.pl x p o ((hg x)▸ho),fun x y p p' o o' h1 h2=>hs2.m.inj x y p p' o o' ((hg x)▸h1) ((hg y)▸h2),hs2.m.im,(hs2.m.rows0 fun x o ho=>(hg x)▸ho).1,(hs2.m.rows0 fun x o ho=>(hg x)▸ho).2,hs2.m.fm⟩
theorem aA {Γ:Cx} {α:Type} {inv:α→Prop} {head:α→St} {μ :α→Nat} {m:Nat} {K:Exit→St→Prop} {σ:St} (y:α) (h1:inv y) (h2: μ y<m) (h3:eO Γ σ (head y)):Bd (fun σ'=>∃ y,inv y∧ μ y<m∧eO Γ σ' (head y)) K .normal σ:=⟨y,h1,h2,h3⟩
theorem be {π:Nat→Nat} {k:IntKind} {a b:Int} (h:a=b):(V.v (.int k a)).ren π=V.v (.int k b):=by subst h;rfl
theorem vsl {π:Nat→Nat} {h h' off n m:Nat} (e:n=m) (e':π h=h'):(V.b (.a (.sl h off n))).ren π=V.b (.a (.sl h' off m)):=by subst e;subst e';rfl
theorem aJ {π:Nat→Nat} {F:List Nat} {T s:Nat} {ex ex':Bool} {xs ys:List Value} (h:ex=true→ex'=true) (e:xs=ys):qJ π F ⟨T,s,ex,pl xs⟩ ⟨T,s,ex',pl ys⟩:=by subst e;exact tz h
def aX (l:List (Nat × Nat)) (h:Nat):Nat:=match l with
 | []=>h
 | (a,b)::r=>bif Nat.beq a h then b else aX r h
theorem bi {v v':Value} (h:v=v'):ResV (.val v) (.a (.val v')) [] []:=by subst h;exact .val v
theorem ce {σ:St} {v v':Value} (h:v=v'):BRes σ (.a (.val v)) (.val v'):=by subst h;exact .val v
end Cl
end Go.Proofs.YtgmkkfdnmdohlaaGreatDoor
namespace Go.Proofs.YtgmkkfdnmdohlaaGreatDoor
namespace Cl
open Go.ChangeShapes Go.WideShapes Go.ChangeAt Go.RowKit
def kj (σ:St) (R:List (Key × Cell)):List (Option Cell):=R.map fun kv=>get σ kv.1
def fz (R:List (Key × Cell)):List (Option Cell):=R.map fun kv=>some kv.2
theorem mm {σ:St} {R:List (Key × Cell)} (h:kj σ R=fz R):Reads σ R:=by
  induction R with
  | nil=>trivial
  | cons a R ih=>
    simp only[kj,fz,List.map_cons,List.cons.injEq]at h
    exact⟨h.1,ih h.2⟩
theorem wpc {Γ:Cx} {ops:Array Oper} {o:Oper} {rest:List Oper} {K:Exit→St→Prop} {σ:St} {R:List (Key × Cell)} {W:St} (h:fA Γ ops o R W) (hR:kj σ R=fz R) (hr:WpL Γ ops rest K (W++σ)):WpL Γ ops (o::rest) K σ:=
 Gi h (mm hR) hr
def qG:Tr→St→List (List (Option Cell))
 | [],_=>[]
 | (R,W)::r,σ=>kj σ R::qG r (W++σ)
theorem zO {tr:Tr} {σ:St} (h:qG tr σ=tr.map fun x=>fz x.1):TrReads tr σ:=by
  induction tr generalizing σ with
  | nil=>trivial
  | cons a tr ih=>
    obtain⟨R,W⟩:=a
    simp only[qG,List.map_cons,List.cons.injEq]at h
    exact⟨mm h.1,ih h.2⟩
inductive AllSteps (Γ:Cx) (ops:Array Oper):List Oper→Tr→Prop
 | nil:AllSteps Γ ops [] []
 | cons {o:Oper} {r:List Oper} {R:List (Key × Cell)} {W:St} {tr:Tr} (h:fA Γ ops o R W) (t:AllSteps Γ ops r tr):AllSteps Γ ops (o::r) ((R,W)::tr)
theorem AllSteps.len {Γ:Cx} {ops:Array Oper} {l:List Oper} {tr:Tr} (h:AllSteps Γ ops l tr):tr.length=l.length:=by
 induction h with
 | nil=>rfl
 | cons h t ih=>simp [ih]
theorem AllSteps.at {Γ:Cx} {ops:Array Oper} {l:List Oper} {tr:Tr} (h:AllSteps Γ ops l tr):∀ (i:Nat) o R W,l[i]? =some o→tr[i]? =some (R,W)→fA Γ ops o R W:=by
  induction h with
  | nil=>intro i o R W h;simp at h
  | cons h t ih=>
    intro i o R W h1 h2
    cases i with
    | zero=>simp at h1 h2;obtain⟨rfl,rfl⟩:=h2;subst h1;exact h
    | succ i=>exact ih i o R W (by simpa using h1) (by simpa using h2)
theorem CZ {Γ:Cx} {id:Nat} {l:List Oper} {K:Exit→St→Prop} {σ:St} {tr:Tr} (hm:Γ.P.follows .mixedOrders=true) (hst:AllSteps Γ l.toArray l tr) (hr:qG tr σ=tr.map fun x=>fz x.1) (hd:qn l=true)
  (hp:lh (tr.map lb) (lL l []) 0 []=true) (hK:K .normal (after tr σ tr.length)):Wp Γ (.region id l.toArray true) K σ:=Ge hm hst.len hst.at (zO hr) hd hp hK
theorem wk_s {σ:St} {π:Nat→Nat} {F:List Nat} {k:Nat} {v v':V} {r:St} (h1:get σ (.s k)=some (.s v')) (h2:v.ren π=v') (h3:v.avd F=true) (h:Wk σ π F r):Wk σ π F ((.s k,some (.s v))::r):=⟨⟨v',h1,h2,h3⟩,h⟩
theorem wk_o {σ:St} {π:Nat→Nat} {F:List Nat} {x:Nat} {o o':Ob} {r:St} (h1:get σ (.o (π x))=some (.o o')) (h2:qJ π F o o') (h3:F.contains x=false) (h:Wk σ π F r):Wk σ π F ((.o x,some (.o o))::r):=⟨⟨o',h1,h2,h3⟩,h⟩
theorem wk_f {σ:St} {π:Nat→Nat} {F:List Nat} {x:Nat} {r:St} (h1:F.contains x=true) (h:Wk σ π F r):Wk σ π F ((.o x,some .free)::r):=⟨h1,h⟩
theorem quoN {a:Int} {b c:Nat} (h:a=(b:Int)) (hc:0<c) (hb:b≤9223372036854775807):IntKind.i64.wrap (a.tdiv (c:Int))=((b/c:Nat):Int):=by
 subst h
 have e:((b:Int)).tdiv (c:Int)=((b/c:Nat):Int):=rfl
 have hle:b/c≤b:=Nat.div_le_self _ _
 rw[e]
 generalize b/c=q at hle⊢
 exact w64 (by omega) (by omega)
theorem remN {a:Int} {b c:Nat} (h:a=(b:Int)):a.tmod (c:Int)=((b%c:Nat):Int):=by subst h;rfl
theorem remI {a b:Int} (ha:0≤a):a.tmod b=a%b:=Int.tmod_eq_emod_of_nonneg ha
theorem rK {p q:Prop} [Decidable p] [Decidable q] {x:Bool} (hpq:p↔¬q) (h:decide q=x):decide p= !x:=by subst h;rw[Bool.eq_iff_iff];simp [hpq]
theorem pI {h n T s:Nat} {ex:Bool} {xs:List Value} (hl:xs.length=n*s):Src (.sl h 0 n) [(.o h,.o ⟨T,s,ex,pl xs⟩)] s n (pl xs):=
 Src.sl h 0 n ⟨T,s,ex,pl xs⟩ (pl xs) (by simp only[iy,hl];omega) (by simp only[Nat.zero_mul,List.drop_zero];exact List.take_of_length_le (by rw[iy,hl];exact Nat.le_refl _))
theorem ci {t h n T s:Nat} {ex:Bool} {xs:List Value} (hl:xs.length=n*s):ArgV (.tmp t) (.a (.slv n s xs)) [(.s t,.s (.b (.a (.sl h 0 n)))),(.o h,.o ⟨T,s,ex,pl xs⟩)]:=
 ArgV.sl t h 0 n (by omega) (by simp only[Nat.zero_mul,List.drop_zero];exact List.take_of_length_le (by rw[hl];exact Nat.le_refl _))
theorem JW (l:List Int) (a b:Nat):((isl l).drop (a*1)).take (b*1)=isl ((l.drop a).take b):=by rw[En,Eo]
section
variable {Γ:Cx} {d:Nat} {ty:TypeId} {pos:String} {af:Array Edge} {g:Option (Nat × Bool)}
theorem Dc {x h off h2 n m nm t e s b:Nat} {z:Value} {y:Operand} {X:A} {xs ys vs zs:List Value} {R R':List (Key × Cell)} {ex:Bool} (hN:Γ.ok d) (ht:Γ.P.underlying t=some (.slice e)) (hz:ZI Γ.P e z s b) (hzc:z.cells.size=s) (hs0:0<s) (hb:b≤1000)
  (hxl:xs.length=(off+n)*s) (hv:(xs.drop (off*s)).take (n*s)=vs) (hy:OpX y (.b (.a X)) R) (hsrc:Src X R' s m (pl ys)) (h1:∀ v∈ys,v.oneCell'=true) (hn:n+m≤4194304) (hzs:vs++ys=zs) (hnm:n+m=nm):
  Acts Γ ⟨some d,.call { callee:= .builtin .append,args:= #[.tmp x,y],argTypes:= #[t,t] },ty,pos,af,g⟩ ((.s x,.s (.b (.a (.sl h off n))))::(.o h,.o ⟨e,s,ex,pl xs⟩)::(.o h2,.free)::(R++R'))
   [(.s d,some (.s (.b (.a (.sl h2 0 nm))))),(.o h2,some (.o ⟨e,s,false,pl zs⟩)),(.o h,none)]:=by
 obtain⟨i,i1,i2,i3,i4⟩:=hz.get
 subst hnm
 refine jD (o:=⟨e,s,ex,pl xs⟩) (off:=off) (xs:=pl vs) (ys:=pl ys) (zs:=pl zs) (ex:=false) hN ht i1 i2 (by rw[hzc,i3]) i3 hs0 rfl (by simp only[iy,hxl,Nat.add_mul];omega) (by simp only;rw[ph,hv]) (fun h=>by cases h) hy hsrc (EN h1) (by unfold maxLen;omega) ?_ (by rw[←hzs,uR])
 rw[i4];exact Nat.le_trans (Nat.mul_le_mul hn hb) (by decide)
theorem tZ {x h off h2 n m nm t e b:Nat} {z:Value} {y:Operand} {X:A} {L L2:List Int} {R R':List (Key × Cell)} {ex:Bool} (hN:Γ.ok d) (ht:Γ.P.underlying t=some (.slice e)) (hz:ZI Γ.P e z 1 b) (hl:L.length=off+n) (hy:OpX y (.b (.a X)) R) (hsrc:Src X R' 1 m (pl (isl L2))) (hn:n+m≤4194304) (hnm:n+m=nm)
  (hzc:z.cells.size=1:=by rfl) (hb:b≤1000:=by decide):
  Acts Γ ⟨some d,.call { callee:= .builtin .append,args:= #[.tmp x,y],argTypes:= #[t,t] },ty,pos,af,g⟩ ((.s x,.s (.b (.a (.sl h off n))))::(.o h,.o ⟨e,1,ex,pl (isl L)⟩)::(.o h2,.free)::(R++R'))
   [(.s d,some (.s (.b (.a (.sl h2 0 nm))))),(.o h2,some (.o ⟨e,1,false,pl (isl (L.drop off++L2))⟩)),(.o h,none)]:=
 Dc hN ht hz hzc (by decide) hb (by rw[dl,hl]) (by rw[JW,List.take_of_length_le (by simp;omega)]) hy hsrc (wh _) hn (by rw[sJ]) hnm
end
theorem Fo {base:Nat} {w:World} {v1 v2:Value} {r1 r2:RB} (h1:tY base w v1 r1) (h2:tY base w v2 r2) (hn:v2.ownBlock=none):wV base w (.tuple #[v1,v2]) [r1,r2]:=by
  refine⟨[v1,v2],rfl,rfl,fun j r u e1 e2=> ?_,fun j j' u u' hj e1 e2=> ?_⟩
  · match j,e1,e2 with
    | 0,e1,e2=>simp at e1 e2;subst e1;subst e2;exact h1
    | 1,e1,e2=>simp at e1 e2;subst e1;subst e2;exact h2
  · match j,j',hj,e1,e2 with
    | 0,0,hj,_,_=>exact absurd rfl hj
    | 0,1,_,e1,e2=>
      simp at e1 e2;subst e1;subst e2
      rw[hn]
      cases v1.ownBlock
      · exact .inl rfl
      · exact .inr (by simp)
    | 1,_,_,e1,e2=>simp at e1;subst e1;exact .inl hn
theorem kit_v {P:Program} {f:Nat} {bs:List B} {v:Value} {w:World} {args:List Value} (h:Fn P f bs [.val v]) (ha:sa w bs args):Calls P f args.toArray w fun e w'=>e= .returned v∧Below w.heap.size w w':=
 (h.2 w args (dK.2 ha)).mono fun e w' h=>by obtain⟨u,he,hv,hb⟩:=h;have hu:u=v:=hv;subst hu;exact⟨he,hb⟩
theorem args1 {w:World} {b1:B} {u1:Value} (h1:RelB ρ0 (I0 w) w b1 u1):sa w [b1] [u1]:=⟨h1,trivial⟩
theorem pQ {σ:St} {vs ws:List Value} (h:vs=ws):BRes σ (.agg (vs.map A.val)) (.val (.agg ws.toArray)):=by subst h;exact .agg vs
theorem pT {σ:St} {h n m T:Nat} {L L':List Int} (hg:get σ (.o h)=some (.o ⟨T,1,true,pl (isl L)⟩)) (e:L=L') (hn:n=L.length) (hm:m=L'.length:=by rfl):BRes σ (.a (.sl h 0 n)) (.row T 1 m (isl L')):=by
 subst e;subst hm;subst hn;exact .row h _ T 1 _ hg (by rw[dl])
theorem fg {σ:St} {h n m T:Nat} {L L':List Dom} (hg:get σ (.o h)=some (.o ⟨T,3,true,pl (dsl L)⟩)) (e:L=L') (hn:n=L.length) (hm:m=L'.length:=by rfl):BRes σ (.a (.sl h 0 n)) (.row T 3 m (dsl L')):=by
 subst e;subst hm;subst hn;exact .row h _ T 3 _ hg (by rw[cc])
theorem iQ {σ:St} {h n m T:Nat} {L L':List Cel} (hg:get σ (.o h)=some (.o ⟨T,2,true,pl (csl L)⟩)) (e:L=L') (hn:n=L.length) (hm:m=L'.length:=by rfl):BRes σ (.a (.sl h 0 n)) (.row T 2 m (csl L')):=by
 subst e;subst hm;subst hn;exact .row h _ T 2 _ hg (by rw[rJ])
theorem breg {σ:St} {h n m T:Nat} {L L':List Int} (hg:get σ (.o h)=some (.o ⟨T,1,true,pl (isl L)⟩)) (e:L=L') (hn:n=L.length) (hm:m=L'.length:=by rfl):BRes σ (.agg [.sl h 0 n]) (.reg T 1 m (isl L')):=by
 subst e;subst hm;subst hn;exact .reg h _ T 1 _ hg (by rw[dl])
end Cl
end Go.Proofs.YtgmkkfdnmdohlaaGreatDoor
