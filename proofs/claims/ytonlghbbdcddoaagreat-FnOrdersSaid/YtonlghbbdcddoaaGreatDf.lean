/- Walks. -/
import Derived.Test.YtonlghbbdcddoaaGreatP14
import Derived.Test.YtonlghbbdcddoaaGreatEB
import Derived.Test.YtonlghbbdcddoaaGreatClB
namespace Go.Proofs.YtonlghbbdcddoaaGreat
namespace Cl
open Go.ChangeShapes Go.WideShapes Go.ChangeAt Go.RowKit
set_option maxRecDepth 20000
def ic (P Q:List Dom):Form:=⟨fun X Y=>(fF P).H X Y-(fF Q).H X Y,fun X Y=>(fF P).V X Y-(fF Q).V X Y⟩
def dz (P Q:List Dom) (X Y:Nat):Int:=ms ((ic P Q).V X) Y
theorem kN (P Q:List Dom) (X Y:Nat):dz P Q X (Y+1)=dz P Q X Y+(ic P Q).V X Y:=rfl
theorem Bn {s:Nat} {P:List Dom} (h:TilS s P) {x y:Int} {b:Bool} (hd:(⟨x,y,b⟩:Dom)∈P):aP s ⟨x,y⟩=true∧aP s (if b=true then⟨x,y+1⟩else⟨x+1,y⟩)=true:=by
 have:=Eg h hd
 unfold ca cb at this
 cases b<;>exact this
theorem Ha {s:Nat} {P:List Dom} (h:TilS s P) {x y:Int} (hn:¬aP s ⟨x,y⟩=true∨¬aP s ⟨x,y-1⟩=true):hE P x y=sg (x+y):=by
 unfold hE
 rw[if_neg]
 intro hd
 obtain⟨h1,h2⟩:=Bn h hd
 rw[if_pos rfl,show y-1+1=y by omega]at h2
 rcases hn with hn |hn
 ·exact hn h2
 ·exact hn h1
theorem Jf {s:Nat} {P:List Dom} (h:TilS s P) {x y:Int} (hn:¬aP s ⟨x,y⟩=true∨¬aP s ⟨x-1,y⟩=true):vE P x y= -(sg (x+y)):=by
 unfold vE
 rw[if_neg]
 intro hd
 obtain⟨h1,h2⟩:=Bn h hd
 rw[if_neg (by simp),show x-1+1=x by omega]at h2
 rcases hn with hn |hn
 ·exact hn h2
 ·exact hn h1
theorem lU {s:Nat} {P Q:List Dom} (hP:TilS s P) (hQ:TilS s Q) {X Y:Nat} (hn:¬eL s (X,Y)∨∃ y,Y=y+1∧¬eL s (X,y)):(ic P Q).H X Y=0:=by
 show hE P _ _-hE Q _ _=0
 have hn':¬aP s ⟨(X:Int)-1,(Y:Int)-1⟩=true∨¬aP s ⟨(X:Int)-1,(Y:Int)-1-1⟩=true:=by
  rcases hn with h |⟨y,rfl,h⟩
  ·exact .inl h
  ·right;rw[show((y+1:Nat):Int)-1-1=(y:Int)-1 by omega];exact h
 rw[Ha hP hn',Ha hQ hn'];omega
theorem qG {s:Nat} {P Q:List Dom} (hP:TilS s P) (hQ:TilS s Q) {X Y:Nat} (hn:¬eL s (X,Y)∨∃ x,X=x+1∧¬eL s (x,Y)):(ic P Q).V X Y=0:=by
 show vE P _ _-vE Q _ _=0
 have hn':¬aP s ⟨(X:Int)-1,(Y:Int)-1⟩=true∨¬aP s ⟨(X:Int)-1-1,(Y:Int)-1⟩=true:=by
  rcases hn with h |⟨x,rfl,h⟩
  ·exact .inl h
  ·right;rw[show((x+1:Nat):Int)-1-1=(x:Int)-1 by omega];exact h
 rw[Jf hP hn',Jf hQ hn'];omega
theorem Gt (P Q:List Dom) (c:Nat × Nat):cG (ic P Q) c=cG (fF P) c-cG (fF Q) c:=by
 unfold cG ic;dsimp only;omega
theorem EL {l:List Int} {P Q:List Dom} (ho:aU l=true) (hP:TilS (ag l) P) (hQ:TilS (ag l) Q) (c:Nat × Nat):cG (ic P Q) c=0:=by
 by_cases hc:eL (ag l) c
 ·rw[Gt,oH (bO ho hP) c hc,oH (bO ho hQ) c hc];rfl
 ·obtain⟨X,Y⟩:=c
  unfold cG
  dsimp only
  rw[lU hP hQ (.inl hc),lU hP hQ (.inr ⟨Y,rfl,hc⟩),qG hP hQ (.inl hc),qG hP hQ (.inr ⟨X,rfl,hc⟩)];rfl
theorem jI {s:Nat} {c:Nat × Nat} (h:eL s c):1≤c.1∧c.1≤8∧1≤c.2∧c.2≤8:=by
 have:=kT h;omega
theorem mB {l:List Int} {P Q:List Dom} (ho:aU l=true) (hP:TilS (ag l) P) (hQ:TilS (ag l) Q) (X:Nat):∀ Y,dz P Q (X+1) Y=dz P Q X Y+(ic P Q).H X Y:=by
  intro Y
  induction Y with
  | zero=>
    rw[lU hP hQ (.inl (fun h=>by have:=jI h;dsimp only at this;omega))];rfl
  | succ Y ih=>
    rw[kN,kN,ih]
    have:=EL ho hP hQ (X,Y)
    unfold cG at this
    dsimp only at this;omega
theorem gV {l:List Int} {P Q:List Dom} (ho:aU l=true) (hP:TilS (ag l) P) (hQ:TilS (ag l) Q) {X Y:Nat} (hn:¬eL (ag l) (X,Y)):
  dz P Q (X+1) Y=dz P Q X Y∧dz P Q X (Y+1)=dz P Q X Y∧dz P Q (X+1) (Y+1)=dz P Q X Y:=by
 have h1:=mB ho hP hQ X Y
 have h2:=mB ho hP hQ X (Y+1)
 rw[lU hP hQ (.inl hn)]at h1
 rw[lU hP hQ (.inr ⟨Y,rfl,hn⟩)]at h2
 have h3:=kN P Q X Y
 rw[qG hP hQ (.inl hn)]at h3
 omega
theorem lv (s:Nat):bk s 0=true:=by
 rw[show(0:Nat)=(0,0).2*10+((0,0):Nat × Nat).1 from rfl,jg (by decide) (by decide)]
 intro h
 have:=kT h
 simp at this
theorem qO {s k:Nat} (h:bk s k=true):¬eL s (k%10,k/10):=by
 have:=dT h
 rw[←jg (s:=s) (c:=(k%10,k/10)) (by dsimp only;omega) (by dsimp only;omega)]
 dsimp only
 rw[show k/10*10+k%10=k by omega];exact h
theorem zI {l:List Int} {P Q:List Dom} (ho:aU l=true) (hh:ii (ag l)=1) (hP:TilS (ag l) P) (hQ:TilS (ag l) Q) {X Y:Nat} (hX:X<10) (hY:Y<10) (hn:¬eL (ag l) (X,Y)):dz P Q X Y=0:=by
  have key:∀ k,GReach eV (okE (bk (ag l))) 0 k→bk (ag l) k=true∧dz P Q (k%10) (k/10)=0:=by
    intro k hk
    induction hk with
    | root=>exact⟨lv _,rfl⟩
    | step p q hp hq hok ih=>
      obtain⟨pf,pz⟩:=ih
      have qf:bk (ag l) q=true:=hok
      refine⟨qf,?_⟩
      have hp100:=dT pf
      have hq100:=dT qf
      rw[ma hp100]at hq
      obtain⟨_,hx,hy⟩:=hq
      obtain⟨a1,a2,a3⟩:=gV ho hP hQ (qO pf)
      obtain⟨b1,b2,b3⟩:=gV ho hP hQ (qO qf)
      generalize ex:p%10=px at*
      generalize ey:p/10=py at*
      generalize fx:q%10=qx at*
      generalize fy:q/10=qy at*
      have c1:qx=px∨qx=px+1∨px=qx+1:=by omega
      have c2:qy=py∨qy=py+1∨py=qy+1:=by omega
      clear ex ey fx fy
      rcases c1 with rfl |rfl |rfl<;>rcases c2 with rfl |rfl |rfl<;>omega
  have hf:=(jg hX hY).2 hn
  have:=(key _ (vh (lv _) hh _ (by omega) hf)).2
  rwa [show(Y*10+X)%10=X by omega,show(Y*10+X)/10=Y by omega]at this
def Inn (s:Nat) (v:Nat × Nat):Prop:=∃ x y,v=(x+1,y+1)∧eL s (x,y)∧eL s (x+1,y)∧eL s (x,y+1)∧eL s (x+1,y+1)
theorem Db {l:List Int} {P Q:List Dom} (ho:aU l=true) (hh:ii (ag l)=1) (hP:TilS (ag l) P) (hQ:TilS (ag l) Q) {X Y:Nat} (hX:X≤10) (hY:Y≤10) (h:dz P Q X Y≠0):Inn (ag l) (X,Y):=by
  have f:∀ X Y,X<10→Y<10→¬eL (ag l) (X,Y)→dz P Q X Y=0:=fun X Y a b c=>zI ho hh hP hQ a b c
  match X,Y,h with
  | X,0,h=>exact absurd rfl h
  | 0,Y+1,h=>
    exfalso
    have hn:¬eL (ag l) (0,Y):=fun hr=>by have:=jI hr;dsimp only at this;omega
    have:=(gV ho hP hQ hn).2.1
    rw[this,f 0 Y (by omega) (by omega) hn]at h;exact h rfl
  | X+1,Y+1,h=>
    refine⟨X,Y,rfl,?_,?_,?_,?_⟩
    · refine Classical.byContradiction fun hn=>h ?_
      rw[(gV ho hP hQ hn).2.2,f X Y (by omega) (by omega) hn]
    · refine Classical.byContradiction fun hn=>h ?_
      rw[(gV ho hP hQ hn).2.1]
      by_cases e:X+1<10
      · exact f _ Y e (by omega) hn
      · have hn2:¬eL (ag l) (X,Y):=fun hr=>by have:=jI hr;dsimp only at this;omega
        rw[(gV ho hP hQ hn2).1];exact f X Y (by omega) (by omega) hn2
    · refine Classical.byContradiction fun hn=>h ?_
      rw[(gV ho hP hQ hn).1]
      by_cases e:Y+1<10
      · exact f X _ (by omega) e hn
      · have hn2:¬eL (ag l) (X,Y):=fun hr=>by have:=jI hr;dsimp only at this;omega
        rw[(gV ho hP hQ hn2).2.1];exact f X Y (by omega) (by omega) hn2
    · refine Classical.byContradiction fun hn=>h ?_
      by_cases e:X+1<10∧Y+1<10
      · exact f _ _ e.1 e.2 hn
      · have hn2:¬eL (ag l) (X,Y):=fun hr=>by have:=jI hr;dsimp only at this;omega
        rw[(gV ho hP hQ hn2).2.2];exact f X Y (by omega) (by omega) hn2
structure KeepV (I:Nat × Nat→Prop) (f g:Form):Prop where
 h:∀ x y,I (x,y)→I (x+1,y)→g.H x y=f.H x y
 v:∀ x y,I (x,y)→I (x,y+1)→g.V x y=f.V x y
theorem KeepV.refl (I:Nat × Nat→Prop) (f:Form):KeepV I f f:=⟨fun _ _ _ _=>rfl,fun _ _ _ _=>rfl⟩
theorem KeepV.trans {I:Nat × Nat→Prop} {f g k:Form} (h:KeepV I f g) (h':KeepV I g k):KeepV I f k:=
 ⟨fun x y p q=>(h'.h x y p q).trans (h.h x y p q),fun x y p q=>(h'.v x y p q).trans (h.v x y p q)⟩
theorem turnV {I:Nat × Nat→Prop} (f:Form) (x y:Nat) (hv:¬I (x+1,y+1)) (α β γ:Int):
  ∃ g,KeepV I f g∧cG g (x,y)=cG f (x,y)+α∧cG g (x+1,y)=cG f (x+1,y)+β∧cG g (x+1,y+1)=cG f (x+1,y+1)+γ∧
   cG g (x,y+1)=cG f (x,y+1)-(α+β+γ)∧∀ e,e≠(x,y)→e≠(x+1,y)→e≠(x+1,y+1)→e≠(x,y+1)→cG g e=cG f e:=by
 refine⟨⟨fun a b=>if a=x+1∧b=y+1 then f.H a b-(α+β)else f.H a b,fun a b=>if a=x+1∧b=y then f.V a b+α else if a=x+1∧b=y+1 then f.V a b-(α+β+γ)else f.V a b⟩,⟨fun a b p q=> ?_,fun a b p q=> ?_⟩,?_,?_,?_,?_,fun e e1 e2 e3 e4=> ?_⟩
 ·show(if a=x+1∧b=y+1 then f.H a b-(α+β)else f.H a b)=f.H a b
  rw[if_neg]
  rintro⟨rfl,rfl⟩;exact hv p
 ·show(if a=x+1∧b=y then f.V a b+α else if a=x+1∧b=y+1 then f.V a b-(α+β+γ)else f.V a b)=f.V a b
  rw[if_neg,if_neg]
  ·rintro⟨rfl,rfl⟩;exact hv p
  ·rintro⟨rfl,rfl⟩;exact hv q
 ·unfold cG;dsimp only
  rw[if_neg (by omega),if_pos ⟨rfl,rfl⟩,if_neg (by omega),if_neg (by omega),if_neg (by omega)];omega
 ·unfold cG;dsimp only
  rw[if_neg (by omega),if_neg (by omega),if_neg (by omega),if_pos ⟨rfl,rfl⟩,if_pos ⟨rfl,rfl⟩];omega
 ·unfold cG;dsimp only
  rw[if_pos ⟨rfl,rfl⟩,if_neg (by omega),if_neg (by omega),if_neg (by omega),if_neg (by omega),if_pos ⟨rfl,rfl⟩];omega
 ·unfold cG;dsimp only
  rw[if_neg (by omega),if_neg (by omega),if_pos ⟨rfl,rfl⟩,if_neg (by omega),if_neg (by omega),if_neg (by omega)];omega
 ·obtain⟨a,b⟩:=e
  simp only[ne_eq,Prod.mk.injEq]at e1 e2 e3 e4
  unfold cG;dsimp only
  rw[if_neg (by omega),if_neg (by omega),if_neg (by omega),if_neg (by omega),if_neg (by omega),if_neg (by omega)]
def Adj8 (c d:Nat × Nat):Prop:=(c.1≤d.1+1∧d.1≤c.1+1)∧(c.2≤d.2+1∧d.2≤c.2+1)
theorem MV {s:Nat} {c:Nat × Nat} (hc:¬eL s c) {x y:Nat} (h:c=(x,y)∨c=(x+1,y)∨c=(x,y+1)∨c=(x+1,y+1)):¬Inn s (x+1,y+1):=by
 rintro⟨a,b,e,h1,h2,h3,h4⟩
 simp only[Prod.mk.injEq]at e
 obtain⟨e1,e2⟩:=e
 obtain rfl:x=a:=by omega
 obtain rfl:y=b:=by omega
 rcases h with rfl |rfl |rfl |rfl
 ·exact hc h1
 ·exact hc h2
 ·exact hc h3
 ·exact hc h4
theorem Jo {s:Nat} (f:Form) {c d:Nat × Nat} (ha:Adj8 c d) (hne:c≠d) (hc:¬eL s c) (δ:Int):
    ∃ g,KeepV (Inn s) f g∧cG g c=cG f c+δ∧∀ e,e≠c→e≠d→cG g e=cG f e:=by
  obtain⟨cx,cy⟩:=c
  obtain⟨dx,dy⟩:=d
  unfold Adj8 at ha
  dsimp only at ha
  simp only[ne_eq,Prod.mk.injEq]at hne
  generalize hx:min cx dx=x
  generalize hy:min cy dy=y
  have hv:=MV hc (x:=x) (y:=y) (by simp only[Prod.mk.injEq];omega)
  obtain⟨g,k,g1,g2,g3,g4,g5⟩:=turnV f x y hv ((if cx=x∧cy=y then δ else 0)-(if dx=x∧dy=y then δ else 0)) ((if cx=x+1∧cy=y then δ else 0)-(if dx=x+1∧dy=y then δ else 0)) ((if cx=x+1∧cy=y+1 then δ else 0)-(if dx=x+1∧dy=y+1 then δ else 0))
  have c1:cx=x∨cx=x+1:=by omega
  have c2:cy=y∨cy=y+1:=by omega
  have d1:dx=x∨dx=x+1:=by omega
  have d2:dy=y∨dy=y+1:=by omega
  clear hx hy
  have nx:¬x=x+1:=by omega
  have ny:¬y=y+1:=by omega
  have nx':¬x+1=x:=by omega
  have ny':¬y+1=y:=by omega
  refine⟨g,k,?_,fun e e1 e2=> ?_⟩
  · rcases c1 with rfl |rfl<;>rcases c2 with rfl |rfl<;>rcases d1 with rfl |rfl<;>rcases d2 with rfl |rfl<;>
      simp only[and_self,and_true,true_and,and_false,false_and,not_true_eq_false,nx,ny,nx',ny',if_true,if_false]at g1 g2 g3 g4 hne<;>first |omega |exact absurd rfl hne |exact absurd trivial hne
  · by_cases q1:e=(x,y)
    · subst q1
      rw[g1]
      simp only[ne_eq,Prod.mk.injEq]at e1 e2
      rw[if_neg (by omega),if_neg (by omega)];omega
    · by_cases q2:e=(x+1,y)
      · subst q2
        rw[g2]
        simp only[ne_eq,Prod.mk.injEq]at e1 e2
        rw[if_neg (by omega),if_neg (by omega)];omega
      · by_cases q3:e=(x+1,y+1)
        · subst q3
          rw[g3]
          simp only[ne_eq,Prod.mk.injEq]at e1 e2
          rw[if_neg (by omega),if_neg (by omega)];omega
        · by_cases q4:e=(x,y+1)
          · subst q4
            rw[g4]
            simp only[ne_eq,Prod.mk.injEq]at e1 e2
            rcases c1 with rfl |rfl<;>rcases c2 with rfl |rfl<;>rcases d1 with rfl |rfl<;>rcases d2 with rfl |rfl<;>
              simp only[and_self,and_true,true_and,and_false,false_and,not_true_eq_false,not_false_eq_true,nx,ny,nx',ny',if_true,if_false]at e1 e2 hne⊢ <;>first |omega |exact absurd rfl hne |exact absurd trivial hne
          · exact g5 e q1 q2 q3 q4
theorem Ip {s:Nat} (f:Form) (δ:Int):∃ g,KeepV (Inn s) f g∧cG g (0,0)=cG f (0,0)+δ∧∀ e,e≠(0,0)→cG g e=cG f e:=by
 refine⟨⟨fun a b=>if a=0∧b=0 then f.H a b+δ else f.H a b,f.V⟩,⟨fun a b p q=> ?_,fun _ _ _ _=>rfl⟩,?_,fun e he=> ?_⟩
 ·show(if a=0∧b=0 then f.H a b+δ else f.H a b)=f.H a b
  rw[if_neg]
  rintro⟨rfl,rfl⟩
  obtain⟨x,y,e,_⟩:=p
  simp only[Prod.mk.injEq]at e;omega
 ·unfold cG;dsimp only
  rw[if_pos ⟨rfl,rfl⟩,if_neg (by omega)];omega
 ·obtain⟨a,b⟩:=e
  simp only[ne_eq,Prod.mk.injEq]at he
  unfold cG;dsimp only
  rw[if_neg he,if_neg (by omega)]
def cq (k:Nat):Nat × Nat:=(k%10,k/10)
theorem LK {s k:Nat} (hk:GReach eV (okE (bk s)) 0 k):bk s k=true∧∀ (f:Form) (δ:Int),∃ g,KeepV (Inn s) f g∧cG g (cq k)=cG f (cq k)+δ∧∀ e,e≠cq k→e≠(0,0)→cG g e=cG f e:=by
  induction hk with
  | root=>
    refine⟨lv s,fun f δ=> ?_⟩
    obtain⟨g,a,b,c⟩:=Ip (s:=s) f δ
    exact⟨g,a,b,fun e _ h=>c e h⟩
  | step p q hp hq hok ih=>
    obtain⟨pf,ih⟩:=ih
    have qf:bk s q=true:=hok
    refine⟨qf,fun f δ=> ?_⟩
    have hp100:=dT pf
    have hq100:=dT qf
    rw[ma hp100]at hq
    by_cases e:q=p
    · subst e;exact ih f δ
    · have hne:cq q≠cq p:=fun h=>e (by unfold cq at h;simp only[Prod.mk.injEq]at h;omega)
      have ha:Adj8 (cq q) (cq p):=by unfold Adj8 cq;dsimp only;omega
      obtain⟨g1,k1,z1,r1⟩:=Jo (s:=s) f ha hne (qO qf) δ
      obtain⟨g2,k2,z2,r2⟩:=ih g1 (cG f (cq p)-cG g1 (cq p))
      by_cases q0:q=0
      · subst q0
        obtain⟨g,a,b,c⟩:=Ip (s:=s) f δ
        exact⟨g,a,b,fun e _ h=>c e h⟩
      · refine⟨g2,k1.trans k2,?_,fun e e1 e2=> ?_⟩
        · rw[r2 _ hne (fun h=>q0 (by unfold cq at h;simp only[Prod.mk.injEq]at h;omega)),z1]
        · by_cases e3:e=cq p
          · subst e3;rw[z2];omega
          · rw[r2 e e3 e2,r1 e e1 e3]
theorem zero8 {s:Nat}:∀ (L:List Nat),(∀ k∈L,GReach eV (okE (bk s)) 0 k)→∀ f:Form,∃ g,KeepV (Inn s) f g∧(∀ k∈L,k≠0→cG g (cq k)=0)∧∀ e,(∀ k∈L,e≠cq k)→e≠(0,0)→cG g e=cG f e:=by
  intro L
  induction L with
  | nil=>intro _ f;exact⟨f,KeepV.refl _ _,by simp,fun _ _ _=>rfl⟩
  | cons c L ih=>
    intro hL f
    obtain⟨g1,k1,z1,r1⟩:=ih (fun k hk=>hL k (by simp [hk])) f
    obtain⟨g2,k2,z2,r2⟩:=(LK (hL c (by simp))).2 g1 (-(cG g1 (cq c)))
    have hlt:∀ k∈c::L,k<100:=fun k hk=>dT (LK (hL k hk)).1
    have inj:∀ k∈c::L,∀ k'∈c::L,cq k=cq k'→k=k':=fun k hk k' hk' h=>by
      unfold cq at h;simp only[Prod.mk.injEq]at h;omega
    refine⟨g2,k1.trans k2,fun k hk h0=> ?_,fun e he h0=> ?_⟩
    · by_cases e:k=c
      · subst e;rw[z2];omega
      · have hk':k∈L:=by
          rcases List.mem_cons.1 hk with h |h
          · exact absurd h e
          · exact h
        rw[r2 _ (fun h=>e (inj k hk c (by simp) h)) (fun h=>h0 (by unfold cq at h;simp only[Prod.mk.injEq]at h;omega))]
        exact z1 k hk' h0
    · rw[r2 e (he c (by simp)) h0,r1 e (fun k hk=>he k (by simp [hk])) h0]
theorem pot8 {l:List Int} {P:List Dom} (hh:ii (ag l)=1) (ht:ct l P=true):
  ∃ p:Nat→Nat→Int,(∀ x y,x<10→y≤10→Inn (ag l) (x,y)→Inn (ag l) (x+1,y)→p (x+1) y=p x y+(fF P).H x y)∧∀ x y,Inn (ag l) (x,y)→Inn (ag l) (x,y+1)→p x (y+1)=p x y+(fF P).V x y:=by
 have hall:=vh (lv (ag l)) hh
 obtain⟨g1,k1,z1,r1⟩:=zero8 (s:=ag l) ((List.range 100).filter (bk (ag l))) (fun k hk=>by
  rw[List.mem_filter,List.mem_range]at hk;exact hall k hk.1 hk.2) (fF P)
 obtain⟨g2,k2,z2,r2⟩:=Ip (s:=ag l) g1 (-(cG g1 (0,0)))
 have hz:∀ x y,x<10→y<10→cG g2 (x,y)=0:=by
  intro x y hx hy
  by_cases e0:(x,y)=(0,0)
  ·rw[e0,z2];omega
  ·rw[r2 _ e0]
   by_cases hr:eL (ag l) (x,y)
   ·rw[r1 _ (fun k hk h=> ?_) e0]
    ·exact oH ht _ hr
    ·rw[List.mem_filter]at hk
     rw[h]at hr
     exact qO hk.2 hr
   ·have hf:=(jg (c:=(x,y)) hx hy).2 hr
    dsimp only at hf
    have e1:cq (y*10+x)=(x,y):=by unfold cq;rw[show(y*10+x)%10=x by omega,show(y*10+x)/10=y by omega]
    rw[←e1]
    refine z1 _ (List.mem_filter.2 ⟨by rw[List.mem_range];omega,hf⟩) (fun h=>e0 ?_)
    rw[Prod.mk.injEq];omega
 obtain⟨p,p1,p2⟩:=xA (f:=g2) (n:=10) hz
 refine⟨p,fun x y hx hy h1 h2=> ?_,fun x y h1 h2=> ?_⟩
 ·rw[p1 x y hx hy,(k1.trans k2).h x y h1 h2]
 ·rw[p2 x y,(k1.trans k2).v x y h1 h2]
theorem MZ {α:Type} (f:α→Int):∀ (L:List α),L≠[]→∃ m∈L,∀ x∈L,f x≤f m:=by
  intro L
  induction L with
  | nil=>intro h;exact absurd rfl h
  | cons a L ih=>
    intro _
    by_cases h:L=[]
    · subst h;exact⟨a,by simp,fun x hx=>by simp only[List.mem_singleton]at hx;subst hx;exact Int.le_refl _⟩
    · obtain⟨m,hm,hx⟩:=ih h
      by_cases e:f m≤f a
      · exact⟨a,by simp,fun x hx'=>by
          rcases List.mem_cons.1 hx' with rfl |q
          · exact Int.le_refl _
          · exact Int.le_trans (hx x q) e⟩
      · exact⟨m,by simp [hm],fun x hx'=>by
          rcases List.mem_cons.1 hx' with rfl |q
          · omega
          · exact hx x q⟩
theorem jQ (ds:List Dom) (x y:Int):((⟨x,y-1,true⟩:Dom)∈ds∧hE ds x y= -3*sg (x+y))∨((⟨x,y-1,true⟩:Dom)∉ds∧hE ds x y=sg (x+y)):=by
 unfold hE;split
 ·rename_i h;exact .inl ⟨h,rfl⟩
 ·rename_i h;exact .inr ⟨h,rfl⟩
theorem hG (ds:List Dom) (x y:Int):((⟨x-1,y,false⟩:Dom)∈ds∧vE ds x y=3*sg (x+y))∨((⟨x-1,y,false⟩:Dom)∉ds∧vE ds x y= -(sg (x+y))):=by
 unfold vE;split
 ·rename_i h;exact .inl ⟨h,rfl⟩
 ·rename_i h;exact .inr ⟨h,rfl⟩
theorem Mt (P Q:List Dom) (X Y:Nat):((ic P Q).H X Y=0∨(ic P Q).H X Y=4∨(ic P Q).H X Y= -4)∧((ic P Q).V X Y=0∨(ic P Q).V X Y=4∨(ic P Q).V X Y= -4):=by
 have s1:=pN (((X:Int)-1)+((Y:Int)-1))
 constructor
 ·show(hE P _ _-hE Q _ _=0)∨(hE P _ _-hE Q _ _=4)∨(hE P _ _-hE Q _ _= -4)
  rcases jQ P ((X:Int)-1) ((Y:Int)-1)with⟨_,a⟩ |⟨_,a⟩<;>rcases jQ Q ((X:Int)-1) ((Y:Int)-1)with⟨_,b⟩ |⟨_,b⟩<;>rw[a,b]<;>omega
 ·show(vE P _ _-vE Q _ _=0)∨(vE P _ _-vE Q _ _=4)∨(vE P _ _-vE Q _ _= -4)
  rcases hG P ((X:Int)-1) ((Y:Int)-1)with⟨_,a⟩ |⟨_,a⟩<;>rcases hG Q ((X:Int)-1) ((Y:Int)-1)with⟨_,b⟩ |⟨_,b⟩<;>rw[a,b]<;>omega
theorem BE (P Q:List Dom) (X:Nat):∀ Y,dz P Q X Y%4=0:=by
  intro Y
  induction Y with
  | zero=>rfl
  | succ Y ih=>
    rw[kN]
    have:=(Mt P Q X Y).2
    omega
theorem JJ {l:List Int} {P Q:List Dom} (ho:aU l=true) (hh:ii (ag l)=1) (hP:TilS (ag l) P) (hQ:TilS (ag l) Q) {X Y:Nat} (hX:X≤10) (hY:Y≤10) (hpos:0<dz P Q X Y):
  ∃ x y:Nat,x≤7∧y≤7∧0<dz P Q (x+2) (y+2)∧gK P x y=true∧((acB P x y=true∧sg ((x:Int)+y)= -1)∨(acB P x y=false∧sg ((x:Int)+y)=1)):=by
 have ht:=bO ho hP
 have inn:∀ {X Y:Nat},X≤10→Y≤10→0<dz P Q X Y→Inn (ag l) (X,Y):=fun a b h=>Db ho hh hP hQ a b (by omega)
 obtain⟨p,p1,p2⟩:=pot8 hh ht
 let L:List (Nat × Nat):=((List.range 11).flatMap fun a=>(List.range 11).map fun b=>(a,b)).filter fun v=>decide (0<dz P Q v.1 v.2)
 have hL:∀ a b,(a,b)∈L↔(a≤10∧b≤10)∧0<dz P Q a b:=fun a b=>by
  show _∈List.filter _ _↔_
  rw[List.mem_filter,decide_eq_true_eq,List.mem_flatMap]
  refine and_congr ⟨?_,fun h=>⟨a,by rw[List.mem_range];omega,List.mem_map.2 ⟨b,by rw[List.mem_range];omega,rfl⟩⟩⟩ Iff.rfl
  rintro⟨x,hx,h⟩
  obtain⟨y,hy,e⟩:=List.mem_map.1 h
  rw[List.mem_range]at hx hy
  simp only[Prod.mk.injEq]at e;omega
 obtain⟨⟨a,b⟩,hm,hmax⟩:=MZ (fun v:Nat × Nat=>p v.1 v.2) L (fun e=>by
  have:=(hL X Y).2 ⟨⟨hX,hY⟩,hpos⟩;rw[e]at this;cases this)
 dsimp only at hmax
 obtain⟨⟨ha,hb⟩,hd⟩:=(hL a b).1 hm
 have hi:=inn ha hb hd
 obtain⟨x,y,e,r1,r2,r3,r4⟩:=hi
 simp only[Prod.mk.injEq]at e
 obtain⟨rfl,rfl⟩:=e
 have q1:=jI r1
 have q4:=jI r4
 dsimp only at q1 q4
 have d4:=BE P Q (x+1) (y+1)
 have hi:Inn (ag l) (x+1,y+1):=⟨x,y,rfl,r1,r2,r3,r4⟩
 have sR:=pN (((x+1:Nat):Int)-1+(((y+1:Nat):Int)-1))
 have gR:hE P (((x+1:Nat):Int)-1) (((y+1:Nat):Int)-1)≤0:=by
  refine Classical.byContradiction fun hc=> ?_
  have e1:=mB ho hP hQ (x+1) (y+1)
  have e2:(ic P Q).H (x+1) (y+1)=hE P (((x+1:Nat):Int)-1) (((y+1:Nat):Int)-1)-hE Q (((x+1:Nat):Int)-1) (((y+1:Nat):Int)-1):=rfl
  have hq:hE Q (((x+1:Nat):Int)-1) (((y+1:Nat):Int)-1)≤3:=by rcases jQ Q (((x+1:Nat):Int)-1) (((y+1:Nat):Int)-1)with⟨_,a⟩ |⟨_,a⟩<;>rw[a]<;>omega
  have hp:0<dz P Q (x+1+1) (y+1):=by omega
  have i2:=inn (by omega) (by omega) hp
  have:=hmax _ ((hL (x+1+1) (y+1)).2 ⟨⟨by omega,by omega⟩,hp⟩)
  dsimp only at this
  rw[p1 _ _ (by omega) (by omega) hi i2]at this
  have e3:(fF P).H (x+1) (y+1)=hE P (((x+1:Nat):Int)-1) (((y+1:Nat):Int)-1):=rfl
  omega
 have gL:0≤hE P (((x:Nat):Int)-1) (((y+1:Nat):Int)-1):=by
  refine Classical.byContradiction fun hc=> ?_
  have e1:=mB ho hP hQ x (y+1)
  have e2:(ic P Q).H x (y+1)=hE P (((x:Nat):Int)-1) (((y+1:Nat):Int)-1)-hE Q (((x:Nat):Int)-1) (((y+1:Nat):Int)-1):=rfl
  have sL:=pN (((x:Nat):Int)-1+(((y+1:Nat):Int)-1))
  have hq: -3≤hE Q (((x:Nat):Int)-1) (((y+1:Nat):Int)-1):=by rcases jQ Q (((x:Nat):Int)-1) (((y+1:Nat):Int)-1)with⟨_,a⟩ |⟨_,a⟩<;>rw[a]<;>omega
  have hp:0<dz P Q x (y+1):=by omega
  have i2:=inn (by omega) (by omega) hp
  have:=hmax _ ((hL x (y+1)).2 ⟨⟨by omega,by omega⟩,hp⟩)
  dsimp only at this
  rw[p1 _ _ (by omega) (by omega) i2 hi]at this
  have e3:(fF P).H x (y+1)=hE P (((x:Nat):Int)-1) (((y+1:Nat):Int)-1):=rfl
  omega
 have gD:vE P (((x+1:Nat):Int)-1) (((y+1:Nat):Int)-1)≤0:=by
  refine Classical.byContradiction fun hc=> ?_
  have e1:=kN P Q (x+1) (y+1)
  have e2:(ic P Q).V (x+1) (y+1)=vE P (((x+1:Nat):Int)-1) (((y+1:Nat):Int)-1)-vE Q (((x+1:Nat):Int)-1) (((y+1:Nat):Int)-1):=rfl
  have hq:vE Q (((x+1:Nat):Int)-1) (((y+1:Nat):Int)-1)≤3:=by rcases hG Q (((x+1:Nat):Int)-1) (((y+1:Nat):Int)-1)with⟨_,a⟩ |⟨_,a⟩<;>rw[a]<;>omega
  have hp:0<dz P Q (x+1) (y+1+1):=by omega
  have i2:=inn (by omega) (by omega) hp
  have:=hmax _ ((hL (x+1) (y+1+1)).2 ⟨⟨by omega,by omega⟩,hp⟩)
  dsimp only at this
  rw[p2 _ _ hi i2]at this
  have e3:(fF P).V (x+1) (y+1)=vE P (((x+1:Nat):Int)-1) (((y+1:Nat):Int)-1):=rfl
  omega
 have gU:0≤vE P (((x+1:Nat):Int)-1) (((y:Nat):Int)-1):=by
  refine Classical.byContradiction fun hc=> ?_
  have e1:=kN P Q (x+1) y
  have e2:(ic P Q).V (x+1) y=vE P (((x+1:Nat):Int)-1) (((y:Nat):Int)-1)-vE Q (((x+1:Nat):Int)-1) (((y:Nat):Int)-1):=rfl
  have sL:=pN (((x+1:Nat):Int)-1+(((y:Nat):Int)-1))
  have hq: -3≤vE Q (((x+1:Nat):Int)-1) (((y:Nat):Int)-1):=by rcases hG Q (((x+1:Nat):Int)-1) (((y:Nat):Int)-1)with⟨_,a⟩ |⟨_,a⟩<;>rw[a]<;>omega
  have hp:0<dz P Q (x+1) y:=by omega
  have i2:=inn (by omega) (by omega) hp
  have:=hmax _ ((hL (x+1) y).2 ⟨⟨by omega,by omega⟩,hp⟩)
  dsimp only at this
  rw[p2 _ _ i2 hi]at this
  have e3:(fF P).V (x+1) y=vE P (((x+1:Nat):Int)-1) (((y:Nat):Int)-1):=rfl
  omega
 obtain⟨x',rfl⟩:∃ x',x=x'+1:=⟨x-1,by omega⟩
 obtain⟨y',rfl⟩:∃ y',y=y'+1:=⟨y-1,by omega⟩
 simp only[show((x'+1+1:Nat):Int)-1=(x':Int)+1 by omega,show((y'+1+1:Nat):Int)-1=(y':Int)+1 by omega,show((x'+1:Nat):Int)-1=(x':Int) by omega,show((y'+1:Nat):Int)-1=(y':Int) by omega]at gR gL gD gU
 have bd:Go.Proofs.YtonlghbbdcddoaaGreat.inB x' 0 6=true∧Go.Proofs.YtonlghbbdcddoaaGreat.inB y' 0 6=true:=⟨bw.2 (by omega),bw.2 (by omega)⟩
 have z1:sg ((x':Int)+1+((y':Int)+1))=sg ((x':Int)+y'):=by rw[show(x':Int)+1+((y':Int)+1)=(x'+y')+1+1 by omega,kf,kf];omega
 have z2:sg ((x':Int)+((y':Int)+1))= -(sg ((x':Int)+y')):=by rw[show(x':Int)+((y':Int)+1)=(x'+y')+1 by omega,kf]
 have z3:sg ((x':Int)+1+(y':Int))= -(sg ((x':Int)+y')):=by rw[show(x':Int)+1+(y':Int)=(x'+y')+1 by omega,kf]
 have cR:=jQ P ((x':Int)+1) ((y':Int)+1)
 have cL:=jQ P (x':Int) ((y':Int)+1)
 have cD:=hG P ((x':Int)+1) ((y':Int)+1)
 have cU:=hG P ((x':Int)+1) (y':Int)
 rw[z1]at cR cD
 rw[z2]at cL
 rw[z3]at cU
 rw[show(y':Int)+1-1=y' by omega]at cR cL
 rw[show(x':Int)+1-1=x' by omega]at cD cU
 refine⟨x',y',by omega,by omega,hd,?_⟩
 rcases pN ((x':Int)+y')with hs |hs
 ·
  have m1:(⟨(x':Int)+1,y',true⟩:Dom)∈P:=by
   rcases cR with⟨h,_⟩ |⟨_,h⟩
   ·exact h
   ·omega
  have m2:(⟨(x':Int),y',true⟩:Dom)∈P:=by
   rcases cL with⟨h,_⟩ |⟨_,h⟩
   ·exact h
   ·omega
  have hdn:Go.Proofs.YtonlghbbdcddoaaGreat.dnB P x' y'=true:=by
   show(mH _ _ _ _&&mH _ _ _ _)=true
   rw[Bool.and_eq_true,fY,fY];exact⟨m2,m1⟩
  have hac:acB P x' y'=false:=by
   rw[Bool.eq_false_iff]
   intro h
   unfold acB at h
   simp only[Bool.and_eq_true,fY]at h
   have:=oB hP m2 h.1 (mU (c:=⟨x',y'⟩) true) (mU (c:=⟨x',y'⟩) false)
   simp at this
  refine⟨?_,.inr ⟨hac,hs⟩⟩
  unfold gK
  rw[bd.1,bd.2,hdn];simp
 ·have m1:(⟨(x':Int),(y':Int)+1,false⟩:Dom)∈P:=by
   rcases cD with⟨h,_⟩ |⟨_,h⟩
   ·exact h
   ·omega
  have m2:(⟨(x':Int),y',false⟩:Dom)∈P:=by
   rcases cU with⟨h,_⟩ |⟨_,h⟩
   ·exact h
   ·omega
  have hac:acB P x' y'=true:=by
   unfold acB
   simp only[Bool.and_eq_true,fY];exact⟨m2,m1⟩
  refine⟨?_,.inl ⟨hac,hs⟩⟩
  unfold gK
  rw[bd.1,bd.2,hac];simp
theorem IP {f:Nat→Int} {a:Nat} {e:Int} (h0:∀ j,j≠a→j≠a+1→f j=0) (h1:f a=e) (h2:f (a+1)= -e):∀ n,ms f n=if n=a+1 then e else 0:=by
 have lo:∀ n,n≤a→ms f n=0:=by
  intro n
  induction n with
  | zero=>intro _;rfl
  | succ n ih=>intro h;rw[ms,ih (by omega),h0 n (by omega) (by omega)];rfl
 have hi:∀ k,ms f (a+2+k)=0:=by
  intro k
  induction k with
  | zero=>show ms f a+f a+f (a+1)=0;rw[lo a (Nat.le_refl _),h1,h2];omega
  | succ k ih=>show ms f (a+2+k)+f (a+2+k)=0;rw[ih,h0 _ (by omega) (by omega)];rfl
 intro n
 by_cases e1:n=a+1
 ·subst e1;rw[if_pos rfl];show ms f a+f a=e;rw[lo a (Nat.le_refl _),h1];omega
 ·rw[if_neg e1]
  rcases Nat.lt_or_ge n (a+1)with h |h
  ·exact lo n (by omega)
  ·obtain⟨k,rfl⟩:∃ k,n=a+2+k:=⟨n-(a+2),by omega⟩
   exact hi k
theorem sM {f:Nat→Int} (h:∀ j,f j=0):∀ n,ms f n=0:=by
 intro n
 induction n with
 | zero=>rfl
 | succ n ih=>rw[ms,ih,h];rfl
theorem IM (f g:Nat→Int):∀ n,ms (fun j=>f j+g j) n=ms f n+ms g n:=by
 intro n
 induction n with
 | zero=>rfl
 | succ n ih=>simp only[ms,ih];omega
theorem mC (P R Q:List Dom) (X Y:Nat):dz P Q X Y=dz P R X Y+dz R Q X Y:=by
 unfold dz
 rw[←IM]
 congr 1;funext j
 show vE P _ _-vE Q _ _=(vE P _ _-vE R _ _)+(vE R _ _-vE Q _ _)
 omega
theorem oI (P:List Dom) (X Y:Nat):dz P P X Y=0:=sM (fun j=>by show vE P _ _-vE P _ _=0;omega) Y
theorem rU (P Q:List Dom) (X Y:Nat):dz Q P X Y= -(dz P Q X Y):=by
 have:=mC P Q P X Y
 rw[oI]at this;omega
theorem Ep {P Q:List Dom} {x y:Int} (h:(⟨x-1,y,false⟩:Dom)∈P↔(⟨x-1,y,false⟩:Dom)∈Q):vE P x y=vE Q x y:=by
 unfold vE;simp only[h]
theorem rT {s:Nat} {P:List Dom} {x y:Nat} (h:TilS s P) (hc:gK P x y=true) (X Y:Nat):
  dz P (bA P ⟨x,y⟩) X Y=if X=x+2∧Y=y+2 then(if acB P x y=true then -4*sg ((x:Int)+y)else 4*sg ((x:Int)+y))else 0:=by
 have hm:=GO (c:=⟨x,y⟩) h hc
 obtain⟨g0,g1⟩:=zz (c:=⟨x,y⟩) hc
 obtain⟨_,_,n0,n1⟩:=kQ (c:=⟨x,y⟩) h hc
 dsimp only at hm g0 g1 n0 n1
 have hno:∀ a b:Int,¬(a=x∧(b=y∨b=y+1))→((⟨a,b,false⟩:Dom)∈P↔(⟨a,b,false⟩:Dom)∈bA P ⟨x,y⟩):=by
  intro a b hab
  have k:∀ z:Bool,(⟨a,b,false⟩:Dom)≠pr0 ⟨x,y⟩ z∧(⟨a,b,false⟩:Dom)≠pr1 ⟨x,y⟩ z:=by
   intro z
   unfold pr0 pr1
   cases z<;>simp<;>omega
  rw[hm]
  constructor
  ·intro q;exact .inr (.inr ⟨q,(k _).1,(k _).2⟩)
  ·rintro(q |q |q)
   ·exact absurd q (k _).1
   ·exact absurd q (k _).2
   ·exact q.1
 by_cases hX:X=x+2
 ·subst hX
  have hs1:sg ((x:Int)+1+(y:Int))= -(sg ((x:Int)+y)):=by rw[show(x:Int)+1+(y:Int)=((x:Int)+y)+1 by omega,kf]
  have hs2:sg ((x:Int)+1+((y:Int)+1))=sg ((x:Int)+y):=by rw[show(x:Int)+1+((y:Int)+1)=((x:Int)+y)+1+1 by omega,kf,kf];omega
  have key:∀ e,(ic P (bA P ⟨x,y⟩)).V (x+2) (y+1)=e→(ic P (bA P ⟨x,y⟩)).V (x+2) (y+1+1)= -e→dz P (bA P ⟨x,y⟩) (x+2) Y=if Y=y+2 then e else 0:=by
   intro e h1 h2
   exact IP (a:=y+1) (fun j j1 j2=>by
    show vE P _ _-vE _ _ _=0
    rw[Ep (hno _ _ (by omega))];omega) h1 h2 Y
  have hV1:(ic P (bA P ⟨x,y⟩)).V (x+2) (y+1)=vE P ((x:Int)+1) y-vE (bA P ⟨x,y⟩) ((x:Int)+1) y:=by
   show vE P (((x+2:Nat):Int)-1) (((y+1:Nat):Int)-1)-vE _ (((x+2:Nat):Int)-1) (((y+1:Nat):Int)-1)=_
   rw[show((x+2:Nat):Int)-1=x+1 by omega,show((y+1:Nat):Int)-1=y by omega]
  have hV2:(ic P (bA P ⟨x,y⟩)).V (x+2) (y+1+1)=vE P ((x:Int)+1) (y+1)-vE (bA P ⟨x,y⟩) ((x:Int)+1) (y+1):=by
   show vE P (((x+2:Nat):Int)-1) (((y+1+1:Nat):Int)-1)-vE _ (((x+2:Nat):Int)-1) (((y+1+1:Nat):Int)-1)=_
   rw[show((x+2:Nat):Int)-1=x+1 by omega,show((y+1+1:Nat):Int)-1=y+1 by omega]
  simp only[true_and]
  cases e:acB P x y
  ·rw[e]at n0 n1 hm g0 g1
   have m0:(⟨x,y,false⟩:Dom)∈bA P ⟨x,y⟩:=(hm _).2 (.inl rfl)
   have m1:(⟨x,(y:Int)+1,false⟩:Dom)∈bA P ⟨x,y⟩:=(hm _).2 (.inr (.inl rfl))
   have k0:(⟨x,y,false⟩:Dom)∉P:=n0
   have k1:(⟨x,(y:Int)+1,false⟩:Dom)∉P:=n1
   simp only[Bool.false_eq_true,if_false]
   refine key _ ?_ ?_
   ·rw[hV1];unfold vE
    rw[show(x:Int)+1-1=x by omega,if_neg k0,if_pos m0,hs1];omega
   ·rw[hV2];unfold vE
    rw[show(x:Int)+1-1=x by omega,if_neg k1,if_pos m1,hs2];omega
  ·rw[e]at n0 n1 hm g0 g1
   have k0:(⟨x,y,false⟩:Dom)∈P:=g0
   have k1:(⟨x,(y:Int)+1,false⟩:Dom)∈P:=g1
   have m0:(⟨x,y,false⟩:Dom)∉bA P ⟨x,y⟩:=by
    rw[hm]
    rintro(q |q |q)
    ·unfold pr0 at q;simp at q
    ·unfold pr1 at q;simp at q
    ·exact q.2.1 rfl
   have m1:(⟨x,(y:Int)+1,false⟩:Dom)∉bA P ⟨x,y⟩:=by
    rw[hm]
    rintro(q |q |q)
    ·unfold pr0 at q;simp at q
    ·unfold pr1 at q;simp at q
    ·exact q.2.2 rfl
   simp only[if_true]
   refine key _ ?_ ?_
   ·rw[hV1];unfold vE
    rw[show(x:Int)+1-1=x by omega,if_pos k0,if_neg m0,hs1];omega
   ·rw[hV2];unfold vE
    rw[show(x:Int)+1-1=x by omega,if_pos k1,if_neg m1,hs2];omega
 ·rw[if_neg (fun h=>hX h.1)]
  refine sM (fun j=> ?_) Y
  show vE P _ _-vE _ _ _=0
  rw[Ep (hno _ _ (by omega))];omega
def yb (P Q:List Dom) (v:Nat):Nat:=(dz P Q (v%9+1) (v/9+1)).natAbs
def pH (f:Nat→Nat):Nat→Nat
 | 0=>0
 | n+1=>pH f n+f n
theorem IQ {f g:Nat→Nat} {a:Nat} (h:∀ j,j≠a→f j=g j):∀ n,pH f n+(if a<n then g a else 0)=pH g n+(if a<n then f a else 0):=by
  intro n
  induction n with
  | zero=>rfl
  | succ n ih=>
    rw[pH,pH]
    by_cases e:n=a
    · subst e
      rw[if_neg (by omega)]at ih
      rw[if_pos (by omega),if_pos (by omega)]
      rw[if_neg (by omega)]at ih;omega
    · rw[h n e]
      by_cases h1:a<n
      · rw[if_pos h1,if_pos h1]at ih
        rw[if_pos (by omega),if_pos (by omega)];omega
      · rw[if_neg h1,if_neg h1]at ih
        rw[if_neg (by omega),if_neg (by omega)];omega
theorem FU {f:Nat→Nat}:∀ n,pH f n=0→∀ j,j<n→f j=0:=by
  intro n
  induction n with
  | zero=>intro _ j h;omega
  | succ n ih=>
    intro h j hj
    rw[pH]at h
    by_cases e:j=n
    · subst e;omega
    · exact ih (by omega) j (by omega)
theorem qp {f g:Nat→Nat}:∀ n,(∀ j,j<n→f j=g j)→pH f n=pH g n:=by
 intro n
 induction n with
 | zero=>intro _;rfl
 | succ n ih=>intro h;rw[pH,pH,ih (fun j hj=>h j (by omega)),h n (by omega)]
def gap (P Q:List Dom):Nat:=pH (yb P Q) 81
theorem nQ (P Q:List Dom):gap P Q=gap Q P:=qp _ fun j _=>by unfold yb;rw[rU P Q];omega
theorem zX {s:Nat} {P Q:List Dom} {x y:Nat} (h:TilS s P) (hc:gK P x y=true):
  (gap P Q:Int)+(dz (bA P ⟨x,y⟩) Q (x+2) (y+2)).natAbs=gap (bA P ⟨x,y⟩) Q+(dz P Q (x+2) (y+2)).natAbs:=by
 have hb:=mA hc
 have hf:=rT h hc
 have:=IQ (f:=yb P Q) (g:=yb (bA P ⟨x,y⟩) Q) (a:=(y+1)*9+(x+1)) (fun j hj=>by
  unfold yb
  rw[mC P (bA P ⟨x,y⟩) Q,hf,if_neg (by omega)];simp) 81
 rw[if_pos (by omega),if_pos (by omega)]at this
 unfold gap
 unfold yb at this⊢
 rw[show((y+1)*9+(x+1))%9+1=x+2 by omega,show((y+1)*9+(x+1))/9+1=y+2 by omega]at this
 omega
theorem JP {s:Nat} {P Q:List Dom} {c:Cel} (h:TilS s P) (hc:gK P c.x c.y=true):gap P Q≤gap (bA P c) Q+4:=by
 obtain⟨x,y,rfl⟩:=CU hc
 have h1:=zX (Q:=Q) h hc
 have h2:=rT h hc (x+2) (y+2)
 have h3:=mC P (bA P ⟨x,y⟩) Q (x+2) (y+2)
 have h4:=pN ((x:Int)+y)
 rw[if_pos ⟨rfl,rfl⟩]at h2
 split at h2<;>omega
theorem GY {l:List Int} {P Q:List Dom} (ho:aU l=true) (hh:ii (ag l)=1) (hP:TilS (ag l) P) (hQ:TilS (ag l) Q) {X Y:Nat} (hX:X≤10) (hY:Y≤10) (hpos:0<dz P Q X Y):
  ∃ c:Cel,gK P c.x c.y=true∧gap (bA P c) Q+4=gap P Q:=by
 obtain⟨x,y,hx,hy,hd,hc,hs⟩:=JJ ho hh hP hQ hX hY hpos
 refine⟨⟨x,y⟩,hc,?_⟩
 have h1:=zX (Q:=Q) hP hc
 have h2:=rT hP hc (x+2) (y+2)
 have h3:=mC P (bA P ⟨x,y⟩) Q (x+2) (y+2)
 have h4:=BE P Q (x+2) (y+2)
 rw[if_pos ⟨rfl,rfl⟩]at h2
 rcases hs with⟨ha,hs⟩ |⟨ha,hs⟩
 ·rw[ha,if_pos rfl,hs]at h2;omega
 ·rw[ha,if_neg (by simp),hs]at h2;omega
theorem Mu {l:List Int} {P Q:List Dom} (ho:aU l=true) (hP:TilS (ag l) P) (hQ:TilS (ag l) Q) {X Y:Nat} (hX:X≤10) (hY:Y≤10) (h:X=0∨X=10∨Y=0∨Y=10):dz P Q X Y=0:=by
  have z:∀ X,∀ Y,X=0∨10≤X→dz P Q X Y=0:=fun X Y hX=>sM (fun j=>qG hP hQ (.inl (fun h=>by have:=jI h;dsimp only at this;omega))) Y
  rcases h with h |h |h |h
  · exact z _ _ (.inl h)
  · exact z _ _ (.inr (by omega))
  · rw[h];rfl
  · subst h
    clear hX
    induction X with
    | zero=>exact z _ _ (.inl rfl)
    | succ X ih=>
      rw[mB ho hP hQ,ih,lU hP hQ (.inl (fun h=>by have:=jI h;dsimp only at this;omega))];rfl
theorem IW {s:Nat} {P:List Dom} (h:TilS s P):SS P:=by
 unfold SS
 refine(List.Pairwise.imp_of_mem ?_ h.so)
 intro a b ha hb hlt
 rw[jG (h.ok a ha),jG (h.ok b hb)];omega
theorem GZ {l:List Int} {P Q:List Dom} (ho:aU l=true) (hP:TilS (ag l) P) (hQ:TilS (ag l) Q) (h:∀ X Y,X≤10→Y≤10→dz P Q X Y=0):P=Q:=by
 refine Gg _ _ (IW hP) (IW hQ) (fun d=> ?_)
 have key:∀ {P Q:List Dom},TilS (ag l) P→TilS (ag l) Q→(∀ X Y,X≤10→Y≤10→dz P Q X Y=0)→d∈P→d∈Q:=by
  intro P Q hP hQ h hd
  have hb:=eK (hP.ok d hd)
  obtain⟨x,y,b⟩:=d
  dsimp only at hb
  obtain⟨x',rfl⟩:∃ x':Nat,x=x':=⟨x.toNat,by omega⟩
  obtain⟨y',rfl⟩:∃ y':Nat,y=y':=⟨y.toNat,by omega⟩
  refine Classical.byContradiction fun hn=> ?_
  cases b
  ·simp at hb
   have e:=kN P Q (x'+2) (y'+1)
   rw[h _ _ (by omega) (by omega),h _ _ (by omega) (by omega)]at e
   have e2:(ic P Q).V (x'+2) (y'+1)=vE P (((x'+2:Nat):Int)-1) (((y'+1:Nat):Int)-1)-vE Q (((x'+2:Nat):Int)-1) (((y'+1:Nat):Int)-1):=rfl
   rw[show((x'+2:Nat):Int)-1=x'+1 by omega,show((y'+1:Nat):Int)-1=y' by omega]at e2
   unfold vE at e2
   rw[show(x':Int)+1-1=x' by omega,if_pos hd,if_neg hn]at e2
   have:=pN ((x':Int)+1+y')
   omega
  ·simp at hb
   have e:=mB ho hP hQ (x'+1) (y'+2)
   rw[h _ _ (by omega) (by omega),h _ _ (by omega) (by omega)]at e
   have e2:(ic P Q).H (x'+1) (y'+2)=hE P (((x'+1:Nat):Int)-1) (((y'+2:Nat):Int)-1)-hE Q (((x'+1:Nat):Int)-1) (((y'+2:Nat):Int)-1):=rfl
   rw[show((x'+1:Nat):Int)-1=x' by omega,show((y'+2:Nat):Int)-1=y'+1 by omega]at e2
   unfold hE at e2
   rw[show(y':Int)+1-1=y' by omega,if_pos hd,if_neg hn]at e2
   have:=pN ((x':Int)+(y'+1))
   omega
 exact⟨key hP hQ h,key hQ hP (fun X Y a b=>by rw[rU P Q,h X Y a b];rfl)⟩
theorem Dm {l:List Int} {P Q:List Dom} (ho:aU l=true) (hP:TilS (ag l) P) (hQ:TilS (ag l) Q) (h:P≠Q):∃ X Y,(X≤10∧Y≤10)∧dz P Q X Y≠0:=by
 refine Classical.byContradiction fun hc=>h (GZ ho hP hQ fun X Y a b=> ?_)
 refine Classical.byContradiction fun hn=>hc ⟨X,Y,⟨a,b⟩,hn⟩
theorem JO {l:List Int} {P Q:List Dom} (ho:aU l=true) (hP:TilS (ag l) P) (hQ:TilS (ag l) Q) (h:gap P Q=0):P=Q:=by
 refine Classical.byContradiction fun hne=> ?_
 obtain⟨X,Y,⟨hX,hY⟩,hd⟩:=Dm ho hP hQ hne
 by_cases hb:X=0∨X=10∨Y=0∨Y=10
 ·exact hd (Mu ho hP hQ hX hY hb)
 ·have:=FU 81 h ((Y-1)*9+(X-1)) (by omega)
  unfold yb at this
  rw[show((Y-1)*9+(X-1))%9+1=X by omega,show((Y-1)*9+(X-1))/9+1=Y by omega]at this
  omega
theorem FW.lip {s n:Nat} {P Q:List Dom} (h:FW n P Q):TilS s P→gap P Q≤4*n:=by
  induction h with
  | nil P=>
    intro _
    have:gap P P=pH (fun _=>0) 81:=qp _ fun j _=>by unfold yb;rw[oI];rfl
    rw[this];exact Nat.le_of_eq rfl
  | step n P Q d hd hr ih=>
    intro hP
    have:=ih (jf hP hd)
    have:=JP (Q:=Q) hP hd
    omega
theorem NI {l:List Int} (ho:aU l=true) (hh:ii (ag l)=1):∀ (n:Nat) (P Q:List Dom),gap P Q≤n→TilS (ag l) P→TilS (ag l) Q→∃ k,4*k=gap P Q∧FW k P Q:=by
  intro n
  induction n with
  | zero=>
    intro P Q hn hP hQ
    have:=JO ho hP hQ (by omega)
    subst this
    exact⟨0,by omega,.nil _⟩
  | succ n ih=>
    intro P Q hn hP hQ
    by_cases e:P=Q
    · subst e
      have:gap P P=pH (fun _=>0) 81:=qp _ fun j _=>by unfold yb;rw[oI];rfl
      exact⟨0,by rw[this];rfl,.nil _⟩
    · obtain⟨X,Y,⟨hX,hY⟩,hd⟩:=Dm ho hP hQ e
      by_cases hpos:0<dz P Q X Y
      · obtain⟨c,hc,hg⟩:=GY ho hh hP hQ hX hY hpos
        obtain⟨k,hk,hw⟩:=ih (bA P c) Q (by omega) (jf hP hc) hQ
        exact⟨k+1,by omega,.step _ _ _ c hc hw⟩
      · obtain⟨c,hc,hg⟩:=GY ho hh hQ hP hX hY (by rw[rU P Q];omega)
        obtain⟨k,hk,hw⟩:=ih P (bA Q c) (by rw[nQ];have:=nQ P Q;omega) hP (jf hQ hc)
        obtain⟨b1,b2⟩:=xi hQ hc
        have h3:=FW.snoc hw b1
        rw[b2]at h3
        exact⟨k+1,by have:=nQ P Q;have:=nQ P (bA Q c);omega,h3⟩
theorem MF {l:List Int} (ho:aU l=true) (hh:ii (ag l)=1) {P Q:List Dom} (hP:P∈ltR l) (hQ:Q∈ltR l):fdR l P Q=((gap P Q/4:Nat):Int):=by
 have hA:=FlipA.of l
 have hi:=mM hP
 have hj:=mM hQ
 rw[Df (by omega) (by omega)]
 obtain⟨k,hk,hw⟩:=NI ho hh _ Q P (Nat.le_refl _) (hA.ti Q hQ) (hA.ti P hP)
 have e:=nQ P Q
 refine Mx hA hQ hP (.inl ⟨gap P Q/4,rfl,?_,fun m hm=> ?_⟩)
 ·rw[show gap P Q/4=k by omega];exact hw
 ·have:=hm.lip (hA.ti Q hQ);omega
end Cl
end Go.Proofs.YtonlghbbdcddoaaGreat
