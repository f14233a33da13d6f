/- Walks. -/
import Derived.Test.YtgmkkfdnmdohlaaGreatDoorDp
import Derived.Test.YtgmkkfdnmdohlaaGreatDoorPA
import Derived.Test.YtgmkkfdnmdohlaaGreatDoorFA
import Derived.Test.YtgmkkfdnmdohlaaGreatDoorClB
set_option linter.unusedSimpArgs false
set_option linter.unusedVariables false
namespace Go.Proofs.YtgmkkfdnmdohlaaGreatDoor
namespace Cl
open Go.ChangeShapes Go.WideShapes Go.ChangeAt Go.RowKit
set_option maxRecDepth 20000
def iE (P Q:List Dom):Form:=⟨fun X Y=>(nM P).H X Y-(nM Q).H X Y,fun X Y=>(nM P).V X Y-(nM Q).V X Y⟩
def dY (P Q:List Dom) (X Y:Nat):Int:=kD ((iE P Q).V X) Y
theorem nL (P Q:List Dom) (X Y:Nat):dY P Q X (Y+1)=dY P Q X Y+(iE P Q).V X Y:=rfl
theorem yE {s:Nat} {P:List Dom} (h:TilS s P) {x y:Int} {b:Bool} (hd:(⟨x,y,b⟩:Dom)∈P):bO s ⟨x,y⟩=true∧bO s (if b=true then⟨x,y+1⟩else⟨x+1,y⟩)=true:=by
 have:=Iv h hd
 unfold ca cb at this
 cases b<;>exact this
theorem Eg {s:Nat} {P:List Dom} (h:TilS s P) {x y:Int} (hn:¬bO s ⟨x,y⟩=true∨¬bO s ⟨x,y-1⟩=true):hE P x y=sg (x+y):=by
 unfold hE
 rw[if_neg]
 intro hd
 obtain⟨h1,h2⟩:=yE h hd
 rw[if_pos rfl,show y-1+1=y by omega]at h2
 rcases hn with hn |hn
 ·exact hn h2
 ·exact hn h1
theorem Ga {s:Nat} {P:List Dom} (h:TilS s P) {x y:Int} (hn:¬bO s ⟨x,y⟩=true∨¬bO s ⟨x-1,y⟩=true):vE P x y= -(sg (x+y)):=by
 unfold vE
 rw[if_neg]
 intro hd
 obtain⟨h1,h2⟩:=yE h hd
 rw[if_neg (by simp),show x-1+1=x by omega]at h2
 rcases hn with hn |hn
 ·exact hn h2
 ·exact hn h1
theorem ke {s:Nat} {P Q:List Dom} (hP:TilS s P) (hQ:TilS s Q) {X Y:Nat} (hn:¬iz s (X,Y)∨∃ y,Y=y+1∧¬iz s (X,y)):(iE P Q).H X Y=0:=by
 show hE P _ _-hE Q _ _=0
 have hn':¬bO s ⟨(X:Int)-1,(Y:Int)-1⟩=true∨¬bO s ⟨(X:Int)-1,(Y:Int)-1-1⟩=true:=by
  rcases hn with h |⟨y,rfl,h⟩
  ·exact .inl h
  ·right;rw[show((y+1:Nat):Int)-1-1=(y:Int)-1 by omega];exact h
 rw[Eg hP hn',Eg hQ hn'];omega
theorem oH {s:Nat} {P Q:List Dom} (hP:TilS s P) (hQ:TilS s Q) {X Y:Nat} (hn:¬iz s (X,Y)∨∃ x,X=x+1∧¬iz s (x,Y)):(iE P Q).V X Y=0:=by
 show vE P _ _-vE Q _ _=0
 have hn':¬bO s ⟨(X:Int)-1,(Y:Int)-1⟩=true∨¬bO s ⟨(X:Int)-1-1,(Y:Int)-1⟩=true:=by
  rcases hn with h |⟨x,rfl,h⟩
  ·exact .inl h
  ·right;rw[show((x+1:Nat):Int)-1-1=(x:Int)-1 by omega];exact h
 rw[Ga hP hn',Ga hQ hn'];omega
theorem Dn (P Q:List Dom) (c:Nat × Nat):dF (iE P Q) c=dF (nM P) c-dF (nM Q) c:=by
 unfold dF iE;dsimp only;omega
theorem Bv {l:List Int} {P Q:List Dom} (ho:bj l=true) (hP:TilS (ao l) P) (hQ:TilS (ao l) Q) (c:Nat × Nat):dF (iE P Q) c=0:=by
 by_cases hc:iz (ao l) c
 ·rw[Dn,pX (ns ho hP) c hc,pX (ns ho hQ) c hc];rfl
 ·obtain⟨X,Y⟩:=c
  unfold dF
  dsimp only
  rw[ke hP hQ (.inl hc),ke hP hQ (.inr ⟨Y,rfl,hc⟩),oH hP hQ (.inl hc),oH hP hQ (.inr ⟨X,rfl,hc⟩)];rfl
theorem iO {s:Nat} {c:Nat × Nat} (h:iz s c):1≤c.1∧c.1≤8∧1≤c.2∧c.2≤8:=by
 have:=xC h;omega
theorem pZ {l:List Int} {P Q:List Dom} (ho:bj l=true) (hP:TilS (ao l) P) (hQ:TilS (ao l) Q) (X:Nat):∀ Y,dY P Q (X+1) Y=dY P Q X Y+(iE P Q).H X Y:=by
  intro Y
  induction Y with
  | zero=>
    rw[ke hP hQ (.inl (fun h=>by have:=iO h;dsimp only at this;omega))];rfl
  | succ Y ih=>
    rw[nL,nL,ih]
    have:=Bv ho hP hQ (X,Y)
    unfold dF at this
    dsimp only at this;omega
theorem gj {l:List Int} {P Q:List Dom} (ho:bj l=true) (hP:TilS (ao l) P) (hQ:TilS (ao l) Q) {X Y:Nat} (hn:¬iz (ao l) (X,Y)):
  dY P Q (X+1) Y=dY P Q X Y∧dY P Q X (Y+1)=dY P Q X Y∧dY P Q (X+1) (Y+1)=dY P Q X Y:=by
 have h1:=pZ ho hP hQ X Y
 have h2:=pZ ho hP hQ X (Y+1)
 rw[ke hP hQ (.inl hn)]at h1
 rw[ke hP hQ (.inr ⟨Y,rfl,hn⟩)]at h2
 have h3:=nL P Q X Y
 rw[oH hP hQ (.inl hn)]at h3
 omega
theorem jI (s:Nat):bq s 0=true:=by
 rw[show(0:Nat)=(0,0).2*10+((0,0):Nat × Nat).1 from rfl,mK (by decide) (by decide)]
 intro h
 have:=xC h
 simp at this
theorem oM {s k:Nat} (h:bq s k=true):¬iz s (k%10,k/10):=by
 have:=dG h
 rw[←mK (s:=s) (c:=(k%10,k/10)) (by dsimp only;omega) (by dsimp only;omega)]
 dsimp only
 rw[show k/10*10+k%10=k by omega];exact h
theorem DG {l:List Int} {P Q:List Dom} (ho:bj l=true) (hh:gK (ao l)=1) (hP:TilS (ao l) P) (hQ:TilS (ao l) Q) {X Y:Nat} (hX:X<10) (hY:Y<10) (hn:¬iz (ao l) (X,Y)):dY P Q X Y=0:=by
  have key:∀ k,GReach fK (okE (bq (ao l))) 0 k→bq (ao l) k=true∧dY P Q (k%10) (k/10)=0:=by
    intro k hk
    induction hk with
    | root=>exact⟨jI _,rfl⟩
    | step p q hp hq hok ih=>
      obtain⟨pf,pz⟩:=ih
      have qf:bq (ao l) q=true:=hok
      refine⟨qf,?_⟩
      have hp100:=dG pf
      have hq100:=dG qf
      rw[ma hp100]at hq
      obtain⟨_,hx,hy⟩:=hq
      obtain⟨a1,a2,a3⟩:=gj ho hP hQ (oM pf)
      obtain⟨b1,b2,b3⟩:=gj ho hP hQ (oM qf)
      generalize ex:p%10=px at*
      generalize ey:p/10=py at*
      generalize fx:q%10=qx at*
      generalize fy:q/10=qy at*
      have c1:qx=px∨qx=px+1∨px=qx+1:=by omega
      have c2:qy=py∨qy=py+1∨py=qy+1:=by omega
      clear ex ey fx fy
      rcases c1 with rfl |rfl |rfl<;>rcases c2 with rfl |rfl |rfl<;>omega
  have hf:=(mK hX hY).2 hn
  have:=(key _ (xR (jI _) hh _ (by omega) hf)).2
  rwa [show(Y*10+X)%10=X by omega,show(Y*10+X)/10=Y by omega]at this
def Inn (s:Nat) (v:Nat × Nat):Prop:=∃ x y,v=(x+1,y+1)∧iz s (x,y)∧iz s (x+1,y)∧iz s (x,y+1)∧iz s (x+1,y+1)
theorem GB {l:List Int} {P Q:List Dom} (ho:bj l=true) (hh:gK (ao l)=1) (hP:TilS (ao l) P) (hQ:TilS (ao l) Q) {X Y:Nat} (hX:X≤10) (hY:Y≤10) (h:dY P Q X Y≠0):Inn (ao l) (X,Y):=by
  have f:∀ X Y,X<10→Y<10→¬iz (ao l) (X,Y)→dY P Q X Y=0:=fun X Y a b c=>DG ho hh hP hQ a b c
  match X,Y,h with
  | X,0,h=>exact absurd rfl h
  | 0,Y+1,h=>
    exfalso
    have hn:¬iz (ao l) (0,Y):=fun hr=>by have:=iO hr;dsimp only at this;omega
    have:=(gj ho hP hQ hn).2.1
    rw[this,f 0 Y (by omega) (by omega) hn]at h;exact h rfl
  | X+1,Y+1,h=>
    refine⟨X,Y,rfl,?_,?_,?_,?_⟩
    · refine Classical.byContradiction fun hn=>h ?_
      rw[(gj ho hP hQ hn).2.2,f X Y (by omega) (by omega) hn]
    · refine Classical.byContradiction fun hn=>h ?_
      rw[(gj ho hP hQ hn).2.1]
      by_cases e:X+1<10
      · exact f _ Y e (by omega) hn
      · have hn2:¬iz (ao l) (X,Y):=fun hr=>by have:=iO hr;dsimp only at this;omega
        rw[(gj ho hP hQ hn2).1];exact f X Y (by omega) (by omega) hn2
    · refine Classical.byContradiction fun hn=>h ?_
      rw[(gj ho hP hQ hn).1]
      by_cases e:Y+1<10
      · exact f X _ (by omega) e hn
      · have hn2:¬iz (ao l) (X,Y):=fun hr=>by have:=iO hr;dsimp only at this;omega
        rw[(gj ho hP hQ hn2).2.1];exact f X Y (by omega) (by omega) hn2
    · refine Classical.byContradiction fun hn=>h ?_
      by_cases e:X+1<10∧Y+1<10
      · exact f _ _ e.1 e.2 hn
      · have hn2:¬iz (ao l) (X,Y):=fun hr=>by have:=iO hr;dsimp only at this;omega
        rw[(gj ho hP hQ hn2).2.2];exact f X Y (by omega) (by omega) hn2
structure KeepV (I:Nat × Nat→Prop) (f g:Form):Prop where
 h:∀ x y,I (x,y)→I (x+1,y)→g.H x y=f.H x y
 v:∀ x y,I (x,y)→I (x,y+1)→g.V x y=f.V x y
theorem KeepV.refl (I:Nat × Nat→Prop) (f:Form):KeepV I f f:=⟨fun _ _ _ _=>rfl,fun _ _ _ _=>rfl⟩
theorem KeepV.trans {I:Nat × Nat→Prop} {f g k:Form} (h:KeepV I f g) (h':KeepV I g k):KeepV I f k:=
 ⟨fun x y p q=>(h'.h x y p q).trans (h.h x y p q),fun x y p q=>(h'.v x y p q).trans (h.v x y p q)⟩
theorem turnV {I:Nat × Nat→Prop} (f:Form) (x y:Nat) (hv:¬I (x+1,y+1)) (α β γ:Int):
  ∃ g,KeepV I f g∧dF g (x,y)=dF f (x,y)+α∧dF g (x+1,y)=dF f (x+1,y)+β∧dF g (x+1,y+1)=dF f (x+1,y+1)+γ∧
   dF g (x,y+1)=dF f (x,y+1)-(α+β+γ)∧∀ e,e≠(x,y)→e≠(x+1,y)→e≠(x+1,y+1)→e≠(x,y+1)→dF g e=dF f e:=by
 refine⟨⟨fun a b=>if a=x+1∧b=y+1 then f.H a b-(α+β)else f.H a b,fun a b=>if a=x+1∧b=y then f.V a b+α else if a=x+1∧b=y+1 then f.V a b-(α+β+γ)else f.V a b⟩,⟨fun a b p q=> ?_,fun a b p q=> ?_⟩,?_,?_,?_,?_,fun e e1 e2 e3 e4=> ?_⟩
 ·show(if a=x+1∧b=y+1 then f.H a b-(α+β)else f.H a b)=f.H a b
  rw[if_neg]
  rintro⟨rfl,rfl⟩;exact hv p
 ·show(if a=x+1∧b=y then f.V a b+α else if a=x+1∧b=y+1 then f.V a b-(α+β+γ)else f.V a b)=f.V a b
  rw[if_neg,if_neg]
  ·rintro⟨rfl,rfl⟩;exact hv p
  ·rintro⟨rfl,rfl⟩;exact hv q
 ·unfold dF;dsimp only
  rw[if_neg (by omega),if_pos ⟨rfl,rfl⟩,if_neg (by omega),if_neg (by omega),if_neg (by omega)];omega
 ·unfold dF;dsimp only
  rw[if_neg (by omega),if_neg (by omega),if_neg (by omega),if_pos ⟨rfl,rfl⟩,if_pos ⟨rfl,rfl⟩];omega
 ·unfold dF;dsimp only
  rw[if_pos ⟨rfl,rfl⟩,if_neg (by omega),if_neg (by omega),if_neg (by omega),if_neg (by omega),if_pos ⟨rfl,rfl⟩];omega
 ·unfold dF;dsimp only
  rw[if_neg (by omega),if_neg (by omega),if_pos ⟨rfl,rfl⟩,if_neg (by omega),if_neg (by omega),if_neg (by omega)];omega
 ·obtain⟨a,b⟩:=e
  simp only[ne_eq,Prod.mk.injEq]at e1 e2 e3 e4
  unfold dF;dsimp only
  rw[if_neg (by omega),if_neg (by omega),if_neg (by omega),if_neg (by omega),if_neg (by omega),if_neg (by omega)]
def Adj8 (c d:Nat × Nat):Prop:=(c.1≤d.1+1∧d.1≤c.1+1)∧(c.2≤d.2+1∧d.2≤c.2+1)
theorem JV {s:Nat} {c:Nat × Nat} (hc:¬iz s c) {x y:Nat} (h:c=(x,y)∨c=(x+1,y)∨c=(x,y+1)∨c=(x+1,y+1)):¬Inn s (x+1,y+1):=by
 rintro⟨a,b,e,h1,h2,h3,h4⟩
 simp only[Prod.mk.injEq]at e
 obtain⟨e1,e2⟩:=e
 obtain rfl:x=a:=by omega
 obtain rfl:y=b:=by omega
 rcases h with rfl |rfl |rfl |rfl
 ·exact hc h1
 ·exact hc h2
 ·exact hc h3
 ·exact hc h4
theorem Gm {s:Nat} (f:Form) {c d:Nat × Nat} (ha:Adj8 c d) (hne:c≠d) (hc:¬iz s c) (δ:Int):
    ∃ g,KeepV (Inn s) f g∧dF g c=dF f c+δ∧∀ e,e≠c→e≠d→dF g e=dF f e:=by
  obtain⟨cx,cy⟩:=c
  obtain⟨dx,dy⟩:=d
  unfold Adj8 at ha
  dsimp only at ha
  simp only[ne_eq,Prod.mk.injEq]at hne
  generalize hx:min cx dx=x
  generalize hy:min cy dy=y
  have hv:=JV hc (x:=x) (y:=y) (by simp only[Prod.mk.injEq];omega)
  obtain⟨g,k,g1,g2,g3,g4,g5⟩:=turnV f x y hv ((if cx=x∧cy=y then δ else 0)-(if dx=x∧dy=y then δ else 0)) ((if cx=x+1∧cy=y then δ else 0)-(if dx=x+1∧dy=y then δ else 0)) ((if cx=x+1∧cy=y+1 then δ else 0)-(if dx=x+1∧dy=y+1 then δ else 0))
  have c1:cx=x∨cx=x+1:=by omega
  have c2:cy=y∨cy=y+1:=by omega
  have d1:dx=x∨dx=x+1:=by omega
  have d2:dy=y∨dy=y+1:=by omega
  clear hx hy
  have nx:¬x=x+1:=by omega
  have ny:¬y=y+1:=by omega
  have nx':¬x+1=x:=by omega
  have ny':¬y+1=y:=by omega
  refine⟨g,k,?_,fun e e1 e2=> ?_⟩
  · rcases c1 with rfl |rfl<;>rcases c2 with rfl |rfl<;>rcases d1 with rfl |rfl<;>rcases d2 with rfl |rfl<;>
      simp only[and_self,and_true,true_and,and_false,false_and,not_true_eq_false,nx,ny,nx',ny',if_true,if_false]at g1 g2 g3 g4 hne<;>first |omega |exact absurd rfl hne |exact absurd trivial hne
  · by_cases q1:e=(x,y)
    · subst q1
      rw[g1]
      simp only[ne_eq,Prod.mk.injEq]at e1 e2
      rw[if_neg (by omega),if_neg (by omega)];omega
    · by_cases q2:e=(x+1,y)
      · subst q2
        rw[g2]
        simp only[ne_eq,Prod.mk.injEq]at e1 e2
        rw[if_neg (by omega),if_neg (by omega)];omega
      · by_cases q3:e=(x+1,y+1)
        · subst q3
          rw[g3]
          simp only[ne_eq,Prod.mk.injEq]at e1 e2
          rw[if_neg (by omega),if_neg (by omega)];omega
        · by_cases q4:e=(x,y+1)
          · subst q4
            rw[g4]
            simp only[ne_eq,Prod.mk.injEq]at e1 e2
            rcases c1 with rfl |rfl<;>rcases c2 with rfl |rfl<;>rcases d1 with rfl |rfl<;>rcases d2 with rfl |rfl<;>
              simp only[and_self,and_true,true_and,and_false,false_and,not_true_eq_false,not_false_eq_true,nx,ny,nx',ny',if_true,if_false]at e1 e2 hne⊢ <;>first |omega |exact absurd rfl hne |exact absurd trivial hne
          · exact g5 e q1 q2 q3 q4
theorem Fu {s:Nat} (f:Form) (δ:Int):∃ g,KeepV (Inn s) f g∧dF g (0,0)=dF f (0,0)+δ∧∀ e,e≠(0,0)→dF g e=dF f e:=by
 refine⟨⟨fun a b=>if a=0∧b=0 then f.H a b+δ else f.H a b,f.V⟩,⟨fun a b p q=> ?_,fun _ _ _ _=>rfl⟩,?_,fun e he=> ?_⟩
 ·show(if a=0∧b=0 then f.H a b+δ else f.H a b)=f.H a b
  rw[if_neg]
  rintro⟨rfl,rfl⟩
  obtain⟨x,y,e,_⟩:=p
  simp only[Prod.mk.injEq]at e;omega
 ·unfold dF;dsimp only
  rw[if_pos ⟨rfl,rfl⟩,if_neg (by omega)];omega
 ·obtain⟨a,b⟩:=e
  simp only[ne_eq,Prod.mk.injEq]at he
  unfold dF;dsimp only
  rw[if_neg he,if_neg (by omega)]
def cq (k:Nat):Nat × Nat:=(k%10,k/10)
theorem IZ {s k:Nat} (hk:GReach fK (okE (bq s)) 0 k):bq s k=true∧∀ (f:Form) (δ:Int),∃ g,KeepV (Inn s) f g∧dF g (cq k)=dF f (cq k)+δ∧∀ e,e≠cq k→e≠(0,0)→dF g e=dF f e:=by
  induction hk with
  | root=>
    refine⟨jI s,fun f δ=> ?_⟩
    obtain⟨g,a,b,c⟩:=Fu (s:=s) f δ
    exact⟨g,a,b,fun e _ h=>c e h⟩
  | step p q hp hq hok ih=>
    obtain⟨pf,ih⟩:=ih
    have qf:bq s q=true:=hok
    refine⟨qf,fun f δ=> ?_⟩
    have hp100:=dG pf
    have hq100:=dG qf
    rw[ma hp100]at hq
    by_cases e:q=p
    · subst e;exact ih f δ
    · have hne:cq q≠cq p:=fun h=>e (by unfold cq at h;simp only[Prod.mk.injEq]at h;omega)
      have ha:Adj8 (cq q) (cq p):=by unfold Adj8 cq;dsimp only;omega
      obtain⟨g1,k1,z1,r1⟩:=Gm (s:=s) f ha hne (oM qf) δ
      obtain⟨g2,k2,z2,r2⟩:=ih g1 (dF f (cq p)-dF g1 (cq p))
      by_cases q0:q=0
      · subst q0
        obtain⟨g,a,b,c⟩:=Fu (s:=s) f δ
        exact⟨g,a,b,fun e _ h=>c e h⟩
      · refine⟨g2,k1.trans k2,?_,fun e e1 e2=> ?_⟩
        · rw[r2 _ hne (fun h=>q0 (by unfold cq at h;simp only[Prod.mk.injEq]at h;omega)),z1]
        · by_cases e3:e=cq p
          · subst e3;rw[z2];omega
          · rw[r2 e e3 e2,r1 e e1 e3]
theorem zero8 {s:Nat}:∀ (L:List Nat),(∀ k∈L,GReach fK (okE (bq s)) 0 k)→∀ f:Form,∃ g,KeepV (Inn s) f g∧(∀ k∈L,k≠0→dF g (cq k)=0)∧∀ e,(∀ k∈L,e≠cq k)→e≠(0,0)→dF g e=dF f e:=by
  intro L
  induction L with
  | nil=>intro _ f;exact⟨f,KeepV.refl _ _,by simp,fun _ _ _=>rfl⟩
  | cons c L ih=>
    intro hL f
    obtain⟨g1,k1,z1,r1⟩:=ih (fun k hk=>hL k (by simp [hk])) f
    obtain⟨g2,k2,z2,r2⟩:=(IZ (hL c (by simp))).2 g1 (-(dF g1 (cq c)))
    have hlt:∀ k∈c::L,k<100:=fun k hk=>dG (IZ (hL k hk)).1
    have inj:∀ k∈c::L,∀ k'∈c::L,cq k=cq k'→k=k':=fun k hk k' hk' h=>by
      unfold cq at h;simp only[Prod.mk.injEq]at h;omega
    refine⟨g2,k1.trans k2,fun k hk h0=> ?_,fun e he h0=> ?_⟩
    · by_cases e:k=c
      · subst e;rw[z2];omega
      · have hk':k∈L:=by
          rcases List.mem_cons.1 hk with h |h
          · exact absurd h e
          · exact h
        rw[r2 _ (fun h=>e (inj k hk c (by simp) h)) (fun h=>h0 (by unfold cq at h;simp only[Prod.mk.injEq]at h;omega))]
        exact z1 k hk' h0
    · rw[r2 e (he c (by simp)) h0,r1 e (fun k hk=>he k (by simp [hk])) h0]
theorem pot8 {l:List Int} {P:List Dom} (hh:gK (ao l)=1) (ht:qT l P=true):
  ∃ p:Nat→Nat→Int,(∀ x y,x<10→y≤10→Inn (ao l) (x,y)→Inn (ao l) (x+1,y)→p (x+1) y=p x y+(nM P).H x y)∧∀ x y,Inn (ao l) (x,y)→Inn (ao l) (x,y+1)→p x (y+1)=p x y+(nM P).V x y:=by
 have hall:=xR (jI (ao l)) hh
 obtain⟨g1,k1,z1,r1⟩:=zero8 (s:=ao l) ((List.range 100).filter (bq (ao l))) (fun k hk=>by
  rw[List.mem_filter,List.mem_range]at hk;exact hall k hk.1 hk.2) (nM P)
 obtain⟨g2,k2,z2,r2⟩:=Fu (s:=ao l) g1 (-(dF g1 (0,0)))
 have hz:∀ x y,x<10→y<10→dF g2 (x,y)=0:=by
  intro x y hx hy
  by_cases e0:(x,y)=(0,0)
  ·rw[e0,z2];omega
  ·rw[r2 _ e0]
   by_cases hr:iz (ao l) (x,y)
   ·rw[r1 _ (fun k hk h=> ?_) e0]
    ·exact pX ht _ hr
    ·rw[List.mem_filter]at hk
     rw[h]at hr
     exact oM hk.2 hr
   ·have hf:=(mK (c:=(x,y)) hx hy).2 hr
    dsimp only at hf
    have e1:cq (y*10+x)=(x,y):=by unfold cq;rw[show(y*10+x)%10=x by omega,show(y*10+x)/10=y by omega]
    rw[←e1]
    refine z1 _ (List.mem_filter.2 ⟨by rw[List.mem_range];omega,hf⟩) (fun h=>e0 ?_)
    rw[Prod.mk.injEq];omega
 obtain⟨p,p1,p2⟩:=BR (f:=g2) (n:=10) hz
 refine⟨p,fun x y hx hy h1 h2=> ?_,fun x y h1 h2=> ?_⟩
 ·rw[p1 x y hx hy,(k1.trans k2).h x y h1 h2]
 ·rw[p2 x y,(k1.trans k2).v x y h1 h2]
theorem JY {α:Type} (f:α→Int):∀ (L:List α),L≠[]→∃ m∈L,∀ x∈L,f x≤f m:=by
  intro L
  induction L with
  | nil=>intro h;exact absurd rfl h
  | cons a L ih=>
    intro _
    by_cases h:L=[]
    · subst h;exact⟨a,by simp,fun x hx=>by simp only[List.mem_singleton]at hx;subst hx;exact Int.le_refl _⟩
    · obtain⟨m,hm,hx⟩:=ih h
      by_cases e:f m≤f a
      · exact⟨a,by simp,fun x hx'=>by
          rcases List.mem_cons.1 hx' with rfl |q
          · exact Int.le_refl _
          · exact Int.le_trans (hx x q) e⟩
      · exact⟨m,by simp [hm],fun x hx'=>by
          rcases List.mem_cons.1 hx' with rfl |q
          · omega
          · exact hx x q⟩
theorem kk (ds:List Dom) (x y:Int):((⟨x,y-1,true⟩:Dom)∈ds∧hE ds x y= -3*sg (x+y))∨((⟨x,y-1,true⟩:Dom)∉ds∧hE ds x y=sg (x+y)):=by
 unfold hE;split
 ·rename_i h;exact .inl ⟨h,rfl⟩
 ·rename_i h;exact .inr ⟨h,rfl⟩
theorem kH (ds:List Dom) (x y:Int):((⟨x-1,y,false⟩:Dom)∈ds∧vE ds x y=3*sg (x+y))∨((⟨x-1,y,false⟩:Dom)∉ds∧vE ds x y= -(sg (x+y))):=by
 unfold vE;split
 ·rename_i h;exact .inl ⟨h,rfl⟩
 ·rename_i h;exact .inr ⟨h,rfl⟩
theorem Jz (P Q:List Dom) (X Y:Nat):((iE P Q).H X Y=0∨(iE P Q).H X Y=4∨(iE P Q).H X Y= -4)∧((iE P Q).V X Y=0∨(iE P Q).V X Y=4∨(iE P Q).V X Y= -4):=by
 have s1:=re (((X:Int)-1)+((Y:Int)-1))
 constructor
 ·show(hE P _ _-hE Q _ _=0)∨(hE P _ _-hE Q _ _=4)∨(hE P _ _-hE Q _ _= -4)
  rcases kk P ((X:Int)-1) ((Y:Int)-1)with⟨_,a⟩ |⟨_,a⟩<;>rcases kk Q ((X:Int)-1) ((Y:Int)-1)with⟨_,b⟩ |⟨_,b⟩<;>rw[a,b]<;>omega
 ·show(vE P _ _-vE Q _ _=0)∨(vE P _ _-vE Q _ _=4)∨(vE P _ _-vE Q _ _= -4)
  rcases kH P ((X:Int)-1) ((Y:Int)-1)with⟨_,a⟩ |⟨_,a⟩<;>rcases kH Q ((X:Int)-1) ((Y:Int)-1)with⟨_,b⟩ |⟨_,b⟩<;>rw[a,b]<;>omega
theorem DF (P Q:List Dom) (X:Nat):∀ Y,dY P Q X Y%4=0:=by
  intro Y
  induction Y with
  | zero=>rfl
  | succ Y ih=>
    rw[nL]
    have:=(Jz P Q X Y).2
    omega
theorem GQ {l:List Int} {P Q:List Dom} (ho:bj l=true) (hh:gK (ao l)=1) (hP:TilS (ao l) P) (hQ:TilS (ao l) Q) {X Y:Nat} (hX:X≤10) (hY:Y≤10) (hpos:0<dY P Q X Y):
  ∃ x y:Nat,x≤7∧y≤7∧0<dY P Q (x+2) (y+2)∧cS P x y=true∧((acB P x y=true∧sg ((x:Int)+y)= -1)∨(acB P x y=false∧sg ((x:Int)+y)=1)):=by
 have ht:=ns ho hP
 have inn:∀ {X Y:Nat},X≤10→Y≤10→0<dY P Q X Y→Inn (ao l) (X,Y):=fun a b h=>GB ho hh hP hQ a b (by omega)
 obtain⟨p,p1,p2⟩:=pot8 hh ht
 let L:List (Nat × Nat):=((List.range 11).flatMap fun a=>(List.range 11).map fun b=>(a,b)).filter fun v=>decide (0<dY P Q v.1 v.2)
 have hL:∀ a b,(a,b)∈L↔(a≤10∧b≤10)∧0<dY P Q a b:=fun a b=>by
  show _∈List.filter _ _↔_
  rw[List.mem_filter,decide_eq_true_eq,List.mem_flatMap]
  refine and_congr ⟨?_,fun h=>⟨a,by rw[List.mem_range];omega,List.mem_map.2 ⟨b,by rw[List.mem_range];omega,rfl⟩⟩⟩ Iff.rfl
  rintro⟨x,hx,h⟩
  obtain⟨y,hy,e⟩:=List.mem_map.1 h
  rw[List.mem_range]at hx hy
  simp only[Prod.mk.injEq]at e;omega
 obtain⟨⟨a,b⟩,hm,hmax⟩:=JY (fun v:Nat × Nat=>p v.1 v.2) L (fun e=>by
  have:=(hL X Y).2 ⟨⟨hX,hY⟩,hpos⟩;rw[e]at this;cases this)
 dsimp only at hmax
 obtain⟨⟨ha,hb⟩,hd⟩:=(hL a b).1 hm
 have hi:=inn ha hb hd
 obtain⟨x,y,e,r1,r2,r3,r4⟩:=hi
 simp only[Prod.mk.injEq]at e
 obtain⟨rfl,rfl⟩:=e
 have q1:=iO r1
 have q4:=iO r4
 dsimp only at q1 q4
 have d4:=DF P Q (x+1) (y+1)
 have hi:Inn (ao l) (x+1,y+1):=⟨x,y,rfl,r1,r2,r3,r4⟩
 have sR:=re (((x+1:Nat):Int)-1+(((y+1:Nat):Int)-1))
 have gR:hE P (((x+1:Nat):Int)-1) (((y+1:Nat):Int)-1)≤0:=by
  refine Classical.byContradiction fun hc=> ?_
  have e1:=pZ ho hP hQ (x+1) (y+1)
  have e2:(iE P Q).H (x+1) (y+1)=hE P (((x+1:Nat):Int)-1) (((y+1:Nat):Int)-1)-hE Q (((x+1:Nat):Int)-1) (((y+1:Nat):Int)-1):=rfl
  have hq:hE Q (((x+1:Nat):Int)-1) (((y+1:Nat):Int)-1)≤3:=by rcases kk Q (((x+1:Nat):Int)-1) (((y+1:Nat):Int)-1)with⟨_,a⟩ |⟨_,a⟩<;>rw[a]<;>omega
  have hp:0<dY P Q (x+1+1) (y+1):=by omega
  have i2:=inn (by omega) (by omega) hp
  have:=hmax _ ((hL (x+1+1) (y+1)).2 ⟨⟨by omega,by omega⟩,hp⟩)
  dsimp only at this
  rw[p1 _ _ (by omega) (by omega) hi i2]at this
  have e3:(nM P).H (x+1) (y+1)=hE P (((x+1:Nat):Int)-1) (((y+1:Nat):Int)-1):=rfl
  omega
 have gL:0≤hE P (((x:Nat):Int)-1) (((y+1:Nat):Int)-1):=by
  refine Classical.byContradiction fun hc=> ?_
  have e1:=pZ ho hP hQ x (y+1)
  have e2:(iE P Q).H x (y+1)=hE P (((x:Nat):Int)-1) (((y+1:Nat):Int)-1)-hE Q (((x:Nat):Int)-1) (((y+1:Nat):Int)-1):=rfl
  have sL:=re (((x:Nat):Int)-1+(((y+1:Nat):Int)-1))
  have hq: -3≤hE Q (((x:Nat):Int)-1) (((y+1:Nat):Int)-1):=by rcases kk Q (((x:Nat):Int)-1) (((y+1:Nat):Int)-1)with⟨_,a⟩ |⟨_,a⟩<;>rw[a]<;>omega
  have hp:0<dY P Q x (y+1):=by omega
  have i2:=inn (by omega) (by omega) hp
  have:=hmax _ ((hL x (y+1)).2 ⟨⟨by omega,by omega⟩,hp⟩)
  dsimp only at this
  rw[p1 _ _ (by omega) (by omega) i2 hi]at this
  have e3:(nM P).H x (y+1)=hE P (((x:Nat):Int)-1) (((y+1:Nat):Int)-1):=rfl
  omega
 have gD:vE P (((x+1:Nat):Int)-1) (((y+1:Nat):Int)-1)≤0:=by
  refine Classical.byContradiction fun hc=> ?_
  have e1:=nL P Q (x+1) (y+1)
  have e2:(iE P Q).V (x+1) (y+1)=vE P (((x+1:Nat):Int)-1) (((y+1:Nat):Int)-1)-vE Q (((x+1:Nat):Int)-1) (((y+1:Nat):Int)-1):=rfl
  have hq:vE Q (((x+1:Nat):Int)-1) (((y+1:Nat):Int)-1)≤3:=by rcases kH Q (((x+1:Nat):Int)-1) (((y+1:Nat):Int)-1)with⟨_,a⟩ |⟨_,a⟩<;>rw[a]<;>omega
  have hp:0<dY P Q (x+1) (y+1+1):=by omega
  have i2:=inn (by omega) (by omega) hp
  have:=hmax _ ((hL (x+1) (y+1+1)).2 ⟨⟨by omega,by omega⟩,hp⟩)
  dsimp only at this
  rw[p2 _ _ hi i2]at this
  have e3:(nM P).V (x+1) (y+1)=vE P (((x+1:Nat):Int)-1) (((y+1:Nat):Int)-1):=rfl
  omega
 have gU:0≤vE P (((x+1:Nat):Int)-1) (((y:Nat):Int)-1):=by
  refine Classical.byContradiction fun hc=> ?_
  have e1:=nL P Q (x+1) y
  have e2:(iE P Q).V (x+1) y=vE P (((x+1:Nat):Int)-1) (((y:Nat):Int)-1)-vE Q (((x+1:Nat):Int)-1) (((y:Nat):Int)-1):=rfl
  have sL:=re (((x+1:Nat):Int)-1+(((y:Nat):Int)-1))
  have hq: -3≤vE Q (((x+1:Nat):Int)-1) (((y:Nat):Int)-1):=by rcases kH Q (((x+1:Nat):Int)-1) (((y:Nat):Int)-1)with⟨_,a⟩ |⟨_,a⟩<;>rw[a]<;>omega
  have hp:0<dY P Q (x+1) y:=by omega
  have i2:=inn (by omega) (by omega) hp
  have:=hmax _ ((hL (x+1) y).2 ⟨⟨by omega,by omega⟩,hp⟩)
  dsimp only at this
  rw[p2 _ _ i2 hi]at this
  have e3:(nM P).V (x+1) y=vE P (((x+1:Nat):Int)-1) (((y:Nat):Int)-1):=rfl
  omega
 obtain⟨x',rfl⟩:∃ x',x=x'+1:=⟨x-1,by omega⟩
 obtain⟨y',rfl⟩:∃ y',y=y'+1:=⟨y-1,by omega⟩
 simp only[show((x'+1+1:Nat):Int)-1=(x':Int)+1 by omega,show((y'+1+1:Nat):Int)-1=(y':Int)+1 by omega,show((x'+1:Nat):Int)-1=(x':Int) by omega,show((y'+1:Nat):Int)-1=(y':Int) by omega]at gR gL gD gU
 have bd:Go.Proofs.YtgmkkfdnmdohlaaGreatDoor.inB x' 0 6=true∧Go.Proofs.YtgmkkfdnmdohlaaGreatDoor.inB y' 0 6=true:=⟨bP.2 (by omega),bP.2 (by omega)⟩
 have z1:sg ((x':Int)+1+((y':Int)+1))=sg ((x':Int)+y'):=by rw[show(x':Int)+1+((y':Int)+1)=(x'+y')+1+1 by omega,oj,oj];omega
 have z2:sg ((x':Int)+((y':Int)+1))= -(sg ((x':Int)+y')):=by rw[show(x':Int)+((y':Int)+1)=(x'+y')+1 by omega,oj]
 have z3:sg ((x':Int)+1+(y':Int))= -(sg ((x':Int)+y')):=by rw[show(x':Int)+1+(y':Int)=(x'+y')+1 by omega,oj]
 have cR:=kk P ((x':Int)+1) ((y':Int)+1)
 have cL:=kk P (x':Int) ((y':Int)+1)
 have cD:=kH P ((x':Int)+1) ((y':Int)+1)
 have cU:=kH P ((x':Int)+1) (y':Int)
 rw[z1]at cR cD
 rw[z2]at cL
 rw[z3]at cU
 rw[show(y':Int)+1-1=y' by omega]at cR cL
 rw[show(x':Int)+1-1=x' by omega]at cD cU
 refine⟨x',y',by omega,by omega,hd,?_⟩
 rcases re ((x':Int)+y')with hs |hs
 ·
  have m1:(⟨(x':Int)+1,y',true⟩:Dom)∈P:=by
   rcases cR with⟨h,_⟩ |⟨_,h⟩
   ·exact h
   ·omega
  have m2:(⟨(x':Int),y',true⟩:Dom)∈P:=by
   rcases cL with⟨h,_⟩ |⟨_,h⟩
   ·exact h
   ·omega
  have hdn:Go.Proofs.YtgmkkfdnmdohlaaGreatDoor.dnB P x' y'=true:=by
   show(eJ _ _ _ _&&eJ _ _ _ _)=true
   rw[Bool.and_eq_true,eR,eR];exact⟨m2,m1⟩
  have hac:acB P x' y'=false:=by
   rw[Bool.eq_false_iff]
   intro h
   unfold acB at h
   simp only[Bool.and_eq_true,eR]at h
   have:=mA hP m2 h.1 (lk (c:=⟨x',y'⟩) true) (lk (c:=⟨x',y'⟩) false)
   simp at this
  refine⟨?_,.inr ⟨hac,hs⟩⟩
  unfold cS
  rw[bd.1,bd.2,hdn];simp
 ·have m1:(⟨(x':Int),(y':Int)+1,false⟩:Dom)∈P:=by
   rcases cD with⟨h,_⟩ |⟨_,h⟩
   ·exact h
   ·omega
  have m2:(⟨(x':Int),y',false⟩:Dom)∈P:=by
   rcases cU with⟨h,_⟩ |⟨_,h⟩
   ·exact h
   ·omega
  have hac:acB P x' y'=true:=by
   unfold acB
   simp only[Bool.and_eq_true,eR];exact⟨m2,m1⟩
  refine⟨?_,.inl ⟨hac,hs⟩⟩
  unfold cS
  rw[bd.1,bd.2,hac];simp
theorem FI {f:Nat→Int} {a:Nat} {e:Int} (h0:∀ j,j≠a→j≠a+1→f j=0) (h1:f a=e) (h2:f (a+1)= -e):∀ n,kD f n=if n=a+1 then e else 0:=by
 have lo:∀ n,n≤a→kD f n=0:=by
  intro n
  induction n with
  | zero=>intro _;rfl
  | succ n ih=>intro h;rw[kD,ih (by omega),h0 n (by omega) (by omega)];rfl
 have hi:∀ k,kD f (a+2+k)=0:=by
  intro k
  induction k with
  | zero=>show kD f a+f a+f (a+1)=0;rw[lo a (Nat.le_refl _),h1,h2];omega
  | succ k ih=>show kD f (a+2+k)+f (a+2+k)=0;rw[ih,h0 _ (by omega) (by omega)];rfl
 intro n
 by_cases e1:n=a+1
 ·subst e1;rw[if_pos rfl];show kD f a+f a=e;rw[lo a (Nat.le_refl _),h1];omega
 ·rw[if_neg e1]
  rcases Nat.lt_or_ge n (a+1)with h |h
  ·exact lo n (by omega)
  ·obtain⟨k,rfl⟩:∃ k,n=a+2+k:=⟨n-(a+2),by omega⟩
   exact hi k
theorem qF {f:Nat→Int} (h:∀ j,f j=0):∀ n,kD f n=0:=by
 intro n
 induction n with
 | zero=>rfl
 | succ n ih=>rw[kD,ih,h];rfl
theorem FH (f g:Nat→Int):∀ n,kD (fun j=>f j+g j) n=kD f n+kD g n:=by
 intro n
 induction n with
 | zero=>rfl
 | succ n ih=>simp only[kD,ih];omega
theorem kQ (P R Q:List Dom) (X Y:Nat):dY P Q X Y=dY P R X Y+dY R Q X Y:=by
 unfold dY
 rw[←FH]
 congr 1;funext j
 show vE P _ _-vE Q _ _=(vE P _ _-vE R _ _)+(vE R _ _-vE Q _ _)
 omega
theorem qb (P:List Dom) (X Y:Nat):dY P P X Y=0:=qF (fun j=>by show vE P _ _-vE P _ _=0;omega) Y
theorem qc (P Q:List Dom) (X Y:Nat):dY Q P X Y= -(dY P Q X Y):=by
 have:=kQ P Q P X Y
 rw[qb]at this;omega
theorem Bl {P Q:List Dom} {x y:Int} (h:(⟨x-1,y,false⟩:Dom)∈P↔(⟨x-1,y,false⟩:Dom)∈Q):vE P x y=vE Q x y:=by
 unfold vE;simp only[h]
theorem qa {s:Nat} {P:List Dom} {x y:Nat} (h:TilS s P) (hc:cS P x y=true) (X Y:Nat):
  dY P (aR P ⟨x,y⟩) X Y=if X=x+2∧Y=y+2 then(if acB P x y=true then -4*sg ((x:Int)+y)else 4*sg ((x:Int)+y))else 0:=by
 have hm:=DR (c:=⟨x,y⟩) h hc
 obtain⟨g0,g1⟩:=sj (c:=⟨x,y⟩) hc
 obtain⟨_,_,n0,n1⟩:=eP (c:=⟨x,y⟩) h hc
 dsimp only at hm g0 g1 n0 n1
 have hno:∀ a b:Int,¬(a=x∧(b=y∨b=y+1))→((⟨a,b,false⟩:Dom)∈P↔(⟨a,b,false⟩:Dom)∈aR P ⟨x,y⟩):=by
  intro a b hab
  have k:∀ z:Bool,(⟨a,b,false⟩:Dom)≠pr0 ⟨x,y⟩ z∧(⟨a,b,false⟩:Dom)≠pr1 ⟨x,y⟩ z:=by
   intro z
   unfold pr0 pr1
   cases z<;>simp<;>omega
  rw[hm]
  constructor
  ·intro q;exact .inr (.inr ⟨q,(k _).1,(k _).2⟩)
  ·rintro(q |q |q)
   ·exact absurd q (k _).1
   ·exact absurd q (k _).2
   ·exact q.1
 by_cases hX:X=x+2
 ·subst hX
  have hs1:sg ((x:Int)+1+(y:Int))= -(sg ((x:Int)+y)):=by rw[show(x:Int)+1+(y:Int)=((x:Int)+y)+1 by omega,oj]
  have hs2:sg ((x:Int)+1+((y:Int)+1))=sg ((x:Int)+y):=by rw[show(x:Int)+1+((y:Int)+1)=((x:Int)+y)+1+1 by omega,oj,oj];omega
  have key:∀ e,(iE P (aR P ⟨x,y⟩)).V (x+2) (y+1)=e→(iE P (aR P ⟨x,y⟩)).V (x+2) (y+1+1)= -e→dY P (aR P ⟨x,y⟩) (x+2) Y=if Y=y+2 then e else 0:=by
   intro e h1 h2
   exact FI (a:=y+1) (fun j j1 j2=>by
    show vE P _ _-vE _ _ _=0
    rw[Bl (hno _ _ (by omega))];omega) h1 h2 Y
  have hV1:(iE P (aR P ⟨x,y⟩)).V (x+2) (y+1)=vE P ((x:Int)+1) y-vE (aR P ⟨x,y⟩) ((x:Int)+1) y:=by
   show vE P (((x+2:Nat):Int)-1) (((y+1:Nat):Int)-1)-vE _ (((x+2:Nat):Int)-1) (((y+1:Nat):Int)-1)=_
   rw[show((x+2:Nat):Int)-1=x+1 by omega,show((y+1:Nat):Int)-1=y by omega]
  have hV2:(iE P (aR P ⟨x,y⟩)).V (x+2) (y+1+1)=vE P ((x:Int)+1) (y+1)-vE (aR P ⟨x,y⟩) ((x:Int)+1) (y+1):=by
   show vE P (((x+2:Nat):Int)-1) (((y+1+1:Nat):Int)-1)-vE _ (((x+2:Nat):Int)-1) (((y+1+1:Nat):Int)-1)=_
   rw[show((x+2:Nat):Int)-1=x+1 by omega,show((y+1+1:Nat):Int)-1=y+1 by omega]
  simp only[true_and]
  cases e:acB P x y
  ·rw[e]at n0 n1 hm g0 g1
   have m0:(⟨x,y,false⟩:Dom)∈aR P ⟨x,y⟩:=(hm _).2 (.inl rfl)
   have m1:(⟨x,(y:Int)+1,false⟩:Dom)∈aR P ⟨x,y⟩:=(hm _).2 (.inr (.inl rfl))
   have k0:(⟨x,y,false⟩:Dom)∉P:=n0
   have k1:(⟨x,(y:Int)+1,false⟩:Dom)∉P:=n1
   simp only[Bool.false_eq_true,if_false]
   refine key _ ?_ ?_
   ·rw[hV1];unfold vE
    rw[show(x:Int)+1-1=x by omega,if_neg k0,if_pos m0,hs1];omega
   ·rw[hV2];unfold vE
    rw[show(x:Int)+1-1=x by omega,if_neg k1,if_pos m1,hs2];omega
  ·rw[e]at n0 n1 hm g0 g1
   have k0:(⟨x,y,false⟩:Dom)∈P:=g0
   have k1:(⟨x,(y:Int)+1,false⟩:Dom)∈P:=g1
   have m0:(⟨x,y,false⟩:Dom)∉aR P ⟨x,y⟩:=by
    rw[hm]
    rintro(q |q |q)
    ·unfold pr0 at q;simp at q
    ·unfold pr1 at q;simp at q
    ·exact q.2.1 rfl
   have m1:(⟨x,(y:Int)+1,false⟩:Dom)∉aR P ⟨x,y⟩:=by
    rw[hm]
    rintro(q |q |q)
    ·unfold pr0 at q;simp at q
    ·unfold pr1 at q;simp at q
    ·exact q.2.2 rfl
   simp only[if_true]
   refine key _ ?_ ?_
   ·rw[hV1];unfold vE
    rw[show(x:Int)+1-1=x by omega,if_pos k0,if_neg m0,hs1];omega
   ·rw[hV2];unfold vE
    rw[show(x:Int)+1-1=x by omega,if_pos k1,if_neg m1,hs2];omega
 ·rw[if_neg (fun h=>hX h.1)]
  refine qF (fun j=> ?_) Y
  show vE P _ _-vE _ _ _=0
  rw[Bl (hno _ _ (by omega))];omega
def vM (P Q:List Dom) (v:Nat):Nat:=(dY P Q (v%9+1) (v/9+1)).natAbs
def pJ (f:Nat→Nat):Nat→Nat
 | 0=>0
 | n+1=>pJ f n+f n
theorem FJ {f g:Nat→Nat} {a:Nat} (h:∀ j,j≠a→f j=g j):∀ n,pJ f n+(if a<n then g a else 0)=pJ g n+(if a<n then f a else 0):=by
  intro n
  induction n with
  | zero=>rfl
  | succ n ih=>
    rw[pJ,pJ]
    by_cases e:n=a
    · subst e
      rw[if_neg (by omega)]at ih
      rw[if_pos (by omega),if_pos (by omega)]
      rw[if_neg (by omega)]at ih;omega
    · rw[h n e]
      by_cases h1:a<n
      · rw[if_pos h1,if_pos h1]at ih
        rw[if_pos (by omega),if_pos (by omega)];omega
      · rw[if_neg h1,if_neg h1]at ih
        rw[if_neg (by omega),if_neg (by omega)];omega
theorem CN {f:Nat→Nat}:∀ n,pJ f n=0→∀ j,j<n→f j=0:=by
  intro n
  induction n with
  | zero=>intro _ j h;omega
  | succ n ih=>
    intro h j hj
    rw[pJ]at h
    by_cases e:j=n
    · subst e;omega
    · exact ih (by omega) j (by omega)
theorem ot {f g:Nat→Nat}:∀ n,(∀ j,j<n→f j=g j)→pJ f n=pJ g n:=by
 intro n
 induction n with
 | zero=>intro _;rfl
 | succ n ih=>intro h;rw[pJ,pJ,ih (fun j hj=>h j (by omega)),h n (by omega)]
def gap (P Q:List Dom):Nat:=pJ (vM P Q) 81
theorem lR (P Q:List Dom):gap P Q=gap Q P:=ot _ fun j _=>by unfold vM;rw[qc P Q];omega
theorem xx {s:Nat} {P Q:List Dom} {x y:Nat} (h:TilS s P) (hc:cS P x y=true):
  (gap P Q:Int)+(dY (aR P ⟨x,y⟩) Q (x+2) (y+2)).natAbs=gap (aR P ⟨x,y⟩) Q+(dY P Q (x+2) (y+2)).natAbs:=by
 have hb:=jF hc
 have hf:=qa h hc
 have:=FJ (f:=vM P Q) (g:=vM (aR P ⟨x,y⟩) Q) (a:=(y+1)*9+(x+1)) (fun j hj=>by
  unfold vM
  rw[kQ P (aR P ⟨x,y⟩) Q,hf,if_neg (by omega)];simp) 81
 rw[if_pos (by omega),if_pos (by omega)]at this
 unfold gap
 unfold vM at this⊢
 rw[show((y+1)*9+(x+1))%9+1=x+2 by omega,show((y+1)*9+(x+1))/9+1=y+2 by omega]at this
 omega
theorem GY {s:Nat} {P Q:List Dom} {c:Cel} (h:TilS s P) (hc:cS P c.x c.y=true):gap P Q≤gap (aR P c) Q+4:=by
 obtain⟨x,y,rfl⟩:=zX hc
 have h1:=xx (Q:=Q) h hc
 have h2:=qa h hc (x+2) (y+2)
 have h3:=kQ P (aR P ⟨x,y⟩) Q (x+2) (y+2)
 have h4:=re ((x:Int)+y)
 rw[if_pos ⟨rfl,rfl⟩]at h2
 split at h2<;>omega
theorem Eb {l:List Int} {P Q:List Dom} (ho:bj l=true) (hh:gK (ao l)=1) (hP:TilS (ao l) P) (hQ:TilS (ao l) Q) {X Y:Nat} (hX:X≤10) (hY:Y≤10) (hpos:0<dY P Q X Y):
  ∃ c:Cel,cS P c.x c.y=true∧gap (aR P c) Q+4=gap P Q:=by
 obtain⟨x,y,hx,hy,hd,hc,hs⟩:=GQ ho hh hP hQ hX hY hpos
 refine⟨⟨x,y⟩,hc,?_⟩
 have h1:=xx (Q:=Q) hP hc
 have h2:=qa hP hc (x+2) (y+2)
 have h3:=kQ P (aR P ⟨x,y⟩) Q (x+2) (y+2)
 have h4:=DF P Q (x+2) (y+2)
 rw[if_pos ⟨rfl,rfl⟩]at h2
 rcases hs with⟨ha,hs⟩ |⟨ha,hs⟩
 ·rw[ha,if_pos rfl,hs]at h2;omega
 ·rw[ha,if_neg (by simp),hs]at h2;omega
theorem JA {l:List Int} {P Q:List Dom} (ho:bj l=true) (hP:TilS (ao l) P) (hQ:TilS (ao l) Q) {X Y:Nat} (hX:X≤10) (hY:Y≤10) (h:X=0∨X=10∨Y=0∨Y=10):dY P Q X Y=0:=by
  have z:∀ X,∀ Y,X=0∨10≤X→dY P Q X Y=0:=fun X Y hX=>qF (fun j=>oH hP hQ (.inl (fun h=>by have:=iO h;dsimp only at this;omega))) Y
  rcases h with h |h |h |h
  · exact z _ _ (.inl h)
  · exact z _ _ (.inr (by omega))
  · rw[h];rfl
  · subst h
    clear hX
    induction X with
    | zero=>exact z _ _ (.inl rfl)
    | succ X ih=>
      rw[pZ ho hP hQ,ih,ke hP hQ (.inl (fun h=>by have:=iO h;dsimp only at this;omega))];rfl
theorem FO {s:Nat} {P:List Dom} (h:TilS s P):SS P:=by
 unfold SS
 refine(List.Pairwise.imp_of_mem ?_ h.so)
 intro a b ha hb hlt
 rw[mQ (h.ok a ha),mQ (h.ok b hb)];omega
theorem Ec {l:List Int} {P Q:List Dom} (ho:bj l=true) (hP:TilS (ao l) P) (hQ:TilS (ao l) Q) (h:∀ X Y,X≤10→Y≤10→dY P Q X Y=0):P=Q:=by
 refine Jl _ _ (FO hP) (FO hQ) (fun d=> ?_)
 have key:∀ {P Q:List Dom},TilS (ao l) P→TilS (ao l) Q→(∀ X Y,X≤10→Y≤10→dY P Q X Y=0)→d∈P→d∈Q:=by
  intro P Q hP hQ h hd
  have hb:=jX (hP.ok d hd)
  obtain⟨x,y,b⟩:=d
  dsimp only at hb
  obtain⟨x',rfl⟩:∃ x':Nat,x=x':=⟨x.toNat,by omega⟩
  obtain⟨y',rfl⟩:∃ y':Nat,y=y':=⟨y.toNat,by omega⟩
  refine Classical.byContradiction fun hn=> ?_
  cases b
  ·simp at hb
   have e:=nL P Q (x'+2) (y'+1)
   rw[h _ _ (by omega) (by omega),h _ _ (by omega) (by omega)]at e
   have e2:(iE P Q).V (x'+2) (y'+1)=vE P (((x'+2:Nat):Int)-1) (((y'+1:Nat):Int)-1)-vE Q (((x'+2:Nat):Int)-1) (((y'+1:Nat):Int)-1):=rfl
   rw[show((x'+2:Nat):Int)-1=x'+1 by omega,show((y'+1:Nat):Int)-1=y' by omega]at e2
   unfold vE at e2
   rw[show(x':Int)+1-1=x' by omega,if_pos hd,if_neg hn]at e2
   have:=re ((x':Int)+1+y')
   omega
  ·simp at hb
   have e:=pZ ho hP hQ (x'+1) (y'+2)
   rw[h _ _ (by omega) (by omega),h _ _ (by omega) (by omega)]at e
   have e2:(iE P Q).H (x'+1) (y'+2)=hE P (((x'+1:Nat):Int)-1) (((y'+2:Nat):Int)-1)-hE Q (((x'+1:Nat):Int)-1) (((y'+2:Nat):Int)-1):=rfl
   rw[show((x'+1:Nat):Int)-1=x' by omega,show((y'+2:Nat):Int)-1=y'+1 by omega]at e2
   unfold hE at e2
   rw[show(y':Int)+1-1=y' by omega,if_pos hd,if_neg hn]at e2
   have:=re ((x':Int)+(y'+1))
   omega
 exact⟨key hP hQ h,key hQ hP (fun X Y a b=>by rw[qc P Q,h X Y a b];rfl)⟩
theorem Ar {l:List Int} {P Q:List Dom} (ho:bj l=true) (hP:TilS (ao l) P) (hQ:TilS (ao l) Q) (h:P≠Q):∃ X Y,(X≤10∧Y≤10)∧dY P Q X Y≠0:=by
 refine Classical.byContradiction fun hc=>h (Ec ho hP hQ fun X Y a b=> ?_)
 refine Classical.byContradiction fun hn=>hc ⟨X,Y,⟨a,b⟩,hn⟩
theorem GX {l:List Int} {P Q:List Dom} (ho:bj l=true) (hP:TilS (ao l) P) (hQ:TilS (ao l) Q) (h:gap P Q=0):P=Q:=by
 refine Classical.byContradiction fun hne=> ?_
 obtain⟨X,Y,⟨hX,hY⟩,hd⟩:=Ar ho hP hQ hne
 by_cases hb:X=0∨X=10∨Y=0∨Y=10
 ·exact hd (JA ho hP hQ hX hY hb)
 ·have:=CN 81 h ((Y-1)*9+(X-1)) (by omega)
  unfold vM at this
  rw[show((Y-1)*9+(X-1))%9+1=X by omega,show((Y-1)*9+(X-1))/9+1=Y by omega]at this
  omega
theorem FW.lip {s n:Nat} {P Q:List Dom} (h:FW n P Q):TilS s P→gap P Q≤4*n:=by
  induction h with
  | nil P=>
    intro _
    have:gap P P=pJ (fun _=>0) 81:=ot _ fun j _=>by unfold vM;rw[qb];rfl
    rw[this];exact Nat.le_of_eq rfl
  | step n P Q d hd hr ih=>
    intro hP
    have:=ih (gJ hP hd)
    have:=GY (Q:=Q) hP hd
    omega
theorem KI {l:List Int} (ho:bj l=true) (hh:gK (ao l)=1):∀ (n:Nat) (P Q:List Dom),gap P Q≤n→TilS (ao l) P→TilS (ao l) Q→∃ k,4*k=gap P Q∧FW k P Q:=by
  intro n
  induction n with
  | zero=>
    intro P Q hn hP hQ
    have:=GX ho hP hQ (by omega)
    subst this
    exact⟨0,by omega,.nil _⟩
  | succ n ih=>
    intro P Q hn hP hQ
    by_cases e:P=Q
    · subst e
      have:gap P P=pJ (fun _=>0) 81:=ot _ fun j _=>by unfold vM;rw[qb];rfl
      exact⟨0,by rw[this];rfl,.nil _⟩
    · obtain⟨X,Y,⟨hX,hY⟩,hd⟩:=Ar ho hP hQ e
      by_cases hpos:0<dY P Q X Y
      · obtain⟨c,hc,hg⟩:=Eb ho hh hP hQ hX hY hpos
        obtain⟨k,hk,hw⟩:=ih (aR P c) Q (by omega) (gJ hP hc) hQ
        exact⟨k+1,by omega,.step _ _ _ c hc hw⟩
      · obtain⟨c,hc,hg⟩:=Eb ho hh hQ hP hX hY (by rw[qc P Q];omega)
        obtain⟨k,hk,hw⟩:=ih P (aR Q c) (by rw[lR];have:=lR P Q;omega) hP (gJ hQ hc)
        obtain⟨b1,b2⟩:=mI hQ hc
        have h3:=FW.snoc hw b1
        rw[b2]at h3
        exact⟨k+1,by have:=lR P Q;have:=lR P (aR Q c);omega,h3⟩
end Cl
end Go.Proofs.YtgmkkfdnmdohlaaGreatDoor
