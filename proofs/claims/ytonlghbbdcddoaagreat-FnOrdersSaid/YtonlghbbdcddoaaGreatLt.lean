/- Walks. -/
import Derived.Test.YtonlghbbdcddoaaGreatDf
import Derived.Test.YtonlghbbdcddoaaGreatCO
import Derived.Test.YtonlghbbdcddoaaGreatE9
import Derived.Test.YtonlghbbdcddoaaGreatClB
namespace Go.Proofs.YtonlghbbdcddoaaGreat
namespace Cl
open Go.ChangeShapes Go.WideShapes Go.ChangeAt Go.RowKit
set_option maxRecDepth 20000
def dv (P Q:List Dom) (v:Nat):Int:=dz P Q (v%9+1) (v/9+1)
theorem Tch.lt {l:List Int} {v:Nat} (h:Tch l v):v<81:=by
 obtain⟨c,hc,h⟩:=h
 have hb:=bz.1 (bN hc)
 rcases h with rfl |rfl |rfl |rfl<;>(unfold vx;omega)
theorem Li {l:List Int} (hs:cu l=true) {P Q:List Dom} (hP:TilS (ag l) P) (hQ:TilS (ag l) Q):dv P Q (stU (ag l))=0:=by
 obtain⟨ho,_,hh,_⟩:=dD hs
 have hf:=(dr (bb ho) (qm hs)).1
 have hn:¬eL (ag l) (au (ag l)%8+1,au (ag l)/8):=by
  intro hr
  have hb:=jI hr
  dsimp only at hb
  unfold eL at hr
  dsimp only at hr
  have hm:idx (⟨((au (ag l)%8+1:Nat):Int)-1,((au (ag l)/8:Nat):Int)-1⟩:Cel)<au (ag l):=by
   unfold idx;dsimp only;omega
  have:=ig hm
  unfold aP at hr
  rw[this]at hr
  simp at hr
 have h0:=zI ho hh hP hQ (by omega) (by omega) hn
 have h1:=(gV ho hP hQ hn).2.1
 unfold dv
 rw[show stU (ag l)%9=au (ag l)%8 by unfold stU;omega,show stU (ag l)/9=au (ag l)/8 by unfold stU;omega]
 omega
theorem Es {l:List Int} (hs:cu l=true) {P Q:List Dom} (hP:TilS (ag l) P) (hQ:TilS (ag l) Q) {v:Nat} (hv:Tch l v):dC l P v-dC l Q v=dv P Q v:=by
 obtain⟨ho,_,hh,htc⟩:=dD hs
 have tp:=bO ho hP
 have tq:=bO ho hQ
 obtain⟨p,hp⟩:=vl tp hh htc
 have hq:∀ x y,x<10→y<10→eL (ag l) (x,y)→(fun x y=>p x y-dz P Q x y) (x+1) y=(fun x y=>p x y-dz P Q x y) x y+(fF Q).H x y∧(fun x y=>p x y-dz P Q x y) (x+1) (y+1)=(fun x y=>p x y-dz P Q x y) x (y+1)+(fF Q).H x (y+1)∧(fun x y=>p x y-dz P Q x y) x (y+1)=(fun x y=>p x y-dz P Q x y) x y+(fF Q).V x y∧(fun x y=>p x y-dz P Q x y) (x+1) (y+1)=(fun x y=>p x y-dz P Q x y) (x+1) y+(fF Q).V (x+1) y:=by
  intro x y hx hy hr
  obtain⟨a1,a2,a3,a4⟩:=hp x y hx hy hr
  dsimp only
  have b1:=mB ho hP hQ x y
  have b2:=mB ho hP hQ x (y+1)
  have b3:=kN P Q x y
  have b4:=kN P Q (x+1) y
  have c1:(ic P Q).H x y=(fF P).H x y-(fF Q).H x y:=rfl
  have c2:(ic P Q).H x (y+1)=(fF P).H x (y+1)-(fF Q).H x (y+1):=rfl
  have c3:(ic P Q).V x y=(fF P).V x y-(fF Q).V x y:=rfl
  have c4:(ic P Q).V (x+1) y=(fF P).V (x+1) y-(fF Q).V (x+1) y:=rfl
  refine⟨by omega,by omega,by omega,by omega⟩
 have e1:=(vm tp hs (W:=fun u=>p (u%9+1) (u/9+1)) (fun u v hu hv ho=>yO hp hu hv ho) (wR tp hs hv)).2
 have e2:=(vm tq hs (W:=fun u=>(fun x y=>p x y-dz P Q x y) (u%9+1) (u/9+1)) (fun u v hu hv ho=>yO (p:=fun x y=>p x y-dz P Q x y) hq hu hv ho) (wR tq hs hv)).2
 have e3:=Li hs hP hQ
 unfold dv at e3⊢
 dsimp only at e1 e2
 omega
theorem MA {l:List Int} (hs:cu l=true) {P Q:List Dom} (hP:TilS (ag l) P) (hQ:TilS (ag l) Q) {v:Nat} (hv:v<81) (h:dv P Q v≠0):Tch l v:=by
 obtain⟨ho,_,hh,_⟩:=dD hs
 obtain⟨x,y,e,r1,r2,r3,r4⟩:=Db ho hh hP hQ (by omega) (by omega) h
 simp only[Prod.mk.injEq]at e
 unfold eL at r4
 dsimp only at r4
 refine⟨_,r4,.inl ?_⟩
 unfold vx;dsimp only;omega
theorem LH {l:List Int} (hs:cu l=true) {P Q:List Dom} (hP:TilS (ag l) P) (hQ:TilS (ag l) Q) {v:Nat} (hv:v<81):gI (cj l P) v-gI (cj l Q) v=dv P Q v:=by
 have ho:=(dD hs).1
 have tp:=bO ho hP
 have tq:=bO ho hQ
 by_cases h:Tch l v
 ·rw[(fQ tp hs hv).1 h,(fQ tq hs hv).1 h];exact Es hs hP hQ h
 ·rw[(fQ tp hs hv).2 h,(fQ tq hs hv).2 h]
  have:dv P Q v=0:=Classical.byContradiction fun hn=>h (MA hs hP hQ hv hn)
  omega
theorem yx {l:List Int} (hs:cu l=true) {P:List Dom} (hP:TilS (ag l) P) {v:Nat} (h:Tch l v):gI (cj l P) v≠ -1000:=by
 have ho:=(dD hs).1
 have tp:=bO ho hP
 obtain⟨L,k,hL,hk⟩:=Ac tp hs (zj (bb (dD hs).1) (qm hs))
 rw[←yw (.inl rfl) hL hk]
 intro e
 have:=(hL.val h.lt).1 e
 refine this ?_
 rw[hL.g.done hk]
 exact wR tp hs h
theorem Lh (x y:List Int) (f:Nat→Int):∀ k,(∀ v,v<k→gI x v-gI y v=f v)→stT x y k=((pH (fun v=>(f v).natAbs) k:Nat):Int):=by
  intro k
  induction k with
  | zero=>intro _;rfl
  | succ k ih=>
    intro h
    rw[oA,ih (fun v hv=>h v (by omega)),h k (by omega),pH]
    have:=de (f k)
    unfold fu at*
    split<;>omega
theorem iR {l:List Int} (hs:cu l=true) {P:List Dom} (hP:TilS (ag l) P):okH l P=true:=by
 unfold okH;rw[hs,bO (dD hs).1 hP];rfl
theorem fR {l:List Int} (hs:cu l=true) {P:List Dom} (hP:TilS (ag l) P):hts l P=cj l P:=fA (iR hs hP)
theorem Lg {l:List Int} (hs:cu l=true) {P Q:List Dom} (hP:TilS (ag l) P) (hQ:TilS (ag l) Q):stT (hts l P) (hts l Q) 81=gap P Q:=by
 rw[fR hs hP,fR hs hQ,Lh _ _ (dv P Q) 81 (fun v hv=>LH hs hP hQ hv)];rfl
theorem xY {l:List Int} (hs:cu l=true) {P Q:List Dom} (hP:TilS (ag l) P) (hQ:TilS (ag l) Q):gJ l P Q=((gap P Q/4:Nat):Int):=by
 unfold gJ
 rw[iR hs hP,iR hs hQ,Lg hs hP hQ]
 simp
theorem EI {l:List Int} {P Q:List Dom} (ho:aU l=true) (hP:TilS (ag l) P) (hQ:TilS (ag l) Q) {X Y:Nat} (hc:eL (ag l) (X,Y)):
  (dz P Q X Y≤0∧dz P Q (X+1) Y≤0∧dz P Q X (Y+1)≤0∧dz P Q (X+1) (Y+1)≤0)∨(0≤dz P Q X Y∧0≤dz P Q (X+1) Y∧0≤dz P Q X (Y+1)∧0≤dz P Q (X+1) (Y+1)):=by
 have h4:=BE P Q X Y
 have b1:=mB ho hP hQ X Y
 have b3:=kN P Q X Y
 have b4:=kN P Q (X+1) Y
 have c1:(ic P Q).H X Y=hE P ((X:Int)-1) ((Y:Int)-1)-hE Q ((X:Int)-1) ((Y:Int)-1):=rfl
 have c3:(ic P Q).V X Y=vE P ((X:Int)-1) ((Y:Int)-1)-vE Q ((X:Int)-1) ((Y:Int)-1):=rfl
 have c4:(ic P Q).V (X+1) Y=vE P (((X+1:Nat):Int)-1) ((Y:Int)-1)-vE Q (((X+1:Nat):Int)-1) ((Y:Int)-1):=rfl
 have sP:=DR (bO ho hP) hc
 have sQ:=DR (bO ho hQ) hc
 dsimp only at sP sQ
 generalize hx:(X:Int)-1=x at*
 generalize hy:(Y:Int)-1=y at*
 rw[show((X+1:Nat):Int)-1=x+1 by omega]at c4
 have hsg:sg (x+1+y)= -(sg (x+y)):=by rw[show x+1+y=(x+y)+1 by omega,kf]
 have hp:=pN (x+y)
 have p1:=jQ P x y
 have p3:=hG P x y
 have p4:=hG P (x+1) y
 have q1:=jQ Q x y
 have q3:=hG Q x y
 have q4:=hG Q (x+1) y
 rw[show x+1-1=x by omega,hsg]at p4 q4
 have vP:(hE P x y= -3*sg (x+y)∧vE P x y= -(sg (x+y))∧vE P (x+1) y=sg (x+y))∨(hE P x y=sg (x+y)∧vE P x y= -(sg (x+y))∧vE P (x+1) y=sg (x+y))∨(hE P x y=sg (x+y)∧vE P x y=3*sg (x+y)∧vE P (x+1) y=sg (x+y))∨(hE P x y=sg (x+y)∧vE P x y= -(sg (x+y))∧vE P (x+1) y= -3*sg (x+y)):=by
  rcases p1 with⟨m1,e1⟩ |⟨m1,e1⟩<;>rcases p3 with⟨m3,e3⟩ |⟨m3,e3⟩<;>rcases p4 with⟨m4,e4⟩ |⟨m4,e4⟩<;>
   first |omega |(exfalso;apply sP.tl;constructor<;>assumption) |(exfalso;apply sP.tr;constructor<;>assumption) |(exfalso;apply sP.lr;constructor<;>assumption)
 have vQ:(hE Q x y= -3*sg (x+y)∧vE Q x y= -(sg (x+y))∧vE Q (x+1) y=sg (x+y))∨(hE Q x y=sg (x+y)∧vE Q x y= -(sg (x+y))∧vE Q (x+1) y=sg (x+y))∨(hE Q x y=sg (x+y)∧vE Q x y=3*sg (x+y)∧vE Q (x+1) y=sg (x+y))∨(hE Q x y=sg (x+y)∧vE Q x y= -(sg (x+y))∧vE Q (x+1) y= -3*sg (x+y)):=by
  rcases q1 with⟨m1,e1⟩ |⟨m1,e1⟩<;>rcases q3 with⟨m3,e3⟩ |⟨m3,e3⟩<;>rcases q4 with⟨m4,e4⟩ |⟨m4,e4⟩<;>
   first |omega |(exfalso;apply sQ.tl;constructor<;>assumption) |(exfalso;apply sQ.tr;constructor<;>assumption) |(exfalso;apply sQ.lr;constructor<;>assumption)
 clear p1 p3 p4 q1 q3 q4 sP sQ
 rcases hp with hp |hp<;>rw[hp]at vP vQ<;>rcases vP with⟨u1,u3,u4⟩ |⟨u1,u3,u4⟩ |⟨u1,u3,u4⟩ |⟨u1,u3,u4⟩<;>rcases vQ with⟨w1,w3,w4⟩ |⟨w1,w3,w4⟩ |⟨w1,w3,w4⟩ |⟨w1,w3,w4⟩<;>omega
theorem CL {l:List Int} (hs:cu l=true) {P:List Dom} (hP:TilS (ag l) P) (d:Dom):d∈P↔aP (ag l) (ca d)=true∧aP (ag l) (cb d)=true∧spC (cj l P) d=true:=by
 have e:=zn hs hP
 have:=od (s:=ag l) (h:=cj l P) (d:=d)
 rwa [e]at this
theorem BV (c:Bool) (l:List Int) (P Q:List Dom) {v:Nat} (hv:v<81):gI (ko c l P Q) v=mF c (gI (hts l P) v) (gI (hts l Q) v):=by
 unfold ko
 rw[cQ (by rw[jS];exact hv)]
 unfold yD;rw[List.getElem_map,List.getElem_range]
theorem HC {l:List Int} (hs:cu l=true) {P Q:List Dom} (hP:TilS (ag l) P) (hQ:TilS (ag l) Q) (c:Bool) {x y:Int} (hc:aP (ag l) ⟨x,y⟩=true):
  ∃ T,TilS (ag l) T∧(T=P∨T=Q)∧∀ v,(v=vx x y∨v=vx (x+1) y∨v=vx x (y+1)∨v=vx (x+1) (y+1))→gI (ko c l P Q) v=gI (cj l T) v∧mF c (dC l P v) (dC l Q v)=dC l T v:=by
 have ho:=(dD hs).1
 have tp:=bO ho hP
 have tq:=bO ho hQ
 have hb:=bz.1 (bN hc)
 dsimp only at hb
 obtain⟨X,rfl⟩:∃ X:Nat,x=(X:Int)-1:=⟨(x+1).toNat,by omega⟩
 obtain⟨Y,rfl⟩:∃ Y:Nat,y=(Y:Int)-1:=⟨(y+1).toNat,by omega⟩
 have hcs:=EI ho hP hQ (X:=X) (Y:=Y) hc
 have hD:∀ a b:Nat,X≤a→a≤X+1→Y≤b→b≤Y+1→dv P Q (vx ((a:Int)-1) ((b:Int)-1))=dz P Q a b:=by
  intro a b h1 h2 h3 h4
  unfold dv
  rw[show vx ((a:Int)-1) ((b:Int)-1)%9+1=a by unfold vx;omega,show vx ((a:Int)-1) ((b:Int)-1)/9+1=b by unfold vx;omega]
 have key:∀ T,(T=P∨T=Q)→(∀ v,(v=vx ((X:Int)-1) ((Y:Int)-1)∨v=vx ((X:Int)-1+1) ((Y:Int)-1)∨v=vx ((X:Int)-1) ((Y:Int)-1+1)∨v=vx ((X:Int)-1+1) ((Y:Int)-1+1))→∀ a b:Int,a-b=dv P Q v→mF c a b=if T=P then a else b)→∃ T,TilS (ag l) T∧(T=P∨T=Q)∧∀ v,(v=vx ((X:Int)-1) ((Y:Int)-1)∨v=vx ((X:Int)-1+1) ((Y:Int)-1)∨v=vx ((X:Int)-1) ((Y:Int)-1+1)∨v=vx ((X:Int)-1+1) ((Y:Int)-1+1))→gI (ko c l P Q) v=gI (cj l T) v∧mF c (dC l P v) (dC l Q v)=dC l T v:=by
  intro T hT h
  have hTt:TilS (ag l) T:=by rcases hT with rfl |rfl<;>assumption
  refine⟨T,hTt,hT,fun v hv=> ?_⟩
  have hTc:Tch l v:=⟨_,hc,hv⟩
  have h81:=hTc.lt
  have e1:=h v hv _ _ (LH hs hP hQ h81)
  have e2:=h v hv _ _ (Es hs hP hQ hTc)
  rw[BV c l P Q h81,fR hs hP,fR hs hQ,e1,e2]
  by_cases e:T=P
  ·subst e;rw[if_pos rfl,if_pos rfl];exact⟨rfl,rfl⟩
  ·rw[if_neg e,if_neg e]
   rcases hT with hT |hT
   ·exact absurd hT e
   ·subst hT;exact⟨rfl,rfl⟩
 have d1:=hD X Y (by omega) (by omega) (by omega) (by omega)
 have d2:=hD (X+1) Y (by omega) (by omega) (by omega) (by omega)
 have d3:=hD X (Y+1) (by omega) (by omega) (by omega) (by omega)
 have d4:=hD (X+1) (Y+1) (by omega) (by omega) (by omega) (by omega)
 rw[show((X+1:Nat):Int)-1=(X:Int)-1+1 by omega]at d2 d4
 rw[show((Y+1:Nat):Int)-1=(Y:Int)-1+1 by omega]at d3 d4
 by_cases e:P=Q
 ·subst e
  refine key P (.inl rfl) fun v hv a b hab=> ?_
  rw[if_pos rfl]
  unfold dv at hab
  rw[oI]at hab
  unfold mF;split<;>omega
 ·have neg:(∀ v,(v=vx ((X:Int)-1) ((Y:Int)-1)∨v=vx ((X:Int)-1+1) ((Y:Int)-1)∨v=vx ((X:Int)-1) ((Y:Int)-1+1)∨v=vx ((X:Int)-1+1) ((Y:Int)-1+1))→dv P Q v≤0)∨(∀ v,(v=vx ((X:Int)-1) ((Y:Int)-1)∨v=vx ((X:Int)-1+1) ((Y:Int)-1)∨v=vx ((X:Int)-1) ((Y:Int)-1+1)∨v=vx ((X:Int)-1+1) ((Y:Int)-1+1))→0≤dv P Q v):=by
   rcases hcs with h |h
   ·left;rintro v (rfl |rfl |rfl |rfl)<;>omega
   ·right;rintro v (rfl |rfl |rfl |rfl)<;>omega
  have en:¬Q=P:=fun h=>e h.symm
  cases c
  ·rcases neg with h |h
   ·refine key P (.inl rfl) fun v hv a b hab=> ?_
    rw[if_pos rfl];have:=h v hv;unfold mF;simp;omega
   ·refine key Q (.inr rfl) fun v hv a b hab=> ?_
    rw[if_neg en];have:=h v hv;unfold mF;simp;omega
  ·rcases neg with h |h
   ·refine key Q (.inr rfl) fun v hv a b hab=> ?_
    rw[if_neg en];have:=h v hv;unfold mF;simp;omega
   ·refine key P (.inl rfl) fun v hv a b hab=> ?_
    rw[if_pos rfl];have:=h v hv;unfold mF;simp;omega
theorem qV {l:List Int} (hs:cu l=true) {P Q:List Dom} (hP:TilS (ag l) P) (hQ:TilS (ag l) Q) (c:Bool) {x y:Int} (hc:aP (ag l) ⟨x,y⟩=true):
  ∃ T,TilS (ag l) T∧(T=P∨T=Q)∧(∀ v,(v=vx x y∨v=vx (x+1) y∨v=vx x (y+1)∨v=vx (x+1) (y+1))→mF c (dC l P v) (dC l Q v)=dC l T v)∧∀ d:Dom,(ca d=⟨x,y⟩∨cb d=⟨x,y⟩)→(d∈jD (ag l) (ko c l P Q)↔d∈T):=by
 obtain⟨T,hT,hPQ,h⟩:=HC hs hP hQ c hc
 refine⟨T,hT,hPQ,fun v hv=>(h v hv).2,fun d hd=> ?_⟩
 rw[od,CL hs hT]
 refine and_congr Iff.rfl (and_congr Iff.rfl ?_)
 have hb:=bz.1 (bN hc)
 dsimp only at hb
 have e:∀ h1 h2:List Int,(∀ v,(v=vx x y∨v=vx (x+1) y∨v=vx x (y+1)∨v=vx (x+1) (y+1))→gI h1 v=gI h2 v)→spC h1 d=spC h2 d:=by
  intro h1 h2 hv
  obtain⟨a,b,t⟩:=d
  cases t
  ·rcases hd with hd |hd
   ·unfold ca at hd;simp only[Cel.mk.injEq]at hd
    obtain⟨rfl,rfl⟩:=hd
    have e1:=xW h1 ⟨a,b⟩
    have e2:=xW h2 ⟨a,b⟩
    dsimp only at e1 e2
    rw[e1,e2,show(b*9+a+1).toNat=vx (a+1) b by unfold vx;omega,show((b+1)*9+a+1).toNat=vx (a+1) (b+1) by unfold vx;omega,hv _ (.inr (.inl rfl)),hv _ (.inr (.inr (.inr rfl)))]
   ·unfold cb at hd;simp only[Bool.false_eq_true,if_false,Cel.mk.injEq]at hd
    obtain⟨rfl,rfl⟩:=hd
    have e1:=xW h1 ⟨a,b⟩
    have e2:=xW h2 ⟨a,b⟩
    dsimp only at e1 e2
    rw[e1,e2,show(b*9+a+1).toNat=vx (a+1) b by unfold vx;omega,show((b+1)*9+a+1).toNat=vx (a+1) (b+1) by unfold vx;omega,hv _ (.inl rfl),hv _ (.inr (.inr (.inl rfl)))]
  ·rcases hd with hd |hd
   ·unfold ca at hd;simp only[Cel.mk.injEq]at hd
    obtain⟨rfl,rfl⟩:=hd
    have e1:=xX h1 ⟨a,b⟩
    have e2:=xX h2 ⟨a,b⟩
    dsimp only at e1 e2
    rw[e1,e2,show((b+1)*9+a).toNat=vx a (b+1) by unfold vx;omega,show((b+1)*9+a+1).toNat=vx (a+1) (b+1) by unfold vx;omega,hv _ (.inr (.inr (.inl rfl))),hv _ (.inr (.inr (.inr rfl)))]
   ·unfold cb at hd;simp only[if_true,Cel.mk.injEq]at hd
    obtain⟨rfl,rfl⟩:=hd
    have e1:=xX h1 ⟨a,b⟩
    have e2:=xX h2 ⟨a,b⟩
    dsimp only at e1 e2
    rw[e1,e2,show((b+1)*9+a).toNat=vx a (b+1) by unfold vx;omega,show((b+1)*9+a+1).toNat=vx (a+1) (b+1) by unfold vx;omega,hv _ (.inl rfl),hv _ (.inr (.inl rfl))]
 rw[e _ _ fun v hv=>(h v hv).1]
theorem CJ (s:Nat) (h:List Int):(jD s h).Nodup:=(CK (h:=h) _ (Nat.le_refl _)).1.imp fun {a b} h e=>by rw[e]at h;omega
theorem yE {l:List Int} (hs:cu l=true) {P Q:List Dom} (hP:TilS (ag l) P) (hQ:TilS (ag l) Q) (c:Bool):TilS (ag l) (jD (ag l) (ko c l P Q)):=by
  have hok:∀ d∈jD (ag l) (ko c l P Q),okD d=true:=fun d hd=>by
    obtain⟨h1,h2,_⟩:=od.1 hd
    show okd d.x d.y d.d=true
    have:=yM d
    rw[bN h1,bN h2]at this
    exact this
  refine⟨hok,fun i=> ?_,?_⟩
  · by_cases hb:(ag l).testBit i=true
    · rw[if_pos hb]
      have hi:i<64:=by
        refine Classical.byContradiction fun hn=> ?_
        have hlt:=bb (dD hs).1
        rw[Nat.testBit_lt_two_pow (Nat.lt_of_lt_of_le hlt (by rw[show(18446744073709551616:Nat)=2^ 64 by decide];exact Nat.pow_le_pow_right (by decide) (by omega)))]at hb
        cases hb
      have hc:aP (ag l) (cN i)=true:=by
        unfold aP
        rw[show okc (cN i).x (cN i).y=true from fk hi,dF hi,hb];rfl
      obtain⟨T,hT,_,_,hm⟩:=qV hs hP hQ c (x:=(cN i).x) (y:=(cN i).y) hc
      have hcv:=hT.cv i
      rw[if_pos hb]at hcv
      rw[←hcv]
      unfold cvN
      rw[List.countP_eq_length_filter,List.countP_eq_length_filter]
      refine List.Perm.length_eq ((List.perm_ext_iff_of_nodup ((CJ _ _).filter _) ((qt hT.so).filter _)).2 fun d=> ?_)
      rw[List.mem_filter,List.mem_filter]
      refine and_congr_left fun hci=> ?_
      have key:okD d=true→(ca d=cN i∨cb d=cN i):=fun hd=>by
        unfold cin at hci
        rw[Bool.or_eq_true,decide_eq_true_eq,decide_eq_true_eq]at hci
        rcases hci with h |h
        · exact .inl (gx (eX hd) (fk hi) (by rw[h,dF hi]))
        · exact .inr (gx (fU hd) (fk hi) (by rw[h,dF hi]))
      constructor
      · intro h;exact(hm d (key (hok d h))).1 h
      · intro h;exact(hm d (key (hT.ok d h))).2 h
    · rw[if_neg hb]
      unfold cvN
      rw[List.countP_eq_zero]
      intro d hd hci
      obtain⟨h1,h2,_⟩:=od.1 hd
      unfold cin at hci
      rw[Bool.or_eq_true,decide_eq_true_eq,decide_eq_true_eq]at hci
      unfold aP at h1 h2
      rw[Bool.and_eq_true]at h1 h2
      rcases hci with h |h
      · rw[←h]at hb;exact hb h1.2
      · rw[←h]at hb;exact hb h2.2
  · have:=(CK (s:=ag l) (h:=ko c l P Q) _ (Nat.le_refl _)).1
    unfold SS at this
    unfold SO
    refine(List.Pairwise.imp_of_mem ?_ this)
    intro a b ha hb hlt
    rw[jG (hok a ha),jG (hok b hb)]at hlt;omega
theorem Kq (c:Bool):mF c 0 0=0:=by cases c<;>rfl
theorem Kp (c:Bool) (x:Int):mF c x x=x:=by unfold mF;split<;>omega
theorem Ks {l:List Int} (hs:cu l=true) {P Q:List Dom} (hP:TilS (ag l) P) (hQ:TilS (ag l) Q) (c:Bool) {v:Nat} (hv:Tch l v):dC l (jD (ag l) (ko c l P Q)) v=mF c (dC l P v) (dC l Q v):=by
 have ho:=(dD hs).1
 have hM:=yE hs hP hQ c
 have tm:=bO ho hM
 have EH:∀ x y:Int,0≤x∧x≤7→0≤y∧y≤8→opH (ag l) (jD (ag l) (ko c l P Q)) x y=true→mF c (dC l P (vx (x+1) y)) (dC l Q (vx (x+1) y))=mF c (dC l P (vx x y)) (dC l Q (vx x y))+sg (x+y):=by
  intro x y hx hy hop
  unfold opH at hop
  simp only[Bool.and_eq_true,Bool.or_eq_true,Bool.not_eq_true',decide_eq_false_iff_not]at hop
  obtain⟨hc,hn⟩:=hop
  rcases hc with hc |hc
  ·obtain⟨T,hT,_,hv,hm⟩:=qV hs hP hQ c hc
   rw[hv (vx x y) (.inr (.inr (.inl (by rw[show y-1+1=y by omega])))),hv (vx (x+1) y) (.inr (.inr (.inr (by rw[show y-1+1=y by omega]))))]
   exact Et (bO ho hT) hs hx hy (yP (.inl hc) (fun h=>hn ((hm _ (.inl rfl)).2 h)))
  ·obtain⟨T,hT,_,hv,hm⟩:=qV hs hP hQ c hc
   rw[hv _ (.inl rfl),hv _ (.inr (.inl rfl))]
   exact Et (bO ho hT) hs hx hy (yP (.inr hc) (fun h=>hn ((hm _ (.inr (by unfold cb;simp))).2 h)))
 have EV:∀ x y:Int,0≤x∧x≤8→0≤y∧y≤7→opV (ag l) (jD (ag l) (ko c l P Q)) x y=true→mF c (dC l P (vx x (y+1))) (dC l Q (vx x (y+1)))=mF c (dC l P (vx x y)) (dC l Q (vx x y))-sg (x+y):=by
  intro x y hx hy hop
  unfold opV at hop
  simp only[Bool.and_eq_true,Bool.or_eq_true,Bool.not_eq_true',decide_eq_false_iff_not]at hop
  obtain⟨hc,hn⟩:=hop
  rcases hc with hc |hc
  ·obtain⟨T,hT,_,hv,hm⟩:=qV hs hP hQ c hc
   rw[hv (vx x y) (.inr (.inl (by rw[show x-1+1=x by omega]))),hv (vx x (y+1)) (.inr (.inr (.inr (by rw[show x-1+1=x by omega]))))]
   exact Eu (bO ho hT) hs hx hy (yQ (.inl hc) (fun h=>hn ((hm _ (.inl rfl)).2 h)))
  ·obtain⟨T,hT,_,hv,hm⟩:=qV hs hP hQ c hc
   rw[hv _ (.inl rfl),hv _ (.inr (.inr (.inl rfl)))]
   exact Eu (bO ho hT) hs hx hy (yQ (.inr hc) (fun h=>hn ((hm _ (.inr (by unfold cb;simp))).2 h)))
 have hW:∀ u v,u<81→v<81→opE (ag l) (jD (ag l) (ko c l P Q)) u v=true→(fun v=>mF c (dC l P v) (dC l Q v)) v=(fun v=>mF c (dC l P v) (dC l Q v)) u+stE u v:=by
  intro u v hu hv ho
  have eu:=Ev (u:=u)
  have ev':=Ev (u:=v)
  have bu:0≤cX u∧cX u≤8∧0≤cY u∧cY u≤8:=by unfold cX cY;omega
  have bv:0≤cX v∧cX v≤8∧0≤cY v∧cY v≤8:=by unfold cX cY;omega
  unfold stE
  dsimp only
  rcases xu ho with⟨g1,g2,g3⟩ |⟨g1,g2,g3⟩ |⟨g1,g2,g3⟩ |⟨g1,g2,g3⟩
  ·have:=EH _ _ (by omega) (by omega) g3
   rw[←g2,←eu,show vx (cX v) (cY u)=v by rw[g1];exact ev'.symm]at this
   rw[if_pos g1];exact this
  ·have:=EH _ _ (by omega) (by omega) g3
   rw[←g2,←ev',show vx (cX u) (cY v)=u by rw[←g1];exact eu.symm]at this
   rw[if_pos g1,g2,show cX v+1+cY u=(cX v+cY v)+1 by omega,kf];omega
  ·have:=EV _ _ (by omega) (by omega) g3
   rw[←g2,←eu,show vx (cX u) (cY v)=v by rw[g1];exact ev'.symm]at this
   rw[if_neg (by omega)];omega
  ·have:=EV _ _ (by omega) (by omega) g3
   rw[←g2,←ev',show vx (cX v) (cY u)=u by rw[←g1];exact eu.symm]at this
   rw[if_neg (by omega),g2,show cX u+(cY v+1)=(cX v+cY v)+1 by omega,kf];omega
 have:=(vm tm hs hW (wR tm hs hv)).2
 rw[ll,ll,Kq]at this
 rw[this];omega
theorem Kr {l:List Int} (hs:cu l=true) {P Q:List Dom} (hP:TilS (ag l) P) (hQ:TilS (ag l) Q) (c:Bool):cj l (jD (ag l) (ko c l P Q))=ko c l P Q:=by
 have ho:=(dD hs).1
 have hM:=yE hs hP hQ c
 have len:(ko c l P Q).length=81:=by unfold ko;exact jS _ _ _ _
 refine List.ext_getElem (by rw[cO,len]) fun v h1 h2=> ?_
 have hv:v<81:=by rwa [cO]at h1
 rw[←cQ h1,←cQ h2,BV c l P Q hv,fR hs hP,fR hs hQ]
 by_cases h:Tch l v
 ·rw[(fQ (bO ho hM) hs hv).1 h,(fQ (bO ho hP) hs hv).1 h,(fQ (bO ho hQ) hs hv).1 h];exact Ks hs hP hQ c h
 ·rw[(fQ (bO ho hM) hs hv).2 h,(fQ (bO ho hP) hs hv).2 h,(fQ (bO ho hQ) hs hv).2 h,Kp]
theorem oS {l:List Int} (hs:cu l=true) {P Q:List Dom} (hP:TilS (ag l) P) (hQ:TilS (ag l) Q) (c:Bool):tN c l P Q=true∧TilS (ag l) (dq c l P Q)∧cj l (dq c l P Q)=ko c l P Q:=by
 have ho:=(dD hs).1
 have hM:=yE hs hP hQ c
 have hh:=Kr hs hP hQ c
 have len:(ko c l P Q).length=81:=by unfold ko;exact jS _ _ _ _
 have h1:nD l (ko c l P Q)=true:=IT ho len (by rw[fR hs hM,hh])
 have h2:dq c l P Q=jD (ag l) (ko c l P Q):=by unfold dq;rw[iR hs hP,iR hs hQ];exact Bm h1
 refine⟨by unfold tN;rw[iR hs hP,iR hs hQ,h1];rfl,by rw[h2];exact hM,by rw[h2];exact hh⟩
theorem BU {l:List Int} (hs:cu l=true) {P Q:List Dom} (hP:TilS (ag l) P) (hQ:TilS (ag l) Q) (c:Bool) {v:Nat} (hv:v<81):gI (cj l (dq c l P Q)) v=mF c (gI (cj l P) v) (gI (cj l Q) v):=by
 rw[(oS hs hP hQ c).2.2,BV c l P Q hv,fR hs hP,fR hs hQ]
theorem Kh {x y:List Int} {k:Nat}:leT x y k=true↔∀ v,v<k→gI x v≤gI y v:=by
 unfold leT;rw[List.all_eq_true]
 simp only[List.mem_range,decide_eq_true_eq]
theorem mz {l:List Int} (hs:cu l=true) {P Q:List Dom} (hP:TilS (ag l) P) (hQ:TilS (ag l) Q):kj l P Q=true↔∀ v,v<81→gI (cj l P) v≤gI (cj l Q) v:=by
 unfold kj
 rw[iR hs hP,iR hs hQ,fR hs hP,fR hs hQ]
 exact Kh
theorem JX {l:List Int} (hs:cu l=true) {P Q:List Dom} (hP:TilS (ag l) P) (hQ:TilS (ag l) Q) (h:∀ v,v<81→gI (cj l P) v=gI (cj l Q) v):P=Q:=by
 rw[←zn hs hP,←zn hs hQ]
 congr 1
 refine List.ext_getElem (by rw[cO,cO]) fun v h1 h2=> ?_
 have hv:v<81:=by rwa [cO]at h1
 rw[←cQ h1,←cQ h2];exact h v hv
theorem Gn (l:List Int) (hi:Bool):∀ k,∀ j,j<k→(bst l hi k).2=hsT l (bst l hi k).1∧(hi=false→(bst l hi k).2≤hsT l j)∧(hi=true→hsT l j≤(bst l hi k).2):=by
  intro k
  induction k with
  | zero=>intro j h;omega
  | succ k ih=>
    intro j hj
    by_cases h:k=0∨(hi=true∧(bst l hi k).2<hsT l k)∨(hi=false∧hsT l k<(bst l hi k).2)
    · rw[rK h]
      refine⟨rfl,fun hf=> ?_,fun hf=> ?_⟩
      · by_cases e:j=k
        · subst e;exact Int.le_refl _
        · have:=(ih j (by omega)).2.1 hf
          rcases h with h |⟨h,_⟩ |⟨_,h⟩
          · omega
          · rw[hf]at h;cases h
          · exact Int.le_of_lt (Int.lt_of_lt_of_le h this)
      · by_cases e:j=k
        · subst e;exact Int.le_refl _
        · have:=(ih j (by omega)).2.2 hf
          rcases h with h |⟨_,h⟩ |⟨h,_⟩
          · omega
          · exact Int.le_of_lt (Int.lt_of_le_of_lt this h)
          · rw[hf]at h;cases h
    · rw[yi h]
      simp only[not_or,not_and]at h
      have hb:=ih (k-1) (by omega)
      refine⟨hb.1,fun hf=> ?_,fun hf=> ?_⟩
      · by_cases e:j=k
        · subst e;have:=h.2.2 hf;omega
        · exact(ih j (by omega)).2.1 hf
      · by_cases e:j=k
        · subst e;have:=h.2.1 hf;omega
        · exact(ih j (by omega)).2.2 hf
theorem Hd:∀ (L M:List Int),L.length=M.length→(∀ v,v<L.length→hz (gI L v)≤hz (gI M v))→hsZ L≤hsZ M∧(hsZ M≤hsZ L→∀ v,v<L.length→hz (gI L v)=hz (gI M v)):=by
  intro L
  induction L with
  | nil=>intro M hl _;cases M with
    | nil=>exact⟨Int.le_refl _,fun _ v hv=>by simp at hv⟩
    | cons b M=>simp at hl
  | cons a L ih=>
    intro M hl h
    cases M with
    | nil=>simp at hl
    | cons b M=>
      have hl':L.length=M.length:=by simpa using hl
      have h0:=h 0 (by simp)
      rw[cQ (by simp),cQ (by simp)]at h0
      simp only[List.getElem_cons_zero]at h0
      obtain⟨i1,i2⟩:=ih M hl' (fun v hv=>by
        have:=h (v+1) (by simp;omega)
        rw[cQ (by simp;omega),cQ (by simp;omega)]at this
        simp only[List.getElem_cons_succ]at this
        rw[cQ hv,cQ (by omega)];exact this)
      simp only[hsZ]
      refine⟨by omega,fun he v hv=> ?_⟩
      cases v with
      | zero=>
        rw[cQ (by simp),cQ (by simp)]
        simp only[List.getElem_cons_zero];omega
      | succ v=>
        have hv':v<L.length:=by simpa using hv
        have:=i2 (by omega) v hv'
        rw[cQ hv',cQ (by omega)]at this
        rw[cQ (by simp;omega),cQ (by simp;omega)]
        simp only[List.getElem_cons_succ];exact this
theorem LJ {l:List Int} (hs:cu l=true) {k:Nat} (hk:k<(ltR l).length):hsT l k=hsZ (cj l (gLd (ltR l) k)):=by
 have h1:=(mQ (l:=l) (P:=gLd (ltR l) k) (by rw[ee hk];exact List.getElem_mem hk)).2
 unfold hsT
 rw[fR hs h1]
 exact MS (fun v _=>lY (bO (dD hs).1 h1) hs v) (by rw[cO];omega)
theorem yo {l:List Int} (hs:cu l=true) (hp:0<(ltR l).length) (hi:Bool):fz l=true∧TilS (ag l) (dc l hi)∧∀ Q,TilS (ag l) Q→∀ v,v<81→(hi=false→gI (cj l (dc l hi)) v≤gI (cj l Q) v)∧(hi=true→gI (cj l Q) v≤gI (cj l (dc l hi)) v):=by
 have ho:=(dD hs).1
 have hen:fz l=true:=by unfold fz;rw[hs,decide_eq_false (by omega)];rfl
 have hb:=(yh l hi (ltR l).length).1 hp
 have hE:dc l hi=gLd (ltR l) (bst l hi (ltR l).length).1:=by rw[nO hen];unfold AB;rw[if_neg (by omega)]
 have hin:dc l hi∈ltR l:=by rw[hE,ee hb];exact List.getElem_mem hb
 have hT:=(mQ hin).2
 refine⟨hen,hT,fun Q hQ v hv=> ?_⟩
 have hM:=(oS hs hT hQ hi).2.1
 have hat:=fun v hv=>BU hs hT hQ hi (v:=v) hv
 obtain⟨j,hj,ej⟩:=List.getElem_of_mem (Hx hin hM)
 rw[←ee hj]at ej
 obtain⟨b1,b2,b3⟩:=Gn l hi _ j hj
 rw[b1,LJ hs hb,LJ hs hj,←hE,ej]at b2 b3
 have hzv:∀ v,v<81→(hi=false→hz (gI (cj l (dq hi l (dc l hi) Q)) v)≤hz (gI (cj l (dc l hi)) v))∧(hi=true→hz (gI (cj l (dc l hi)) v)≤hz (gI (cj l (dq hi l (dc l hi) Q)) v)):=by
  intro v hv
  by_cases h:Tch l v
  ·have n1:=yx hs hM h
   have n2:=yx hs hT h
   unfold hz
   rw[if_neg n1,if_neg n2,hat v hv]
   constructor
   ·intro e;subst e;unfold mF;simp;omega
   ·intro e;subst e;unfold mF;simp;omega
  ·rw[(fQ (bO ho hM) hs hv).2 h,(fQ (bO ho hT) hs hv).2 h];exact⟨fun _=>Int.le_refl _,fun _=>Int.le_refl _⟩
 have fin:gI (cj l (dq hi l (dc l hi) Q)) v=gI (cj l (dc l hi)) v:=by
  by_cases h:Tch l v
  ·have n1:=yx hs hM h
   have n2:=yx hs hT h
   have:hz (gI (cj l (dq hi l (dc l hi) Q)) v)=hz (gI (cj l (dc l hi)) v):=by
    cases hi
    ·exact(Hd _ _ (by rw[cO,cO]) (fun v hv=>(hzv v (by rwa [cO]at hv)).1 rfl)).2 (b2 rfl) v (by rw[cO];exact hv)
    ·exact((Hd _ _ (by rw[cO,cO]) (fun v hv=>(hzv v (by rwa [cO]at hv)).2 rfl)).2 (b3 rfl) v (by rw[cO];exact hv)).symm
   unfold hz at this
   rw[if_neg n1,if_neg n2]at this;exact this
  ·rw[(fQ (bO ho hM) hs hv).2 h,(fQ (bO ho hT) hs hv).2 h]
 rw[hat v hv]at fin
 constructor
 ·intro e;subst e;unfold mF at fin;simp at fin;omega
 ·intro e;subst e;unfold mF at fin;simp at fin;omega
theorem wd {x y x' y':List Int}:∀ k,(∀ v,v<k→fu (gI x v-gI y v)≤fu (gI x' v-gI y' v))→stT x y k≤stT x' y' k:=by
 intro k
 induction k with
 | zero=>intro _;exact Int.le_refl _
 | succ k ih=>intro h;rw[oA,oA];have:=ih (fun v hv=>h v (by omega));have:=h k (by omega);omega
theorem KB {l:List Int} (hs:cu l=true) (hp:0<(ltR l).length) {P Q:List Dom} (hP:TilS (ag l) P) (hQ:TilS (ag l) Q):
  kj l (dq false l P Q) P=true∧kj l (dq false l P Q) Q=true∧kj l P (dq true l P Q)=true∧kj l Q (dq true l P Q)=true∧kj l (dc l false) P=true∧kj l Q (dc l true)=true∧
  gJ l P Q=gJ l (dq false l P Q) (dq true l P Q)∧kj l P Q=decide (dq false l P Q=P)∧gJ l P Q≤gJ l (dc l false) (dc l true)∧0≤gJ l P Q:=by
 have hX:=(oS hs hP hQ false).2.1
 have hY:=(oS hs hP hQ true).2.1
 have aX:=fun v hv=>BU hs hP hQ false (v:=v) hv
 have aY:=fun v hv=>BU hs hP hQ true (v:=v) hv
 obtain⟨_,hL,bL⟩:=yo hs hp false
 obtain⟨_,hH,bH⟩:=yo hs hp true
 have mX:∀ a b:Int,mF false a b=min a b:=fun a b=>rfl
 have mY:∀ a b:Int,mF true a b=max a b:=fun a b=>rfl
 have st:∀ {A B:List Dom},TilS (ag l) A→TilS (ag l) B→gJ l A B=stT (cj l A) (cj l B) 81/4:=fun hA hB=>by
  unfold gJ;rw[iR hs hA,iR hs hB,fR hs hA,fR hs hB];rfl
 have ia:∀ a:Int,fu a=if a<0 then -a else a:=fun a=>by unfold fu;first |rfl |(split<;>split<;>omega)
 refine⟨?_,?_,?_,?_,?_,?_,?_,?_,?_,?_⟩
 ·rw[mz hs hX hP];intro v hv;rw[aX v hv,mX];omega
 ·rw[mz hs hX hQ];intro v hv;rw[aX v hv,mX];omega
 ·rw[mz hs hP hY];intro v hv;rw[aY v hv,mY];omega
 ·rw[mz hs hQ hY];intro v hv;rw[aY v hv,mY];omega
 ·rw[mz hs hL hP];intro v hv;exact(bL P hP v hv).1 rfl
 ·rw[mz hs hQ hH];intro v hv;exact(bH Q hQ v hv).2 rfl
 ·rw[st hP hQ,st hX hY]
  have h1:=wd (x:=cj l P) (y:=cj l Q) (x':=cj l (dq false l P Q)) (y':=cj l (dq true l P Q)) 81 (fun v hv=>by rw[aX v hv,aY v hv,mX,mY,ia,ia];split<;>split<;>omega)
  have h2:=wd (x':=cj l P) (y':=cj l Q) (x:=cj l (dq false l P Q)) (y:=cj l (dq true l P Q)) 81 (fun v hv=>by rw[aX v hv,aY v hv,mX,mY,ia,ia];split<;>split<;>omega)
  rw[Int.le_antisymm h1 h2]
 ·rw[Bool.eq_iff_iff,decide_eq_true_eq,mz hs hP hQ]
  constructor
  ·intro h
   refine JX hs hX hP fun v hv=> ?_
   have:=h v hv
   rw[aX v hv,mX];omega
  ·intro h v hv
   have:=aX v hv
   rw[h,mX]at this;omega
 ·rw[st hP hQ,st hL hH]
  have h1:=wd (x:=cj l P) (y:=cj l Q) (x':=cj l (dc l false)) (y':=cj l (dc l true)) 81 (fun v hv=>by
   have a1:=(bL P hP v hv).1 rfl
   have a2:=(bL Q hQ v hv).1 rfl
   have a3:=(bH P hP v hv).2 rfl
   have a4:=(bH Q hQ v hv).2 rfl
   rw[ia,ia];split<;>split<;>omega)
  omega
 ·rw[xY hs hP hQ];omega
end Cl
end Go.Proofs.YtonlghbbdcddoaaGreat
