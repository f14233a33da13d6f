/- Walks. -/
import Derived.Test.YtonlghbbdcddoaaGreatC32
import Derived.Test.YtonlghbbdcddoaaGreatEB
import Derived.Test.YtonlghbbdcddoaaGreatPA
import Derived.Test.YtonlghbbdcddoaaGreatHs
import Derived.Test.YtonlghbbdcddoaaGreatEA
import Derived.Test.YtonlghbbdcddoaaGreatClB
namespace Go.Proofs.YtonlghbbdcddoaaGreat
namespace Cl
open Go.ChangeShapes Go.WideShapes Go.ChangeAt Go.RowKit
set_option maxRecDepth 20000
theorem KM {s:Nat}:∀ (n:Nat) (c:Cel),idx c≤n→aP s c=true→∃ d,aP s d=true∧ja s d∧PR s d c:=by
  intro n
  induction n with
  | zero=>intro c hn hc;exact⟨c,hc,fun d _ hd=>by omega,.root⟩
  | succ n ih=>
    intro c hn hc
    by_cases hr:ja s c
    · exact⟨c,hc,hr,.root⟩
    · unfold ja at hr
      simp only[Classical.not_forall,Classical.not_not]at hr
      obtain⟨d,h1,h2,h3⟩:=hr
      obtain⟨e,g1,g2,g3⟩:=ih d (by omega) h1
      exact⟨e,g1,g2,g3.trans h3⟩
theorem mG {s:Nat} (hs:s<18446744073709551616) (h0:s≠0):aP s (cN (au s))=true:=by
 obtain⟨h1,h2⟩:=dr hs h0
 have hok:okc (cN (au s)).x (cN (au s)).y=true:=fk h1
 unfold aP
 rw[hok,dF h1,h2];rfl
theorem Fk {s:Nat} (h:fV s=1) (hs:s<18446744073709551616) (h0:s≠0) {c:Cel} (hc:aP s c=true):PR s (cN (au s)) c:=by
 have h1:=mG hs h0
 have hlt:=(dr hs h0).1
 have hr:ja s (cN (au s)):=fun d hd hi=>by
  rw[dF hlt]at hi
  have:=ig hi
  unfold aP at hd
  rw[this]at hd
  simp at hd
 obtain⟨d,g1,g2,g3⟩:=KM (s:=s) _ c (Nat.le_refl _) hc
 unfold fV gP at h
 obtain⟨z,hz⟩:=List.length_eq_one_iff.1 h
 have m:∀ e,aP s e=true→ja s e→e=z:=fun e he hre=>by
  have:e∈[z]:=by
   rw[←hz]
   exact List.mem_filter.2 ⟨dh.2 he,by simp only[decide_eq_true_eq];exact⟨cn (bN he),hre⟩⟩
  simpa using this
 rw[m _ h1 hr,←m d g1 g2];exact g3
def vx (x y:Int):Nat:=(y*9+x).toNat
theorem ub {x y:Int} (hx:0≤x∧x≤8) (hy:0≤y∧y≤8):vx x y<81∧cX (vx x y)=x∧cY (vx x y)=y:=by
 unfold cX cY vx;omega
theorem Ev {u:Nat}:u=vx (cX u) (cY u):=by unfold vx cX cY;omega
def Rv (l:List Int) (ds:List Dom) (v:Nat):Prop:=GReach (hnb aL) (opE (ag l) ds) (stU (ag l)) v
theorem LL {s:Nat} {ds:List Dom} {x y:Int} (hx:0≤x∧x≤7) (hy:0≤y∧y≤8):opE s ds (vx x y) (vx (x+1) y)=opH s ds x y∧opE s ds (vx (x+1) y) (vx x y)=opH s ds x y:=by
 obtain⟨_,a1,a2⟩:=ub (x:=x) (y:=y) (by omega) hy
 obtain⟨_,b1,b2⟩:=ub (x:=x+1) (y:=y) (by omega) hy
 unfold opE
 rw[a1,a2,b1,b2]
 exact⟨by rw[if_pos ⟨rfl,rfl⟩],by rw[if_neg (by omega),if_pos ⟨rfl,rfl⟩]⟩
theorem LM {s:Nat} {ds:List Dom} {x y:Int} (hx:0≤x∧x≤8) (hy:0≤y∧y≤7):opE s ds (vx x y) (vx x (y+1))=opV s ds x y∧opE s ds (vx x (y+1)) (vx x y)=opV s ds x y:=by
 obtain⟨_,a1,a2⟩:=ub (x:=x) (y:=y) hx (by omega)
 obtain⟨_,b1,b2⟩:=ub (x:=x) (y:=y+1) hx (by omega)
 unfold opE
 rw[a1,a2,b1,b2]
 exact⟨by rw[if_neg (by omega),if_neg (by omega),if_pos ⟨rfl,rfl⟩],by rw[if_neg (by omega),if_neg (by omega),if_neg (by omega),if_pos ⟨rfl,rfl⟩]⟩
theorem yv {x y dx dy:Int} {t:Nat} (ht:t<4) (hd:aL t=(dx,dy)) (hx:0≤x∧x≤8) (hy:0≤y∧y≤8) (hx2:0≤x+dx∧x+dx≤8) (hy2:0≤y+dy∧y+dy≤8):vx (x+dx) (y+dy)∈hnb aL (vx x y):=by
 obtain⟨_,a1,a2⟩:=ub hx hy
 refine uj.2 ⟨t,ht,?_,?_⟩
 ·unfold inD;rw[hd,a1,a2,Bool.and_eq_true];exact⟨bw.2 (by dsimp only;omega),bw.2 (by dsimp only;omega)⟩
 ·unfold atU;rw[hd,a1,a2];rfl
theorem Rv_h {l:List Int} {ds:List Dom} {x y:Int} (hx:0≤x∧x≤7) (hy:0≤y∧y≤8) (ho:opH (ag l) ds x y=true):Rv l ds (vx x y)↔Rv l ds (vx (x+1) y):=by
 obtain⟨e1,e2⟩:=LL (s:=ag l) (ds:=ds) hx hy
 have n1:=yv (x:=x) (y:=y) (dx:=1) (dy:=0) (t:=0) (by decide) rfl (by omega) hy (by omega) (by omega)
 have n2:=yv (x:=x+1) (y:=y) (dx:= -1) (dy:=0) (t:=1) (by decide) rfl (by omega) hy (by omega) (by omega)
 rw[show y+0=y by omega]at n1 n2
 rw[show x+1+ -1=x by omega]at n2
 exact⟨fun h=> .step _ _ h n1 (e1.trans ho),fun h=> .step _ _ h n2 (e2.trans ho)⟩
theorem Rv_v {l:List Int} {ds:List Dom} {x y:Int} (hx:0≤x∧x≤8) (hy:0≤y∧y≤7) (ho:opV (ag l) ds x y=true):Rv l ds (vx x y)↔Rv l ds (vx x (y+1)):=by
 obtain⟨e1,e2⟩:=LM (s:=ag l) (ds:=ds) hx hy
 have n1:=yv (x:=x) (y:=y) (dx:=0) (dy:=1) (t:=2) (by decide) rfl hx (by omega) (by omega) (by omega)
 have n2:=yv (x:=x) (y:=y+1) (dx:=0) (dy:= -1) (t:=3) (by decide) rfl hx (by omega) (by omega) (by omega)
 rw[show x+0=x by omega]at n1 n2
 rw[show y+1+ -1=y by omega]at n2
 exact⟨fun h=> .step _ _ h n1 (e1.trans ho),fun h=> .step _ _ h n2 (e2.trans ho)⟩
theorem Et {l:List Int} {ds:List Dom} (ht:ct l ds=true) (hs:cu l=true) {x y:Int} (hx:0≤x∧x≤7) (hy:0≤y∧y≤8) (ho:opH (ag l) ds x y=true):dC l ds (vx (x+1) y)=dC l ds (vx x y)+sg (x+y):=by
 obtain⟨a0,a1,a2⟩:=ub (x:=x) (y:=y) (by omega) hy
 obtain⟨b0,b1,b2⟩:=ub (x:=x+1) (y:=y) (by omega) hy
 rw[pt ht hs a0 b0 ((LL hx hy).1.trans ho)]
 unfold stE;rw[a1,a2,b2,if_pos rfl]
theorem Eu {l:List Int} {ds:List Dom} (ht:ct l ds=true) (hs:cu l=true) {x y:Int} (hx:0≤x∧x≤8) (hy:0≤y∧y≤7) (ho:opV (ag l) ds x y=true):dC l ds (vx x (y+1))=dC l ds (vx x y)-sg (x+y):=by
 obtain⟨a0,a1,a2⟩:=ub (x:=x) (y:=y) hx (by omega)
 obtain⟨b0,b1,b2⟩:=ub (x:=x) (y:=y+1) hx (by omega)
 rw[pt ht hs a0 b0 ((LM hx hy).1.trans ho)]
 unfold stE;rw[a1,a2,b2,if_neg (by omega)];omega
structure Sd (ds:List Dom) (x y:Int):Prop where
 some:(⟨x,y-1,true⟩:Dom)∈ds∨(⟨x,y,true⟩:Dom)∈ds∨(⟨x-1,y,false⟩:Dom)∈ds∨(⟨x,y,false⟩:Dom)∈ds
 tb:¬((⟨x,y-1,true⟩:Dom)∈ds∧(⟨x,y,true⟩:Dom)∈ds)
 tl:¬((⟨x,y-1,true⟩:Dom)∈ds∧(⟨x-1,y,false⟩:Dom)∈ds)
 tr:¬((⟨x,y-1,true⟩:Dom)∈ds∧(⟨x,y,false⟩:Dom)∈ds)
 bl:¬((⟨x,y,true⟩:Dom)∈ds∧(⟨x-1,y,false⟩:Dom)∈ds)
 br:¬((⟨x,y,true⟩:Dom)∈ds∧(⟨x,y,false⟩:Dom)∈ds)
 lr:¬((⟨x-1,y,false⟩:Dom)∈ds∧(⟨x,y,false⟩:Dom)∈ds)
theorem DR {l:List Int} {ds:List Dom} (h:ct l ds=true) {c:Cel} (hc:aP (ag l) c=true):Sd ds c.x c.y:=by
 have hp:fg l ds=true:=by unfold ct at h;simp only[Bool.and_eq_true]at h;exact h.1
 have k1:(⟨c.x,c.y-1,true⟩:Dom)∈ds→cvr c ⟨c.x,c.y-1,true⟩=true:=fun m=>nN (ks hp m) (.inr (by unfold cb;simp))
 have k2:(⟨c.x,c.y,true⟩:Dom)∈ds→cvr c ⟨c.x,c.y,true⟩=true:=fun m=>nN (ks hp m) (.inl (by unfold ca;rfl))
 have k3:(⟨c.x-1,c.y,false⟩:Dom)∈ds→cvr c ⟨c.x-1,c.y,false⟩=true:=fun m=>nN (ks hp m) (.inr (by unfold cb;simp))
 have k4:(⟨c.x,c.y,false⟩:Dom)∈ds→cvr c ⟨c.x,c.y,false⟩=true:=fun m=>nN (ks hp m) (.inl (by unfold ca;rfl))
 refine⟨?_,?_,?_,?_,?_,?_,?_⟩
 ·obtain⟨d,hd,hcv⟩:=xZ h hc
  have:=zG hcv
  unfold Di at this
  simp only[List.mem_cons,List.not_mem_nil,or_false]at this
  rcases this with rfl |rfl |rfl |rfl
  ·exact .inr (.inr (.inr hd))
  ·exact .inr (.inl hd)
  ·exact .inr (.inr (.inl hd))
  ·exact .inl hd
 ·rintro⟨m1,m2⟩;have:=gW hp m1 m2 (k1 m1) (k2 m2);simp at this;omega
 ·rintro⟨m1,m2⟩;have:=gW hp m1 m2 (k1 m1) (k3 m2);simp at this
 ·rintro⟨m1,m2⟩;have:=gW hp m1 m2 (k1 m1) (k4 m2);simp at this
 ·rintro⟨m1,m2⟩;have:=gW hp m1 m2 (k2 m1) (k3 m2);simp at this
 ·rintro⟨m1,m2⟩;have:=gW hp m1 m2 (k2 m1) (k4 m2);simp at this
 ·rintro⟨m1,m2⟩;have:=gW hp m1 m2 (k3 m1) (k4 m2);simp at this;omega
theorem yP {s:Nat} {ds:List Dom} {x y:Int} (h:aP s ⟨x,y-1⟩=true∨aP s ⟨x,y⟩=true) (hn:(⟨x,y-1,true⟩:Dom)∉ds):opH s ds x y=true:=by
 unfold opH
 rw[decide_eq_false hn]
 rcases h with h |h<;>rw[h]<;>simp
theorem yQ {s:Nat} {ds:List Dom} {x y:Int} (h:aP s ⟨x-1,y⟩=true∨aP s ⟨x,y⟩=true) (hn:(⟨x-1,y,false⟩:Dom)∉ds):opV s ds x y=true:=by
 unfold opV
 rw[decide_eq_false hn]
 rcases h with h |h<;>rw[h]<;>simp
theorem CV {l:List Int} {ds:List Dom} {x y:Int} (hc:aP (ag l) ⟨x,y⟩=true):
  ((⟨x,y-1,true⟩:Dom)∉ds→opH (ag l) ds x y=true)∧((⟨x,y,true⟩:Dom)∉ds→opH (ag l) ds x (y+1)=true)∧
  ((⟨x-1,y,false⟩:Dom)∉ds→opV (ag l) ds x y=true)∧((⟨x,y,false⟩:Dom)∉ds→opV (ag l) ds (x+1) y=true):=by
 refine⟨fun h=>yP (.inr hc) h,fun h=>yP (.inl ?_) ?_,fun h=>yQ (.inr hc) h,fun h=>yQ (.inl ?_) ?_⟩
 ·rw[show y+1-1=y by omega];exact hc
 ·rw[show y+1-1=y by omega];exact h
 ·rw[show x+1-1=x by omega];exact hc
 ·rw[show x+1-1=x by omega];exact h
theorem Gr {l:List Int} {ds:List Dom} (ht:ct l ds=true) {x y:Int} (hc:aP (ag l) ⟨x,y⟩=true):
  (Rv l ds (vx x y)↔Rv l ds (vx (x+1) y))∧(Rv l ds (vx x y)↔Rv l ds (vx x (y+1)))∧(Rv l ds (vx x y)↔Rv l ds (vx (x+1) (y+1))):=by
 have hb:=bz.1 (bN hc)
 dsimp only at hb
 obtain⟨o1,o2,o3,o4⟩:=CV (ds:=ds) hc
 have S:=DR ht hc
 dsimp only at S
 have e1:(⟨x,y-1,true⟩:Dom)∉ds→(Rv l ds (vx x y)↔Rv l ds (vx (x+1) y)):=fun h=>Rv_h (by omega) (by omega) (o1 h)
 have e2:(⟨x,y,true⟩:Dom)∉ds→(Rv l ds (vx x (y+1))↔Rv l ds (vx (x+1) (y+1))):=fun h=>Rv_h (by omega) (by omega) (o2 h)
 have e3:(⟨x-1,y,false⟩:Dom)∉ds→(Rv l ds (vx x y)↔Rv l ds (vx x (y+1))):=fun h=>Rv_v (by omega) (by omega) (o3 h)
 have e4:(⟨x,y,false⟩:Dom)∉ds→(Rv l ds (vx (x+1) y)↔Rv l ds (vx (x+1) (y+1))):=fun h=>Rv_v (by omega) (by omega) (o4 h)
 obtain⟨s0,s1,s2,s3,s4,s5,s6⟩:=S
 rcases s0 with m |m |m |m
 ·have f2:=e2 fun h=>s1 ⟨m,h⟩
  have f3:=e3 fun h=>s2 ⟨m,h⟩
  have f4:=e4 fun h=>s3 ⟨m,h⟩
  exact⟨f3.trans (f2.trans f4.symm),f3,f3.trans f2⟩
 ·have f1:=e1 fun h=>s1 ⟨h,m⟩
  have f3:=e3 fun h=>s4 ⟨m,h⟩
  have f4:=e4 fun h=>s5 ⟨m,h⟩
  exact⟨f1,f3,f1.trans f4⟩
 ·have f1:=e1 fun h=>s2 ⟨h,m⟩
  have f2:=e2 fun h=>s4 ⟨h,m⟩
  have f4:=e4 fun h=>s6 ⟨m,h⟩
  exact⟨f1,f1.trans (f4.trans f2.symm),f1.trans f4⟩
 ·have f1:=e1 fun h=>s3 ⟨h,m⟩
  have f2:=e2 fun h=>s5 ⟨h,m⟩
  have f3:=e3 fun h=>s6 ⟨h,m⟩
  exact⟨f1,f3,f3.trans f2⟩
def Crn (l:List Int) (ds:List Dom) (c:Cel):Prop:=Rv l ds (vx c.x c.y)∧Rv l ds (vx (c.x+1) c.y)∧Rv l ds (vx c.x (c.y+1))∧Rv l ds (vx (c.x+1) (c.y+1))
theorem Gx {l:List Int} {ds:List Dom} (ht:ct l ds=true) {c:Cel} (hc:aP (ag l) c=true) (h:Rv l ds (vx c.x c.y)∨Rv l ds (vx (c.x+1) c.y)∨Rv l ds (vx c.x (c.y+1))∨Rv l ds (vx (c.x+1) (c.y+1))):Crn l ds c:=by
 obtain⟨a1,a2,a3⟩:=Gr (ds:=ds) ht (x:=c.x) (y:=c.y) hc
 have h0:Rv l ds (vx c.x c.y):=by
  rcases h with h |h |h |h
  ·exact h
  ·exact a1.2 h
  ·exact a2.2 h
  ·exact a3.2 h
 exact⟨h0,a1.1 h0,a2.1 h0,a3.1 h0⟩
theorem CZ {l:List Int} {ds:List Dom} (ht:ct l ds=true) (hs:cu l=true) {c:Cel} (hc:aP (ag l) c=true):Crn l ds c:=by
  obtain⟨hr,hp,_,_⟩:=dD hs
  have hne:=qm hs
  have hlt:=bb hr
  have hpr:=Fk hp hlt hne hc
  have h1:=mG hlt hne
  have hq:Crn l ds (cN (au (ag l))):=by
    refine Gx ht h1 (.inl ?_)
    have:vx (cN (au (ag l))).x (cN (au (ag l))).y=stU (ag l):=by
      unfold vx stU cN;dsimp only;omega
    rw[this];exact .root
  clear hc
  induction hpr with
  | root=>exact hq
  | step p q hpp hqq hok ih=>
    have hqh:aP (ag l) q=true:=hok
    obtain⟨i1,i2,i3,i4⟩:=ih
    rw[uk]at hqq
    unfold nbr at hqq
    simp only[Bool.and_eq_true,decide_eq_true_eq]at hqq
    obtain⟨⟨g1,g2⟩,g3⟩:=hqq
    refine Gx ht hqh ?_
    unfold fu at g3
    have hcase:(q.x=p.x+1∧q.y=p.y)∨(q.x=p.x-1∧q.y=p.y)∨(q.x=p.x∧q.y=p.y+1)∨(q.x=p.x∧q.y=p.y-1):=by
      split at g3<;>split at g3<;>omega
    rcases hcase with⟨e1,e2⟩ |⟨e1,e2⟩ |⟨e1,e2⟩ |⟨e1,e2⟩
    · left;rw[e1,e2];exact i2
    · right;left;rw[e1,e2,show p.x-1+1=p.x by omega];exact i1
    · left;rw[e1,e2];exact i3
    · right;right;left;rw[e1,e2,show p.y-1+1=p.y by omega];exact i1
theorem uQ {l:List Int} {ds:List Dom} {v:Nat} (hv:v<81) (h:Rv l ds v):gI (cj l ds) v=dC l ds v:=by
 rw[cQ (by rw[cO];exact hv)]
 unfold cj
 rw[List.getElem_map,List.getElem_range];exact if_pos h
theorem JL {l:List Int} {ds:List Dom} {v:Nat} (hv:v<81) (h:¬Rv l ds v):gI (cj l ds) v= -1000:=by
 rw[cQ (by rw[cO];exact hv)]
 unfold cj
 rw[List.getElem_map,List.getElem_range];exact if_neg h
theorem pN (n:Int):sg n=1∨sg n= -1:=by unfold sg;split<;>simp
theorem kf (n:Int):sg (n+1)= -(sg n):=rn n
theorem Jg {l:List Int} {ds:List Dom} (ht:ct l ds=true) (hs:cu l=true) {x y:Int} (hc:aP (ag l) ⟨x,y⟩=true):
  ((⟨x,y,false⟩:Dom)∈ds→dC l ds (vx (x+1) (y+1))=dC l ds (vx (x+1) y)-3*sg (x+y))∧
  ((⟨x,y,false⟩:Dom)∉ds→dC l ds (vx (x+1) (y+1))=dC l ds (vx (x+1) y)+sg (x+y))∧
  ((⟨x,y,true⟩:Dom)∈ds→dC l ds (vx (x+1) (y+1))=dC l ds (vx x (y+1))+3*sg (x+y))∧
  ((⟨x,y,true⟩:Dom)∉ds→dC l ds (vx (x+1) (y+1))=dC l ds (vx x (y+1))-sg (x+y)):=by
 have hb:=bz.1 (bN hc)
 dsimp only at hb
 obtain⟨o1,o2,o3,o4⟩:=CV (ds:=ds) hc
 have S:=DR ht hc
 dsimp only at S
 have e1:(⟨x,y-1,true⟩:Dom)∉ds→dC l ds (vx (x+1) y)=dC l ds (vx x y)+sg (x+y):=fun h=>Et ht hs (by omega) (by omega) (o1 h)
 have e2:(⟨x,y,true⟩:Dom)∉ds→dC l ds (vx (x+1) (y+1))=dC l ds (vx x (y+1))-sg (x+y):=fun h=>by
  have:=Et ht hs (x:=x) (y:=y+1) (by omega) (by omega) (o2 h)
  rw[show x+(y+1)=(x+y)+1 by omega,kf]at this;omega
 have e3:(⟨x-1,y,false⟩:Dom)∉ds→dC l ds (vx x (y+1))=dC l ds (vx x y)-sg (x+y):=fun h=>Eu ht hs (by omega) (by omega) (o3 h)
 have e4:(⟨x,y,false⟩:Dom)∉ds→dC l ds (vx (x+1) (y+1))=dC l ds (vx (x+1) y)+sg (x+y):=fun h=>by
  have:=Eu ht hs (x:=x+1) (y:=y) (by omega) (by omega) (o4 h)
  rw[show x+1+y=(x+y)+1 by omega,kf]at this;omega
 obtain⟨s0,s1,s2,s3,s4,s5,s6⟩:=S
 refine⟨fun m=> ?_,e4,fun m=> ?_,e2⟩
 ·have f1:=e1 fun h=>s3 ⟨h,m⟩
  have f2:=e2 fun h=>s5 ⟨h,m⟩
  have f3:=e3 fun h=>s6 ⟨h,m⟩
  omega
 ·have f1:=e1 fun h=>s1 ⟨h,m⟩
  have f3:=e3 fun h=>s4 ⟨m,h⟩
  have f4:=e4 fun h=>s5 ⟨m,h⟩
  omega
theorem lY {l:List Int} {ds:List Dom} (ht:ct l ds=true) (hs:cu l=true) (v:Nat): -1000≤gI (cj l ds) v∧gI (cj l ds) v≤80:=by
 have:=oK (l:=l) (ds:=ds) v
 rwa [fA (by rw[hs,ht];rfl)]at this
theorem LF {u v:Int} (hu: -1000≤u∧u≤80) (hv: -1000≤v∧v≤80):e3 u v=true↔(u=v+3∨v=u+3):=by
 unfold e3 sW
 rw[Jl,Jl,Bool.or_eq_true,decide_eq_true_eq,decide_eq_true_eq]
 omega
theorem DY {l:List Int} {ds:List Dom} (ht:ct l ds=true) (hs:cu l=true) {x y:Int} (b:Bool) (hc:aP (ag l) ⟨x,y⟩=true):spC (cj l ds) ⟨x,y,b⟩=true↔(⟨x,y,b⟩:Dom)∈ds:=by
 have hb:=bz.1 (bN hc)
 dsimp only at hb
 obtain⟨v1,v2,v3,v4⟩:=Jg ht hs hc
 obtain⟨c1,c2,c3,c4⟩:=CZ ht hs hc
 dsimp only at c1 c2 c3 c4
 have k2:=(ub (x:=x+1) (y:=y) (by omega) (by omega)).1
 have k3:=(ub (x:=x) (y:=y+1) (by omega) (by omega)).1
 have k4:=(ub (x:=x+1) (y:=y+1) (by omega) (by omega)).1
 have hp:=pN (x+y)
 cases b
 ·have e:=xW (cj l ds) ⟨x,y⟩
  dsimp only at e
  rw[e,show(y*9+x+1).toNat=vx (x+1) y by unfold vx;omega,show((y+1)*9+x+1).toNat=vx (x+1) (y+1) by unfold vx;omega,LF (lY ht hs _) (lY ht hs _),uQ k2 c2,uQ k4 c4]
  constructor
  ·intro h
   refine Classical.byContradiction fun hn=> ?_
   have:=v2 hn;omega
  ·intro h;have:=v1 h;omega
 ·have e:=xX (cj l ds) ⟨x,y⟩
  dsimp only at e
  rw[e,show((y+1)*9+x).toNat=vx x (y+1) by unfold vx;omega,show((y+1)*9+x+1).toNat=vx (x+1) (y+1) by unfold vx;omega,LF (lY ht hs _) (lY ht hs _),uQ k3 c3,uQ k4 c4]
  constructor
  ·intro h
   refine Classical.byContradiction fun hn=> ?_
   have:=v4 hn;omega
  ·intro h;have:=v3 h;omega
theorem Eg {s:Nat} {P:List Dom} (h:TilS s P) {d:Dom} (hd:d∈P):aP s (ca d)=true∧aP s (cb d)=true:=by
 have ho:=h.ok d hd
 have key:∀ c,okc c.x c.y=true→cin d (idx c)=true→aP s c=true:=fun c hc hi=>by
  have hp:=qF hd hi
  rw[h.cv]at hp
  unfold aP;rw[hc]
  cases hz:s.testBit (idx c)
  ·rw[hz]at hp;simp at hp
  ·rfl
 exact⟨key _ (eX ho) (pJ d),key _ (fU ho) (by unfold cin;simp)⟩
theorem zn {l:List Int} {P:List Dom} (hs:cu l=true) (h:TilS (ag l) P):jD (ag l) (cj l P)=P:=by
 have ho:=(dD hs).1
 have ht:=bO ho h
 refine Gg _ _ (CK _ (Nat.le_refl _)).1 ?_ fun d=> ?_
 ·unfold SS
  refine(List.Pairwise.imp_of_mem ?_ h.so)
  intro a b ha hb hlt
  rw[jG (h.ok a ha),jG (h.ok b hb)];omega
 ·rw[od]
  constructor
  ·rintro⟨h1,_,h3⟩
   exact(DY (l:=l) (ds:=P) ht hs (x:=d.x) (y:=d.y) d.d h1).1 h3
  ·intro hd
   obtain⟨h1,h2⟩:=Eg h hd
   exact⟨h1,h2,(DY (l:=l) (ds:=P) ht hs (x:=d.x) (y:=d.y) d.d h1).2 hd⟩
def Tch (l:List Int) (v:Nat):Prop:=∃ c:Cel,aP (ag l) c=true∧(v=vx c.x c.y∨v=vx (c.x+1) c.y∨v=vx c.x (c.y+1)∨v=vx (c.x+1) (c.y+1))
theorem wR {l:List Int} {ds:List Dom} (ht:ct l ds=true) (hs:cu l=true) {v:Nat} (h:Tch l v):Rv l ds v:=by
 obtain⟨c,hc,h⟩:=h
 obtain⟨c1,c2,c3,c4⟩:=CZ ht hs hc
 rcases h with rfl |rfl |rfl |rfl<;>assumption
theorem LW {l:List Int} {ds:List Dom} {x y:Int} (h:opH (ag l) ds x y=true):Tch l (vx x y)∧Tch l (vx (x+1) y):=by
 unfold opH at h
 simp only[Bool.and_eq_true,Bool.or_eq_true]at h
 rcases h.1 with h |h
 ·exact⟨⟨⟨x,y-1⟩,h,.inr (.inr (.inl (by rw[show y-1+1=y by omega])))⟩,⟨⟨x,y-1⟩,h,.inr (.inr (.inr (by rw[show y-1+1=y by omega])))⟩⟩
 ·exact⟨⟨⟨x,y⟩,h,.inl rfl⟩,⟨⟨x,y⟩,h,.inr (.inl rfl)⟩⟩
theorem LX {l:List Int} {ds:List Dom} {x y:Int} (h:opV (ag l) ds x y=true):Tch l (vx x y)∧Tch l (vx x (y+1)):=by
 unfold opV at h
 simp only[Bool.and_eq_true,Bool.or_eq_true]at h
 rcases h.1 with h |h
 ·exact⟨⟨⟨x-1,y⟩,h,.inr (.inl (by rw[show x-1+1=x by omega]))⟩,⟨⟨x-1,y⟩,h,.inr (.inr (.inr (by rw[show x-1+1=x by omega])))⟩⟩
 ·exact⟨⟨⟨x,y⟩,h,.inl rfl⟩,⟨⟨x,y⟩,h,.inr (.inr (.inl rfl))⟩⟩
theorem xu {s:Nat} {ds:List Dom} {u v:Nat} (h:opE s ds u v=true):
  (cY u=cY v∧cX v=cX u+1∧opH s ds (cX u) (cY u)=true)∨(cY u=cY v∧cX u=cX v+1∧opH s ds (cX v) (cY v)=true)∨
  (cX u=cX v∧cY v=cY u+1∧opV s ds (cX u) (cY u)=true)∨(cX u=cX v∧cY u=cY v+1∧opV s ds (cX v) (cY v)=true):=by
 unfold opE at h
 split at h
 ·rename_i h1;exact .inl ⟨h1.1,h1.2,h⟩
 ·split at h
  ·rename_i h1;exact .inr (.inl ⟨h1.1,h1.2,h⟩)
  ·split at h
   ·rename_i h1;exact .inr (.inr (.inl ⟨h1.1,h1.2,h⟩))
   ·split at h
    ·rename_i h1;exact .inr (.inr (.inr ⟨h1.1,h1.2,h⟩))
    ·cases h
theorem tch_e {l:List Int} {ds:List Dom} {u v:Nat} (h:opE (ag l) ds u v=true):Tch l u∧Tch l v:=by
 have eu:=Ev (u:=u)
 have ev:=Ev (u:=v)
 rcases xu h with⟨h1,h2,h3⟩ |⟨h1,h2,h3⟩ |⟨h1,h2,h3⟩ |⟨h1,h2,h3⟩
 ·have:=LW h3
  rw[eu,ev,←h1,h2];exact this
 ·have:=LW h3
  rw[eu,ev,h1,h2];exact⟨this.2,this.1⟩
 ·have:=LX h3
  rw[eu,ev,←h1,h2];exact this
 ·have:=LX h3
  rw[eu,ev,h1,h2];exact⟨this.2,this.1⟩
theorem Mb {l:List Int} {ds:List Dom} (ht:ct l ds=true) (hs:cu l=true) (v:Nat):Rv l ds v↔Tch l v:=by
  refine⟨fun h=> ?_,wR ht hs⟩
  cases h with
  | root=>
    have hlt:=bb (dD hs).1
    refine⟨cN (au (ag l)),mG hlt (qm hs),.inl ?_⟩
    unfold vx stU cN;dsimp only;omega
  | step p q hp hq ho=>exact(tch_e ho).2
theorem vm {l:List Int} {ds:List Dom} (ht:ct l ds=true) (hs:cu l=true) {W:Nat→Int} (hW:∀ u v,u<81→v<81→opE (ag l) ds u v=true→W v=W u+stE u v) {v:Nat} (hv:Rv l ds v):v<81∧dC l ds v=W v-W (stU (ag l)):=by
  have h0:=zj (bb (dD hs).1) (qm hs)
  induction hv with
  | root=>exact⟨h0,by rw[ll];omega⟩
  | step p q hp hq ho ih=>
    have hq81:=MR hq
    refine⟨hq81,?_⟩
    have e1:=pt ht hs ih.1 hq81 ho
    have e2:=hW p q ih.1 hq81 ho
    omega
theorem fQ {l:List Int} {P:List Dom} (ht:ct l P=true) (hs:cu l=true) {v:Nat} (hv:v<81):(Tch l v→gI (cj l P) v=dC l P v)∧(¬Tch l v→gI (cj l P) v= -1000):=
 ⟨fun h=>uQ hv (wR ht hs h),fun h=>JL hv (fun hr=>h ((Mb ht hs v).1 hr))⟩
def hz (h:Int):Int:=if h= -1000 then 0 else h
def hsZ:List Int→Int
 | []=>0
 | h::L=>hz h+hsZ L
theorem JV:∀ (L:List Int) (a:Int) (n:Nat),(∀ x∈L, -1000≤x∧x≤80)→ -(1000*(n:Int))≤a∧a≤1000*(n:Int)→n+L.length≤1000→L.foldl qQ a=a+hsZ L:=by
  intro L
  induction L with
  | nil=>intro a n _ _ _;simp [hsZ]
  | cons x L ih=>
    intro a n hx h hn
    rw[List.foldl_cons,hsZ]
    have hx0:=hx x (List.mem_cons_self ..)
    rw[List.length_cons]at hn
    have e:qQ a x=a+hz x:=by
      unfold qQ hz
      split
      · omega
      · rw[IntWalk.wrap64_in _ (by omega)]
    have hb: -(1000*((n+1:Nat):Int))≤a+hz x∧a+hz x≤1000*((n+1:Nat):Int):=by unfold hz;split<;>omega
    rw[e,ih _ (n+1) (fun y hy=>hx y (List.mem_cons_of_mem _ hy)) hb (by omega)];omega
theorem MS {L:List Int} (h:∀ v,v<L.length→ -1000≤gI L v∧gI L v≤80) (hn:L.length≤81):pU L=hsZ L:=by
 have:=JV L 0 0 (fun x hx=>by
  obtain⟨i,hi,rfl⟩:=List.getElem_of_mem hx
  have:=h i hi
  rwa [cQ hi]at this) (by simp) (by omega)
 unfold pU;rw[this];omega
def chK (h g:List Int):Nat→Nat
 | 0=>0
 | k+1=>chK h g k+if gI h k=gI g k then 0 else 1
theorem GO {s:Nat} {P:List Dom} {c:Cel} (h:TilS s P) (hc:gK P c.x c.y=true) (d:Dom):
  d∈bA P c↔d=pr0 c (acB P c.x c.y)∨d=pr1 c (acB P c.x c.y)∨(d∈P∧d≠pr0 c (!(acB P c.x c.y))∧d≠pr1 c (!(acB P c.x c.y))):=by
 obtain⟨_,p2,_,_⟩:=kQ h hc
 have e0:bA P c=te P c:=by unfold bA;rw[if_pos hc]
 rw[e0,p2.mem_iff,List.mem_cons,List.mem_cons,List.mem_filter,Ak]
 simp only[Bool.and_eq_true,bne_iff_ne]
theorem FJ {nb:Nat→List Nat} {ok:Nat→Bool} (h0:ok 0=true):∀ k,(∀ j,0<j→j<k→ok j=true→∃ i,i<j∧ok i=true∧j∈nb i)→0<k→lD nb ok k=1:=by
  intro k
  induction k with
  | zero=>intro _ h;omega
  | succ k ih=>
    intro h _
    rcases Nat.eq_zero_or_pos k with rfl |hk
    · rw[sF ⟨h0,fun i hi=>by omega⟩];unfold lD;simp
    · rw[vS (fun hr=> ?_)]
      · exact ih (fun j h1 h2=>h j h1 (by omega)) hk
      · obtain⟨i,h1,h2,h3⟩:=h k hk (Nat.lt_succ_self k) hr.1
        exact hr.2 i h1 h2 (.step _ _ .root h3 hr.1)
theorem Cc {s:Nat} (hs:s<18446744073709551616) (h0:s≠0) (h:∀ c,aP s c=true→c≠cN (au s)→∃ d,aP s d=true∧idx d<idx c∧c∈nbs d):fV s=1:=by
 have h1:=mG hs h0
 have hlt:=(dr hs h0).1
 have hr:ja s (cN (au s)):=fun d hd hi=>by
  rw[dF hlt]at hi
  have:=ig hi
  unfold aP at hd
  rw[this]at hd
  simp at hd
 unfold fV gP
 have e:(aj s).filter (fun c=>@decide (idx c<64∧ja s c) (Classical.propDecidable _))=[cN (au s)]:=by
  have hn:=(ot s).filter (fun c=>@decide (idx c<64∧ja s c) (Classical.propDecidable _))
  have hm:∀ c,c∈(aj s).filter (fun c=>@decide (idx c<64∧ja s c) (Classical.propDecidable _))↔c=cN (au s):=fun c=>by
   rw[List.mem_filter,dh]
   simp only[decide_eq_true_eq]
   constructor
   ·rintro⟨q1,_,q3⟩
    refine Classical.byContradiction fun hne=> ?_
    obtain⟨d,d1,d2,d3⟩:=h c q1 hne
    exact q3 d d1 d2 (.step _ _ .root d3 q1)
   ·rintro rfl
    exact⟨h1,cn (bN h1),hr⟩
  refine List.perm_singleton.1 ((List.perm_ext_iff_of_nodup hn (by simp)).2 fun c=> ?_)
  rw[hm,List.mem_singleton]
 have:∀ (inst:DecidablePred fun c=>idx c<64∧ja s c),((aj s).filter (fun c=>@decide (idx c<64∧ja s c) (inst c))).length=1:=fun inst=>by
  rw[show(fun c=>@decide (idx c<64∧ja s c) (inst c))=fun c=>@decide (idx c<64∧ja s c) (Classical.propDecidable _) from funext fun c=>by congr]
  rw[e];rfl
 exact this _
theorem vM:ag (ck 4 4)=252645135:=by decide+kernel
theorem sim44:cu (ck 4 4)=true:=by
 have hr:aU (ck 4 4)=true:=by decide+kernel
 have hl:ag (ck 4 4)<18446744073709551616:=bb hr
 have h0:ag (ck 4 4)≠0:=by rw[vM];decide
 unfold cu
 rw[hr,Bool.true_and,Bool.and_eq_true,Bool.and_eq_true,decide_eq_true_eq,decide_eq_true_eq]
 refine⟨Cc hl h0 fun c hc hne=> ?_,?_,by rw[vM];decide+kernel⟩
 ·have hok:=bN hc
  have key:∀ i,i<64→(252645135:Nat).testBit i=true→i≠0→∃ j,j<i∧(252645135:Nat).testBit j=true∧nbr (cN j) (cN i)=true:=by decide+kernel
  have hb:(252645135:Nat).testBit (idx c)=true:=by rw[←vM];unfold aP at hc;rw[hok,Bool.true_and]at hc;exact hc
  have hf:au (ag (ck 4 4))=0:=by rw[vM];decide+kernel
  rw[hf]at hne
  have hi:=cn hok
  have hci:cN (idx c)=c:=pQ hok
  obtain⟨j,j1,j2,j3⟩:=key (idx c) hi hb (fun e=>hne (by rw[←hci,e]))
  refine⟨cN j,?_,by rw[dF (by omega)];exact j1,by rw[uk,←hci];exact j3⟩
  unfold aP
  rw[fk (by omega),dF (by omega),vM,j2];rfl
 ·unfold ii
  refine FJ (by rw[vM];decide+kernel) 100 ?_ (by decide)
  rw[vM]
  have key:((List.range 100).all fun j=>decide (j=0)|| !(bk 252645135 j)||(List.range j).any fun i=>bk 252645135 i&&decide (j∈eV i))=true:=by decide+kernel
  intro j h0 h1 h2
  rw[List.all_eq_true]at key
  have:=key j (List.mem_range.2 h1)
  rw[h2]at this
  simp only[Bool.not_true,Bool.or_false,Bool.or_eq_true,decide_eq_true_eq,List.any_eq_true,Bool.and_eq_true]at this
  rcases this with e |⟨i,i1,i2,i3⟩
  ·omega
  ·exact⟨i,List.mem_range.1 i1,i2,i3⟩
noncomputable def r13 (b:List Nat):Nat→Cu→List Int × Cu
 | 0,c=>(ck 4 4,c)
 | k+1,c=>if(cu (r3 b c).1&&inB ((cnt (ag (r3 b c).1):Nat):Int) 1 120)=true then r3 b c else r13 b k (r3 b c).2
theorem KH {b:List Nat} {k:Nat} {c2:Cu} (hk:0<k) (h1:cu (r3 b c2).1=true) (h2:inB ((cnt (ag (r3 b c2).1):Nat):Int) 1 120=true):r13 b k c2=r3 b c2:=by
 obtain⟨k,rfl⟩:∃ j,k=j+1:=⟨k-1,by omega⟩
 rw[r13,h1,h2];rfl
theorem Ie {b:List Nat} {k:Nat} {c2:Cu} (hk:0<k) (h:cu (r3 b c2).1=false∨inB ((cnt (ag (r3 b c2).1):Nat):Int) 1 120=false):r13 b k c2=r13 b (k-1) (r3 b c2).2:=by
 obtain⟨k,rfl⟩:∃ j,k=j+1:=⟨k-1,by omega⟩
 rw[r13,if_neg (by rcases h with h |h<;>rw[h]<;>simp)];rfl
theorem KG {b:List Nat} {k:Nat} {c2:Cu} (hk:k=0):r13 b k c2=(ck 4 4,c2):=by subst hk;rfl
theorem Nl (b:List Nat):∀ k c,cu (r13 b k c).1=true∧1≤cnt (ag (r13 b k c).1)∧cnt (ag (r13 b k c).1)≤300:=by
  intro k
  induction k with
  | zero=>intro c;exact⟨sim44,(Ii 1 (by decide) 2 (by decide)).2⟩
  | succ k ih=>
    intro c
    rw[r13]
    split
    · rename_i h
      rw[Bool.and_eq_true]at h
      have:=bw.1 h.2
      exact⟨h.1,by omega,by omega⟩
    · exact ih _
theorem r13_i {b:List Nat}:∀ (k:Nat) (c:Cu),c.i≤b.length→(r13 b k c).2.i≤b.length:=by
  intro k
  induction k with
  | zero=>intro c h;exact h
  | succ k ih=>
    intro c h
    rw[r13]
    split
    · exact r3_i h
    · exact ih _ (r3_i h)
end Cl
end Go.Proofs.YtonlghbbdcddoaaGreat
