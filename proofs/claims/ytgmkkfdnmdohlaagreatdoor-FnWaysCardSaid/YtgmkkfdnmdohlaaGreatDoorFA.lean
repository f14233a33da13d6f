/- Parts put together: Fw, F1, Nb, Ds, Fp. -/
import Derived.Test.YtgmkkfdnmdohlaaGreatDoorE8
import Derived.Test.YtgmkkfdnmdohlaaGreatDoorPA
import Derived.Test.YtgmkkfdnmdohlaaGreatDoorCH
import Derived.Test.YtgmkkfdnmdohlaaGreatDoorClB
import Derived.Test.YtgmkkfdnmdohlaaGreatDoorClC
import Derived.Test.YtgmkkfdnmdohlaaGreatDoorTx
set_option linter.unusedSimpArgs false
set_option linter.unusedVariables false
set_option maxHeartbeats 4000000
set_option maxRecDepth 100000
namespace Go.Proofs.YtgmkkfdnmdohlaaGreatDoor
namespace Cl
open Go.ChangeShapes Go.WideShapes Go.ChangeAt Go.RowKit
inductive GP (M:List (List Int)):Nat→Int→Int→Prop
 | nil (u:Int):GP M 0 u u
 | snoc (n:Nat) (u v w:Int) (h:GP M n u v) (hw:w∈gLs M v.toNat):GP M (n+1) u w
def IsD (M:List (List Int)) (t v d:Int):Prop:=(∃ n:Nat,d=n∧GP M n t v∧∀ m,GP M m t v→n≤m)∨(d= -1∧∀ n,¬GP M n t v)
theorem Ew {p:Nat→Prop}:∀ (k n:Nat),n≤k→p n→∃ m,p m∧∀ j,p j→m≤j:=by
  intro k
  induction k with
  | zero=>intro n hn h;exact⟨n,h,fun j _=>by omega⟩
  | succ k ih=>
    intro n hn h
    by_cases e:∃ j,j<n∧p j
    · obtain⟨j,hj,hp⟩:=e;exact ih j (by omega) hp
    · exact⟨n,h,fun j hj=>Classical.byContradiction fun hc=>e ⟨j,by omega,hj⟩⟩
theorem IsD.ex (M:List (List Int)) (t v:Int):∃ d,IsD M t v d:=by
 by_cases h:∃ n,GP M n t v
 ·obtain⟨n,hn⟩:=h
  obtain⟨m,h1,h2⟩:=Ew (p:=fun n=>GP M n t v) n n (Nat.le_refl _) hn
  exact⟨m,.inl ⟨m,rfl,h1,h2⟩⟩
 ·exact⟨-1,.inr ⟨rfl,fun n hn=>h ⟨n,hn⟩⟩⟩
open Classical in
noncomputable def dsD (M:List (List Int)) (t v:Int):Int:=Classical.epsilon (IsD M t v)
theorem qe (M:List (List Int)) (t v:Int):IsD M t v (dsD M t v):=Classical.epsilon_spec (IsD.ex M t v)
theorem DL (M:List (List Int)) (t v:Int): -1≤dsD M t v:=by
 rcases qe M t v with⟨n,h,_⟩ |⟨h,_⟩<;>omega
theorem st {M:List (List Int)} {t v:Int} {n:Nat} (h:GP M n t v):0≤dsD M t v∧dsD M t v≤n:=by
 rcases qe M t v with⟨m,h1,h2,h3⟩ |⟨h1,h2⟩
 ·have:=h3 n h;omega
 ·exact absurd h (h2 n)
theorem kf {M:List (List Int)} {t v:Int} (h:0≤dsD M t v):GP M (dsD M t v).toNat t v:=by
 rcases qe M t v with⟨m,h1,h2,h3⟩ |⟨h1,h2⟩
 ·rw[h1];exact h2
 ·omega
theorem yV {M:List (List Int)} {t v:Int} (h:∀ n,¬GP M n t v):dsD M t v= -1:=by
 rcases qe M t v with⟨m,h1,h2,h3⟩ |⟨h1,h2⟩
 ·exact absurd h2 (h m)
 ·exact h1
theorem jk (M:List (List Int)) (t:Int):dsD M t t=0:=by have:=st (GP.nil (M:=M) t);omega
theorem su {M:List (List Int)} {t u w:Int} (hu:0≤dsD M t u) (hw:w∈gLs M u.toNat):0≤dsD M t w∧dsD M t w≤dsD M t u+1:=by
 have:=st (GP.snoc _ _ _ _ (kf hu) hw);omega
noncomputable def dL (M:List (List Int)) (t:Int) (n:Nat) (L:List Int):List Int:=(List.range n).map (fun v=>if((v:Nat):Int)∈L then dsD M t v else -1)
theorem pY (M:List (List Int)) (t:Int) (n:Nat) (L:List Int):(dL M t n L).length=n:=by unfold dL;simp
theorem IW {M:List (List Int)} {t:Int} {n:Nat} {L:List Int} {v:Nat} (hv:v<n):gI (dL M t n L) v=if((v:Nat):Int)∈L then dsD M t v else -1:=by
 rw[dh (by rw[pY];exact hv)];unfold dL;simp
theorem Dz {M:List (List Int)} {t:Int} {n:Nat} {L:List Int} {v:Nat} (hv:v<n):dL M t n (L++[((v:Nat):Int)])=(dL M t n L).set v (dsD M t v):=by
 apply List.ext_getElem
 ·simp [dL]
 ·intro i h1 h2
  have hi:i<n:=by simpa [dL] using h1
  rw[List.getElem_set]
  unfold dL
  simp only[List.getElem_map,List.getElem_range,List.mem_append,List.mem_singleton]
  by_cases e:v=i
  ·subst e;simp
  ·rw[if_neg e]
   have:¬((i:Nat):Int)=((v:Nat):Int):=by omega
   simp [this]
theorem Jv (M:List (List Int)) (t:Int) (n:Nat):dL M t n []=List.replicate n (-1):=by
 apply List.ext_getElem
 ·simp [dL]
 ·intro i h1 h2;rw[List.getElem_replicate];unfold dL;simp only[List.getElem_map,List.not_mem_nil,if_false]
def ge (M:List (List Int)) (n:Nat):Prop:=∀ k,k<n→∀ w∈gLs M k,0≤w∧w<(n:Int)
structure BInv (M:List (List Int)) (t:Int) (n:Nat) (L:List Int) (k:Nat):Prop where
 nd:L.Nodup
 lt:∀ u∈L,0≤u∧u<(n:Int)
 hd:t∈L
 rc:∀ u∈L,0≤dsD M t u
 so:L.Pairwise (fun u v=>dsD M t u≤dsD M t v)
 cl:∀ j (hj:j<L.length),j<k→∀ w∈gLs M (L[j]).toNat,w∈L
 ne:∀ (hk:k<L.length),∀ v∈L,dsD M t v≤dsD M t (L[k])+1
 bd:∀ v∈L,dsD M t v<(L.length:Int)
theorem BInv.init {M:List (List Int)} {t:Int} {n:Nat} (h:0≤t∧t<(n:Int)):BInv M t n [t] 0:=
 ⟨by simp,fun u hu=>by rw[List.mem_singleton]at hu;subst hu;exact h,by simp,fun u hu=>by rw[List.mem_singleton]at hu;subst hu;rw[jk];exact Int.le_refl _,by simp,fun j _ hj=>by omega,fun _ v hv=>by rw[List.mem_singleton]at hv;subst hv;simp;omega,fun v hv=>by rw[List.mem_singleton]at hv;subst hv;rw[jk];simp⟩
theorem sQ (n:Nat) (L:List Int) (hn:L.Nodup) (h:∀ u∈L,0≤u∧u<(n:Int)):L.length≤n:=by
 have:=iU n (L.map Int.toNat) (List.pairwise_map.2 (hn.imp_of_mem fun {a b} ha hb hne e=>hne (by have:=h a ha;have:=h b hb;omega))) (fun u hu=>by
  obtain⟨a,ha,rfl⟩:=List.mem_map.1 hu
  have:=h a ha;omega)
 simpa using this
theorem BInv.len {M:List (List Int)} {t:Int} {n:Nat} {L:List Int} {k:Nat} (h:BInv M t n L k):L.length≤n:=sQ n L h.nd h.lt
structure BIn (M:List (List Int)) (t:Int) (n:Nat) (L:List Int) (k:Nat) (u:Int) (i:Nat) (N:List Int):Prop where
 ap:∃ E,N=L++E
 nd:N.Nodup
 lt:∀ u∈N,0≤u∧u<(n:Int)
 rc:∀ u∈N,0≤dsD M t u
 so:N.Pairwise (fun u v=>dsD M t u≤dsD M t v)
 got:∀ w∈(gLs M u.toNat).take i,w∈N
 ne:∀ v∈N,dsD M t v≤dsD M t u+1
 bd:∀ v∈N,dsD M t v<(N.length:Int)
theorem BInv.into {M:List (List Int)} {t:Int} {n:Nat} {L:List Int} {k:Nat} (h:BInv M t n L k) (hk:k<L.length):BIn M t n L k (L[k]) 0 L:=
 ⟨⟨[],by simp⟩,h.nd,h.lt,h.rc,h.so,by simp,h.ne hk,h.bd⟩
theorem BIn.len {M:List (List Int)} {t:Int} {n:Nat} {L:List Int} {k i:Nat} {u:Int} {N:List Int} (h:BIn M t n L k u i N):N.length≤n:=sQ n N h.nd h.lt
theorem rh {L:List Int} {k:Nat} (h:k<L.length):L.take (k+1)=L.take k++[gI L k]:=by rw[List.take_succ_eq_append_getElem h,dh h]
theorem BIn.skip {M:List (List Int)} {t:Int} {n:Nat} {L:List Int} {k i:Nat} {u:Int} {N:List Int} (h:BIn M t n L k u i N) (hi:i<(gLs M u.toNat).length) (hm:gI (gLs M u.toNat) i∈N):BIn M t n L k u (i+1) N:=
 ⟨h.ap,h.nd,h.lt,h.rc,h.so,fun w hw=>by
  rw[rh hi,List.mem_append,List.mem_singleton]at hw
  rcases hw with hw |rfl
  ·exact h.got w hw
  ·exact hm,h.ne,h.bd⟩
theorem BInv.near {M:List (List Int)} {t:Int} {n:Nat} {L:List Int} {k:Nat} (h:BInv M t n L k) (hk:k<L.length):∀ (m:Nat) (v:Int),GP M m t v→(m:Int)≤dsD M t (L[k])→v∈L:=by
  intro m
  induction m with
  | zero=>intro v hv _;cases hv;exact h.hd
  | succ m ih=>
    intro w hw hm
    cases hw with
    | snoc _ _ p _ hp hwp=>
      have hpL:=ih p hp (by omega)
      obtain⟨j,hj,rfl⟩:=List.getElem_of_mem hpL
      have hd:=(st hp).2
      refine h.cl j hj ?_ w hwp
      refine Classical.byContradiction fun hc=> ?_
      rcases Nat.lt_or_ge k j with hkj |hkj
      · have:=List.pairwise_iff_getElem.1 h.so k j hk hj hkj
        omega
      · obtain rfl:j=k:=by omega
        omega
theorem BIn.go {M:List (List Int)} {t:Int} {n:Nat} {L:List Int} {k i:Nat} {N:List Int} (hI:BInv M t n L k) (hk:k<L.length) (hR:ge M n) (h:BIn M t n L k (L[k]) i N) (hi:i<(gLs M (L[k]).toNat).length) (hm:gI (gLs M (L[k]).toNat) i∉N):
  BIn M t n L k (L[k]) (i+1) (N++[gI (gLs M (L[k]).toNat) i])∧dsD M t (gI (gLs M (L[k]).toNat) i)=dsD M t (L[k])+1∧(0≤gI (gLs M (L[k]).toNat) i∧gI (gLs M (L[k]).toNat) i<(n:Int)):=by
 have hu:=hI.lt _ (List.getElem_mem hk)
 have hur:=hI.rc _ (List.getElem_mem hk)
 have hw:gI (gLs M (L[k]).toNat) i∈gLs M (L[k]).toNat:=by rw[dh hi];exact List.getElem_mem hi
 have hb:=hR _ (by omega) _ hw
 obtain⟨s1,s2⟩:=su hur hw
 have e:dsD M t (gI (gLs M (L[k]).toNat) i)=dsD M t (L[k])+1:=by
  refine Classical.byContradiction fun hc=>hm ?_
  have hp:=kf s1
  have:=hI.near hk _ _ hp (by omega)
  obtain⟨E,rfl⟩:=h.ap
  simp [this]
 refine⟨⟨?_,?_,?_,?_,?_,?_,?_,?_⟩,e,hb⟩
 ·obtain⟨E,rfl⟩:=h.ap
  exact⟨E++[gI (gLs M (L[k]).toNat) i],by rw[List.append_assoc]⟩
 ·rw[List.nodup_append]
  refine⟨h.nd,by simp,fun a ha b hb'=> ?_⟩
  rw[List.mem_singleton]at hb'
  subst hb'
  rintro rfl
  exact hm ha
 ·intro u hu'
  rw[List.mem_append,List.mem_singleton]at hu'
  rcases hu' with hu' |rfl
  ·exact h.lt u hu'
  ·exact hb
 ·intro u hu'
  rw[List.mem_append,List.mem_singleton]at hu'
  rcases hu' with hu' |rfl
  ·exact h.rc u hu'
  ·exact s1
 ·rw[List.pairwise_append]
  refine⟨h.so,by simp,fun a ha b hb'=> ?_⟩
  rw[List.mem_singleton]at hb'
  subst hb'
  rw[e];exact h.ne a ha
 ·intro w hw'
  rw[rh hi,List.mem_append,List.mem_singleton]at hw'
  rw[List.mem_append,List.mem_singleton]
  rcases hw' with hw' |rfl
  ·exact .inl (h.got w hw')
  ·exact .inr rfl
 ·intro v hv
  rw[List.mem_append,List.mem_singleton]at hv
  rcases hv with hv |rfl
  ·exact h.ne v hv
  ·omega
 ·intro v hv
  rw[List.length_append,List.length_singleton]
  rw[List.mem_append,List.mem_singleton]at hv
  rcases hv with hv |rfl
  ·have:=h.bd v hv;omega
  ·obtain⟨E,rfl⟩:=h.ap
   have:=h.bd (L[k]) (by simp)
   omega
theorem BIn.out {M:List (List Int)} {t:Int} {n:Nat} {L:List Int} {k i:Nat} {N:List Int} (hI:BInv M t n L k) (hk:k<L.length) (h:BIn M t n L k (L[k]) i N) (hi:¬i<(gLs M (L[k]).toNat).length):BInv M t n N (k+1):=by
 obtain⟨E,rfl⟩:=h.ap
 refine⟨h.nd,h.lt,by simp [hI.hd],h.rc,h.so,fun j hj hjk w hw=> ?_,fun hk1 v hv=> ?_,h.bd⟩
 ·have hjL:j<L.length:=by omega
  rw[List.getElem_append_left hjL]at hw
  by_cases e:j=k
  ·subst e
   refine h.got w ?_
   rw[List.take_of_length_le (by omega)];exact hw
  ·rw[List.mem_append];exact .inl (hI.cl j hjL (by omega) w hw)
 ·have h1:=h.ne v hv
  have h2:=List.pairwise_iff_getElem.1 h.so k (k+1) (by omega) hk1 (by omega)
  rw[List.getElem_append_left hk]at h2
  omega
theorem BInv.fin {M:List (List Int)} {t:Int} {n:Nat} {L:List Int} {k:Nat} (h:BInv M t n L k) (hk:¬k<L.length):∀ (m:Nat) (v:Int),GP M m t v→v∈L:=by
  intro m
  induction m with
  | zero=>intro v hv;cases hv;exact h.hd
  | succ m ih=>
    intro w hw
    cases hw with
    | snoc _ _ p _ hp hwp=>
      obtain⟨j,hj,rfl⟩:=List.getElem_of_mem (ih p hp)
      exact h.cl j hj (by omega) w hwp
noncomputable def dsM (M:List (List Int)) (t:Int) (n:Nat):List Int:=(List.range n).map (fun v=>dsD M t ((v:Nat):Int))
theorem kT (M:List (List Int)) (t:Int) (n:Nat):(dsM M t n).length=n:=by unfold dsM;simp
theorem zb {M:List (List Int)} {t:Int} {n v:Nat} (hv:v<n):gI (dsM M t n) v=dsD M t v:=by
 rw[dh (by rw[kT];exact hv)];unfold dsM;simp
theorem Jt {M:List (List Int)} {t:Int} {n:Nat} {L:List Int} {k:Nat} (h:BInv M t n L k) (hk:¬k<L.length):dL M t n L=dsM M t n:=by
 unfold dL dsM
 refine List.map_congr_left fun v _=> ?_
 split
 ·rfl
 ·rename_i hv
  exact(yV fun m hm=>hv (h.fin hk m _ hm)).symm
theorem Ju {M:List (List Int)} {t:Int} {n:Nat} {L:List Int} (hrc:∀ u∈L,0≤dsD M t u) {w:Int} (hw:0≤w∧w<(n:Int)):gI (dL M t n L) w.toNat<0↔w∉L:=by
 rw[IW (by omega),show((w.toNat:Nat):Int)=w by omega]
 by_cases h:w∈L
 ·rw[if_pos h];have:=hrc w h
  constructor
  ·intro h2;omega
  ·intro h2;exact absurd h h2
 ·rw[if_neg h];simp [h]
theorem Jq {M:List (List Int)} {t:Int} {n:Nat} (hR:ge M n) (ht:0≤t∧t<(n:Int)):∃ L k,BInv M t n L k∧¬k<L.length:=by
  have round:∀ (L:List Int) k (h:BInv M t n L k) (hk:k<L.length),∃ N,BInv M t n N (k+1):=by
    intro L k h hk
    have key:∀ i,i≤(gLs M (L[k]).toNat).length→∃ N,BIn M t n L k (L[k]) i N:=by
      intro i
      induction i with
      | zero=>intro _;exact⟨L,h.into hk⟩
      | succ i ih=>
        intro hi
        obtain⟨N,hN⟩:=ih (by omega)
        by_cases hm:gI (gLs M (L[k]).toNat) i∈N
        · exact⟨N,hN.skip (by omega) hm⟩
        · exact⟨_,(hN.go h hk hR (by omega) hm).1⟩
    obtain⟨N,hN⟩:=key _ (Nat.le_refl _)
    exact⟨N,hN.out h hk (Nat.lt_irrefl _)⟩
  have all:∀ m (L:List Int) k,BInv M t n L k→n≤k+m→∃ L k,BInv M t n L k∧¬k<L.length:=by
    intro m
    induction m with
    | zero=>intro L k h hn;exact⟨L,k,h,by have:=h.len;omega⟩
    | succ m ih=>
      intro L k h hn
      by_cases hk:k<L.length
      · obtain⟨N,hN⟩:=round L k h hk
        exact ih N (k+1) hN (by omega)
      · exact⟨L,k,h,hk⟩
  exact all n _ 0 (BInv.init ht) (by omega)
theorem vV {M:List (List Int)} {t:Int} {n:Nat} (hR:ge M n) (ht:0≤t∧t<(n:Int)) (v:Int):dsD M t v<(n:Int):=by
 obtain⟨L,k,h,hk⟩:=Jq hR ht
 by_cases hv:v∈L
 ·have:=h.bd v hv;have:=h.len;omega
 ·have:=yV (M:=M) (t:=t) (v:=v) (fun m hm=>hv (h.fin hk m _ hm));omega
theorem zX {P:List Dom} {c:Cel} (hc:cS P c.x c.y=true):∃ x y:Nat,c=⟨x,y⟩:=by
 have:=jF hc
 obtain⟨a,b⟩:=c
 dsimp only at this
 exact⟨a.toNat,b.toNat,by rw[show((a.toNat:Nat):Int)=a by omega,show((b.toNat:Nat):Int)=b by omega]⟩
inductive FW:Nat→List Dom→List Dom→Prop
 | nil (P:List Dom):FW 0 P P
 | step (n:Nat) (P Q:List Dom) (c:Cel) (hc:cS P c.x c.y=true) (h:FW n (aR P c) Q):FW (n+1) P Q
theorem FW.snoc {n:Nat} {P Q:List Dom} (h:FW n P Q) {c:Cel} (hc:cS Q c.x c.y=true):FW (n+1) P (aR Q c):=by
 induction h with
 | nil P=>exact .step _ _ _ c hc (.nil _)
 | step n P Q d hd _ ih=>exact .step _ _ _ d hd (ih hc)
theorem FW.back {s n:Nat} {P Q:List Dom} (h:FW n P Q):TilS s P→FW n Q P:=by
  induction h with
  | nil P=>exact fun _=> .nil _
  | step n P Q d hd hr ih=>
    intro hP
    have:=ih (gJ hP hd)
    obtain⟨b1,b2⟩:=mI hP hd
    have h3:=FW.snoc this b1
    rw[b2]at h3;exact h3
theorem oL {P:List Dom} {c:Cel} (h:cS P c.x c.y=true):c∈aM P:=by
 obtain⟨x,y,rfl⟩:=zX h
 have hb:=jF h
 dsimp only at hb h
 unfold aM flN
 refine List.mem_map.2 ⟨y*8+x,List.mem_filter.2 ⟨by rw[List.mem_range];omega,?_⟩,?_⟩
 ·have e:gi (y*8+x)=(⟨x,y⟩:Cel):=by unfold gi;simp only[Cel.mk.injEq];omega
  unfold canN;rw[e];exact h
 ·unfold gi;simp only[Cel.mk.injEq];omega
theorem tB {s:Nat} {a:List (List Dom)} (hA:FlipA s a) {P:List Dom} (hP:P∈a):gLs (lkM a) (ixT a P).toNat=nbI a P:=by
 obtain⟨h1,h2⟩:=jV (cC hP)
 rw[wl h1,h2,zi hA hP]
theorem gp_of {s:Nat} {a:List (List Dom)} (hA:FlipA s a) {n:Nat} {P Q:List Dom} (h:FW n P Q):P∈a→GP (lkM a) n (ixT a P) (ixT a Q)∧Q∈a:=by
  have key:∀ {m n:Nat} {A P Q:List Dom},FW n P Q→P∈a→GP (lkM a) m (ixT a A) (ixT a P)→GP (lkM a) (n+m) (ixT a A) (ixT a Q)∧Q∈a:=by
    intro m n A P Q h
    induction h generalizing m with
    | nil P=>intro hP hg;exact⟨by rw[Nat.zero_add];exact hg,hP⟩
    | step n P Q c hc _ ih=>
      intro hP hg
      have hR:=hA.flip hP (oL hc)
      have:=ih hR (GP.snoc m _ _ (ixT a (aR P c)) hg (by rw[tB hA hP];exact List.mem_map.2 ⟨c,oL hc,rfl⟩))
      rw[show n+1+m=n+(m+1) by omega];exact this
  intro hP
  exact key h hP (.nil _)
theorem oT {a:List (List Dom)} {P Q:List Dom} (hP:P∈a) (hQ:Q∈a) (h:ixT a P=ixT a Q):P=Q:=by
 rw[←(jV (cC hP)).2,←(jV (cC hQ)).2,h]
theorem fw_of {s:Nat} {a:List (List Dom)} (hA:FlipA s a) {n:Nat} {i j:Int} (h:GP (lkM a) n i j):∀ P,P∈a→i=ixT a P→∃ Q,Q∈a∧j=ixT a Q∧FW n P Q:=by
  induction h with
  | nil u=>intro P hP e;exact⟨P,hP,e,.nil _⟩
  | snoc n u v w _ hw ih=>
    intro P hP e
    obtain⟨Q,hQ,eQ,hF⟩:=ih P hP e
    rw[eQ,tB hA hQ]at hw
    obtain⟨c,hc,rfl⟩:=List.mem_map.1 hw
    exact⟨_,hA.flip hQ hc,rfl,hF.snoc (iR hc)⟩
theorem it {s:Nat} {a:List (List Dom)} (hA:FlipA s a) {n:Nat} {P Q:List Dom} (hP:P∈a) (hQ:Q∈a):GP (lkM a) n (ixT a P) (ixT a Q)↔FW n P Q:=by
 constructor
 ·intro h
  obtain⟨R,hR,e,hF⟩:=fw_of hA h P hP rfl
  rw[oT hQ hR e];exact hF
 ·intro h;exact(gp_of hA h hP).1
theorem DK {s:Nat} {a:List (List Dom)} (hA:FlipA s a) {P Q:List Dom} (hP:P∈a) (hQ:Q∈a) {d:Int} (h:(∃ n:Nat,d=n∧FW n P Q∧∀ m,FW m P Q→n≤m)∨(d= -1∧∀ n,¬FW n P Q)):dsD (lkM a) (ixT a P) (ixT a Q)=d:=by
 rcases h with⟨n,rfl,h1,h2⟩ |⟨rfl,h1⟩
 ·rcases qe (lkM a) (ixT a P) (ixT a Q)with⟨m,e,h3,h4⟩ |⟨e,h3⟩
  ·have:=h2 m ((it hA hP hQ).1 h3)
   have:=h4 n ((it hA hP hQ).2 h1)
   omega
  ·exact absurd ((it hA hP hQ).2 h1) (h3 n)
 ·exact yV fun n hn=>h1 n ((it hA hP hQ).1 hn)
theorem xo {s:Nat} {a:List (List Dom)} (hA:FlipA s a) {P Q:List Dom} (hP:P∈a) (hQ:Q∈a):dsD (lkM a) (ixT a P) (ixT a Q)=dsD (lkM a) (ixT a Q) (ixT a P):=by
 refine DK hA hP hQ ?_
 rcases qe (lkM a) (ixT a Q) (ixT a P)with⟨m,e,h3,h4⟩ |⟨e,h3⟩
 ·exact .inl ⟨m,e,((it hA hQ hP).1 h3).back (hA.ti Q hQ),fun k hk=>h4 k ((it hA hQ hP).2 (hk.back (hA.ti P hP)))⟩
 ·exact .inr ⟨e,fun k hk=>h3 k ((it hA hQ hP).2 (hk.back (hA.ti P hP)))⟩
theorem ls {s:Nat} {a:List (List Dom)} (hA:FlipA s a):ge (lkM a) a.length:=by
 intro k hk w hw
 have hP:gLd a k∈a:=by rw[cI hk];exact List.getElem_mem hk
 rw[wl hk,zi hA hP]at hw
 obtain⟨c,hc,rfl⟩:=List.mem_map.1 hw
 have:=cC (hA.flip hP hc)
 have:=(gp a (aR (gLd a k) c)).1
 omega
noncomputable def fdR (l:List Int) (p q:List Dom):Int:=if ixT (ltR l) p<0∨ixT (ltR l) q<0 then -1 else dsD (lkM (ltR l)) (ixT (ltR l) q) (ixT (ltR l) p)
theorem nN {l:List Int} {p q:List Dom} (h:ixT (ltR l) p<0∨ixT (ltR l) q<0):fdR l p q= -1:=by unfold fdR;rw[if_pos h]
theorem fI {l:List Int} {p q:List Dom} (h1:¬ixT (ltR l) p<0) (h2:¬ixT (ltR l) q<0):fdR l p q=dsD (lkM (ltR l)) (ixT (ltR l) q) (ixT (ltR l) p):=by unfold fdR;rw[if_neg (by omega)]
theorem JO {L E:List Int} {k:Nat} (hk:k<L.length):gI (L++E) k=gI L k:=by
 rw[dh (by rw[List.length_append];omega),dh hk,List.getElem_append_left hk]
structure BRd (M:List (List Int)) (t:Int) (n:Nat) (L:List Int) (k i:Nat) (N:List Int):Prop where
 b:∀ hk:k<L.length,BIn M t n L k (L[k]) i N
theorem BRd.into {M:List (List Int)} {t:Int} {n:Nat} {L:List Int} {k:Nat} (h:BInv M t n L k) (_hk:k<L.length):BRd M t n L k 0 L:=⟨fun hk=>h.into hk⟩
theorem BInv.at {M:List (List Int)} {t:Int} {n:Nat} {L:List Int} {k:Nat} (h:BInv M t n L k) (hk:k<L.length):(0≤gI L k∧gI L k<(n:Int))∧(0≤dsD M t (gI L k)∧dsD M t (gI L k)<(n:Int)):=by
 rw[dh hk]
 have h1:=h.bd _ (List.getElem_mem hk)
 have h2:=h.len
 exact⟨h.lt _ (List.getElem_mem hk),h.rc _ (List.getElem_mem hk),by omega⟩
theorem BRd.fact {M:List (List Int)} {t:Int} {n:Nat} {L:List Int} {k i:Nat} {N:List Int} (hI:BInv M t n L k) (hk:k<L.length) (h:BRd M t n L k i N):gI N k=gI L k∧k<N.length∧N.length≤n∧gI (dL M t n N) (gI L k).toNat=dsD M t (gI L k):=by
 obtain⟨E,hE⟩:=(h.b hk).ap
 have hu:=(hI.at hk).1
 refine⟨by rw[hE,JO hk],by rw[hE,List.length_append];omega,(h.b hk).len,?_⟩
 rw[IW (by omega),show(((gI L k).toNat:Nat):Int)=gI L k by omega,if_pos]
 rw[hE,List.mem_append];left;rw[dh hk];exact List.getElem_mem hk
theorem BRd.skip {M:List (List Int)} {t:Int} {n:Nat} {L:List Int} {k i:Nat} {N:List Int} (h:BRd M t n L k i N) (hk:k<L.length) (hi:i<(gLs M (gI L k).toNat).length) (hm:gI (gLs M (gI L k).toNat) i∈N):BRd M t n L k (i+1) N:=by
 rw[dh hk]at hi hm
 exact⟨fun _=>(h.b hk).skip hi hm⟩
theorem BRd.w {M:List (List Int)} {n:Nat} {L:List Int} {k i:Nat} (hR:ge M n) (hu:0≤gI L k∧gI L k<(n:Int)) (hi:i<(gLs M (gI L k).toNat).length):0≤gI (gLs M (gI L k).toNat) i∧gI (gLs M (gI L k).toNat) i<(n:Int):=
 hR (gI L k).toNat (by omega) _ (by rw[dh hi];exact List.getElem_mem hi)
theorem BRd.neg {M:List (List Int)} {t:Int} {n:Nat} {L:List Int} {k i:Nat} {N:List Int} (h:BRd M t n L k i N) (hk:k<L.length) {w:Int} (hw:0≤w∧w<(n:Int)):gI (dL M t n N) w.toNat<0↔w∉N:=Ju (h.b hk).rc hw
theorem BRd.go {M:List (List Int)} {t:Int} {n:Nat} {L:List Int} {k i:Nat} {N:List Int} (hI:BInv M t n L k) (hk:k<L.length) (hR:ge M n) (h:BRd M t n L k i N) (hi:i<(gLs M (gI L k).toNat).length) (hm:gI (gLs M (gI L k).toNat) i∉N):
  BRd M t n L k (i+1) (N++[gI (gLs M (gI L k).toNat) i])∧dL M t n (N++[gI (gLs M (gI L k).toNat) i])=(dL M t n N).set (gI (gLs M (gI L k).toNat) i).toNat (gI (dL M t n N) (gI L k).toNat+1):=by
 have hf:=(h.fact hI hk).2.2.2
 have hw:=BRd.w hR (hI.at hk).1 hi
 rw[hf]
 have e:=dh hk
 generalize hx:gI L k=x at*
 subst hx
 rw[e]at hi hm hw⊢
 obtain⟨h1,h2,h3⟩:=BIn.go hI hk hR (h.b hk) hi hm
 refine⟨⟨fun _=>h1⟩,?_⟩
 have:=Dz (M:=M) (t:=t) (n:=n) (L:=N) (v:=(gI (gLs M (L[k]).toNat) i).toNat) (by omega)
 rw[show(((gI (gLs M (L[k]).toNat) i).toNat:Nat):Int)=gI (gLs M (L[k]).toNat) i by omega]at this
 rw[this,h2]
theorem BRd.out {M:List (List Int)} {t:Int} {n:Nat} {L:List Int} {k i:Nat} {N:List Int} (hI:BInv M t n L k) (hk:k<L.length) (h:BRd M t n L k i N) (hi:¬i<(gLs M (gI L k).toNat).length):BInv M t n N (k+1):=by
 rw[dh hk]at hi
 exact(h.b hk).out hI hk hi
theorem JP {M:List (List Int)} {t:Int} {n:Nat} {w:Int} (h0:0≤w) (h:w<(n:Int)):gI (dsM M t n) w.toNat=dsD M t w:=by
 rw[zb (by omega),show((w.toNat:Nat):Int)=w by omega]
def rpl (n k:Nat):List Int:=List.replicate k (-1)++List.replicate (n-k) 0
theorem FA {M:List (List Int)} {t:Int} {n k:Nat} (ht:0≤t∧t<(n:Int)) (hk:k=n):(rpl n k).set t.toNat 0=dL M t n [t]:=by
 subst hk
 have:=Dz (M:=M) (t:=t) (n:=k) (L:=[]) (v:=t.toNat) (by omega)
 rw[show((t.toNat:Nat):Int)=t by omega,List.nil_append,Jv,jk]at this
 rw[this];simp [rpl]
theorem Cj:(Tryz.prog.info? 31).map (·.size)=some 1:=by kernel_rfl
theorem Ck:TI Tryz.prog 29 true 1:=⟨⟨_,Tryz.underlying29,rfl⟩,by kernel_rfl⟩
theorem Cm:TI Tryz.prog 31 false 1:=⟨⟨_,Tryz.underlying31,rfl⟩,by kernel_rfl⟩
theorem vj:Tryz.prog.underlying 58=some (.slice 31):=Tryz.underlying58
theorem ek (l:List Int) (q:List Dom) (hl:l.length≤4194304) (hq:q.length≤4194304):FnO Tryz.prog 30 [.agg [(.sl 800 0 l.length:A)],.a (.slv q.length 3 (dsl q))] [(.o 800,some (.o ⟨3,1,true,pl (isl l)⟩))] (V.v (.int .i64 (ixT (ltR l) q))) [(.o 800,some (.o ⟨3,1,true,pl (isl l)⟩))] [800]:=by
 have hll:=ld l
 have hlr:∀ k,k<(ltR l).length→(gLd (ltR l) k).length≤4194304:=fun k hk=>Nat.le_trans (lf hk) (by decide)
 refine bW (N:=22) Tryz.func30 rfl (by kernel_rfl) rfl (Nat.le_of_ble_eq_true rfl) rfl rfl (by kernel_rfl) (by kernel_rfl) ⟨bh (fun _=>rfl),trivial⟩ [2,8,11,20] (ip rfl) (fun W own kp im0=> ?_)
 show Wp _ _ _ [kV 0 (V.b (.agg [(.sl 800 0 l.length:A)])),kV 1 (V.b (.a (.slv q.length 3 (dsl q)))),kO 800 3 1 true (pl (isl l)),kF 2,kF 8,kF 11,kF 20]
 refine sq (rg ?_)
 refine z ?_ (h:=fun Z=>bo (h:=2) Z xt (by exact ob1 rfl))
 refine zk (nl (sq (rg ?_)))
 refine z ?_ (h:=fun Z=>ab (xs:=[(.sl 800 0 l.length:A)]) Z Ck rfl (by decide) rfl)
 refine z ?_ (h:=fun Z=>aK (d:=8) (f:=34) (os:=[(.o 800,some (.o ⟨3,1,true,pl (isl l)⟩))]) (os':=[(.o 800,some (.o ⟨3,1,true,pl (isl l)⟩))]) (r:=V.b (.a (.slvv 3 (vwD (ltR l))))) (bs:=[.agg [(.sl 800 0 l.length:A)]]) (keep:=[800]) (new:=[]) (dead:=[]) Z ((iC l (by first |omega |assumption |exact hlr _ (by omega)))) (by kernel_rfl) ⟨bh (fun _=>rfl),trivial⟩ (by kernel_rfl) (ArgOs.cons (ArgO.slot 7 (.agg [(.sl 800 0 l.length:A)])) (ArgOs.nil)))
 refine za (nl (sq (sq (rg (zk (nl (bkk ?_)))))))
 refine bg (fun(k:Nat)=>k≤(ltR l).length∧∀ i,i<k→gLd (ltR l) i≠q) (fun(k:Nat)=>[kV 1 (V.b (.a (.slv q.length 3 (dsl q)))),kV 5 (V.b (.a (.slvv 3 (vwD (ltR l))))),kI 6 ((k:Nat):Int),kO 800 3 1 true (pl (isl l)),kF 2,kF 8,kF 11,kF 20]) (fun(k:Nat)=>(ltR l).length-k) ((0:Nat)) (by exact⟨Nat.zero_le _,fun i hi=>absurd hi (Nat.not_lt_zero i)⟩) (wkf id (wS<|wS<|wE (e:=(be (by first |rfl |omega |(simp;done) |(simp;omega))))<|wP<|wF<|wF<|wF<|wF<|wN)) ?_
 rintro k inv1
 replace inv1:k≤(ltR l).length∧∀ i,i<k→gLd (ltR l) i≠q:=inv1
 obtain⟨inv1_0,inv1_1⟩:=inv1
 refine sq (sq (rg (zm (zm ?_))))
 refine z ?_ (h:=fun Z=>lnD Z vj)
 refine z ?_ (h:=fun Z=>aa Z vt vt (bA rfl))
 refine nl ?_
 refine wi (fun c2=> ?_) (fun c2=> ?_)
 ·skip
  have c2P:=of_decide_eq_true c2
  refine sk (sq (bkk (sq (rg (zm (zm ?_))))))
  refine z ?_ (h:=fun Z=>xvv Z vj Cj vt (hlt:=(by simp only[ic,fu];first |omega |assumption |exact hlr _ (by omega))))
  refine z ?_ (h:=fun Z=>lvD Z Cm (by first |omega |assumption |exact hlr _ (by omega)))
  refine zm ?_
  refine z ?_ (h:=fun Z=>ag Z (fd (gLd (ltR l) k) q (by first |omega |assumption |exact hlr _ (by omega)) (by first |omega |assumption |exact hlr _ (by omega))) (ac (ArgV.slv _ _ _ _) (ac (ArgV.slv _ _ _ _) an)) rv)
  refine nl ?_
  refine wi (b:=(decide ((gLd (ltR l) k)=q))) (fun c3=> ?_) (fun c3=> ?_)
  ·skip
   refine sq (rg (zm (za (nl (aC ?_)))))
   exact⟨_,dt,⟨by kernel_rfl,trivial⟩,dC 4 (.a (.val (.int .i64 ((k:Nat):Int)))) (.a (.val (.int .i64 (ixT (ltR l) q)))) (by kernel_rfl) (congrArg (fun z:Int=>B.a (.val (.int .i64 z))) (by exact wk (k:=k) (by omega) (by assumption) (by first |assumption |exact of_decide_eq_true (by assumption))))⟩
  ·skip
   refine sk (rg (zm ?_))
   refine z ?_ (h:=fun Z=>aa Z vt vc (rA (by first |omega |assumption |exact hlr _ (by omega)) (by first |omega |assumption |exact hlr _ (by omega))))
   refine za (nl ?_)
   exact aA ((k+1)) (by exact⟨by omega,ne_s (by assumption) (by first |assumption |exact of_decide_eq_false (by assumption))⟩) (by show(ltR l).length-(k+1)<(ltR l).length-k;omega) (wkf id (wS<|wS<|wE (e:=(be (by first |rfl |omega |(simp;done) |(simp;omega))))<|wP<|wF<|wF<|wF<|wF<|wN))
 ·skip
  have c2P:=of_decide_eq_false c2
  refine aU (sq (rg (zk (nl (aC ?_)))))
  exact⟨_,dt,⟨by kernel_rfl,trivial⟩,dC 4 (.a (.val (.int .i64 (-1)))) (.a (.val (.int .i64 (ixT (ltR l) q)))) (by kernel_rfl) (congrArg (fun z:Int=>B.a (.val (.int .i64 z))) (by exact Ep (k:=k) (by omega) (by assumption)))⟩
def mpD (L:List (List Dom)):Nat→DataW Unit
 | 0=> .map []
 | k+1=>(mpD L k).put (.string (tT (L.getD k []))) (.lit (.int .i64 k))
theorem uP (L:List (List Dom)):∀ k,Maps.IsMap (mpD L k)
  | 0=>Maps.isMap_empty
  | k+1=>by
    obtain⟨es,h⟩:=uP L k
    exact⟨_,by rw[mpD,h];rfl⟩
theorem Ey {L:List (List Dom)} (hn:L.Nodup) (hb:∀ l∈L,∀ d∈l,dBd d) {i:Nat} (z:DataW Unit):∀ k,i<k→k≤L.length→(mpD L k).atKey (.string (tT (L.getD i []))) z= .lit (.int .i64 i)
  | 0,h,_=>absurd h (Nat.not_lt_zero _)
  | k+1,h,hk=>by
    rw[mpD]
    by_cases e:i=k
    · subst e
      exact Maps.atKey_put_same (uP L i) (by simp [WideAt.IsKeyLit]) _ _
    · rw[Maps.atKey_put_other,Ey hn hb z k (by omega) (by omega)]
      intro e2
      injection e2 with e2
      have h1:i<L.length:=by omega
      have h2:k<L.length:=by omega
      rw[List.getD_eq_getElem?_getD,List.getD_eq_getElem?_getD,List.getElem?_eq_getElem h1,List.getElem?_eq_getElem h2,Option.getD_some,Option.getD_some]at e2
      have:=FK (hb _ (List.getElem_mem h1)) (hb _ (List.getElem_mem h2)) e2
      exact e ((List.getElem_inj hn).1 this)
def nrM (a:List (List Dom)):List (List Int):=a.map fun P=>srt (nbI a P)
theorem iH (a:List (List Dom)):(nrM a).length=a.length:=by simp [nrM]
theorem AB {a:List (List Dom)} {k:Nat} (h:k<a.length):gLs (nrM a) k=srt (nbI a (gLd a k)):=by
 rw[zc (by rw[iH];exact h),cI h];simp [nrM]
def nrT (a:List (List Dom)) (k:Nat):List (List Int):=(a.take k).map fun P=>srt (nbI a P)
theorem sS {a:List (List Dom)} {k:Nat} (h:k<a.length):nrT a k++[srt (nbI a (gLd a k))]=nrT a (k+1):=by
 unfold nrT;rw[List.take_succ_eq_append_getElem h,List.map_append,cI h];rfl
theorem Hv {a:List (List Dom)} {k:Nat} (h:¬k<a.length):nrT a k=nrM a:=by unfold nrT nrM;rw[List.take_of_length_le (by omega)]
theorem Hw {a:List (List Dom)} {k:Nat} (h:k≤a.length):(nrT a k).length=k:=by unfold nrT;rw[List.length_map,List.length_take];omega
theorem Aq {M:List (List Int)} {k:Nat} (h:M.length≤k):gLs M k=[]:=by unfold gLs;simp [List.getD_eq_getElem?_getD,List.getElem?_eq_none h]
theorem zn {s:Nat} {a:List (List Dom)} (hA:FlipA s a) (k:Nat) (w:Int):w∈gLs (nrM a) k↔w∈gLs (lkM a) k:=by
 by_cases h:k<a.length
 ·have hP:gLd a k∈a:=by rw[cI h];exact List.getElem_mem h
  rw[AB h,wl h,zi hA hP]
  exact(my _).mem_iff
 ·rw[Aq (by rw[iH];omega),Aq (by rw[oV];omega)]
theorem GP.congr {M N:List (List Int)} (h:∀ k w,w∈gLs M k→w∈gLs N k) {n:Nat} {t v:Int} (hp:GP M n t v):GP N n t v:=by
 induction hp with
 | nil u=>exact .nil u
 | snoc n u v w _ hw ih=>exact .snoc n u v w ih (h _ _ hw)
theorem uw {M N:List (List Int)} (h:∀ k w,w∈gLs M k↔w∈gLs N k) (t v:Int):dsD M t v=dsD N t v:=by
 have e:IsD M t v=IsD N t v:=by
  funext d
  have:∀ n,GP M n t v↔GP N n t v:=fun n=>⟨GP.congr fun k w=>(h k w).1,GP.congr fun k w=>(h k w).2⟩
  unfold IsD;simp only[this]
 unfold dsD;rw[e]
theorem yW {s:Nat} {a:List (List Dom)} (hA:FlipA s a) (t v:Int):dsD (nrM a) t v=dsD (lkM a) t v:=uw (zn hA) t v
theorem EF {s:Nat} {a:List (List Dom)} (hA:FlipA s a):ge (nrM a) (nrM a).length:=by
 rw[iH]
 intro k hk w hw
 exact ls hA k hk w ((zn hA k w).1 hw)
theorem sU {a:List (List Dom)} {k:Nat} (hk:k<(nrM a).length):(gLs (nrM a) k).length≤64:=by
 rw[iH]at hk
 rw[AB hk,(my _).length_eq,gq]
 exact iT _
theorem fd_nr {l:List Int} {p q:List Dom} (h1:¬ixT (ltR l) p<0) (h2:¬ixT (ltR l) q<0):dsD (nrM (ltR l)) (ixT (ltR l) p) (ixT (ltR l) q)=fdR l p q:=by
 have hA:=FlipA.of l
 have m1:=(uK (l:=l) (q:=p) h1).1
 have m2:=(uK (l:=l) (q:=q) h2).1
 rw[fI h1 h2,yW hA,xo hA m1 m2]
theorem Ka {s:Nat} {a:List (List Dom)} (hA:FlipA s a) {P:List Dom} (hP:P∈a) (z:DataW Unit):(mpD a a.length).atKey (.string (tT P)) z= .lit (.int .i64 (ixT a P)):=by
 have h1:=cC hP
 obtain⟨h2,h3⟩:=jV (a:=a) (q:=P) h1
 have h4:=Ey hA.nd (fun l hl d hd=>Hy ((hA.ti l hl).ok d hd)) (i:=(ixT a P).toNat) z a.length h2 (Nat.le_refl _)
 have h5:a.getD (ixT a P).toNat []=P:=h3
 rw[h5]at h4
 rw[h4,show(((ixT a P).toNat:Nat):Int)=ixT a P by omega]
theorem rN {a:List (List Dom)} (hr:∀ k,k<a.length→(gLd a k).length≤64) {P:List Dom} (hP:P∈a):P.length≤64:=by
 obtain⟨k,hk,rfl⟩:=List.getElem_of_mem hP
 have:=hr k hk;rwa [cI hk]at this
theorem pK {l:List Dom} (h:l.length≤64):(tT l).length≤maxLen:=by have:=zL l;unfold maxLen;omega
def nrK (a:List (List Dom)) (P:List Dom) (i:Nat):List Int:=srt ((nbI a P).take i)
theorem xP (a:List (List Dom)) (P:List Dom):nrK a P 0=[]:=by simp [nrK,srt]
theorem EE {a:List (List Dom)} {P:List Dom} {i:Nat} (h:i<(aM P).length):ik (nrK a P i) (ixT a (aR P (gC (aM P) i)))=nrK a P (i+1):=by
 have:=yD (nbI a P) i (by rw[gq];omega)
 rw[zl h]at this;exact this.symm
theorem Ht {a:List (List Dom)} {P:List Dom} {i:Nat} (h:¬i<(aM P).length):nrK a P i=srt (nbI a P):=by
 unfold nrK;rw[List.take_of_length_le (by rw[gq];omega)]
theorem Hu {a:List (List Dom)} {P:List Dom} {i:Nat} (h:i≤(aM P).length):(nrK a P i).length=i:=by
 unfold nrK;rw[wJ,List.length_take,gq];omega
theorem vq:(Tryz.prog.info? 31).map (·.size)=some 1:=by kernel_rfl
theorem Cs:(Tryz.prog.info? 70).map (·.size)=some 2:=by kernel_rfl
theorem vr:TI Tryz.prog 31 false 1:=⟨⟨_,Tryz.underlying31,rfl⟩,by kernel_rfl⟩
theorem qv:TI Tryz.prog 70 true 2:=⟨⟨_,Tryz.underlying70,rfl⟩,by kernel_rfl⟩
theorem Ct:Tryz.prog.underlying 22=some (.slice 3):=Tryz.underlying22
theorem ym:Tryz.prog.underlying 3=some (.int .i64):=Tryz.underlying3
theorem vu:Tryz.prog.underlying 36=some (.slice 70):=Tryz.underlying36
theorem qw:Tryz.prog.underlying 56=some (.slice 22):=Tryz.underlying56
theorem nj:Tryz.prog.underlying 58=some (.slice 31):=Tryz.underlying58
theorem vv:Tryz.prog.underlying 86=some (.map 9 3):=Tryz.underlying86
theorem po:Tryz.prog.underlying 9=some .string:=Tryz.underlying9
theorem qA:ZI Tryz.prog 22 (.slice none 0 0) 1 24:=by unfold ZI;kernel_rfl
theorem yn:ZI Tryz.prog 3 (.int .i64 0) 1 8:=by unfold ZI;kernel_rfl
theorem Cv:ZI Tryz.prog 70 (.agg #[.int .i64 0,.int .i64 0]) 2 16:=by unfold ZI;kernel_rfl
theorem eL (a:List (List Dom)) (s:Nat) (hA:FlipA s a) (ha:a.length≤300) (hr:∀ k,k<a.length→(gLd a k).length≤64):FnO Tryz.prog 40 [.a (.slvv 3 (vwD a))] [] (V.b (.a (.slvv 1 (vwI (nrM a))))) [] []:=by
 refine bW (N:=61) Tryz.func40 rfl (by kernel_rfl) rfl (Nat.le_of_ble_eq_true rfl) rfl rfl (by kernel_rfl) (by kernel_rfl) trivial [11,16,24,27,29,34,36,37,45,51,53,57,58,61,62,63,64] (ip rfl) (fun W own kp im0=> ?_)
 show Wp _ _ _ [kV 0 (V.b (.a (.slvv 3 (vwD a)))),kF 11,kF 16,kF 24,kF 27,kF 29,kF 34,kF 36,kF 37,kF 45,kF 51,kF 53,kF 57,kF 58,kF 61,kF 62,kF 63,kF 64]
 refine sq (rg (zk (nl ?_)))
 refine IJ (H:=Unit) (k:=9) (e:=3) (ltN rfl) (fun Bm w0 hM hown=> ?_)
 refine⟨_,fun Q hQ=>zQ (KK hQ) (h:=fun Z=>gt Z),?_⟩
 refine qH ?_
 refine qH ?_
 refine vK hM ?_
 refine rg (zm ?_)
 refine z ?_ (h:=fun Z=>lnD Z nj)
 refine z ?_ (h:=fun Z=>mc Z)
 refine nl ?_
 refine fun hM=> ?_
 refine yG ?_
 refine IG (fun(k:Nat) (u:World)=>k≤a.length∧u.ownsMap Tryz.prog 9 (plainElem Tryz.prog 3) Bm k (mpD a k)) (fun(k:Nat)=>[kV 0 (V.b (.a (.slvv 3 (vwD a)))),kV 3 (V.v (.map (some Bm))),kV 15 (V.b (.a (.slvv 3 (vwD a)))),kI 16 ((a.length:Nat):Int),kI 17 ((k:Nat):Int),kF 11,kF 16,kF 24,kF 27,kF 29,kF 34,kF 36,kF 37,kF 45,kF 51,kF 53,kF 57,kF 58,kF 61,kF 62,kF 63,kF 64]) (fun(k:Nat)=>a.length-k) ((0:Nat)) (by exact⟨Nat.zero_le _,hown⟩) hM (wkf id (wS<|wS<|wS<|wS<|wE (e:=(be (by rfl)))<|by(iterate 17 refine wF ?_);exact wN)) ?_
 intro k w1 hM inv1
 obtain⟨hk,hown⟩:=inv1
 refine qH ?_
 refine vK hM ?_
 refine rg ?_
 refine z ?_ (h:=fun Z=>aa Z vt vt (bA rfl))
 refine nl ?_
 refine fun hM=> ?_
 refine qH ?_
 refine vK hM ?_
 refine wi (fun c2=> ?_) (fun c2=> ?_)
 ·skip
  have c2P:=of_decide_eq_true c2
  have hrk:=hr k (by omega)
  have hPk:gLd a k∈a:=by rw[cI (by omega)];exact List.getElem_mem _
  have hokk:∀ d∈gLd a k,okD d=true:=(hA.ti _ hPk).ok
  have hfl:=iT (gLd a k)
  refine sk ?_
  refine fun hM=> ?_
  refine qH ?_
  refine yG ?_
  refine qH ?_
  refine vK hM ?_
  refine rg (zm ?_)
  refine z ?_ (h:=fun Z=>xvv Z nj vq vt (hlt:=(by simp only[ic,fu];first |omega |assumption |exact hr _ (by omega) |exact Nat.le_trans (hr _ (by omega)) (by decide) |exact pK (by omega) |exact hokk |exact hokq |exact Nat.lt_of_lt_of_le (show _<300 by omega) (by decide))))
  refine z ?_ (h:=fun Z=>lvD Z vr (by omega))
  refine za (za (nl ?_))
  refine fun hM=> ?_
  refine CX ?_
  refine zM ?_ (h:=fun Z=>mt Z)
  refine zM ?_ (h:=fun Z=>mt Z)
  refine zM ?_ (h:=fun Z=>ag Z (jn (gLd a k) (by omega) (by omega)) (ac (ArgV.slv _ _ _ _) an) rv)
  refine zM ?_ (h:=fun Z=>mt Z)
  refine zT (n:=k) (c:=((k:Nat):Int)) hM (mapK po) vv ym hown (by exact Nat.lt_of_lt_of_le (show _<300 by omega) (by decide)) (keyT po (by exact pK (by omega))) (wfI (by omega) (by omega)) vt vt vt (by exact rfl) (fun w1 hM hown=> ?_)
  refine IE hM ?_
  refine fun hM=> ?_
  refine vK hM ?_
  refine rg ?_
  refine z ?_ (h:=fun Z=>aa Z vt vc (rA (by omega) (by omega)))
  refine zm (nl ?_)
  exact Exists.intro ((k+1)) (And.intro (by exact⟨by omega,hown⟩) (And.intro (by show a.length-(k+1)<a.length-k;omega) (wkf id (wS<|wS<|wS<|wS<|wE (e:=(be (by rfl)))<|by(iterate 17 refine wF ?_);exact wN))))
 ·skip
  have c2P:=of_decide_eq_false c2
  have hka:k=a.length:=by omega
  rw[hka]at hown
  refine aU ?_
  refine fun hM=> ?_
  refine vK hM ?_
  refine sq (rg ?_)
  refine z ?_ (h:=fun Z=>b0Q (h:=27) (T:=3) Z qw qA)
  refine za (nl (sq (sq (rg (zm ?_)))))
  refine z ?_ (h:=fun Z=>lnD Z nj)
  refine z ?_ (h:=fun Z=>mc Z)
  refine nl (bkk ?_)
  refine bg (fun(j:Nat)=>j≤a.length) (fun(j:Nat)=>[kV 3 (V.v (.map (some Bm))),kS 6 27 0 ((nrT a j).length),kV 28 (V.b (.a (.slvv 3 (vwD a)))),kI 29 ((a.length:Nat):Int),kI 30 ((j:Nat):Int),kO 27 22 1 true (rwI 3 (nrT a j)),kF 11,kF 16,kF 24,kF 29,kF 34,kF 36,kF 37,kF 45,kF 51,kF 53,kF 57,kF 58,kF 61,kF 62,kF 63,kF 64]) (fun(j:Nat)=>a.length-j) ((0:Nat)) (by exact(Nat.zero_le _:0≤_)) (wkf id (wS<|wE (e:=(vsl (by rfl) rfl))<|wS<|wS<|wE (e:=(be (by rfl)))<|wQI (e:=(by rfl))<|by(iterate 16 refine wF ?_);exact wN)) ?_
  rintro j inv3
  replace inv3:j≤a.length:=inv3
  have invj:=inv3
  have htl:=Hw invj
  refine sq (rg ?_)
  refine z ?_ (h:=fun Z=>aa Z vt vt (bA rfl))
  refine nl (sq ?_)
  refine wi (fun c4=> ?_) (fun c4=> ?_)
  ·skip
   have c4P:=of_decide_eq_true c4
   have hrk:=hr j (by omega)
   have hPk:gLd a j∈a:=by rw[cI (by omega)];exact List.getElem_mem _
   have hokk:∀ d∈gLd a j,okD d=true:=(hA.ti _ hPk).ok
   have hfl:=iT (gLd a j)
   refine sk (sq (bkk (sq (rg ?_))))
   refine z ?_ (h:=fun Z=>xvv Z nj vq vt (hlt:=(by simp only[ic,fu];first |omega |assumption |exact hr _ (by omega) |exact Nat.le_trans (hr _ (by omega)) (by decide) |exact pK (by omega) |exact hokk |exact hokq |exact Nat.lt_of_lt_of_le (show _<300 by omega) (by decide))))
   refine z ?_ (h:=fun Z=>lvD Z vr (by omega))
   refine za (nl (sq (rg ?_)))
   refine z ?_ (h:=fun Z=>b0I (h:=34) Z Ct yn)
   refine za (nl (sq (sq (rg (zm ?_)))))
   refine z ?_ (h:=fun Z=>ag Z (iu (gLd a j) (by omega)) (ac (ArgV.slv _ _ _ _) an) (ResV.row _ _ _ _ 36))
   refine z ?_ (h:=fun Z=>lnS Z vu)
   refine z ?_ (h:=fun Z=>mc Z)
   refine nl (bkk ?_)
   refine bg (fun(i:Nat)=>i≤(aM (gLd a j)).length) (fun(i:Nat)=>[kV 3 (V.v (.map (some Bm))),kS 6 27 0 ((nrT a j).length),kV 8 (V.b (.a (.slv ((gLd a j).length) 3 (dsl (gLd a j))))),kS 9 34 0 ((nrK a (gLd a j) i).length),kV 28 (V.b (.a (.slvv 3 (vwD a)))),kI 29 ((a.length:Nat):Int),kI 30 ((j:Nat):Int),kS 36 36 0 ((aM (gLd a j)).length),kI 37 (((aM (gLd a j)).length:Nat):Int),kI 38 ((i:Nat):Int),kO 27 22 1 true (rwI 3 (nrT a j)),kO 34 3 1 true (pl (isl (nrK a (gLd a j) i))),kO 36 70 2 true (pl (csl (aM (gLd a j)))),kF 11,kF 16,kF 24,kF 29,kF 37,kF 45,kF 51,kF 53,kF 57,kF 58,kF 61,kF 62,kF 63,kF 64]) (fun(i:Nat)=>(aM (gLd a j)).length-i) ((0:Nat)) (by exact(Nat.zero_le _:0≤_)) (wkf id (wS<|wS<|wS<|wE (e:=(vsl (by rfl) rfl))<|wS<|wS<|wS<|wS<|wS<|wE (e:=(be (by rfl)))<|wQI<|wO (e:=aJ (fun h=>h) (congrArg isl (by rfl)))<|wP<|by(iterate 14 refine wF ?_);exact wN)) ?_
   rintro i inv5
   replace inv5:i≤(aM (gLd a j)).length:=inv5
   have invi:=inv5
   have hkl:=Hu (a:=a) (P:=gLd a j) invi
   refine sq (rg ?_)
   refine z ?_ (h:=fun Z=>aa Z vt vt (bA rfl))
   refine nl (sq ?_)
   refine wi (fun c6=> ?_) (fun c6=> ?_)
   ·skip
    have c6P:=of_decide_eq_true c6
    have hQi:=hA.flip hPk (c:=gC (aM (gLd a j)) i) (by rw[gk (by omega)];exact List.getElem_mem _)
    have hokq:∀ d∈(aR (gLd a j) (gC (aM (gLd a j)) i)),okD d=true:=(hA.ti _ hQi).ok
    have hq64:=rN hr hQi
    have hsn:=EE (a:=a) (P:=(gLd a j)) (i:=i) (by omega)
    refine sk (sq (bkk (sq (rg ?_))))
    refine z ?_ (h:=fun Z=>ix0 Z vu Cs vt (hlt:=(by omega)))
    refine z ?_ (h:=fun Z=>lC Z qv (by omega))
    refine z ?_ (h:=fun Z=>aL (h:=11) (cap:=1) (s:=2) (cells:=[aI 0,aI 0]) Z Cv rfl rfl (by decide))
    refine z ?_ (h:=fun _=>aE (cells:=[aI ((gC (aM (gLd a j)) i).x),aI ((gC (aM (gLd a j)) i).y)]) qv xt (by exact rfl) (by decide) (by exact ob1 rfl) (by exact Nat.le_of_ble_eq_true rfl) (by exact rfl))
    refine nl (sq (rg (zm ?_)))
    refine z ?_ (h:=fun Z=>ab (xs:=[vI ((gC (aM (gLd a j)) i).x),vI ((gC (aM (gLd a j)) i).y)].map A.val) Z qv rfl (by decide) rfl)
    refine z ?_ (h:=fun Z=>cH Z (jm (gLd a j) (gC (aM (gLd a j)) i) (by omega)) (ac (ArgV.slv _ _ _ _) (ac (ArgV.va va) an)) (ResV.row _ _ _ _ 45) rv)
    refine zm ?_
    refine z ?_ (h:=fun Z=>ba Z (by exact rfl))
    refine z ?_ (h:=fun Z=>ba Z (by exact rfl))
    refine za (za (nl (rg (zm (zm (zm ?_))))))
    refine z ?_ (h:=fun Z=>ag Z (jn (aR (gLd a j) (gC (aM (gLd a j)) i)) (by omega) (by omega)) (ac (ci (by exact cc _)) an) rv)
    refine z ?_ (h:=fun Z=>wY (c:=(ixT a (aR (gLd a j) (gC (aM (gLd a j)) i)))) hM Z (mapK po) vv ym (zvI yn) hown vt vt (keyT po (by exact pK (by omega))) (Ka hA hQi _))
    refine z ?_ (h:=fun Z=>ag Z (qR (nrK a (gLd a j) i) (ixT a (aR (gLd a j) (gC (aM (gLd a j)) i))) (by omega)) (ac (ci (by exact dl _)) (ac (ArgV.v vt) an)) (ResV.row _ _ _ _ 53))
    refine za (nl (rg ?_))
    refine z ?_ (h:=fun Z=>aa Z vt vc (rA (by omega) (by omega)))
    refine zm (nl ?_)
    exact aA ((i+1)) (by show _≤_;omega) (by show(aM (gLd a j)).length-(i+1)<(aM (gLd a j)).length-i;omega) (wkf (aX [(34,53)]) (wS<|wS<|wS<|wE (e:=(vsl (by(exact congrArg List.length (by first |rfl |omega |exact hsn |exact hsn.symm |exact xP _ _ |exact(xP _ _).symm))) rfl))<|wS<|wS<|wS<|wS<|wS<|wE (e:=(be (by rfl)))<|wQI<|wO (e:=aJ (fun h=>h) (congrArg isl (by exact hsn.symm)))<|wP<|by(iterate 14 refine wF ?_);exact wN))
   ·skip
    have c6P:=of_decide_eq_false c6
    have hle:=Ht (a:=a) (P:=(gLd a j)) (i:=i) (by omega)
    refine aU (rg (zm (zm ?_)))
    refine z ?_ (h:=fun Z=>bs1 (h:=57) Z qw qA (by exact⟨_,_,_,.inl rfl⟩))
    refine z ?_ (h:=fun Z=>aQ (h2:=58) (nm:=((nrT a j)++[(nrK a (gLd a j) i)]).length) Z qw qA (by exact⟨_,_,_,.inl rfl⟩) (by simp [lv,lu]) (by omega) (by simp))
    refine za (nl ?_)
    refine dW (pkI (h:=58) (h1:=34) (T:=3) (T0:=22) (s0:=1) (ex0:=true) (n:=((nrK a (gLd a j) i).length)) (L:=(nrT a j)) (r:=(nrK a (gLd a j) i))) ?_
    refine rg ?_
    refine z ?_ (h:=fun Z=>aa Z vt vc (rA (by omega) (by omega)))
    refine zm (nl ?_)
    exact aA ((j+1)) (by show _≤_;omega) (by show a.length-(j+1)<a.length-j;omega) (wkf (aX [(27,58)]) (wS<|wE (e:=(vsl (by(exact congrArg List.length (by first |rfl |omega |(rw[hle];exact sS (by omega)) |(rw[hle];exact Eq.symm (sS (by omega)))))) rfl))<|wS<|wS<|wE (e:=(be (by rfl)))<|wQI (e:=(by(rw[hle];exact Eq.symm (sS (by omega)))))<|by(iterate 16 refine wF ?_);exact wN))
  ·skip
   have c4P:=of_decide_eq_false c4
   refine aU (sq (rg (zm (za (nl ?_)))))
   refine dW (fzI (k:=2) (h:=27) (T0:=22) (T:=3) (ex0:=true) (n:=((nrT a j).length)) (L:=(nrT a j)) (hn:=by rfl)) ?_
   refine aC ?_
   exact⟨_,dt,trivial,dC 2 (.a (.slvv 1 (vwI (nrT a j)))) (.a (.slvv 1 (vwI (nrM a)))) (by kernel_rfl) (congrArg (fun z=>B.a (.slvv 1 (vwI z))) (by exact Hv (by omega)))⟩
theorem JE {Lw L:List Int} {off k:Nat} (h:Lw.drop off=L.drop k) (h0:off<Lw.length):k<L.length∧gI Lw off=gI L k:=by
 have e:=congrArg List.length h
 simp only[List.length_drop]at e
 have hk:k<L.length:=by omega
 refine⟨hk,?_⟩
 have e2:=congrArg (fun z:List Int=>z[0]?) h
 simp only[List.getElem?_drop,Nat.add_zero]at e2
 rw[dh h0,dh hk]
 rw[List.getElem?_eq_getElem h0,List.getElem?_eq_getElem hk]at e2
 exact Option.some.inj e2
theorem GG {Lw L:List Int} {off k:Nat} (h:Lw.drop off=L.drop k) (h0:¬off<Lw.length):¬k<L.length:=by
 have e:=congrArg List.length h
 simp only[List.length_drop]at e
 omega
theorem GF {Lw L:List Int} {off k:Nat} (h:Lw.drop off=L.drop k):Lw.drop (off+1)=L.drop (k+1):=by
 rw[←List.drop_drop,←List.drop_drop,h]
theorem JD {Lw L:List Int} {off k:Nat} (h:Lw.drop off=L.drop k) (hk:k≤L.length) (w:Int):(Lw.drop off++[w]).drop 0=(L++[w]).drop k:=by
 rw[List.drop_zero,List.drop_append_of_le_length hk,h]
theorem AR (k:Nat):(List.replicate k (-1:Int)).length=k:=List.length_replicate
theorem Fs (k:Nat):List.replicate k (-1:Int)++[(-1)]=List.replicate (k+1) (-1):=(List.replicate_succ' (n:=k) (a:=(-1:Int))).symm
theorem Fr {M:List (List Int)} {t:Int} {n k:Nat} (ht:0≤t∧t<(n:Int)) (hk:k=n):(List.replicate k (-1)).set t.toNat 0=dL M t n [t]:=by
 have:=FA (M:=M) ht hk
 subst hk
 unfold rpl at this
 rw[Nat.sub_self,List.replicate_zero,List.append_nil]at this
 exact this
theorem BX:(Tryz.prog.info? 22).map (·.size)=some 1:=by kernel_rfl
theorem jv:(Tryz.prog.info? 3).map (·.size)=some 1:=by kernel_rfl
theorem BZ:TI Tryz.prog 22 false 1:=⟨⟨_,Tryz.underlying22,rfl⟩,by kernel_rfl⟩
theorem kr:TI Tryz.prog 3 false 1:=⟨⟨_,Tryz.underlying3,rfl⟩,by kernel_rfl⟩
theorem da:Tryz.prog.underlying 22=some (.slice 3):=Tryz.underlying22
theorem vb:Tryz.prog.underlying 56=some (.slice 22):=Tryz.underlying56
theorem ks:ZI Tryz.prog 3 (.int .i64 0) 1 8:=by unfold ZI;kernel_rfl
theorem eK (M:List (List Int)) (t:Int) (hm:M.length≤300) (hR:ge M M.length) (hrl:∀ k,k<M.length→(gLs M k).length≤64) (ht:0≤t∧t<(M.length:Int)):Fn Tryz.prog 39 [.a (.slvv 1 (vwI M)),.a (.val (.int .i64 t))] [.row 3 1 (dsM M t M.length).length (isl (dsM M t M.length))]:=by
 have hdl0:=pY M t M.length [t]
 refine bm (N:=60) Tryz.func39 rfl (by kernel_rfl) rfl (Nat.le_of_ble_eq_true rfl) [10,12,16,17,23,25,36,56,57] (dN rfl) (fun W=> ?_)
 show Wp _ _ _ [kV 0 (V.b (.a (.slvv 1 (vwI M)))),kI 1 t,kF 10,kF 12,kF 16,kF 17,kF 23,kF 25,kF 36,kF 56,kF 57]
 refine sq (rg (zk (nl (sq (rg ?_)))))
 refine z ?_ (h:=fun Z=>b0I (h:=10) Z da ks)
 refine za (nl (sq (sq (rg (zm ?_)))))
 refine z ?_ (h:=fun Z=>lnI Z vb)
 refine z ?_ (h:=fun Z=>mc Z)
 refine nl (bkk ?_)
 refine bg (fun(k0:Nat)=>k0≤M.length) (fun(k0:Nat)=>[kV 0 (V.b (.a (.slvv 1 (vwI M)))),kI 1 t,kS 5 10 0 ((List.replicate k0 (-1)).length),kI 12 ((M.length:Nat):Int),kI 13 ((k0:Nat):Int),kO 10 3 1 true (pl (isl (List.replicate k0 (-1)))),kF 12,kF 16,kF 17,kF 23,kF 25,kF 36,kF 56,kF 57]) (fun(k0:Nat)=>M.length-k0) ((0:Nat)) (by exact(Nat.zero_le _:0≤_)) (wkf id (wS<|wS<|wE (e:=(vsl (by rfl) rfl))<|wS<|wE (e:=(be (by rfl)))<|wO (e:=aJ (fun h=>h) (congrArg isl (by rfl)))<|wF<|wF<|wF<|wF<|wF<|wF<|wF<|wF<|wN)) ?_
 rintro k0 inv1
 replace inv1:k0≤M.length:=inv1
 have hk0:=inv1
 have hrl0:=AR k0
 refine sq (rg ?_)
 refine z ?_ (h:=fun Z=>aa Z vt vt (bA rfl))
 refine nl (sq ?_)
 refine wi (fun c2=> ?_) (fun c2=> ?_)
 ·skip
  have c2P:=of_decide_eq_true c2
  refine sk (sq (bkk (rg (zm ?_))))
  refine z ?_ (h:=fun Z=>aP (h:=16) (xs:=isl ([(-1)]:List Int)) Z da ks (.cons vc OpVs.nil) (by decide) (by decide) (by kernel_rfl) rfl)
  refine z ?_ (h:=fun Z=>aI_ (h2:=17) (L3:=((List.replicate k0 (-1))++[(-1)])) Z da ks (by exact rfl) rfl (by exact rfl) (by(simp;omega)))
  refine za (nl (rg ?_))
  refine z ?_ (h:=fun Z=>aa Z vt vc (rA (by omega) (by omega)))
  refine zm (nl ?_)
  exact aA ((k0+1)) (by show _≤_;omega) (by show M.length-(k0+1)<M.length-k0;omega) (wkf (aX [(10,17)]) (wS<|wS<|wE (e:=(vsl (by(simp;done)) rfl))<|wS<|wE (e:=(be (by rfl)))<|wO (e:=aJ (fun h=>h) (congrArg isl (by exact(Fs _).symm)))<|wF<|wF<|wF<|wF<|wF<|wF<|wF<|wF<|wN))
 ·skip
  have c2P:=of_decide_eq_false c2
  refine aU (sq (rg (zm (zm ?_))))
  refine z ?_ (h:=fun Z=>ix0 (k:=t.toNat) Z da jv vt (Int.toNat_of_nonneg (by omega)).symm (by omega))
  refine z ?_ (h:=fun _=>sI kr xc (by omega))
  refine nl (sq (sq (rg (zm ?_))))
  refine z ?_ (h:=fun Z=>aP (h:=23) (xs:=isl ([t]:List Int)) Z da ks (.cons vt OpVs.nil) (by decide) (by decide) (by kernel_rfl) rfl)
  refine za (nl (bkk ?_))
  refine bg (fun((k,off,L,Lw):Nat × Nat × (List Int) × (List Int))=>off≤Lw.length∧Lw.drop off=L.drop k∧BInv M t M.length L k) (fun((k,off,L,Lw):Nat × Nat × (List Int) × (List Int))=>[kV 0 (V.b (.a (.slvv 1 (vwI M)))),kS 5 10 0 ((dL M t M.length L).length),kS 6 23 off (Lw.length-off),kO 10 3 1 true (pl (isl (dL M t M.length L))),kO 23 3 1 false (pl (isl Lw)),kF 12,kF 16,kF 17,kF 25,kF 36,kF 56,kF 57]) (fun((k,off,L,Lw):Nat × Nat × (List Int) × (List Int))=>M.length-k) ((0:Nat),(0:Nat),([t]:List Int),([t]:List Int)) (by exact⟨Nat.zero_le _,rfl,BInv.init ht⟩) (wkf id (wS<|wE (e:=(vsl (by(simp;omega)) rfl))<|wE (e:=(vsl (by rfl) rfl))<|wO (e:=aJ (fun h=>h) (congrArg isl (by exact Eq.symm (Fr ht (by omega)))))<|wO (e:=tz (fun h=>by cases h))<|wF<|wF<|wF<|wF<|wF<|wF<|wF<|wN)) ?_
  rintro⟨k,off,L,Lw⟩ inv3
  replace inv3:off≤Lw.length∧Lw.drop off=L.drop k∧BInv M t M.length L k:=inv3
  obtain⟨hof,hdr,hB⟩:=inv3
  have hBl:=hB.len
  have hdl:=pY M t M.length L
  have hdrl:=congrArg List.length hdr
  simp only[List.length_drop]at hdrl
  refine sq (sq (rg (zm ?_)))
  refine z ?_ (h:=fun Z=>lnS Z da)
  refine z ?_ (h:=fun Z=>aa Z vt vc (vz rfl))
  refine nl ?_
  refine wi (fun c4=> ?_) (fun c4=> ?_)
  ·skip
   have c4P:=of_decide_eq_true c4
   obtain⟨hkL,hown1⟩:=JE hdr (by omega)
   obtain⟨hu,hud⟩:=hB.at hkL
   rw[←hown1]at hu hud
   have hrow:=hrl (gI Lw off).toNat (by omega)
   refine sk (bkk (sq (rg (zm ?_))))
   refine z ?_ (h:=fun Z=>ixz Z da jv vc (by omega))
   refine z ?_ (h:=fun Z=>lI Z kr (by omega))
   refine za (nl (sq (rg (zm ?_))))
   refine z ?_ (h:=fun Z=>slS (m:=((Lw.length-off)-1)) (off':=(off+1)) Z da jv (OpB.so _ 1 vc rfl) (OpB.no _) (by omega) (by omega) (by exact rfl) (by omega))
   refine za (nl (sq (rg (zm (zm ?_)))))
   refine z ?_ (h:=fun Z=>xvv (k:=(gI Lw off).toNat) Z vb BX vt (Int.toNat_of_nonneg (by omega)).symm (hlt:=(by simp only[ic,fu];first |omega |assumption |exact hrl _ (by omega) |(rw[pY];omega) |(rw[AR];omega) |(simp only[List.length_append,List.length_drop,List.length_cons,List.length_nil];omega))))
   refine z ?_ (h:=fun Z=>lvI Z BZ (by omega))
   refine z ?_ (h:=fun Z=>lnV Z da)
   refine z ?_ (h:=fun Z=>mc Z)
   refine nl (bkk ?_)
   refine bg (fun((i,off2,N,Lw2):Nat × Nat × (List Int) × (List Int))=>i≤(gLs M (gI Lw off).toNat).length∧off2≤Lw2.length∧Lw2.drop off2=N.drop (k+1)∧BRd M t M.length L k i N) (fun((i,off2,N,Lw2):Nat × Nat × (List Int) × (List Int))=>[kV 0 (V.b (.a (.slvv 1 (vwI M)))),kS 5 10 0 ((dL M t M.length N).length),kS 6 23 off2 (Lw2.length-off2),kI 7 (gI Lw off),kV 35 (V.b (.a (.slv ((gLs M ((gI Lw off).toNat)).length) 1 (isl (gLs M ((gI Lw off).toNat)))))),kI 36 (((gLs M ((gI Lw off).toNat)).length:Nat):Int),kI 37 ((i:Nat):Int),kO 10 3 1 true (pl (isl (dL M t M.length N))),kO 23 3 1 false (pl (isl Lw2)),kF 12,kF 16,kF 17,kF 25,kF 36,kF 56,kF 57]) (fun((i,off2,N,Lw2):Nat × Nat × (List Int) × (List Int))=>(gLs M (gI Lw off).toNat).length-i) ((0:Nat),((off+1):Nat),(L:List Int),(Lw:List Int)) (by exact⟨Nat.zero_le _,by omega,GF hdr,BRd.into hB hkL⟩) (wkf id (wS<|wS<|wE (e:=(vsl (by rfl) rfl))<|wS<|wS<|wS<|wE (e:=(be (by rfl)))<|wP<|wP<|wF<|wF<|wF<|wF<|wF<|wF<|wF<|wN)) ?_
   rintro⟨i,off2,N,Lw2⟩ inv5
   replace inv5:i≤(gLs M (gI Lw off).toNat).length∧off2≤Lw2.length∧Lw2.drop off2=N.drop (k+1)∧BRd M t M.length L k i N:=inv5
   obtain⟨hil,hof2,hdr2,hN⟩:=inv5
   obtain⟨hNk,hkN,hNl,hNd⟩:=hN.fact hB hkL
   rw[←hown1]at hNd
   have hdl2:=pY M t M.length N
   have hdr3:=congrArg List.length hdr2
   simp only[List.length_drop]at hdr3
   refine sq (rg ?_)
   refine z ?_ (h:=fun Z=>aa Z vt vt (bA rfl))
   refine nl (sq ?_)
   refine wi (fun c6=> ?_) (fun c6=> ?_)
   ·skip
    have c6P:=of_decide_eq_true c6
    have hiL:i<(gLs M (gI Lw off).toNat).length:=by omega
    have hw:=BRd.w (k:=k) (L:=L) (i:=i) hR (by rw[←hown1];exact hu) (by rw[←hown1];exact hiL)
    rw[←hown1]at hw
    have hneg:=hN.neg hkL hw
    refine sk (sq (bkk (sq (rg ?_))))
    refine z ?_ (h:=fun Z=>ixv Z da jv vt (hlt:=(by omega)))
    refine z ?_ (h:=fun Z=>uI Z kr (by omega))
    refine za (nl (sq (rg (zm (zm ?_)))))
    refine z ?_ (h:=fun Z=>ix0 (k:=(gI (gLs M ((gI Lw off).toNat)) i).toNat) Z da jv vt (Int.toNat_of_nonneg (by omega)).symm (by omega))
    refine z ?_ (h:=fun Z=>lI Z kr (by omega))
    refine z ?_ (h:=fun Z=>aa Z vt vc (bA rfl))
    refine nl ?_
    refine wi (fun c7=> ?_) (fun c7=> ?_)
    ·skip
     have c7P:=of_decide_eq_true c7
     have hgo:=BRd.go hB hkL hR hN (by rw[←hown1];exact hiL) (by rw[←hown1];exact hneg.1 (by assumption))
     rw[←hown1]at hgo
     have hsl2:=pY M t M.length (N++[(gI (gLs M (gI Lw off).toNat) i)])
     refine sq (rg (zm (zm (zm (zm ?_)))))
     refine z ?_ (h:=fun Z=>ix0 (k:=(gI Lw off).toNat) Z da jv vt (Int.toNat_of_nonneg (by omega)).symm (by omega))
     refine z ?_ (h:=fun Z=>lI Z kr (by omega))
     refine z ?_ (h:=fun Z=>aa Z vt vc (rA (by omega) (by omega)))
     refine z ?_ (h:=fun Z=>ix0 (k:=(gI (gLs M ((gI Lw off).toNat)) i).toNat) Z da jv vt (Int.toNat_of_nonneg (by omega)).symm (by omega))
     refine z ?_ (h:=fun _=>sI kr xt (by omega))
     refine nl (rg (zm (zm ?_)))
     refine z ?_ (h:=fun Z=>aP (h:=56) (xs:=isl ([(gI (gLs M ((gI Lw off).toNat)) i)]:List Int)) Z da ks (.cons vt OpVs.nil) (by decide) (by decide) (by kernel_rfl) rfl)
     refine z ?_ (h:=fun Z=>tZ (h2:=57) (m:=1) (nm:=((Lw2.drop off2++[(gI (gLs M ((gI Lw off).toNat)) i)]).length)) (X:= .sl 56 0 1) (L:=Lw2) (L2:=[(gI (gLs M ((gI Lw off).toNat)) i)]) Z da ks (by omega) xt (pI (h:=56) (T:=3) (s:=1) (ex:=true) (n:=1) (by exact dl _)) (by omega) (by(simp;done)))
     refine za (nl (rg ?_))
     refine z ?_ (h:=fun Z=>aa Z vt vc (rA (by omega) (by omega)))
     refine zm (nl ?_)
     exact aA ((i+1),0,(N++[(gI (gLs M (gI Lw off).toNat) i)]),(Lw2.drop off2++[(gI (gLs M ((gI Lw off).toNat)) i)])) (by exact⟨by omega,Nat.zero_le _,JD hdr2 (by omega) _,hgo.1⟩) (by show(gLs M (gI Lw off).toNat).length-(i+1)<(gLs M (gI Lw off).toNat).length-i;omega) (wkf (aX [(23,57)]) (wS<|wE (e:=(vsl (by omega) rfl))<|wE (e:=(vsl (by rfl) rfl))<|wS<|wS<|wS<|wE (e:=(be (by rfl)))<|wO (e:=aJ (fun h=>h) (congrArg isl (by exact hgo.2)))<|wP<|wF<|wF<|wF<|wF<|wF<|wF<|wF<|wN))
    ·skip
     have c7P:=of_decide_eq_false c7
     have hsk:=hN.skip hkL (by rw[←hown1];exact hiL) (by rw[←hown1];exact Classical.not_not.1 fun hn=>absurd (hneg.2 hn) (by assumption))
     refine sk (rg ?_)
     refine z ?_ (h:=fun Z=>aa Z vt vc (rA (by omega) (by omega)))
     refine zm (nl ?_)
     exact aA ((i+1),off2,N,Lw2) (by exact⟨by omega,by assumption,by assumption,hsk⟩) (by show(gLs M (gI Lw off).toNat).length-(i+1)<(gLs M (gI Lw off).toNat).length-i;omega) (wkf id (wS<|wS<|wS<|wS<|wS<|wS<|wE (e:=(be (by rfl)))<|wP<|wP<|wF<|wF<|wF<|wF<|wF<|wF<|wF<|wN))
   ·skip
    have c6P:=of_decide_eq_false c6
    have hout:=hN.out hB hkL (by rw[←hown1];omega)
    refine aU ?_
    exact Exists.intro ((k+1),off2,N,Lw2) (And.intro (by exact⟨by assumption,by assumption,hout⟩) (And.intro (by show M.length-(k+1)<M.length-k;omega) (wkf id (wS<|wS<|wS<|wP<|wP<|wF<|wF<|wF<|wF<|wF<|wF<|wF<|wN))))
  ·skip
   have c4P:=of_decide_eq_false c4
   have hend:=GG hdr (by omega)
   refine aU (sq (rg (zm (za (nl (aC ?_))))))
   exact VRes.tmp _ _ _ (by exact rfl) (pT (h:=10) (L:=(dL M t M.length L)) (by kernel_rfl) (by exact Jt hB hend) (by rfl))
theorem rpF (n i:Nat):gB (List.replicate n false) i=false:=by unfold gB;rw[List.getD_eq_getElem?_getD,List.getElem?_replicate];split<;>rfl
def orT (s:List Bool) (D:List Int) (j:Nat):List Bool:=(List.range s.length).map fun i=>gB s i||(decide (i<j)&&decide (0≤gI D i))
theorem wx (s:List Bool) (D:List Int) (j:Nat):(orT s D j).length=s.length:=by simp [orT]
theorem ww {s:List Bool} {D:List Int} {j i:Nat} (h:i<s.length):gB (orT s D j) i=(gB s i||(decide (i<j)&&decide (0≤gI D i))):=by
 rw[An (by rw[wx];exact h)];simp [orT]
theorem EJ (s:List Bool) (D:List Int):orT s D 0=s:=by
 apply List.ext_getElem (by simp [orT])
 intro i h1 h2
 simp only[orT,List.getElem_map,List.getElem_range,An h2]
 simp
theorem EI {s:List Bool} {D:List Int} {j:Nat} (h:j<s.length):(orT s D j).set j (gB (orT s D j) j||decide (0≤gI D j))=orT s D (j+1):=by
 rw[ww h]
 apply List.ext_getElem (by simp [orT])
 intro i h1 h2
 have hi:i<s.length:=by simpa [orT] using h2
 simp only[orT,List.getElem_set,List.getElem_map,List.getElem_range]
 by_cases e:j=i
 ·subst e;simp
 ·rw[if_neg e]
  congr 2
  rw[decide_eq_decide];omega
theorem AF {s:List Bool} {D:List Int} {j:Nat} (h:s.length≤j):orT s D j=orT s D s.length:=by
 unfold orT
 refine List.map_congr_left fun i hi=> ?_
 have:=List.mem_range.1 hi
 simp [this,show i<j by omega]
noncomputable def prT (M:List (List Int)) (n:Nat):Nat→List Bool × Int
 | 0=>(List.replicate n false,0)
 | k+1=>if gB (prT M n k).1 k then prT M n k else(orT (prT M n k).1 (dsM M k n) n,(prT M n k).2+1)
theorem lj (M:List (List Int)) (n:Nat):∀ k,(prT M n k).1.length=n
  | 0=>by simp [prT]
  | k+1=>by
    have:=lj M n k
    unfold prT;split
    · exact this
    · simp [wx,this]
theorem wz (M:List (List Int)) (n:Nat):∀ k,0≤(prT M n k).2∧(prT M n k).2≤k
  | 0=>by simp [prT]
  | k+1=>by
    have:=wz M n k
    unfold prT;split
    · omega
    · simp only;omega
theorem sY {M:List (List Int)} {n k:Nat} (h:gB (prT M n k).1 k=true):prT M n (k+1)=prT M n k:=by rw[prT,if_pos h]
theorem ia {M:List (List Int)} {n k:Nat} (h:gB (prT M n k).1 k=false):prT M n (k+1)=(orT (prT M n k).1 (dsM M k n) n,(prT M n k).2+1):=by rw[prT,if_neg (by rw[h];decide)]
noncomputable def prN (M:List (List Int)) (n:Nat):Int:=(prT M n n).2
theorem BS {M N:List (List Int)} (h:∀ k w,w∈gLs M k↔w∈gLs N k) (n:Nat):prN M n=prN N n:=by
 have e:∀ t v,dsD M t v=dsD N t v:=uw h
 have e2:∀ t,dsM M t n=dsM N t n:=fun t=>by unfold dsM;simp only[e]
 have e3:∀ k,prT M n k=prT N n k:=by
  intro k
  induction k with
  | zero=>rfl
  | succ k ih=>simp only[prT,ih,e2]
 unfold prN;rw[e3]
theorem EV {M:List (List Int)} {n k m:Nat} (h:k≤m) {i:Nat} (hi:i<n) (hb:gB (prT M n k).1 i=true):gB (prT M n m).1 i=true:=by
  induction m with
  | zero=>rw[Nat.le_zero.1 h]at hb;exact hb
  | succ m ih=>
    rcases Nat.lt_or_ge m k with h1 |h1
    · rw[show m+1=k by omega];exact hb
    · have:=ih h1
      cases hq:gB (prT M n m).1 m
      · rw[ia hq,ww (by rw[lj];exact hi),this];rfl
      · rw[sY hq];exact this
theorem uS {M:List (List Int)} {n k m:Nat} (h:k≤m):(prT M n k).2≤(prT M n m).2:=by
  induction m with
  | zero=>rw[Nat.le_zero.1 h];omega
  | succ m ih=>
    rcases Nat.lt_or_ge m k with h1 |h1
    · rw[show m+1=k by omega];omega
    · have:=ih h1
      cases hq:gB (prT M n m).1 m
      · rw[ia hq];simp only;omega
      · rw[sY hq];exact this
theorem HH {M:List (List Int)} {n:Nat} (h:0<n):1≤prN M n∧prN M n≤n:=by
 refine⟨?_,(wz M n n).2⟩
 have h1:(prT M n 1).2=1:=by
  rw[ia (M:=M) (n:=n) (k:=0) (rpF n 0)];rfl
 have:=uS (M:=M) (n:=n) (k:=1) (m:=n) h
 unfold prN;omega
theorem HG {M:List (List Int)} {n:Nat} (h:0<n) (ha:∀ j,j<n→0≤dsD M 0 ((j:Nat):Int)):prN M n=1:=by
  have h1:∀ j,j<n→gB (prT M n 1).1 j=true:=fun j hj=>by
    rw[ia (M:=M) (n:=n) (k:=0) (rpF n 0),ww (by rw[lj];exact hj),show((0:Nat):Int)=0 from rfl,zb hj]
    simp [hj,ha j hj]
  have h2:∀ k,1≤k→k≤n→(prT M n k).2=1:=by
    intro k
    induction k with
    | zero=>intro h;omega
    | succ k ih=>
      intro _ hk
      rcases Nat.eq_zero_or_pos k with e |e
      · subst e;rw[ia (M:=M) (n:=n) (k:=0) (rpF n 0)];rfl
      · rw[sY (EV e (by omega) (h1 k (by omega)))];exact ih e (by omega)
  exact h2 n h (Nat.le_refl _)
theorem EU {M:List (List Int)} {n:Nat} (_h:0<n) (h1:prN M n=1):∀ j,j<n→0≤dsD M 0 ((j:Nat):Int):=by
  intro j hj
  refine Classical.byContradiction fun hc=> ?_
  have hz:(prT M n 1).2=1:=by rw[ia (M:=M) (n:=n) (k:=0) (rpF n 0)];rfl
  have h2:∀ k,1≤k→k≤n→prT M n k=prT M n 1:=by
    intro k
    induction k with
    | zero=>intro h;omega
    | succ k ih=>
      intro _ hk
      rcases Nat.eq_zero_or_pos k with e |e
      · subst e;rfl
      · have ihk:=ih e (by omega)
        cases hq:gB (prT M n k).1 k
        · have hm:=uS (M:=M) (n:=n) (k:=k+1) (m:=n) hk
          rw[ia hq,ihk,hz]at hm
          unfold prN at h1;simp only at hm;omega
        · rw[sY hq];exact ihk
  have hj0:j≠0:=fun e=>by subst e;have:=jk M 0;rw[show((0:Nat):Int)=0 from rfl]at hc;omega
  have h3:gB (prT M n j).1 j=false:=by
    rw[h2 j (by omega) (by omega),ia (M:=M) (n:=n) (k:=0) (rpF n 0),ww (by rw[lj];exact hj),show((0:Nat):Int)=0 from rfl,zb hj]
    simp [hc]
    exact rpF n j
  have h4:prT M n (j+1)=prT M n 1:=h2 (j+1) (by omega) (by omega)
  rw[ia h3,h2 j (by omega) (by omega)]at h4
  have:=congrArg Prod.snd h4
  simp only at this;omega
theorem wa {l:List Int} {x q:List Dom} (hx:x∈ltR l):gI (dsM (nrM (ltR l)) (ixT (ltR l) q) (nrM (ltR l)).length) (ixT (ltR l) x).toNat=dsD (lkM (ltR l)) (ixT (ltR l) q) (ixT (ltR l) x):=by
 have h1:=cC hx
 have h2:=(gp (ltR l) x).1
 have h3:=iH (ltR l)
 rw[JP h1 (by omega),yW (FlipA.of l)]
theorem fd_im {l:List Int} {p q:List Dom} (h1:¬ixT (ltR l) p<0) (h2:¬ixT (ltR l) q<0):gI (dsM (nrM (ltR l)) (ixT (ltR l) p) (nrM (ltR l)).length) (ixT (ltR l) q).toNat=fdR l p q:=by
 rw[wa (uK h2).1,←fd_nr h1 h2,yW (FlipA.of l)]
theorem AG {s:List Bool} {D:List Int} {j:Nat} {v:Bool} (h:j<s.length) (hv:v=(gB (orT s D j) j||decide (0≤gI D j))):(orT s D j).set j v=orT s D (j+1):=by rw[hv];exact EI h
theorem pr_nr (l:List Int):(prT (nrM (ltR l)) (nrM (ltR l)).length (nrM (ltR l)).length).2=prN (lkM (ltR l)) (ltR l).length:=by
 show prN _ _=_
 rw[iH];exact BS (zn (FlipA.of l)) _
theorem or_t {b c:Bool} (h:b=true):true=(b||c):=by rw[h];rfl
theorem or_f {b c:Bool} (h:b=false):c=(b||c):=by rw[h];rfl
theorem yj:(Tryz.prog.info? 3).map (·.size)=some 1:=by kernel_rfl
theorem mg:(Tryz.prog.info? 4).map (·.size)=some 1:=by kernel_rfl
theorem vk:TI Tryz.prog 29 true 1:=⟨⟨_,Tryz.underlying29,rfl⟩,by kernel_rfl⟩
theorem yk:TI Tryz.prog 3 false 1:=⟨⟨_,Tryz.underlying3,rfl⟩,by kernel_rfl⟩
theorem mh:TI Tryz.prog 4 false 1:=⟨⟨_,Tryz.underlying4,rfl⟩,by kernel_rfl⟩
theorem qt:Tryz.prog.underlying 22=some (.slice 3):=Tryz.underlying22
theorem vl:Tryz.prog.underlying 56=some (.slice 22):=Tryz.underlying56
theorem jd:Tryz.prog.underlying 77=some (.slice 4):=Tryz.underlying77
theorem Ff:ZI Tryz.prog 4 (.bool false) 1 1:=by unfold ZI;kernel_rfl
theorem gm (l:List Int) (p q:List Dom) (hl:l.length≤4194304) (hp:p.length≤4194304) (hq:q.length≤4194304):FnO Tryz.prog 11 [.agg [(.sl 800 0 l.length:A)],.a (.slv p.length 3 (dsl p)),.a (.slv q.length 3 (dsl q))] [(.o 800,some (.o ⟨3,1,true,pl (isl l)⟩))] (V.v (.int .i64 (fdR l p q))) [(.o 800,some (.o ⟨3,1,true,pl (isl l)⟩))] [800]:=by
 have hll:=ld l
 have hlr:∀ k,k<(ltR l).length→(gLd (ltR l) k).length≤64:=fun k hk=>Nat.le_trans (lf hk) (by decide)
 have hA:=FlipA.of l
 have hml:=oV (ltR l)
 have hnl:=iH (ltR l)
 have hi1:=gp (ltR l) p
 have hi2:=gp (ltR l) q
 have hRI:ge (lkM (ltR l)) (lkM (ltR l)).length:=by rw[hml];exact ls hA
 have hNI:ge (nrM (ltR l)) (nrM (ltR l)).length:=EF hA
 have hdl:=kT (lkM (ltR l)) (ixT (ltR l) q) (lkM (ltR l)).length
 have hdn:=kT (nrM (ltR l)) (ixT (ltR l) p) (nrM (ltR l)).length
 refine bW (N:=31) Tryz.func11 rfl (by kernel_rfl) rfl (Nat.le_of_ble_eq_true rfl) rfl rfl (by kernel_rfl) (by kernel_rfl) ⟨bh (fun _=>rfl),trivial⟩ [3,11,14,17,25,27,31,32,33,34] (ip rfl) (fun W own kp im0=> ?_)
 show Wp _ _ _ [kV 0 (V.b (.agg [(.sl 800 0 l.length:A)])),kV 1 (V.b (.a (.slv p.length 3 (dsl p)))),kV 2 (V.b (.a (.slv q.length 3 (dsl q)))),kO 800 3 1 true (pl (isl l)),kF 3,kF 11,kF 14,kF 17,kF 25,kF 27,kF 31,kF 32,kF 33,kF 34]
 refine sq (rg ?_)
 refine z ?_ (h:=fun Z=>bo (h:=3) Z xt (by exact ob1 rfl))
 refine zk (nl (sq (rg ?_)))
 refine z ?_ (h:=fun Z=>ab (xs:=[(.sl 800 0 l.length:A)]) Z vk rfl (by decide) rfl)
 refine z ?_ (h:=fun Z=>aK (d:=11) (f:=37) (os:=[(.o 800,some (.o ⟨3,1,true,pl (isl l)⟩))]) (os':=[(.o 800,some (.o ⟨3,1,true,pl (isl l)⟩)),(.o 11,some (.o ⟨31,1,true,rwD 62 (ltR l)⟩))]) (r:=V.b (.a (.sl 11 0 ((ltR l).length)))) (bs:=[.agg [(.sl 800 0 l.length:A)]]) (keep:=[800]) (new:=[11]) (dead:=[]) Z (FnO.ren' (eb l (by omega)) (aX [(900,11)]) rfl rfl (by kernel_rfl) (by kernel_rfl) ⟨bh (fun _=>rfl),en,trivial⟩ (by kernel_rfl) rfl (by simp only[bv,Ob.ren,aY,ak,am,aj,aO,aN];first |done |rfl) (by simp only[bv,Ob.ren,aY,ak,am,aj,aO,aN];first |done |rfl) rfl rfl) (by kernel_rfl) ⟨bh (fun _=>rfl),en,trivial⟩ (by kernel_rfl) (ArgOs.cons (ArgO.slot 10 (.agg [(.sl 800 0 l.length:A)])) (ArgOs.nil)))
 refine za (nl (sq (rg (zm (zm ?_)))))
 refine z ?_ (h:=fun Z=>ag Z (dw (ltR l) p (by omega) (by(intro k hk;exact Nat.le_trans (hlr k hk) (by decide))) (by omega)) (ac (dvD (L:=(ltR l))) (ac (ArgV.slv _ _ _ _) an)) rv)
 refine zm (zm ?_)
 refine z ?_ (h:=fun Z=>ag Z (dw (ltR l) q (by omega) (by(intro k hk;exact Nat.le_trans (hlr k hk) (by decide))) (by omega)) (ac (dvD (L:=(ltR l))) (ac (ArgV.slv _ _ _ _) an)) rv)
 refine za (za (nl (sq (sq ?_))))
 rcases Bool.eq_false_or_eq_true (decide ((ixT (ltR l) p)<0))with c1 |c1
 ·skip
  have c1P:=of_decide_eq_true c1
  refine rg (zm ?_)
  refine z ?_ (h:=fun Z=>aa Z vt vc (bA (c:=true) c1))
  refine zm (zo (zo ?_))
  refine z ?_ (h:=fun Z=>au Z vt xc)
  refine nl (wt (sq (rg (zk (nl (aC ?_))))))
  exact⟨_,dt,⟨by kernel_rfl,trivial⟩,dC 6 (.a (.val (.int .i64 (-1)))) (.a (.val (.int .i64 (fdR l p q)))) (by kernel_rfl) (congrArg (fun z:Int=>B.a (.val (.int .i64 z))) (by exact(nN (by omega)).symm))⟩
 ·skip
  have c1P:=of_decide_eq_false c1
  refine rg (zm ?_)
  refine z ?_ (h:=fun Z=>aa Z vt vc (bA (c:=false) c1))
  refine zm ?_
  refine zg ?_ (h:=fun Z=>ae rfl rfl (mt Z))
  refine zg ?_ (h:=fun Z=>ae rfl rfl (aa Z vt vc (bA rfl)))
  refine z ?_ (h:=fun Z=>ar Z vt xt)
  refine nl ?_
  refine wi (fun c2=> ?_) (fun c2=> ?_)
  ·skip
   have c2P:=of_decide_eq_true c2
   refine sq (rg (zk (nl (aC ?_))))
   exact⟨_,dt,⟨by kernel_rfl,trivial⟩,dC 6 (.a (.val (.int .i64 (-1)))) (.a (.val (.int .i64 (fdR l p q)))) (by kernel_rfl) (congrArg (fun z:Int=>B.a (.val (.int .i64 z))) (by exact(nN (by omega)).symm))⟩
  ·skip
   have c2P:=of_decide_eq_false c2
   refine sk (sq ?_)
   refine dW (fzD (k:=7) (h:=11) (T0:=31) (T:=62) (ex0:=true) (n:=((ltR l).length)) (L:=(ltR l)) (hn:=by rfl)) ?_
   refine rg (zm ?_)
   refine z ?_ (h:=fun Z=>aK (d:=25) (f:=40) (os:=[]) (os':=[]) (r:=V.b (.a (.slvv 1 (vwI (nrM (ltR l)))))) (bs:=[.a (.slvv 3 (vwD (ltR l)))]) (keep:=[]) (new:=[]) (dead:=[]) Z ((eL (ltR l) (ao l) (by omega) (by omega) (by omega))) (by kernel_rfl) trivial (by kernel_rfl) (ArgOs.cons (ArgO.slot 24 (.a (.slvv 3 (vwD (ltR l))))) (ArgOs.nil)))
   refine zm ?_
   refine z ?_ (h:=fun Z=>ag Z (eK (nrM (ltR l)) (ixT (ltR l) p) (by omega) (by omega) (by(intro k hk;exact sU hk)) (by omega)) (ac (ArgV.slvv _ _ _) (ac (ArgV.v vt) an)) (ResV.row _ _ _ _ 27))
   refine zm ?_
   refine z ?_ (h:=fun Z=>ix0 (k:=(ixT (ltR l) q).toNat) Z qt yj vt (Int.toNat_of_nonneg (by omega)).symm (by omega))
   refine z ?_ (h:=fun Z=>lI Z yk (by omega))
   refine za (nl (aC ?_))
   exact⟨_,dt,⟨by kernel_rfl,trivial⟩,dC 6 (.a (.val (.int .i64 (gI (dsM (nrM (ltR l)) (ixT (ltR l) p) (nrM (ltR l)).length) ((ixT (ltR l) q).toNat))))) (.a (.val (.int .i64 (fdR l p q)))) (by kernel_rfl) (congrArg (fun z:Int=>B.a (.val (.int .i64 z))) (by exact fd_im (by omega) (by omega)))⟩
theorem kZ (l:List Int) (hl:l.length≤4194304):FnO Tryz.prog 23 [.agg [(.sl 800 0 l.length:A)]] [(.o 800,some (.o ⟨3,1,true,pl (isl l)⟩))] (V.v (.int .i64 (prN (lkM (ltR l)) (ltR l).length))) [(.o 800,some (.o ⟨3,1,true,pl (isl l)⟩))] [800]:=by
 have hll:=ld l
 have hlr:∀ k,k<(ltR l).length→(gLd (ltR l) k).length≤64:=fun k hk=>Nat.le_trans (lf hk) (by decide)
 have hA:=FlipA.of l
 have hml:=oV (ltR l)
 have hnl:=iH (ltR l)
 have hRI:ge (lkM (ltR l)) (lkM (ltR l)).length:=by rw[hml];exact ls hA
 have hNI:ge (nrM (ltR l)) (nrM (ltR l)).length:=EF hA
 have hpl9:=lj (nrM (ltR l)) (nrM (ltR l)).length 0
 refine bW (N:=49) Tryz.func23 rfl (by kernel_rfl) rfl (Nat.le_of_ble_eq_true rfl) rfl rfl (by kernel_rfl) (by kernel_rfl) ⟨bh (fun _=>rfl),trivial⟩ [1,10,11,13,14,16,28,29,49,50,51,52] (ip rfl) (fun W own kp im0=> ?_)
 show Wp _ _ _ [kV 0 (V.b (.agg [(.sl 800 0 l.length:A)])),kO 800 3 1 true (pl (isl l)),kF 1,kF 10,kF 11,kF 13,kF 14,kF 16,kF 28,kF 29,kF 49,kF 50,kF 51,kF 52]
 refine sq (rg ?_)
 refine z ?_ (h:=fun Z=>bo (h:=1) Z xt (by exact ob1 rfl))
 refine zk (nl (sq (rg ?_)))
 refine z ?_ (h:=fun Z=>ab (xs:=[(.sl 800 0 l.length:A)]) Z vk rfl (by decide) rfl)
 refine z ?_ (h:=fun Z=>aK (d:=10) (f:=37) (os:=[(.o 800,some (.o ⟨3,1,true,pl (isl l)⟩))]) (os':=[(.o 800,some (.o ⟨3,1,true,pl (isl l)⟩)),(.o 10,some (.o ⟨31,1,true,rwD 62 (ltR l)⟩))]) (r:=V.b (.a (.sl 10 0 ((ltR l).length)))) (bs:=[.agg [(.sl 800 0 l.length:A)]]) (keep:=[800]) (new:=[10]) (dead:=[]) Z (FnO.ren' (eb l (by omega)) (aX [(900,10)]) rfl rfl (by kernel_rfl) (by kernel_rfl) ⟨bh (fun _=>rfl),en,trivial⟩ (by kernel_rfl) rfl (by simp only[bv,Ob.ren,aY,ak,am,aj,aO,aN];first |done |rfl) (by simp only[bv,Ob.ren,aY,ak,am,aj,aO,aN];first |done |rfl) rfl rfl) (by kernel_rfl) ⟨bh (fun _=>rfl),en,trivial⟩ (by kernel_rfl) (ArgOs.cons (ArgO.slot 9 (.agg [(.sl 800 0 l.length:A)])) (ArgOs.nil)))
 refine yI (fzD (k:=10) (h:=10) (T0:=31) (T:=62) (ex0:=true) (n:=((ltR l).length)) (L:=(ltR l)) (hn:=by rfl)) ?_
 refine z ?_ (h:=fun Z=>aK (d:=11) (f:=40) (os:=[]) (os':=[]) (r:=V.b (.a (.slvv 1 (vwI (nrM (ltR l)))))) (bs:=[.a (.slvv 3 (vwD (ltR l)))]) (keep:=[]) (new:=[]) (dead:=[]) Z ((eL (ltR l) (ao l) (by omega) (by omega) (by omega))) (by kernel_rfl) trivial (by kernel_rfl) (ArgOs.cons (ArgO.slot 10 (.a (.slvv 3 (vwD (ltR l))))) (ArgOs.nil)))
 refine za (nl (sq (rg (zm ?_))))
 refine z ?_ (h:=fun Z=>lnI Z vl)
 refine z ?_ (h:=fun Z=>fJ (h:=14) (n:=((nrM (ltR l)).length)) (xs:=bsl (List.replicate ((nrM (ltR l)).length) false)) Z jd Ff vt vt rfl rfl (by decide) (by omega) (sO ((nrM (ltR l)).length)))
 refine za (zk (nl (sq (sq (rg (zm ?_))))))
 refine z ?_ (h:=fun Z=>lnI Z vl)
 refine z ?_ (h:=fun Z=>mc Z)
 refine nl (bkk ?_)
 refine bg (fun(k:Nat)=>k≤(nrM (ltR l)).length) (fun(k:Nat)=>[kV 3 (V.b (.a (.slvv 1 (vwI (nrM (ltR l)))))),kS 4 14 0 (((prT (nrM (ltR l)) (nrM (ltR l)).length k).1).length),kI 5 ((prT (nrM (ltR l)) (nrM (ltR l)).length k).2),kI 16 (((nrM (ltR l)).length:Nat):Int),kI 17 ((k:Nat):Int),kO 14 4 1 true (pl (bsl ((prT (nrM (ltR l)) (nrM (ltR l)).length k).1))),kO 800 3 1 true (pl (isl l)),kF 1,kF 11,kF 13,kF 16,kF 28,kF 29,kF 49,kF 50,kF 51,kF 52]) (fun(k:Nat)=>(nrM (ltR l)).length-k) ((0:Nat)) (by exact(Nat.zero_le _:0≤_)) (wkf id (wS<|wE (e:=(vsl (by omega) rfl))<|wE (e:=(be (by rfl)))<|wS<|wE (e:=(be (by rfl)))<|wO (e:=aJ (fun h=>h) (congrArg bsl (by rfl)))<|wP<|by(iterate 10 refine wF ?_);exact wN)) ?_
 rintro k inv1
 replace inv1:k≤(nrM (ltR l)).length:=inv1
 have hk:=inv1
 have hpl0:=lj (nrM (ltR l)) (nrM (ltR l)).length k
 refine sq (rg ?_)
 refine z ?_ (h:=fun Z=>aa Z vt vt (bA rfl))
 refine nl (sq ?_)
 refine wi (fun c2=> ?_) (fun c2=> ?_)
 ·skip
  have c2P:=of_decide_eq_true c2
  have hpl:=lj (nrM (ltR l)) (nrM (ltR l)).length k
  have hpc:=wz (nrM (ltR l)) (nrM (ltR l)).length k
  have hdk:=kT (nrM (ltR l)) ((k:Nat):Int) (nrM (ltR l)).length
  have hjl:=wx (prT (nrM (ltR l)) (nrM (ltR l)).length k).1 (dsM (nrM (ltR l)) ((k:Nat):Int) (nrM (ltR l)).length)
  refine sk (sq (bkk (sq (rg (zm (za (nl (sq (sq (rg (zm (zm ?_))))))))))))
  refine z ?_ (h:=fun Z=>ix0 Z jd mg vt (hlt:=(by omega)))
  refine z ?_ (h:=fun Z=>lB Z mh (by omega))
  refine nl ?_
  refine wi (b:=(gB ((prT (nrM (ltR l)) (nrM (ltR l)).length k).1) k)) (fun c3=> ?_) (fun c3=> ?_)
  ·skip
   have hpn:=sY c3
   refine aU (rg ?_)
   refine z ?_ (h:=fun Z=>aa Z vt vc (rA (by omega) (by omega)))
   refine zm (nl ?_)
   exact aA ((k+1)) (by show _≤_;omega) (by show(nrM (ltR l)).length-(k+1)<(nrM (ltR l)).length-k;omega) (wkf id (wS<|wE (e:=(vsl (by(exact congrArg List.length (by first |rfl |omega |(rw[hpn];done) |(rw[hpn];first |exact hje.trans hjq.symm |exact hjq.trans hje.symm |exact hje.symm |exact hje |rfl)))) rfl))<|wE (e:=(be (by(rw[hpn];done))))<|wS<|wE (e:=(be (by rfl)))<|wO (e:=aJ (fun h=>h) (congrArg bsl (by(rw[hpn];done))))<|wP<|by(iterate 10 refine wF ?_);exact wN))
  ·skip
   have hpn:=ia c3
   have h00:=EJ (prT (nrM (ltR l)) (nrM (ltR l)).length k).1 (dsM (nrM (ltR l)) ((k:Nat):Int) (nrM (ltR l)).length)
   refine sk (sq (rg (zm ?_)))
   refine z ?_ (h:=fun Z=>aa Z vt vc (rA (by omega) (by omega)))
   refine za (nl (sq (rg (zm (zm ?_)))))
   refine z ?_ (h:=fun Z=>ag Z (eK (nrM (ltR l)) ((k:Nat):Int) (by omega) (by omega) (by(intro k hk;exact sU hk)) (by omega)) (ac (ArgV.slvv _ _ _) (ac (ArgV.v vt) an)) (ResV.row _ _ _ _ 28))
   refine z ?_ (h:=fun Z=>lnS Z qt)
   refine z ?_ (h:=fun Z=>mc Z)
   refine nl (bkk ?_)
   refine bg (fun(j:Nat)=>j≤(nrM (ltR l)).length) (fun(j:Nat)=>[kV 3 (V.b (.a (.slvv 1 (vwI (nrM (ltR l)))))),kS 4 14 0 ((orT (prT (nrM (ltR l)) (nrM (ltR l)).length k).1 (dsM (nrM (ltR l)) ((k:Nat):Int) (nrM (ltR l)).length) j).length),kI 5 ((prT (nrM (ltR l)) (nrM (ltR l)).length k).2+1),kI 16 (((nrM (ltR l)).length:Nat):Int),kI 17 ((k:Nat):Int),kS 28 28 0 ((dsM (nrM (ltR l)) ((k:Nat):Int) (nrM (ltR l)).length).length),kI 29 (((dsM (nrM (ltR l)) ((k:Nat):Int) (nrM (ltR l)).length).length:Nat):Int),kI 30 ((j:Nat):Int),kO 14 4 1 true (pl (bsl (orT (prT (nrM (ltR l)) (nrM (ltR l)).length k).1 (dsM (nrM (ltR l)) ((k:Nat):Int) (nrM (ltR l)).length) j))),kO 28 3 1 true (pl (isl (dsM (nrM (ltR l)) ((k:Nat):Int) (nrM (ltR l)).length))),kO 800 3 1 true (pl (isl l)),kF 1,kF 11,kF 13,kF 16,kF 29,kF 49,kF 50,kF 51,kF 52]) (fun(j:Nat)=>(nrM (ltR l)).length-j) ((0:Nat)) (by exact(Nat.zero_le _:0≤_)) (wkf id (wS<|wE (e:=(vsl (by(exact congrArg List.length (by first |rfl |omega |exact hov |exact hov.symm |exact h00 |exact h00.symm))) rfl))<|wS<|wS<|wS<|wS<|wS<|wE (e:=(be (by rfl)))<|wO (e:=aJ (fun h=>h) (congrArg bsl (by omega)))<|wP<|wP<|by(iterate 9 refine wF ?_);exact wN)) ?_
   rintro j inv4
   replace inv4:j≤(nrM (ltR l)).length:=inv4
   have hj:=inv4
   have hjl0:=hjl j
   refine sq (rg ?_)
   refine z ?_ (h:=fun Z=>aa Z vt vt (bA rfl))
   refine nl (sq ?_)
   refine wi (fun c5=> ?_) (fun c5=> ?_)
   ·skip
    have c5P:=of_decide_eq_true c5
    have hjj:=hjl j
    have hjj1:=hjl (j+1)
    have hjs:j<(prT (nrM (ltR l)) (nrM (ltR l)).length k).1.length:=by omega
    refine sk (sq (bkk (sq (rg (zm ?_)))))
    refine z ?_ (h:=fun Z=>ix0 Z qt yj vt (hlt:=(by omega)))
    refine z ?_ (h:=fun Z=>lI Z yk (by omega))
    refine za (za (nl ?_))
    rcases Bool.eq_false_or_eq_true ((gB (orT (prT (nrM (ltR l)) (nrM (ltR l)).length k).1 (dsM (nrM (ltR l)) ((k:Nat):Int) (nrM (ltR l)).length) j) j))with c6 |c6
    ·skip
     have hov:=AG (v:=true) hjs (or_t (c:=decide (0≤gI (dsM (nrM (ltR l)) ((k:Nat):Int) (nrM (ltR l)).length) j)) c6)
     refine rg (zm (zm (zm (zm ?_))))
     refine z ?_ (h:=fun Z=>ix0 Z jd mg vt (hlt:=(by omega)))
     refine z ?_ (h:=fun Z=>ah Z mh (by exact jY ((sh (k:=j) (by omega)).trans (congrArg (fun b:Bool=>some (Value.bool b)) c6))))
     refine zm (zo (zo ?_))
     refine z ?_ (h:=fun Z=>au Z vt xc)
     refine z ?_ (h:=fun Z=>ix0 Z jd mg vt (hlt:=(by omega)))
     refine z ?_ (h:=fun _=>sB mh xt (by omega))
     refine nl (rg ?_)
     refine z ?_ (h:=fun Z=>aa Z vt vc (rA (by omega) (by omega)))
     refine zm (nl ?_)
     exact aA ((j+1)) (by show _≤_;omega) (by show(nrM (ltR l)).length-(j+1)<(nrM (ltR l)).length-j;omega) (wkf id (wS<|wE (e:=(vsl (by omega) rfl))<|wS<|wS<|wS<|wS<|wS<|wE (e:=(be (by rfl)))<|wO (e:=aJ (fun h=>h) (congrArg bsl (by exact hov.symm)))<|wP<|wP<|by(iterate 9 refine wF ?_);exact wN))
    ·skip
     have hov:=AG hjs (or_f (c:=decide (0≤gI (dsM (nrM (ltR l)) ((k:Nat):Int) (nrM (ltR l)).length) j)) c6)
     refine rg (zm (zm (zm (zm ?_))))
     refine z ?_ (h:=fun Z=>ix0 Z jd mg vt (hlt:=(by omega)))
     refine z ?_ (h:=fun Z=>ah Z mh (by exact jY ((sh (k:=j) (by omega)).trans (congrArg (fun b:Bool=>some (Value.bool b)) c6))))
     refine zm ?_
     refine zg ?_ (h:=fun Z=>ae rfl rfl (mt Z))
     refine zg ?_ (h:=fun Z=>ae rfl rfl (aa Z vt vc (Fk rfl)))
     refine z ?_ (h:=fun Z=>ar Z vt xt)
     refine z ?_ (h:=fun Z=>ix0 Z jd mg vt (hlt:=(by omega)))
     refine z ?_ (h:=fun _=>sB mh xt (by omega))
     refine nl (rg ?_)
     refine z ?_ (h:=fun Z=>aa Z vt vc (rA (by omega) (by omega)))
     refine zm (nl ?_)
     exact aA ((j+1)) (by show _≤_;omega) (by show(nrM (ltR l)).length-(j+1)<(nrM (ltR l)).length-j;omega) (wkf id (wS<|wE (e:=(vsl (by omega) rfl))<|wS<|wS<|wS<|wS<|wS<|wE (e:=(be (by rfl)))<|wO (e:=aJ (fun h=>h) (congrArg bsl (by exact hov.symm)))<|wP<|wP<|by(iterate 9 refine wF ?_);exact wN))
   ·skip
    have c5P:=of_decide_eq_false c5
    have hje:=AF (s:=(prT (nrM (ltR l)) (nrM (ltR l)).length k).1) (D:=(dsM (nrM (ltR l)) ((k:Nat):Int) (nrM (ltR l)).length)) (j:=j) (by omega)
    rw[hpl]at hje
    have hjq:=AF (s:=(prT (nrM (ltR l)) (nrM (ltR l)).length k).1) (D:=(dsM (nrM (ltR l)) ((k:Nat):Int) (nrM (ltR l)).length)) (j:=(nrM (ltR l)).length) (by omega)
    rw[hpl]at hjq
    refine aU (rg ?_)
    refine z ?_ (h:=fun Z=>aa Z vt vc (rA (by omega) (by omega)))
    refine zm (nl ?_)
    exact aA ((k+1)) (by show _≤_;omega) (by show(nrM (ltR l)).length-(k+1)<(nrM (ltR l)).length-k;omega) (wkf id (wS<|wE (e:=(vsl (by(exact congrArg List.length (by first |rfl |omega |(rw[hpn];done) |(rw[hpn];first |exact hje.trans hjq.symm |exact hjq.trans hje.symm |exact hje.symm |exact hje |rfl)))) rfl))<|wE (e:=(be (by(rw[hpn];done))))<|wS<|wE (e:=(be (by rfl)))<|wO (e:=aJ (fun h=>h) (congrArg bsl (by(rw[hpn];first |exact hje.trans hjq.symm |exact hjq.trans hje.symm |exact hje.symm |exact hje |rfl))))<|wP<|by(iterate 10 refine wF ?_);exact wN))
 ·skip
  have c2P:=of_decide_eq_false c2
  have hkn:k=(nrM (ltR l)).length:=by omega
  refine aU (sq (rg (zm (za (nl (aC ?_))))))
  exact⟨_,dt,⟨by kernel_rfl,trivial⟩,dC 2 (.a (.val (.int .i64 ((prT (nrM (ltR l)) (nrM (ltR l)).length k).2)))) (.a (.val (.int .i64 (prN (lkM (ltR l)) (ltR l).length)))) (by kernel_rfl) (congrArg (fun z:Int=>B.a (.val (.int .i64 z))) (by(rw[hkn];exact pr_nr l)))⟩
end Cl
end Go.Proofs.YtgmkkfdnmdohlaaGreatDoor
