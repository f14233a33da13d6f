/- Parts put together: P1, P2. -/
import Derived.Test.YtgmkkfdnmdohlaaGreatDoorE7
import Derived.Test.YtgmkkfdnmdohlaaGreatDoorClB
set_option linter.unusedSimpArgs false
set_option linter.unusedVariables false
namespace Go.Proofs.YtgmkkfdnmdohlaaGreatDoor
namespace Cl
open Go.ChangeShapes Go.WideShapes Go.ChangeAt Go.RowKit
set_option maxRecDepth 20000
def LexN (P Q:List Dom):Prop:=∃ (C:List Dom) (f:Nat) (P' Q':List Dom),P=C++dmn f false::P'∧Q=C++dmn f true::Q'
theorem Iw:∀ n s,(tls n s).Pairwise LexN:=by
  intro n
  induction n with
  | zero=>intro s;simp [tls]
  | succ n ih=>
    intro s
    by_cases h0:s=0
    · rw[kG h0];simp
    · rw[rY h0]
      have hb:∀ b,(tlb n s b).Pairwise LexN:=by
        intro b;unfold tlb;split
        · refine List.Pairwise.map _ (fun P Q h=> ?_) (ih _)
          obtain⟨C,f,P',Q',rfl,rfl⟩:=h
          exact⟨dmn (aF s) b::C,f,P',Q',rfl,rfl⟩
        · exact List.Pairwise.nil
      refine List.pairwise_append.2 ⟨hb _,hb _,fun P hP Q hQ=> ?_⟩
      cases P with
      | nil=>exact absurd hP rX
      | cons d P=>
        cases Q with
        | nil=>exact absurd hQ rX
        | cons e Q=>
          have h1:=(nt.1 hP).2.1
          have h2:=(nt.1 hQ).2.1
          exact⟨[],aF s,P,Q,by rw[h1];rfl,by rw[h2];rfl⟩
theorem FN:∀ (P:List Dom) (s:Nat),vL s P→2*P.length=jC s:=by
  intro P
  induction P with
  | nil=>intro s h;have h:s=0:=h;subst h;show 2*0=jC 0;decide
  | cons d P ih=>
    intro s ⟨_,h1,_,h3⟩
    have:=ih _ h3
    have:=gr h1
    simp only[List.length_cons];omega
theorem Bf {s:Nat} {P:List Dom} (hs:s<18446744073709551616) (h:TilS s P):2*P.length=jC s:=FN P s ((wL hs).2 h)
theorem Hm {l:List Int} {i j:Nat} (hij:i<j) (hj:j<(ltR l).length):LexN (gLd (ltR l) i) (gLd (ltR l) j):=by
  rw[cI (by omega),cI hj]
  have : (ltR l).Pairwise LexN := by unfold ltR;split
                                     · exact Iw _ _
                                     · exact List.Pairwise.nil
  exact List.pairwise_iff_getElem.1 this i j (by omega) hj hij
theorem FT {n s:Nat} (hs:s<18446744073709551616) (hp:jC s<2*n):tls n s=[]↔cnt s=0:=by
 rw[←wM n s hs hp]
 exact List.length_eq_zero_iff.symm
theorem CP:∀ (n s:Nat),s<18446744073709551616→jC s<2*n→0<cnt s→gLd (tls n s) 0=ftl n s:=by
  intro n
  induction n with
  | zero=>intro s _ h;omega
  | succ n ih=>
    intro s hs hp hc
    by_cases h0:s=0
    · rw[kG h0,ftl,if_pos h0];rfl
    · obtain⟨h1,h2⟩:=HC hs h0 hc
      have hq:=gr h1
      have hi:=ih _ (ff hs) (by omega) h2
      have hne:tls n (andn s (domS (pick s)))≠[]:=fun e=>by rw[FT (ff hs) (by omega)]at e;omega
      rw[rY h0,ftl,if_neg h0]
      obtain⟨P,L,hL⟩:=List.exists_cons_of_ne_nil hne
      rw[hL]at hi
      have hi:P=ftl n (andn s (domS (pick s))):=hi
      have hb:∀ b,pick s=dmn (aF s) b→tlb n s b=(pick s::P)::L.map (pick s:: ·):=fun b e=>by
        unfold tlb;rw[←e,if_pos h1,hL];rfl
      by_cases hk:(dZ s (dmn (aF s) false)&& !decide (cnt (andn s (domS (dmn (aF s) false)))=0))=true
      · have e:pick s=dmn (aF s) false:=by unfold pick;rw[if_pos hk]
        rw[hb _ e,←hi];rfl
      · have e:pick s=dmn (aF s) true:=by unfold pick;rw[if_neg hk]
        have hz:tlb n s false=[]:=by
          unfold tlb;split
          · rename_i hf
            have hq2:=gr hf
            rw[hf,Bool.true_and,Bool.not_eq_true',decide_eq_false_iff_not,Classical.not_not]at hk
            rw[(FT (ff hs) (by omega)).2 hk];rfl
          · rfl
        rw[hz,hb _ e,←hi];rfl
theorem Bw (i:Nat):∀ (P:List Dom) (s:Nat),(∀ d∈P,okD d=true)→(P.foldl cov1 s).testBit i=(s.testBit i||P.any (fun d=>cin d i)):=by
  intro P
  induction P with
  | nil=>intro s _;simp
  | cons d P ih=>
    intro s h
    rw[List.foldl_cons,ih _ (fun e he=>h e (by simp [he])),List.any_cons]
    unfold cov1;rw[if_pos (h d (by simp)),Nat.testBit_or,rI,Bool.or_assoc]
theorem xe {P:List Dom} (h:∀ d∈P,okD d=true) (i:Nat):(lQ P).testBit i=P.any (fun d=>cin d i):=by
 unfold lQ;rw[Bw i P 0 h];simp
theorem Iu {s:Nat} {P:List Dom} (h:TilS s P):lQ P=s:=by
 apply Nat.eq_of_testBit_eq;intro i
 rw[xe h.ok]
 have:=h.cv i
 cases e:s.testBit i
 ·rw[e]at this
  rw[List.any_eq_false]
  intro d hd hc
  have:=oG hd hc
  simp at*;omega
 ·rw[e]at this
  obtain⟨d,hd,hc⟩:=Dx (P:=P) (i:=i) (by rw[this];decide)
  exact List.any_eq_true.2 ⟨d,hd,hc⟩
theorem Be {s:Nat} {P:List Dom} (h:TilS s P) {d:Dom} (hd:d∈P) {i:Nat} (hc:cin d i=true):s.testBit i=true:=by
 have hp:=oG hd hc
 rw[h.cv]at hp
 cases hz:s.testBit i
 ·rw[hz]at hp;simp at hp
 ·rfl
theorem ns {l:List Int} {P:List Dom} (ho:bj l=true) (h:TilS (ao l) P):qT l P=true:=by
 have hn:=sb h.so
 have hcov:∀ k,k<P.length→∀ i,cin (gD P k) i=true→(lQ (P.take k)).testBit i=false:=fun k hk i hc=>by
  rw[xe (fun d hd=>h.ok d (List.mem_of_mem_take hd)),List.any_eq_false]
  intro d hd hcd
  have e:=mA h (List.mem_of_mem_take hd) (nP hk) hcd hc
  obtain⟨j,hj,rfl⟩:=List.getElem_of_mem hd
  rw[List.length_take]at hj
  rw[List.getElem_take,gl hk]at e
  have:=(List.getElem_inj hn).1 e
  omega
 unfold qT
 rw[Iu h,decide_eq_true rfl,Bool.and_true]
 unfold qS parT
 rw[ho,Bool.true_and,List.all_eq_true]
 intro k hk
 have hk:k<P.length:=by simpa using hk
 have hok:=h.ok _ (nP hk)
 unfold tP
 rw[hok,Bool.true_and,sz,Be h (nP hk) (nD _),Be h (nP hk) (xa _),hcov k hk _ (nD _),hcov k hk _ (xa _)]
 rcases Nat.eq_zero_or_pos k with rfl |hp
 ·rfl
 ·have hso:=List.pairwise_iff_getElem.1 h.so (k-1) k (by omega) hk (by omega)
  rw[←gl (by omega),←gl hk]at hso
  unfold bef
  rw[h.ok _ (nP (by omega)),hok,decide_eq_true hso];simp
theorem Er {a:List (List Dom)} (hn:a.Nodup) {k:Nat} (hk:k<a.length):ixT a (gLd a k)=(k:Int):=by
 refine(wk hk (fun i hi e=> ?_) rfl).symm
 have:i=k:=by
  rw[cI (by omega),cI hk]at e
  exact(List.getElem_inj hn).1 e
 omega
theorem Gl {P Q:List Dom} (h1:SO P) (h2:SO Q) (hp:P.Perm Q):P=Q:=hp.eq_of_pairwise (fun a b _ _ h h'=>absurd h (by omega)) h1 h2
theorem lk {c:Cel} (b:Bool):cin (pr0 c b) (idx c)=true:=nD (pr0 c b)
theorem mI {s:Nat} {P:List Dom} {c:Cel} (h:TilS s P) (hc:cS P c.x c.y=true):cS (aR P c) c.x c.y=true∧aR (aR P c) c=P:=by
 have hQ:=gJ h hc
 have e0:aR P c=lz P c:=by unfold aR;rw[if_pos hc]
 obtain⟨p1,p2,m0,m1⟩:=eP h hc
 rw[←e0]at p2
 have hb:=jF hc
 have q0:pr0 c (acB P c.x c.y)∈aR P c:=p2.mem_iff.2 (by simp)
 have q1:pr1 c (acB P c.x c.y)∈aR P c:=p2.mem_iff.2 (by simp)
 have hac:acB (aR P c) c.x c.y= !(acB P c.x c.y):=by
  revert q0 q1
  cases e:acB P c.x c.y
  ·intro q0 q1
   show(eJ _ _ _ _&&eJ _ _ _ _)=true
   rw[Bool.and_eq_true,eR,eR];exact⟨q0,q1⟩
  ·intro q0 _
   show(eJ _ _ _ _&&eJ _ _ _ _)=false
   rw[Bool.and_eq_false_iff]
   left
   rw[Bool.eq_false_iff]
   intro hh
   have:=mA hQ q0 (eR.1 hh) (lk true) (lk false)
   unfold pr0 at this;simp at this
 have hcan:cS (aR P c) c.x c.y=true:=by
  unfold cS at hc⊢
  simp only[Bool.and_eq_true,Bool.or_eq_true]at hc⊢
  refine⟨hc.1,?_⟩
  cases e:acB P c.x c.y
  ·left;rw[hac,e];rfl
  ·right;rw[e]at q0 q1
   show(eJ _ _ _ _&&eJ _ _ _ _)=true
   rw[Bool.and_eq_true,eR,eR];exact⟨q0,q1⟩
 refine⟨hcan,?_⟩
 obtain⟨r1,r2,_,_⟩:=eP hQ hcan
 have e1:aR (aR P c) c=lz (aR P c) c:=by rw[show aR (aR P c) c=if cS (aR P c) c.x c.y then lz (aR P c) c else aR P c from rfl,if_pos hcan]
 rw[e1]
 have hf:((aR P c).filter (kp (pr0 c (!(acB (aR P c) c.x c.y))) (pr1 c (!(acB (aR P c) c.x c.y))))).Perm (P.filter (kp (pr0 c (!(acB P c.x c.y))) (pr1 c (!(acB P c.x c.y))))):=by
  rw[hac,Bool.not_not]
  refine(p2.filter _).trans (List.Perm.of_eq ?_)
  rw[List.filter_cons,if_neg (by rw[uM];simp),List.filter_cons,if_neg (by rw[uM];simp),List.filter_eq_self]
  intro z hz
  rw[uM]
  simp only[Bool.and_eq_true,bne_iff_ne]
  have hzP:=(List.mem_filter.1 hz).1
  exact⟨fun e=>m0 (e▸hzP),fun e=>m1 (e▸hzP)⟩
 have hr:=r2.trans (List.Perm.cons _ (List.Perm.cons _ hf))
 rw[hac]at hr
 exact Gl (yB _) h.so (hr.trans p1.symm)
theorem GO {s:Nat} {P:List Dom} {c:Cel} (h:TilS s P) (hc:cS P c.x c.y=true):aR P c≠P:=by
 intro e
 obtain⟨_,p2,m0,_⟩:=eP h hc
 have e0:aR P c=lz P c:=by unfold aR;rw[if_pos hc]
 rw[←e0,e]at p2
 exact m0 (p2.mem_iff.2 (by simp))
end Cl
end Go.Proofs.YtgmkkfdnmdohlaaGreatDoor
