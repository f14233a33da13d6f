/- Walks. -/
import Derived.Test.YtgmkkfdnmdohlaaGreatDoorEA
import Derived.Test.YtgmkkfdnmdohlaaGreatDoorWA
import Derived.Test.YtgmkkfdnmdohlaaGreatDoorClB
set_option linter.unusedSimpArgs false
set_option linter.unusedVariables false
set_option maxHeartbeats 4000000
set_option maxRecDepth 100000
namespace Go.Proofs.YtgmkkfdnmdohlaaGreatDoor
namespace Cl
open Go.ChangeShapes Go.WideShapes Go.ChangeAt Go.RowKit
def ixT (a:List (List Dom)) (q:List Dom):Int:=if a.any (fun x=>decide (x=q))then((a.findIdx (fun x=>decide (x=q)):Nat):Int)else -1
theorem wk {a:List (List Dom)} {q:List Dom} {k:Nat} (hk:k<a.length) (h:∀ i,i<k→gLd a i≠q) (he:gLd a k=q):(k:Int)=ixT a q:=by
 unfold ixT
 have h1:a.any (fun x=>decide (x=q))=true:=List.any_eq_true.2 ⟨a[k],List.getElem_mem hk,by rw[←cI hk];exact decide_eq_true he⟩
 rw[if_pos h1]
 have:a.findIdx (fun x=>decide (x=q))=k:=by
  rw[List.findIdx_eq hk]
  refine⟨by rw[←cI hk];exact decide_eq_true he,fun j hj=> ?_⟩
  have:=h j hj
  rw[cI (by omega)]at this
  exact decide_eq_false this
 rw[this]
theorem Ep {a:List (List Dom)} {q:List Dom} {k:Nat} (hk:¬k<a.length) (h:∀ i,i<k→gLd a i≠q):(-1:Int)=ixT a q:=by
 unfold ixT
 rw[if_neg]
 intro e
 obtain⟨x,hx,hq⟩:=List.any_eq_true.1 e
 obtain⟨j,hj,rfl⟩:=List.getElem_of_mem hx
 refine h j (by omega) ?_
 rw[cI hj];exact of_decide_eq_true hq
theorem jV {a:List (List Dom)} {q:List Dom} (h:0≤ixT a q):(ixT a q).toNat<a.length∧gLd a (ixT a q).toNat=q:=by
 unfold ixT at h⊢
 split
 ·rename_i h1
  have hlt:a.findIdx (fun x=>decide (x=q))<a.length:=List.findIdx_lt_length_of_exists (by simpa using h1)
  refine⟨by simpa using hlt,?_⟩
  rw[show(((a.findIdx (fun x=>decide (x=q)):Nat):Int)).toNat=a.findIdx (fun x=>decide (x=q)) by simp,cI hlt]
  have:=List.findIdx_getElem (w:=hlt)
  exact of_decide_eq_true this
 ·rename_i h1;rw[if_neg h1]at h;omega
theorem gp (a:List (List Dom)) (q:List Dom):ixT a q<(a.length:Int)∧ -1≤ixT a q:=by
 rcases Int.lt_or_le (ixT a q) 0 with h |h
 ·refine⟨by omega,?_⟩
  unfold ixT;split<;>omega
 ·have:=(jV h).1;omega
theorem ne_s {a:List (List Dom)} {q:List Dom} {k:Nat} (h:∀ i,i<k→gLd a i≠q) (h2:gLd a k≠q):∀ i,i<k+1→gLd a i≠q:=by
 intro i hi
 rcases Nat.lt_or_ge i k with h3 |h3
 ·exact h i h3
 ·rw[show i=k by omega];exact h2
theorem Ch:(Tryz.prog.info? 31).map (·.size)=some 1:=by kernel_rfl
theorem Ci:TI Tryz.prog 31 false 1:=⟨⟨_,Tryz.underlying31,rfl⟩,by kernel_rfl⟩
theorem vh:Tryz.prog.underlying 58=some (.slice 31):=Tryz.underlying58
theorem dw (a:List (List Dom)) (q:List Dom) (ha:a.length≤4194304) (hr:∀ k,k<a.length→(gLd a k).length≤4194304) (hq:q.length≤4194304):Fn Tryz.prog 38 [.a (.slvv 3 (vwD a)),.a (.slv q.length 3 (dsl q))] [.val (.int .i64 (ixT a q))]:=by
 refine bm (N:=19) Tryz.func38 rfl (by kernel_rfl) rfl (Nat.le_of_ble_eq_true rfl) [8,16] (dN rfl) (fun W=> ?_)
 show Wp _ _ _ [kV 0 (V.b (.a (.slvv 3 (vwD a)))),kV 1 (V.b (.a (.slv q.length 3 (dsl q)))),kF 8,kF 16]
 refine sq (rg (zk (nl (sq (sq (rg (zm ?_)))))))
 refine z ?_ (h:=fun Z=>lnD Z vh)
 refine z ?_ (h:=fun Z=>mc Z)
 refine nl (bkk ?_)
 refine bg (fun(k:Nat)=>k≤a.length∧∀ i,i<k→gLd a i≠q) (fun(k:Nat)=>[kV 1 (V.b (.a (.slv q.length 3 (dsl q)))),kV 7 (V.b (.a (.slvv 3 (vwD a)))),kI 8 ((a.length:Nat):Int),kI 9 ((k:Nat):Int),kF 8,kF 16]) (fun(k:Nat)=>a.length-k) ((0:Nat)) (by exact⟨Nat.zero_le _,fun i hi=>absurd hi (Nat.not_lt_zero i)⟩) (wkf id (wS<|wS<|wS<|wE (e:=(be (by rfl)))<|wF<|wF<|wN)) ?_
 rintro k inv1
 replace inv1:k≤a.length∧∀ i,i<k→gLd a i≠q:=inv1
 obtain⟨inv1_0,inv1_1⟩:=inv1
 refine sq (rg ?_)
 refine z ?_ (h:=fun Z=>aa Z vt vt (bA rfl))
 refine nl (sq ?_)
 refine wi (fun c2=> ?_) (fun c2=> ?_)
 ·skip
  have c2P:=of_decide_eq_true c2
  refine sk (sq (bkk (sq (rg (zm ?_)))))
  refine z ?_ (h:=fun Z=>xvv Z vh Ch vt (hlt:=(by simp only[ic,fu];first |omega |assumption |exact hr _ (by omega))))
  refine z ?_ (h:=fun Z=>lvD Z Ci (by omega))
  refine za (za (nl (sq (rg (zm (zm ?_))))))
  refine z ?_ (h:=fun Z=>ag Z (lW (gLd a k) q (by exact hr _ (by omega)) (by omega)) (ac (ArgV.slv _ _ _ _) (ac (ArgV.slv _ _ _ _) an)) rv)
  refine nl ?_
  refine wi (b:=(decide ((gLd a k)=q))) (fun c3=> ?_) (fun c3=> ?_)
  ·skip
   refine sq (rg (zm (za (nl (aC ?_)))))
   exact VRes.tmp _ _ _ (by exact rfl) (ce (congrArg (Value.int .i64) (by exact wk (k:=k) (by omega) (by assumption) (by exact of_decide_eq_true (by assumption)))))
  ·skip
   refine sk (rg ?_)
   refine z ?_ (h:=fun Z=>aa Z vt vc (rA (by omega) (by omega)))
   refine zm (nl ?_)
   exact aA ((k+1)) (by exact⟨by omega,ne_s (by assumption) (by exact of_decide_eq_false (by assumption))⟩) (by show a.length-(k+1)<a.length-k;omega) (wkf id (wS<|wS<|wS<|wE (e:=(be (by rfl)))<|wF<|wF<|wN))
 ·skip
  have c2P:=of_decide_eq_false c2
  refine aU (sq (rg (zk (nl (aC ?_)))))
  exact VRes.tmp _ _ _ (by exact rfl) (ce (congrArg (Value.int .i64) (by exact Ep (k:=k) (by omega) (by assumption))))
end Cl
end Go.Proofs.YtgmkkfdnmdohlaaGreatDoor
