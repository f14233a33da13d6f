/- Parts put together: W1, W3, W8. -/
import Derived.Test.YtgmkkfdnmdohlaaGreatDoorC0
import Derived.Test.YtgmkkfdnmdohlaaGreatDoorClB
import Derived.Test.YtgmkkfdnmdohlaaGreatDoorC1
import Derived.Test.YtgmkkfdnmdohlaaGreatDoorDoms
import Derived.Test.YtgmkkfdnmdohlaaGreatDoorCels
set_option linter.unusedSimpArgs false
set_option linter.unusedVariables false
set_option maxHeartbeats 4000000
set_option maxRecDepth 100000
namespace Go.Proofs.YtgmkkfdnmdohlaaGreatDoor
namespace Cl
open Go.ChangeShapes Go.WideShapes Go.ChangeAt Go.RowKit
theorem DN {α:Type} [DecidableEq α] {a b:List α} (h:a.length≠b.length):decide (a=b)=false:=decide_eq_false fun e=>h (by rw[e])
theorem DM {a b:List Dom} {k:Nat} (h:gD a k≠gD b k):decide (a=b)=false:=decide_eq_false fun e=>h (by rw[e])
theorem Af {a b:List Dom} {k:Nat} (h:∀ i,i<k→gD a i=gD b i) (hk:¬k<a.length) (hl:a.length=b.length):decide (a=b)=true:=decide_eq_true (List.ext_getElem hl fun i h1 h2=>by rw[←gl h1,←gl h2];exact h i (by omega))
theorem IV {a b:List Dom} {k:Nat} (h:∀ i,i<k→gD a i=gD b i) (h2:gD a k=gD b k):∀ i,i<k+1→gD a i=gD b i:=by
 intro i hi
 rcases Nat.lt_or_ge i k with h3 |h3
 ·exact h i h3
 ·rw[show i=k by omega];exact h2
theorem vy:Tryz.prog.eqGuardType Tryz.prog.depth 62=false:=by kernel_rfl
theorem nn:(Tryz.prog.info? 62).map (·.size)=some 3:=by kernel_rfl
theorem np:TI Tryz.prog 62 true 3:=⟨⟨_,Tryz.underlying62,rfl⟩,by kernel_rfl⟩
theorem eH:Tryz.prog.underlying 31=some (.slice 62):=Tryz.underlying31
theorem lW (a b:List Dom) (ha:a.length≤4194304) (hb:b.length≤4194304):Fn Tryz.prog 66 [.a (.slv a.length 3 (dsl a)),.a (.slv b.length 3 (dsl b))] [.val (.bool (decide (a=b)))]:=by
 refine bm (N:=26) Tryz.func66 rfl (by kernel_rfl) rfl (Nat.le_of_ble_eq_true rfl) [7,9,12] (dN rfl) (fun W=> ?_)
 show Wp _ _ _ [kV 0 (V.b (.a (.slv a.length 3 (dsl a)))),kV 1 (V.b (.a (.slv b.length 3 (dsl b)))),kF 7,kF 9,kF 12]
 refine sq (rg (zk (nl (sq (sq (rg (zm ?_)))))))
 refine z ?_ (h:=fun Z=>lnV Z eH)
 refine zm ?_
 refine z ?_ (h:=fun Z=>lnV Z eH)
 refine z ?_ (h:=fun Z=>aa Z vt vt (fv rfl))
 refine nl ?_
 refine wi (fun c1=> ?_) (fun c1=> ?_)
 ·skip
  have c1P:=of_decide_eq_true c1
  refine sq (rg (zk (nl (aC ?_))))
  exact VRes.tmp _ _ _ (by exact rfl) (ce (congrArg Value.bool (by exact(DN (by omega)).symm)))
 ·skip
  have c1P:=of_decide_eq_false c1
  refine sk (sq (sq (rg (zm ?_))))
  refine z ?_ (h:=fun Z=>lnV Z eH)
  refine z ?_ (h:=fun Z=>mc Z)
  refine nl (bkk ?_)
  refine bg (fun(k:Nat)=>k≤a.length∧∀ i,i<k→gD a i=gD b i) (fun(k:Nat)=>[kV 0 (V.b (.a (.slv a.length 3 (dsl a)))),kV 1 (V.b (.a (.slv b.length 3 (dsl b)))),kI 12 ((a.length:Nat):Int),kI 13 ((k:Nat):Int),kF 7,kF 9,kF 12]) (fun(k:Nat)=>a.length-k) ((0:Nat)) (by exact⟨Nat.zero_le _,fun i hi=>absurd hi (Nat.not_lt_zero i)⟩) (wkf id (wS<|wS<|wS<|wE (e:=(be (by rfl)))<|wF<|wF<|wF<|wN)) ?_
  rintro k inv2
  replace inv2:k≤a.length∧∀ i,i<k→gD a i=gD b i:=inv2
  obtain⟨inv2_0,inv2_1⟩:=inv2
  refine sq (rg ?_)
  refine z ?_ (h:=fun Z=>aa Z vt vt (bA rfl))
  refine nl (sq ?_)
  refine wi (fun c3=> ?_) (fun c3=> ?_)
  ·skip
   have c3P:=of_decide_eq_true c3
   refine sk (sq (bkk (sq (rg (zm (za (nl (sq (ch (zdm (zdm ?_)))))))))))
   refine zd ?_ (h:=fun Z=>ixv Z eH nn vt)
   refine zd ?_ (h:=fun Z=>uD Z np)
   refine zdm (zdm ?_)
   refine zd ?_ (h:=fun Z=>ixv Z eH nn vt)
   refine zd ?_ (h:=fun Z=>uD Z np)
   refine zd ?_ (h:=fun Z=>aa Z va va (eN vy (fun w=>(cw ((gD a k).x) ((gD a k).y) ((gD a k).d) ((gD b k).x) ((gD b k).y) ((gD b k).d) w).trans (congrArg (fun z=>Result.ok (Value.bool z) w) (rfl:(!(dEq ((gD a k).x) ((gD a k).y) ((gD a k).d) ((gD b k).x) ((gD b k).y) ((gD b k).d)))=(!(dEq ((gD a k).x) ((gD a k).y) ((gD a k).d) ((gD b k).x) ((gD b k).y) ((gD b k).d))))))))
   refine bG ?_
   refine wi (b:=(!(dEq ((gD a k).x) ((gD a k).y) ((gD a k).d) ((gD b k).x) ((gD b k).y) ((gD b k).d)))) (fun c4=> ?_) (fun c4=> ?_)
   ·skip
    have c5:(dEq ((gD a k).x) ((gD a k).y) ((gD a k).d) ((gD b k).x) ((gD b k).y) ((gD b k).d))=false:=by first |(rw[←Bool.not_eq_true'];exact c4) |simpa using c4
    rw[em,decide_eq_false_iff_not]at c5
    refine sq (rg (zk (nl (aC ?_))))
    exact VRes.tmp _ _ _ (by exact rfl) (ce (congrArg Value.bool (by exact(DM (k:=k) (by assumption)).symm)))
   ·skip
    have c6:(dEq ((gD a k).x) ((gD a k).y) ((gD a k).d) ((gD b k).x) ((gD b k).y) ((gD b k).d))=true:=by first |(rw[←Bool.not_eq_false'];exact c4) |simpa using c4
    rw[em,decide_eq_true_eq]at c6
    refine sk (rg ?_)
    refine z ?_ (h:=fun Z=>aa Z vt vc rA)
    refine zm (nl ?_)
    exact aA ((k+1)) (by exact⟨by omega,IV (by assumption) (by assumption)⟩) (by show a.length-(k+1)<a.length-k;omega) (wkf id (wS<|wS<|wS<|wE (e:=(be (by rfl)))<|wF<|wF<|wF<|wN))
  ·skip
   have c3P:=of_decide_eq_false c3
   refine aU (sq (rg (zk (nl (aC ?_)))))
   exact VRes.tmp _ _ _ (by exact rfl) (ce (congrArg Value.bool (by exact(Af (k:=k) (by assumption) (by omega) (by omega)).symm)))
theorem fd (a b:List Dom) (ha:a.length≤4194304) (hb:b.length≤4194304):Fn Tryz.prog 24 [.a (.slv a.length 3 (dsl a)),.a (.slv b.length 3 (dsl b))] [.val (.bool (decide (a=b)))]:=by
 refine bm (N:=26) Tryz.func24 rfl (by kernel_rfl) rfl (Nat.le_of_ble_eq_true rfl) [7,9,13] (dN rfl) (fun W=> ?_)
 show Wp _ _ _ [kV 0 (V.b (.a (.slv a.length 3 (dsl a)))),kV 1 (V.b (.a (.slv b.length 3 (dsl b)))),kF 7,kF 9,kF 13]
 refine sq (rg (zk (nl (sq (sq (rg (zm ?_)))))))
 refine z ?_ (h:=fun Z=>lnV Z eH)
 refine zm ?_
 refine z ?_ (h:=fun Z=>lnV Z eH)
 refine z ?_ (h:=fun Z=>aa Z vt vt (fv rfl))
 refine nl ?_
 refine wi (fun c1=> ?_) (fun c1=> ?_)
 ·skip
  have c1P:=of_decide_eq_true c1
  refine sq (rg (zk (nl (aC ?_))))
  exact VRes.tmp _ _ _ (by exact rfl) (ce (congrArg Value.bool (by exact(DN (by omega)).symm)))
 ·skip
  have c1P:=of_decide_eq_false c1
  refine sk (sq (sq (rg (zk (nl (bkk ?_))))))
  refine bg (fun(k:Nat)=>k≤a.length∧∀ i,i<k→gD a i=gD b i) (fun(k:Nat)=>[kV 0 (V.b (.a (.slv a.length 3 (dsl a)))),kV 1 (V.b (.a (.slv b.length 3 (dsl b)))),kI 5 ((k:Nat):Int),kF 7,kF 9,kF 13]) (fun(k:Nat)=>a.length-k) ((0:Nat)) (by exact⟨Nat.zero_le _,fun i hi=>absurd hi (Nat.not_lt_zero i)⟩) (wkf id (wS<|wS<|wE (e:=(be (by rfl)))<|wF<|wF<|wF<|wN)) ?_
  rintro k inv2
  replace inv2:k≤a.length∧∀ i,i<k→gD a i=gD b i:=inv2
  obtain⟨inv2_0,inv2_1⟩:=inv2
  refine sq (sq (rg (zm (zm ?_))))
  refine z ?_ (h:=fun Z=>lnV Z eH)
  refine z ?_ (h:=fun Z=>aa Z vt vt (bA rfl))
  refine nl ?_
  refine wi (fun c3=> ?_) (fun c3=> ?_)
  ·skip
   have c3P:=of_decide_eq_true c3
   refine sk (sq (bkk (sq (ch (zdm (zdm ?_))))))
   refine zd ?_ (h:=fun Z=>ixv Z eH nn vt)
   refine zd ?_ (h:=fun Z=>uD Z np)
   refine zdm (zdm ?_)
   refine zd ?_ (h:=fun Z=>ixv Z eH nn vt)
   refine zd ?_ (h:=fun Z=>uD Z np)
   refine zd ?_ (h:=fun Z=>aa Z va va (eN vy (fun w=>(cw ((gD a k).x) ((gD a k).y) ((gD a k).d) ((gD b k).x) ((gD b k).y) ((gD b k).d) w).trans (congrArg (fun z=>Result.ok (Value.bool z) w) (rfl:(!(dEq ((gD a k).x) ((gD a k).y) ((gD a k).d) ((gD b k).x) ((gD b k).y) ((gD b k).d)))=(!(dEq ((gD a k).x) ((gD a k).y) ((gD a k).d) ((gD b k).x) ((gD b k).y) ((gD b k).d))))))))
   refine bG ?_
   refine wi (b:=(!(dEq ((gD a k).x) ((gD a k).y) ((gD a k).d) ((gD b k).x) ((gD b k).y) ((gD b k).d)))) (fun c4=> ?_) (fun c4=> ?_)
   ·skip
    have c5:(dEq ((gD a k).x) ((gD a k).y) ((gD a k).d) ((gD b k).x) ((gD b k).y) ((gD b k).d))=false:=by first |(rw[←Bool.not_eq_true'];exact c4) |simpa using c4
    rw[em,decide_eq_false_iff_not]at c5
    refine sq (rg (zk (nl (aC ?_))))
    exact VRes.tmp _ _ _ (by exact rfl) (ce (congrArg Value.bool (by exact(DM (k:=k) (by assumption)).symm)))
   ·skip
    have c6:(dEq ((gD a k).x) ((gD a k).y) ((gD a k).d) ((gD b k).x) ((gD b k).y) ((gD b k).d))=true:=by first |(rw[←Bool.not_eq_false'];exact c4) |simpa using c4
    rw[em,decide_eq_true_eq]at c6
    refine sk (rg (zm ?_))
    refine z ?_ (h:=fun Z=>aa Z vt vc rA)
    refine za (nl ?_)
    exact aA ((k+1)) (by exact⟨by omega,IV (by assumption) (by assumption)⟩) (by show a.length-(k+1)<a.length-k;omega) (wkf id (wS<|wS<|wE (e:=(be (by rfl)))<|wF<|wF<|wF<|wN))
  ·skip
   have c3P:=of_decide_eq_false c3
   refine aU (sq (rg (zk (nl (aC ?_)))))
   exact VRes.tmp _ _ _ (by exact rfl) (ce (congrArg Value.bool (by exact(Af (k:=k) (by assumption) (by omega) (by omega)).symm)))
end Cl
end Go.Proofs.YtgmkkfdnmdohlaaGreatDoor
