/- Walks over clean states, printed by wg.py. No statement is proved here. -/
import Derived.Test.YtgmkkfdnmdohlaaDoorW3
import Derived.Test.YtgmkkfdnmdohlaaDoorDoms
import Derived.Test.YtgmkkfdnmdohlaaDoorCels
import Derived.Test.YtgmkkfdnmdohlaaDoorClB
set_option linter.unusedSimpArgs false
set_option linter.unusedVariables false
namespace Go.Proofs.YtgmkkfdnmdohlaaDoor
namespace Cl
open Go.ChangeShapes Go.WideShapes Go.ChangeAt Go.RowKit
set_option maxRecDepth 20000

theorem eqD_no {a b : List Dom} {k : Nat} (h : gD a k ≠ gD b k) : decide (a = b) = false := decide_eq_false fun e => h (by rw [e])
theorem eqD_yes {a b : List Dom} {k : Nat} (h : ∀ i, i < k → gD a i = gD b i) (hk : ¬ k < a.length) (hl : a.length = b.length) : decide (a = b) = true := decide_eq_true (List.ext_getElem hl fun i h1 h2 => by rw [← gD_eq h1, ← gD_eq h2]; exact h i (by omega))
theorem eqD_s {a b : List Dom} {k : Nat} (h : ∀ i, i < k → gD a i = gD b i) (h2 : gD a k = gD b k) : ∀ i, i < k + 1 → gD a i = gD b i := by
  intro i hi
  rcases Nat.lt_or_ge i k with h3 | h3
  · exact h i h3
  · rw [show i = k by omega]; exact h2
theorem qW8_eg_63 : Tryd.prog.eqGuardType Tryd.prog.depth 63 = false := by kernel_rfl
theorem qW8_sz_63 : (Tryd.prog.info? 63).map (·.size) = some 3 := by kernel_rfl
theorem qW8_ti_63 : TI Tryd.prog 63 true 3 := ⟨⟨_, Tryd.underlying63, rfl⟩, by kernel_rfl⟩
theorem qW8_un_42 : Tryd.prog.underlying 42 = some (.slice 63) := Tryd.underlying42
set_option maxHeartbeats 4000000 in
set_option maxRecDepth 100000 in
theorem spec_SameDominoes_fn (a b : List Dom) (ha : a.length ≤ 4194304) (hb : b.length ≤ 4194304) : Fn Tryd.prog 20 [.a (.slv a.length 3 (dsl a)), .a (.slv b.length 3 (dsl b))] [.val (.bool (decide (a = b)))] := by
 refine fn_intro (N := 26) Tryd.func20 rfl (by kernel_rfl) rfl (Nat.le_of_ble_eq_true rfl) [7, 9, 13] (ret1 rfl) (fun W => ?_)
 show Wp _ _ _ [kV 0 (V.b (.a (.slv a.length 3 (dsl a)))), kV 1 (V.b (.a (.slv b.length 3 (dsl b)))), kF 7, kF 9, kF 13]
 refine sq (rg (zk (nl (sq (sq (rg (zm ?_)))))))
 refine z ?_ (h := fun ν => lnV ν qW8_un_42)
 refine zm ?_
 refine z ?_ (h := fun ν => lnV ν qW8_un_42)
 refine z ?_ (h := fun ν => acts_bin ν vt vt (r_neq rfl))
 refine nl ?_
 refine wi (fun c1 => ?_) (fun c1 => ?_)
 ·skip
  have c1P := of_decide_eq_true c1
  refine sq (rg (zk (nl (wp_ret' ?_))))
  exact VRes.tmp _ _ _ (by exact rfl) (bval (congrArg Value.bool (by exact (eq_len (by omega)).symm)))
 ·skip
  have c1P := of_decide_eq_false c1
  refine sk (sq (sq (rg (zk (nl (bkk ?_))))))
  refine wp_loop' (fun (k : Nat) => k ≤ a.length ∧ ∀ i, i < k → gD a i = gD b i) (fun (k : Nat) => [kV 0 (V.b (.a (.slv a.length 3 (dsl a)))), kV 1 (V.b (.a (.slv b.length 3 (dsl b)))), kI 5 ((k : Nat) : Int), kF 7, kF 9, kF 13]) (fun (k : Nat) => a.length - k) ((0 : Nat)) (by exact ⟨Nat.zero_le _, fun i hi => absurd hi (Nat.not_lt_zero i)⟩) (wkf id (wS <| wS <| wE (e := (vint (by first | rfl | omega | (simp; done) | (simp; omega)))) <| wF <| wF <| wF <| wN)) ?_
  rintro k inv2
  replace inv2 : k ≤ a.length ∧ ∀ i, i < k → gD a i = gD b i := inv2
  obtain ⟨inv2_0, inv2_1⟩ := inv2
  refine sq (sq (rg (zm (zm ?_))))
  refine z ?_ (h := fun ν => lnV ν qW8_un_42)
  refine z ?_ (h := fun ν => acts_bin ν vt vt (r_lss rfl))
  refine nl ?_
  refine wi (fun c3 => ?_) (fun c3 => ?_)
  ·skip
   have c3P := of_decide_eq_true c3
   refine sk (sq (bkk (sq (wp_dr (zdm (zdm ?_))))))
   refine zd ?_ (h := fun ν => ixv ν qW8_un_42 qW8_sz_63 vt)
   refine zd ?_ (h := fun ν => uD ν qW8_ti_63)
   refine zdm (zdm ?_)
   refine zd ?_ (h := fun ν => ixv ν qW8_un_42 qW8_sz_63 vt)
   refine zd ?_ (h := fun ν => uD ν qW8_ti_63)
   refine zd ?_ (h := fun ν => acts_bin ν va va (r_aggne qW8_eg_63 (fun w => (run_neq_dom ((gD a k).x) ((gD a k).y) ((gD a k).d) ((gD b k).x) ((gD b k).y) ((gD b k).d) w).trans (congrArg (fun z => Result.ok (Value.bool z) w) (rfl : (!(dEq ((gD a k).x) ((gD a k).y) ((gD a k).d) ((gD b k).x) ((gD b k).y) ((gD b k).d))) = (!(dEq ((gD a k).x) ((gD a k).y) ((gD a k).d) ((gD b k).x) ((gD b k).y) ((gD b k).d))))))))
   refine dw_nil ?_
   refine wi (b := (!(dEq ((gD a k).x) ((gD a k).y) ((gD a k).d) ((gD b k).x) ((gD b k).y) ((gD b k).d)))) (fun c4 => ?_) (fun c4 => ?_)
   ·skip
    have c5 : (dEq ((gD a k).x) ((gD a k).y) ((gD a k).d) ((gD b k).x) ((gD b k).y) ((gD b k).d)) = false := by first | (rw [← Bool.not_eq_true']; exact c4) | simpa using c4
    rw [dEq_dom, decide_eq_false_iff_not] at c5
    refine sq (rg (zk (nl (wp_ret' ?_))))
    exact VRes.tmp _ _ _ (by exact rfl) (bval (congrArg Value.bool (by exact (eqD_no (k := k) (by first | assumption | simp_all [dEq_dom])).symm)))
   ·skip
    have c6 : (dEq ((gD a k).x) ((gD a k).y) ((gD a k).d) ((gD b k).x) ((gD b k).y) ((gD b k).d)) = true := by first | (rw [← Bool.not_eq_false']; exact c4) | simpa using c4
    rw [dEq_dom, decide_eq_true_eq] at c6
    refine sk (rg (zm ?_))
    refine z ?_ (h := fun ν => acts_bin ν vt vc rA)
    refine za (nl ?_)
    exact loop_back ((k + 1)) (by exact ⟨by omega, eqD_s (by assumption) (by first | assumption | simp_all [dEq_dom])⟩) (by show a.length - (k + 1) < a.length - k; omega) (wkf id (wS <| wS <| wE (e := (vint (by first | rfl | omega | (simp; done) | (simp; omega)))) <| wF <| wF <| wF <| wN))
  ·skip
   have c3P := of_decide_eq_false c3
   refine wp_exit' (sq (rg (zk (nl (wp_ret' ?_)))))
   exact VRes.tmp _ _ _ (by exact rfl) (bval (congrArg Value.bool (by exact (eqD_yes (k := k) (by assumption) (by omega) (by omega)).symm)))
end Cl
end Go.Proofs.YtgmkkfdnmdohlaaDoor
