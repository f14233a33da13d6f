/- Walks over clean states, printed by wg.py. No statement is proved here. -/
import Derived.Test.YtgmkkfdnmdohlaaDoorW1
import Derived.Test.YtgmkkfdnmdohlaaDoorC1
import Derived.Test.YtgmkkfdnmdohlaaDoorClB
set_option linter.unusedSimpArgs false
set_option linter.unusedVariables false
namespace Go.Proofs.YtgmkkfdnmdohlaaDoor
namespace Cl
open Go.ChangeShapes Go.WideShapes Go.ChangeAt Go.RowKit
set_option maxRecDepth 20000

theorem qW3_fo_24_0 : fieldOff Tryd.prog 24 0 = some 0 := by kernel_rfl
theorem qW3_fo_27_0 : fieldOff Tryd.prog 27 0 = some 0 := by kernel_rfl
theorem qW3_ti_22 : TI Tryd.prog 22 false 1 := ⟨⟨_, Tryd.underlying22, rfl⟩, by kernel_rfl⟩
theorem qW3_ti_27 : TI Tryd.prog 27 true 1 := ⟨⟨_, Tryd.underlying27, rfl⟩, by kernel_rfl⟩
theorem qW3_zi_27 : ZI Tryd.prog 27 (.agg #[.slice none 0 0]) 1 24 := by unfold ZI; kernel_rfl
set_option maxHeartbeats 4000000 in
set_option maxRecDepth 100000 in
theorem laws_szRegion_fn (l : List Int) (v : Int) (hl : l.length ≤ 9223372036854775807) (hz : 0 ≤ v ∧ v ≤ 1048576) : Fn Tryd.prog 4 [.agg [(.slv l.length 1 (isl l) : A)], .a (.val (.int .i64 v))] [.val (.int .i64 (szS v l.length))] := by
 have hsc := szS_cases v l.length
 refine fn_intro (N := 12) Tryd.func4 rfl (by kernel_rfl) rfl (Nat.le_of_ble_eq_true rfl) [2, 8] (ret1 rfl) (fun W => ?_)
 show Wp _ _ _ [kV 0 (V.b (.agg [(.slv l.length 1 (isl l) : A)])), kI 1 v, kF 2, kF 8]
 refine sq (rg ?_)
 refine z ?_ (h := fun ν => acts_box (h := 2) ν xt (by exact ob1 rfl))
 refine zk (nl (sq (rg ?_)))
 refine z ?_ (h := fun ν => acts_field (off' := 0) ν qW3_fo_24_0 rfl)
 refine z ?_ (h := fun ν => acts_load_own (x := .slv l.length 1 (isl l)) ν qW3_ti_22 (by exact rfl))
 refine zm ?_
 refine z ?_ (h := fun ν => acts_call1 ν (laws_szIntS_fn l v (by omega) (by omega)) (ac (ArgV.slv _ _ _ _) (ac (ArgV.v vt) an)) rv)
 refine za (nl (sq (sq (rg (zm ?_)))))
 refine z ?_ (h := fun ν => acts_bin ν vt vc (r_lss rfl))
 refine nl ?_
 refine wi (fun c1 => ?_) (fun c1 => ?_)
 ·skip
  have c1P := of_decide_eq_true c1
  refine sq (rg (zk (nl (wp_ret' ?_))))
  exact VRes.tmp _ _ _ (by exact rfl) (bval (congrArg (Value.int .i64) (by omega)))
 ·skip
  have c1P := of_decide_eq_false c1
  refine sk (sq (rg (zm (za (nl (wp_ret' ?_))))))
  exact VRes.tmp _ _ _ (by exact rfl) (BRes.val _)

set_option maxHeartbeats 4000000 in
set_option maxRecDepth 100000 in
theorem laws_toRegion_fn (l : List Int) (hl : l.length ≤ 4194304) : Fn Tryd.prog 6 [.agg [(.slv l.length 1 (isl l) : A)]] [.reg 3 1 l.length (isl l)] := by
 refine fn_intro (N := 9) Tryd.func6 rfl (by kernel_rfl) rfl (Nat.le_of_ble_eq_true rfl) [1, 2, 3, 6] (ret1 rfl) (fun W => ?_)
 show Wp _ _ _ [kV 0 (V.b (.agg [(.slv l.length 1 (isl l) : A)])), kF 1, kF 2, kF 3, kF 6]
 refine sq (rg ?_)
 refine z ?_ (h := fun ν => acts_box (h := 1) ν xt (by exact ob1 rfl))
 refine z ?_ (h := fun ν => acts_alloc' (h := 2) (cap := 1) (s := 1) (cells := [(.val (.slice none 0 0) : A)]) ν qW3_zi_27 rfl rfl (by decide))
 refine nl (sq (rg ?_))
 refine z ?_ (h := fun ν => acts_alloc' (h := 3) (cap := 1) (s := 1) (cells := [(.val (.slice none 0 0) : A)]) ν qW3_zi_27 rfl rfl (by decide))
 refine nl (sq (rg ?_))
 refine z ?_ (h := fun ν => acts_field (off' := 0) ν qW3_fo_24_0 rfl)
 refine z ?_ (h := fun ν => acts_load_own (x := .slv l.length 1 (isl l)) ν qW3_ti_22 (by exact rfl))
 refine z ?_ (h := fun ν => acts_call1 ν (laws_toIntS_fn l (by omega)) (ac (ArgV.slv _ _ _ _) an) (ResV.row _ _ _ _ 6))
 refine z ?_ (h := fun ν => acts_field (off' := 0) ν qW3_fo_27_0 rfl)
 refine z ?_ (h := fun _ => acts_store (cells := [(.sl 6 0 l.length : A)]) qW3_ti_22 xt (by exact rfl) (by decide) (by exact ob1 rfl) (by exact Nat.le_of_ble_eq_true rfl) (by exact rfl))
 refine nl (sq (rg ?_))
 refine z ?_ (h := fun ν => acts_load_owns (xs := [(.sl 6 0 l.length : A)]) ν qW3_ti_27 rfl (by decide) rfl)
 refine z ?_ (h := fun _ => acts_store (cells := [(.sl 6 0 l.length : A)]) qW3_ti_27 xt (by exact rfl) (by decide) (by exact ob1 rfl) (by exact Nat.le_of_ble_eq_true rfl) (by exact rfl))
 refine nl (wp_ret' ?_)
 exact VRes.cells 2 27 2 ⟨27, 1, true, [(.sl 6 0 l.length : A)]⟩ _ (by kernel_rfl) (by kernel_rfl) qW3_ti_27 (Nat.le_of_ble_eq_true rfl) (breg (h := 6) (L := l) (by kernel_rfl) (by rfl) (by first | rfl | (simp; done) | (simp; omega)))

set_option maxHeartbeats 4000000 in
set_option maxRecDepth 100000 in
theorem laws_eqRegion_fn (a b : List Int) (ha : a.length ≤ 4194304) (hb : b.length ≤ 4194304) : Fn Tryd.prog 8 [.agg [(.slv a.length 1 (isl a) : A)], .agg [(.slv b.length 1 (isl b) : A)]] [.val (.bool (decide (a = b)))] := by
 refine fn_intro (N := 11) Tryd.func8 rfl (by kernel_rfl) rfl (Nat.le_of_ble_eq_true rfl) [2, 3, 9] (ret1 rfl) (fun W => ?_)
 show Wp _ _ _ [kV 0 (V.b (.agg [(.slv a.length 1 (isl a) : A)])), kV 1 (V.b (.agg [(.slv b.length 1 (isl b) : A)])), kF 2, kF 3, kF 9]
 refine sq (rg ?_)
 refine z ?_ (h := fun ν => acts_box (h := 2) ν xt (by exact ob1 rfl))
 refine z ?_ (h := fun ν => acts_box (h := 3) ν xt (by exact ob1 rfl))
 refine zk (nl (sq (sq (rg ?_))))
 refine z ?_ (h := fun ν => acts_field (off' := 0) ν qW3_fo_27_0 rfl)
 refine z ?_ (h := fun ν => acts_load_own (x := .slv a.length 1 (isl a)) ν qW3_ti_22 (by exact rfl))
 refine z ?_ (h := fun ν => acts_field (off' := 0) ν qW3_fo_27_0 rfl)
 refine z ?_ (h := fun ν => acts_load_own (x := .slv b.length 1 (isl b)) ν qW3_ti_22 (by exact rfl))
 refine z ?_ (h := fun ν => acts_call1 ν (laws_eqIntS_fn a b (by omega) (by omega)) (ac (ArgV.slv _ _ _ _) (ac (ArgV.slv _ _ _ _) an)) rv)
 refine z ?_ (h := fun ν => acts_un ν vt (r_not rfl))
 refine nl ?_
 refine wi (b := (!(decide (a = b)))) (fun c1 => ?_) (fun c1 => ?_)
 ·skip
  have c2 : decide (a = b) = false := by first | (rw [← Bool.not_eq_true']; exact c1) | simpa using c1
  have c2P := of_decide_eq_false c2
  refine sq (rg (zk (nl (wp_ret' ?_))))
  exact VRes.tmp _ _ _ (by exact rfl) (bval (congrArg Value.bool (by first | (simp_all; done) | (rw [decide_eq_false (by assumption)]; done) | (rw [decide_eq_true (by assumption)]; done))))
 ·skip
  have c3 : decide (a = b) = true := by first | (rw [← Bool.not_eq_false']; exact c1) | simpa using c1
  have c3P := of_decide_eq_true c3
  refine sk (sq (rg (zk (nl (wp_ret' ?_)))))
  exact VRes.tmp _ _ _ (by exact rfl) (bval (congrArg Value.bool (by first | (simp_all; done) | (rw [decide_eq_false (by assumption)]; done) | (rw [decide_eq_true (by assumption)]; done))))
end Cl
end Go.Proofs.YtgmkkfdnmdohlaaDoor
