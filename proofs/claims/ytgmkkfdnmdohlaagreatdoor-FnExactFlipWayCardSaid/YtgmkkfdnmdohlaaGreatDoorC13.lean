/- Walks over clean states, printed by wg.py. No statement is proved here. -/
import Derived.Test.YtgmkkfdnmdohlaaGreatDoorC11
import Derived.Test.YtgmkkfdnmdohlaaGreatDoorC12
import Derived.Test.YtgmkkfdnmdohlaaGreatDoorC3w
import Derived.Test.YtgmkkfdnmdohlaaGreatDoorClB
set_option linter.unusedSimpArgs false
set_option linter.unusedVariables false
namespace Go.Proofs.YtgmkkfdnmdohlaaGreatDoor
namespace Cl
open Go.ChangeShapes Go.WideShapes Go.ChangeAt Go.RowKit
set_option maxRecDepth 20000

theorem cntR_yes {l : List Int} (h : regOk l = true) : cntR l = cnt (regSet l) := by unfold cntR; rw [if_pos h]
theorem cntR_no {l : List Int} (h : regOk l = false) : cntR l = 0 := by unfold cntR; rw [h]; rfl
theorem qC13_ti_29 : TI Tryz.prog 29 true 1 := ⟨⟨_, Tryz.underlying29, rfl⟩, by kernel_rfl⟩
set_option maxHeartbeats 4000000 in
set_option maxRecDepth 100000 in
theorem impl_CountTilings_fn (l : List Int) (hl : l.length ≤ 4194304) : Fn Tryz.prog 62 [.agg [(.slv l.length 1 (isl l) : A)]] [.val (.int .i64 (((cntR l) : Nat) : Int))] := by
 refine fn_intro (N := 9) Tryz.func62 rfl (by kernel_rfl) rfl (Nat.le_of_ble_eq_true rfl) [1, 4, 7, 8] (ret1 rfl) (fun W => ?_)
 show Wp _ _ _ [kV 0 (V.b (.agg [(.slv l.length 1 (isl l) : A)])), kF 1, kF 4, kF 7, kF 8]
 refine sq (rg ?_)
 refine z ?_ (h := fun ν => acts_box (h := 1) ν xt (by exact ob1 rfl))
 refine zk (nl (sq (sq (rg ?_))))
 refine z ?_ (h := fun ν => acts_load_owns (xs := [(.slv l.length 1 (isl l) : A)]) ν qC13_ti_29 rfl (by decide) rfl)
 refine z ?_ (h := fun ν => acts_call1 ν (impl_RegionOk_fn l (by first | omega | assumption | exact regSet_lt (by assumption))) (ac (ArgV.regv _ _ 1 _) an) rv)
 refine z ?_ (h := fun ν => acts_un ν vt (r_not rfl))
 refine nl ?_
 refine wi (b := (!(regOk l))) (fun c1 => ?_) (fun c1 => ?_)
 ·skip
  have c2 : (regOk l) = false := by first | (rw [← Bool.not_eq_true']; exact c1) | simpa using c1
  refine sq (rg (zk (nl (wp_ret' ?_))))
  exact VRes.tmp _ _ _ (by exact rfl) (bval (congrArg (Value.int .i64) (by first | (rw [cntR_no (by assumption)]; rfl) | rw [cntR_yes (by assumption)])))
 ·skip
  have c3 : (regOk l) = true := by first | (rw [← Bool.not_eq_false']; exact c1) | simpa using c1
  refine sk (sq (rg ?_))
  refine z ?_ (h := fun ν => acts_load_owns (xs := [(.slv l.length 1 (isl l) : A)]) ν qC13_ti_29 rfl (by decide) rfl)
  refine z ?_ (h := fun ν => acts_call1 ν (impl_Region__set_fn l (by first | omega | assumption | exact regSet_lt (by assumption))) (ac (ArgV.regv _ _ 1 _) an) rv)
  refine z ?_ (h := fun ν => acts_call1 ν (impl_set__count_fn (regSet l) (by first | omega | assumption | exact regSet_lt (by assumption))) (ac (ArgV.v vt) an) rv)
  refine za (nl (wp_ret' ?_))
  exact VRes.tmp _ _ _ (by exact rfl) (bval (congrArg (Value.int .i64) (by first | (rw [cntR_no (by assumption)]; rfl) | rw [cntR_yes (by assumption)])))

set_option maxHeartbeats 4000000 in
set_option maxRecDepth 100000 in
theorem spec_CountTilings_fn (l : List Int) (hl : l.length ≤ 4194304) : Fn Tryz.prog 25 [.agg [(.slv l.length 1 (isl l) : A)]] [.val (.int .i64 (((cntR l) : Nat) : Int))] := by
 refine fn_intro (N := 8) Tryz.func25 rfl (by kernel_rfl) rfl (Nat.le_of_ble_eq_true rfl) [1, 4, 7] (ret1 rfl) (fun W => ?_)
 show Wp _ _ _ [kV 0 (V.b (.agg [(.slv l.length 1 (isl l) : A)])), kF 1, kF 4, kF 7]
 refine sq (rg ?_)
 refine z ?_ (h := fun ν => acts_box (h := 1) ν xt (by exact ob1 rfl))
 refine zk (nl (sq (sq (rg ?_))))
 refine z ?_ (h := fun ν => acts_load_owns (xs := [(.slv l.length 1 (isl l) : A)]) ν qC13_ti_29 rfl (by decide) rfl)
 refine z ?_ (h := fun ν => acts_call1 ν (spec_RegionOk_fn l (by first | omega | assumption | exact regSet_lt (by assumption))) (ac (ArgV.regv _ _ 1 _) an) rv)
 refine z ?_ (h := fun ν => acts_un ν vt (r_not rfl))
 refine nl ?_
 refine wi (b := (!(regOk l))) (fun c1 => ?_) (fun c1 => ?_)
 ·skip
  have c2 : (regOk l) = false := by first | (rw [← Bool.not_eq_true']; exact c1) | simpa using c1
  refine sq (rg (zk (nl (wp_ret' ?_))))
  exact VRes.tmp _ _ _ (by exact rfl) (bval (congrArg (Value.int .i64) (by first | (rw [cntR_no (by assumption)]; rfl) | rw [cntR_yes (by assumption)])))
 ·skip
  have c3 : (regOk l) = true := by first | (rw [← Bool.not_eq_false']; exact c1) | simpa using c1
  refine sk (sq (rg ?_))
  refine z ?_ (h := fun ν => acts_load_owns (xs := [(.slv l.length 1 (isl l) : A)]) ν qC13_ti_29 rfl (by decide) rfl)
  refine z ?_ (h := fun ν => acts_call1 ν (spec_l07Count_fn l (by first | omega | assumption | exact regSet_lt (by assumption))) (ac (ArgV.regv _ _ 1 _) an) rv)
  refine za (nl (wp_ret' ?_))
  exact VRes.tmp _ _ _ (by exact rfl) (bval (congrArg (Value.int .i64) (by first | (rw [cntR_no (by assumption)]; rfl) | rw [cntR_yes (by assumption)])))
end Cl
end Go.Proofs.YtgmkkfdnmdohlaaGreatDoor
