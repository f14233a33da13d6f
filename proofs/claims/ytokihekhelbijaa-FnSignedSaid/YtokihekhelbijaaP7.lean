/- Walks over clean states, printed by wg.py. No statement is proved here. -/
import Derived.Test.YtokihekhelbijaaP3
import Derived.Test.YtokihekhelbijaaClB
set_option linter.unusedSimpArgs false
set_option linter.unusedVariables false
namespace Go.Proofs.Ytokihekhelbijaa
namespace Cl
open Go.ChangeShapes Go.WideShapes Go.ChangeAt Go.RowKit
set_option maxRecDepth 20000

theorem qP7_fo_26_0 : fieldOff Try.prog 26 0 = some 0 := by kernel_rfl
theorem qP7_fo_52_0 : fieldOff Try.prog 52 0 = some 0 := by kernel_rfl
theorem qP7_fo_52_1 : fieldOff Try.prog 52 1 = some 1 := by kernel_rfl
theorem qP7_fo_52_2 : fieldOff Try.prog 52 2 = some 2 := by kernel_rfl
theorem qP7_sz_3 : (Try.prog.info? 3).map (·.size) = some 1 := by kernel_rfl
theorem qP7_sz_5 : (Try.prog.info? 5).map (·.size) = some 1 := by kernel_rfl
theorem qP7_ti_22 : TI Try.prog 22 false 1 := ⟨⟨_, Try.underlying22, rfl⟩, by kernel_rfl⟩
theorem qP7_ti_24 : TI Try.prog 24 false 1 := ⟨⟨_, Try.underlying24, rfl⟩, by kernel_rfl⟩
theorem qP7_ti_26 : TI Try.prog 26 true 1 := ⟨⟨_, Try.underlying26, rfl⟩, by kernel_rfl⟩
theorem qP7_ti_3 : TI Try.prog 3 false 1 := ⟨⟨_, Try.underlying3, rfl⟩, by kernel_rfl⟩
theorem qP7_ti_5 : TI Try.prog 5 false 1 := ⟨⟨_, Try.underlying5, rfl⟩, by kernel_rfl⟩
theorem qP7_un_22 : Try.prog.underlying 22 = some (.slice 5) := Try.underlying22
theorem qP7_un_24 : Try.prog.underlying 24 = some (.slice 3) := Try.underlying24
theorem qP7_un_3 : Try.prog.underlying 3 = some (.int .i64) := Try.underlying3
theorem qP7_un_5 : Try.prog.underlying 5 = some (.int .u8) := Try.underlying5
theorem qP7_zi_26 : ZI Try.prog 26 (.agg #[.slice none 0 0]) 1 24 := by unfold ZI; kernel_rfl
theorem qP7_zi_3 : ZI Try.prog 3 (.int .i64 0) 1 8 := by unfold ZI; kernel_rfl
set_option maxHeartbeats 4000000 in
set_option maxRecDepth 100000 in
theorem spec_l01New_fn (b : List Nat) (hb : b.length ≤ 1048576) (hy : ∀ x ∈ b, x < 256) : FnO Try.prog 16 [.a (.slv b.length 1 (ysl b))] [] (V.p 900 0) [(.o 900, some (.o ⟨52, 3, true, [(.slv b.length 1 (ysl b) : A), aI (((cu0 b).i : Nat) : Int), aI ((cu0 b).h)]⟩))] [] := by
 refine fn_introO (N := 32) Try.func16 rfl (by kernel_rfl) rfl (Nat.le_of_ble_eq_true rfl) rfl rfl (by kernel_rfl) (by kernel_rfl) trivial [6, 10, 31] (retO1 rfl) (fun W own kp im0 => ?_)
 show Wp _ _ _ [kV 0 (V.b (.a (.slv b.length 1 (ysl b)))), kF 6, kF 10, kF 31]
 refine sq (rg (zk (nl (sq (rg (zm ?_))))))
 refine z ?_ (h := fun ν => lnV ν qP7_un_22)
 refine z ?_ (h := fun ν => acts_bin ν vc vt (rA (by first | omega | assumption) (by first | omega | assumption)))
 refine za (nl (sq (sq (rg (zk (nl (bkk ?_)))))))
 refine wp_loop' (fun (k : Nat) => k ≤ b.length ∧ k ≤ 4000) (fun (k : Nat) => [kV 0 (V.b (.a (.slv b.length 1 (ysl b)))), kI 3 (((newF b k) : Nat) : Int), kI 4 ((k : Nat) : Int), kF 6, kF 10, kF 31]) (fun (k : Nat) => b.length - k) ((0 : Nat)) (by exact ⟨Nat.zero_le _, Nat.zero_le _⟩) (wkf id (wS <| wE (e := (vint (by first | rfl | omega | (show _ = _; unfold newF; omega)))) <| wE (e := (vint (by first | rfl | omega | (show _ = _; unfold newF; omega)))) <| wF <| wF <| wF <| wN)) ?_
 rintro k inv1
 replace inv1 : k ≤ b.length ∧ k ≤ 4000 := inv1
 obtain ⟨hk1, hk2⟩ := inv1
 have hnb := newF_bd b k
 refine sq (sq ?_)
 rcases Bool.eq_false_or_eq_true (decide (((k : Nat) : Int) < ((b.length : Nat) : Int))) with c2 | c2
 ·skip
  have c2P := of_decide_eq_true c2
  have hgy := gY_bd hy k
  refine rg (zm (zm ?_))
  refine z ?_ (h := fun ν => lnV ν qP7_un_22)
  refine z ?_ (h := fun ν => acts_bin ν vt vt (r_lss (c := true) c2))
  refine zm ?_
  refine zg ?_ (h := fun ν => step_on rfl rfl (mt ν))
  refine zg ?_ (h := fun ν => step_on rfl rfl (acts_bin ν vt vc (r_lss rfl)))
  refine z ?_ (h := fun ν => acts_pick_t ν vt xt)
  refine nl ?_
  refine wi (fun c3 => ?_) (fun c3 => ?_)
  ·skip
   have c3P := of_decide_eq_true c3
   have hgy := gY_bd hy k
   refine sk (sq (bkk (rg (zm ?_))))
   refine z ?_ (h := fun ν => acts_bin ν vt vc (rM (by first | omega | assumption) (by first | omega | assumption)))
   refine zm (zm ?_)
   refine z ?_ (h := fun ν => ixv ν qP7_un_22 qP7_sz_5 vt (hlt := (by first | omega | assumption)))
   refine z ?_ (h := fun ν => uY ν qP7_ti_5 (by first | omega | assumption))
   refine z ?_ (h := fun ν => acts_conv ν vt (r_conv (c := (((gY b k) : Nat) : Int)) qP7_un_5 qP7_un_3 (w_i64 (by first | omega | assumption) (by first | omega | assumption))))
   refine z ?_ (h := fun ν => acts_bin ν vt vt (rA (by first | omega | assumption) (by first | omega | assumption)))
   refine z ?_ (h := fun ν => acts_bin ν vt vc (rA (by first | omega | assumption) (by first | omega | assumption)))
   refine z ?_ (h := fun ν => acts_bin ν vt vc (r_and (c := (((((((newF b k) * 131) + (gY b k)) + 7) &&& 1073741823) : Nat) : Int)) (andI (m := ((((newF b k) * 131) + (gY b k)) + 7)) (n := 1073741823) (by first | rfl | omega) rfl (by first | omega | assumption | exact Nat.lt_of_le_of_lt (shr_le _ _) (by first | omega | assumption | (first | omega | assumption)) | (first | omega | assumption)) (by first | omega | assumption | exact Nat.lt_of_le_of_lt (shr_le _ _) (by first | omega | assumption | (first | omega | assumption)) | (first | omega | assumption)))))
   refine za (nl (rg (zm ?_)))
   refine z ?_ (h := fun ν => acts_bin ν vt vc (rA (by first | omega | assumption) (by first | omega | assumption)))
   refine za (nl ?_)
   exact loop_back ((k + 1)) (by exact ⟨by omega, by omega⟩) (by show b.length - (k + 1) < b.length - k; omega) (wkf id (wS <| wE (e := (vint (by first | rfl | omega | (show _ = _; unfold newF; omega)))) <| wE (e := (vint (by first | rfl | omega | (show _ = _; unfold newF; omega)))) <| wF <| wF <| wF <| wN))
  ·skip
   have c3P := of_decide_eq_false c3
   refine wp_exit' (sq (rg (zm (zm ?_))))
   refine z ?_ (h := fun ν => acts_buildC ν (by exact ⟨0, 0, _, .inr ⟨_, _, rfl⟩⟩) vt (fun _ _ _ => by kernel_rfl))
   refine z ?_ (h := fun ν => acts_box (h := 31) ν xt (by exact ob1 rfl))
   refine za (nl (wp_ret' ?_))
   exact ⟨[kP 2 900 0, kO 900 52 3 true [(.slv b.length 1 (ysl b) : A), aI 0, aI (((newF b k) : Nat) : Int)], kF 6, kF 10, kF 31], wkf (subst1 [(900, 31)]) (wS <| wX <| wF <| wF <| wF <| wN), ⟨obj_eq (c := [(.slv b.length 1 (ysl b) : A), aI 0, aI (((newF b k) : Nat) : Int)]) (by kernel_rfl) (by (have e : k = min b.length 4000 := by omega); subst e; rfl), trivial⟩, VO.tmp 2 (.a (.ptr 900 0)) (by kernel_rfl)⟩
 ·skip
  have c2P := of_decide_eq_false c2
  refine rg (zm (zm ?_))
  refine z ?_ (h := fun ν => lnV ν qP7_un_22)
  refine z ?_ (h := fun ν => acts_bin ν vt vt (r_lss (c := false) c2))
  refine zm (zo (zo ?_))
  refine z ?_ (h := fun ν => acts_pick_f ν vt xc)
  refine nl (wf (wp_exit' (sq (rg (zm (zm ?_))))))
  refine z ?_ (h := fun ν => acts_buildC ν (by exact ⟨0, 0, _, .inr ⟨_, _, rfl⟩⟩) vt (fun _ _ _ => by kernel_rfl))
  refine z ?_ (h := fun ν => acts_box (h := 31) ν xt (by exact ob1 rfl))
  refine za (nl (wp_ret' ?_))
  exact ⟨[kP 2 900 0, kO 900 52 3 true [(.slv b.length 1 (ysl b) : A), aI 0, aI (((newF b k) : Nat) : Int)], kF 6, kF 10, kF 31], wkf (subst1 [(900, 31)]) (wS <| wX <| wF <| wF <| wF <| wN), ⟨obj_eq (c := [(.slv b.length 1 (ysl b) : A), aI 0, aI (((newF b k) : Nat) : Int)]) (by kernel_rfl) (by (have e : k = min b.length 4000 := by omega); subst e; rfl), trivial⟩, VO.tmp 2 (.a (.ptr 900 0)) (by kernel_rfl)⟩

set_option maxHeartbeats 4000000 in
set_option maxRecDepth 100000 in
theorem spec_l01Byte_fn (b : List Nat) (c : Cu) (hb : b.length ≤ 1048576) (hy : ∀ x ∈ b, x < 256) (hi : c.i ≤ b.length) : FnO Try.prog 37 [.a (.ptr 1 0)] [(.o 1, some (.o ⟨52, 3, true, [(.slv b.length 1 (ysl b) : A), aI ((c.i : Nat) : Int), aI c.h]⟩))] (V.v (.int .i64 (((cuV b c) : Nat) : Int))) [(.o 1, some (.o ⟨52, 3, true, [(.slv b.length 1 (ysl b) : A), aI (((cuB b c).i : Nat) : Int), aI ((cuB b c).h)]⟩))] [1] := by
 have hml := mix_lt (hN c.h)
 have hgy := gY_bd hy c.i
 refine fn_introO (N := 58) Try.func37 rfl (by kernel_rfl) rfl (Nat.le_of_ble_eq_true rfl) rfl rfl (by kernel_rfl) (by kernel_rfl) ⟨ocs (by kernel_rfl), trivial⟩ [33] (retO1 rfl) (fun W own kp im0 => ?_)
 show Wp _ _ _ [kP 0 1 0, kO 1 52 3 true [(.slv b.length 1 (ysl b) : A), aI ((c.i : Nat) : Int), aI c.h], kF 33]
 refine sq (rg (zk (nl (sq (rg (zm (zm ?_)))))))
 refine z ?_ (h := fun ν => acts_nilck ν)
 refine z ?_ (h := fun ν => acts_field (off' := 2) ν qP7_fo_52_2 rfl)
 refine z ?_ (h := fun ν => acts_load_own (x := .val (.int .i64 c.h)) ν qP7_ti_3 (by exact rfl))
 refine z ?_ (h := fun ν => acts_bin ν vt vc (r_mul (c := (mW c.h 6364136223846793005)) rfl))
 refine z ?_ (h := fun ν => acts_bin ν vt vc (r_add (c := (aW (mW c.h 6364136223846793005) 1442695040888963407)) rfl))
 refine z ?_ (h := fun ν => acts_nilck ν)
 refine z ?_ (h := fun ν => acts_field (off' := 2) ν qP7_fo_52_2 rfl)
 refine z ?_ (h := fun _ => acts_store (cells := [(.slv b.length 1 (ysl b) : A), aI ((c.i : Nat) : Int), aI (aW (mW c.h 6364136223846793005) 1442695040888963407)]) qP7_ti_3 xt (by exact rfl) (by decide) (by exact ob1 rfl) (by exact Nat.le_of_ble_eq_true rfl) (by exact rfl))
 refine nl (sq (wp_dr (zdm ?_)))
 refine zd ?_ (h := fun ν => acts_nilck ν)
 refine zd ?_ (h := fun ν => acts_field (off' := 2) ν qP7_fo_52_2 rfl)
 refine zd ?_ (h := fun ν => acts_load_own (x := .val (.int .i64 (aW (mW c.h 6364136223846793005) 1442695040888963407))) ν qP7_ti_3 (by exact rfl))
 refine zd ?_ (h := fun ν => acts_bin ν vt vc (r_shr (c := (shrA (hN c.h))) (by omega) rfl))
 refine zdm ?_
 refine zd ?_ (h := fun ν => acts_nilck ν)
 refine zd ?_ (h := fun ν => acts_field (off' := 2) ν qP7_fo_52_2 rfl)
 refine zd ?_ (h := fun ν => acts_load_own (x := .val (.int .i64 (aW (mW c.h 6364136223846793005) 1442695040888963407))) ν qP7_ti_3 (by exact rfl))
 refine zd ?_ (h := fun ν => acts_bin ν vt vc (r_shr (c := (shrB (hN c.h))) (by omega) rfl))
 refine zd ?_ (h := fun ν => acts_bin ν vt vt (r_xor (c := (xrA (hN c.h))) rfl))
 refine zd ?_ (h := fun ν => acts_bin ν vt vc (r_and (c := ((mix (hN c.h) : Nat) : Int)) (mix_eq _)))
 refine zd ?_ (h := fun ν => gt ν)
 refine dw_nil (sq (sq (wp_dr (zdm ?_))))
 refine zd ?_ (h := fun ν => acts_nilck ν)
 refine zd ?_ (h := fun ν => acts_field (off' := 1) ν qP7_fo_52_1 rfl)
 refine zd ?_ (h := fun ν => acts_load_own (x := .val (.int .i64 ((c.i : Nat) : Int))) ν qP7_ti_3 (by exact rfl))
 refine zdm ?_
 refine zd ?_ (h := fun ν => acts_nilck ν)
 refine zd ?_ (h := fun ν => acts_field (off' := 0) ν qP7_fo_52_0 rfl)
 refine zd ?_ (h := fun ν => acts_load_own (x := .slv b.length 1 (ysl b)) ν qP7_ti_22 (by exact rfl))
 refine zd ?_ (h := fun ν => lnV ν qP7_un_22)
 refine zd ?_ (h := fun ν => acts_bin ν vt vt (r_lss rfl))
 refine dw_nil ?_
 refine wi (fun c1 => ?_) (fun c1 => ?_)
 ·skip
  have c1P := of_decide_eq_true c1
  refine sq (wp_dr (zdm (zdm ?_)))
  refine zd ?_ (h := fun ν => acts_nilck ν)
  refine zd ?_ (h := fun ν => acts_field (off' := 0) ν qP7_fo_52_0 rfl)
  refine zd ?_ (h := fun ν => acts_load_own (x := .slv b.length 1 (ysl b)) ν qP7_ti_22 (by exact rfl))
  refine zdm ?_
  refine zd ?_ (h := fun ν => acts_nilck ν)
  refine zd ?_ (h := fun ν => acts_field (off' := 1) ν qP7_fo_52_1 rfl)
  refine zd ?_ (h := fun ν => acts_load_own (x := .val (.int .i64 ((c.i : Nat) : Int))) ν qP7_ti_3 (by exact rfl))
  refine zd ?_ (h := fun ν => ixv ν qP7_un_22 qP7_sz_5 vt (hlt := (by first | omega | assumption)))
  refine zd ?_ (h := fun ν => uY ν qP7_ti_5 (by first | omega | assumption))
  refine zd ?_ (h := fun ν => acts_conv ν vt (r_conv (c := (((gY b c.i) : Nat) : Int)) qP7_un_5 qP7_un_3 (w_i64 (by first | omega | assumption) (by first | omega | assumption))))
  refine zd ?_ (h := fun ν => acts_bin ν vt vt (rA (by first | omega | assumption) (by first | omega | assumption)))
  refine zd ?_ (h := fun ν => acts_bin ν vt vc (r_and (c := (((((mix (hN c.h)) + (gY b c.i)) &&& 255) : Nat) : Int)) (andI (m := ((mix (hN c.h)) + (gY b c.i))) (n := 255) (by first | rfl | omega) rfl (by first | omega | assumption | exact Nat.lt_of_le_of_lt (shr_le _ _) (by first | omega | assumption | (first | omega | assumption)) | (first | omega | assumption)) (by first | omega | assumption | exact Nat.lt_of_le_of_lt (shr_le _ _) (by first | omega | assumption | (first | omega | assumption)) | (first | omega | assumption)))))
  refine zd ?_ (h := fun ν => gt ν)
  refine dw_nil (rg (zm (zm ?_)))
  refine z ?_ (h := fun ν => acts_nilck ν)
  refine z ?_ (h := fun ν => acts_field (off' := 1) ν qP7_fo_52_1 rfl)
  refine z ?_ (h := fun ν => acts_load_own (x := .val (.int .i64 ((c.i : Nat) : Int))) ν qP7_ti_3 (by exact rfl))
  refine z ?_ (h := fun ν => acts_bin ν vt vc (rA (by first | omega | assumption) (by first | omega | assumption)))
  refine z ?_ (h := fun ν => acts_nilck ν)
  refine z ?_ (h := fun ν => acts_field (off' := 1) ν qP7_fo_52_1 rfl)
  refine z ?_ (h := fun _ => acts_store (cells := [(.slv b.length 1 (ysl b) : A), aI (((c.i : Nat) : Int) + 1), aI (aW (mW c.h 6364136223846793005) 1442695040888963407)]) qP7_ti_3 xt (by exact rfl) (by decide) (by exact ob1 rfl) (by exact Nat.le_of_ble_eq_true rfl) (by exact rfl))
  refine nl (sq (rg (zm (za (nl (wp_ret' ?_))))))
  exact ⟨_, weak_id, ⟨obj_eq (c := [(.slv b.length 1 (ysl b) : A), aI (((c.i : Nat) : Int) + 1), aI (aW (mW c.h 6364136223846793005) 1442695040888963407)]) (by kernel_rfl) (by (unfold cuB bI; rw [if_pos (by omega)]; rfl)), trivial⟩, vo_eq 2 (.a (.val (.int .i64 (((((mix (hN c.h)) + (gY b c.i)) &&& 255) : Nat) : Int)))) (.a (.val (.int .i64 (((cuV b c) : Nat) : Int)))) (by kernel_rfl) (congrArg (fun z : Nat => B.a (.val (.int .i64 (z : Int)))) (by (unfold cuV byX; rw [if_pos (by omega)])))⟩
 ·skip
  have c1P := of_decide_eq_false c1
  refine sk (sq (rg (zm (za (nl (wp_ret' ?_))))))
  exact ⟨_, weak_id, ⟨obj_eq (c := [(.slv b.length 1 (ysl b) : A), aI ((c.i : Nat) : Int), aI (aW (mW c.h 6364136223846793005) 1442695040888963407)]) (by kernel_rfl) (by (unfold cuB bI; rw [if_neg (by omega)]; rfl)), trivial⟩, vo_eq 2 (.a (.val (.int .i64 ((mix (hN c.h) : Nat) : Int)))) (.a (.val (.int .i64 (((cuV b c) : Nat) : Int)))) (by kernel_rfl) (congrArg (fun z : Nat => B.a (.val (.int .i64 (z : Int)))) (by (unfold cuV byX; rw [if_neg (by omega)])))⟩

set_option maxHeartbeats 4000000 in
set_option maxRecDepth 100000 in
theorem spec_l01Below_fn (b : List Nat) (c : Cu) (n : Nat) (hb : b.length ≤ 1048576) (hy : ∀ x ∈ b, x < 256) (hi : c.i ≤ b.length) (hn : 0 < n) (hn2 : n ≤ 4294967296) : FnO Try.prog 19 [.a (.ptr 1 0), .a (.val (.int .i64 ((n : Nat) : Int)))] [(.o 1, some (.o ⟨52, 3, true, [(.slv b.length 1 (ysl b) : A), aI ((c.i : Nat) : Int), aI c.h]⟩))] (V.v (.int .i64 (((cuX b c n) : Nat) : Int))) [(.o 1, some (.o ⟨52, 3, true, [(.slv b.length 1 (ysl b) : A), aI (((cuN b c n).i : Nat) : Int), aI ((cuN b c n).h)]⟩))] [1] := by
 have hv0 := cuV_lt b c
 have hv1 := cuV_lt b (cuB b c)
 have hv2 := cuV_lt b (cuB b (cuB b c))
 have hv3 := cuV_lt b (cuB b (cuB b (cuB b c)))
 have hi1 := cuB_le hi
 have hi2 := cuB_le hi1
 have hi3 := cuB_le hi2
 refine fn_introO (N := 37) Try.func19 rfl (by kernel_rfl) rfl (Nat.le_of_ble_eq_true rfl) rfl rfl (by kernel_rfl) (by kernel_rfl) ⟨ocs (by kernel_rfl), trivial⟩ [14, 18, 20, 22, 24] (retO1 rfl) (fun W own kp im0 => ?_)
 show Wp _ _ _ [kP 0 1 0, kI 1 ((n : Nat) : Int), kO 1 52 3 true [(.slv b.length 1 (ysl b) : A), aI ((c.i : Nat) : Int), aI c.h], kF 14, kF 18, kF 20, kF 22, kF 24]
 refine sq (rg (zk (nl (sq (sq (rg (zm ?_)))))))
 refine z ?_ (h := fun ν => acts_bin ν vt vc (r_leq (c := false) (decide_eq_false (by omega))))
 refine nl (wf (sk (sq (sq (rg (zm ?_))))))
 refine z ?_ (h := fun ν => acts_bin ν vt vc (r_leq rfl))
 refine nl ?_
 refine wi (fun c1 => ?_) (fun c1 => ?_)
 ·skip
  have c1P := of_decide_eq_true c1
  obtain ⟨hN1, hX1⟩ := cuN_1 (b := b) (c := c) (n := n) (by omega)
  refine sq (rg (zm ?_))
  refine z ?_ (h := fun ν => acts_callO (d := 14) (f := 37) (os := [(.o 1, some (.o ⟨52, 3, true, [(.slv b.length 1 (ysl b) : A), aI ((c.i : Nat) : Int), aI c.h]⟩))]) (os' := [(.o 1, some (.o ⟨52, 3, true, [(.slv b.length 1 (ysl b) : A), aI (((cuB b c).i : Nat) : Int), aI ((cuB b c).h)]⟩))]) (r := V.v (.int .i64 (((cuV b c) : Nat) : Int))) (bs := [.a (.ptr 1 0)]) (keep := [1]) (new := []) (dead := []) ν ((spec_l01Byte_fn b c (by first | omega | assumption) (by first | omega | assumption) (by first | omega | assumption))) (by kernel_rfl) ⟨ocs (by kernel_rfl), trivial⟩ (by kernel_rfl) (ArgOs.cons (ArgO.slot 13 (.a (.ptr 1 0))) (ArgOs.nil)))
  refine zm ?_
  refine z ?_ (h := fun ν => acts_bin ν vt vt (r_rem (c := ((((cuV b c) : Nat) : Int) % ((n : Nat) : Int))) (by first | omega | assumption) (remI (by first | omega | assumption))))
  refine za (nl (wp_ret' ?_))
  exact ⟨_, weak_id, ⟨obj_eq (c := [(.slv b.length 1 (ysl b) : A), aI (((cuB b c).i : Nat) : Int), aI ((cuB b c).h)]) (by kernel_rfl) (by exact cu_cells hN1.symm _ _), trivial⟩, vo_eq 4 (.a (.val (.int .i64 ((((cuV b c) : Nat) : Int) % ((n : Nat) : Int))))) (.a (.val (.int .i64 (((cuX b c n) : Nat) : Int)))) (by kernel_rfl) (congrArg (fun z : Int => B.a (.val (.int .i64 z))) (by first | exact hX1.symm | (rw [hX1]; unfold cuV4; rfl) | omega))⟩
 ·skip
  have c1P := of_decide_eq_false c1
  obtain ⟨hN1, hX1⟩ := cuN_4 (b := b) (c := c) (n := n) (by omega)
  refine sk (sq (rg (zm ?_)))
  refine z ?_ (h := fun ν => acts_callO (d := 18) (f := 37) (os := [(.o 1, some (.o ⟨52, 3, true, [(.slv b.length 1 (ysl b) : A), aI ((c.i : Nat) : Int), aI c.h]⟩))]) (os' := [(.o 1, some (.o ⟨52, 3, true, [(.slv b.length 1 (ysl b) : A), aI (((cuB b c).i : Nat) : Int), aI ((cuB b c).h)]⟩))]) (r := V.v (.int .i64 (((cuV b c) : Nat) : Int))) (bs := [.a (.ptr 1 0)]) (keep := [1]) (new := []) (dead := []) ν ((spec_l01Byte_fn b c (by first | omega | assumption) (by first | omega | assumption) (by first | omega | assumption))) (by kernel_rfl) ⟨ocs (by kernel_rfl), trivial⟩ (by kernel_rfl) (ArgOs.cons (ArgO.slot 17 (.a (.ptr 1 0))) (ArgOs.nil)))
  refine za (nl (sq (rg (zm ?_))))
  refine z ?_ (h := fun ν => acts_callO (d := 20) (f := 37) (os := [(.o 1, some (.o ⟨52, 3, true, [(.slv b.length 1 (ysl b) : A), aI (((cuB b c).i : Nat) : Int), aI ((cuB b c).h)]⟩))]) (os' := [(.o 1, some (.o ⟨52, 3, true, [(.slv b.length 1 (ysl b) : A), aI (((cuB b (cuB b c)).i : Nat) : Int), aI ((cuB b (cuB b c)).h)]⟩))]) (r := V.v (.int .i64 (((cuV b (cuB b c)) : Nat) : Int))) (bs := [.a (.ptr 1 0)]) (keep := [1]) (new := []) (dead := []) ν ((spec_l01Byte_fn b (cuB b c) (by first | omega | assumption) (by first | omega | assumption) (by first | omega | assumption))) (by kernel_rfl) ⟨ocs (by kernel_rfl), trivial⟩ (by kernel_rfl) (ArgOs.cons (ArgO.slot 19 (.a (.ptr 1 0))) (ArgOs.nil)))
  refine za (nl (sq (rg (zm ?_))))
  refine z ?_ (h := fun ν => acts_callO (d := 22) (f := 37) (os := [(.o 1, some (.o ⟨52, 3, true, [(.slv b.length 1 (ysl b) : A), aI (((cuB b (cuB b c)).i : Nat) : Int), aI ((cuB b (cuB b c)).h)]⟩))]) (os' := [(.o 1, some (.o ⟨52, 3, true, [(.slv b.length 1 (ysl b) : A), aI (((cuB b (cuB b (cuB b c))).i : Nat) : Int), aI ((cuB b (cuB b (cuB b c))).h)]⟩))]) (r := V.v (.int .i64 (((cuV b (cuB b (cuB b c))) : Nat) : Int))) (bs := [.a (.ptr 1 0)]) (keep := [1]) (new := []) (dead := []) ν ((spec_l01Byte_fn b (cuB b (cuB b c)) (by first | omega | assumption) (by first | omega | assumption) (by first | omega | assumption))) (by kernel_rfl) ⟨ocs (by kernel_rfl), trivial⟩ (by kernel_rfl) (ArgOs.cons (ArgO.slot 21 (.a (.ptr 1 0))) (ArgOs.nil)))
  refine za (nl (sq (rg (zm ?_))))
  refine z ?_ (h := fun ν => acts_callO (d := 24) (f := 37) (os := [(.o 1, some (.o ⟨52, 3, true, [(.slv b.length 1 (ysl b) : A), aI (((cuB b (cuB b (cuB b c))).i : Nat) : Int), aI ((cuB b (cuB b (cuB b c))).h)]⟩))]) (os' := [(.o 1, some (.o ⟨52, 3, true, [(.slv b.length 1 (ysl b) : A), aI (((cuB b (cuB b (cuB b (cuB b c)))).i : Nat) : Int), aI ((cuB b (cuB b (cuB b (cuB b c)))).h)]⟩))]) (r := V.v (.int .i64 (((cuV b (cuB b (cuB b (cuB b c)))) : Nat) : Int))) (bs := [.a (.ptr 1 0)]) (keep := [1]) (new := []) (dead := []) ν ((spec_l01Byte_fn b (cuB b (cuB b (cuB b c))) (by first | omega | assumption) (by first | omega | assumption) (by first | omega | assumption))) (by kernel_rfl) ⟨ocs (by kernel_rfl), trivial⟩ (by kernel_rfl) (ArgOs.cons (ArgO.slot 23 (.a (.ptr 1 0))) (ArgOs.nil)))
  refine za (nl (sq (rg (zm ?_))))
  refine z ?_ (h := fun ν => acts_bin ν vt vc (rM (by first | omega | assumption) (by first | omega | assumption)))
  refine zm ?_
  refine z ?_ (h := fun ν => acts_bin ν vt vc (rM (by first | omega | assumption) (by first | omega | assumption)))
  refine z ?_ (h := fun ν => acts_bin ν vt vt (rA (by first | omega | assumption) (by first | omega | assumption)))
  refine zm ?_
  refine z ?_ (h := fun ν => acts_bin ν vt vc (rM (by first | omega | assumption) (by first | omega | assumption)))
  refine z ?_ (h := fun ν => acts_bin ν vt vt (rA (by first | omega | assumption) (by first | omega | assumption)))
  refine zm ?_
  refine z ?_ (h := fun ν => acts_bin ν vt vt (rA (by first | omega | assumption) (by first | omega | assumption)))
  refine zm ?_
  refine z ?_ (h := fun ν => acts_bin ν vt vt (r_rem (c := ((((((((cuV b c) : Nat) : Int) * 16777216) + ((((cuV b (cuB b c)) : Nat) : Int) * 65536)) + ((((cuV b (cuB b (cuB b c))) : Nat) : Int) * 256)) + (((cuV b (cuB b (cuB b (cuB b c)))) : Nat) : Int)) % ((n : Nat) : Int))) (by first | omega | assumption) (remI (by first | omega | assumption))))
  refine za (nl (wp_ret' ?_))
  exact ⟨_, weak_id, ⟨obj_eq (c := [(.slv b.length 1 (ysl b) : A), aI (((cuB b (cuB b (cuB b (cuB b c)))).i : Nat) : Int), aI ((cuB b (cuB b (cuB b (cuB b c)))).h)]) (by kernel_rfl) (by exact cu_cells hN1.symm _ _), trivial⟩, vo_eq 4 (.a (.val (.int .i64 ((((((((cuV b c) : Nat) : Int) * 16777216) + ((((cuV b (cuB b c)) : Nat) : Int) * 65536)) + ((((cuV b (cuB b (cuB b c))) : Nat) : Int) * 256)) + (((cuV b (cuB b (cuB b (cuB b c)))) : Nat) : Int)) % ((n : Nat) : Int))))) (.a (.val (.int .i64 (((cuX b c n) : Nat) : Int)))) (by kernel_rfl) (congrArg (fun z : Int => B.a (.val (.int .i64 z))) (by first | exact hX1.symm | (rw [hX1]; unfold cuV4; rfl) | omega))⟩

set_option maxHeartbeats 4000000 in
set_option maxRecDepth 100000 in
theorem spec_l01Once_fn (b : List Nat) (c : Cu) (n : Nat) (hb : b.length ≤ 1048576) (hy : ∀ x ∈ b, x < 256) (hi : c.i ≤ b.length) (hn : 0 < n) (hn2 : n ≤ 4294967296) : FnO Try.prog 33 [.a (.ptr 1 0), .a (.val (.int .i64 ((n : Nat) : Int)))] [(.o 1, some (.o ⟨52, 3, true, [(.slv b.length 1 (ysl b) : A), aI ((c.i : Nat) : Int), aI c.h]⟩))] (V.v (.bool (decide (cuX b c n = 0)))) [(.o 1, some (.o ⟨52, 3, true, [(.slv b.length 1 (ysl b) : A), aI (((cuN b c n).i : Nat) : Int), aI ((cuN b c n).h)]⟩))] [1] := by
 refine fn_introO (N := 9) Try.func33 rfl (by kernel_rfl) rfl (Nat.le_of_ble_eq_true rfl) rfl rfl (by kernel_rfl) (by kernel_rfl) ⟨ocs (by kernel_rfl), trivial⟩ [7] (retO1 rfl) (fun W own kp im0 => ?_)
 show Wp _ _ _ [kP 0 1 0, kI 1 ((n : Nat) : Int), kO 1 52 3 true [(.slv b.length 1 (ysl b) : A), aI ((c.i : Nat) : Int), aI c.h], kF 7]
 refine sq (rg (zk (nl (sq (rg (zm (zm ?_)))))))
 refine z ?_ (h := fun ν => acts_callO (d := 7) (f := 19) (os := [(.o 1, some (.o ⟨52, 3, true, [(.slv b.length 1 (ysl b) : A), aI ((c.i : Nat) : Int), aI c.h]⟩))]) (os' := [(.o 1, some (.o ⟨52, 3, true, [(.slv b.length 1 (ysl b) : A), aI (((cuN b c n).i : Nat) : Int), aI ((cuN b c n).h)]⟩))]) (r := V.v (.int .i64 (((cuX b c n) : Nat) : Int))) (bs := [.a (.ptr 1 0), .a (.val (.int .i64 ((n : Nat) : Int)))]) (keep := [1]) (new := []) (dead := []) ν ((spec_l01Below_fn b c n (by first | omega | assumption) (by first | omega | assumption) (by first | omega | assumption) (by first | omega | assumption) (by first | omega | assumption))) (by kernel_rfl) ⟨ocs (by kernel_rfl), trivial⟩ (by kernel_rfl) (ArgOs.cons (ArgO.slot 5 (.a (.ptr 1 0))) (ArgOs.cons ((ArgO.v vt)) (ArgOs.nil))))
 refine z ?_ (h := fun ν => acts_bin ν vt vc (r_eql rfl))
 refine za (nl (wp_ret' ?_))
 exact ⟨_, weak_id, ⟨by kernel_rfl, trivial⟩, vo_eq 4 (.a (.val (.bool (decide ((((cuX b c n) : Nat) : Int) = 0))))) (.a (.val (.bool (decide (cuX b c n = 0))))) (by kernel_rfl) (congrArg (fun z : Bool => B.a (.val (.bool z))) (by (rw [decide_eq_decide]; omega)))⟩

set_option maxHeartbeats 4000000 in
set_option maxRecDepth 100000 in
theorem spec_Rectangle_fn (w h : Nat) (hw : 1 ≤ w ∧ w ≤ 8) (hh : 1 ≤ h ∧ h ≤ 8) : Fn Try.prog 49 [.a (.val (.int .i64 ((w : Nat) : Int))), .a (.val (.int .i64 ((h : Nat) : Int)))] [.reg 3 1 (rectR w h).length (isl (rectR w h))] := by
 have hpw : 2 ^ w ≤ 2 ^ 8 := Nat.pow_le_pow_right (by decide) hw.2
 have hp0 : 0 < 2 ^ w := Nat.two_pow_pos w
 refine fn_intro (N := 30) Try.func49 rfl (by kernel_rfl) rfl (Nat.le_of_ble_eq_true rfl) [4, 5, 13, 17, 26, 27, 1000] (ret1 rfl) (fun W => ?_)
 show Wp _ _ _ [kI 0 ((w : Nat) : Int), kI 1 ((h : Nat) : Int), kF 4, kF 5, kF 13, kF 17, kF 26, kF 27, kF 1000]
 refine sq (rg ?_)
 refine z ?_ (h := fun ν => acts_alloc' (h := 4) (cap := 1) (s := 1) (cells := [(.val (.slice none 0 0) : A)]) ν qP7_zi_26 rfl rfl (by decide))
 refine nl (sq (rg ?_))
 refine z ?_ (h := fun ν => acts_build (cells := [(.slice none 0 0 : Value)]) ν OpVs.nil rfl)
 refine z ?_ (h := fun ν => acts_alloc' (h := 5) (cap := 1) (s := 1) (cells := [(.val (.slice none 0 0) : A)]) ν qP7_zi_26 rfl rfl (by decide))
 refine z ?_ (h := fun _ => acts_store (cells := [(.val (.slice none 0 0) : A)]) qP7_ti_26 xt (by exact rfl) (by decide) (by exact ob1 rfl) (by exact Nat.le_of_ble_eq_true rfl) (by exact rfl))
 refine nl (sq (sq (rg (zk (nl (bkk ?_))))))
 refine wp_weak (weak_nilOI (h := 5) (h1 := 13) (T0 := 26) (s0 := 1) (ex := true) (T := 3)) ?_
 refine wp_loop' (fun (k : Nat) => k ≤ h) (fun (k : Nat) => [kI 0 ((w : Nat) : Int), kI 1 ((h : Nat) : Int), kP 4 4 0, kP 5 5 0, kI 6 ((k : Nat) : Int), kO 4 26 1 true [(.val (.slice none 0 0) : A)], kO 5 26 1 true [(.sl 13 0 ((rectR w k).length) : A)], kO 13 3 1 true (pl (isl (rectR w k))), kF 17, kF 26, kF 27, kF 1000]) (fun (k : Nat) => h - k) ((0 : Nat)) (by exact (Nat.zero_le _ : 0 ≤ _)) (wkf id (wS <| wS <| wS <| wS <| wE (e := (vint (by first | rfl | omega | (simp [rectR]; done) | (unfold rectR rc; rw [List.replicate_succ']; rfl) | (unfold rectR rc; rw [List.replicate_succ'])))) <| wX <| wO (e := renob_l (fun h => h) (congrArg (fun z : Nat => [A.sl 13 0 z]) (by first | rfl | (simp; done) | (simp; omega) | omega | (exact congrArg List.length (by first | rfl | omega | (simp [rectR]; done) | (unfold rectR rc; rw [List.replicate_succ']; rfl) | (unfold rectR rc; rw [List.replicate_succ']))))) rfl) <| wO (e := renob_eq (fun h => h) (congrArg isl (by first | rfl | omega | (simp [rectR]; done) | (unfold rectR rc; rw [List.replicate_succ']; rfl) | (unfold rectR rc; rw [List.replicate_succ'])))) <| wF <| wF <| wF <| wF <| wN)) ?_
 rintro k inv1
 replace inv1 : k ≤ h := inv1
 have invk := inv1
 have hrl : (rectR w k).length = k := by simp [rectR]
 refine sq (sq ?_)
 rcases Bool.eq_false_or_eq_true (decide (((k : Nat) : Int) < ((h : Nat) : Int))) with c2 | c2
 ·skip
  have c2P := of_decide_eq_true c2
  refine rg (zm (zm ?_))
  refine z ?_ (h := fun ν => acts_bin ν vt vt (r_lss (c := true) c2))
  refine zm ?_
  refine zg ?_ (h := fun ν => step_on rfl rfl (mt ν))
  refine zg ?_ (h := fun ν => step_on rfl rfl (acts_call1 ν (spec_l01In_fn ((w : Nat) : Int) 1 8 ) (ac (ArgV.v vt) (ac (ArgV.v vc) (ac (ArgV.v vc) an))) (resval (congrArg Value.bool (inB_true.2 (by omega))))))
  refine z ?_ (h := fun ν => acts_pick_t ν vt xt)
  refine zm ?_
  refine zg ?_ (h := fun ν => step_on rfl rfl (mt ν))
  refine zg ?_ (h := fun ν => step_on rfl rfl (acts_call1 ν (spec_l01In_fn ((h : Nat) : Int) 1 8 ) (ac (ArgV.v vt) (ac (ArgV.v vc) (ac (ArgV.v vc) an))) (resval (congrArg Value.bool (inB_true.2 (by omega))))))
  refine z ?_ (h := fun ν => acts_pick_t ν vt xt)
  refine nl (wt (sk (sq (bkk (wp_dr ?_)))))
  refine zd ?_ (h := fun ν => acts_field (off' := 0) ν qP7_fo_26_0 rfl)
  refine zd ?_ (h := fun ν => acts_load_own (x := .sl 13 0 ((rectR w k).length)) ν qP7_ti_24 (by exact rfl))
  refine zdm ?_
  refine zd ?_ (h := fun ν => acts_bin ν vc vt (r_shl (c := (((2 ^ w) : Nat) : Int)) (by first | omega | exact Int.natCast_nonneg _) (shl1I (n := w) rfl (by first | omega | assumption | exact Nat.lt_of_le_of_lt (shr_le _ _) (by first | omega | assumption | (first | omega | assumption)) | (first | omega | assumption)))))
  refine zd ?_ (h := fun ν => acts_bin ν vt vc (rS (by first | omega | assumption) (by first | omega | assumption)))
  refine zd ?_ (h := fun ν => acts_buildSlice' (h := 26) (xs := isl ([((((2 ^ w) : Nat) : Int) - 1)] : List Int)) ν qP7_un_24 qP7_zi_3 (.cons vt OpVs.nil) (by decide) (by decide) (by kernel_rfl) rfl)
  refine zd ?_ (h := fun ν => aI_ (h2 := 27) (L3 := ((rectR w k) ++ [((((2 ^ w) : Nat) : Int) - 1)])) ν qP7_un_24 qP7_zi_3 (by first | exact rfl | (simp; done) | (simp; omega) | omega) rfl (by first | exact rfl | (simp; done) | (simp; omega) | omega) (by first | omega | (simp; omega) | (simp at *; omega)))
  refine zd ?_ (h := fun ν => acts_field (off' := 0) ν qP7_fo_26_0 rfl)
  refine zd ?_ (h := fun _ => acts_store (cells := [(.sl 27 0 (((rectR w k) ++ [((((2 ^ w) : Nat) : Int) - 1)]).length) : A)]) qP7_ti_24 xt (by exact rfl) (by decide) (by exact ob1 rfl) (by exact Nat.le_of_ble_eq_true rfl) (by exact rfl))
  refine dw_nil (rg (zm ?_))
  refine z ?_ (h := fun ν => acts_bin ν vt vc (rA (by first | omega | assumption) (by first | omega | assumption)))
  refine za (nl ?_)
  exact loop_back ((k + 1)) (by show _ ≤ _; omega) (by show h - (k + 1) < h - k; omega) (wkf (subst1 [(13, 27)]) (wS <| wS <| wS <| wS <| wE (e := (vint (by first | rfl | omega | (simp [rectR]; done) | (unfold rectR rc; rw [List.replicate_succ']; rfl) | (unfold rectR rc; rw [List.replicate_succ'])))) <| wX <| wO (e := renob_l (fun h => h) (congrArg (fun z : Nat => [A.sl 27 0 z]) (by first | rfl | (simp; done) | (simp; omega) | omega | (exact congrArg List.length (by first | rfl | omega | (simp [rectR]; done) | (unfold rectR rc; rw [List.replicate_succ']; rfl) | (unfold rectR rc; rw [List.replicate_succ']))))) rfl) <| wO (e := renob_eq (fun h => h) (congrArg isl (by first | rfl | omega | (simp [rectR]; done) | (unfold rectR rc; rw [List.replicate_succ']; rfl) | (unfold rectR rc; rw [List.replicate_succ'])))) <| wF <| wF <| wF <| wF <| wN))
 ·skip
  have c2P := of_decide_eq_false c2
  refine rg (zm (zm ?_))
  refine z ?_ (h := fun ν => acts_bin ν vt vt (r_lss (c := false) c2))
  refine zm (zo (zo ?_))
  refine z ?_ (h := fun ν => acts_pick_f ν vt xc)
  refine zm (zo (zo ?_))
  refine z ?_ (h := fun ν => acts_pick_f ν vt xc)
  refine nl (wf (wp_exit' (sq (rg ?_))))
  refine z ?_ (h := fun ν => acts_load_owns (xs := [(.sl 13 0 ((rectR w k).length) : A)]) ν qP7_ti_26 rfl (by decide) rfl)
  refine z ?_ (h := fun _ => acts_store (cells := [(.sl 13 0 ((rectR w k).length) : A)]) qP7_ti_26 xt (by exact rfl) (by decide) (by exact ob1 rfl) (by exact Nat.le_of_ble_eq_true rfl) (by exact rfl))
  refine nl (wp_ret' ?_)
  exact VRes.cells 4 26 4 ⟨26, 1, true, [(.sl 13 0 ((rectR w k).length) : A)]⟩ _ (by kernel_rfl) (by kernel_rfl) qP7_ti_26 (Nat.le_of_ble_eq_true rfl) (breg (h := 13) (L := (rectR w k)) (by kernel_rfl) (by (have e : k = h := by omega); subst e; first | rfl | (simp [rectR]; done)) (by first | rfl | (simp; done) | (simp; omega)))

set_option maxHeartbeats 4000000 in
set_option maxRecDepth 100000 in
theorem spec_l03Region_fn (b : List Nat) (c : Cu) (hb : b.length ≤ 1048576) (hy : ∀ x ∈ b, x < 256) (hi : c.i ≤ b.length) : FnO Try.prog 48 [.a (.ptr 1 0)] [(.o 1, some (.o ⟨52, 3, true, [(.slv b.length 1 (ysl b) : A), aI ((c.i : Nat) : Int), aI c.h]⟩))] (V.b (.agg [(.sl 900 0 ((r3 b c).1.length) : A)])) [(.o 1, some (.o ⟨52, 3, true, [(.slv b.length 1 (ysl b) : A), aI ((((r3 b c).2).i : Nat) : Int), aI (((r3 b c).2).h)]⟩)), (.o 900, some (.o ⟨3, 1, true, pl (isl ((r3 b c).1))⟩))] [1] := by
 have hx6 : cuX b c 6 < 6 := cuX_lt (by decide)
 have hx5 : cuX b (cuN b c 6) 5 < 5 := cuX_lt (by decide)
 have hxk : cuX b (cuN b (cuN b c 6) 5) 5 < 5 := cuX_lt (by decide)
 have hi1 := cuI_le (n := 6) hi
 have hi2 := cuI_le (n := 5) hi1
 have hi3 := cuI_le (n := 5) hi2
 have hrl : (rectR (1 + cuX b c 6) (1 + cuX b (cuN b c 6) 5)).length = (1 + cuX b (cuN b c 6) 5) := by simp [rectR]
 have hr3 := (r3_RP b c).ln
 refine fn_introO (N := 74) Try.func48 rfl (by kernel_rfl) rfl (Nat.le_of_ble_eq_true rfl) rfl rfl (by kernel_rfl) (by kernel_rfl) ⟨ocs (by kernel_rfl), trivial⟩ [2, 5, 11, 14, 18, 20, 27, 30, 56, 60, 74, 75, 76, 77] (retO1 rfl) (fun W own kp im0 => ?_)
 show Wp _ _ _ [kP 0 1 0, kO 1 52 3 true [(.slv b.length 1 (ysl b) : A), aI ((c.i : Nat) : Int), aI c.h], kF 2, kF 5, kF 11, kF 14, kF 18, kF 20, kF 27, kF 30, kF 56, kF 60, kF 74, kF 75, kF 76, kF 77]
 refine sq (rg ?_)
 refine z ?_ (h := fun ν => acts_alloc' (h := 2) (cap := 1) (s := 1) (cells := [(.val (.slice none 0 0) : A)]) ν qP7_zi_26 rfl rfl (by decide))
 refine nl (sq (rg (zm ?_)))
 refine z ?_ (h := fun ν => acts_callO (d := 11) (f := 19) (os := [(.o 1, some (.o ⟨52, 3, true, [(.slv b.length 1 (ysl b) : A), aI ((c.i : Nat) : Int), aI c.h]⟩))]) (os' := [(.o 1, some (.o ⟨52, 3, true, [(.slv b.length 1 (ysl b) : A), aI (((cuN b c 6).i : Nat) : Int), aI ((cuN b c 6).h)]⟩))]) (r := V.v (.int .i64 (((cuX b c 6) : Nat) : Int))) (bs := [.a (.ptr 1 0), .a (.val (.int .i64 6))]) (keep := [1]) (new := []) (dead := []) ν ((spec_l01Below_fn b c 6 (by first | omega | assumption | (rw [hrl]; omega)) (by first | omega | assumption | (rw [hrl]; omega)) (by first | omega | assumption | (rw [hrl]; omega)) (by first | omega | assumption | (rw [hrl]; omega)) (by first | omega | assumption | (rw [hrl]; omega)))) (by kernel_rfl) ⟨ocs (by kernel_rfl), trivial⟩ (by kernel_rfl) (ArgOs.cons (ArgO.slot 10 (.a (.ptr 1 0))) (ArgOs.cons ((ArgO.v vc)) (ArgOs.nil))))
 refine z ?_ (h := fun ν => acts_bin ν vc vt (rA (by first | omega | assumption | (rw [hrl]; omega)) (by first | omega | assumption | (rw [hrl]; omega))))
 refine za (nl (sq (rg (zm ?_))))
 refine z ?_ (h := fun ν => acts_callO (d := 14) (f := 19) (os := [(.o 1, some (.o ⟨52, 3, true, [(.slv b.length 1 (ysl b) : A), aI (((cuN b c 6).i : Nat) : Int), aI ((cuN b c 6).h)]⟩))]) (os' := [(.o 1, some (.o ⟨52, 3, true, [(.slv b.length 1 (ysl b) : A), aI (((cuN b (cuN b c 6) 5).i : Nat) : Int), aI ((cuN b (cuN b c 6) 5).h)]⟩))]) (r := V.v (.int .i64 (((cuX b (cuN b c 6) 5) : Nat) : Int))) (bs := [.a (.ptr 1 0), .a (.val (.int .i64 5))]) (keep := [1]) (new := []) (dead := []) ν ((spec_l01Below_fn b (cuN b c 6) 5 (by first | omega | assumption | (rw [hrl]; omega)) (by first | omega | assumption | (rw [hrl]; omega)) (by first | omega | assumption | (rw [hrl]; omega)) (by first | omega | assumption | (rw [hrl]; omega)) (by first | omega | assumption | (rw [hrl]; omega)))) (by kernel_rfl) ⟨ocs (by kernel_rfl), trivial⟩ (by kernel_rfl) (ArgOs.cons (ArgO.slot 13 (.a (.ptr 1 0))) (ArgOs.cons ((ArgO.v vc)) (ArgOs.nil))))
 refine z ?_ (h := fun ν => acts_bin ν vc vt (rA (by first | omega | assumption | (rw [hrl]; omega)) (by first | omega | assumption | (rw [hrl]; omega))))
 refine za (nl (sq (rg (zm (zm ?_)))))
 refine z ?_ (h := fun ν => acts_call1 ν (spec_Rectangle_fn (1 + (cuX b c 6)) (1 + (cuX b (cuN b c 6) 5)) (by first | omega | assumption | (rw [hrl]; omega)) (by first | omega | assumption | (rw [hrl]; omega))) (ac (ArgV.v vt) (ac (ArgV.v vt) an)) (ResV.reg _ _ _ _ 18))
 refine z ?_ (h := fun ν => acts_alloc' (h := 5) (cap := 1) (s := 1) (cells := [(.val (.slice none 0 0) : A)]) ν qP7_zi_26 rfl rfl (by decide))
 refine z ?_ (h := fun _ => acts_store (cells := [(.sl 18 0 ((rectR (1 + (cuX b c 6)) (1 + (cuX b (cuN b c 6) 5))).length) : A)]) qP7_ti_26 xt (by exact rfl) (by decide) (by exact ob1 rfl) (by exact Nat.le_of_ble_eq_true rfl) (by exact rfl))
 refine nl (sq (sq (rg (zm ?_))))
 refine z ?_ (h := fun ν => acts_callO (d := 20) (f := 19) (os := [(.o 1, some (.o ⟨52, 3, true, [(.slv b.length 1 (ysl b) : A), aI (((cuN b (cuN b c 6) 5).i : Nat) : Int), aI ((cuN b (cuN b c 6) 5).h)]⟩))]) (os' := [(.o 1, some (.o ⟨52, 3, true, [(.slv b.length 1 (ysl b) : A), aI (((cuN b (cuN b (cuN b c 6) 5) 5).i : Nat) : Int), aI ((cuN b (cuN b (cuN b c 6) 5) 5).h)]⟩))]) (r := V.v (.int .i64 (((cuX b (cuN b (cuN b c 6) 5) 5) : Nat) : Int))) (bs := [.a (.ptr 1 0), .a (.val (.int .i64 5))]) (keep := [1]) (new := []) (dead := []) ν ((spec_l01Below_fn b (cuN b (cuN b c 6) 5) 5 (by first | omega | assumption | (rw [hrl]; omega)) (by first | omega | assumption | (rw [hrl]; omega)) (by first | omega | assumption | (rw [hrl]; omega)) (by first | omega | assumption | (rw [hrl]; omega)) (by first | omega | assumption | (rw [hrl]; omega)))) (by kernel_rfl) ⟨ocs (by kernel_rfl), trivial⟩ (by kernel_rfl) (ArgOs.cons (ArgO.slot 19 (.a (.ptr 1 0))) (ArgOs.cons ((ArgO.v vc)) (ArgOs.nil))))
 refine za (nl (bkk ?_))
 refine wp_loop' (fun ((k, cz, R) : Nat × Cu × (List Int)) => RP (1 + cuX b (cuN b c 6) 5) R ∧ cz.i ≤ b.length ∧ k ≤ 5 ∧ r3L b (1 + cuX b c 6) (1 + cuX b (cuN b c 6) 5) k cz R = r3M b c) (fun ((k, cz, R) : Nat × Cu × (List Int)) => [kP 0 1 0, kP 2 2 0, kI 3 (1 + (((cuX b c 6) : Nat) : Int)), kI 4 (1 + (((cuX b (cuN b c 6) 5) : Nat) : Int)), kP 5 5 0, kI 6 ((k : Nat) : Int), kO 1 52 3 true [(.slv b.length 1 (ysl b) : A), aI ((cz.i : Nat) : Int), aI cz.h], kO 2 26 1 true [(.val (.slice none 0 0) : A)], kO 5 26 1 true [(.sl 18 0 ((rectR (1 + (cuX b c 6)) (1 + (cuX b (cuN b c 6) 5))).length) : A)], kO 18 3 1 true (pl (isl R)), kF 11, kF 14, kF 20, kF 27, kF 30, kF 56, kF 60, kF 74, kF 75, kF 76, kF 77]) (fun ((k, cz, R) : Nat × Cu × (List Int)) => k) (((cuX b (cuN b (cuN b c 6) 5) 5) : Nat), ((cuN b (cuN b (cuN b c 6) 5) 5) : Cu), ((rectR (1 + cuX b c 6) (1 + cuX b (cuN b c 6) 5)) : List Int)) (by exact ⟨RP.rect (by omega), hi3, by omega, rfl⟩) (wkf id (wS <| wS <| wS <| wS <| wS <| wS <| wX <| wX <| wX <| wO (e := renob_eq (fun h => h) (congrArg isl (by first | rfl | omega | (simp; done) | (simp; omega)))) <| by (iterate 11 refine wF ?_); exact wN)) ?_
 rintro ⟨k, cz, R⟩ inv1
 replace inv1 : RP (1 + cuX b (cuN b c 6) 5) R ∧ cz.i ≤ b.length ∧ k ≤ 5 ∧ r3L b (1 + cuX b c 6) (1 + cuX b (cuN b c 6) 5) k cz R = r3M b c := inv1
 obtain ⟨hRP, hi0, hk5, hr3L⟩ := inv1
 have hRl := hRP.ln
 refine sq (sq (rg (zm ?_)))
 refine z ?_ (h := fun ν => acts_bin ν vt vc (r_gtr rfl))
 refine nl ?_
 refine wi (fun c2 => ?_) (fun c2 => ?_)
 ·skip
  have c2P := of_decide_eq_true c2
  have hyl : (cuX b cz (1 + cuX b (cuN b c 6) 5)) < (1 + cuX b (cuN b c 6) 5) := cuX_lt (by omega)
  have hxl : (cuX b (cuN b cz (1 + cuX b (cuN b c 6) 5)) (1 + cuX b c 6)) < (1 + cuX b c 6) := cuX_lt (by omega)
  have hi4 := cuI_le (n := (1 + cuX b (cuN b c 6) 5)) hi0
  have hi5 := cuI_le (n := (1 + cuX b c 6)) hi4
  have hbd := hRP.bd _ hyl
  have hp2 : 2 ^ (cuX b (cuN b cz (1 + cuX b (cuN b c 6) 5)) (1 + cuX b c 6)) < 2 ^ 8 := Nat.pow_lt_pow_right (by decide) (by omega)
  have hp0 : 0 < 2 ^ (cuX b (cuN b cz (1 + cuX b (cuN b c 6) 5)) (1 + cuX b c 6)) := Nat.two_pow_pos _
  refine sk (sq (bkk (sq (rg (zm (zm ?_))))))
  refine z ?_ (h := fun ν => acts_callO (d := 27) (f := 19) (os := [(.o 1, some (.o ⟨52, 3, true, [(.slv b.length 1 (ysl b) : A), aI ((cz.i : Nat) : Int), aI cz.h]⟩))]) (os' := [(.o 1, some (.o ⟨52, 3, true, [(.slv b.length 1 (ysl b) : A), aI (((cuN b cz (1 + (cuX b (cuN b c 6) 5))).i : Nat) : Int), aI ((cuN b cz (1 + (cuX b (cuN b c 6) 5))).h)]⟩))]) (r := V.v (.int .i64 (((cuX b cz (1 + (cuX b (cuN b c 6) 5))) : Nat) : Int))) (bs := [.a (.ptr 1 0), .a (.val (.int .i64 (1 + (((cuX b (cuN b c 6) 5) : Nat) : Int))))]) (keep := [1]) (new := []) (dead := []) ν ((spec_l01Below_fn b cz (1 + (cuX b (cuN b c 6) 5)) (by first | omega | assumption | (rw [hrl]; omega)) (by first | omega | assumption | (rw [hrl]; omega)) (by first | omega | assumption | (rw [hrl]; omega)) (by first | omega | assumption | (rw [hrl]; omega)) (by first | omega | assumption | (rw [hrl]; omega)))) (by kernel_rfl) ⟨ocs (by kernel_rfl), trivial⟩ (by kernel_rfl) (ArgOs.cons (ArgO.slot 25 (.a (.ptr 1 0))) (ArgOs.cons ((ArgO.v vt)) (ArgOs.nil))))
  refine za (nl (sq (rg (zm (zm ?_)))))
  refine z ?_ (h := fun ν => acts_callO (d := 30) (f := 19) (os := [(.o 1, some (.o ⟨52, 3, true, [(.slv b.length 1 (ysl b) : A), aI (((cuN b cz (1 + (cuX b (cuN b c 6) 5))).i : Nat) : Int), aI ((cuN b cz (1 + (cuX b (cuN b c 6) 5))).h)]⟩))]) (os' := [(.o 1, some (.o ⟨52, 3, true, [(.slv b.length 1 (ysl b) : A), aI (((cuN b (cuN b cz (1 + (cuX b (cuN b c 6) 5))) (1 + (cuX b c 6))).i : Nat) : Int), aI ((cuN b (cuN b cz (1 + (cuX b (cuN b c 6) 5))) (1 + (cuX b c 6))).h)]⟩))]) (r := V.v (.int .i64 (((cuX b (cuN b cz (1 + (cuX b (cuN b c 6) 5))) (1 + (cuX b c 6))) : Nat) : Int))) (bs := [.a (.ptr 1 0), .a (.val (.int .i64 (1 + (((cuX b c 6) : Nat) : Int))))]) (keep := [1]) (new := []) (dead := []) ν ((spec_l01Below_fn b (cuN b cz (1 + (cuX b (cuN b c 6) 5))) (1 + (cuX b c 6)) (by first | omega | assumption | (rw [hrl]; omega)) (by first | omega | assumption | (rw [hrl]; omega)) (by first | omega | assumption | (rw [hrl]; omega)) (by first | omega | assumption | (rw [hrl]; omega)) (by first | omega | assumption | (rw [hrl]; omega)))) (by kernel_rfl) ⟨ocs (by kernel_rfl), trivial⟩ (by kernel_rfl) (ArgOs.cons (ArgO.slot 28 (.a (.ptr 1 0))) (ArgOs.cons ((ArgO.v vt)) (ArgOs.nil))))
  refine za (nl (sq (rg ?_)))
  refine z ?_ (h := fun ν => acts_field (off' := 0) ν qP7_fo_26_0 rfl)
  refine z ?_ (h := fun ν => acts_load_own (x := .sl 18 0 ((rectR (1 + (cuX b c 6)) (1 + (cuX b (cuN b c 6) 5))).length)) ν qP7_ti_24 (by exact rfl))
  refine zm ?_
  refine z ?_ (h := fun ν => ix0 ν qP7_un_24 qP7_sz_3 vt (hlt := (by first | omega | assumption | (rw [hrl]; omega))))
  refine z ?_ (h := fun ν => lI ν qP7_ti_3 (by first | omega | assumption | (rw [hrl]; omega)))
  refine zm ?_
  refine z ?_ (h := fun ν => acts_bin ν vt vt (r_shr (c := (((((gI R (cuX b cz (1 + (cuX b (cuN b c 6) 5)))).toNat) >>> (cuX b (cuN b cz (1 + (cuX b (cuN b c 6) 5))) (1 + (cuX b c 6)))) : Nat) : Int)) (by first | omega | exact Int.natCast_nonneg _) (shrU (m := ((gI R (cuX b cz (1 + (cuX b (cuN b c 6) 5)))).toNat)) (n := (cuX b (cuN b cz (1 + (cuX b (cuN b c 6) 5))) (1 + (cuX b c 6)))) (Int.toNat_of_nonneg (by first | omega | assumption | (rw [hrl]; omega))).symm rfl (by first | omega | assumption | exact Nat.lt_of_le_of_lt (shr_le _ _) (by first | omega | assumption | (first | omega | assumption | (rw [hrl]; omega))) | (first | omega | assumption | (rw [hrl]; omega))) rfl)))
  refine z ?_ (h := fun ν => acts_bin ν vt vc (r_and (c := ((((((gI R (cuX b cz (1 + (cuX b (cuN b c 6) 5)))).toNat) >>> (cuX b (cuN b cz (1 + (cuX b (cuN b c 6) 5))) (1 + (cuX b c 6)))) &&& 1) : Nat) : Int)) (andI (m := (((gI R (cuX b cz (1 + (cuX b (cuN b c 6) 5)))).toNat) >>> (cuX b (cuN b cz (1 + (cuX b (cuN b c 6) 5))) (1 + (cuX b c 6))))) (n := 1) rfl rfl (by first | omega | assumption | exact Nat.lt_of_le_of_lt (shr_le _ _) (by first | omega | assumption | (first | omega | assumption | (rw [hrl]; omega))) | (first | omega | assumption | (rw [hrl]; omega))) (by first | omega | assumption | exact Nat.lt_of_le_of_lt (shr_le _ _) (by first | omega | assumption | (first | omega | assumption | (rw [hrl]; omega))) | (first | omega | assumption | (rw [hrl]; omega))))))
  refine z ?_ (h := fun ν => acts_bin ν vt vc (r_eql (c := (((gI R (cuX b cz (1 + (cuX b (cuN b c 6) 5)))).toNat).testBit (cuX b (cuN b cz (1 + (cuX b (cuN b c 6) 5))) (1 + (cuX b c 6))))) (bit_one _ _)))
  refine nl ?_
  refine wi (b := (((gI R (cuX b cz (1 + (cuX b (cuN b c 6) 5)))).toNat).testBit (cuX b (cuN b cz (1 + (cuX b (cuN b c 6) 5))) (1 + (cuX b c 6))))) (fun c3 => ?_) (fun c3 => ?_)
  ·skip
   have hbt : bitR R (cuX b cz (1 + cuX b (cuN b c 6) 5)) (cuX b (cuN b cz (1 + cuX b (cuN b c 6) 5)) (1 + cuX b c 6)) = true := c3
   have hnx := r3L_on (k := k) (by omega) hbt
   have hRP2 := hRP.take hyl hbt
   refine wp_dr ?_
   refine zd ?_ (h := fun ν => acts_field (off' := 0) ν qP7_fo_26_0 rfl)
   refine zd ?_ (h := fun ν => acts_load_own (x := .sl 18 0 ((rectR (1 + (cuX b c 6)) (1 + (cuX b (cuN b c 6) 5))).length)) ν qP7_ti_24 (by exact rfl))
   refine zdm ?_
   refine zd ?_ (h := fun ν => acts_field (off' := 0) ν qP7_fo_26_0 rfl)
   refine zd ?_ (h := fun ν => acts_load_own (x := .sl 18 0 ((rectR (1 + (cuX b c 6)) (1 + (cuX b (cuN b c 6) 5))).length)) ν qP7_ti_24 (by exact rfl))
   refine zdm ?_
   refine zd ?_ (h := fun ν => ix0 ν qP7_un_24 qP7_sz_3 vt (hlt := (by first | omega | assumption | (rw [hrl]; omega))))
   refine zd ?_ (h := fun ν => lI ν qP7_ti_3 (by first | omega | assumption | (rw [hrl]; omega)))
   refine zdm ?_
   refine zd ?_ (h := fun ν => acts_bin ν vc vt (r_shl (c := (((2 ^ (cuX b (cuN b cz (1 + (cuX b (cuN b c 6) 5))) (1 + (cuX b c 6)))) : Nat) : Int)) (by first | omega | exact Int.natCast_nonneg _) (shl1I (n := (cuX b (cuN b cz (1 + (cuX b (cuN b c 6) 5))) (1 + (cuX b c 6)))) rfl (by first | omega | assumption | exact Nat.lt_of_le_of_lt (shr_le _ _) (by first | omega | assumption | (first | omega | assumption | (rw [hrl]; omega))) | (first | omega | assumption | (rw [hrl]; omega))))))
   refine zd ?_ (h := fun ν => acts_bin ν vt vt (rS (by first | omega | assumption | (rw [hrl]; omega)) (by first | omega | assumption | (rw [hrl]; omega))))
   refine zd ?_ (h := fun ν => ix0 ν qP7_un_24 qP7_sz_3 vt (hlt := (by first | omega | assumption | (rw [hrl]; omega))))
   refine zd ?_ (h := fun _ => sI qP7_ti_3 xt (by first | omega | assumption | (rw [hrl]; omega)))
   refine dw_nil (rg (zm ?_))
   refine z ?_ (h := fun ν => acts_bin ν vt vc (rS (by first | omega | assumption | (rw [hrl]; omega)) (by first | omega | assumption | (rw [hrl]; omega))))
   refine za (nl ?_)
   exact loop_back ((k - 1), (cuN b (cuN b cz (1 + cuX b (cuN b c 6) 5)) (1 + cuX b c 6)), (R.set (cuX b cz (1 + (cuX b (cuN b c 6) 5))) ((gI R (cuX b cz (1 + (cuX b (cuN b c 6) 5)))) - (((2 ^ (cuX b (cuN b cz (1 + (cuX b (cuN b c 6) 5))) (1 + (cuX b c 6)))) : Nat) : Int)))) (by exact ⟨hRP2, hi5, by omega, hnx.symm.trans hr3L⟩) (by show k - 1 < k; omega) (wkf id (wS <| wS <| wS <| wS <| wS <| wE (e := (vint (by first | rfl | omega | (simp; done) | (simp; omega)))) <| wO (e := renob_l (fun h => h) (by first | rfl | omega | (simp; done) | (simp; omega)) rfl) <| wX <| wX <| wP <| by (iterate 11 refine wF ?_); exact wN))
  ·skip
   have hbt : bitR R (cuX b cz (1 + cuX b (cuN b c 6) 5)) (cuX b (cuN b cz (1 + cuX b (cuN b c 6) 5)) (1 + cuX b c 6)) = false := c3
   have hnx := r3L_off (k := k) (by omega) hbt
   have hRP2 := hRP
   refine sk (rg (zm ?_))
   refine z ?_ (h := fun ν => acts_bin ν vt vc (rS (by first | omega | assumption | (rw [hrl]; omega)) (by first | omega | assumption | (rw [hrl]; omega))))
   refine za (nl ?_)
   exact loop_back ((k - 1), (cuN b (cuN b cz (1 + cuX b (cuN b c 6) 5)) (1 + cuX b c 6)), R) (by exact ⟨hRP2, hi5, by omega, hnx.symm.trans hr3L⟩) (by show k - 1 < k; omega) (wkf id (wS <| wS <| wS <| wS <| wS <| wE (e := (vint (by first | rfl | omega | (simp; done) | (simp; omega)))) <| wO (e := renob_l (fun h => h) (by first | rfl | omega | (simp; done) | (simp; omega)) rfl) <| wX <| wX <| wP <| by (iterate 11 refine wF ?_); exact wN))
 ·skip
  have c2P := of_decide_eq_false c2
  have hend := r3_end hr3L (by omega)
  have hi4 := cuI_le (n := 3) hi0
  have hi5 := cuI_le (n := (1 + cuX b (cuN b c 6) 5)) hi4
  refine wp_exit' (sq (sq ?_))
  rcases Bool.eq_false_or_eq_true (decide ((1 + (((cuX b c 6) : Nat) : Int)) < 6)) with c4 | c4
  ·skip
   have c4P := of_decide_eq_true c4
   have hw6 : 1 + cuX b c 6 < 6 := by omega
   refine rg (zm ?_)
   refine z ?_ (h := fun ν => acts_bin ν vt vc (r_lss (c := true) c4))
   refine zm ?_
   refine zg ?_ (h := fun ν => step_on rfl rfl (mt ν))
   refine zg ?_ (h := fun ν => step_on rfl rfl (acts_callO (d := 56) (f := 33) (os := [(.o 1, some (.o ⟨52, 3, true, [(.slv b.length 1 (ysl b) : A), aI ((cz.i : Nat) : Int), aI cz.h]⟩))]) (os' := [(.o 1, some (.o ⟨52, 3, true, [(.slv b.length 1 (ysl b) : A), aI (((cuN b cz 3).i : Nat) : Int), aI ((cuN b cz 3).h)]⟩))]) (r := V.v (.bool (decide (cuX b cz 3 = 0)))) (bs := [.a (.ptr 1 0), .a (.val (.int .i64 3))]) (keep := [1]) (new := []) (dead := []) ν ((spec_l01Once_fn b cz 3 (by first | omega | assumption | (rw [hrl]; omega)) (by first | omega | assumption | (rw [hrl]; omega)) (by first | omega | assumption | (rw [hrl]; omega)) (by first | omega | assumption | (rw [hrl]; omega)) (by first | omega | assumption | (rw [hrl]; omega)))) (by kernel_rfl) ⟨ocs (by kernel_rfl), trivial⟩ (by kernel_rfl) (ArgOs.cons (ArgO.slot 55 (.a (.ptr 1 0))) (ArgOs.cons ((ArgO.v vc)) (ArgOs.nil)))))
   refine z ?_ (h := fun ν => acts_pick_t ν vt xt)
   refine nl ?_
   refine wi (b := (decide (cuX b cz 3 = 0))) (fun c5 => ?_) (fun c5 => ?_)
   ·skip
    have hfin := r3_c hend hw6 (of_decide_eq_true c5)
    have hyl : cuX b (cuN b cz 3) (1 + cuX b (cuN b c 6) 5) < (1 + cuX b (cuN b c 6) 5) := cuX_lt (by omega)
    have hbd := hRP.bd _ hyl
    have hsw : 3 <<< (1 + cuX b c 6) < 256 := by
     rw [Nat.shiftLeft_eq]
     have : (2 : Nat) ^ (1 + cuX b c 6) ≤ 2 ^ 5 := Nat.pow_le_pow_right (by decide) (by omega)
     omega
    refine sq (rg (zm (zm ?_)))
    refine z ?_ (h := fun ν => acts_callO (d := 60) (f := 19) (os := [(.o 1, some (.o ⟨52, 3, true, [(.slv b.length 1 (ysl b) : A), aI (((cuN b cz 3).i : Nat) : Int), aI ((cuN b cz 3).h)]⟩))]) (os' := [(.o 1, some (.o ⟨52, 3, true, [(.slv b.length 1 (ysl b) : A), aI (((cuN b (cuN b cz 3) (1 + (cuX b (cuN b c 6) 5))).i : Nat) : Int), aI ((cuN b (cuN b cz 3) (1 + (cuX b (cuN b c 6) 5))).h)]⟩))]) (r := V.v (.int .i64 (((cuX b (cuN b cz 3) (1 + (cuX b (cuN b c 6) 5))) : Nat) : Int))) (bs := [.a (.ptr 1 0), .a (.val (.int .i64 (1 + (((cuX b (cuN b c 6) 5) : Nat) : Int))))]) (keep := [1]) (new := []) (dead := []) ν ((spec_l01Below_fn b (cuN b cz 3) (1 + (cuX b (cuN b c 6) 5)) (by first | omega | assumption | (rw [hrl]; omega)) (by first | omega | assumption | (rw [hrl]; omega)) (by first | omega | assumption | (rw [hrl]; omega)) (by first | omega | assumption | (rw [hrl]; omega)) (by first | omega | assumption | (rw [hrl]; omega)))) (by kernel_rfl) ⟨ocs (by kernel_rfl), trivial⟩ (by kernel_rfl) (ArgOs.cons (ArgO.slot 58 (.a (.ptr 1 0))) (ArgOs.cons ((ArgO.v vt)) (ArgOs.nil))))
    refine za (nl (wp_dr ?_))
    refine zd ?_ (h := fun ν => acts_field (off' := 0) ν qP7_fo_26_0 rfl)
    refine zd ?_ (h := fun ν => acts_load_own (x := .sl 18 0 ((rectR (1 + (cuX b c 6)) (1 + (cuX b (cuN b c 6) 5))).length)) ν qP7_ti_24 (by exact rfl))
    refine zdm ?_
    refine zd ?_ (h := fun ν => acts_field (off' := 0) ν qP7_fo_26_0 rfl)
    refine zd ?_ (h := fun ν => acts_load_own (x := .sl 18 0 ((rectR (1 + (cuX b c 6)) (1 + (cuX b (cuN b c 6) 5))).length)) ν qP7_ti_24 (by exact rfl))
    refine zdm ?_
    refine zd ?_ (h := fun ν => ix0 ν qP7_un_24 qP7_sz_3 vt (hlt := (by first | omega | assumption | (rw [hrl]; omega))))
    refine zd ?_ (h := fun ν => lI ν qP7_ti_3 (by first | omega | assumption | (rw [hrl]; omega)))
    refine zdm ?_
    refine zd ?_ (h := fun ν => acts_bin ν vc vt (r_shl (c := (((3 <<< (1 + (cuX b c 6))) : Nat) : Int)) (by first | omega | exact Int.natCast_nonneg _) (shlI (m := 3) (n := (1 + (cuX b c 6))) rfl (by first | rfl | omega) (by first | omega | assumption | exact Nat.lt_of_le_of_lt (shr_le _ _) (by first | omega | assumption | (first | omega | assumption | (rw [hrl]; omega))) | (first | omega | assumption | (rw [hrl]; omega))) (by first | omega | assumption | exact Nat.lt_of_le_of_lt (shr_le _ _) (by first | omega | assumption | (first | omega | assumption | (rw [hrl]; omega))) | (first | omega | assumption | (rw [hrl]; omega))))))
    refine zd ?_ (h := fun ν => acts_bin ν vt vt (r_or (c := (((((gI R (cuX b (cuN b cz 3) (1 + (cuX b (cuN b c 6) 5)))).toNat) ||| (3 <<< (1 + (cuX b c 6)))) : Nat) : Int)) (orI (m := ((gI R (cuX b (cuN b cz 3) (1 + (cuX b (cuN b c 6) 5)))).toNat)) (n := (3 <<< (1 + (cuX b c 6)))) (Int.toNat_of_nonneg (by first | omega | assumption | (rw [hrl]; omega))).symm rfl (by first | omega | assumption | exact Nat.lt_of_le_of_lt (shr_le _ _) (by first | omega | assumption | (first | omega | assumption | (rw [hrl]; omega))) | (first | omega | assumption | (rw [hrl]; omega))) (by first | omega | assumption | exact Nat.lt_of_le_of_lt (shr_le _ _) (by first | omega | assumption | (first | omega | assumption | (rw [hrl]; omega))) | (first | omega | assumption | (rw [hrl]; omega))))))
    refine zd ?_ (h := fun ν => ix0 ν qP7_un_24 qP7_sz_3 vt (hlt := (by first | omega | assumption | (rw [hrl]; omega))))
    refine zd ?_ (h := fun _ => sI qP7_ti_3 xt (by first | omega | assumption | (rw [hrl]; omega)))
    refine dw_nil (sq (rg ?_))
    refine z ?_ (h := fun ν => acts_load_owns (xs := [(.sl 18 0 ((rectR (1 + (cuX b c 6)) (1 + (cuX b (cuN b c 6) 5))).length) : A)]) ν qP7_ti_26 rfl (by decide) rfl)
    refine z ?_ (h := fun _ => acts_store (cells := [(.sl 18 0 ((rectR (1 + (cuX b c 6)) (1 + (cuX b (cuN b c 6) 5))).length) : A)]) qP7_ti_26 xt (by exact rfl) (by decide) (by exact ob1 rfl) (by exact Nat.le_of_ble_eq_true rfl) (by exact rfl))
    refine nl (wp_ret' ?_)
    exact ⟨[kP 2 2 0, kO 1 52 3 true [(.slv b.length 1 (ysl b) : A), aI (((cuN b (cuN b cz 3) (1 + (cuX b (cuN b c 6) 5))).i : Nat) : Int), aI ((cuN b (cuN b cz 3) (1 + (cuX b (cuN b c 6) 5))).h)], kO 2 26 1 true [(.sl 900 0 ((rectR (1 + (cuX b c 6)) (1 + (cuX b (cuN b c 6) 5))).length) : A)], kO 900 3 1 true (pl (isl (R.set (cuX b (cuN b cz 3) (1 + (cuX b (cuN b c 6) 5))) (((((gI R (cuX b (cuN b cz 3) (1 + (cuX b (cuN b c 6) 5)))).toNat) ||| (3 <<< (1 + (cuX b c 6)))) : Nat) : Int)))), kF 5, kF 11, kF 14, kF 18, kF 20, kF 27, kF 30, kF 56, kF 60, kF 74, kF 75, kF 76, kF 77], wkf (subst1 [(900, 18)]) (wS <| wX <| wX <| wP <| by (iterate 13 refine wF ?_); exact wN), ⟨obj_eq (c := [(.slv b.length 1 (ysl b) : A), aI (((cuN b (cuN b cz 3) (1 + (cuX b (cuN b c 6) 5))).i : Nat) : Int), aI ((cuN b (cuN b cz 3) (1 + (cuX b (cuN b c 6) 5))).h)]) (by kernel_rfl) (by first | exact cu_cells (congrArg Prod.snd hfin).symm _ _ | exact cu_cells (congrArg Prod.snd hfin) _ _ | exact (congrArg Prod.fst hfin).symm | exact congrArg Prod.fst hfin), obj_eq (c := pl (isl (R.set (cuX b (cuN b cz 3) (1 + (cuX b (cuN b c 6) 5))) (((((gI R (cuX b (cuN b cz 3) (1 + (cuX b (cuN b c 6) 5)))).toNat) ||| (3 <<< (1 + (cuX b c 6)))) : Nat) : Int)))) (by kernel_rfl) (congrArg (fun z => pl (isl z)) (by first | exact cu_cells (congrArg Prod.snd hfin).symm _ _ | exact cu_cells (congrArg Prod.snd hfin) _ _ | exact (congrArg Prod.fst hfin).symm | exact congrArg Prod.fst hfin)), trivial⟩, vo_cells (h := 2) ⟨26, 1, true, [(.sl 900 0 ((rectR (1 + (cuX b c 6)) (1 + (cuX b (cuN b c 6) 5))).length) : A)]⟩ (by kernel_rfl) (by kernel_rfl) qP7_ti_26 (Nat.le_of_ble_eq_true rfl) (by first | rfl | (exact congrArg (fun z : Nat => [A.sl 900 0 z]) (by (rw [hrl, hr3]; rfl))))⟩
   ·skip
    have hfin := r3_b hend hw6 (of_decide_eq_false c5)
    refine sk (sq (rg ?_))
    refine z ?_ (h := fun ν => acts_load_owns (xs := [(.sl 18 0 ((rectR (1 + (cuX b c 6)) (1 + (cuX b (cuN b c 6) 5))).length) : A)]) ν qP7_ti_26 rfl (by decide) rfl)
    refine z ?_ (h := fun _ => acts_store (cells := [(.sl 18 0 ((rectR (1 + (cuX b c 6)) (1 + (cuX b (cuN b c 6) 5))).length) : A)]) qP7_ti_26 xt (by exact rfl) (by decide) (by exact ob1 rfl) (by exact Nat.le_of_ble_eq_true rfl) (by exact rfl))
    refine nl (wp_ret' ?_)
    exact ⟨[kP 2 2 0, kO 1 52 3 true [(.slv b.length 1 (ysl b) : A), aI (((cuN b cz 3).i : Nat) : Int), aI ((cuN b cz 3).h)], kO 2 26 1 true [(.sl 900 0 ((rectR (1 + (cuX b c 6)) (1 + (cuX b (cuN b c 6) 5))).length) : A)], kO 900 3 1 true (pl (isl R)), kF 5, kF 11, kF 14, kF 18, kF 20, kF 27, kF 30, kF 56, kF 60, kF 74, kF 75, kF 76, kF 77], wkf (subst1 [(900, 18)]) (wS <| wX <| wX <| wP <| by (iterate 13 refine wF ?_); exact wN), ⟨obj_eq (c := [(.slv b.length 1 (ysl b) : A), aI (((cuN b cz 3).i : Nat) : Int), aI ((cuN b cz 3).h)]) (by kernel_rfl) (by first | exact cu_cells (congrArg Prod.snd hfin).symm _ _ | exact cu_cells (congrArg Prod.snd hfin) _ _ | exact (congrArg Prod.fst hfin).symm | exact congrArg Prod.fst hfin), obj_eq (c := pl (isl R)) (by kernel_rfl) (congrArg (fun z => pl (isl z)) (by first | exact cu_cells (congrArg Prod.snd hfin).symm _ _ | exact cu_cells (congrArg Prod.snd hfin) _ _ | exact (congrArg Prod.fst hfin).symm | exact congrArg Prod.fst hfin)), trivial⟩, vo_cells (h := 2) ⟨26, 1, true, [(.sl 900 0 ((rectR (1 + (cuX b c 6)) (1 + (cuX b (cuN b c 6) 5))).length) : A)]⟩ (by kernel_rfl) (by kernel_rfl) qP7_ti_26 (Nat.le_of_ble_eq_true rfl) (by first | rfl | (exact congrArg (fun z : Nat => [A.sl 900 0 z]) (by (rw [hrl, hr3]; rfl))))⟩
  ·skip
   have c4P := of_decide_eq_false c4
   have hfin := r3_a hend (by omega)
   refine rg (zm ?_)
   refine z ?_ (h := fun ν => acts_bin ν vt vc (r_lss (c := false) c4))
   refine zm (zo (zo ?_))
   refine z ?_ (h := fun ν => acts_pick_f ν vt xc)
   refine nl (wf (sk (sq (rg ?_))))
   refine z ?_ (h := fun ν => acts_load_owns (xs := [(.sl 18 0 ((rectR (1 + (cuX b c 6)) (1 + (cuX b (cuN b c 6) 5))).length) : A)]) ν qP7_ti_26 rfl (by decide) rfl)
   refine z ?_ (h := fun _ => acts_store (cells := [(.sl 18 0 ((rectR (1 + (cuX b c 6)) (1 + (cuX b (cuN b c 6) 5))).length) : A)]) qP7_ti_26 xt (by exact rfl) (by decide) (by exact ob1 rfl) (by exact Nat.le_of_ble_eq_true rfl) (by exact rfl))
   refine nl (wp_ret' ?_)
   exact ⟨[kP 2 2 0, kO 1 52 3 true [(.slv b.length 1 (ysl b) : A), aI ((cz.i : Nat) : Int), aI cz.h], kO 2 26 1 true [(.sl 900 0 ((rectR (1 + (cuX b c 6)) (1 + (cuX b (cuN b c 6) 5))).length) : A)], kO 900 3 1 true (pl (isl R)), kF 5, kF 11, kF 14, kF 18, kF 20, kF 27, kF 30, kF 56, kF 60, kF 74, kF 75, kF 76, kF 77], wkf (subst1 [(900, 18)]) (wS <| wX <| wX <| wP <| by (iterate 13 refine wF ?_); exact wN), ⟨obj_eq (c := [(.slv b.length 1 (ysl b) : A), aI ((cz.i : Nat) : Int), aI cz.h]) (by kernel_rfl) (by first | exact cu_cells (congrArg Prod.snd hfin).symm _ _ | exact cu_cells (congrArg Prod.snd hfin) _ _ | exact (congrArg Prod.fst hfin).symm | exact congrArg Prod.fst hfin), obj_eq (c := pl (isl R)) (by kernel_rfl) (congrArg (fun z => pl (isl z)) (by first | exact cu_cells (congrArg Prod.snd hfin).symm _ _ | exact cu_cells (congrArg Prod.snd hfin) _ _ | exact (congrArg Prod.fst hfin).symm | exact congrArg Prod.fst hfin)), trivial⟩, vo_cells (h := 2) ⟨26, 1, true, [(.sl 900 0 ((rectR (1 + (cuX b c 6)) (1 + (cuX b (cuN b c 6) 5))).length) : A)]⟩ (by kernel_rfl) (by kernel_rfl) qP7_ti_26 (Nat.le_of_ble_eq_true rfl) (by first | rfl | (exact congrArg (fun z : Nat => [A.sl 900 0 z]) (by (rw [hrl, hr3]; rfl))))⟩

set_option maxHeartbeats 4000000 in
set_option maxRecDepth 100000 in
theorem spec_l08Region_fn (b : List Nat) (c : Cu) (hb : b.length ≤ 1048576) (hy : ∀ x ∈ b, x < 256) (hi : c.i ≤ b.length) : FnO Try.prog 34 [.a (.ptr 1 0)] [(.o 1, some (.o ⟨52, 3, true, [(.slv b.length 1 (ysl b) : A), aI ((c.i : Nat) : Int), aI c.h]⟩))] (V.b (.agg [(.sl 900 0 ((r8 b 6 c).1.length) : A)])) [(.o 1, some (.o ⟨52, 3, true, [(.slv b.length 1 (ysl b) : A), aI ((((r8 b 6 c).2).i : Nat) : Int), aI (((r8 b 6 c).2).h)]⟩)), (.o 900, some (.o ⟨3, 1, true, pl (isl ((r8 b 6 c).1))⟩))] [1] := by
 refine fn_introO (N := 23) Try.func34 rfl (by kernel_rfl) rfl (Nat.le_of_ble_eq_true rfl) rfl rfl (by kernel_rfl) (by kernel_rfl) ⟨ocs (by kernel_rfl), trivial⟩ [2, 4, 10, 12, 13, 16, 20, 22, 23, 24, 25, 26] (retO1 rfl) (fun W own kp im0 => ?_)
 show Wp _ _ _ [kP 0 1 0, kO 1 52 3 true [(.slv b.length 1 (ysl b) : A), aI ((c.i : Nat) : Int), aI c.h], kF 2, kF 4, kF 10, kF 12, kF 13, kF 16, kF 20, kF 22, kF 23, kF 24, kF 25, kF 26]
 refine sq (rg ?_)
 refine z ?_ (h := fun ν => acts_alloc' (h := 2) (cap := 1) (s := 1) (cells := [(.val (.slice none 0 0) : A)]) ν qP7_zi_26 rfl rfl (by decide))
 refine nl (sq (sq (rg (zk (nl (bkk ?_))))))
 refine wp_loop' (fun ((k, cz) : Nat × Cu) => k ≤ 6 ∧ cz.i ≤ b.length ∧ r8 b (6 - k) cz = (r8 b 6 c)) (fun ((k, cz) : Nat × Cu) => [kP 0 1 0, kP 2 2 0, kI 3 ((k : Nat) : Int), kO 1 52 3 true [(.slv b.length 1 (ysl b) : A), aI ((cz.i : Nat) : Int), aI cz.h], kO 2 26 1 true [(.val (.slice none 0 0) : A)], kF 4, kF 10, kF 12, kF 13, kF 16, kF 20, kF 22, kF 23, kF 24, kF 25, kF 26]) (fun ((k, cz) : Nat × Cu) => 6 - k) ((0 : Nat), (c : Cu)) (by exact ⟨Nat.zero_le _, hi, rfl⟩) (wkf id (wS <| wS <| wE (e := (vint (by first | rfl | omega | (simp; done) | (simp; omega)))) <| wX <| wX <| by (iterate 11 refine wF ?_); exact wN)) ?_
 rintro ⟨k, cz⟩ inv1
 replace inv1 : k ≤ 6 ∧ cz.i ≤ b.length ∧ r8 b (6 - k) cz = (r8 b 6 c) := inv1
 obtain ⟨hk6, hi0, hr8⟩ := inv1
 refine sq (sq (rg (zm ?_)))
 refine z ?_ (h := fun ν => acts_bin ν vt vc (r_lss rfl))
 refine nl ?_
 refine wi (fun c2 => ?_) (fun c2 => ?_)
 ·skip
  have c2P := of_decide_eq_true c2
  have hi4 := r3_i (b := b) hi0
  have hl8 := r3_len b cz
  have hcb := cnt_bd (regSet_lt (r3_ok b cz))
  refine sk (sq (bkk (sq (rg (zm ?_)))))
  refine z ?_ (h := fun ν => acts_callO (d := 10) (f := 48) (os := [(.o 1, some (.o ⟨52, 3, true, [(.slv b.length 1 (ysl b) : A), aI ((cz.i : Nat) : Int), aI cz.h]⟩))]) (os' := [(.o 1, some (.o ⟨52, 3, true, [(.slv b.length 1 (ysl b) : A), aI ((((r3 b cz).2).i : Nat) : Int), aI (((r3 b cz).2).h)]⟩)), (.o 4, some (.o ⟨3, 1, true, pl (isl ((r3 b cz).1))⟩))]) (r := V.b (.agg [(.sl 4 0 ((r3 b cz).1.length) : A)])) (bs := [.a (.ptr 1 0)]) (keep := [1]) (new := [4]) (dead := []) ν (FnO.ren' (spec_l03Region_fn b cz (by first | omega | assumption | exact r3_ok _ _) (by first | omega | assumption | exact r3_ok _ _) (by first | omega | assumption | exact r3_ok _ _)) (subst1 [(900, 4)]) rfl rfl (by kernel_rfl) (by kernel_rfl) ⟨ocs (by kernel_rfl), oc_pl (fun _ => rfl), trivial⟩ (by kernel_rfl) rfl (by simp only [renS, Ob.ren, pl_ren, rws_ren_doms, rws_ren_ints, rws_ren_cels, rwI_ren, rwD_ren]; first | done | rfl) (by simp only [renS, Ob.ren, pl_ren, rws_ren_doms, rws_ren_ints, rws_ren_cels, rwI_ren, rwD_ren]; first | done | rfl) rfl rfl) (by kernel_rfl) ⟨ocs (by kernel_rfl), oc_pl (fun _ => rfl), trivial⟩ (by kernel_rfl) (ArgOs.cons (ArgO.slot 9 (.a (.ptr 1 0))) (ArgOs.nil)))
  refine z ?_ (h := fun ν => acts_alloc' (h := 10) (cap := 1) (s := 1) (cells := [(.val (.slice none 0 0) : A)]) ν qP7_zi_26 rfl rfl (by decide))
  refine z ?_ (h := fun _ => acts_store (cells := [(.sl 4 0 ((r3 b cz).1.length) : A)]) qP7_ti_26 xt (by exact rfl) (by decide) (by exact ob1 rfl) (by exact Nat.le_of_ble_eq_true rfl) (by exact rfl))
  refine nl (sq (rg ?_))
  refine z ?_ (h := fun ν => acts_load_owns (xs := [(.sl 4 0 ((r3 b cz).1.length) : A)]) ν qP7_ti_26 rfl (by decide) rfl)
  refine z ?_ (h := fun ν => acts_call1 ν (spec_l07Count_fn ((r3 b cz).1) (by first | omega | assumption | exact r3_ok _ _)) (ac (ArgV.reg _ _ _ (s := 1) (by simp [isl]) (by first | exact List.take_of_length_le (by simp [isl]) | (simp [isl]; done))) an) rv)
  refine z ?_ (h := fun ν => acts_call1 ν (spec_l01In_fn (((cnt (regSet ((r3 b cz).1))) : Nat) : Int) 1 300 ) (ac (ArgV.v vt) (ac (ArgV.v vc) (ac (ArgV.v vc) an))) rv)
  refine nl ?_
  refine wi (b := (inB (((cnt (regSet ((r3 b cz).1))) : Nat) : Int) 1 300)) (fun c3 => ?_) (fun c3 => ?_)
  ·skip
   have hfin := hr8.symm.trans (r8_yes (k := 6 - k) (by omega) c3)
   refine sq (rg ?_)
   refine z ?_ (h := fun ν => acts_load_owns (xs := [(.sl 4 0 ((r3 b cz).1.length) : A)]) ν qP7_ti_26 rfl (by decide) rfl)
   refine z ?_ (h := fun _ => acts_store (cells := [(.sl 4 0 ((r3 b cz).1.length) : A)]) qP7_ti_26 xt (by exact rfl) (by decide) (by exact ob1 rfl) (by exact Nat.le_of_ble_eq_true rfl) (by exact rfl))
   refine nl (wp_ret' ?_)
   exact ⟨[kP 2 2 0, kO 1 52 3 true [(.slv b.length 1 (ysl b) : A), aI ((((r3 b cz).2).i : Nat) : Int), aI (((r3 b cz).2).h)], kO 2 26 1 true [(.sl 900 0 ((r3 b cz).1.length) : A)], kO 900 3 1 true (pl (isl ((r3 b cz).1))), kF 4, kF 10, kF 12, kF 13, kF 16, kF 20, kF 22, kF 23, kF 24, kF 25, kF 26], wkf (subst1 [(900, 4)]) (wS <| wX <| wX <| wP <| by (iterate 11 refine wF ?_); exact wN), ⟨obj_eq (c := [(.slv b.length 1 (ysl b) : A), aI ((((r3 b cz).2).i : Nat) : Int), aI (((r3 b cz).2).h)]) (by kernel_rfl) (by first | exact cu_cells (congrArg Prod.snd hfin).symm _ _ | exact cu_cells (congrArg Prod.snd hfin) _ _ | exact (congrArg Prod.fst hfin).symm | exact congrArg Prod.fst hfin), obj_eq (c := pl (isl ((r3 b cz).1))) (by kernel_rfl) (congrArg (fun z => pl (isl z)) (by first | exact cu_cells (congrArg Prod.snd hfin).symm _ _ | exact cu_cells (congrArg Prod.snd hfin) _ _ | exact (congrArg Prod.fst hfin).symm | exact congrArg Prod.fst hfin)), trivial⟩, vo_cells (h := 2) ⟨26, 1, true, [(.sl 900 0 ((r3 b cz).1.length) : A)]⟩ (by kernel_rfl) (by kernel_rfl) qP7_ti_26 (Nat.le_of_ble_eq_true rfl) (by first | rfl | (exact congrArg (fun z : Nat => [A.sl 900 0 z]) (by first | exact congrArg (fun z => z.1.length) hfin.symm | exact congrArg (fun z => z.1.length) hfin)))⟩
  ·skip
   have hnx := r8_no (k := 6 - k) (by omega) c3
   refine sk (rg (zm ?_))
   refine z ?_ (h := fun ν => acts_bin ν vt vc (rA (by first | omega | assumption | exact r3_ok _ _) (by first | omega | assumption | exact r3_ok _ _)))
   refine za (nl ?_)
   exact loop_back ((k + 1), (r3 b cz).2) (by refine ⟨by omega, hi4, ?_⟩; rw [show 6 - (k + 1) = 6 - k - 1 by omega]; exact hnx.symm.trans hr8) (by show 6 - (k + 1) < 6 - k; omega) (wkf id (wS <| wS <| wE (e := (vint (by first | rfl | omega | (simp; done) | (simp; omega)))) <| wX <| wX <| by (iterate 11 refine wF ?_); exact wN))
 ·skip
  have c2P := of_decide_eq_false c2
  have hend := r8_end (b := b) (k := 6 - k) (c2 := cz) (by omega)
  have hx2 : cuX b cz 2 < 2 := cuX_lt (by decide)
  have hx3 : cuX b (cuN b cz 2) 3 < 3 := cuX_lt (by decide)
  have hi4 := cuI_le (n := 2) hi0
  have hi5 := cuI_le (n := 3) hi4
  have hfin := hr8.symm.trans hend
  refine wp_exit' (sq (rg (zm ?_)))
  refine z ?_ (h := fun ν => acts_callO (d := 16) (f := 19) (os := [(.o 1, some (.o ⟨52, 3, true, [(.slv b.length 1 (ysl b) : A), aI ((cz.i : Nat) : Int), aI cz.h]⟩))]) (os' := [(.o 1, some (.o ⟨52, 3, true, [(.slv b.length 1 (ysl b) : A), aI (((cuN b cz 2).i : Nat) : Int), aI ((cuN b cz 2).h)]⟩))]) (r := V.v (.int .i64 (((cuX b cz 2) : Nat) : Int))) (bs := [.a (.ptr 1 0), .a (.val (.int .i64 2))]) (keep := [1]) (new := []) (dead := []) ν ((spec_l01Below_fn b cz 2 (by first | omega | assumption | exact r3_ok _ _) (by first | omega | assumption | exact r3_ok _ _) (by first | omega | assumption | exact r3_ok _ _) (by first | omega | assumption | exact r3_ok _ _) (by first | omega | assumption | exact r3_ok _ _))) (by kernel_rfl) ⟨ocs (by kernel_rfl), trivial⟩ (by kernel_rfl) (ArgOs.cons (ArgO.slot 15 (.a (.ptr 1 0))) (ArgOs.cons ((ArgO.v vc)) (ArgOs.nil))))
  refine z ?_ (h := fun ν => acts_bin ν vc vt (rM (by first | omega | assumption | exact r3_ok _ _) (by first | omega | assumption | exact r3_ok _ _)))
  refine z ?_ (h := fun ν => acts_bin ν vc vt (rA (by first | omega | assumption | exact r3_ok _ _) (by first | omega | assumption | exact r3_ok _ _)))
  refine zm ?_
  refine z ?_ (h := fun ν => acts_callO (d := 20) (f := 19) (os := [(.o 1, some (.o ⟨52, 3, true, [(.slv b.length 1 (ysl b) : A), aI (((cuN b cz 2).i : Nat) : Int), aI ((cuN b cz 2).h)]⟩))]) (os' := [(.o 1, some (.o ⟨52, 3, true, [(.slv b.length 1 (ysl b) : A), aI (((cuN b (cuN b cz 2) 3).i : Nat) : Int), aI ((cuN b (cuN b cz 2) 3).h)]⟩))]) (r := V.v (.int .i64 (((cuX b (cuN b cz 2) 3) : Nat) : Int))) (bs := [.a (.ptr 1 0), .a (.val (.int .i64 3))]) (keep := [1]) (new := []) (dead := []) ν ((spec_l01Below_fn b (cuN b cz 2) 3 (by first | omega | assumption | exact r3_ok _ _) (by first | omega | assumption | exact r3_ok _ _) (by first | omega | assumption | exact r3_ok _ _) (by first | omega | assumption | exact r3_ok _ _) (by first | omega | assumption | exact r3_ok _ _))) (by kernel_rfl) ⟨ocs (by kernel_rfl), trivial⟩ (by kernel_rfl) (ArgOs.cons (ArgO.slot 19 (.a (.ptr 1 0))) (ArgOs.cons ((ArgO.v vc)) (ArgOs.nil))))
  refine z ?_ (h := fun ν => acts_bin ν vc vt (rA (by first | omega | assumption | exact r3_ok _ _) (by first | omega | assumption | exact r3_ok _ _)))
  refine z ?_ (h := fun ν => acts_call1 ν (spec_Rectangle_fn (2 + (2 * (cuX b cz 2))) (2 + (cuX b (cuN b cz 2) 3)) (by first | omega | assumption | exact r3_ok _ _) (by first | omega | assumption | exact r3_ok _ _)) (ac (ArgV.v vt) (ac (ArgV.v vt) an)) (ResV.reg _ _ _ _ 22))
  refine z ?_ (h := fun _ => acts_store (cells := [(.sl 22 0 ((rectR (2 + (2 * (cuX b cz 2))) (2 + (cuX b (cuN b cz 2) 3))).length) : A)]) qP7_ti_26 xt (by exact rfl) (by decide) (by exact ob1 rfl) (by exact Nat.le_of_ble_eq_true rfl) (by exact rfl))
  refine nl (wp_ret' ?_)
  exact ⟨[kP 2 2 0, kO 1 52 3 true [(.slv b.length 1 (ysl b) : A), aI (((cuN b (cuN b cz 2) 3).i : Nat) : Int), aI ((cuN b (cuN b cz 2) 3).h)], kO 2 26 1 true [(.sl 900 0 ((rectR (2 + (2 * (cuX b cz 2))) (2 + (cuX b (cuN b cz 2) 3))).length) : A)], kO 900 3 1 true (pl (isl (rectR (2 + (2 * (cuX b cz 2))) (2 + (cuX b (cuN b cz 2) 3))))), kF 4, kF 10, kF 12, kF 13, kF 16, kF 20, kF 22, kF 23, kF 24, kF 25, kF 26], wkf (subst1 [(900, 22)]) (wS <| wX <| wX <| wP <| by (iterate 11 refine wF ?_); exact wN), ⟨obj_eq (c := [(.slv b.length 1 (ysl b) : A), aI (((cuN b (cuN b cz 2) 3).i : Nat) : Int), aI ((cuN b (cuN b cz 2) 3).h)]) (by kernel_rfl) (by first | exact cu_cells (congrArg Prod.snd hfin).symm _ _ | exact cu_cells (congrArg Prod.snd hfin) _ _ | exact (congrArg Prod.fst hfin).symm | exact congrArg Prod.fst hfin), obj_eq (c := pl (isl (rectR (2 + (2 * (cuX b cz 2))) (2 + (cuX b (cuN b cz 2) 3))))) (by kernel_rfl) (congrArg (fun z => pl (isl z)) (by first | exact cu_cells (congrArg Prod.snd hfin).symm _ _ | exact cu_cells (congrArg Prod.snd hfin) _ _ | exact (congrArg Prod.fst hfin).symm | exact congrArg Prod.fst hfin)), trivial⟩, vo_cells (h := 2) ⟨26, 1, true, [(.sl 900 0 ((rectR (2 + (2 * (cuX b cz 2))) (2 + (cuX b (cuN b cz 2) 3))).length) : A)]⟩ (by kernel_rfl) (by kernel_rfl) qP7_ti_26 (Nat.le_of_ble_eq_true rfl) (by first | rfl | (exact congrArg (fun z : Nat => [A.sl 900 0 z]) (by first | exact congrArg (fun z => z.1.length) hfin.symm | exact congrArg (fun z => z.1.length) hfin)))⟩
end Cl
end Go.Proofs.Ytokihekhelbijaa
