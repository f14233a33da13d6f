/- Walks over clean states, printed by wg.py. No statement is proved here. -/
import Derived.Test.YtgmkkfdnmdohlaaGreatDoorC0
import Derived.Test.YtgmkkfdnmdohlaaGreatDoorClB
set_option linter.unusedSimpArgs false
set_option linter.unusedVariables false
namespace Go.Proofs.YtgmkkfdnmdohlaaGreatDoor
namespace Cl
open Go.ChangeShapes Go.WideShapes Go.ChangeAt Go.RowKit
set_option maxRecDepth 20000

theorem regOk_spec {l : List Int} {k : Nat} (hk : k < l.length) (h : inB (gI l k) 0 255 = false) : regOk l = false := by
  unfold regOk allIn
  have : l.all (fun x => inB x 0 255) = false := by
    rw [List.all_eq_false]; exact ⟨l[k], List.getElem_mem hk, by rw [gI_eq hk] at h; simp [h]⟩
  rw [this]; simp
theorem regOk_spec2 {l : List Int} (h : allIn l 0 255 = true) : regOk l = decide (l.length ≤ 8) := by unfold regOk; rw [h]; simp
theorem allIn_snoc {l : List Int} {k : Nat} (hk : k < l.length) (h : allIn (l.take k) 0 255 = true) (h2 : inB (gI l k) 0 255 = true) : allIn (l.take (k+1)) 0 255 = true := by
  unfold allIn at *; rw [List.take_succ_eq_append_getElem hk, List.all_append, h]; simp [← gI_eq hk, h2]
theorem allIn_end {l : List Int} {k : Nat} (hk : ¬ (k : Int) < (l.length : Int)) (h : allIn (l.take k) 0 255 = true) : allIn l 0 255 = true := by rwa [List.take_of_length_le (by omega)] at h
theorem qC1_fo_29_0 : fieldOff Tryz.prog 29 0 = some 0 := by kernel_rfl
theorem qC1_fo_70_0 : fieldOff Tryz.prog 70 0 = some 0 := by kernel_rfl
theorem qC1_fo_70_1 : fieldOff Tryz.prog 70 1 = some 1 := by kernel_rfl
theorem qC1_sz_3 : (Tryz.prog.info? 3).map (·.size) = some 1 := by kernel_rfl
theorem qC1_ti_22 : TI Tryz.prog 22 false 1 := ⟨⟨_, Tryz.underlying22, rfl⟩, by kernel_rfl⟩
theorem qC1_ti_29 : TI Tryz.prog 29 true 1 := ⟨⟨_, Tryz.underlying29, rfl⟩, by kernel_rfl⟩
theorem qC1_ti_3 : TI Tryz.prog 3 false 1 := ⟨⟨_, Tryz.underlying3, rfl⟩, by kernel_rfl⟩
theorem qC1_ti_70 : TI Tryz.prog 70 true 2 := ⟨⟨_, Tryz.underlying70, rfl⟩, by kernel_rfl⟩
theorem qC1_un_22 : Tryz.prog.underlying 22 = some (.slice 3) := Tryz.underlying22
theorem qC1_un_3 : Tryz.prog.underlying 3 = some (.int .i64) := Tryz.underlying3
theorem qC1_un_36 : Tryz.prog.underlying 36 = some (.slice 70) := Tryz.underlying36
theorem qC1_un_82 : Tryz.prog.underlying 82 = some (.int .u64) := Tryz.underlying82
theorem qC1_zi_70 : ZI Tryz.prog 70 (.agg #[.int .i64 0, .int .i64 0]) 2 16 := by unfold ZI; kernel_rfl
set_option maxHeartbeats 4000000 in
set_option maxRecDepth 100000 in
theorem impl_set__has_fn (s : Nat) (c : Cel) (hs : s < 18446744073709551616) : Fn Tryz.prog 122 [.a (.val (.int .u64 ((s : Nat) : Int))), .agg ([vI c.x, vI c.y].map A.val)] [.val (.bool (hasS s c))] := by
 refine fn_intro (N := 15) Tryz.func122 rfl (by kernel_rfl) rfl (Nat.le_of_ble_eq_true rfl) [3, 6, 10] (ret1 rfl) (fun W => ?_)
 show Wp _ _ _ [kU 0 ((s : Nat) : Int), kV 1 (V.av [vI c.x, vI c.y]), kF 3, kF 6, kF 10]
 refine sq (rg ?_)
 refine z ?_ (h := fun ν => acts_box (h := 3) ν xt (by exact ob1 rfl))
 refine zk (nl (sq ?_))
 rcases Bool.eq_false_or_eq_true ((okc c.x c.y)) with c1 | c1
 ·skip
  have c1Q := okc_true.1 c1
  refine rg ?_
  refine z ?_ (h := fun ν => acts_load_owns (xs := [vI c.x, vI c.y].map A.val) ν qC1_ti_70 rfl (by decide) rfl)
  refine z ?_ (h := fun ν => acts_call1 ν (impl_CellOk_fn c ) (ac (ArgV.va va) an) (resval (congrArg Value.bool c1)))
  refine zm ?_
  refine zg ?_ (h := fun ν => step_on rfl rfl (mt ν))
  refine zg ?_ (h := fun ν => step_on rfl rfl (acts_load_owns (xs := [vI c.x, vI c.y].map A.val) ν qC1_ti_70 rfl (by decide) rfl))
  refine zg ?_ (h := fun ν => step_on rfl rfl (acts_call1 ν (impl_CellIndex_fn c (by omega)) (ac (ArgV.va va) an) rv))
  refine zg ?_ (h := fun ν => step_on rfl rfl (acts_bin ν vt vt (r_shr (c := (((s >>> (idx c)) : Nat) : Int)) (by omega) (shrU (m := s) (n := (idx c)) rfl rfl (by (first | omega | assumption | exact idx_lt (by assumption))) rfl))))
  refine zg ?_ (h := fun ν => step_on rfl rfl (acts_bin ν vt vc (r_and (c := ((((s >>> (idx c)) &&& 1) : Nat) : Int)) (andU (m := (s >>> (idx c))) (n := 1) rfl rfl (by exact Nat.lt_of_le_of_lt (shr_le _ _) (by first | omega | assumption | (first | omega | assumption | exact idx_lt (by assumption)))) (by omega)))))
  refine zg ?_ (h := fun ν => step_on rfl rfl (acts_bin ν vt vc (r_eql (c := (s.testBit (idx c))) (bit_one _ _))))
  refine z ?_ (h := fun ν => acts_pick_t ν vt xt)
  refine za (nl (wp_ret' ?_))
  exact VRes.tmp _ _ _ (by exact rfl) (bval (congrArg Value.bool (by (simp_all [hasS]; done))))
 ·skip
  have c1Q := okc_false.1 c1
  refine rg ?_
  refine z ?_ (h := fun ν => acts_load_owns (xs := [vI c.x, vI c.y].map A.val) ν qC1_ti_70 rfl (by decide) rfl)
  refine z ?_ (h := fun ν => acts_call1 ν (impl_CellOk_fn c ) (ac (ArgV.va va) an) (resval (congrArg Value.bool c1)))
  refine zm (zo (zo (zo (zo (zo (zo ?_))))))
  refine z ?_ (h := fun ν => acts_pick_f ν vt xc)
  refine za (nl (wp_ret' ?_))
  exact VRes.tmp _ _ _ (by exact rfl) (bval (congrArg Value.bool (by (simp_all [hasS]; done))))

set_option maxHeartbeats 4000000 in
set_option maxRecDepth 100000 in
theorem impl_set__with_fn (s : Nat) (c : Cel) (hs : s < 18446744073709551616) (hc : okc c.x c.y = true) : Fn Tryz.prog 113 [.a (.val (.int .u64 ((s : Nat) : Int))), .agg ([vI c.x, vI c.y].map A.val)] [.val (.int .u64 (((addC s c) : Nat) : Int))] := by
 refine fn_intro (N := 10) Tryz.func113 rfl (by kernel_rfl) rfl (Nat.le_of_ble_eq_true rfl) [3, 7] (ret1 rfl) (fun W => ?_)
 show Wp _ _ _ [kU 0 ((s : Nat) : Int), kV 1 (V.av [vI c.x, vI c.y]), kF 3, kF 7]
 refine sq (rg ?_)
 refine z ?_ (h := fun ν => acts_box (h := 3) ν xt (by exact ob1 rfl))
 refine zk (nl (sq (rg (zm ?_))))
 refine z ?_ (h := fun ν => acts_load_owns (xs := [vI c.x, vI c.y].map A.val) ν qC1_ti_70 rfl (by decide) rfl)
 refine z ?_ (h := fun ν => acts_call1 ν (impl_CellIndex_fn c (by omega)) (ac (ArgV.va va) an) rv)
 refine z ?_ (h := fun ν => acts_bin ν vc vt (r_shl (c := (((2 ^ (idx c)) : Nat) : Int)) (by omega) (shl1U (n := (idx c)) rfl (by (first | omega | assumption | exact idx_lt (by assumption) | exact two_pow_u (idx_lt (by assumption)) | exact addC_lt (by assumption) (by assumption) | exact delC_lt (by assumption) _)))))
 refine z ?_ (h := fun ν => acts_bin ν vt vt (r_or (c := (((s ||| (2 ^ (idx c))) : Nat) : Int)) (orU (m := s) (n := (2 ^ (idx c))) rfl rfl (by omega) (by (first | omega | assumption | exact idx_lt (by assumption) | exact two_pow_u (idx_lt (by assumption)) | exact addC_lt (by assumption) (by assumption) | exact delC_lt (by assumption) _)))))
 refine za (nl (wp_ret' ?_))
 exact VRes.tmp _ _ _ (by exact rfl) (bval (congrArg (Value.int .u64) (by rfl)))

set_option maxHeartbeats 4000000 in
set_option maxRecDepth 100000 in
theorem impl_Region__set_fn (l : List Int) (ho : regOk l = true) : Fn Tryz.prog 63 [.agg [(.slv l.length 1 (isl l) : A)]] [.val (.int .u64 (((regSet l) : Nat) : Int))] := by
 obtain ⟨h8, hr⟩ := regOk_true ho
 refine fn_intro (N := 23) Tryz.func63 rfl (by kernel_rfl) rfl (Nat.le_of_ble_eq_true rfl) [1, 8] (ret1 rfl) (fun W => ?_)
 show Wp _ _ _ [kV 0 (V.b (.agg [(.slv l.length 1 (isl l) : A)])), kF 1, kF 8]
 refine sq (rg ?_)
 refine z ?_ (h := fun ν => acts_box (h := 1) ν xt (by exact ob1 rfl))
 refine zk (nl (sq (rg (zk (nl (sq (sq (rg ?_))))))))
 refine z ?_ (h := fun ν => acts_field (off' := 0) ν qC1_fo_29_0 rfl)
 refine z ?_ (h := fun ν => acts_load_own (x := .slv l.length 1 (isl l)) ν qC1_ti_22 (by exact rfl))
 refine z ?_ (h := fun ν => lnV ν qC1_un_22)
 refine z ?_ (h := fun ν => mc ν)
 refine nl (bkk ?_)
 refine wp_loop' (fun (k : Nat) => k ≤ l.length) (fun (k : Nat) => [kU 3 (((rs l k) : Nat) : Int), kV 7 (V.b (.a (.slv l.length 1 (isl l)))), kI 8 ((l.length : Nat) : Int), kI 9 ((k : Nat) : Int), kF 1, kF 8]) (fun (k : Nat) => l.length - k) ((0 : Nat)) (by exact (Nat.zero_le _ : 0 ≤ _)) (wkf id (wE (e := (vint (by rfl))) <| wS <| wS <| wE (e := (vint (by rfl))) <| wF <| wF <| wN)) ?_
 rintro k inv1
 replace inv1 : k ≤ l.length := inv1
 have inv := inv1
 have hrs := rs_lt ho inv
 refine sq (rg ?_)
 refine z ?_ (h := fun ν => acts_bin ν vt vt (r_lss rfl))
 refine nl (sq ?_)
 refine wi (fun c2 => ?_) (fun c2 => ?_)
 ·skip
  have c2P := of_decide_eq_true c2
  refine sk (sq (bkk (sq (rg (zm ?_)))))
  refine z ?_ (h := fun ν => ixv ν qC1_un_22 qC1_sz_3 vt (hlt := (by omega)))
  refine z ?_ (h := fun ν => uI ν qC1_ti_3 (by omega))
  refine za (za (nl (rg (zm (zm ?_)))))
  refine z ?_ (h := fun ν => acts_conv ν vt (r_conv (c := (gI l k)) qC1_un_3 qC1_un_82 (w_u64 (by (have := hr k (by omega); omega)) (by (have := hr k (by omega); omega)))))
  refine zm ?_
  refine z ?_ (h := fun ν => acts_bin ν vc vt (rM (by omega) (by omega)))
  refine z ?_ (h := fun ν => acts_bin ν vt vt (r_shl (c := (((((gI l k).toNat) <<< (8 * k)) : Nat) : Int)) (by omega) (shlU (m := ((gI l k).toNat)) (n := (8 * k)) (Int.toNat_of_nonneg (by (have := hr k (by omega); omega))).symm (by rfl) (by omega) (by (first | omega | assumption | (have := hr k (by omega); exact shl_u (by omega) (by omega)))))))
  refine z ?_ (h := fun ν => acts_bin ν vt vt (r_or (c := ((((rs l k) ||| (((gI l k).toNat) <<< (8 * k))) : Nat) : Int)) (orU (m := (rs l k)) (n := (((gI l k).toNat) <<< (8 * k))) rfl rfl (by omega) (by (first | omega | assumption | (have := hr k (by omega); exact shl_u (by omega) (by omega)))))))
  refine za (nl (rg ?_))
  refine z ?_ (h := fun ν => acts_bin ν vt vc (rA (by omega) (by omega)))
  refine zm (nl ?_)
  exact loop_back ((k + 1)) (by show _ ≤ _; omega) (by show l.length - (k + 1) < l.length - k; omega) (wkf id (wE (e := (vint (by rfl))) <| wS <| wS <| wE (e := (vint (by rfl))) <| wF <| wF <| wN))
 ·skip
  have c2P := of_decide_eq_false c2
  refine wp_exit' (sq (rg (zm (za (nl (wp_ret' ?_))))))
  exact VRes.tmp _ _ _ (by exact rfl) (bval (congrArg (Value.int .u64) (by (have e : k = l.length := by omega); subst e; rfl)))

set_option maxHeartbeats 4000000 in
set_option maxRecDepth 100000 in
theorem impl_RegionOk_fn (l : List Int) (hl : l.length ≤ 4194304) : Fn Tryz.prog 88 [.agg [(.slv l.length 1 (isl l) : A)]] [.val (.bool (regOk l))] := by
 refine fn_intro (N := 12) Tryz.func88 rfl (by kernel_rfl) rfl (Nat.le_of_ble_eq_true rfl) [1, 5, 10] (ret1 rfl) (fun W => ?_)
 show Wp _ _ _ [kV 0 (V.b (.agg [(.slv l.length 1 (isl l) : A)])), kF 1, kF 5, kF 10]
 refine sq (rg ?_)
 refine z ?_ (h := fun ν => acts_box (h := 1) ν xt (by exact ob1 rfl))
 refine zk (nl (sq ?_))
 rcases Bool.eq_false_or_eq_true (decide (((l.length : Nat) : Int) ≤ 8)) with c1 | c1
 ·skip
  have c1P := of_decide_eq_true c1
  refine rg ?_
  refine z ?_ (h := fun ν => acts_field (off' := 0) ν qC1_fo_29_0 rfl)
  refine z ?_ (h := fun ν => acts_load_own (x := .slv l.length 1 (isl l)) ν qC1_ti_22 (by exact rfl))
  refine z ?_ (h := fun ν => lnV ν qC1_un_22)
  refine z ?_ (h := fun ν => acts_bin ν vt vc (r_leq (c := true) c1))
  refine zm ?_
  refine zg ?_ (h := fun ν => step_on rfl rfl (acts_field (off' := 0) ν qC1_fo_29_0 rfl))
  refine zg ?_ (h := fun ν => step_on rfl rfl (acts_load_own (x := .slv l.length 1 (isl l)) ν qC1_ti_22 (by exact rfl)))
  refine zg ?_ (h := fun ν => step_on rfl rfl (acts_call1 ν (impl_allWithin_fn l 0 255 (by omega)) (ac (ArgV.slv _ _ _ _) (ac (ArgV.v vc) (ac (ArgV.v vc) an))) rv))
  refine z ?_ (h := fun ν => acts_pick_t ν vt xt)
  refine za (nl (wp_ret' ?_))
  exact VRes.tmp _ _ _ (by exact rfl) (bval (congrArg Value.bool (by (unfold regOk; simp_all; (try intros); omega))))
 ·skip
  have c1P := of_decide_eq_false c1
  refine rg ?_
  refine z ?_ (h := fun ν => acts_field (off' := 0) ν qC1_fo_29_0 rfl)
  refine z ?_ (h := fun ν => acts_load_own (x := .slv l.length 1 (isl l)) ν qC1_ti_22 (by exact rfl))
  refine z ?_ (h := fun ν => lnV ν qC1_un_22)
  refine z ?_ (h := fun ν => acts_bin ν vt vc (r_leq (c := false) c1))
  refine zm (zo (zo (zo ?_)))
  refine z ?_ (h := fun ν => acts_pick_f ν vt xc)
  refine za (nl (wp_ret' ?_))
  exact VRes.tmp _ _ _ (by exact rfl) (bval (congrArg Value.bool (by (unfold regOk; simp_all; (try intros); omega))))

set_option maxHeartbeats 4000000 in
set_option maxRecDepth 100000 in
theorem spec_RegionOk_fn (l : List Int) (hl : l.length ≤ 4194304) : Fn Tryz.prog 51 [.agg [(.slv l.length 1 (isl l) : A)]] [.val (.bool (regOk l))] := by
 refine fn_intro (N := 22) Tryz.func51 rfl (by kernel_rfl) rfl (Nat.le_of_ble_eq_true rfl) [1, 7, 16, 20] (ret1 rfl) (fun W => ?_)
 show Wp _ _ _ [kV 0 (V.b (.agg [(.slv l.length 1 (isl l) : A)])), kF 1, kF 7, kF 16, kF 20]
 refine sq (rg ?_)
 refine z ?_ (h := fun ν => acts_box (h := 1) ν xt (by exact ob1 rfl))
 refine zk (nl (sq (sq (rg (zk (nl (bkk ?_)))))))
 refine wp_loop' (fun (k : Nat) => k ≤ l.length ∧ allIn (l.take k) 0 255 = true) (fun (k : Nat) => [kP 1 1 0, kI 3 ((k : Nat) : Int), kO 1 29 1 true [(.slv l.length 1 (isl l) : A)], kF 7, kF 16, kF 20]) (fun (k : Nat) => l.length - k) ((0 : Nat)) (by exact ⟨Nat.zero_le _, rfl⟩) (wkf id (wS <| wE (e := (vint (by rfl))) <| wX <| wF <| wF <| wF <| wN)) ?_
 rintro k inv1
 replace inv1 : k ≤ l.length ∧ allIn (l.take k) 0 255 = true := inv1
 obtain ⟨inv1_0, inv1_1⟩ := inv1
 refine sq (sq (rg (zm ?_)))
 refine z ?_ (h := fun ν => acts_field (off' := 0) ν qC1_fo_29_0 rfl)
 refine z ?_ (h := fun ν => acts_load_own (x := .slv l.length 1 (isl l)) ν qC1_ti_22 (by exact rfl))
 refine z ?_ (h := fun ν => lnV ν qC1_un_22)
 refine z ?_ (h := fun ν => acts_bin ν vt vt (r_lss rfl))
 refine nl ?_
 refine wi (fun c2 => ?_) (fun c2 => ?_)
 ·skip
  have c2P := of_decide_eq_true c2
  refine sk (sq (bkk (sq (rg ?_))))
  refine z ?_ (h := fun ν => acts_field (off' := 0) ν qC1_fo_29_0 rfl)
  refine z ?_ (h := fun ν => acts_load_own (x := .slv l.length 1 (isl l)) ν qC1_ti_22 (by exact rfl))
  refine zm ?_
  refine z ?_ (h := fun ν => ixv ν qC1_un_22 qC1_sz_3 vt)
  refine z ?_ (h := fun ν => uI ν qC1_ti_3)
  refine z ?_ (h := fun ν => acts_call1 ν (spec_l01In_fn (gI l k) 0 255 ) (ac (ArgV.v vt) (ac (ArgV.v vc) (ac (ArgV.v vc) an))) rv)
  refine z ?_ (h := fun ν => acts_un ν vt (r_not rfl))
  refine nl ?_
  refine wi (b := (!(inB (gI l k) 0 255))) (fun c3 => ?_) (fun c3 => ?_)
  ·skip
   have c4 : (inB (gI l k) 0 255) = false := by first | (rw [← Bool.not_eq_true']; exact c3) | simpa using c3
   have c4Q := inB_false.1 c4
   refine sq (rg (zk (nl (wp_ret' ?_))))
   exact VRes.tmp _ _ _ (by exact rfl) (bval (congrArg Value.bool (by exact (regOk_spec (k := k) (by omega) (by assumption)).symm)))
  ·skip
   have c5 : (inB (gI l k) 0 255) = true := by first | (rw [← Bool.not_eq_false']; exact c3) | simpa using c3
   have c5Q := inB_true.1 c5
   refine sk (rg (zm ?_))
   refine z ?_ (h := fun ν => acts_bin ν vt vc rA)
   refine za (nl ?_)
   exact loop_back ((k + 1)) (by exact ⟨by omega, allIn_snoc (by omega) (by assumption) (by assumption)⟩) (by show l.length - (k + 1) < l.length - k; omega) (wkf id (wS <| wE (e := (vint (by rfl))) <| wX <| wF <| wF <| wF <| wN))
 ·skip
  have c2P := of_decide_eq_false c2
  refine wp_exit' (sq (rg ?_))
  refine z ?_ (h := fun ν => acts_field (off' := 0) ν qC1_fo_29_0 rfl)
  refine z ?_ (h := fun ν => acts_load_own (x := .slv l.length 1 (isl l)) ν qC1_ti_22 (by exact rfl))
  refine z ?_ (h := fun ν => lnV ν qC1_un_22)
  refine z ?_ (h := fun ν => acts_bin ν vt vc (r_leq rfl))
  refine za (nl (wp_ret' ?_))
  exact VRes.tmp _ _ _ (by exact rfl) (bval (congrArg Value.bool (by rw [regOk_spec2 (allIn_end (by omega) (by assumption))]; simp; omega)))

set_option maxHeartbeats 4000000 in
set_option maxRecDepth 100000 in
theorem spec_l03Has_fn (l : List Int) (c : Cel) (ho : regOk l = true) (hc : okc c.x c.y = true) : Fn Tryz.prog 77 [.agg [(.slv l.length 1 (isl l) : A)], .agg ([vI c.x, vI c.y].map A.val)] [.val (.bool (hasR l c))] := by
 obtain ⟨h8, hr⟩ := regOk_true ho
 have hq := okc_true.1 hc
 refine fn_intro (N := 24) Tryz.func77 rfl (by kernel_rfl) rfl (Nat.le_of_ble_eq_true rfl) [2, 3, 9] (ret1 rfl) (fun W => ?_)
 show Wp _ _ _ [kV 0 (V.b (.agg [(.slv l.length 1 (isl l) : A)])), kV 1 (V.av [vI c.x, vI c.y]), kF 2, kF 3, kF 9]
 refine sq (rg ?_)
 refine z ?_ (h := fun ν => acts_box (h := 2) ν xt (by exact ob1 rfl))
 refine z ?_ (h := fun ν => acts_box (h := 3) ν xt (by exact ob1 rfl))
 refine zk (nl (sq ?_))
 rcases Bool.eq_false_or_eq_true (decide (c.y < ((l.length : Nat) : Int))) with c1 | c1
 ·skip
  have c1P := of_decide_eq_true c1
  refine wp_dr ?_
  refine zd ?_ (h := fun ν => acts_field (off' := 1) ν qC1_fo_70_1 rfl)
  refine zd ?_ (h := fun ν => acts_load_own (x := .val (.int .i64 c.y)) ν qC1_ti_3 (by exact rfl))
  refine zd ?_ (h := fun ν => acts_field (off' := 0) ν qC1_fo_29_0 rfl)
  refine zd ?_ (h := fun ν => acts_load_own (x := .slv l.length 1 (isl l)) ν qC1_ti_22 (by exact rfl))
  refine zd ?_ (h := fun ν => lnV ν qC1_un_22)
  refine zd ?_ (h := fun ν => acts_bin ν vt vt (r_lss (c := true) c1))
  refine zdm ?_
  refine zdg ?_ (h := fun ν => step_on rfl rfl (acts_field (off' := 0) ν qC1_fo_29_0 rfl))
  refine zdg ?_ (h := fun ν => step_on rfl rfl (acts_load_own (x := .slv l.length 1 (isl l)) ν qC1_ti_22 (by exact rfl)))
  refine zdg ?_ (h := fun ν => step_on rfl rfl (acts_field (off' := 1) ν qC1_fo_70_1 rfl))
  refine zdg ?_ (h := fun ν => step_on rfl rfl (acts_load_own (x := .val (.int .i64 c.y)) ν qC1_ti_3 (by exact rfl)))
  refine zdg ?_ (h := fun ν => step_on rfl rfl (ixv (k := c.y.toNat) ν qC1_un_22 qC1_sz_3 vt (Int.toNat_of_nonneg (by omega)).symm (by omega)))
  refine zdg ?_ (h := fun ν => step_on rfl rfl (uI ν qC1_ti_3 (by omega)))
  refine zdg ?_ (h := fun ν => step_on rfl rfl (acts_field (off' := 0) ν qC1_fo_70_0 rfl))
  refine zdg ?_ (h := fun ν => step_on rfl rfl (acts_load_own (x := .val (.int .i64 c.x)) ν qC1_ti_3 (by exact rfl)))
  refine zdg ?_ (h := fun ν => step_on rfl rfl (acts_bin ν vt vt (r_shr (c := (((((gI l c.y.toNat).toNat) >>> c.x.toNat) : Nat) : Int)) (by omega) (shrU (m := ((gI l c.y.toNat).toNat)) (n := c.x.toNat) (Int.toNat_of_nonneg (by (have := hr c.y.toNat (by omega); omega))).symm (Int.toNat_of_nonneg (by omega)).symm (by omega) rfl))))
  refine zdg ?_ (h := fun ν => step_on rfl rfl (acts_bin ν vt vc (r_and (c := ((((((gI l c.y.toNat).toNat) >>> c.x.toNat) &&& 1) : Nat) : Int)) (andI (m := (((gI l c.y.toNat).toNat) >>> c.x.toNat)) (n := 1) rfl rfl (by exact Nat.lt_of_le_of_lt (shr_le _ _) (by first | omega | assumption | (first | omega | (have := hr c.y.toNat (by omega); omega)))) (by omega)))))
  refine zdg ?_ (h := fun ν => step_on rfl rfl (acts_bin ν vt vc (r_eql (c := (((gI l c.y.toNat).toNat).testBit c.x.toNat)) (bit_one _ _))))
  refine zd ?_ (h := fun ν => acts_pick_t ν vt xt)
  refine zd ?_ (h := fun ν => gt ν)
  refine dw_nil (wp_ret' ?_)
  exact VRes.tmp _ _ _ (by exact rfl) (bval (congrArg Value.bool (by (simp_all [hasR]; done))))
 ·skip
  have c1P := of_decide_eq_false c1
  refine wp_dr ?_
  refine zd ?_ (h := fun ν => acts_field (off' := 1) ν qC1_fo_70_1 rfl)
  refine zd ?_ (h := fun ν => acts_load_own (x := .val (.int .i64 c.y)) ν qC1_ti_3 (by exact rfl))
  refine zd ?_ (h := fun ν => acts_field (off' := 0) ν qC1_fo_29_0 rfl)
  refine zd ?_ (h := fun ν => acts_load_own (x := .slv l.length 1 (isl l)) ν qC1_ti_22 (by exact rfl))
  refine zd ?_ (h := fun ν => lnV ν qC1_un_22)
  refine zd ?_ (h := fun ν => acts_bin ν vt vt (r_lss (c := false) c1))
  refine zdm ?_
  refine zdg ?_ (h := fun ν => step_off rfl rfl (by decide) rfl ν)
  refine zdg ?_ (h := fun ν => step_off rfl rfl (by decide) rfl ν)
  refine zdg ?_ (h := fun ν => step_off rfl rfl (by decide) rfl ν)
  refine zdg ?_ (h := fun ν => step_off rfl rfl (by decide) rfl ν)
  refine zdg ?_ (h := fun ν => step_off rfl rfl (by decide) rfl ν)
  refine zdg ?_ (h := fun ν => step_off rfl rfl (by decide) rfl ν)
  refine zdg ?_ (h := fun ν => step_off rfl rfl (by decide) rfl ν)
  refine zdg ?_ (h := fun ν => step_off rfl rfl (by decide) rfl ν)
  refine zdg ?_ (h := fun ν => step_off rfl rfl (by decide) rfl ν)
  refine zdg ?_ (h := fun ν => step_off rfl rfl (by decide) rfl ν)
  refine zdg ?_ (h := fun ν => step_off rfl rfl (by decide) rfl ν)
  refine zd ?_ (h := fun ν => acts_pick_f ν vt xc)
  refine zd ?_ (h := fun ν => gt ν)
  refine dw_nil (wp_ret' ?_)
  exact VRes.tmp _ _ _ (by exact rfl) (bval (congrArg Value.bool (by (unfold hasR; simp_all; (try intros); omega))))

set_option maxHeartbeats 4000000 in
set_option maxRecDepth 100000 in
theorem spec_HasCell_fn (l : List Int) (c : Cel) (hl : l.length ≤ 4194304) : Fn Tryz.prog 83 [.agg [(.slv l.length 1 (isl l) : A)], .agg ([vI c.x, vI c.y].map A.val)] [.val (.bool (hasC l c))] := by
 refine fn_intro (N := 16) Tryz.func83 rfl (by kernel_rfl) rfl (Nat.le_of_ble_eq_true rfl) [2, 3, 6, 9, 14] (ret1 rfl) (fun W => ?_)
 show Wp _ _ _ [kV 0 (V.b (.agg [(.slv l.length 1 (isl l) : A)])), kV 1 (V.av [vI c.x, vI c.y]), kF 2, kF 3, kF 6, kF 9, kF 14]
 refine sq (rg ?_)
 refine z ?_ (h := fun ν => acts_box (h := 2) ν xt (by exact ob1 rfl))
 refine z ?_ (h := fun ν => acts_box (h := 3) ν xt (by exact ob1 rfl))
 refine zk (nl (sq ?_))
 rcases Bool.eq_false_or_eq_true ((regOk l)) with c1 | c1
 ·skip
  rcases Bool.eq_false_or_eq_true ((okc c.x c.y)) with c2 | c2
  ·skip
   have c2Q := okc_true.1 c2
   refine rg ?_
   refine z ?_ (h := fun ν => acts_load_owns (xs := [(.slv l.length 1 (isl l) : A)]) ν qC1_ti_29 rfl (by decide) rfl)
   refine z ?_ (h := fun ν => acts_call1 ν (spec_RegionOk_fn l (by omega)) (ac (ArgV.regv _ _ 1 _) an) (resval (congrArg Value.bool c1)))
   refine zm ?_
   refine zg ?_ (h := fun ν => step_on rfl rfl (acts_load_owns (xs := [vI c.x, vI c.y].map A.val) ν qC1_ti_70 rfl (by decide) rfl))
   refine zg ?_ (h := fun ν => step_on rfl rfl (acts_call1 ν (spec_CellOk_fn c ) (ac (ArgV.va va) an) (resval (congrArg Value.bool c2))))
   refine z ?_ (h := fun ν => acts_pick_t ν vt xt)
   refine zm ?_
   refine zg ?_ (h := fun ν => step_on rfl rfl (acts_load_owns (xs := [(.slv l.length 1 (isl l) : A)]) ν qC1_ti_29 rfl (by decide) rfl))
   refine zg ?_ (h := fun ν => step_on rfl rfl (acts_load_owns (xs := [vI c.x, vI c.y].map A.val) ν qC1_ti_70 rfl (by decide) rfl))
   refine zg ?_ (h := fun ν => step_on rfl rfl (acts_call1 ν (spec_l03Has_fn l c (by omega) (by omega)) (ac (ArgV.regv _ _ 1 _) (ac (ArgV.va va) an)) rv))
   refine z ?_ (h := fun ν => acts_pick_t ν vt xt)
   refine za (nl (wp_ret' ?_))
   exact VRes.tmp _ _ _ (by exact rfl) (bval (congrArg Value.bool (by exact hasC_spec (by assumption) (by assumption))))
  ·skip
   have c2Q := okc_false.1 c2
   refine rg ?_
   refine z ?_ (h := fun ν => acts_load_owns (xs := [(.slv l.length 1 (isl l) : A)]) ν qC1_ti_29 rfl (by decide) rfl)
   refine z ?_ (h := fun ν => acts_call1 ν (spec_RegionOk_fn l (by omega)) (ac (ArgV.regv _ _ 1 _) an) (resval (congrArg Value.bool c1)))
   refine zm ?_
   refine zg ?_ (h := fun ν => step_on rfl rfl (acts_load_owns (xs := [vI c.x, vI c.y].map A.val) ν qC1_ti_70 rfl (by decide) rfl))
   refine zg ?_ (h := fun ν => step_on rfl rfl (acts_call1 ν (spec_CellOk_fn c ) (ac (ArgV.va va) an) (resval (congrArg Value.bool c2))))
   refine z ?_ (h := fun ν => acts_pick_t ν vt xt)
   refine zm (zo (zo (zo ?_)))
   refine z ?_ (h := fun ν => acts_pick_f ν vt xc)
   refine za (nl (wp_ret' ?_))
   exact VRes.tmp _ _ _ (by exact rfl) (bval (congrArg Value.bool (by (simp_all [hasC]; done))))
 ·skip
  refine rg ?_
  refine z ?_ (h := fun ν => acts_load_owns (xs := [(.slv l.length 1 (isl l) : A)]) ν qC1_ti_29 rfl (by decide) rfl)
  refine z ?_ (h := fun ν => acts_call1 ν (spec_RegionOk_fn l (by omega)) (ac (ArgV.regv _ _ 1 _) an) (resval (congrArg Value.bool c1)))
  refine zm (zo (zo ?_))
  refine z ?_ (h := fun ν => acts_pick_f ν vt xc)
  refine zm (zo (zo (zo ?_)))
  refine z ?_ (h := fun ν => acts_pick_f ν vt xc)
  refine za (nl (wp_ret' ?_))
  exact VRes.tmp _ _ _ (by exact rfl) (bval (congrArg Value.bool (by (simp_all [hasC]; done))))

set_option maxHeartbeats 4000000 in
set_option maxRecDepth 100000 in
theorem spec_CellsOf_fn (l : List Int) (hl : l.length ≤ 4194304) : Fn Tryz.prog 81 [.agg [(.slv l.length 1 (isl l) : A)]] [.row 70 2 (cellsOf l).length (csl (cellsOf l))] := by
 refine fn_intro (N := 29) Tryz.func81 rfl (by kernel_rfl) rfl (Nat.le_of_ble_eq_true rfl) [1, 5, 7, 12, 18, 23, 26, 27] (ret1 rfl) (fun W => ?_)
 show Wp _ _ _ [kV 0 (V.b (.agg [(.slv l.length 1 (isl l) : A)])), kF 1, kF 5, kF 7, kF 12, kF 18, kF 23, kF 26, kF 27]
 refine sq (rg ?_)
 refine z ?_ (h := fun ν => acts_box (h := 1) ν xt (by exact ob1 rfl))
 refine zk (nl (sq (rg ?_)))
 refine z ?_ (h := fun ν => b0C (h := 7) ν qC1_un_36 qC1_zi_70)
 refine za (nl (sq (sq (rg (zk (nl (bkk ?_)))))))
 refine wp_loop' (fun (k : Nat) => k ≤ 64 ∧ (k = 0 ∨ regOk l = true)) (fun (k : Nat) => [kP 1 1 0, kS 3 7 0 ((((List.range k).filter (fun i => hasR l (cN i))).map cN).length), kI 4 ((k : Nat) : Int), kO 1 29 1 true [(.slv l.length 1 (isl l) : A)], kO 7 70 2 true (pl (csl (((List.range k).filter (fun i => hasR l (cN i))).map cN))), kF 5, kF 12, kF 18, kF 23, kF 26, kF 27]) (fun (k : Nat) => 64 - k) ((0 : Nat)) (by exact ⟨by omega, .inl rfl⟩) (wkf id (wS <| wE (e := (vsl (by rfl) rfl)) <| wE (e := (vint (by rfl))) <| wX <| wO (e := renob_eq (fun h => h) (congrArg csl (by rfl))) <| wF <| wF <| wF <| wF <| wF <| wF <| wN)) ?_
 rintro k inv1
 replace inv1 : k ≤ 64 ∧ (k = 0 ∨ regOk l = true) := inv1
 obtain ⟨inv1_0, inv1_1⟩ := inv1
 have hfl := range_len (fun i => hasR l (cN i)) k
 refine sq (sq ?_)
 rcases Bool.eq_false_or_eq_true (decide (((k : Nat) : Int) < 64)) with c2 | c2
 ·skip
  have c2P := of_decide_eq_true c2
  refine rg (zm ?_)
  refine z ?_ (h := fun ν => acts_bin ν vt vc (r_lss (c := true) c2))
  refine zm ?_
  refine zg ?_ (h := fun ν => step_on rfl rfl (acts_load_owns (xs := [(.slv l.length 1 (isl l) : A)]) ν qC1_ti_29 rfl (by decide) rfl))
  refine zg ?_ (h := fun ν => step_on rfl rfl (acts_call1 ν (spec_RegionOk_fn l (by omega)) (ac (ArgV.regv _ _ 1 _) an) rv))
  refine z ?_ (h := fun ν => acts_pick_t ν vt xt)
  refine nl ?_
  refine wi (b := (regOk l)) (fun c3 => ?_) (fun c3 => ?_)
  ·skip
   refine sk (sq (bkk (sq (rg (zm ?_)))))
   refine z ?_ (h := fun ν => acts_call2 ν (spec_CellAt_fn k (by omega)) (ac (ArgV.v vt) an) (ResV.agg [vI ((cN k).x), vI ((cN k).y)]) rv)
   refine zm ?_
   refine z ?_ (h := fun ν => acts_extract ν (by exact rfl))
   refine z ?_ (h := fun ν => acts_extract ν (by exact rfl))
   refine z ?_ (h := fun ν => acts_alloc' (h := 5) (cap := 1) (s := 2) (cells := [aI 0, aI 0]) ν qC1_zi_70 rfl rfl (by decide))
   refine z ?_ (h := fun _ => acts_store (cells := [aI ((cN k).x), aI ((cN k).y)]) qC1_ti_70 xt (by exact rfl) (by decide) (by exact ob1 rfl) (by exact Nat.le_of_ble_eq_true rfl) (by exact rfl))
   refine za (nl (sq (rg ?_)))
   refine z ?_ (h := fun ν => acts_load_owns (xs := [(.slv l.length 1 (isl l) : A)]) ν qC1_ti_29 rfl (by decide) rfl)
   refine z ?_ (h := fun ν => acts_load_owns (xs := [vI ((cN k).x), vI ((cN k).y)].map A.val) ν qC1_ti_70 rfl (by decide) rfl)
   refine z ?_ (h := fun ν => acts_call1 ν (spec_l03Has_fn l (cN k) (by omega) (by exact cN_ok (by omega))) (ac (ArgV.regv _ _ 1 _) (ac (ArgV.va va) an)) rv)
   refine nl ?_
   refine wi (b := (hasR l (cN k))) (fun c4 => ?_) (fun c4 => ?_)
   ·skip
    refine rg (zm ?_)
    refine z ?_ (h := fun ν => acts_load_owns (xs := [vI ((cN k).x), vI ((cN k).y)].map A.val) ν qC1_ti_70 rfl (by decide) rfl)
    refine z ?_ (h := fun ν => acts_buildSlice' (h := 26) (xs := csl ([(cN k)] : List Cel)) ν qC1_un_36 qC1_zi_70 (.cons va OpVs.nil) (by decide) (by decide) (by kernel_rfl) rfl)
    refine z ?_ (h := fun ν => aC_ (h2 := 27) (L3 := ((((List.range k).filter (fun i => hasR l (cN i))).map cN) ++ [(cN k)])) ν qC1_un_36 qC1_zi_70 (by exact rfl) rfl (by exact rfl) (by (simp at *; omega)))
    refine za (nl (rg (zm ?_)))
    refine z ?_ (h := fun ν => acts_bin ν vt vc (rA (by omega) (by omega)))
    refine za (nl ?_)
    exact loop_back ((k + 1)) (by exact ⟨by omega, .inr (by assumption)⟩) (by show 64 - (k + 1) < 64 - k; omega) (wkf (subst1 [(7, 27)]) (wS <| wE (e := (vsl (by (exact congrArg List.length (by first | rfl | exact range_yes (p := fun i => hasR l (cN i)) (by assumption) | exact range_no (p := fun i => hasR l (cN i)) (by assumption) | omega))) rfl)) <| wE (e := (vint (by rfl))) <| wX <| wO (e := renob_eq (fun h => h) (congrArg csl (by exact range_yes (p := fun i => hasR l (cN i)) (by assumption)))) <| wF <| wF <| wF <| wF <| wF <| wF <| wN))
   ·skip
    refine sk (rg (zm ?_))
    refine z ?_ (h := fun ν => acts_bin ν vt vc (rA (by omega) (by omega)))
    refine za (nl ?_)
    exact loop_back ((k + 1)) (by exact ⟨by omega, .inr (by assumption)⟩) (by show 64 - (k + 1) < 64 - k; omega) (wkf id (wS <| wE (e := (vsl (by (exact congrArg List.length (by first | rfl | exact range_yes (p := fun i => hasR l (cN i)) (by assumption) | exact range_no (p := fun i => hasR l (cN i)) (by assumption) | omega))) rfl)) <| wE (e := (vint (by rfl))) <| wX <| wO (e := renob_eq (fun h => h) (congrArg csl (by exact range_no (p := fun i => hasR l (cN i)) (by assumption)))) <| wF <| wF <| wF <| wF <| wF <| wF <| wN))
  ·skip
   refine wp_exit' (sq (rg (zm (za (nl (wp_ret' ?_))))))
   exact VRes.tmp _ _ _ (by exact rfl) (brow_cels (h := 7) (L := (((List.range k).filter (fun i => hasR l (cN i))).map cN)) (by kernel_rfl) (by (have e : k = 0 := by simp_all); subst e; unfold cellsOf; simp_all) (by rfl))
 ·skip
  have c2P := of_decide_eq_false c2
  refine rg (zm ?_)
  refine z ?_ (h := fun ν => acts_bin ν vt vc (r_lss (c := false) c2))
  refine zm (zo (zo ?_))
  refine z ?_ (h := fun ν => acts_pick_f ν vt xc)
  refine nl (wf (wp_exit' (sq (rg (zm (za (nl (wp_ret' ?_))))))))
  exact VRes.tmp _ _ _ (by exact rfl) (brow_cels (h := 7) (L := (((List.range k).filter (fun i => hasR l (cN i))).map cN)) (by kernel_rfl) (by (have e : k = 64 := by omega); subst e; exact cellsOf_scan (by simp_all)) (by rfl))
end Cl
end Go.Proofs.YtgmkkfdnmdohlaaGreatDoor
