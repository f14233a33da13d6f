/- Walks over clean states, printed by wg.py. No statement is proved here. -/
import Derived.Test.YtgmkkfdnmdohlaaGreatDoorC3
import Derived.Test.YtgmkkfdnmdohlaaGreatDoorClB
set_option linter.unusedSimpArgs false
set_option linter.unusedVariables false
namespace Go.Proofs.YtgmkkfdnmdohlaaGreatDoor
namespace Cl
open Go.ChangeShapes Go.WideShapes Go.ChangeAt Go.RowKit
set_option maxRecDepth 20000

theorem qC3w_bs_70 : ∀ (a b : Int), Tryz.prog.built 70 [(0, .int .i64 a), (1, .int .i64 b)] = some ([.int .i64 a, .int .i64 b] : List Value).toArray := fun _ _ => rfl
theorem qC3w_eg_70 : Tryz.prog.eqGuardType Tryz.prog.depth 70 = false := by kernel_rfl
theorem qC3w_fo_62_0 : fieldOff Tryz.prog 62 0 = some 0 := by kernel_rfl
theorem qC3w_fo_62_1 : fieldOff Tryz.prog 62 1 = some 1 := by kernel_rfl
theorem qC3w_fo_62_2 : fieldOff Tryz.prog 62 2 = some 2 := by kernel_rfl
theorem qC3w_sz_62 : (Tryz.prog.info? 62).map (·.size) = some 3 := by kernel_rfl
theorem qC3w_sz_70 : (Tryz.prog.info? 70).map (·.size) = some 2 := by kernel_rfl
theorem qC3w_ti_29 : TI Tryz.prog 29 true 1 := ⟨⟨_, Tryz.underlying29, rfl⟩, by kernel_rfl⟩
theorem qC3w_ti_3 : TI Tryz.prog 3 false 1 := ⟨⟨_, Tryz.underlying3, rfl⟩, by kernel_rfl⟩
theorem qC3w_ti_4 : TI Tryz.prog 4 false 1 := ⟨⟨_, Tryz.underlying4, rfl⟩, by kernel_rfl⟩
theorem qC3w_ti_62 : TI Tryz.prog 62 true 3 := ⟨⟨_, Tryz.underlying62, rfl⟩, by kernel_rfl⟩
theorem qC3w_ti_70 : TI Tryz.prog 70 true 2 := ⟨⟨_, Tryz.underlying70, rfl⟩, by kernel_rfl⟩
theorem qC3w_un_31 : Tryz.prog.underlying 31 = some (.slice 62) := Tryz.underlying31
theorem qC3w_un_36 : Tryz.prog.underlying 36 = some (.slice 70) := Tryz.underlying36
theorem qC3w_zi_70 : ZI Tryz.prog 70 (.agg #[.int .i64 0, .int .i64 0]) 2 16 := by unfold ZI; kernel_rfl
theorem impl_DominoOk_fn (d : Dom) : Fn Tryz.prog 92 [.agg ([vI d.x, vI d.y, .bool d.d].map A.val)] [.val (.bool (okD d))] := by
  refine ⟨⟨_, Tryz.func92, by kernel_rfl, by kernel_rfl⟩, fun w args h => ?_⟩
  match args, args_iff.1 h with
  | [u0], ⟨h0, _⟩ =>
    obtain rfl := argB_av h0
    refine Calls.mono (dominoOk_impl d.x d.y d.d w) ?_
    rintro e w' ⟨rfl, hb⟩
    exact ⟨_, rfl, rfl, hb⟩

theorem spec_DominoOk_fn (d : Dom) : Fn Tryz.prog 86 [.agg ([vI d.x, vI d.y, .bool d.d].map A.val)] [.val (.bool (okD d))] := by
  refine ⟨⟨_, Tryz.func86, by kernel_rfl, by kernel_rfl⟩, fun w args h => ?_⟩
  match args, args_iff.1 h with
  | [u0], ⟨h0, _⟩ =>
    obtain rfl := argB_av h0
    refine Calls.mono (dominoOk_spec d.x d.y d.d w) ?_
    rintro e w' ⟨rfl, hb⟩
    exact ⟨_, rfl, rfl, hb⟩

set_option maxHeartbeats 4000000 in
set_option maxRecDepth 100000 in
theorem impl_Domino__ends_fn (d : Dom) (ho : okD d = true) : Fn Tryz.prog 111 [.agg ([vI d.x, vI d.y, .bool d.d].map A.val)] [.val (.agg ([.int .i64 (ca d).x, .int .i64 (ca d).y] : List Value).toArray), .val (.agg ([.int .i64 (cb d).x, .int .i64 (cb d).y] : List Value).toArray)] := by
 have hq := okD_bd ho
 refine fn_intro (N := 28) Tryz.func111 rfl (by kernel_rfl) rfl (Nat.le_of_ble_eq_true rfl) [1, 2, 3] (ret2 rfl rfl (by intro u hu; injection hu with hu; subst hu; rfl)) (fun W => ?_)
 show Wp _ _ _ [kV 0 (V.av [vI d.x, vI d.y, .bool d.d]), kF 1, kF 2, kF 3]
 refine sq (rg ?_)
 refine z ?_ (h := fun ν => acts_box (h := 1) ν xt (by exact ob1 rfl))
 refine z ?_ (h := fun ν => acts_alloc' (h := 2) (cap := 1) (s := 2) (cells := [aI 0, aI 0]) ν qC3w_zi_70 rfl rfl (by decide))
 refine z ?_ (h := fun ν => acts_alloc' (h := 3) (cap := 1) (s := 2) (cells := [aI 0, aI 0]) ν qC3w_zi_70 rfl rfl (by decide))
 refine nl (sq (sq (rg ?_)))
 refine z ?_ (h := fun ν => acts_field (off' := 2) ν qC3w_fo_62_2 rfl)
 refine z ?_ (h := fun ν => acts_load_own (x := .val (.bool d.d)) ν qC3w_ti_4 (by exact rfl))
 refine nl ?_
 refine wi (b := d.d) (fun c1 => ?_) (fun c1 => ?_)
 ·skip
  refine sq (wp_dr ?_)
  refine zd ?_ (h := fun ν => acts_field (off' := 0) ν qC3w_fo_62_0 rfl)
  refine zd ?_ (h := fun ν => acts_load_own (x := .val (.int .i64 d.x)) ν qC3w_ti_3 (by exact rfl))
  refine zd ?_ (h := fun ν => acts_field (off' := 1) ν qC3w_fo_62_1 rfl)
  refine zd ?_ (h := fun ν => acts_load_own (x := .val (.int .i64 d.y)) ν qC3w_ti_3 (by exact rfl))
  refine zd ?_ (h := fun ν => bC ν qC3w_bs_70 vt vt)
  refine zd ?_ (h := fun ν => acts_field (off' := 0) ν qC3w_fo_62_0 rfl)
  refine zd ?_ (h := fun ν => acts_load_own (x := .val (.int .i64 d.x)) ν qC3w_ti_3 (by exact rfl))
  refine zd ?_ (h := fun ν => acts_field (off' := 1) ν qC3w_fo_62_1 rfl)
  refine zd ?_ (h := fun ν => acts_load_own (x := .val (.int .i64 d.y)) ν qC3w_ti_3 (by exact rfl))
  refine zd ?_ (h := fun ν => acts_bin ν vt vc rA)
  refine zd ?_ (h := fun ν => bC ν qC3w_bs_70 vt vt)
  refine zd ?_ (h := fun _ => acts_store (cells := [aI d.x, aI d.y]) qC3w_ti_70 xt (by exact rfl) (by decide) (by exact ob1 rfl) (by exact Nat.le_of_ble_eq_true rfl) (by exact rfl))
  refine zd ?_ (h := fun _ => acts_store (cells := [aI d.x, aI (d.y + 1)]) qC3w_ti_70 xt (by exact rfl) (by decide) (by exact ob1 rfl) (by exact Nat.le_of_ble_eq_true rfl) (by exact rfl))
  refine dw_nil (wp_ret' ?_)
  exact ⟨VRes.cells 2 70 2 ⟨70, 2, true, [aI d.x, aI d.y]⟩ _ (by kernel_rfl) (by kernel_rfl) qC3w_ti_70 (Nat.le_of_ble_eq_true rfl) (bagg (vs := [vI d.x, vI d.y]) (by rfl)), VRes.cells 3 70 3 ⟨70, 2, true, [aI d.x, aI (d.y + 1)]⟩ _ (by kernel_rfl) (by kernel_rfl) qC3w_ti_70 (Nat.le_of_ble_eq_true rfl) (bagg (vs := [vI d.x, vI (d.y + 1)]) (by (unfold cb; simp_all; done)))⟩
 ·skip
  refine sk (sq (wp_dr ?_))
  refine zd ?_ (h := fun ν => acts_field (off' := 0) ν qC3w_fo_62_0 rfl)
  refine zd ?_ (h := fun ν => acts_load_own (x := .val (.int .i64 d.x)) ν qC3w_ti_3 (by exact rfl))
  refine zd ?_ (h := fun ν => acts_field (off' := 1) ν qC3w_fo_62_1 rfl)
  refine zd ?_ (h := fun ν => acts_load_own (x := .val (.int .i64 d.y)) ν qC3w_ti_3 (by exact rfl))
  refine zd ?_ (h := fun ν => bC ν qC3w_bs_70 vt vt)
  refine zd ?_ (h := fun ν => acts_field (off' := 0) ν qC3w_fo_62_0 rfl)
  refine zd ?_ (h := fun ν => acts_load_own (x := .val (.int .i64 d.x)) ν qC3w_ti_3 (by exact rfl))
  refine zd ?_ (h := fun ν => acts_bin ν vt vc rA)
  refine zd ?_ (h := fun ν => acts_field (off' := 1) ν qC3w_fo_62_1 rfl)
  refine zd ?_ (h := fun ν => acts_load_own (x := .val (.int .i64 d.y)) ν qC3w_ti_3 (by exact rfl))
  refine zd ?_ (h := fun ν => bC ν qC3w_bs_70 vt vt)
  refine zd ?_ (h := fun _ => acts_store (cells := [aI d.x, aI d.y]) qC3w_ti_70 xt (by exact rfl) (by decide) (by exact ob1 rfl) (by exact Nat.le_of_ble_eq_true rfl) (by exact rfl))
  refine zd ?_ (h := fun _ => acts_store (cells := [aI (d.x + 1), aI d.y]) qC3w_ti_70 xt (by exact rfl) (by decide) (by exact ob1 rfl) (by exact Nat.le_of_ble_eq_true rfl) (by exact rfl))
  refine dw_nil (wp_ret' ?_)
  exact ⟨VRes.cells 2 70 2 ⟨70, 2, true, [aI d.x, aI d.y]⟩ _ (by kernel_rfl) (by kernel_rfl) qC3w_ti_70 (Nat.le_of_ble_eq_true rfl) (bagg (vs := [vI d.x, vI d.y]) (by rfl)), VRes.cells 3 70 3 ⟨70, 2, true, [aI (d.x + 1), aI d.y]⟩ _ (by kernel_rfl) (by kernel_rfl) qC3w_ti_70 (Nat.le_of_ble_eq_true rfl) (bagg (vs := [vI (d.x + 1), vI d.y]) (by (unfold cb; simp_all; done)))⟩

set_option maxHeartbeats 4000000 in
set_option maxRecDepth 100000 in
theorem spec_l05Second_fn (d : Dom) (ho : okD d = true) : Fn Tryz.prog 85 [.agg ([vI d.x, vI d.y, .bool d.d].map A.val)] [.val (.agg ([.int .i64 (cb d).x, .int .i64 (cb d).y] : List Value).toArray)] := by
 have hq := okD_bd ho
 refine fn_intro (N := 17) Tryz.func85 rfl (by kernel_rfl) rfl (Nat.le_of_ble_eq_true rfl) [1, 2] (ret1 rfl) (fun W => ?_)
 show Wp _ _ _ [kV 0 (V.av [vI d.x, vI d.y, .bool d.d]), kF 1, kF 2]
 refine sq (rg ?_)
 refine z ?_ (h := fun ν => acts_box (h := 1) ν xt (by exact ob1 rfl))
 refine z ?_ (h := fun ν => acts_alloc' (h := 2) (cap := 1) (s := 2) (cells := [aI 0, aI 0]) ν qC3w_zi_70 rfl rfl (by decide))
 refine nl (sq (sq (rg ?_)))
 refine z ?_ (h := fun ν => acts_field (off' := 2) ν qC3w_fo_62_2 rfl)
 refine z ?_ (h := fun ν => acts_load_own (x := .val (.bool d.d)) ν qC3w_ti_4 (by exact rfl))
 refine nl ?_
 refine wi (b := d.d) (fun c1 => ?_) (fun c1 => ?_)
 ·skip
  refine sq (rg ?_)
  refine z ?_ (h := fun ν => acts_field (off' := 0) ν qC3w_fo_62_0 rfl)
  refine z ?_ (h := fun ν => acts_load_own (x := .val (.int .i64 d.x)) ν qC3w_ti_3 (by exact rfl))
  refine z ?_ (h := fun ν => acts_field (off' := 1) ν qC3w_fo_62_1 rfl)
  refine z ?_ (h := fun ν => acts_load_own (x := .val (.int .i64 d.y)) ν qC3w_ti_3 (by exact rfl))
  refine z ?_ (h := fun ν => acts_bin ν vt vc rA)
  refine z ?_ (h := fun ν => bC ν qC3w_bs_70 vt vt)
  refine z ?_ (h := fun _ => acts_store (cells := [aI d.x, aI (d.y + 1)]) qC3w_ti_70 xt (by exact rfl) (by decide) (by exact ob1 rfl) (by exact Nat.le_of_ble_eq_true rfl) (by exact rfl))
  refine nl (wp_ret' ?_)
  exact VRes.cells 2 70 2 ⟨70, 2, true, [aI d.x, aI (d.y + 1)]⟩ _ (by kernel_rfl) (by kernel_rfl) qC3w_ti_70 (Nat.le_of_ble_eq_true rfl) (bagg (vs := [vI d.x, vI (d.y + 1)]) (by (unfold cb; simp_all; done)))
 ·skip
  refine sk (sq (rg ?_))
  refine z ?_ (h := fun ν => acts_field (off' := 0) ν qC3w_fo_62_0 rfl)
  refine z ?_ (h := fun ν => acts_load_own (x := .val (.int .i64 d.x)) ν qC3w_ti_3 (by exact rfl))
  refine z ?_ (h := fun ν => acts_bin ν vt vc rA)
  refine z ?_ (h := fun ν => acts_field (off' := 1) ν qC3w_fo_62_1 rfl)
  refine z ?_ (h := fun ν => acts_load_own (x := .val (.int .i64 d.y)) ν qC3w_ti_3 (by exact rfl))
  refine z ?_ (h := fun ν => bC ν qC3w_bs_70 vt vt)
  refine z ?_ (h := fun _ => acts_store (cells := [aI (d.x + 1), aI d.y]) qC3w_ti_70 xt (by exact rfl) (by decide) (by exact ob1 rfl) (by exact Nat.le_of_ble_eq_true rfl) (by exact rfl))
  refine nl (wp_ret' ?_)
  exact VRes.cells 2 70 2 ⟨70, 2, true, [aI (d.x + 1), aI d.y]⟩ _ (by kernel_rfl) (by kernel_rfl) qC3w_ti_70 (Nat.le_of_ble_eq_true rfl) (bagg (vs := [vI (d.x + 1), vI d.y]) (by (unfold cb; simp_all; done)))

set_option maxHeartbeats 4000000 in
set_option maxRecDepth 100000 in
theorem impl_Domino__set_fn (d : Dom) (ho : okD d = true) : Fn Tryz.prog 93 [.agg ([vI d.x, vI d.y, .bool d.d].map A.val)] [.val (.int .u64 (((domS d) : Nat) : Int))] := by
 refine fn_intro (N := 14) Tryz.func93 rfl (by kernel_rfl) rfl (Nat.le_of_ble_eq_true rfl) [1, 3, 4, 7, 11, 13] (ret1 rfl) (fun W => ?_)
 show Wp _ _ _ [kV 0 (V.av [vI d.x, vI d.y, .bool d.d]), kF 1, kF 3, kF 4, kF 7, kF 11, kF 13]
 refine sq (rg ?_)
 refine z ?_ (h := fun ν => acts_box (h := 1) ν xt (by exact ob1 rfl))
 refine zk (nl (sq (rg ?_)))
 refine z ?_ (h := fun ν => acts_load_owns (xs := [vI d.x, vI d.y, .bool d.d].map A.val) ν qC3w_ti_62 rfl (by decide) rfl)
 refine z ?_ (h := fun ν => acts_call2 ν (impl_Domino__ends_fn d (by omega)) (ac (ArgV.va va) an) (ResV.agg [vI ((ca d).x), vI ((ca d).y)]) (ResV.agg [vI ((cb d).x), vI ((cb d).y)]))
 refine zm ?_
 refine z ?_ (h := fun ν => acts_extract ν (by exact rfl))
 refine z ?_ (h := fun ν => acts_extract ν (by exact rfl))
 refine z ?_ (h := fun ν => acts_alloc' (h := 3) (cap := 1) (s := 2) (cells := [aI 0, aI 0]) ν qC3w_zi_70 rfl rfl (by decide))
 refine z ?_ (h := fun ν => acts_alloc' (h := 4) (cap := 1) (s := 2) (cells := [aI 0, aI 0]) ν qC3w_zi_70 rfl rfl (by decide))
 refine z ?_ (h := fun _ => acts_store (cells := [aI ((ca d).x), aI ((ca d).y)]) qC3w_ti_70 xt (by exact rfl) (by decide) (by exact ob1 rfl) (by exact Nat.le_of_ble_eq_true rfl) (by exact rfl))
 refine z ?_ (h := fun _ => acts_store (cells := [aI ((cb d).x), aI ((cb d).y)]) qC3w_ti_70 xt (by exact rfl) (by decide) (by exact ob1 rfl) (by exact Nat.le_of_ble_eq_true rfl) (by exact rfl))
 refine nl (sq (wp_dr ?_))
 refine zd ?_ (h := fun ν => acts_load_owns (xs := [vI ((ca d).x), vI ((ca d).y)].map A.val) ν qC3w_ti_70 rfl (by decide) rfl)
 refine zd ?_ (h := fun ν => acts_call1 ν (impl_set__with_fn 0 (ca d) (by omega) (by exact ok_ca ho)) (ac (ArgV.v vc) (ac (ArgV.va va) an)) rv)
 refine zd ?_ (h := fun ν => acts_load_owns (xs := [vI ((cb d).x), vI ((cb d).y)].map A.val) ν qC3w_ti_70 rfl (by decide) rfl)
 refine zd ?_ (h := fun ν => acts_call1 ν (impl_set__with_fn (addC 0 (ca d)) (cb d) (by exact addC_lt (by decide) (ok_ca ho)) (by exact ok_cb ho)) (ac (ArgV.v vt) (ac (ArgV.va va) an)) rv)
 refine zd ?_ (h := fun ν => gt ν)
 refine dw_nil (wp_ret' ?_)
 exact VRes.tmp _ _ _ (by exact rfl) (bval (congrArg (Value.int .u64) (by rfl)))

set_option maxHeartbeats 4000000 in
set_option maxRecDepth 100000 in
theorem spec_CellsUnder_fn (d : Dom) (ho : okD d = true) : Fn Tryz.prog 106 [.agg ([vI d.x, vI d.y, .bool d.d].map A.val)] [.val (.agg ([.int .i64 (ca d).x, .int .i64 (ca d).y] : List Value).toArray), .val (.agg ([.int .i64 (cb d).x, .int .i64 (cb d).y] : List Value).toArray)] := by
 refine fn_intro (N := 16) Tryz.func106 rfl (by kernel_rfl) rfl (Nat.le_of_ble_eq_true rfl) [1, 2, 3, 5, 15] (ret2 rfl rfl (by intro u hu; injection hu with hu; subst hu; rfl)) (fun W => ?_)
 show Wp _ _ _ [kV 0 (V.av [vI d.x, vI d.y, .bool d.d]), kF 1, kF 2, kF 3, kF 5, kF 15]
 refine sq (rg ?_)
 refine z ?_ (h := fun ν => acts_box (h := 1) ν xt (by exact ob1 rfl))
 refine z ?_ (h := fun ν => acts_alloc' (h := 2) (cap := 1) (s := 2) (cells := [aI 0, aI 0]) ν qC3w_zi_70 rfl rfl (by decide))
 refine z ?_ (h := fun ν => acts_alloc' (h := 3) (cap := 1) (s := 2) (cells := [aI 0, aI 0]) ν qC3w_zi_70 rfl rfl (by decide))
 refine nl (sq (sq (rg ?_)))
 refine z ?_ (h := fun ν => acts_load_owns (xs := [vI d.x, vI d.y, .bool d.d].map A.val) ν qC3w_ti_62 rfl (by decide) rfl)
 refine z ?_ (h := fun ν => acts_call1 ν (spec_DominoOk_fn d ) (ac (ArgV.va va) an) (resval (congrArg Value.bool ho)))
 refine z ?_ (h := fun ν => acts_un ν vt (r_not (c := false) rfl))
 refine nl (wf (sk (sq (wp_dr ?_))))
 refine zd ?_ (h := fun ν => acts_field (off' := 0) ν qC3w_fo_62_0 rfl)
 refine zd ?_ (h := fun ν => acts_load_own (x := .val (.int .i64 d.x)) ν qC3w_ti_3 (by exact rfl))
 refine zd ?_ (h := fun ν => acts_field (off' := 1) ν qC3w_fo_62_1 rfl)
 refine zd ?_ (h := fun ν => acts_load_own (x := .val (.int .i64 d.y)) ν qC3w_ti_3 (by exact rfl))
 refine zd ?_ (h := fun ν => bC ν qC3w_bs_70 vt vt)
 refine zd ?_ (h := fun ν => acts_load_owns (xs := [vI d.x, vI d.y, .bool d.d].map A.val) ν qC3w_ti_62 rfl (by decide) rfl)
 refine zd ?_ (h := fun ν => acts_call1 ν (spec_l05Second_fn d (by omega)) (ac (ArgV.va va) an) (ResV.agg [vI ((cb d).x), vI ((cb d).y)]))
 refine zd ?_ (h := fun _ => acts_store (cells := [aI d.x, aI d.y]) qC3w_ti_70 xt (by exact rfl) (by decide) (by exact ob1 rfl) (by exact Nat.le_of_ble_eq_true rfl) (by exact rfl))
 refine zd ?_ (h := fun _ => acts_store (cells := [aI ((cb d).x), aI ((cb d).y)]) qC3w_ti_70 xt (by exact rfl) (by decide) (by exact ob1 rfl) (by exact Nat.le_of_ble_eq_true rfl) (by exact rfl))
 refine dw_nil (wp_ret' ?_)
 exact ⟨VRes.cells 2 70 2 ⟨70, 2, true, [aI d.x, aI d.y]⟩ _ (by kernel_rfl) (by kernel_rfl) qC3w_ti_70 (Nat.le_of_ble_eq_true rfl) (bagg (vs := [vI d.x, vI d.y]) (by rfl)), VRes.cells 3 70 3 ⟨70, 2, true, [aI ((cb d).x), aI ((cb d).y)]⟩ _ (by kernel_rfl) (by kernel_rfl) qC3w_ti_70 (Nat.le_of_ble_eq_true rfl) (bagg (vs := [vI ((cb d).x), vI ((cb d).y)]) (by rfl))⟩

set_option maxHeartbeats 4000000 in
set_option maxRecDepth 100000 in
theorem spec_DominoAt_fn (ds : List Dom) (c : Cel) (hd : ds.length ≤ 2097152) : Fn Tryz.prog 87 [.a (.slv ds.length 3 (dsl ds)), .agg ([vI c.x, vI c.y].map A.val)] [.val (.int .i64 (atD ds c))] := by
 refine fn_intro (N := 37) Tryz.func87 rfl (by kernel_rfl) rfl (Nat.le_of_ble_eq_true rfl) [3, 6, 7, 10, 18, 25] (ret1 rfl) (fun W => ?_)
 show Wp _ _ _ [kV 0 (V.b (.a (.slv ds.length 3 (dsl ds)))), kV 1 (V.av [vI c.x, vI c.y]), kF 3, kF 6, kF 7, kF 10, kF 18, kF 25]
 refine sq (rg ?_)
 refine z ?_ (h := fun ν => acts_box (h := 3) ν xt (by exact ob1 rfl))
 refine zk (nl (sq (sq (rg (zk (nl (bkk ?_)))))))
 refine wp_loop' (fun (k : Nat) => k ≤ ds.length ∧ (ds.take k).any (cvr c) = false) (fun (k : Nat) => [kV 0 (V.b (.a (.slv ds.length 3 (dsl ds)))), kP 3 3 0, kI 5 ((k : Nat) : Int), kO 3 70 2 true [aI c.x, aI c.y], kF 6, kF 7, kF 10, kF 18, kF 25]) (fun (k : Nat) => ds.length - k) ((0 : Nat)) (by exact ⟨Nat.zero_le _, rfl⟩) (wkf id (wS <| wS <| wE (e := (vint (by rfl))) <| wX <| wF <| wF <| wF <| wF <| wF <| wN)) ?_
 rintro k inv1
 replace inv1 : k ≤ ds.length ∧ (ds.take k).any (cvr c) = false := inv1
 obtain ⟨inv1_0, inv1_1⟩ := inv1
 refine sq (sq (rg (zm (zm ?_))))
 refine z ?_ (h := fun ν => lnV ν qC3w_un_31)
 refine z ?_ (h := fun ν => acts_bin ν vt vt (r_lss rfl))
 refine nl ?_
 refine wi (fun c2 => ?_) (fun c2 => ?_)
 ·skip
  have c2P := of_decide_eq_true c2
  refine sk (sq (bkk (sq (sq (rg (zm (zm ?_)))))))
  refine z ?_ (h := fun ν => ixv ν qC3w_un_31 qC3w_sz_62 vt (hlt := (by omega)))
  refine z ?_ (h := fun ν => uD ν qC3w_ti_62 (by omega))
  refine z ?_ (h := fun ν => acts_call1 ν (spec_DominoOk_fn (gD ds k) ) (ac (ArgV.va va) an) rv)
  refine z ?_ (h := fun ν => acts_un ν vt (r_not rfl))
  refine nl ?_
  refine wi (b := (!(okD (gD ds k)))) (fun c3 => ?_) (fun c3 => ?_)
  ·skip
   have c4 : (okD (gD ds k)) = false := by first | (rw [← Bool.not_eq_true']; exact c3) | simpa using c3
   refine wp_exit' (rg (zm ?_))
   refine z ?_ (h := fun ν => acts_bin ν vt vc (rA (by omega) (by omega)))
   refine za (nl ?_)
   exact loop_back ((k + 1)) (by refine ⟨by omega, any_snocD (by omega) (by assumption) ?_⟩; unfold cvr; simp_all [cEq_cel]) (by show ds.length - (k + 1) < ds.length - k; omega) (wkf id (wS <| wS <| wE (e := (vint (by rfl))) <| wX <| wF <| wF <| wF <| wF <| wF <| wN))
  ·skip
   have c5 : (okD (gD ds k)) = true := by first | (rw [← Bool.not_eq_false']; exact c3) | simpa using c3
   refine sk (sq (rg (zm (zm ?_))))
   refine z ?_ (h := fun ν => ixv ν qC3w_un_31 qC3w_sz_62 vt (hlt := (by omega)))
   refine z ?_ (h := fun ν => uD ν qC3w_ti_62 (by omega))
   refine z ?_ (h := fun ν => acts_call2 ν (spec_CellsUnder_fn (gD ds k) (by omega)) (ac (ArgV.va va) an) (ResV.agg [vI ((ca (gD ds k)).x), vI ((ca (gD ds k)).y)]) (ResV.agg [vI ((cb (gD ds k)).x), vI ((cb (gD ds k)).y)]))
   refine zm ?_
   refine z ?_ (h := fun ν => acts_extract ν (by exact rfl))
   refine z ?_ (h := fun ν => acts_extract ν (by exact rfl))
   refine z ?_ (h := fun ν => acts_alloc' (h := 6) (cap := 1) (s := 2) (cells := [aI 0, aI 0]) ν qC3w_zi_70 rfl rfl (by decide))
   refine z ?_ (h := fun ν => acts_alloc' (h := 7) (cap := 1) (s := 2) (cells := [aI 0, aI 0]) ν qC3w_zi_70 rfl rfl (by decide))
   refine z ?_ (h := fun _ => acts_store (cells := [aI ((ca (gD ds k)).x), aI ((ca (gD ds k)).y)]) qC3w_ti_70 xt (by exact rfl) (by decide) (by exact ob1 rfl) (by exact Nat.le_of_ble_eq_true rfl) (by exact rfl))
   refine z ?_ (h := fun _ => acts_store (cells := [aI ((cb (gD ds k)).x), aI ((cb (gD ds k)).y)]) qC3w_ti_70 xt (by exact rfl) (by decide) (by exact ob1 rfl) (by exact Nat.le_of_ble_eq_true rfl) (by exact rfl))
   refine nl (sq ?_)
   rcases Bool.eq_false_or_eq_true ((cEq ((ca (gD ds k)).x) ((ca (gD ds k)).y) c.x c.y)) with c6 | c6
   ·skip
    refine rg ?_
    refine z ?_ (h := fun ν => acts_load_owns (xs := [vI ((ca (gD ds k)).x), vI ((ca (gD ds k)).y)].map A.val) ν qC3w_ti_70 rfl (by decide) rfl)
    refine z ?_ (h := fun ν => acts_load_owns (xs := [vI c.x, vI c.y].map A.val) ν qC3w_ti_70 rfl (by decide) rfl)
    refine z ?_ (h := fun ν => acts_bin ν va va (r_aggeq qC3w_eg_70 (fun w => (run_eql_cel ((ca (gD ds k)).x) ((ca (gD ds k)).y) c.x c.y w).trans (congrArg (fun z => Result.ok (Value.bool z) w) c6))))
    refine zm (zo (zo (zo ?_)))
    refine z ?_ (h := fun ν => acts_pick_t ν vt xc)
    refine nl (wt (sq (rg (zm (za (nl (wp_ret' ?_)))))))
    exact VRes.tmp _ _ _ (by exact rfl) (bval (congrArg (Value.int .i64) (by (refine atD_yes (by omega) (by assumption) ?_; unfold cvr; simp_all [cEq_cel]))))
   ·skip
    refine rg ?_
    refine z ?_ (h := fun ν => acts_load_owns (xs := [vI ((ca (gD ds k)).x), vI ((ca (gD ds k)).y)].map A.val) ν qC3w_ti_70 rfl (by decide) rfl)
    refine z ?_ (h := fun ν => acts_load_owns (xs := [vI c.x, vI c.y].map A.val) ν qC3w_ti_70 rfl (by decide) rfl)
    refine z ?_ (h := fun ν => acts_bin ν va va (r_aggeq qC3w_eg_70 (fun w => (run_eql_cel ((ca (gD ds k)).x) ((ca (gD ds k)).y) c.x c.y w).trans (congrArg (fun z => Result.ok (Value.bool z) w) c6))))
    refine zm ?_
    refine zg ?_ (h := fun ν => step_on rfl rfl (acts_load_owns (xs := [vI ((cb (gD ds k)).x), vI ((cb (gD ds k)).y)].map A.val) ν qC3w_ti_70 rfl (by decide) rfl))
    refine zg ?_ (h := fun ν => step_on rfl rfl (acts_load_owns (xs := [vI c.x, vI c.y].map A.val) ν qC3w_ti_70 rfl (by decide) rfl))
    refine zg ?_ (h := fun ν => step_on rfl rfl (acts_bin ν va va (r_aggeq qC3w_eg_70 (fun w => (run_eql_cel ((cb (gD ds k)).x) ((cb (gD ds k)).y) c.x c.y w).trans (congrArg (fun z => Result.ok (Value.bool z) w) (rfl : (cEq ((cb (gD ds k)).x) ((cb (gD ds k)).y) c.x c.y) = (cEq ((cb (gD ds k)).x) ((cb (gD ds k)).y) c.x c.y)))))))
    refine z ?_ (h := fun ν => acts_pick_f ν vt xt)
    refine nl ?_
    refine wi (b := (cEq ((cb (gD ds k)).x) ((cb (gD ds k)).y) c.x c.y)) (fun c7 => ?_) (fun c7 => ?_)
    ·skip
     refine sq (rg (zm (za (nl (wp_ret' ?_)))))
     exact VRes.tmp _ _ _ (by exact rfl) (bval (congrArg (Value.int .i64) (by (refine atD_yes (by omega) (by assumption) ?_; unfold cvr; simp_all [cEq_cel]))))
    ·skip
     refine sk (rg (zm ?_))
     refine z ?_ (h := fun ν => acts_bin ν vt vc (rA (by omega) (by omega)))
     refine za (nl ?_)
     exact loop_back ((k + 1)) (by refine ⟨by omega, any_snocD (by omega) (by assumption) ?_⟩; unfold cvr; simp_all [cEq_cel]) (by show ds.length - (k + 1) < ds.length - k; omega) (wkf id (wS <| wS <| wE (e := (vint (by rfl))) <| wX <| wF <| wF <| wF <| wF <| wF <| wN))
 ·skip
  have c2P := of_decide_eq_false c2
  refine wp_exit' (sq (rg (zk (nl (wp_ret' ?_)))))
  exact VRes.tmp _ _ _ (by exact rfl) (bval (congrArg (Value.int .i64) (by exact atD_no (by omega) (by assumption))))

set_option maxHeartbeats 4000000 in
set_option maxRecDepth 100000 in
theorem spec_UncoveredOf_fn (l : List Int) (ds : List Dom) (hl : l.length ≤ 4194304) (hd : ds.length ≤ 2097152) : Fn Tryz.prog 84 [.agg [(.slv l.length 1 (isl l) : A)], .a (.slv ds.length 3 (dsl ds))] [.row 70 2 (unc l ds).length (csl (unc l ds))] := by
 refine fn_intro (N := 32) Tryz.func84 rfl (by kernel_rfl) rfl (Nat.le_of_ble_eq_true rfl) [2, 8, 10, 13, 22, 29, 30] (ret1 rfl) (fun W => ?_)
 show Wp _ _ _ [kV 0 (V.b (.agg [(.slv l.length 1 (isl l) : A)])), kV 1 (V.b (.a (.slv ds.length 3 (dsl ds)))), kF 2, kF 8, kF 10, kF 13, kF 22, kF 29, kF 30]
 refine sq (rg ?_)
 refine z ?_ (h := fun ν => acts_box (h := 2) ν xt (by exact ob1 rfl))
 refine zk (nl (sq (rg ?_)))
 refine z ?_ (h := fun ν => b0C (h := 8) ν qC3w_un_36 qC3w_zi_70)
 refine za (nl (sq (rg ?_)))
 refine z ?_ (h := fun ν => acts_load_owns (xs := [(.slv l.length 1 (isl l) : A)]) ν qC3w_ti_29 rfl (by decide) rfl)
 refine z ?_ (h := fun ν => acts_call1 ν (spec_CellsOf_fn l (by omega)) (ac (ArgV.regv _ _ 1 _) an) (ResV.row _ _ _ _ 10))
 refine za (nl (sq (sq (rg (zk (nl (bkk ?_)))))))
 refine wp_loop' (fun (k : Nat) => k ≤ (cellsOf l).length) (fun (k : Nat) => [kV 1 (V.b (.a (.slv ds.length 3 (dsl ds)))), kS 5 8 0 ((((cellsOf l).take k).filter (fun c => !(ds.any (cvr c)))).length), kS 6 10 0 ((cellsOf l).length), kI 7 ((k : Nat) : Int), kO 8 70 2 true (pl (csl (((cellsOf l).take k).filter (fun c => !(ds.any (cvr c)))))), kO 10 70 2 true (pl (csl (cellsOf l))), kF 2, kF 13, kF 22, kF 29, kF 30]) (fun (k : Nat) => (cellsOf l).length - k) ((0 : Nat)) (by exact (Nat.zero_le _ : 0 ≤ _)) (wkf id (wS <| wE (e := (vsl (by rfl) rfl)) <| wS <| wE (e := (vint (by rfl))) <| wO (e := renob_eq (fun h => h) (congrArg csl (by rfl))) <| wP <| wF <| wF <| wF <| wF <| wF <| wN)) ?_
 rintro k inv1
 replace inv1 : k ≤ (cellsOf l).length := inv1
 have inv := inv1
 have hlt := cfilt_len (fun c => !(ds.any (cvr c))) (cellsOf l) k
 have h64 := cellsOf_len l
 refine sq (sq (rg (zm (zm ?_))))
 refine z ?_ (h := fun ν => lnS ν qC3w_un_36)
 refine z ?_ (h := fun ν => acts_bin ν vt vt (r_lss rfl))
 refine nl ?_
 refine wi (fun c2 => ?_) (fun c2 => ?_)
 ·skip
  have c2P := of_decide_eq_true c2
  refine sk (sq (bkk (sq (rg (zm (zm (zm ?_)))))))
  refine z ?_ (h := fun ν => ix0 ν qC3w_un_36 qC3w_sz_70 vt (hlt := (by omega)))
  refine z ?_ (h := fun ν => lC ν qC3w_ti_70 (by omega))
  refine z ?_ (h := fun ν => acts_call1 ν (spec_DominoAt_fn ds (gC (cellsOf l) k) (by omega)) (ac (ArgV.slv _ _ _ _) (ac (ArgV.va va) an)) rv)
  refine z ?_ (h := fun ν => acts_bin ν vt vc (r_lss rfl))
  refine nl ?_
  refine wi (fun c3 => ?_) (fun c3 => ?_)
  ·skip
   have c3P := of_decide_eq_true c3
   refine rg (zm (zm (zm ?_)))
   refine z ?_ (h := fun ν => ix0 ν qC3w_un_36 qC3w_sz_70 vt (hlt := (by omega)))
   refine z ?_ (h := fun ν => lC ν qC3w_ti_70 (by omega))
   refine z ?_ (h := fun ν => acts_buildSlice' (h := 29) (xs := csl ([(gC (cellsOf l) k)] : List Cel)) ν qC3w_un_36 qC3w_zi_70 (.cons va OpVs.nil) (by decide) (by decide) (by kernel_rfl) rfl)
   refine z ?_ (h := fun ν => aC_ (h2 := 30) (L3 := ((((cellsOf l).take k).filter (fun c => !(ds.any (cvr c)))) ++ [(gC (cellsOf l) k)])) ν qC3w_un_36 qC3w_zi_70 (by exact rfl) rfl (by exact rfl) (by (simp; omega)))
   refine za (nl (rg (zm ?_)))
   refine z ?_ (h := fun ν => acts_bin ν vt vc (rA (by omega) (by omega)))
   refine za (nl ?_)
   exact loop_back ((k + 1)) (by show _ ≤ _; omega) (by show (cellsOf l).length - (k + 1) < (cellsOf l).length - k; omega) (wkf (subst1 [(8, 30)]) (wS <| wE (e := (vsl (by (exact congrArg List.length (by first | rfl | exact cfilt_yes (p := (fun c => !(ds.any (cvr c)))) (by omega) (atD_t (by assumption)) | exact cfilt_no (p := (fun c => !(ds.any (cvr c)))) (by omega) (atD_f (by assumption)) | omega))) rfl)) <| wS <| wE (e := (vint (by rfl))) <| wO (e := renob_eq (fun h => h) (congrArg csl (by exact cfilt_yes (p := (fun c => !(ds.any (cvr c)))) (by omega) (atD_t (by assumption))))) <| wP <| wF <| wF <| wF <| wF <| wF <| wN))
  ·skip
   have c3P := of_decide_eq_false c3
   refine sk (rg (zm ?_))
   refine z ?_ (h := fun ν => acts_bin ν vt vc (rA (by omega) (by omega)))
   refine za (nl ?_)
   exact loop_back ((k + 1)) (by show _ ≤ _; omega) (by show (cellsOf l).length - (k + 1) < (cellsOf l).length - k; omega) (wkf id (wS <| wE (e := (vsl (by (exact congrArg List.length (by first | rfl | exact cfilt_yes (p := (fun c => !(ds.any (cvr c)))) (by omega) (atD_t (by assumption)) | exact cfilt_no (p := (fun c => !(ds.any (cvr c)))) (by omega) (atD_f (by assumption)) | omega))) rfl)) <| wS <| wE (e := (vint (by rfl))) <| wO (e := renob_eq (fun h => h) (congrArg csl (by exact cfilt_no (p := (fun c => !(ds.any (cvr c)))) (by omega) (atD_f (by assumption))))) <| wP <| wF <| wF <| wF <| wF <| wF <| wN))
 ·skip
  have c2P := of_decide_eq_false c2
  refine wp_exit' (sq (rg (zm (za (nl (wp_ret' ?_))))))
  exact VRes.tmp _ _ _ (by exact rfl) (brow_cels (h := 8) (L := (((cellsOf l).take k).filter (fun c => !(ds.any (cvr c))))) (by kernel_rfl) (by unfold unc; rw [List.take_of_length_le (by omega)]) (by rfl))
end Cl
end Go.Proofs.YtgmkkfdnmdohlaaGreatDoor
