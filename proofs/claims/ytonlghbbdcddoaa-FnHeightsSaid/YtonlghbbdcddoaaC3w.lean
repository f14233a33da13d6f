/- Walks over clean states, printed by wg.py. No statement is proved here. -/
import Derived.Test.YtonlghbbdcddoaaC3
import Derived.Test.YtonlghbbdcddoaaClB
namespace Go.Proofs.Ytonlghbbdcddoaa
namespace Cl
open Go.ChangeShapes Go.WideShapes Go.ChangeAt Go.RowKit
set_option maxRecDepth 20000

theorem im_ex {l : List Int} {ds : List Dom} {k : Nat} (hk : k < ds.length) (h : ((!(okD (gD ds k))) || (decide (((andn (regSet l) (covS (ds.take k)) &&& domS (gD ds k) : Nat) : Int) ≠ ((domS (gD ds k) : Nat) : Int)) || (decide (((k : Nat) : Int) > 0) && !(bef (gD ds (((k : Nat) : Int) - 1).toNat) (gD ds k))))) = true) : isPar l ds = false := by
  refine isPar_no' hk fun _ => ?_
  have e : (((k : Nat) : Int) - 1).toNat = k - 1 := by omega
  rw [e] at h
  unfold stepOk fits
  cases h1 : okD (gD ds k)
  · rfl
  · rw [h1] at h
    simp only [Bool.not_true, Bool.false_or, Bool.or_eq_true, Bool.and_eq_true, decide_eq_true_eq, Bool.not_eq_true'] at h
    rcases h with h | h
    · rw [decide_eq_false (fun e => h (by rw [e]))]; rfl
    · rw [h.2, decide_eq_false (p := k = 0) (by omega)]; simp

theorem qC3w_bs_46 : ∀ (a b : Int), Try.prog.built 46 [(0, .int .i64 a), (1, .int .i64 b)] = some ([.int .i64 a, .int .i64 b] : List Value).toArray := fun _ _ => rfl
theorem qC3w_eg_46 : Try.prog.eqGuardType Try.prog.depth 46 = false := by kernel_rfl
theorem qC3w_fo_57_0 : fieldOff Try.prog 57 0 = some 0 := by kernel_rfl
theorem qC3w_fo_57_1 : fieldOff Try.prog 57 1 = some 1 := by kernel_rfl
theorem qC3w_fo_57_2 : fieldOff Try.prog 57 2 = some 2 := by kernel_rfl
theorem qC3w_sz_46 : (Try.prog.info? 46).map (·.size) = some 2 := by kernel_rfl
theorem qC3w_sz_57 : (Try.prog.info? 57).map (·.size) = some 3 := by kernel_rfl
theorem qC3w_ti_29 : TI Try.prog 29 true 1 := ⟨⟨_, Try.underlying29, rfl⟩, by kernel_rfl⟩
theorem qC3w_ti_3 : TI Try.prog 3 false 1 := ⟨⟨_, Try.underlying3, rfl⟩, by kernel_rfl⟩
theorem qC3w_ti_4 : TI Try.prog 4 false 1 := ⟨⟨_, Try.underlying4, rfl⟩, by kernel_rfl⟩
theorem qC3w_ti_46 : TI Try.prog 46 true 2 := ⟨⟨_, Try.underlying46, rfl⟩, by kernel_rfl⟩
theorem qC3w_ti_57 : TI Try.prog 57 true 3 := ⟨⟨_, Try.underlying57, rfl⟩, by kernel_rfl⟩
theorem qC3w_un_26 : Try.prog.underlying 26 = some (.slice 57) := Try.underlying26
theorem qC3w_un_42 : Try.prog.underlying 42 = some (.slice 46) := Try.underlying42
theorem qC3w_zi_46 : ZI Try.prog 46 (.agg #[.int .i64 0, .int .i64 0]) 2 16 := by unfold ZI; kernel_rfl
theorem qC3w_zi_57 : ZI Try.prog 57 (.agg #[.int .i64 0, .int .i64 0, .bool false]) 3 24 := by unfold ZI; kernel_rfl
theorem impl_DominoOk_fn (d : Dom) : Fn Try.prog 99 [.agg ([vI d.x, vI d.y, .bool d.d].map A.val)] [.val (.bool (okD d))] := by
  refine ⟨⟨_, Try.func99, by kernel_rfl, by kernel_rfl⟩, fun w args h => ?_⟩
  match args, args_iff.1 h with
  | [u0], ⟨h0, _⟩ =>
    obtain rfl := argB_av h0
    refine Calls.mono (dominoOk_impl d.x d.y d.d w) ?_
    rintro e w' ⟨rfl, hb⟩
    exact ⟨_, rfl, rfl, hb⟩

theorem spec_DominoOk_fn (d : Dom) : Fn Try.prog 73 [.agg ([vI d.x, vI d.y, .bool d.d].map A.val)] [.val (.bool (okD d))] := by
  refine ⟨⟨_, Try.func73, by kernel_rfl, by kernel_rfl⟩, fun w args h => ?_⟩
  match args, args_iff.1 h with
  | [u0], ⟨h0, _⟩ =>
    obtain rfl := argB_av h0
    refine Calls.mono (dominoOk_spec d.x d.y d.d w) ?_
    rintro e w' ⟨rfl, hb⟩
    exact ⟨_, rfl, rfl, hb⟩

set_option maxHeartbeats 4000000 in
set_option maxRecDepth 100000 in
theorem impl_Domino__ends_fn (d : Dom) (ho : okD d = true) : Fn Try.prog 116 [.agg ([vI d.x, vI d.y, .bool d.d].map A.val)] [.val (.agg ([.int .i64 (ca d).x, .int .i64 (ca d).y] : List Value).toArray), .val (.agg ([.int .i64 (cb d).x, .int .i64 (cb d).y] : List Value).toArray)] := by
 have hq := okD_bd ho
 refine fn_intro (N := 28) Try.func116 rfl (by kernel_rfl) rfl (Nat.le_of_ble_eq_true rfl) [1, 2, 3] (ret2 rfl rfl (by intro u hu; injection hu with hu; subst hu; rfl)) (fun W => ?_)
 show Wp _ _ _ [kV 0 (V.av [vI d.x, vI d.y, .bool d.d]), kF 1, kF 2, kF 3]
 refine sq (rg ?_)
 refine z ?_ (h := fun ν => acts_box (h := 1) ν xt (by exact ob1 rfl))
 refine z ?_ (h := fun ν => acts_alloc' (h := 2) (cap := 1) (s := 2) (cells := [aI 0, aI 0]) ν qC3w_zi_46 rfl rfl (by decide))
 refine z ?_ (h := fun ν => acts_alloc' (h := 3) (cap := 1) (s := 2) (cells := [aI 0, aI 0]) ν qC3w_zi_46 rfl rfl (by decide))
 refine nl (sq (sq (rg ?_)))
 refine z ?_ (h := fun ν => acts_field (off' := 2) ν qC3w_fo_57_2 rfl)
 refine z ?_ (h := fun ν => acts_load_own (x := .val (.bool d.d)) ν qC3w_ti_4 (by exact rfl))
 refine nl ?_
 refine wi (b := d.d) (fun c1 => ?_) (fun c1 => ?_)
 ·skip
  refine sq (wp_dr ?_)
  refine zd ?_ (h := fun ν => acts_field (off' := 0) ν qC3w_fo_57_0 rfl)
  refine zd ?_ (h := fun ν => acts_load_own (x := .val (.int .i64 d.x)) ν qC3w_ti_3 (by exact rfl))
  refine zd ?_ (h := fun ν => acts_field (off' := 1) ν qC3w_fo_57_1 rfl)
  refine zd ?_ (h := fun ν => acts_load_own (x := .val (.int .i64 d.y)) ν qC3w_ti_3 (by exact rfl))
  refine zd ?_ (h := fun ν => bC ν qC3w_bs_46 vt vt)
  refine zd ?_ (h := fun ν => acts_field (off' := 0) ν qC3w_fo_57_0 rfl)
  refine zd ?_ (h := fun ν => acts_load_own (x := .val (.int .i64 d.x)) ν qC3w_ti_3 (by exact rfl))
  refine zd ?_ (h := fun ν => acts_field (off' := 1) ν qC3w_fo_57_1 rfl)
  refine zd ?_ (h := fun ν => acts_load_own (x := .val (.int .i64 d.y)) ν qC3w_ti_3 (by exact rfl))
  refine zd ?_ (h := fun ν => acts_bin ν vt vc rA)
  refine zd ?_ (h := fun ν => bC ν qC3w_bs_46 vt vt)
  refine zd ?_ (h := fun _ => acts_store (cells := [aI d.x, aI d.y]) qC3w_ti_46 xt (by exact rfl) (by decide) (by exact ob1 rfl) (by exact Nat.le_of_ble_eq_true rfl) (by exact rfl))
  refine zd ?_ (h := fun _ => acts_store (cells := [aI d.x, aI (d.y + 1)]) qC3w_ti_46 xt (by exact rfl) (by decide) (by exact ob1 rfl) (by exact Nat.le_of_ble_eq_true rfl) (by exact rfl))
  refine dw_nil (wp_ret' ?_)
  exact ⟨VRes.cells 2 46 2 ⟨46, 2, true, [aI d.x, aI d.y]⟩ _ (by kernel_rfl) (by kernel_rfl) qC3w_ti_46 (Nat.le_of_ble_eq_true rfl) (bagg (vs := [vI d.x, vI d.y]) (by rfl)), VRes.cells 3 46 3 ⟨46, 2, true, [aI d.x, aI (d.y + 1)]⟩ _ (by kernel_rfl) (by kernel_rfl) qC3w_ti_46 (Nat.le_of_ble_eq_true rfl) (bagg (vs := [vI d.x, vI (d.y + 1)]) (by (unfold cb; simp_all; done)))⟩
 ·skip
  refine sk (sq (wp_dr ?_))
  refine zd ?_ (h := fun ν => acts_field (off' := 0) ν qC3w_fo_57_0 rfl)
  refine zd ?_ (h := fun ν => acts_load_own (x := .val (.int .i64 d.x)) ν qC3w_ti_3 (by exact rfl))
  refine zd ?_ (h := fun ν => acts_field (off' := 1) ν qC3w_fo_57_1 rfl)
  refine zd ?_ (h := fun ν => acts_load_own (x := .val (.int .i64 d.y)) ν qC3w_ti_3 (by exact rfl))
  refine zd ?_ (h := fun ν => bC ν qC3w_bs_46 vt vt)
  refine zd ?_ (h := fun ν => acts_field (off' := 0) ν qC3w_fo_57_0 rfl)
  refine zd ?_ (h := fun ν => acts_load_own (x := .val (.int .i64 d.x)) ν qC3w_ti_3 (by exact rfl))
  refine zd ?_ (h := fun ν => acts_bin ν vt vc rA)
  refine zd ?_ (h := fun ν => acts_field (off' := 1) ν qC3w_fo_57_1 rfl)
  refine zd ?_ (h := fun ν => acts_load_own (x := .val (.int .i64 d.y)) ν qC3w_ti_3 (by exact rfl))
  refine zd ?_ (h := fun ν => bC ν qC3w_bs_46 vt vt)
  refine zd ?_ (h := fun _ => acts_store (cells := [aI d.x, aI d.y]) qC3w_ti_46 xt (by exact rfl) (by decide) (by exact ob1 rfl) (by exact Nat.le_of_ble_eq_true rfl) (by exact rfl))
  refine zd ?_ (h := fun _ => acts_store (cells := [aI (d.x + 1), aI d.y]) qC3w_ti_46 xt (by exact rfl) (by decide) (by exact ob1 rfl) (by exact Nat.le_of_ble_eq_true rfl) (by exact rfl))
  refine dw_nil (wp_ret' ?_)
  exact ⟨VRes.cells 2 46 2 ⟨46, 2, true, [aI d.x, aI d.y]⟩ _ (by kernel_rfl) (by kernel_rfl) qC3w_ti_46 (Nat.le_of_ble_eq_true rfl) (bagg (vs := [vI d.x, vI d.y]) (by rfl)), VRes.cells 3 46 3 ⟨46, 2, true, [aI (d.x + 1), aI d.y]⟩ _ (by kernel_rfl) (by kernel_rfl) qC3w_ti_46 (Nat.le_of_ble_eq_true rfl) (bagg (vs := [vI (d.x + 1), vI d.y]) (by (unfold cb; simp_all; done)))⟩

set_option maxHeartbeats 4000000 in
set_option maxRecDepth 100000 in
theorem spec_l05Second_fn (d : Dom) (ho : okD d = true) : Fn Try.prog 103 [.agg ([vI d.x, vI d.y, .bool d.d].map A.val)] [.val (.agg ([.int .i64 (cb d).x, .int .i64 (cb d).y] : List Value).toArray)] := by
 have hq := okD_bd ho
 refine fn_intro (N := 17) Try.func103 rfl (by kernel_rfl) rfl (Nat.le_of_ble_eq_true rfl) [1, 2] (ret1 rfl) (fun W => ?_)
 show Wp _ _ _ [kV 0 (V.av [vI d.x, vI d.y, .bool d.d]), kF 1, kF 2]
 refine sq (rg ?_)
 refine z ?_ (h := fun ν => acts_box (h := 1) ν xt (by exact ob1 rfl))
 refine z ?_ (h := fun ν => acts_alloc' (h := 2) (cap := 1) (s := 2) (cells := [aI 0, aI 0]) ν qC3w_zi_46 rfl rfl (by decide))
 refine nl (sq (sq (rg ?_)))
 refine z ?_ (h := fun ν => acts_field (off' := 2) ν qC3w_fo_57_2 rfl)
 refine z ?_ (h := fun ν => acts_load_own (x := .val (.bool d.d)) ν qC3w_ti_4 (by exact rfl))
 refine nl ?_
 refine wi (b := d.d) (fun c1 => ?_) (fun c1 => ?_)
 ·skip
  refine sq (rg ?_)
  refine z ?_ (h := fun ν => acts_field (off' := 0) ν qC3w_fo_57_0 rfl)
  refine z ?_ (h := fun ν => acts_load_own (x := .val (.int .i64 d.x)) ν qC3w_ti_3 (by exact rfl))
  refine z ?_ (h := fun ν => acts_field (off' := 1) ν qC3w_fo_57_1 rfl)
  refine z ?_ (h := fun ν => acts_load_own (x := .val (.int .i64 d.y)) ν qC3w_ti_3 (by exact rfl))
  refine z ?_ (h := fun ν => acts_bin ν vt vc rA)
  refine z ?_ (h := fun ν => bC ν qC3w_bs_46 vt vt)
  refine z ?_ (h := fun _ => acts_store (cells := [aI d.x, aI (d.y + 1)]) qC3w_ti_46 xt (by exact rfl) (by decide) (by exact ob1 rfl) (by exact Nat.le_of_ble_eq_true rfl) (by exact rfl))
  refine nl (wp_ret' ?_)
  exact VRes.cells 2 46 2 ⟨46, 2, true, [aI d.x, aI (d.y + 1)]⟩ _ (by kernel_rfl) (by kernel_rfl) qC3w_ti_46 (Nat.le_of_ble_eq_true rfl) (bagg (vs := [vI d.x, vI (d.y + 1)]) (by (unfold cb; simp_all; done)))
 ·skip
  refine sk (sq (rg ?_))
  refine z ?_ (h := fun ν => acts_field (off' := 0) ν qC3w_fo_57_0 rfl)
  refine z ?_ (h := fun ν => acts_load_own (x := .val (.int .i64 d.x)) ν qC3w_ti_3 (by exact rfl))
  refine z ?_ (h := fun ν => acts_bin ν vt vc rA)
  refine z ?_ (h := fun ν => acts_field (off' := 1) ν qC3w_fo_57_1 rfl)
  refine z ?_ (h := fun ν => acts_load_own (x := .val (.int .i64 d.y)) ν qC3w_ti_3 (by exact rfl))
  refine z ?_ (h := fun ν => bC ν qC3w_bs_46 vt vt)
  refine z ?_ (h := fun _ => acts_store (cells := [aI (d.x + 1), aI d.y]) qC3w_ti_46 xt (by exact rfl) (by decide) (by exact ob1 rfl) (by exact Nat.le_of_ble_eq_true rfl) (by exact rfl))
  refine nl (wp_ret' ?_)
  exact VRes.cells 2 46 2 ⟨46, 2, true, [aI (d.x + 1), aI d.y]⟩ _ (by kernel_rfl) (by kernel_rfl) qC3w_ti_46 (Nat.le_of_ble_eq_true rfl) (bagg (vs := [vI (d.x + 1), vI d.y]) (by (unfold cb; simp_all; done)))

set_option maxHeartbeats 4000000 in
set_option maxRecDepth 100000 in
theorem impl_Domino__set_fn (d : Dom) (ho : okD d = true) : Fn Try.prog 100 [.agg ([vI d.x, vI d.y, .bool d.d].map A.val)] [.val (.int .u64 (((domS d) : Nat) : Int))] := by
 refine fn_intro (N := 14) Try.func100 rfl (by kernel_rfl) rfl (Nat.le_of_ble_eq_true rfl) [1, 3, 4, 7, 11, 13] (ret1 rfl) (fun W => ?_)
 show Wp _ _ _ [kV 0 (V.av [vI d.x, vI d.y, .bool d.d]), kF 1, kF 3, kF 4, kF 7, kF 11, kF 13]
 refine sq (rg ?_)
 refine z ?_ (h := fun ν => acts_box (h := 1) ν xt (by exact ob1 rfl))
 refine zk (nl (sq (rg ?_)))
 refine z ?_ (h := fun ν => acts_load_owns (xs := [vI d.x, vI d.y, .bool d.d].map A.val) ν qC3w_ti_57 rfl (by decide) rfl)
 refine z ?_ (h := fun ν => acts_call2 ν (impl_Domino__ends_fn d (by omega)) (ac (ArgV.va va) an) (ResV.agg [vI ((ca d).x), vI ((ca d).y)]) (ResV.agg [vI ((cb d).x), vI ((cb d).y)]))
 refine zm ?_
 refine z ?_ (h := fun ν => acts_extract ν (by exact rfl))
 refine z ?_ (h := fun ν => acts_extract ν (by exact rfl))
 refine z ?_ (h := fun ν => acts_alloc' (h := 3) (cap := 1) (s := 2) (cells := [aI 0, aI 0]) ν qC3w_zi_46 rfl rfl (by decide))
 refine z ?_ (h := fun ν => acts_alloc' (h := 4) (cap := 1) (s := 2) (cells := [aI 0, aI 0]) ν qC3w_zi_46 rfl rfl (by decide))
 refine z ?_ (h := fun _ => acts_store (cells := [aI ((ca d).x), aI ((ca d).y)]) qC3w_ti_46 xt (by exact rfl) (by decide) (by exact ob1 rfl) (by exact Nat.le_of_ble_eq_true rfl) (by exact rfl))
 refine z ?_ (h := fun _ => acts_store (cells := [aI ((cb d).x), aI ((cb d).y)]) qC3w_ti_46 xt (by exact rfl) (by decide) (by exact ob1 rfl) (by exact Nat.le_of_ble_eq_true rfl) (by exact rfl))
 refine nl (sq (wp_dr ?_))
 refine zd ?_ (h := fun ν => acts_load_owns (xs := [vI ((ca d).x), vI ((ca d).y)].map A.val) ν qC3w_ti_46 rfl (by decide) rfl)
 refine zd ?_ (h := fun ν => acts_call1 ν (impl_set__with_fn 0 (ca d) (by omega) (by exact ok_ca ho)) (ac (ArgV.v vc) (ac (ArgV.va va) an)) rv)
 refine zd ?_ (h := fun ν => acts_load_owns (xs := [vI ((cb d).x), vI ((cb d).y)].map A.val) ν qC3w_ti_46 rfl (by decide) rfl)
 refine zd ?_ (h := fun ν => acts_call1 ν (impl_set__with_fn (addC 0 (ca d)) (cb d) (by exact addC_lt (by decide) (ok_ca ho)) (by exact ok_cb ho)) (ac (ArgV.v vt) (ac (ArgV.va va) an)) rv)
 refine zd ?_ (h := fun ν => gt ν)
 refine dw_nil (wp_ret' ?_)
 exact VRes.tmp _ _ _ (by exact rfl) (bval (congrArg (Value.int .u64) (by rfl)))

set_option maxHeartbeats 4000000 in
set_option maxRecDepth 100000 in
theorem spec_CellsUnder_fn (d : Dom) (ho : okD d = true) : Fn Try.prog 118 [.agg ([vI d.x, vI d.y, .bool d.d].map A.val)] [.val (.agg ([.int .i64 (ca d).x, .int .i64 (ca d).y] : List Value).toArray), .val (.agg ([.int .i64 (cb d).x, .int .i64 (cb d).y] : List Value).toArray)] := by
 refine fn_intro (N := 16) Try.func118 rfl (by kernel_rfl) rfl (Nat.le_of_ble_eq_true rfl) [1, 2, 3, 5, 15] (ret2 rfl rfl (by intro u hu; injection hu with hu; subst hu; rfl)) (fun W => ?_)
 show Wp _ _ _ [kV 0 (V.av [vI d.x, vI d.y, .bool d.d]), kF 1, kF 2, kF 3, kF 5, kF 15]
 refine sq (rg ?_)
 refine z ?_ (h := fun ν => acts_box (h := 1) ν xt (by exact ob1 rfl))
 refine z ?_ (h := fun ν => acts_alloc' (h := 2) (cap := 1) (s := 2) (cells := [aI 0, aI 0]) ν qC3w_zi_46 rfl rfl (by decide))
 refine z ?_ (h := fun ν => acts_alloc' (h := 3) (cap := 1) (s := 2) (cells := [aI 0, aI 0]) ν qC3w_zi_46 rfl rfl (by decide))
 refine nl (sq (sq (rg ?_)))
 refine z ?_ (h := fun ν => acts_load_owns (xs := [vI d.x, vI d.y, .bool d.d].map A.val) ν qC3w_ti_57 rfl (by decide) rfl)
 refine z ?_ (h := fun ν => acts_call1 ν (spec_DominoOk_fn d ) (ac (ArgV.va va) an) (resval (congrArg Value.bool ho)))
 refine z ?_ (h := fun ν => acts_un ν vt (r_not (c := false) rfl))
 refine nl (wf (sk (sq (wp_dr ?_))))
 refine zd ?_ (h := fun ν => acts_field (off' := 0) ν qC3w_fo_57_0 rfl)
 refine zd ?_ (h := fun ν => acts_load_own (x := .val (.int .i64 d.x)) ν qC3w_ti_3 (by exact rfl))
 refine zd ?_ (h := fun ν => acts_field (off' := 1) ν qC3w_fo_57_1 rfl)
 refine zd ?_ (h := fun ν => acts_load_own (x := .val (.int .i64 d.y)) ν qC3w_ti_3 (by exact rfl))
 refine zd ?_ (h := fun ν => bC ν qC3w_bs_46 vt vt)
 refine zd ?_ (h := fun ν => acts_load_owns (xs := [vI d.x, vI d.y, .bool d.d].map A.val) ν qC3w_ti_57 rfl (by decide) rfl)
 refine zd ?_ (h := fun ν => acts_call1 ν (spec_l05Second_fn d (by omega)) (ac (ArgV.va va) an) (ResV.agg [vI ((cb d).x), vI ((cb d).y)]))
 refine zd ?_ (h := fun _ => acts_store (cells := [aI d.x, aI d.y]) qC3w_ti_46 xt (by exact rfl) (by decide) (by exact ob1 rfl) (by exact Nat.le_of_ble_eq_true rfl) (by exact rfl))
 refine zd ?_ (h := fun _ => acts_store (cells := [aI ((cb d).x), aI ((cb d).y)]) qC3w_ti_46 xt (by exact rfl) (by decide) (by exact ob1 rfl) (by exact Nat.le_of_ble_eq_true rfl) (by exact rfl))
 refine dw_nil (wp_ret' ?_)
 exact ⟨VRes.cells 2 46 2 ⟨46, 2, true, [aI d.x, aI d.y]⟩ _ (by kernel_rfl) (by kernel_rfl) qC3w_ti_46 (Nat.le_of_ble_eq_true rfl) (bagg (vs := [vI d.x, vI d.y]) (by rfl)), VRes.cells 3 46 3 ⟨46, 2, true, [aI ((cb d).x), aI ((cb d).y)]⟩ _ (by kernel_rfl) (by kernel_rfl) qC3w_ti_46 (Nat.le_of_ble_eq_true rfl) (bagg (vs := [vI ((cb d).x), vI ((cb d).y)]) (by rfl))⟩

set_option maxHeartbeats 4000000 in
set_option maxRecDepth 100000 in
theorem impl_Domino__order_fn (d : Dom) (ho : okD d = true) : Fn Try.prog 117 [.agg ([vI d.x, vI d.y, .bool d.d].map A.val)] [.val (.int .i64 (((ord d) : Nat) : Int))] := by
 have hi : idx (⟨d.x, d.y⟩ : Cel) < 64 := idx_lt (ok_ca ho)
 refine fn_intro (N := 16) Try.func117 rfl (by kernel_rfl) rfl (Nat.le_of_ble_eq_true rfl) [1, 9] (ret1 rfl) (fun W => ?_)
 show Wp _ _ _ [kV 0 (V.av [vI d.x, vI d.y, .bool d.d]), kF 1, kF 9]
 refine sq (rg ?_)
 refine z ?_ (h := fun ν => acts_box (h := 1) ν xt (by exact ob1 rfl))
 refine zk (nl (sq (rg ?_)))
 refine z ?_ (h := fun ν => acts_field (off' := 0) ν qC3w_fo_57_0 rfl)
 refine z ?_ (h := fun ν => acts_load_own (x := .val (.int .i64 d.x)) ν qC3w_ti_3 (by exact rfl))
 refine z ?_ (h := fun ν => acts_field (off' := 1) ν qC3w_fo_57_1 rfl)
 refine z ?_ (h := fun ν => acts_load_own (x := .val (.int .i64 d.y)) ν qC3w_ti_3 (by exact rfl))
 refine z ?_ (h := fun ν => bC ν qC3w_bs_46 vt vt)
 refine z ?_ (h := fun ν => acts_call1 ν (impl_CellIndex_fn (⟨d.x, d.y⟩ : Cel) (by exact ok_ca ho)) (ac (ArgV.va va) an) rv)
 refine z ?_ (h := fun ν => acts_bin ν vc vt (rM (by omega) (by omega)))
 refine za (nl (sq (sq (rg ?_))))
 refine z ?_ (h := fun ν => acts_field (off' := 2) ν qC3w_fo_57_2 rfl)
 refine z ?_ (h := fun ν => acts_load_own (x := .val (.bool d.d)) ν qC3w_ti_4 (by exact rfl))
 refine nl ?_
 refine wi (b := d.d) (fun c1 => ?_) (fun c1 => ?_)
 ·skip
  refine rg (zm ?_)
  refine z ?_ (h := fun ν => acts_bin ν vt vc (rA (by omega) (by omega)))
  refine za (nl (sq (rg (zm (za (nl (wp_ret' ?_)))))))
  exact VRes.tmp _ _ _ (by exact rfl) (bval (congrArg (Value.int .i64) (by unfold ord ca; simp_all)))
 ·skip
  refine sk (sq (rg (zm (za (nl (wp_ret' ?_))))))
  exact VRes.tmp _ _ _ (by exact rfl) (bval (congrArg (Value.int .i64) (by unfold ord ca; simp_all)))

set_option maxHeartbeats 4000000 in
set_option maxRecDepth 100000 in
theorem impl_IsDominoBefore_fn (d e : Dom) : Fn Try.prog 101 [.agg ([vI d.x, vI d.y, .bool d.d].map A.val), .agg ([vI e.x, vI e.y, .bool e.d].map A.val)] [.val (.bool (bef d e))] := by
 refine fn_intro (N := 18) Try.func101 rfl (by kernel_rfl) rfl (Nat.le_of_ble_eq_true rfl) [2, 3, 6, 9, 13, 15] (ret1 rfl) (fun W => ?_)
 show Wp _ _ _ [kV 0 (V.av [vI d.x, vI d.y, .bool d.d]), kV 1 (V.av [vI e.x, vI e.y, .bool e.d]), kF 2, kF 3, kF 6, kF 9, kF 13, kF 15]
 refine sq (rg ?_)
 refine z ?_ (h := fun ν => acts_box (h := 2) ν xt (by exact ob1 rfl))
 refine z ?_ (h := fun ν => acts_box (h := 3) ν xt (by exact ob1 rfl))
 refine zk (nl (sq ?_))
 rcases Bool.eq_false_or_eq_true ((okD d)) with c1 | c1
 ·skip
  rcases Bool.eq_false_or_eq_true ((okD e)) with c2 | c2
  ·skip
   refine wp_dr ?_
   refine zd ?_ (h := fun ν => acts_load_owns (xs := [vI d.x, vI d.y, .bool d.d].map A.val) ν qC3w_ti_57 rfl (by decide) rfl)
   refine zd ?_ (h := fun ν => acts_call1 ν (impl_DominoOk_fn d ) (ac (ArgV.va va) an) (resval (congrArg Value.bool c1)))
   refine zdm ?_
   refine zdg ?_ (h := fun ν => step_on rfl rfl (acts_load_owns (xs := [vI e.x, vI e.y, .bool e.d].map A.val) ν qC3w_ti_57 rfl (by decide) rfl))
   refine zdg ?_ (h := fun ν => step_on rfl rfl (acts_call1 ν (impl_DominoOk_fn e ) (ac (ArgV.va va) an) (resval (congrArg Value.bool c2))))
   refine zd ?_ (h := fun ν => acts_pick_t ν vt xt)
   refine zdm ?_
   refine zdg ?_ (h := fun ν => step_on rfl rfl (acts_load_owns (xs := [vI d.x, vI d.y, .bool d.d].map A.val) ν qC3w_ti_57 rfl (by decide) rfl))
   refine zdg ?_ (h := fun ν => step_on rfl rfl (acts_call1 ν (impl_Domino__order_fn d (by omega)) (ac (ArgV.va va) an) rv))
   refine zdg ?_ (h := fun ν => step_on rfl rfl (acts_load_owns (xs := [vI e.x, vI e.y, .bool e.d].map A.val) ν qC3w_ti_57 rfl (by decide) rfl))
   refine zdg ?_ (h := fun ν => step_on rfl rfl (acts_call1 ν (impl_Domino__order_fn e (by omega)) (ac (ArgV.va va) an) rv))
   refine zdg ?_ (h := fun ν => step_on rfl rfl (acts_bin ν vt vt (r_lss rfl)))
   refine zd ?_ (h := fun ν => acts_pick_t ν vt xt)
   refine zd ?_ (h := fun ν => gt ν)
   refine dw_nil (wp_ret' ?_)
   exact VRes.tmp _ _ _ (by exact rfl) (bval (congrArg Value.bool (by (simp_all [bef]; done))))
  ·skip
   refine wp_dr ?_
   refine zd ?_ (h := fun ν => acts_load_owns (xs := [vI d.x, vI d.y, .bool d.d].map A.val) ν qC3w_ti_57 rfl (by decide) rfl)
   refine zd ?_ (h := fun ν => acts_call1 ν (impl_DominoOk_fn d ) (ac (ArgV.va va) an) (resval (congrArg Value.bool c1)))
   refine zdm ?_
   refine zdg ?_ (h := fun ν => step_on rfl rfl (acts_load_owns (xs := [vI e.x, vI e.y, .bool e.d].map A.val) ν qC3w_ti_57 rfl (by decide) rfl))
   refine zdg ?_ (h := fun ν => step_on rfl rfl (acts_call1 ν (impl_DominoOk_fn e ) (ac (ArgV.va va) an) (resval (congrArg Value.bool c2))))
   refine zd ?_ (h := fun ν => acts_pick_t ν vt xt)
   refine zdm ?_
   refine zdg ?_ (h := fun ν => step_off rfl rfl (by decide) rfl ν)
   refine zdg ?_ (h := fun ν => step_off rfl rfl (by decide) rfl ν)
   refine zdg ?_ (h := fun ν => step_off rfl rfl (by decide) rfl ν)
   refine zdg ?_ (h := fun ν => step_off rfl rfl (by decide) rfl ν)
   refine zdg ?_ (h := fun ν => step_off rfl rfl (by decide) rfl ν)
   refine zd ?_ (h := fun ν => acts_pick_f ν vt xc)
   refine zd ?_ (h := fun ν => gt ν)
   refine dw_nil (wp_ret' ?_)
   exact VRes.tmp _ _ _ (by exact rfl) (bval (congrArg Value.bool (by (simp_all [bef]; done))))
 ·skip
  refine wp_dr ?_
  refine zd ?_ (h := fun ν => acts_load_owns (xs := [vI d.x, vI d.y, .bool d.d].map A.val) ν qC3w_ti_57 rfl (by decide) rfl)
  refine zd ?_ (h := fun ν => acts_call1 ν (impl_DominoOk_fn d ) (ac (ArgV.va va) an) (resval (congrArg Value.bool c1)))
  refine zdm ?_
  refine zdg ?_ (h := fun ν => step_off rfl rfl (by decide) rfl ν)
  refine zdg ?_ (h := fun ν => step_off rfl rfl (by decide) rfl ν)
  refine zd ?_ (h := fun ν => acts_pick_f ν vt xc)
  refine zdm ?_
  refine zdg ?_ (h := fun ν => step_off rfl rfl (by decide) rfl ν)
  refine zdg ?_ (h := fun ν => step_off rfl rfl (by decide) rfl ν)
  refine zdg ?_ (h := fun ν => step_off rfl rfl (by decide) rfl ν)
  refine zdg ?_ (h := fun ν => step_off rfl rfl (by decide) rfl ν)
  refine zdg ?_ (h := fun ν => step_off rfl rfl (by decide) rfl ν)
  refine zd ?_ (h := fun ν => acts_pick_f ν vt xc)
  refine zd ?_ (h := fun ν => gt ν)
  refine dw_nil (wp_ret' ?_)
  exact VRes.tmp _ _ _ (by exact rfl) (bval (congrArg Value.bool (by (simp_all [bef]; done))))

set_option maxHeartbeats 4000000 in
set_option maxRecDepth 100000 in
theorem impl_covered_fn (ds : List Dom) (hd : ds.length ≤ 2097152) : Fn Try.prog 67 [.a (.slv ds.length 3 (dsl ds))] [.val (.int .u64 (((covS ds) : Nat) : Int))] := by
 refine fn_intro (N := 20) Try.func67 rfl (by kernel_rfl) rfl (Nat.le_of_ble_eq_true rfl) [5, 7, 13, 16] (ret1 rfl) (fun W => ?_)
 show Wp _ _ _ [kV 0 (V.b (.a (.slv ds.length 3 (dsl ds)))), kF 5, kF 7, kF 13, kF 16]
 refine sq (rg (zk (nl (sq (rg (zk (nl (sq (sq (rg (zm ?_)))))))))))
 refine z ?_ (h := fun ν => lnV ν qC3w_un_26)
 refine z ?_ (h := fun ν => mc ν)
 refine nl (bkk ?_)
 refine wp_loop' (fun (k : Nat) => k ≤ ds.length) (fun (k : Nat) => [kU 3 (((covS (ds.take k)) : Nat) : Int), kV 6 (V.b (.a (.slv ds.length 3 (dsl ds)))), kI 7 ((ds.length : Nat) : Int), kI 8 ((k : Nat) : Int), kF 5, kF 7, kF 13, kF 16]) (fun (k : Nat) => ds.length - k) ((0 : Nat)) (by exact (Nat.zero_le _ : 0 ≤ _)) (wkf id (wE (e := (vint (by rfl))) <| wS <| wS <| wE (e := (vint (by rfl))) <| wF <| wF <| wF <| wF <| wN)) ?_
 rintro k inv1
 replace inv1 : k ≤ ds.length := inv1
 have inv := inv1
 have hcl := covS_lt (ds.take k)
 refine sq (rg ?_)
 refine z ?_ (h := fun ν => acts_bin ν vt vt (r_lss rfl))
 refine nl (sq ?_)
 refine wi (fun c2 => ?_) (fun c2 => ?_)
 ·skip
  have c2P := of_decide_eq_true c2
  refine sk (sq (bkk (sq (rg ?_))))
  refine z ?_ (h := fun ν => ixv ν qC3w_un_26 qC3w_sz_57 vt (hlt := (by omega)))
  refine z ?_ (h := fun ν => uD ν qC3w_ti_57 (by omega))
  refine z ?_ (h := fun ν => acts_alloc' (h := 5) (cap := 1) (s := 3) (cells := [aI 0, aI 0, aB false]) ν qC3w_zi_57 rfl rfl (by decide))
  refine z ?_ (h := fun _ => acts_store (cells := [aI ((gD ds k).x), aI ((gD ds k).y), aB ((gD ds k).d)]) qC3w_ti_57 xt (by exact rfl) (by decide) (by exact ob1 rfl) (by exact Nat.le_of_ble_eq_true rfl) (by exact rfl))
  refine nl (sq (rg ?_))
  refine z ?_ (h := fun ν => acts_load_owns (xs := [vI ((gD ds k).x), vI ((gD ds k).y), .bool ((gD ds k).d)].map A.val) ν qC3w_ti_57 rfl (by decide) rfl)
  refine z ?_ (h := fun ν => acts_call1 ν (impl_DominoOk_fn (gD ds k) ) (ac (ArgV.va va) an) rv)
  refine nl ?_
  refine wi (b := (okD (gD ds k))) (fun c3 => ?_) (fun c3 => ?_)
  ·skip
   refine rg (zm ?_)
   refine z ?_ (h := fun ν => acts_load_owns (xs := [vI ((gD ds k).x), vI ((gD ds k).y), .bool ((gD ds k).d)].map A.val) ν qC3w_ti_57 rfl (by decide) rfl)
   refine z ?_ (h := fun ν => acts_call1 ν (impl_Domino__set_fn (gD ds k) (by omega)) (ac (ArgV.va va) an) rv)
   refine z ?_ (h := fun ν => acts_bin ν vt vt (r_or (c := ((((covS (ds.take k)) ||| (domS (gD ds k))) : Nat) : Int)) (orU (m := (covS (ds.take k))) (n := (domS (gD ds k))) rfl rfl (by omega) (by (first | omega | assumption | exact domS_lt (by assumption))))))
   refine za (nl (rg ?_))
   refine z ?_ (h := fun ν => acts_bin ν vt vc (rA (by omega) (by omega)))
   refine zm (nl ?_)
   exact loop_back ((k + 1)) (by show _ ≤ _; omega) (by show ds.length - (k + 1) < ds.length - k; omega) (wkf id (wE (e := (vint (by exact congrArg _ (covS_yes (by omega) (by assumption))))) <| wS <| wS <| wE (e := (vint (by rfl))) <| wF <| wF <| wF <| wF <| wN))
  ·skip
   refine sk (rg ?_)
   refine z ?_ (h := fun ν => acts_bin ν vt vc (rA (by omega) (by omega)))
   refine zm (nl ?_)
   exact loop_back ((k + 1)) (by show _ ≤ _; omega) (by show ds.length - (k + 1) < ds.length - k; omega) (wkf id (wE (e := (vint (by exact congrArg _ (covS_no (by omega) (by assumption))))) <| wS <| wS <| wE (e := (vint (by rfl))) <| wF <| wF <| wF <| wF <| wN))
 ·skip
  have c2P := of_decide_eq_false c2
  refine wp_exit' (sq (rg (zm (za (nl (wp_ret' ?_))))))
  exact VRes.tmp _ _ _ (by exact rfl) (bval (congrArg (Value.int .u64) (by rw [covS_end (by assumption)])))

set_option maxHeartbeats 4000000 in
set_option maxRecDepth 100000 in
theorem impl_IsPartial_fn (l : List Int) (ds : List Dom) (hl : l.length ≤ 4194304) (hd : ds.length ≤ 2097152) : Fn Try.prog 66 [.agg [(.slv l.length 1 (isl l) : A)], .a (.slv ds.length 3 (dsl ds))] [.val (.bool (isPar l ds))] := by
 refine fn_intro (N := 51) Try.func66 rfl (by kernel_rfl) rfl (Nat.le_of_ble_eq_true rfl) [2, 7, 9, 12, 14, 21, 26, 29, 42, 48] (ret1 rfl) (fun W => ?_)
 show Wp _ _ _ [kV 0 (V.b (.agg [(.slv l.length 1 (isl l) : A)])), kV 1 (V.b (.a (.slv ds.length 3 (dsl ds)))), kF 2, kF 7, kF 9, kF 12, kF 14, kF 21, kF 26, kF 29, kF 42, kF 48]
 refine sq (rg ?_)
 refine z ?_ (h := fun ν => acts_box (h := 2) ν xt (by exact ob1 rfl))
 refine zk (nl (sq (sq (rg ?_))))
 refine z ?_ (h := fun ν => acts_load_owns (xs := [(.slv l.length 1 (isl l) : A)]) ν qC3w_ti_29 rfl (by decide) rfl)
 refine z ?_ (h := fun ν => acts_call1 ν (impl_RegionOk_fn l (by omega)) (ac (ArgV.regv _ _ 1 _) an) rv)
 refine z ?_ (h := fun ν => acts_un ν vt (r_not rfl))
 refine nl ?_
 refine wi (b := (!(regOk l))) (fun c1 => ?_) (fun c1 => ?_)
 ·skip
  have c2 : (regOk l) = false := by first | (rw [← Bool.not_eq_true']; exact c1) | simpa using c1
  refine sq (rg (zk (nl (wp_ret' ?_))))
  exact VRes.tmp _ _ _ (by exact rfl) (bval (congrArg Value.bool (by (simp_all [isPar]; done))))
 ·skip
  have c3 : (regOk l) = true := by first | (rw [← Bool.not_eq_false']; exact c1) | simpa using c1
  refine sk (sq (rg ?_))
  refine z ?_ (h := fun ν => acts_load_owns (xs := [(.slv l.length 1 (isl l) : A)]) ν qC3w_ti_29 rfl (by decide) rfl)
  refine z ?_ (h := fun ν => acts_call1 ν (impl_Region__set_fn l (by omega)) (ac (ArgV.regv _ _ 1 _) an) rv)
  refine za (nl (sq (sq (rg (zm ?_)))))
  refine z ?_ (h := fun ν => lnV ν qC3w_un_26)
  refine z ?_ (h := fun ν => mc ν)
  refine nl (bkk ?_)
  refine wp_loop' (fun (k : Nat) => k ≤ ds.length ∧ parT (regSet l) ds k = true) (fun (k : Nat) => [kV 1 (V.b (.a (.slv ds.length 3 (dsl ds)))), kU 5 (((andn (regSet l) (covS (ds.take k))) : Nat) : Int), kV 13 (V.b (.a (.slv ds.length 3 (dsl ds)))), kI 14 ((ds.length : Nat) : Int), kI 15 ((k : Nat) : Int), kF 2, kF 7, kF 9, kF 12, kF 14, kF 21, kF 26, kF 29, kF 42, kF 48]) (fun (k : Nat) => ds.length - k) ((0 : Nat)) (by exact ⟨Nat.zero_le _, parT_zero _ _⟩) (wkf id (wS <| wE (e := (vint (by (rw [andn_cov0])))) <| wS <| wS <| wE (e := (vint (by rfl))) <| by (iterate 10 refine wF ?_); exact wN)) ?_
  rintro k inv4
  replace inv4 : k ≤ ds.length ∧ parT (regSet l) ds k = true := inv4
  obtain ⟨inv4_0, inv4_1⟩ := inv4
  refine sq (rg ?_)
  refine z ?_ (h := fun ν => acts_bin ν vt vt (r_lss rfl))
  refine nl (sq ?_)
  refine wi (fun c5 => ?_) (fun c5 => ?_)
  ·skip
   have c5P := of_decide_eq_true c5
   refine sk (sq (bkk (sq (rg (zm ?_)))))
   refine z ?_ (h := fun ν => ixv ν qC3w_un_26 qC3w_sz_57 vt (hlt := (by omega)))
   refine z ?_ (h := fun ν => uD ν qC3w_ti_57 (by omega))
   refine z ?_ (h := fun ν => acts_alloc' (h := 7) (cap := 1) (s := 3) (cells := [aI 0, aI 0, aB false]) ν qC3w_zi_57 rfl rfl (by decide))
   refine za ?_
   refine z ?_ (h := fun _ => acts_store (cells := [aI ((gD ds k).x), aI ((gD ds k).y), aB ((gD ds k).d)]) qC3w_ti_57 xt (by exact rfl) (by decide) (by exact ob1 rfl) (by exact Nat.le_of_ble_eq_true rfl) (by exact rfl))
   refine nl (sq (sq ?_))
   refine wp_join [kB 45 ((!(okD (gD ds k))) || ((decide (((((andn (regSet l) (covS (ds.take k))) &&& (domS (gD ds k))) : Nat) : Int) ≠ (((domS (gD ds k)) : Nat) : Int))) || ((decide (0 < ((k : Nat) : Int))) && (!(bef (gD ds ((((k : Nat) : Int) - 1).toNat)) (gD ds k)))))), kV 1 (V.b (.a (.slv ds.length 3 (dsl ds)))), kU 5 (((andn (regSet l) (covS (ds.take k))) : Nat) : Int), kP 7 7 0, kV 13 (V.b (.a (.slv ds.length 3 (dsl ds)))), kI 14 ((ds.length : Nat) : Int), kI 15 ((k : Nat) : Int), kO 7 57 3 true [aI ((gD ds k).x), aI ((gD ds k).y), aB ((gD ds k).d)], kF 2, kF 9, kF 12, kF 14, kF 21, kF 26, kF 29, kF 42, kF 48] ?_ ?_
   ·skip
    rcases Bool.eq_false_or_eq_true ((okD (gD ds k))) with c6 | c6
    ·skip
     rcases Bool.eq_false_or_eq_true (decide (((((andn (regSet l) (covS (ds.take k))) &&& (domS (gD ds k))) : Nat) : Int) ≠ (((domS (gD ds k)) : Nat) : Int))) with c7 | c7
     ·skip
      have c7P := of_decide_eq_true c7
      refine wp_dr ?_
      refine zd ?_ (h := fun ν => acts_load_owns (xs := [vI ((gD ds k).x), vI ((gD ds k).y), .bool ((gD ds k).d)].map A.val) ν qC3w_ti_57 rfl (by decide) rfl)
      refine zd ?_ (h := fun ν => acts_call1 ν (impl_DominoOk_fn (gD ds k) ) (ac (ArgV.va va) an) (resval (congrArg Value.bool c6)))
      refine zd ?_ (h := fun ν => acts_un ν vt (r_not (c := false) rfl))
      refine zdm ?_
      refine zdg ?_ (h := fun ν => step_on rfl rfl (mt ν))
      refine zdg ?_ (h := fun ν => step_on rfl rfl (acts_load_owns (xs := [vI ((gD ds k).x), vI ((gD ds k).y), .bool ((gD ds k).d)].map A.val) ν qC3w_ti_57 rfl (by decide) rfl))
      refine zdg ?_ (h := fun ν => step_on rfl rfl (acts_call1 ν (impl_Domino__set_fn (gD ds k) (by omega)) (ac (ArgV.va va) an) rv))
      refine zdg ?_ (h := fun ν => step_on rfl rfl (acts_bin ν vt vt (r_and (c := ((((andn (regSet l) (covS (ds.take k))) &&& (domS (gD ds k))) : Nat) : Int)) (andU (m := (andn (regSet l) (covS (ds.take k)))) (n := (domS (gD ds k))) rfl rfl (by (first | omega | assumption | exact regSet_lt (by assumption) | exact domS_lt (by assumption) | exact andn_lt (regSet_lt (by assumption)))) (by (first | omega | assumption | exact regSet_lt (by assumption) | exact domS_lt (by assumption) | exact andn_lt (regSet_lt (by assumption))))))))
      refine zdg ?_ (h := fun ν => step_on rfl rfl (acts_load_owns (xs := [vI ((gD ds k).x), vI ((gD ds k).y), .bool ((gD ds k).d)].map A.val) ν qC3w_ti_57 rfl (by decide) rfl))
      refine zdg ?_ (h := fun ν => step_on rfl rfl (acts_call1 ν (impl_Domino__set_fn (gD ds k) (by omega)) (ac (ArgV.va va) an) rv))
      refine zdg ?_ (h := fun ν => step_on rfl rfl (acts_bin ν vt vt (r_neq (c := true) c7)))
      refine zd ?_ (h := fun ν => acts_pick_f ν vt xt)
      refine zdm ?_
      refine zdg ?_ (h := fun ν => step_off rfl rfl (by decide) rfl ν)
      refine zdg ?_ (h := fun ν => step_off rfl rfl (by decide) rfl ν)
      refine zdg ?_ (h := fun ν => step_offu rfl rfl (by decide) rfl ν)
      refine zdg ?_ (h := fun ν => step_offx rfl rfl rfl ν)
      refine zdg ?_ (h := fun ν => step_offx rfl rfl rfl ν)
      refine zdg ?_ (h := fun ν => step_offx rfl rfl rfl ν)
      refine zdg ?_ (h := fun ν => step_offx rfl rfl rfl ν)
      refine zdg ?_ (h := fun ν => step_offx rfl rfl rfl ν)
      refine zdg ?_ (h := fun ν => step_offx rfl rfl rfl ν)
      refine zdg ?_ (h := fun ν => step_offx rfl rfl rfl ν)
      refine zdg ?_ (h := fun ν => step_offx rfl rfl rfl ν)
      refine zdg ?_ (h := fun ν => step_off rfl rfl (by decide) rfl ν)
      refine zd ?_ (h := fun ν => acts_pick_t ν vt xc)
      refine dw_nil ?_
      exact ⟨rfl, weak_reads ⟨(by simp only [c6, c7]; first | done | kernel_rfl), (by repeat (first | exact trivial | refine ⟨by kernel_rfl, ?_⟩))⟩⟩
     ·skip
      have c7P := of_decide_eq_false c7
      rcases Bool.eq_false_or_eq_true (decide (0 < ((k : Nat) : Int))) with c8 | c8
      ·skip
       have c8P := of_decide_eq_true c8
       refine wp_dr ?_
       refine zd ?_ (h := fun ν => acts_load_owns (xs := [vI ((gD ds k).x), vI ((gD ds k).y), .bool ((gD ds k).d)].map A.val) ν qC3w_ti_57 rfl (by decide) rfl)
       refine zd ?_ (h := fun ν => acts_call1 ν (impl_DominoOk_fn (gD ds k) ) (ac (ArgV.va va) an) (resval (congrArg Value.bool c6)))
       refine zd ?_ (h := fun ν => acts_un ν vt (r_not (c := false) rfl))
       refine zdm ?_
       refine zdg ?_ (h := fun ν => step_on rfl rfl (mt ν))
       refine zdg ?_ (h := fun ν => step_on rfl rfl (acts_load_owns (xs := [vI ((gD ds k).x), vI ((gD ds k).y), .bool ((gD ds k).d)].map A.val) ν qC3w_ti_57 rfl (by decide) rfl))
       refine zdg ?_ (h := fun ν => step_on rfl rfl (acts_call1 ν (impl_Domino__set_fn (gD ds k) (by omega)) (ac (ArgV.va va) an) rv))
       refine zdg ?_ (h := fun ν => step_on rfl rfl (acts_bin ν vt vt (r_and (c := ((((andn (regSet l) (covS (ds.take k))) &&& (domS (gD ds k))) : Nat) : Int)) (andU (m := (andn (regSet l) (covS (ds.take k)))) (n := (domS (gD ds k))) rfl rfl (by (first | omega | assumption | exact regSet_lt (by assumption) | exact domS_lt (by assumption) | exact andn_lt (regSet_lt (by assumption)))) (by (first | omega | assumption | exact regSet_lt (by assumption) | exact domS_lt (by assumption) | exact andn_lt (regSet_lt (by assumption))))))))
       refine zdg ?_ (h := fun ν => step_on rfl rfl (acts_load_owns (xs := [vI ((gD ds k).x), vI ((gD ds k).y), .bool ((gD ds k).d)].map A.val) ν qC3w_ti_57 rfl (by decide) rfl))
       refine zdg ?_ (h := fun ν => step_on rfl rfl (acts_call1 ν (impl_Domino__set_fn (gD ds k) (by omega)) (ac (ArgV.va va) an) rv))
       refine zdg ?_ (h := fun ν => step_on rfl rfl (acts_bin ν vt vt (r_neq (c := false) c7)))
       refine zd ?_ (h := fun ν => acts_pick_f ν vt xt)
       refine zdm ?_
       refine zdg ?_ (h := fun ν => step_on rfl rfl (mt ν))
       refine zdg ?_ (h := fun ν => step_on rfl rfl (acts_bin ν vt vc (r_gtr (c := true) c8)))
       refine zdg ?_ (h := fun ν => step_on rfl rfl (mt ν))
       refine zdg ?_ (h := fun ν => step_on rfl rfl (mt ν))
       refine zdg ?_ (h := fun ν => step_on rfl rfl (mt ν))
       refine zdg ?_ (h := fun ν => step_on rfl rfl (acts_bin ν vt vc (rS (by omega) (by omega))))
       refine zdg ?_ (h := fun ν => step_on rfl rfl (ixv (k := (((k : Nat) : Int) - 1).toNat) ν qC3w_un_26 qC3w_sz_57 vt (Int.toNat_of_nonneg (by omega)).symm (by omega)))
       refine zdg ?_ (h := fun ν => step_on rfl rfl (uD ν qC3w_ti_57 (by omega)))
       refine zdg ?_ (h := fun ν => step_on rfl rfl (acts_load_owns (xs := [vI ((gD ds k).x), vI ((gD ds k).y), .bool ((gD ds k).d)].map A.val) ν qC3w_ti_57 rfl (by decide) rfl))
       refine zdg ?_ (h := fun ν => step_on rfl rfl (acts_call1 ν (impl_IsDominoBefore_fn (gD ds ((((k : Nat) : Int) - 1).toNat)) (gD ds k) ) (ac (ArgV.va va) (ac (ArgV.va va) an)) rv))
       refine zdg ?_ (h := fun ν => step_on rfl rfl (acts_un ν vt (r_not rfl)))
       refine zdg ?_ (h := fun ν => step_on rfl rfl (acts_pick_t ν vt xt))
       refine zd ?_ (h := fun ν => acts_pick_f ν vt xt)
       refine dw_nil ?_
       exact ⟨rfl, weak_reads ⟨(by simp only [c6, c7, c8]; first | done | kernel_rfl), (by repeat (first | exact trivial | refine ⟨by kernel_rfl, ?_⟩))⟩⟩
      ·skip
       have c8P := of_decide_eq_false c8
       refine wp_dr ?_
       refine zd ?_ (h := fun ν => acts_load_owns (xs := [vI ((gD ds k).x), vI ((gD ds k).y), .bool ((gD ds k).d)].map A.val) ν qC3w_ti_57 rfl (by decide) rfl)
       refine zd ?_ (h := fun ν => acts_call1 ν (impl_DominoOk_fn (gD ds k) ) (ac (ArgV.va va) an) (resval (congrArg Value.bool c6)))
       refine zd ?_ (h := fun ν => acts_un ν vt (r_not (c := false) rfl))
       refine zdm ?_
       refine zdg ?_ (h := fun ν => step_on rfl rfl (mt ν))
       refine zdg ?_ (h := fun ν => step_on rfl rfl (acts_load_owns (xs := [vI ((gD ds k).x), vI ((gD ds k).y), .bool ((gD ds k).d)].map A.val) ν qC3w_ti_57 rfl (by decide) rfl))
       refine zdg ?_ (h := fun ν => step_on rfl rfl (acts_call1 ν (impl_Domino__set_fn (gD ds k) (by omega)) (ac (ArgV.va va) an) rv))
       refine zdg ?_ (h := fun ν => step_on rfl rfl (acts_bin ν vt vt (r_and (c := ((((andn (regSet l) (covS (ds.take k))) &&& (domS (gD ds k))) : Nat) : Int)) (andU (m := (andn (regSet l) (covS (ds.take k)))) (n := (domS (gD ds k))) rfl rfl (by (first | omega | assumption | exact regSet_lt (by assumption) | exact domS_lt (by assumption) | exact andn_lt (regSet_lt (by assumption)))) (by (first | omega | assumption | exact regSet_lt (by assumption) | exact domS_lt (by assumption) | exact andn_lt (regSet_lt (by assumption))))))))
       refine zdg ?_ (h := fun ν => step_on rfl rfl (acts_load_owns (xs := [vI ((gD ds k).x), vI ((gD ds k).y), .bool ((gD ds k).d)].map A.val) ν qC3w_ti_57 rfl (by decide) rfl))
       refine zdg ?_ (h := fun ν => step_on rfl rfl (acts_call1 ν (impl_Domino__set_fn (gD ds k) (by omega)) (ac (ArgV.va va) an) rv))
       refine zdg ?_ (h := fun ν => step_on rfl rfl (acts_bin ν vt vt (r_neq (c := false) c7)))
       refine zd ?_ (h := fun ν => acts_pick_f ν vt xt)
       refine zdm ?_
       refine zdg ?_ (h := fun ν => step_on rfl rfl (mt ν))
       refine zdg ?_ (h := fun ν => step_on rfl rfl (acts_bin ν vt vc (r_gtr (c := false) c8)))
       refine zdg ?_ (h := fun ν => step_on rfl rfl (mt ν))
       refine zdg ?_ (h := fun ν => step_off rfl rfl (by decide) rfl ν)
       refine zdg ?_ (h := fun ν => step_off rfl rfl (by decide) rfl ν)
       refine zdg ?_ (h := fun ν => step_off rfl rfl (by decide) rfl ν)
       refine zdg ?_ (h := fun ν => step_off rfl rfl (by decide) rfl ν)
       refine zdg ?_ (h := fun ν => step_off rfl rfl (by decide) rfl ν)
       refine zdg ?_ (h := fun ν => step_off rfl rfl (by decide) rfl ν)
       refine zdg ?_ (h := fun ν => step_off rfl rfl (by decide) rfl ν)
       refine zdg ?_ (h := fun ν => step_off rfl rfl (by decide) rfl ν)
       refine zdg ?_ (h := fun ν => step_on rfl rfl (acts_pick_f ν vt xc))
       refine zd ?_ (h := fun ν => acts_pick_f ν vt xt)
       refine dw_nil ?_
       exact ⟨rfl, weak_reads ⟨(by simp only [c6, c7, c8]; first | done | kernel_rfl), (by repeat (first | exact trivial | refine ⟨by kernel_rfl, ?_⟩))⟩⟩
    ·skip
     refine wp_dr ?_
     refine zd ?_ (h := fun ν => acts_load_owns (xs := [vI ((gD ds k).x), vI ((gD ds k).y), .bool ((gD ds k).d)].map A.val) ν qC3w_ti_57 rfl (by decide) rfl)
     refine zd ?_ (h := fun ν => acts_call1 ν (impl_DominoOk_fn (gD ds k) ) (ac (ArgV.va va) an) (resval (congrArg Value.bool c6)))
     refine zd ?_ (h := fun ν => acts_un ν vt (r_not (c := true) rfl))
     refine zdm ?_
     refine zdg ?_ (h := fun ν => step_off rfl rfl (by decide) rfl ν)
     refine zdg ?_ (h := fun ν => step_off rfl rfl (by decide) rfl ν)
     refine zdg ?_ (h := fun ν => step_off rfl rfl (by decide) rfl ν)
     refine zdg ?_ (h := fun ν => step_off rfl rfl (by decide) rfl ν)
     refine zdg ?_ (h := fun ν => step_off rfl rfl (by decide) rfl ν)
     refine zdg ?_ (h := fun ν => step_off rfl rfl (by decide) rfl ν)
     refine zdg ?_ (h := fun ν => step_off rfl rfl (by decide) rfl ν)
     refine zd ?_ (h := fun ν => acts_pick_t ν vt xc)
     refine zdm ?_
     refine zdg ?_ (h := fun ν => step_off rfl rfl (by decide) rfl ν)
     refine zdg ?_ (h := fun ν => step_off rfl rfl (by decide) rfl ν)
     refine zdg ?_ (h := fun ν => step_offu rfl rfl (by decide) rfl ν)
     refine zdg ?_ (h := fun ν => step_offx rfl rfl rfl ν)
     refine zdg ?_ (h := fun ν => step_offx rfl rfl rfl ν)
     refine zdg ?_ (h := fun ν => step_offx rfl rfl rfl ν)
     refine zdg ?_ (h := fun ν => step_offx rfl rfl rfl ν)
     refine zdg ?_ (h := fun ν => step_offx rfl rfl rfl ν)
     refine zdg ?_ (h := fun ν => step_offx rfl rfl rfl ν)
     refine zdg ?_ (h := fun ν => step_offx rfl rfl rfl ν)
     refine zdg ?_ (h := fun ν => step_offx rfl rfl rfl ν)
     refine zdg ?_ (h := fun ν => step_off rfl rfl (by decide) rfl ν)
     refine zd ?_ (h := fun ν => acts_pick_t ν vt xc)
     refine dw_nil ?_
     exact ⟨rfl, weak_reads ⟨(by simp only [c6]; first | done | kernel_rfl), (by repeat (first | exact trivial | refine ⟨by kernel_rfl, ?_⟩))⟩⟩
   refine wi (b := ((!(okD (gD ds k))) || ((decide (((((andn (regSet l) (covS (ds.take k))) &&& (domS (gD ds k))) : Nat) : Int) ≠ (((domS (gD ds k)) : Nat) : Int))) || ((decide (0 < ((k : Nat) : Int))) && (!(bef (gD ds ((((k : Nat) : Int) - 1).toNat)) (gD ds k))))))) (fun c9 => ?_) (fun c9 => ?_)
   ·skip
    have c10 := or_tt c9
    refine sq (rg (zk (nl (wp_ret' ?_))))
    exact VRes.tmp _ _ _ (by exact rfl) (bval (congrArg Value.bool (by exact (im_ex (k := k) (by omega) (by assumption)).symm)))
   ·skip
    obtain ⟨c11, c12⟩ := or_ff c9
    have c13 : (okD (gD ds k)) = true := by first | (rw [← Bool.not_eq_false']; exact c11) | simpa using c11
    obtain ⟨c14, c15⟩ := or_ff c12
    have c14P := of_decide_eq_false c14
    have c16 := and_ff c15
    refine sk (rg (zm ?_))
    refine z ?_ (h := fun ν => acts_load_owns (xs := [vI ((gD ds k).x), vI ((gD ds k).y), .bool ((gD ds k).d)].map A.val) ν qC3w_ti_57 rfl (by decide) rfl)
    refine z ?_ (h := fun ν => acts_call1 ν (impl_Domino__set_fn (gD ds k) (by omega)) (ac (ArgV.va va) an) rv)
    refine z ?_ (h := fun ν => acts_bin ν vt vt (r_andNot (c := (((andn (andn (regSet l) (covS (ds.take k))) (domS (gD ds k))) : Nat) : Int)) (andnU (m := (andn (regSet l) (covS (ds.take k)))) (n := (domS (gD ds k))) rfl rfl (by (first | omega | assumption | exact regSet_lt (by assumption) | exact domS_lt (by assumption) | exact andn_lt (regSet_lt (by assumption)))) (by (first | omega | assumption | exact regSet_lt (by assumption) | exact domS_lt (by assumption) | exact andn_lt (regSet_lt (by assumption)))))))
    refine za (nl (rg ?_))
    refine z ?_ (h := fun ν => acts_bin ν vt vc (rA (by omega) (by omega)))
    refine zm (nl ?_)
    exact loop_back ((k + 1)) (by refine ⟨by omega, parT_snoc (by assumption) ?_⟩; unfold stepOk fits; simp_all [natI]; (try omega)) (by show ds.length - (k + 1) < ds.length - k; omega) (wkf id (wS <| wE (e := (vint (by (rw [covS_yes (by omega) (by assumption), andn_or])))) <| wS <| wS <| wE (e := (vint (by rfl))) <| by (iterate 10 refine wF ?_); exact wN))
  ·skip
   have c5P := of_decide_eq_false c5
   refine wp_exit' (sq (rg (zk (nl (wp_ret' ?_)))))
   exact VRes.tmp _ _ _ (by exact rfl) (bval (congrArg Value.bool (by exact (isPar_yes (by omega) (by omega) (by assumption) (by assumption)).symm)))

set_option maxHeartbeats 4000000 in
set_option maxRecDepth 100000 in
theorem impl_IsTiling_fn (l : List Int) (ds : List Dom) (hl : l.length ≤ 4194304) (hd : ds.length ≤ 2097152) : Fn Try.prog 38 [.agg [(.slv l.length 1 (isl l) : A)], .a (.slv ds.length 3 (dsl ds))] [.val (.bool (isTil l ds))] := by
 refine fn_intro (N := 15) Try.func38 rfl (by kernel_rfl) rfl (Nat.le_of_ble_eq_true rfl) [2, 7, 10, 12] (ret1 rfl) (fun W => ?_)
 show Wp _ _ _ [kV 0 (V.b (.agg [(.slv l.length 1 (isl l) : A)])), kV 1 (V.b (.a (.slv ds.length 3 (dsl ds)))), kF 2, kF 7, kF 10, kF 12]
 refine sq (rg ?_)
 refine z ?_ (h := fun ν => acts_box (h := 2) ν xt (by exact ob1 rfl))
 refine zk (nl (sq ?_))
 rcases Bool.eq_false_or_eq_true ((isPar l ds)) with c1 | c1
 ·skip
  refine wp_dr ?_
  refine zd ?_ (h := fun ν => acts_load_owns (xs := [(.slv l.length 1 (isl l) : A)]) ν qC3w_ti_29 rfl (by decide) rfl)
  refine zdm ?_
  refine zd ?_ (h := fun ν => acts_call1 ν (impl_IsPartial_fn l ds (by omega) (by omega)) (ac (ArgV.regv _ _ 1 _) (ac (ArgV.slv _ _ _ _) an)) (resval (congrArg Value.bool c1)))
  refine zdm ?_
  refine zdg ?_ (h := fun ν => step_on rfl rfl (mt ν))
  refine zdg ?_ (h := fun ν => step_on rfl rfl (acts_call1 ν (impl_covered_fn ds (by omega)) (ac (ArgV.slv _ _ _ _) an) rv))
  refine zdg ?_ (h := fun ν => step_on rfl rfl (acts_load_owns (xs := [(.slv l.length 1 (isl l) : A)]) ν qC3w_ti_29 rfl (by decide) rfl))
  refine zdg ?_ (h := fun ν => step_on rfl rfl (acts_call1 ν (impl_Region__set_fn l (by exact (isPar_step (by assumption)).1)) (ac (ArgV.regv _ _ 1 _) an) rv))
  refine zdg ?_ (h := fun ν => step_on rfl rfl (acts_bin ν vt vt (r_eql rfl)))
  refine zd ?_ (h := fun ν => acts_pick_t ν vt xt)
  refine zd ?_ (h := fun ν => gt ν)
  refine dw_nil (wp_ret' ?_)
  exact VRes.tmp _ _ _ (by exact rfl) (bval (congrArg Value.bool (by (simp_all [isTil, natI]; done))))
 ·skip
  refine wp_dr ?_
  refine zd ?_ (h := fun ν => acts_load_owns (xs := [(.slv l.length 1 (isl l) : A)]) ν qC3w_ti_29 rfl (by decide) rfl)
  refine zdm ?_
  refine zd ?_ (h := fun ν => acts_call1 ν (impl_IsPartial_fn l ds (by omega) (by omega)) (ac (ArgV.regv _ _ 1 _) (ac (ArgV.slv _ _ _ _) an)) (resval (congrArg Value.bool c1)))
  refine zdm ?_
  refine zdg ?_ (h := fun ν => step_off rfl rfl (by decide) rfl ν)
  refine zdg ?_ (h := fun ν => step_off rfl rfl (by decide) rfl ν)
  refine zdg ?_ (h := fun ν => step_off rfl rfl (by decide) rfl ν)
  refine zdg ?_ (h := fun ν => step_off rfl rfl (by decide) rfl ν)
  refine zdg ?_ (h := fun ν => step_off rfl rfl (by decide) rfl ν)
  refine zd ?_ (h := fun ν => acts_pick_f ν vt xc)
  refine zd ?_ (h := fun ν => gt ν)
  refine dw_nil (wp_ret' ?_)
  exact VRes.tmp _ _ _ (by exact rfl) (bval (congrArg Value.bool (by (simp_all [isTil, natI]; done))))

set_option maxHeartbeats 4000000 in
set_option maxRecDepth 100000 in
theorem spec_DominoAt_fn (ds : List Dom) (c : Cel) (hd : ds.length ≤ 2097152) : Fn Try.prog 105 [.a (.slv ds.length 3 (dsl ds)), .agg ([vI c.x, vI c.y].map A.val)] [.val (.int .i64 (atD ds c))] := by
 refine fn_intro (N := 37) Try.func105 rfl (by kernel_rfl) rfl (Nat.le_of_ble_eq_true rfl) [3, 6, 7, 10, 18, 25] (ret1 rfl) (fun W => ?_)
 show Wp _ _ _ [kV 0 (V.b (.a (.slv ds.length 3 (dsl ds)))), kV 1 (V.av [vI c.x, vI c.y]), kF 3, kF 6, kF 7, kF 10, kF 18, kF 25]
 refine sq (rg ?_)
 refine z ?_ (h := fun ν => acts_box (h := 3) ν xt (by exact ob1 rfl))
 refine zk (nl (sq (sq (rg (zk (nl (bkk ?_)))))))
 refine wp_loop' (fun (k : Nat) => k ≤ ds.length ∧ (ds.take k).any (cvr c) = false) (fun (k : Nat) => [kV 0 (V.b (.a (.slv ds.length 3 (dsl ds)))), kP 3 3 0, kI 5 ((k : Nat) : Int), kO 3 46 2 true [aI c.x, aI c.y], kF 6, kF 7, kF 10, kF 18, kF 25]) (fun (k : Nat) => ds.length - k) ((0 : Nat)) (by exact ⟨Nat.zero_le _, rfl⟩) (wkf id (wS <| wS <| wE (e := (vint (by rfl))) <| wX <| wF <| wF <| wF <| wF <| wF <| wN)) ?_
 rintro k inv1
 replace inv1 : k ≤ ds.length ∧ (ds.take k).any (cvr c) = false := inv1
 obtain ⟨inv1_0, inv1_1⟩ := inv1
 refine sq (sq (rg (zm (zm ?_))))
 refine z ?_ (h := fun ν => lnV ν qC3w_un_26)
 refine z ?_ (h := fun ν => acts_bin ν vt vt (r_lss rfl))
 refine nl ?_
 refine wi (fun c2 => ?_) (fun c2 => ?_)
 ·skip
  have c2P := of_decide_eq_true c2
  refine sk (sq (bkk (sq (sq (rg (zm (zm ?_)))))))
  refine z ?_ (h := fun ν => ixv ν qC3w_un_26 qC3w_sz_57 vt (hlt := (by omega)))
  refine z ?_ (h := fun ν => uD ν qC3w_ti_57 (by omega))
  refine z ?_ (h := fun ν => acts_call1 ν (spec_DominoOk_fn (gD ds k) ) (ac (ArgV.va va) an) rv)
  refine z ?_ (h := fun ν => acts_un ν vt (r_not rfl))
  refine nl ?_
  refine wi (b := (!(okD (gD ds k)))) (fun c3 => ?_) (fun c3 => ?_)
  ·skip
   have c4 : (okD (gD ds k)) = false := by first | (rw [← Bool.not_eq_true']; exact c3) | simpa using c3
   refine wp_exit' (rg (zm ?_))
   refine z ?_ (h := fun ν => acts_bin ν vt vc (rA (by omega) (by omega)))
   refine za (nl ?_)
   exact loop_back ((k + 1)) (by refine ⟨by omega, any_snocD (by omega) (by assumption) ?_⟩; unfold cvr; simp_all [cEq_cel]) (by show ds.length - (k + 1) < ds.length - k; omega) (wkf id (wS <| wS <| wE (e := (vint (by rfl))) <| wX <| wF <| wF <| wF <| wF <| wF <| wN))
  ·skip
   have c5 : (okD (gD ds k)) = true := by first | (rw [← Bool.not_eq_false']; exact c3) | simpa using c3
   refine sk (sq (rg (zm (zm ?_))))
   refine z ?_ (h := fun ν => ixv ν qC3w_un_26 qC3w_sz_57 vt (hlt := (by omega)))
   refine z ?_ (h := fun ν => uD ν qC3w_ti_57 (by omega))
   refine z ?_ (h := fun ν => acts_call2 ν (spec_CellsUnder_fn (gD ds k) (by omega)) (ac (ArgV.va va) an) (ResV.agg [vI ((ca (gD ds k)).x), vI ((ca (gD ds k)).y)]) (ResV.agg [vI ((cb (gD ds k)).x), vI ((cb (gD ds k)).y)]))
   refine zm ?_
   refine z ?_ (h := fun ν => acts_extract ν (by exact rfl))
   refine z ?_ (h := fun ν => acts_extract ν (by exact rfl))
   refine z ?_ (h := fun ν => acts_alloc' (h := 6) (cap := 1) (s := 2) (cells := [aI 0, aI 0]) ν qC3w_zi_46 rfl rfl (by decide))
   refine z ?_ (h := fun ν => acts_alloc' (h := 7) (cap := 1) (s := 2) (cells := [aI 0, aI 0]) ν qC3w_zi_46 rfl rfl (by decide))
   refine z ?_ (h := fun _ => acts_store (cells := [aI ((ca (gD ds k)).x), aI ((ca (gD ds k)).y)]) qC3w_ti_46 xt (by exact rfl) (by decide) (by exact ob1 rfl) (by exact Nat.le_of_ble_eq_true rfl) (by exact rfl))
   refine z ?_ (h := fun _ => acts_store (cells := [aI ((cb (gD ds k)).x), aI ((cb (gD ds k)).y)]) qC3w_ti_46 xt (by exact rfl) (by decide) (by exact ob1 rfl) (by exact Nat.le_of_ble_eq_true rfl) (by exact rfl))
   refine nl (sq ?_)
   rcases Bool.eq_false_or_eq_true ((cEq ((ca (gD ds k)).x) ((ca (gD ds k)).y) c.x c.y)) with c6 | c6
   ·skip
    refine rg ?_
    refine z ?_ (h := fun ν => acts_load_owns (xs := [vI ((ca (gD ds k)).x), vI ((ca (gD ds k)).y)].map A.val) ν qC3w_ti_46 rfl (by decide) rfl)
    refine z ?_ (h := fun ν => acts_load_owns (xs := [vI c.x, vI c.y].map A.val) ν qC3w_ti_46 rfl (by decide) rfl)
    refine z ?_ (h := fun ν => acts_bin ν va va (r_aggeq qC3w_eg_46 (fun w => (run_eql_cel ((ca (gD ds k)).x) ((ca (gD ds k)).y) c.x c.y w).trans (congrArg (fun z => Result.ok (Value.bool z) w) c6))))
    refine zm (zo (zo (zo ?_)))
    refine z ?_ (h := fun ν => acts_pick_t ν vt xc)
    refine nl (wt (sq (rg (zm (za (nl (wp_ret' ?_)))))))
    exact VRes.tmp _ _ _ (by exact rfl) (bval (congrArg (Value.int .i64) (by (refine atD_yes (by omega) (by assumption) ?_; unfold cvr; simp_all [cEq_cel]))))
   ·skip
    refine rg ?_
    refine z ?_ (h := fun ν => acts_load_owns (xs := [vI ((ca (gD ds k)).x), vI ((ca (gD ds k)).y)].map A.val) ν qC3w_ti_46 rfl (by decide) rfl)
    refine z ?_ (h := fun ν => acts_load_owns (xs := [vI c.x, vI c.y].map A.val) ν qC3w_ti_46 rfl (by decide) rfl)
    refine z ?_ (h := fun ν => acts_bin ν va va (r_aggeq qC3w_eg_46 (fun w => (run_eql_cel ((ca (gD ds k)).x) ((ca (gD ds k)).y) c.x c.y w).trans (congrArg (fun z => Result.ok (Value.bool z) w) c6))))
    refine zm ?_
    refine zg ?_ (h := fun ν => step_on rfl rfl (acts_load_owns (xs := [vI ((cb (gD ds k)).x), vI ((cb (gD ds k)).y)].map A.val) ν qC3w_ti_46 rfl (by decide) rfl))
    refine zg ?_ (h := fun ν => step_on rfl rfl (acts_load_owns (xs := [vI c.x, vI c.y].map A.val) ν qC3w_ti_46 rfl (by decide) rfl))
    refine zg ?_ (h := fun ν => step_on rfl rfl (acts_bin ν va va (r_aggeq qC3w_eg_46 (fun w => (run_eql_cel ((cb (gD ds k)).x) ((cb (gD ds k)).y) c.x c.y w).trans (congrArg (fun z => Result.ok (Value.bool z) w) (rfl : (cEq ((cb (gD ds k)).x) ((cb (gD ds k)).y) c.x c.y) = (cEq ((cb (gD ds k)).x) ((cb (gD ds k)).y) c.x c.y)))))))
    refine z ?_ (h := fun ν => acts_pick_f ν vt xt)
    refine nl ?_
    refine wi (b := (cEq ((cb (gD ds k)).x) ((cb (gD ds k)).y) c.x c.y)) (fun c7 => ?_) (fun c7 => ?_)
    ·skip
     refine sq (rg (zm (za (nl (wp_ret' ?_)))))
     exact VRes.tmp _ _ _ (by exact rfl) (bval (congrArg (Value.int .i64) (by (refine atD_yes (by omega) (by assumption) ?_; unfold cvr; simp_all [cEq_cel]))))
    ·skip
     refine sk (rg (zm ?_))
     refine z ?_ (h := fun ν => acts_bin ν vt vc (rA (by omega) (by omega)))
     refine za (nl ?_)
     exact loop_back ((k + 1)) (by refine ⟨by omega, any_snocD (by omega) (by assumption) ?_⟩; unfold cvr; simp_all [cEq_cel]) (by show ds.length - (k + 1) < ds.length - k; omega) (wkf id (wS <| wS <| wE (e := (vint (by rfl))) <| wX <| wF <| wF <| wF <| wF <| wF <| wN))
 ·skip
  have c2P := of_decide_eq_false c2
  refine wp_exit' (sq (rg (zk (nl (wp_ret' ?_)))))
  exact VRes.tmp _ _ _ (by exact rfl) (bval (congrArg (Value.int .i64) (by exact atD_no (by omega) (by assumption))))

set_option maxHeartbeats 4000000 in
set_option maxRecDepth 100000 in
theorem spec_UncoveredOf_fn (l : List Int) (ds : List Dom) (hl : l.length ≤ 4194304) (hd : ds.length ≤ 2097152) : Fn Try.prog 104 [.agg [(.slv l.length 1 (isl l) : A)], .a (.slv ds.length 3 (dsl ds))] [.row 46 2 (unc l ds).length (csl (unc l ds))] := by
 refine fn_intro (N := 32) Try.func104 rfl (by kernel_rfl) rfl (Nat.le_of_ble_eq_true rfl) [2, 8, 10, 13, 22, 29, 30] (ret1 rfl) (fun W => ?_)
 show Wp _ _ _ [kV 0 (V.b (.agg [(.slv l.length 1 (isl l) : A)])), kV 1 (V.b (.a (.slv ds.length 3 (dsl ds)))), kF 2, kF 8, kF 10, kF 13, kF 22, kF 29, kF 30]
 refine sq (rg ?_)
 refine z ?_ (h := fun ν => acts_box (h := 2) ν xt (by exact ob1 rfl))
 refine zk (nl (sq (rg ?_)))
 refine z ?_ (h := fun ν => b0C (h := 8) ν qC3w_un_42 qC3w_zi_46)
 refine za (nl (sq (rg ?_)))
 refine z ?_ (h := fun ν => acts_load_owns (xs := [(.slv l.length 1 (isl l) : A)]) ν qC3w_ti_29 rfl (by decide) rfl)
 refine z ?_ (h := fun ν => acts_call1 ν (spec_CellsOf_fn l (by omega)) (ac (ArgV.regv _ _ 1 _) an) (ResV.row _ _ _ _ 10))
 refine za (nl (sq (sq (rg (zk (nl (bkk ?_)))))))
 refine wp_loop' (fun (k : Nat) => k ≤ (cellsOf l).length) (fun (k : Nat) => [kV 1 (V.b (.a (.slv ds.length 3 (dsl ds)))), kS 5 8 0 ((((cellsOf l).take k).filter (fun c => !(ds.any (cvr c)))).length), kS 6 10 0 ((cellsOf l).length), kI 7 ((k : Nat) : Int), kO 8 46 2 true (pl (csl (((cellsOf l).take k).filter (fun c => !(ds.any (cvr c)))))), kO 10 46 2 true (pl (csl (cellsOf l))), kF 2, kF 13, kF 22, kF 29, kF 30]) (fun (k : Nat) => (cellsOf l).length - k) ((0 : Nat)) (by exact (Nat.zero_le _ : 0 ≤ _)) (wkf id (wS <| wE (e := (vsl (by rfl) rfl)) <| wS <| wE (e := (vint (by rfl))) <| wO (e := renob_eq (fun h => h) (congrArg csl (by rfl))) <| wP <| wF <| wF <| wF <| wF <| wF <| wN)) ?_
 rintro k inv1
 replace inv1 : k ≤ (cellsOf l).length := inv1
 have inv := inv1
 have hlt := cfilt_len (fun c => !(ds.any (cvr c))) (cellsOf l) k
 have h64 := cellsOf_len l
 refine sq (sq (rg (zm (zm ?_))))
 refine z ?_ (h := fun ν => lnS ν qC3w_un_42)
 refine z ?_ (h := fun ν => acts_bin ν vt vt (r_lss rfl))
 refine nl ?_
 refine wi (fun c2 => ?_) (fun c2 => ?_)
 ·skip
  have c2P := of_decide_eq_true c2
  refine sk (sq (bkk (sq (rg (zm (zm (zm ?_)))))))
  refine z ?_ (h := fun ν => ix0 ν qC3w_un_42 qC3w_sz_46 vt (hlt := (by omega)))
  refine z ?_ (h := fun ν => lC ν qC3w_ti_46 (by omega))
  refine z ?_ (h := fun ν => acts_call1 ν (spec_DominoAt_fn ds (gC (cellsOf l) k) (by omega)) (ac (ArgV.slv _ _ _ _) (ac (ArgV.va va) an)) rv)
  refine z ?_ (h := fun ν => acts_bin ν vt vc (r_lss rfl))
  refine nl ?_
  refine wi (fun c3 => ?_) (fun c3 => ?_)
  ·skip
   have c3P := of_decide_eq_true c3
   refine rg (zm (zm (zm ?_)))
   refine z ?_ (h := fun ν => ix0 ν qC3w_un_42 qC3w_sz_46 vt (hlt := (by omega)))
   refine z ?_ (h := fun ν => lC ν qC3w_ti_46 (by omega))
   refine z ?_ (h := fun ν => acts_buildSlice' (h := 29) (xs := csl ([(gC (cellsOf l) k)] : List Cel)) ν qC3w_un_42 qC3w_zi_46 (.cons va OpVs.nil) (by decide) (by decide) (by kernel_rfl) rfl)
   refine z ?_ (h := fun ν => aC_ (h2 := 30) (L3 := ((((cellsOf l).take k).filter (fun c => !(ds.any (cvr c)))) ++ [(gC (cellsOf l) k)])) ν qC3w_un_42 qC3w_zi_46 (by exact rfl) rfl (by exact rfl) (by (simp; omega)))
   refine za (nl (rg (zm ?_)))
   refine z ?_ (h := fun ν => acts_bin ν vt vc (rA (by omega) (by omega)))
   refine za (nl ?_)
   exact loop_back ((k + 1)) (by show _ ≤ _; omega) (by show (cellsOf l).length - (k + 1) < (cellsOf l).length - k; omega) (wkf (subst1 [(8, 30)]) (wS <| wE (e := (vsl (by (exact congrArg List.length (by first | rfl | exact cfilt_yes (p := (fun c => !(ds.any (cvr c)))) (by omega) (atD_t (by assumption)) | exact cfilt_no (p := (fun c => !(ds.any (cvr c)))) (by omega) (atD_f (by assumption)) | omega))) rfl)) <| wS <| wE (e := (vint (by rfl))) <| wO (e := renob_eq (fun h => h) (congrArg csl (by exact cfilt_yes (p := (fun c => !(ds.any (cvr c)))) (by omega) (atD_t (by assumption))))) <| wP <| wF <| wF <| wF <| wF <| wF <| wN))
  ·skip
   have c3P := of_decide_eq_false c3
   refine sk (rg (zm ?_))
   refine z ?_ (h := fun ν => acts_bin ν vt vc (rA (by omega) (by omega)))
   refine za (nl ?_)
   exact loop_back ((k + 1)) (by show _ ≤ _; omega) (by show (cellsOf l).length - (k + 1) < (cellsOf l).length - k; omega) (wkf id (wS <| wE (e := (vsl (by (exact congrArg List.length (by first | rfl | exact cfilt_yes (p := (fun c => !(ds.any (cvr c)))) (by omega) (atD_t (by assumption)) | exact cfilt_no (p := (fun c => !(ds.any (cvr c)))) (by omega) (atD_f (by assumption)) | omega))) rfl)) <| wS <| wE (e := (vint (by rfl))) <| wO (e := renob_eq (fun h => h) (congrArg csl (by exact cfilt_no (p := (fun c => !(ds.any (cvr c)))) (by omega) (atD_f (by assumption))))) <| wP <| wF <| wF <| wF <| wF <| wF <| wN))
 ·skip
  have c2P := of_decide_eq_false c2
  refine wp_exit' (sq (rg (zm (za (nl (wp_ret' ?_))))))
  exact VRes.tmp _ _ _ (by exact rfl) (brow_cels (h := 8) (L := (((cellsOf l).take k).filter (fun c => !(ds.any (cvr c))))) (by kernel_rfl) (by unfold unc; rw [List.take_of_length_le (by omega)]) (by rfl))
end Cl
end Go.Proofs.Ytonlghbbdcddoaa
