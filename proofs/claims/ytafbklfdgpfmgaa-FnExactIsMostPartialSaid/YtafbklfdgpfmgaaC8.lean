/- Walks over clean states, printed by wg.py. No statement is proved here. -/
import Derived.Test.YtafbklfdgpfmgaaC7
namespace Go.Proofs.Ytafbklfdgpfmgaa
namespace Cl
open Go.ChangeShapes Go.WideShapes Go.ChangeAt Go.RowKit

theorem qC8_sz_3 : (Try.prog.info? 3).map (·.size) = some 1 := by kernel_rfl
theorem qC8_sz_49 : (Try.prog.info? 49).map (·.size) = some 2 := by kernel_rfl
theorem qC8_ti_29 : TI Try.prog 29 true 1 := ⟨⟨_, Try.underlying29, rfl⟩, by kernel_rfl⟩
theorem qC8_ti_3 : TI Try.prog 3 false 1 := ⟨⟨_, Try.underlying3, rfl⟩, by kernel_rfl⟩
theorem qC8_ti_49 : TI Try.prog 49 true 2 := ⟨⟨_, Try.underlying49, rfl⟩, by kernel_rfl⟩
theorem qC8_ti_52 : TI Try.prog 52 true 3 := ⟨⟨_, Try.underlying52, rfl⟩, by kernel_rfl⟩
theorem qC8_un_22 : Try.prog.underlying 22 = some (.slice 3) := Try.underlying22
theorem qC8_un_31 : Try.prog.underlying 31 = some (.slice 52) := Try.underlying31
theorem qC8_un_41 : Try.prog.underlying 41 = some (.slice 49) := Try.underlying41
theorem qC8_un_71 : Try.prog.underlying 71 = some (.array 64 3) := Try.underlying71
theorem qC8_zi_49 : ZI Try.prog 49 (.agg #[.int .i64 0, .int .i64 0]) 2 16 := by unfold ZI; kernel_rfl
theorem qC8_zi_52 : ZI Try.prog 52 (.agg #[.int .i64 0, .int .i64 0, .bool false]) 3 24 := by unfold ZI; kernel_rfl
set_option maxHeartbeats 4000000 in
set_option maxRecDepth 100000 in
theorem impl_MatchRegion_fn (l : List Int) (hl : l.length ≤ 4194304) : Fn Try.prog 22 [.agg [(.slv l.length 1 (isl l) : A)]] [.row 52 3 (matR l).length (dsl (matR l))] := by
  have hjo := joined_ok (regSet l)
  obtain ⟨hjl, hjr⟩ := hjo
  refine fn_intro (N := 36) Try.func22 rfl (by kernel_rfl) rfl (Nat.le_of_ble_eq_true rfl) [1, 6, 9, 11, 13, 14, 23, 25, 26, 31, 32, 35] (ret1 rfl) (fun W => ?_)
  show Wp _ _ _ [(.s 0, some (.s (V.b (.agg [(.slv l.length 1 (isl l) : A)])))), (.o 1, some .free), (.o 6, some .free), (.o 9, some .free), (.o 11, some .free), (.o 13, some .free), (.o 14, some .free), (.o 23, some .free), (.o 25, some .free), (.o 26, some .free), (.o 31, some .free), (.o 32, some .free), (.o 35, some .free)]
  refine wp_seq' ?_
  refine wp_region_t ?_
  refine wpc (step_plain rfl (acts_box (d := 1) (h := 1) (b := .agg [(.slv l.length 1 (isl l) : A)]) (ltN rfl) (OpX.tmp 0 (V.b (.agg [(.slv l.length 1 (isl l) : A)]))) (by intro y hy; simp [B.cs] at hy; subst hy; rfl))) (by kernel_rfl) ?_
  refine wpc (step_plain rfl (acts_assign (d := 2) (ltN rfl) (OpX.const (.slice none 0 0)))) (by kernel_rfl) ?_
  refine wpl_nil ?_
  refine wp_seq' ?_
  refine wp_seq' ?_
  refine wp_region_t ?_
  refine wpc (step_plain rfl (acts_load_owns (d := 8) (t := 1) (h := 1) (off := 0) (o := ⟨29, 1, true, [(.slv l.length 1 (isl l) : A)]⟩)  (xs := [(.slv l.length 1 (isl l) : A)]) (ltN rfl) qC8_ti_29 rfl (by decide) rfl)) (by kernel_rfl) ?_
  refine wpc (step_plain rfl (acts_call1 (d := 9) (ltN rfl) (impl_RegionOk_fn l (by first | omega | assumption | exact regSet_lt (by assumption) | (have := hjr k (by omega); omega) | (have := matT_len (joined (regSet l)) k; omega))) (ArgVs.cons (ArgV.regv 8 l.length 1 (isl l)) (ArgVs.nil)) (ResV.val _))) (by kernel_rfl) ?_
  refine wpc (step_plain rfl (acts_un (d := 10) (ltN rfl) (OpV.tmp 9 (.bool (regOk l))) (r_not (c := (!(regOk l))) rfl))) (by kernel_rfl) ?_
  refine wpl_nil ?_
  refine wp_if (t := 10) ((!(regOk l))) (by kernel_rfl) (fun c1 => ?_) (fun c1 => ?_)
  · skip
    have c2 : (regOk l) = false := by simpa using c1
    refine wp_seq' ?_
    refine wp_region_t ?_
    refine wpc (step_plain rfl (acts_assign (d := 2) (ltN rfl) (OpX.const (.slice none 0 0)))) (by kernel_rfl) ?_
    refine wpl_nil ?_
    refine wp_ret' ?_
    exact VRes.tmp 2 (.a (.val (.slice none 0 0))) _ (by kernel_rfl) (bnil_doms (L := (matR l)) (by first | exact (matR_no (by assumption)).symm | exact matR_no (by assumption)))
  · skip
    have c3 : (regOk l) = true := by simpa using c1
    refine wp_skip' ?_
    refine wp_seq' ?_
    refine wp_region_t ?_
    refine wpc (step_plain rfl (acts_buildSlice0' (d := 11) (h := 11) (s := 3) (ltN rfl) qC8_un_31 qC8_zi_52)) (by kernel_rfl) ?_
    refine wpc (step_plain rfl (acts_assign (d := 3) (ltN rfl) (OpX.tmp 11 (V.b (.a (.sl 11 0 0)))))) (by kernel_rfl) ?_
    refine wpl_nil ?_
    refine wp_seq' ?_
    refine wp_seq' ?_
    refine wp_region_t ?_
    refine wpc (step_plain rfl (acts_load_owns (d := 12) (t := 1) (h := 1) (off := 0) (o := ⟨29, 1, true, [(.slv l.length 1 (isl l) : A)]⟩)  (xs := [(.slv l.length 1 (isl l) : A)]) (ltN rfl) qC8_ti_29 rfl (by decide) rfl)) (by kernel_rfl) ?_
    refine wpc (step_plain rfl (acts_call1 (d := 13) (ltN rfl) (impl_Region__set_fn l (by first | omega | assumption | exact regSet_lt (by assumption) | (have := hjr k (by omega); omega) | (have := matT_len (joined (regSet l)) k; omega))) (ArgVs.cons (ArgV.regv 12 l.length 1 (isl l)) (ArgVs.nil)) (ResV.val _))) (by kernel_rfl) ?_
    refine wpc (step_plain rfl (acts_call1 (d := 14) (ltN rfl) (impl_set__matching_fn (regSet l) (by first | omega | assumption | exact regSet_lt (by assumption) | (have := hjr k (by omega); omega) | (have := matT_len (joined (regSet l)) k; omega))) (ArgVs.cons (ArgV.v (OpV.tmp 13 (.int .u64 (((regSet l) : Nat) : Int)))) (ArgVs.nil)) (ResV.agg (isl (joined (regSet l)))))) (by kernel_rfl) ?_
    refine wpc (step_plain rfl (acts_move (d := 15) (ltN rfl) (OpX.const (.int .i64 0)))) (by kernel_rfl) ?_
    refine wpl_nil ?_
    refine wp_block' ?_
    refine wp_loop' (fun (k : Nat) => k ≤ 64) (fun (k : Nat) => [(.s 3, some (.s (V.b (.a (.sl 11 0 ((matT (joined (regSet l)) k).length)))))), (.s 14, some (.s (V.av (isl (joined (regSet l)))))), (.s 15, some (.s (V.v (.int .i64 ((k : Nat) : Int))))), (.o 11, some (.o ⟨52, 3, true, pl (dsl (matT (joined (regSet l)) k))⟩)), (.o 1, some .free), (.o 6, some .free), (.o 9, some .free), (.o 13, some .free), (.o 14, some .free), (.o 23, some .free), (.o 25, some .free), (.o 26, some .free), (.o 31, some .free), (.o 32, some .free), (.o 35, some .free)]) (fun (k : Nat) => 64 - k) ((0 : Nat)) (by exact (Nat.zero_le _ : 0 ≤ _)) (weak_of id [1, 6, 9, 13, 14, 23, 25, 26, 31, 32, 35] (by kernel_rfl) (wk_s (v' := V.b (.a (.sl 11 0 0))) (by kernel_rfl) (vsl (by first | rfl | (simp; done) | (simp; omega) | omega | (exact congrArg List.length (by first | rfl | exact matT_yes (by omega) | exact matT_no (by omega) | omega))) rfl) rfl (wk_s (v' := V.av (isl (joined (regSet l)))) (by kernel_rfl) ren_av avd_av (wk_s (v' := V.v (.int .i64 0)) (by kernel_rfl) (vint (by first | rfl | exact matT_yes (by omega) | exact matT_no (by omega) | omega)) rfl (wk_o (o' := ⟨52, 3, true, pl (dsl [])⟩) (by kernel_rfl) (renob_eq (fun h => h) (congrArg dsl (by first | rfl | exact matT_yes (by omega) | exact matT_no (by omega) | omega))) rfl (wk_f rfl (wk_f rfl (wk_f rfl (wk_f rfl (wk_f rfl (wk_f rfl (wk_f rfl (wk_f rfl (wk_f rfl (wk_f rfl (wk_f rfl (wk_nil))))))))))))))))) ?_
    rintro k inv4
    replace inv4 : k ≤ 64 := inv4
    have inv := inv4
    show Wp _ _ _ [(.s 3, some (.s (V.b (.a (.sl 11 0 ((matT (joined (regSet l)) k).length)))))), (.s 14, some (.s (V.av (isl (joined (regSet l)))))), (.s 15, some (.s (V.v (.int .i64 ((k : Nat) : Int))))), (.o 11, some (.o ⟨52, 3, true, pl (dsl (matT (joined (regSet l)) k))⟩)), (.o 1, some .free), (.o 6, some .free), (.o 9, some .free), (.o 13, some .free), (.o 14, some .free), (.o 23, some .free), (.o 25, some .free), (.o 26, some .free), (.o 31, some .free), (.o 32, some .free), (.o 35, some .free)]
    have hml := matT_len (joined (regSet l)) k
    refine wp_seq' ?_
    refine wp_region_t ?_
    refine wpc (step_plain rfl (acts_bin (d := 16) (ltN rfl) (OpV.tmp 15 (.int .i64 ((k : Nat) : Int))) (OpV.const (.int .i64 64)) (r_lss (c := (decide (((k : Nat) : Int) < 64))) rfl))) (by kernel_rfl) ?_
    refine wpl_nil ?_
    refine wp_seq' ?_
    refine wp_if (t := 16) (decide (((k : Nat) : Int) < 64)) (by kernel_rfl) (fun c5 => ?_) (fun c5 => ?_)
    · skip
      have c5P := of_decide_eq_true c5
      refine wp_skip' ?_
      refine wp_seq' ?_
      refine wp_block' ?_
      refine wp_seq' ?_
      refine wp_region_t ?_
      refine wpc (step_plain rfl (acts_move (d := 17) (ltN rfl) (OpX.tmp 15 (V.v (.int .i64 ((k : Nat) : Int)))))) (by kernel_rfl) ?_
      refine wpc (step_plain rfl (acts_index_av (d := 18) (x := 14) (k := k) (vs := isl (joined (regSet l))) (v := .int .i64 (gI (joined (regSet l)) k)) (ltN rfl) qC8_un_71 qC8_ti_3 (OpV.tmp 15 (.int .i64 ((k : Nat) : Int))) rfl (by first | omega | assumption | exact regSet_lt (by assumption) | (have := hjr k (by omega); omega) | (have := matT_len (joined (regSet l)) k; omega)) (isl_get (l := (joined (regSet l))) (k := k) (by first | omega | assumption | exact regSet_lt (by assumption) | (have := hjr k (by omega); omega) | (have := matT_len (joined (regSet l)) k; omega))))) (by kernel_rfl) ?_
      refine wpc (step_plain rfl (acts_assign (d := 4) (ltN rfl) (OpX.tmp 17 (V.v (.int .i64 ((k : Nat) : Int)))))) (by kernel_rfl) ?_
      refine wpc (step_plain rfl (acts_assign (d := 5) (ltN rfl) (OpX.tmp 18 (V.v (.int .i64 (gI (joined (regSet l)) k)))))) (by kernel_rfl) ?_
      refine wpl_nil ?_
      refine wp_seq' ?_
      refine wp_region_t ?_
      refine wpc (step_plain rfl (acts_move (d := 19) (ltN rfl) (OpX.tmp 5 (V.v (.int .i64 (gI (joined (regSet l)) k)))))) (by kernel_rfl) ?_
      refine wpc (step_plain rfl (acts_bin (d := 20) (ltN rfl) (OpV.tmp 19 (.int .i64 (gI (joined (regSet l)) k))) (OpV.const (.int .i64 0)) (r_geq (c := (decide (0 ≤ (gI (joined (regSet l)) k)))) rfl))) (by kernel_rfl) ?_
      refine wpl_nil ?_
      refine wp_if (t := 20) (decide (0 ≤ (gI (joined (regSet l)) k))) (by kernel_rfl) (fun c6 => ?_) (fun c6 => ?_)
      · skip
        have c6P := of_decide_eq_true c6
        refine wp_seq' ?_
        refine wp_region_t ?_
        refine wpc (step_plain rfl (acts_move (d := 22) (ltN rfl) (OpX.tmp 4 (V.v (.int .i64 ((k : Nat) : Int)))))) (by kernel_rfl) ?_
        refine wpc (step_plain rfl (acts_call1 (d := 23) (ltN rfl) (impl_cellAt_fn k (by first | omega | assumption | exact regSet_lt (by assumption) | (have := hjr k (by omega); omega) | (have := matT_len (joined (regSet l)) k; omega))) (ArgVs.cons (ArgV.v (OpV.tmp 22 (.int .i64 ((k : Nat) : Int)))) (ArgVs.nil)) (ResV.agg [(.int .i64 ((cN k).x) : Value), .int .i64 ((cN k).y)]))) (by kernel_rfl) ?_
        refine wpc (step_plain rfl (acts_move (d := 24) (ltN rfl) (OpX.tmp 5 (V.v (.int .i64 (gI (joined (regSet l)) k)))))) (by kernel_rfl) ?_
        refine wpc (step_plain rfl (acts_call1 (d := 25) (ltN rfl) (impl_cellAt_fn ((gI (joined (regSet l)) k).toNat) (by first | omega | assumption | exact regSet_lt (by assumption) | (have := hjr k (by omega); omega) | (have := matT_len (joined (regSet l)) k; omega))) (ArgVs.cons ((argv_int (b := (((gI (joined (regSet l)) k).toNat : Nat) : Int)) (by omega) (ArgV.v (OpV.tmp 24 (.int .i64 (gI (joined (regSet l)) k)))))) (ArgVs.nil)) (ResV.agg [(.int .i64 ((cN ((gI (joined (regSet l)) k).toNat)).x) : Value), .int .i64 ((cN ((gI (joined (regSet l)) k).toNat)).y)]))) (by kernel_rfl) ?_
        refine wpc (step_plain rfl (acts_call2 (d := 26) (ltN rfl) (impl_DominoOver_fn (cN k) (cN ((gI (joined (regSet l)) k).toNat)) ) (ArgVs.cons (ArgV.va (vs := [(.int .i64 ((cN k).x) : Value), .int .i64 ((cN k).y)]) (OpV.agg 23 [(.int .i64 ((cN k).x) : Value), .int .i64 ((cN k).y)])) (ArgVs.cons (ArgV.va (vs := [(.int .i64 ((cN ((gI (joined (regSet l)) k).toNat)).x) : Value), .int .i64 ((cN ((gI (joined (regSet l)) k).toNat)).y)]) (OpV.agg 25 [(.int .i64 ((cN ((gI (joined (regSet l)) k).toNat)).x) : Value), .int .i64 ((cN ((gI (joined (regSet l)) k).toNat)).y)])) (ArgVs.nil))) (ResV.agg [(.int .i64 ((dOv (cN k) (cN ((gI (joined (regSet l)) k).toNat))).x) : Value), .int .i64 ((dOv (cN k) (cN ((gI (joined (regSet l)) k).toNat))).y), .bool ((dOv (cN k) (cN ((gI (joined (regSet l)) k).toNat))).d)]) (ResV.val _))) (by kernel_rfl) ?_
        refine wpc (step_plain rfl (acts_move (d := 21) (ltN rfl) (OpX.tmp 26 (V.tup [.agg ([(.int .i64 ((dOv (cN k) (cN ((gI (joined (regSet l)) k).toNat))).x) : Value), .int .i64 ((dOv (cN k) (cN ((gI (joined (regSet l)) k).toNat))).y), .bool ((dOv (cN k) (cN ((gI (joined (regSet l)) k).toNat))).d)].map A.val), .a (.val (.bool (nbr (cN k) (cN ((gI (joined (regSet l)) k).toNat)))))])))) (by kernel_rfl) ?_
        refine wpc (step_plain rfl (acts_extract (d := 27) (t := 21) (ix := 0) (xs := [.agg ([(.int .i64 ((dOv (cN k) (cN ((gI (joined (regSet l)) k).toNat))).x) : Value), .int .i64 ((dOv (cN k) (cN ((gI (joined (regSet l)) k).toNat))).y), .bool ((dOv (cN k) (cN ((gI (joined (regSet l)) k).toNat))).d)].map A.val), .a (.val (.bool (nbr (cN k) (cN ((gI (joined (regSet l)) k).toNat)))))]) (X := .agg ([(.int .i64 ((dOv (cN k) (cN ((gI (joined (regSet l)) k).toNat))).x) : Value), .int .i64 ((dOv (cN k) (cN ((gI (joined (regSet l)) k).toNat))).y), .bool ((dOv (cN k) (cN ((gI (joined (regSet l)) k).toNat))).d)].map A.val)) (ltN rfl) rfl)) (by kernel_rfl) ?_
        refine wpc (step_plain rfl (acts_extract (d := 28) (t := 21) (ix := 1) (xs := [.agg ([(.int .i64 ((dOv (cN k) (cN ((gI (joined (regSet l)) k).toNat))).x) : Value), .int .i64 ((dOv (cN k) (cN ((gI (joined (regSet l)) k).toNat))).y), .bool ((dOv (cN k) (cN ((gI (joined (regSet l)) k).toNat))).d)].map A.val), .a (.val (.bool (nbr (cN k) (cN ((gI (joined (regSet l)) k).toNat)))))]) (X := .a (.val (.bool (nbr (cN k) (cN ((gI (joined (regSet l)) k).toNat)))))) (ltN rfl) rfl)) (by kernel_rfl) ?_
        refine wpc (step_plain rfl (acts_alloc' (d := 6) (h := 6) (cap := 1) (s := 3) (cells := [(.val (.int .i64 0) : A), .val (.int .i64 0), .val (.bool false)]) (ltN rfl) qC8_zi_52 rfl rfl (by decide))) (by kernel_rfl) ?_
        refine wpc (step_plain rfl (acts_store (t := 6) (h := 6) (off := 0) (o := ⟨52, 3, true, [(.val (.int .i64 0) : A), .val (.int .i64 0), .val (.bool false)]⟩) (b := .agg ([(.int .i64 ((dOv (cN k) (cN ((gI (joined (regSet l)) k).toNat))).x) : Value), .int .i64 ((dOv (cN k) (cN ((gI (joined (regSet l)) k).toNat))).y), .bool ((dOv (cN k) (cN ((gI (joined (regSet l)) k).toNat))).d)].map A.val)) (cells := [(.val (.int .i64 ((dOv (cN k) (cN ((gI (joined (regSet l)) k).toNat))).x)) : A), .val (.int .i64 ((dOv (cN k) (cN ((gI (joined (regSet l)) k).toNat))).y)), .val (.bool ((dOv (cN k) (cN ((gI (joined (regSet l)) k).toNat))).d))]) qC8_ti_52 (OpX.tmp 27 (V.av [(.int .i64 ((dOv (cN k) (cN ((gI (joined (regSet l)) k).toNat))).x) : Value), .int .i64 ((dOv (cN k) (cN ((gI (joined (regSet l)) k).toNat))).y), .bool ((dOv (cN k) (cN ((gI (joined (regSet l)) k).toNat))).d)])) rfl (by decide) (by intro y hy; simp [B.cs] at hy; rcases hy with rfl | rfl | rfl <;> rfl) (Nat.le_of_ble_eq_true rfl) rfl)) (by kernel_rfl) ?_
        refine wpc (step_plain rfl (acts_assign (d := 7) (ltN rfl) (OpX.tmp 28 (V.v (.bool (nbr (cN k) (cN ((gI (joined (regSet l)) k).toNat)))))))) (by kernel_rfl) ?_
        refine wpl_nil ?_
        refine wp_region_t ?_
        refine wpc (step_plain rfl (acts_move (d := 29) (ltN rfl) (OpX.tmp 3 (V.b (.a (.sl 11 0 ((matT (joined (regSet l)) k).length))))))) (by kernel_rfl) ?_
        refine wpc (step_plain rfl (acts_load_owns (d := 30) (t := 6) (h := 6) (off := 0) (o := ⟨52, 3, true, [(.val (.int .i64 ((dOv (cN k) (cN ((gI (joined (regSet l)) k).toNat))).x)) : A), .val (.int .i64 ((dOv (cN k) (cN ((gI (joined (regSet l)) k).toNat))).y)), .val (.bool ((dOv (cN k) (cN ((gI (joined (regSet l)) k).toNat))).d))]⟩)  (xs := [(.int .i64 ((dOv (cN k) (cN ((gI (joined (regSet l)) k).toNat))).x) : Value), .int .i64 ((dOv (cN k) (cN ((gI (joined (regSet l)) k).toNat))).y), .bool ((dOv (cN k) (cN ((gI (joined (regSet l)) k).toNat))).d)].map A.val) (ltN rfl) qC8_ti_52 rfl (by decide) rfl)) (by kernel_rfl) ?_
        refine wpc (step_plain rfl (acts_buildSlice' (d := 31) (h := 31) (n := 1) (s := 3) (xs := dsl ([(dOv (cN k) (cN ((gI (joined (regSet l)) k).toNat)))] : List Dom)) (ltN rfl) qC8_un_31 qC8_zi_52 (OpVs.cons (i := 0) (OpV.agg 30 [(.int .i64 ((dOv (cN k) (cN ((gI (joined (regSet l)) k).toNat))).x) : Value), .int .i64 ((dOv (cN k) (cN ((gI (joined (regSet l)) k).toNat))).y), .bool ((dOv (cN k) (cN ((gI (joined (regSet l)) k).toNat))).d)]) (OpVs.nil)) (by decide) (by decide) (by kernel_rfl) rfl)) (by kernel_rfl) ?_
        refine wpc (step_plain rfl (acts_app (d := 32) (x := 29) (h := 11) (h2 := 32) (n := ((matT (joined (regSet l)) k).length)) (m := 1) (nm := (((matT (joined (regSet l)) k) ++ [(dOv (cN k) (cN ((gI (joined (regSet l)) k).toNat)))]).length)) (X := .sl 31 0 1) (xs := dsl (matT (joined (regSet l)) k)) (ys := dsl [(dOv (cN k) (cN ((gI (joined (regSet l)) k).toNat)))]) (zs := dsl ((matT (joined (regSet l)) k) ++ [(dOv (cN k) (cN ((gI (joined (regSet l)) k).toNat)))])) (ltN rfl) qC8_un_31 qC8_zi_52 rfl (by decide) (by decide) (by first | exact dsl_len _ | (simp [isl_len, bsl_len, dsl_len, csl_len]; done) | (simp [isl_len, bsl_len, dsl_len, csl_len]; omega)) (OpX.tmp 31 (V.b (.a (.sl 31 0 1)))) (src_own (h := 31) (T := 52) (s := 3) (ex := true) (n := 1) (by first | exact dsl_len _ | (simp [isl_len, bsl_len, dsl_len, csl_len]; done) | (simp [isl_len, bsl_len, dsl_len, csl_len]; omega))) (dsl_one' _) (by first | omega | (simp; omega) | (simp at *; omega)) (by first | exact (dsl_append _ _).symm | rfl | simp [dsl_append]) (by first | rfl | (simp; done) | (simp; omega) | omega))) (by kernel_rfl) ?_
        refine wpc (step_plain rfl (acts_assign (d := 3) (ltN rfl) (OpX.tmp 32 (V.b (.a (.sl 32 0 (((matT (joined (regSet l)) k) ++ [(dOv (cN k) (cN ((gI (joined (regSet l)) k).toNat)))]).length))))))) (by kernel_rfl) ?_
        refine wpl_nil ?_
        refine wp_region_t ?_
        refine wpc (step_plain rfl (acts_bin (d := 33) (ltN rfl) (OpV.tmp 15 (.int .i64 ((k : Nat) : Int))) (OpV.const (.int .i64 1)) (r_add (c := (((k : Nat) : Int) + 1)) (w64 (by first | omega | assumption | exact regSet_lt (by assumption) | (have := hjr k (by omega); omega) | (have := matT_len (joined (regSet l)) k; omega)) (by first | omega | assumption | exact regSet_lt (by assumption) | (have := hjr k (by omega); omega) | (have := matT_len (joined (regSet l)) k; omega)))))) (by kernel_rfl) ?_
        refine wpc (step_plain rfl (acts_move (d := 15) (ltN rfl) (OpX.tmp 33 (V.v (.int .i64 (((k : Nat) : Int) + 1)))))) (by kernel_rfl) ?_
        refine wpl_nil ?_
        exact loop_back ((k + 1)) (by show _ ≤ _; omega) (by show 64 - (k + 1) < 64 - k; omega) (weak_of (subst1 [(11, 32)]) [1, 6, 9, 13, 14, 23, 25, 26, 31, 32, 35] (by kernel_rfl) (wk_s (v' := V.b (.a (.sl 32 0 (((matT (joined (regSet l)) k) ++ [(dOv (cN k) (cN ((gI (joined (regSet l)) k).toNat)))]).length)))) (by kernel_rfl) (vsl (by first | rfl | (simp; done) | (simp; omega) | omega | (exact congrArg List.length (by first | rfl | exact matT_yes (by omega) | exact matT_no (by omega) | omega))) rfl) rfl (wk_s (v' := V.av (isl (joined (regSet l)))) (by kernel_rfl) ren_av avd_av (wk_s (v' := V.v (.int .i64 (((k : Nat) : Int) + 1))) (by kernel_rfl) (vint (by first | rfl | exact matT_yes (by omega) | exact matT_no (by omega) | omega)) rfl (wk_o (o' := ⟨52, 3, true, pl (dsl ((matT (joined (regSet l)) k) ++ [(dOv (cN k) (cN ((gI (joined (regSet l)) k).toNat)))]))⟩) (by kernel_rfl) (renob_eq (fun h => h) (congrArg dsl (by first | rfl | exact matT_yes (by omega) | exact matT_no (by omega) | omega))) rfl (wk_f rfl (wk_f rfl (wk_f rfl (wk_f rfl (wk_f rfl (wk_f rfl (wk_f rfl (wk_f rfl (wk_f rfl (wk_f rfl (wk_f rfl (wk_nil)))))))))))))))))
      · skip
        have c6P := of_decide_eq_false c6
        refine wp_skip' ?_
        refine wp_region_t ?_
        refine wpc (step_plain rfl (acts_bin (d := 33) (ltN rfl) (OpV.tmp 15 (.int .i64 ((k : Nat) : Int))) (OpV.const (.int .i64 1)) (r_add (c := (((k : Nat) : Int) + 1)) (w64 (by first | omega | assumption | exact regSet_lt (by assumption) | (have := hjr k (by omega); omega) | (have := matT_len (joined (regSet l)) k; omega)) (by first | omega | assumption | exact regSet_lt (by assumption) | (have := hjr k (by omega); omega) | (have := matT_len (joined (regSet l)) k; omega)))))) (by kernel_rfl) ?_
        refine wpc (step_plain rfl (acts_move (d := 15) (ltN rfl) (OpX.tmp 33 (V.v (.int .i64 (((k : Nat) : Int) + 1)))))) (by kernel_rfl) ?_
        refine wpl_nil ?_
        exact loop_back ((k + 1)) (by show _ ≤ _; omega) (by show 64 - (k + 1) < 64 - k; omega) (weak_of id [1, 6, 9, 13, 14, 23, 25, 26, 31, 32, 35] (by kernel_rfl) (wk_s (v' := V.b (.a (.sl 11 0 ((matT (joined (regSet l)) k).length)))) (by kernel_rfl) (vsl (by first | rfl | (simp; done) | (simp; omega) | omega | (exact congrArg List.length (by first | rfl | exact matT_yes (by omega) | exact matT_no (by omega) | omega))) rfl) rfl (wk_s (v' := V.av (isl (joined (regSet l)))) (by kernel_rfl) ren_av avd_av (wk_s (v' := V.v (.int .i64 (((k : Nat) : Int) + 1))) (by kernel_rfl) (vint (by first | rfl | exact matT_yes (by omega) | exact matT_no (by omega) | omega)) rfl (wk_o (o' := ⟨52, 3, true, pl (dsl (matT (joined (regSet l)) k))⟩) (by kernel_rfl) (renob_eq (fun h => h) (congrArg dsl (by first | rfl | exact matT_yes (by omega) | exact matT_no (by omega) | omega))) rfl (wk_f rfl (wk_f rfl (wk_f rfl (wk_f rfl (wk_f rfl (wk_f rfl (wk_f rfl (wk_f rfl (wk_f rfl (wk_f rfl (wk_f rfl (wk_nil)))))))))))))))))
    · skip
      have c5P := of_decide_eq_false c5
      refine wp_exit' ?_
      refine wp_seq' ?_
      refine wp_region_t ?_
      refine wpc (step_plain rfl (acts_move (d := 34) (ltN rfl) (OpX.tmp 3 (V.b (.a (.sl 11 0 ((matT (joined (regSet l)) k).length))))))) (by kernel_rfl) ?_
      refine wpc (step_plain rfl (acts_call1 (d := 35) (ltN rfl) (impl_SortDominoes_fn (matT (joined (regSet l)) k) (by first | omega | assumption | exact regSet_lt (by assumption) | (have := hjr k (by omega); omega) | (have := matT_len (joined (regSet l)) k; omega))) (ArgVs.cons (argv_own (t := 34) (h := 11) (n := ((matT (joined (regSet l)) k).length)) (T := 52) (s := 3) (ex := true) (xs := dsl (matT (joined (regSet l)) k)) (by first | exact dsl_len _ | (simp [isl_len, bsl_len, dsl_len, csl_len]; done) | (simp [isl_len, bsl_len, dsl_len, csl_len]; omega))) (ArgVs.nil)) (ResV.row 52 3 ((sortD (matT (joined (regSet l)) k)).length) (dsl (sortD (matT (joined (regSet l)) k))) 35))) (by kernel_rfl) ?_
      refine wpc (step_plain rfl (acts_assign (d := 2) (ltN rfl) (OpX.tmp 35 (V.b (.a (.sl 35 0 ((sortD (matT (joined (regSet l)) k)).length))))))) (by kernel_rfl) ?_
      refine wpl_nil ?_
      refine wp_ret' ?_
      exact VRes.tmp 2 (.a (.sl 35 0 ((sortD (matT (joined (regSet l)) k)).length))) _ (by kernel_rfl) (brow_doms (h := 35) (L := (sortD (matT (joined (regSet l)) k))) (by kernel_rfl) (by (have e : k = 64 := by omega); subst e; unfold matR; rw [if_pos (by assumption)]) (by first | rfl | (simp; done) | (simp; omega)))

set_option maxHeartbeats 4000000 in
set_option maxRecDepth 100000 in
theorem spec_MatchRegion_fn (l : List Int) (hl : l.length ≤ 4194304) : Fn Try.prog 21 [.agg [(.slv l.length 1 (isl l) : A)]] [.row 52 3 (matR l).length (dsl (matR l))] := by
  have hjo := joined_ok (regSet l)
  obtain ⟨hjl, hjr⟩ := hjo
  refine fn_intro (N := 55) Try.func21 rfl (by kernel_rfl) rfl (Nat.le_of_ble_eq_true rfl) [1, 6, 8, 10, 12, 14, 18, 21, 32, 40, 46, 51, 52, 54] (ret1 rfl) (fun W => ?_)
  show Wp _ _ _ [(.s 0, some (.s (V.b (.agg [(.slv l.length 1 (isl l) : A)])))), (.o 1, some .free), (.o 6, some .free), (.o 8, some .free), (.o 10, some .free), (.o 12, some .free), (.o 14, some .free), (.o 18, some .free), (.o 21, some .free), (.o 32, some .free), (.o 40, some .free), (.o 46, some .free), (.o 51, some .free), (.o 52, some .free), (.o 54, some .free)]
  refine wp_seq' ?_
  refine wp_region_t ?_
  refine wpc (step_plain rfl (acts_box (d := 1) (h := 1) (b := .agg [(.slv l.length 1 (isl l) : A)]) (ltN rfl) (OpX.tmp 0 (V.b (.agg [(.slv l.length 1 (isl l) : A)]))) (by intro y hy; simp [B.cs] at hy; subst hy; rfl))) (by kernel_rfl) ?_
  refine wpc (step_plain rfl (acts_assign (d := 2) (ltN rfl) (OpX.const (.slice none 0 0)))) (by kernel_rfl) ?_
  refine wpl_nil ?_
  refine wp_seq' ?_
  refine wp_region_t ?_
  refine wpc (step_plain rfl (acts_buildSlice0' (d := 12) (h := 12) (s := 3) (ltN rfl) qC8_un_31 qC8_zi_52)) (by kernel_rfl) ?_
  refine wpc (step_plain rfl (acts_assign (d := 3) (ltN rfl) (OpX.tmp 12 (V.b (.a (.sl 12 0 0)))))) (by kernel_rfl) ?_
  refine wpl_nil ?_
  refine wp_seq' ?_
  refine wp_seq' ?_
  refine wp_region_t ?_
  refine wpc (step_plain rfl (acts_load_owns (d := 13) (t := 1) (h := 1) (off := 0) (o := ⟨29, 1, true, [(.slv l.length 1 (isl l) : A)]⟩)  (xs := [(.slv l.length 1 (isl l) : A)]) (ltN rfl) qC8_ti_29 rfl (by decide) rfl)) (by kernel_rfl) ?_
  refine wpc (step_plain rfl (acts_call1 (d := 14) (ltN rfl) (spec_RegionOk_fn l (by first | omega | assumption | exact regSet_lt (by assumption) | (have := hjr k (by omega); omega) | (have := matT_len (joined (regSet l)) k; omega))) (ArgVs.cons (ArgV.regv 13 l.length 1 (isl l)) (ArgVs.nil)) (ResV.val _))) (by kernel_rfl) ?_
  refine wpc (step_plain rfl (acts_un (d := 15) (ltN rfl) (OpV.tmp 14 (.bool (regOk l))) (r_not (c := (!(regOk l))) rfl))) (by kernel_rfl) ?_
  refine wpl_nil ?_
  refine wp_if (t := 15) ((!(regOk l))) (by kernel_rfl) (fun c1 => ?_) (fun c1 => ?_)
  · skip
    have c2 : (regOk l) = false := by simpa using c1
    refine wp_seq' ?_
    refine wp_region_t ?_
    refine wpc (step_plain rfl (acts_move (d := 16) (ltN rfl) (OpX.tmp 3 (V.b (.a (.sl 12 0 0)))))) (by kernel_rfl) ?_
    refine wpc (step_plain rfl (acts_assign (d := 2) (ltN rfl) (OpX.tmp 16 (V.b (.a (.sl 12 0 0)))))) (by kernel_rfl) ?_
    refine wpl_nil ?_
    refine wp_ret' ?_
    exact VRes.tmp 2 (.a (.sl 12 0 0)) _ (by kernel_rfl) (brow_doms (h := 12) (L := []) (by kernel_rfl) (by first | exact (matR_no (by assumption)).symm | exact matR_no (by assumption)) (by first | rfl | (simp; done) | (simp; omega)))
  · skip
    have c3 : (regOk l) = true := by simpa using c1
    refine wp_skip' ?_
    refine wp_seq' ?_
    refine wp_region_t ?_
    refine wpc (step_plain rfl (acts_load_owns (d := 17) (t := 1) (h := 1) (off := 0) (o := ⟨29, 1, true, [(.slv l.length 1 (isl l) : A)]⟩)  (xs := [(.slv l.length 1 (isl l) : A)]) (ltN rfl) qC8_ti_29 rfl (by decide) rfl)) (by kernel_rfl) ?_
    refine wpc (step_plain rfl (acts_call1 (d := 18) (ltN rfl) (spec_l09Joined_fn l (by first | omega | assumption | exact regSet_lt (by assumption) | (have := hjr k (by omega); omega) | (have := matT_len (joined (regSet l)) k; omega))) (ArgVs.cons (ArgV.regv 17 l.length 1 (isl l)) (ArgVs.nil)) (ResV.row 3 1 ((joined (regSet l)).length) (isl (joined (regSet l))) 18))) (by kernel_rfl) ?_
    refine wpc (step_plain rfl (acts_assign (d := 4) (ltN rfl) (OpX.tmp 18 (V.b (.a (.sl 18 0 ((joined (regSet l)).length))))))) (by kernel_rfl) ?_
    refine wpl_nil ?_
    refine wp_seq' ?_
    refine wp_seq' ?_
    refine wp_region_t ?_
    refine wpc (step_plain rfl (acts_assign (d := 5) (ltN rfl) (OpX.const (.int .i64 0)))) (by kernel_rfl) ?_
    refine wpl_nil ?_
    refine wp_block' ?_
    refine wp_loop' (fun (k : Nat) => k ≤ 64) (fun (k : Nat) => [(.s 3, some (.s (V.b (.a (.sl 12 0 ((matT (joined (regSet l)) k).length)))))), (.s 4, some (.s (V.b (.a (.sl 18 0 ((joined (regSet l)).length)))))), (.s 5, some (.s (V.v (.int .i64 ((k : Nat) : Int))))), (.o 12, some (.o ⟨52, 3, true, pl (dsl (matT (joined (regSet l)) k))⟩)), (.o 18, some (.o ⟨3, 1, true, pl (isl (joined (regSet l)))⟩)), (.o 1, some .free), (.o 6, some .free), (.o 8, some .free), (.o 10, some .free), (.o 14, some .free), (.o 21, some .free), (.o 32, some .free), (.o 40, some .free), (.o 46, some .free), (.o 51, some .free), (.o 52, some .free), (.o 54, some .free)]) (fun (k : Nat) => 64 - k) ((0 : Nat)) (by exact (Nat.zero_le _ : 0 ≤ _)) (weak_of id [1, 6, 8, 10, 14, 21, 32, 40, 46, 51, 52, 54] (by kernel_rfl) (wk_s (v' := V.b (.a (.sl 12 0 0))) (by kernel_rfl) (vsl (by first | rfl | (simp; done) | (simp; omega) | omega | (exact congrArg List.length (by first | rfl | exact matT_yes (by omega) | exact matT_no (by omega) | omega))) rfl) rfl (wk_s (v' := V.b (.a (.sl 18 0 ((joined (regSet l)).length)))) (by kernel_rfl) rfl rfl (wk_s (v' := V.v (.int .i64 0)) (by kernel_rfl) (vint (by first | rfl | exact matT_yes (by omega) | exact matT_no (by omega) | omega)) rfl (wk_o (o' := ⟨52, 3, true, pl (dsl [])⟩) (by kernel_rfl) (renob_eq (fun h => h) (congrArg dsl (by first | rfl | exact matT_yes (by omega) | exact matT_no (by omega) | omega))) rfl (wk_o (o' := ⟨3, 1, true, pl (isl (joined (regSet l)))⟩) (by kernel_rfl) (renob_pl (fun h => h)) rfl (wk_f rfl (wk_f rfl (wk_f rfl (wk_f rfl (wk_f rfl (wk_f rfl (wk_f rfl (wk_f rfl (wk_f rfl (wk_f rfl (wk_f rfl (wk_f rfl (wk_nil))))))))))))))))))) ?_
    rintro k inv4
    replace inv4 : k ≤ 64 := inv4
    have inv := inv4
    show Wp _ _ _ [(.s 3, some (.s (V.b (.a (.sl 12 0 ((matT (joined (regSet l)) k).length)))))), (.s 4, some (.s (V.b (.a (.sl 18 0 ((joined (regSet l)).length)))))), (.s 5, some (.s (V.v (.int .i64 ((k : Nat) : Int))))), (.o 12, some (.o ⟨52, 3, true, pl (dsl (matT (joined (regSet l)) k))⟩)), (.o 18, some (.o ⟨3, 1, true, pl (isl (joined (regSet l)))⟩)), (.o 1, some .free), (.o 6, some .free), (.o 8, some .free), (.o 10, some .free), (.o 14, some .free), (.o 21, some .free), (.o 32, some .free), (.o 40, some .free), (.o 46, some .free), (.o 51, some .free), (.o 52, some .free), (.o 54, some .free)]
    have hml := matT_len (joined (regSet l)) k
    refine wp_seq' ?_
    refine wp_seq' ?_
    refine wp_region_t ?_
    refine wpc (step_plain rfl (acts_move (d := 19) (ltN rfl) (OpX.tmp 5 (V.v (.int .i64 ((k : Nat) : Int)))))) (by kernel_rfl) ?_
    refine wpc (step_plain rfl (acts_move (d := 20) (ltN rfl) (OpX.tmp 4 (V.b (.a (.sl 18 0 ((joined (regSet l)).length))))))) (by kernel_rfl) ?_
    refine wpc (step_plain rfl (acts_len (d := 21) (X := .sl 18 0 ((joined (regSet l)).length)) (n := ((joined (regSet l)).length)) (iv := (((joined (regSet l)).length : Nat) : Int)) (ltN rfl) qC8_un_22 (OpX.tmp 20 (V.b (.a (.sl 18 0 ((joined (regSet l)).length))))) (LenOf.sl _ _ _) rfl)) (by kernel_rfl) ?_
    refine wpc (step_plain rfl (acts_bin (d := 22) (ltN rfl) (OpV.tmp 19 (.int .i64 ((k : Nat) : Int))) (OpV.tmp 21 (.int .i64 (((joined (regSet l)).length : Nat) : Int))) (r_lss (c := (decide (((k : Nat) : Int) < (((joined (regSet l)).length : Nat) : Int)))) rfl))) (by kernel_rfl) ?_
    refine wpl_nil ?_
    refine wp_if (t := 22) (decide (((k : Nat) : Int) < (((joined (regSet l)).length : Nat) : Int))) (by kernel_rfl) (fun c5 => ?_) (fun c5 => ?_)
    · skip
      have c5P := of_decide_eq_true c5
      refine wp_skip' ?_
      refine wp_seq' ?_
      refine wp_block' ?_
      refine wp_seq' ?_
      refine wp_region_t ?_
      refine wpc (step_plain rfl (acts_move (d := 25) (ltN rfl) (OpX.tmp 4 (V.b (.a (.sl 18 0 ((joined (regSet l)).length))))))) (by kernel_rfl) ?_
      refine wpc (step_plain rfl (acts_move (d := 26) (ltN rfl) (OpX.tmp 5 (V.v (.int .i64 ((k : Nat) : Int)))))) (by kernel_rfl) ?_
      refine wpc (step_plain rfl (acts_index_sl (d := 27) (x := 25) (h := 18) (off := 0) (n := ((joined (regSet l)).length)) (k := k) (off' := (k * 1)) (o := ⟨3, 1, true, pl (isl (joined (regSet l)))⟩) (ltN rfl) qC8_un_22 qC8_sz_3 (OpV.tmp 26 (.int .i64 ((k : Nat) : Int))) rfl (by first | omega | assumption | exact regSet_lt (by assumption) | (have := hjr k (by omega); omega) | (have := matT_len (joined (regSet l)) k; omega)) (by first | (simp; done) | (simp; omega) | omega))) (by kernel_rfl) ?_
      refine wpc (step_plain rfl (acts_load_own (d := 28) (t := 27) (h := 18) (off := (k * 1)) (o := ⟨3, 1, true, pl (isl (joined (regSet l)))⟩)  (x := .val (.int .i64 (gI (joined (regSet l)) k))) (ltN rfl) qC8_ti_3 (pl_get (isl_get1 (k := k) (by first | omega | assumption | exact regSet_lt (by assumption) | (have := hjr k (by omega); omega) | (have := matT_len (joined (regSet l)) k; omega)))))) (by kernel_rfl) ?_
      refine wpc (step_plain rfl (acts_bin (d := 29) (ltN rfl) (OpV.tmp 28 (.int .i64 (gI (joined (regSet l)) k))) (OpV.const (.int .i64 0)) (r_geq (c := (decide (0 ≤ (gI (joined (regSet l)) k)))) rfl))) (by kernel_rfl) ?_
      refine wpl_nil ?_
      refine wp_if (t := 29) (decide (0 ≤ (gI (joined (regSet l)) k))) (by kernel_rfl) (fun c6 => ?_) (fun c6 => ?_)
      · skip
        have c6P := of_decide_eq_true c6
        refine wp_seq' ?_
        refine wp_region_t ?_
        refine wpc (step_plain rfl (acts_move (d := 31) (ltN rfl) (OpX.tmp 5 (V.v (.int .i64 ((k : Nat) : Int)))))) (by kernel_rfl) ?_
        refine wpc (step_plain rfl (acts_call2 (d := 32) (ltN rfl) (spec_CellAt_fn k (by first | omega | assumption | exact regSet_lt (by assumption) | (have := hjr k (by omega); omega) | (have := matT_len (joined (regSet l)) k; omega))) (ArgVs.cons (ArgV.v (OpV.tmp 31 (.int .i64 ((k : Nat) : Int)))) (ArgVs.nil)) (ResV.agg [(.int .i64 ((cN k).x) : Value), .int .i64 ((cN k).y)]) (ResV.val _))) (by kernel_rfl) ?_
        refine wpc (step_plain rfl (acts_move (d := 30) (ltN rfl) (OpX.tmp 32 (V.tup [.agg ([(.int .i64 ((cN k).x) : Value), .int .i64 ((cN k).y)].map A.val), .a (.val (.bool true))])))) (by kernel_rfl) ?_
        refine wpc (step_plain rfl (acts_extract (d := 33) (t := 30) (ix := 0) (xs := [.agg ([(.int .i64 ((cN k).x) : Value), .int .i64 ((cN k).y)].map A.val), .a (.val (.bool true))]) (X := .agg ([(.int .i64 ((cN k).x) : Value), .int .i64 ((cN k).y)].map A.val)) (ltN rfl) rfl)) (by kernel_rfl) ?_
        refine wpc (step_plain rfl (acts_extract (d := 34) (t := 30) (ix := 1) (xs := [.agg ([(.int .i64 ((cN k).x) : Value), .int .i64 ((cN k).y)].map A.val), .a (.val (.bool true))]) (X := .a (.val (.bool true))) (ltN rfl) rfl)) (by kernel_rfl) ?_
        refine wpc (step_plain rfl (acts_alloc' (d := 6) (h := 6) (cap := 1) (s := 2) (cells := [(.val (.int .i64 0) : A), .val (.int .i64 0)]) (ltN rfl) qC8_zi_49 rfl rfl (by decide))) (by kernel_rfl) ?_
        refine wpc (step_plain rfl (acts_store (t := 6) (h := 6) (off := 0) (o := ⟨49, 2, true, [(.val (.int .i64 0) : A), .val (.int .i64 0)]⟩) (b := .agg ([(.int .i64 ((cN k).x) : Value), .int .i64 ((cN k).y)].map A.val)) (cells := [(.val (.int .i64 ((cN k).x)) : A), .val (.int .i64 ((cN k).y))]) qC8_ti_49 (OpX.tmp 33 (V.av [(.int .i64 ((cN k).x) : Value), .int .i64 ((cN k).y)])) rfl (by decide) (by intro y hy; simp [B.cs] at hy; rcases hy with rfl | rfl <;> rfl) (Nat.le_of_ble_eq_true rfl) rfl)) (by kernel_rfl) ?_
        refine wpc (step_plain rfl (acts_assign (d := 7) (ltN rfl) (OpX.tmp 34 (V.v (.bool true))))) (by kernel_rfl) ?_
        refine wpl_nil ?_
        refine wp_seq' ?_
        refine wp_region_t ?_
        refine wpc (step_plain rfl (acts_move (d := 36) (ltN rfl) (OpX.tmp 4 (V.b (.a (.sl 18 0 ((joined (regSet l)).length))))))) (by kernel_rfl) ?_
        refine wpc (step_plain rfl (acts_move (d := 37) (ltN rfl) (OpX.tmp 5 (V.v (.int .i64 ((k : Nat) : Int)))))) (by kernel_rfl) ?_
        refine wpc (step_plain rfl (acts_index_sl (d := 38) (x := 36) (h := 18) (off := 0) (n := ((joined (regSet l)).length)) (k := k) (off' := (k * 1)) (o := ⟨3, 1, true, pl (isl (joined (regSet l)))⟩) (ltN rfl) qC8_un_22 qC8_sz_3 (OpV.tmp 37 (.int .i64 ((k : Nat) : Int))) rfl (by first | omega | assumption | exact regSet_lt (by assumption) | (have := hjr k (by omega); omega) | (have := matT_len (joined (regSet l)) k; omega)) (by first | (simp; done) | (simp; omega) | omega))) (by kernel_rfl) ?_
        refine wpc (step_plain rfl (acts_load_own (d := 39) (t := 38) (h := 18) (off := (k * 1)) (o := ⟨3, 1, true, pl (isl (joined (regSet l)))⟩)  (x := .val (.int .i64 (gI (joined (regSet l)) k))) (ltN rfl) qC8_ti_3 (pl_get (isl_get1 (k := k) (by first | omega | assumption | exact regSet_lt (by assumption) | (have := hjr k (by omega); omega) | (have := matT_len (joined (regSet l)) k; omega)))))) (by kernel_rfl) ?_
        refine wpc (step_plain rfl (acts_call2 (d := 40) (ltN rfl) (spec_CellAt_fn ((gI (joined (regSet l)) k).toNat) (by first | omega | assumption | exact regSet_lt (by assumption) | (have := hjr k (by omega); omega) | (have := matT_len (joined (regSet l)) k; omega))) (ArgVs.cons ((argv_int (b := (((gI (joined (regSet l)) k).toNat : Nat) : Int)) (by omega) (ArgV.v (OpV.tmp 39 (.int .i64 (gI (joined (regSet l)) k)))))) (ArgVs.nil)) (ResV.agg [(.int .i64 ((cN ((gI (joined (regSet l)) k).toNat)).x) : Value), .int .i64 ((cN ((gI (joined (regSet l)) k).toNat)).y)]) (ResV.val _))) (by kernel_rfl) ?_
        refine wpc (step_plain rfl (acts_move (d := 35) (ltN rfl) (OpX.tmp 40 (V.tup [.agg ([(.int .i64 ((cN ((gI (joined (regSet l)) k).toNat)).x) : Value), .int .i64 ((cN ((gI (joined (regSet l)) k).toNat)).y)].map A.val), .a (.val (.bool true))])))) (by kernel_rfl) ?_
        refine wpc (step_plain rfl (acts_extract (d := 41) (t := 35) (ix := 0) (xs := [.agg ([(.int .i64 ((cN ((gI (joined (regSet l)) k).toNat)).x) : Value), .int .i64 ((cN ((gI (joined (regSet l)) k).toNat)).y)].map A.val), .a (.val (.bool true))]) (X := .agg ([(.int .i64 ((cN ((gI (joined (regSet l)) k).toNat)).x) : Value), .int .i64 ((cN ((gI (joined (regSet l)) k).toNat)).y)].map A.val)) (ltN rfl) rfl)) (by kernel_rfl) ?_
        refine wpc (step_plain rfl (acts_extract (d := 42) (t := 35) (ix := 1) (xs := [.agg ([(.int .i64 ((cN ((gI (joined (regSet l)) k).toNat)).x) : Value), .int .i64 ((cN ((gI (joined (regSet l)) k).toNat)).y)].map A.val), .a (.val (.bool true))]) (X := .a (.val (.bool true))) (ltN rfl) rfl)) (by kernel_rfl) ?_
        refine wpc (step_plain rfl (acts_alloc' (d := 8) (h := 8) (cap := 1) (s := 2) (cells := [(.val (.int .i64 0) : A), .val (.int .i64 0)]) (ltN rfl) qC8_zi_49 rfl rfl (by decide))) (by kernel_rfl) ?_
        refine wpc (step_plain rfl (acts_store (t := 8) (h := 8) (off := 0) (o := ⟨49, 2, true, [(.val (.int .i64 0) : A), .val (.int .i64 0)]⟩) (b := .agg ([(.int .i64 ((cN ((gI (joined (regSet l)) k).toNat)).x) : Value), .int .i64 ((cN ((gI (joined (regSet l)) k).toNat)).y)].map A.val)) (cells := [(.val (.int .i64 ((cN ((gI (joined (regSet l)) k).toNat)).x)) : A), .val (.int .i64 ((cN ((gI (joined (regSet l)) k).toNat)).y))]) qC8_ti_49 (OpX.tmp 41 (V.av [(.int .i64 ((cN ((gI (joined (regSet l)) k).toNat)).x) : Value), .int .i64 ((cN ((gI (joined (regSet l)) k).toNat)).y)])) rfl (by decide) (by intro y hy; simp [B.cs] at hy; rcases hy with rfl | rfl <;> rfl) (Nat.le_of_ble_eq_true rfl) rfl)) (by kernel_rfl) ?_
        refine wpc (step_plain rfl (acts_assign (d := 9) (ltN rfl) (OpX.tmp 42 (V.v (.bool true))))) (by kernel_rfl) ?_
        refine wpl_nil ?_
        refine wp_seq' ?_
        refine wp_region_t ?_
        refine wpc (step_plain rfl (acts_load_owns (d := 44) (t := 6) (h := 6) (off := 0) (o := ⟨49, 2, true, [(.val (.int .i64 ((cN k).x)) : A), .val (.int .i64 ((cN k).y))]⟩)  (xs := [(.int .i64 ((cN k).x) : Value), .int .i64 ((cN k).y)].map A.val) (ltN rfl) qC8_ti_49 rfl (by decide) rfl)) (by kernel_rfl) ?_
        refine wpc (step_plain rfl (acts_load_owns (d := 45) (t := 8) (h := 8) (off := 0) (o := ⟨49, 2, true, [(.val (.int .i64 ((cN ((gI (joined (regSet l)) k).toNat)).x)) : A), .val (.int .i64 ((cN ((gI (joined (regSet l)) k).toNat)).y))]⟩)  (xs := [(.int .i64 ((cN ((gI (joined (regSet l)) k).toNat)).x) : Value), .int .i64 ((cN ((gI (joined (regSet l)) k).toNat)).y)].map A.val) (ltN rfl) qC8_ti_49 rfl (by decide) rfl)) (by kernel_rfl) ?_
        refine wpc (step_plain rfl (acts_call2 (d := 46) (ltN rfl) (spec_DominoOver_fn (cN k) (cN ((gI (joined (regSet l)) k).toNat)) ) (ArgVs.cons (ArgV.va (vs := [(.int .i64 ((cN k).x) : Value), .int .i64 ((cN k).y)]) (OpV.agg 44 [(.int .i64 ((cN k).x) : Value), .int .i64 ((cN k).y)])) (ArgVs.cons (ArgV.va (vs := [(.int .i64 ((cN ((gI (joined (regSet l)) k).toNat)).x) : Value), .int .i64 ((cN ((gI (joined (regSet l)) k).toNat)).y)]) (OpV.agg 45 [(.int .i64 ((cN ((gI (joined (regSet l)) k).toNat)).x) : Value), .int .i64 ((cN ((gI (joined (regSet l)) k).toNat)).y)])) (ArgVs.nil))) (ResV.agg [(.int .i64 ((dOv (cN k) (cN ((gI (joined (regSet l)) k).toNat))).x) : Value), .int .i64 ((dOv (cN k) (cN ((gI (joined (regSet l)) k).toNat))).y), .bool ((dOv (cN k) (cN ((gI (joined (regSet l)) k).toNat))).d)]) (ResV.val _))) (by kernel_rfl) ?_
        refine wpc (step_plain rfl (acts_move (d := 43) (ltN rfl) (OpX.tmp 46 (V.tup [.agg ([(.int .i64 ((dOv (cN k) (cN ((gI (joined (regSet l)) k).toNat))).x) : Value), .int .i64 ((dOv (cN k) (cN ((gI (joined (regSet l)) k).toNat))).y), .bool ((dOv (cN k) (cN ((gI (joined (regSet l)) k).toNat))).d)].map A.val), .a (.val (.bool (nbr (cN k) (cN ((gI (joined (regSet l)) k).toNat)))))])))) (by kernel_rfl) ?_
        refine wpc (step_plain rfl (acts_extract (d := 47) (t := 43) (ix := 0) (xs := [.agg ([(.int .i64 ((dOv (cN k) (cN ((gI (joined (regSet l)) k).toNat))).x) : Value), .int .i64 ((dOv (cN k) (cN ((gI (joined (regSet l)) k).toNat))).y), .bool ((dOv (cN k) (cN ((gI (joined (regSet l)) k).toNat))).d)].map A.val), .a (.val (.bool (nbr (cN k) (cN ((gI (joined (regSet l)) k).toNat)))))]) (X := .agg ([(.int .i64 ((dOv (cN k) (cN ((gI (joined (regSet l)) k).toNat))).x) : Value), .int .i64 ((dOv (cN k) (cN ((gI (joined (regSet l)) k).toNat))).y), .bool ((dOv (cN k) (cN ((gI (joined (regSet l)) k).toNat))).d)].map A.val)) (ltN rfl) rfl)) (by kernel_rfl) ?_
        refine wpc (step_plain rfl (acts_extract (d := 48) (t := 43) (ix := 1) (xs := [.agg ([(.int .i64 ((dOv (cN k) (cN ((gI (joined (regSet l)) k).toNat))).x) : Value), .int .i64 ((dOv (cN k) (cN ((gI (joined (regSet l)) k).toNat))).y), .bool ((dOv (cN k) (cN ((gI (joined (regSet l)) k).toNat))).d)].map A.val), .a (.val (.bool (nbr (cN k) (cN ((gI (joined (regSet l)) k).toNat)))))]) (X := .a (.val (.bool (nbr (cN k) (cN ((gI (joined (regSet l)) k).toNat)))))) (ltN rfl) rfl)) (by kernel_rfl) ?_
        refine wpc (step_plain rfl (acts_alloc' (d := 10) (h := 10) (cap := 1) (s := 3) (cells := [(.val (.int .i64 0) : A), .val (.int .i64 0), .val (.bool false)]) (ltN rfl) qC8_zi_52 rfl rfl (by decide))) (by kernel_rfl) ?_
        refine wpc (step_plain rfl (acts_store (t := 10) (h := 10) (off := 0) (o := ⟨52, 3, true, [(.val (.int .i64 0) : A), .val (.int .i64 0), .val (.bool false)]⟩) (b := .agg ([(.int .i64 ((dOv (cN k) (cN ((gI (joined (regSet l)) k).toNat))).x) : Value), .int .i64 ((dOv (cN k) (cN ((gI (joined (regSet l)) k).toNat))).y), .bool ((dOv (cN k) (cN ((gI (joined (regSet l)) k).toNat))).d)].map A.val)) (cells := [(.val (.int .i64 ((dOv (cN k) (cN ((gI (joined (regSet l)) k).toNat))).x)) : A), .val (.int .i64 ((dOv (cN k) (cN ((gI (joined (regSet l)) k).toNat))).y)), .val (.bool ((dOv (cN k) (cN ((gI (joined (regSet l)) k).toNat))).d))]) qC8_ti_52 (OpX.tmp 47 (V.av [(.int .i64 ((dOv (cN k) (cN ((gI (joined (regSet l)) k).toNat))).x) : Value), .int .i64 ((dOv (cN k) (cN ((gI (joined (regSet l)) k).toNat))).y), .bool ((dOv (cN k) (cN ((gI (joined (regSet l)) k).toNat))).d)])) rfl (by decide) (by intro y hy; simp [B.cs] at hy; rcases hy with rfl | rfl | rfl <;> rfl) (Nat.le_of_ble_eq_true rfl) rfl)) (by kernel_rfl) ?_
        refine wpc (step_plain rfl (acts_assign (d := 11) (ltN rfl) (OpX.tmp 48 (V.v (.bool (nbr (cN k) (cN ((gI (joined (regSet l)) k).toNat)))))))) (by kernel_rfl) ?_
        refine wpl_nil ?_
        refine wp_region_t ?_
        refine wpc (step_plain rfl (acts_move (d := 49) (ltN rfl) (OpX.tmp 3 (V.b (.a (.sl 12 0 ((matT (joined (regSet l)) k).length))))))) (by kernel_rfl) ?_
        refine wpc (step_plain rfl (acts_load_owns (d := 50) (t := 10) (h := 10) (off := 0) (o := ⟨52, 3, true, [(.val (.int .i64 ((dOv (cN k) (cN ((gI (joined (regSet l)) k).toNat))).x)) : A), .val (.int .i64 ((dOv (cN k) (cN ((gI (joined (regSet l)) k).toNat))).y)), .val (.bool ((dOv (cN k) (cN ((gI (joined (regSet l)) k).toNat))).d))]⟩)  (xs := [(.int .i64 ((dOv (cN k) (cN ((gI (joined (regSet l)) k).toNat))).x) : Value), .int .i64 ((dOv (cN k) (cN ((gI (joined (regSet l)) k).toNat))).y), .bool ((dOv (cN k) (cN ((gI (joined (regSet l)) k).toNat))).d)].map A.val) (ltN rfl) qC8_ti_52 rfl (by decide) rfl)) (by kernel_rfl) ?_
        refine wpc (step_plain rfl (acts_buildSlice' (d := 51) (h := 51) (n := 1) (s := 3) (xs := dsl ([(dOv (cN k) (cN ((gI (joined (regSet l)) k).toNat)))] : List Dom)) (ltN rfl) qC8_un_31 qC8_zi_52 (OpVs.cons (i := 0) (OpV.agg 50 [(.int .i64 ((dOv (cN k) (cN ((gI (joined (regSet l)) k).toNat))).x) : Value), .int .i64 ((dOv (cN k) (cN ((gI (joined (regSet l)) k).toNat))).y), .bool ((dOv (cN k) (cN ((gI (joined (regSet l)) k).toNat))).d)]) (OpVs.nil)) (by decide) (by decide) (by kernel_rfl) rfl)) (by kernel_rfl) ?_
        refine wpc (step_plain rfl (acts_app (d := 52) (x := 49) (h := 12) (h2 := 52) (n := ((matT (joined (regSet l)) k).length)) (m := 1) (nm := (((matT (joined (regSet l)) k) ++ [(dOv (cN k) (cN ((gI (joined (regSet l)) k).toNat)))]).length)) (X := .sl 51 0 1) (xs := dsl (matT (joined (regSet l)) k)) (ys := dsl [(dOv (cN k) (cN ((gI (joined (regSet l)) k).toNat)))]) (zs := dsl ((matT (joined (regSet l)) k) ++ [(dOv (cN k) (cN ((gI (joined (regSet l)) k).toNat)))])) (ltN rfl) qC8_un_31 qC8_zi_52 rfl (by decide) (by decide) (by first | exact dsl_len _ | (simp [isl_len, bsl_len, dsl_len, csl_len]; done) | (simp [isl_len, bsl_len, dsl_len, csl_len]; omega)) (OpX.tmp 51 (V.b (.a (.sl 51 0 1)))) (src_own (h := 51) (T := 52) (s := 3) (ex := true) (n := 1) (by first | exact dsl_len _ | (simp [isl_len, bsl_len, dsl_len, csl_len]; done) | (simp [isl_len, bsl_len, dsl_len, csl_len]; omega))) (dsl_one' _) (by first | omega | (simp; omega) | (simp at *; omega)) (by first | exact (dsl_append _ _).symm | rfl | simp [dsl_append]) (by first | rfl | (simp; done) | (simp; omega) | omega))) (by kernel_rfl) ?_
        refine wpc (step_plain rfl (acts_assign (d := 3) (ltN rfl) (OpX.tmp 52 (V.b (.a (.sl 52 0 (((matT (joined (regSet l)) k) ++ [(dOv (cN k) (cN ((gI (joined (regSet l)) k).toNat)))]).length))))))) (by kernel_rfl) ?_
        refine wpl_nil ?_
        refine wp_region_t ?_
        refine wpc (step_plain rfl (acts_move (d := 23) (ltN rfl) (OpX.tmp 5 (V.v (.int .i64 ((k : Nat) : Int)))))) (by kernel_rfl) ?_
        refine wpc (step_plain rfl (acts_bin (d := 24) (ltN rfl) (OpV.tmp 23 (.int .i64 ((k : Nat) : Int))) (OpV.const (.int .i64 1)) (r_add (c := (((k : Nat) : Int) + 1)) (w64 (by first | omega | assumption | exact regSet_lt (by assumption) | (have := hjr k (by omega); omega) | (have := matT_len (joined (regSet l)) k; omega)) (by first | omega | assumption | exact regSet_lt (by assumption) | (have := hjr k (by omega); omega) | (have := matT_len (joined (regSet l)) k; omega)))))) (by kernel_rfl) ?_
        refine wpc (step_plain rfl (acts_assign (d := 5) (ltN rfl) (OpX.tmp 24 (V.v (.int .i64 (((k : Nat) : Int) + 1)))))) (by kernel_rfl) ?_
        refine wpl_nil ?_
        exact loop_back ((k + 1)) (by show _ ≤ _; omega) (by show 64 - (k + 1) < 64 - k; omega) (weak_of (subst1 [(12, 52)]) [1, 6, 8, 10, 14, 21, 32, 40, 46, 51, 52, 54] (by kernel_rfl) (wk_s (v' := V.b (.a (.sl 52 0 (((matT (joined (regSet l)) k) ++ [(dOv (cN k) (cN ((gI (joined (regSet l)) k).toNat)))]).length)))) (by kernel_rfl) (vsl (by first | rfl | (simp; done) | (simp; omega) | omega | (exact congrArg List.length (by first | rfl | exact matT_yes (by omega) | exact matT_no (by omega) | omega))) rfl) rfl (wk_s (v' := V.b (.a (.sl 18 0 ((joined (regSet l)).length)))) (by kernel_rfl) rfl rfl (wk_s (v' := V.v (.int .i64 (((k : Nat) : Int) + 1))) (by kernel_rfl) (vint (by first | rfl | exact matT_yes (by omega) | exact matT_no (by omega) | omega)) rfl (wk_o (o' := ⟨52, 3, true, pl (dsl ((matT (joined (regSet l)) k) ++ [(dOv (cN k) (cN ((gI (joined (regSet l)) k).toNat)))]))⟩) (by kernel_rfl) (renob_eq (fun h => h) (congrArg dsl (by first | rfl | exact matT_yes (by omega) | exact matT_no (by omega) | omega))) rfl (wk_o (o' := ⟨3, 1, true, pl (isl (joined (regSet l)))⟩) (by kernel_rfl) (renob_pl (fun h => h)) rfl (wk_f rfl (wk_f rfl (wk_f rfl (wk_f rfl (wk_f rfl (wk_f rfl (wk_f rfl (wk_f rfl (wk_f rfl (wk_f rfl (wk_f rfl (wk_f rfl (wk_nil)))))))))))))))))))
      · skip
        have c6P := of_decide_eq_false c6
        refine wp_skip' ?_
        refine wp_region_t ?_
        refine wpc (step_plain rfl (acts_move (d := 23) (ltN rfl) (OpX.tmp 5 (V.v (.int .i64 ((k : Nat) : Int)))))) (by kernel_rfl) ?_
        refine wpc (step_plain rfl (acts_bin (d := 24) (ltN rfl) (OpV.tmp 23 (.int .i64 ((k : Nat) : Int))) (OpV.const (.int .i64 1)) (r_add (c := (((k : Nat) : Int) + 1)) (w64 (by first | omega | assumption | exact regSet_lt (by assumption) | (have := hjr k (by omega); omega) | (have := matT_len (joined (regSet l)) k; omega)) (by first | omega | assumption | exact regSet_lt (by assumption) | (have := hjr k (by omega); omega) | (have := matT_len (joined (regSet l)) k; omega)))))) (by kernel_rfl) ?_
        refine wpc (step_plain rfl (acts_assign (d := 5) (ltN rfl) (OpX.tmp 24 (V.v (.int .i64 (((k : Nat) : Int) + 1)))))) (by kernel_rfl) ?_
        refine wpl_nil ?_
        exact loop_back ((k + 1)) (by show _ ≤ _; omega) (by show 64 - (k + 1) < 64 - k; omega) (weak_of id [1, 6, 8, 10, 14, 21, 32, 40, 46, 51, 52, 54] (by kernel_rfl) (wk_s (v' := V.b (.a (.sl 12 0 ((matT (joined (regSet l)) k).length)))) (by kernel_rfl) (vsl (by first | rfl | (simp; done) | (simp; omega) | omega | (exact congrArg List.length (by first | rfl | exact matT_yes (by omega) | exact matT_no (by omega) | omega))) rfl) rfl (wk_s (v' := V.b (.a (.sl 18 0 ((joined (regSet l)).length)))) (by kernel_rfl) rfl rfl (wk_s (v' := V.v (.int .i64 (((k : Nat) : Int) + 1))) (by kernel_rfl) (vint (by first | rfl | exact matT_yes (by omega) | exact matT_no (by omega) | omega)) rfl (wk_o (o' := ⟨52, 3, true, pl (dsl (matT (joined (regSet l)) k))⟩) (by kernel_rfl) (renob_eq (fun h => h) (congrArg dsl (by first | rfl | exact matT_yes (by omega) | exact matT_no (by omega) | omega))) rfl (wk_o (o' := ⟨3, 1, true, pl (isl (joined (regSet l)))⟩) (by kernel_rfl) (renob_pl (fun h => h)) rfl (wk_f rfl (wk_f rfl (wk_f rfl (wk_f rfl (wk_f rfl (wk_f rfl (wk_f rfl (wk_f rfl (wk_f rfl (wk_f rfl (wk_f rfl (wk_f rfl (wk_nil)))))))))))))))))))
    · skip
      have c5P := of_decide_eq_false c5
      refine wp_exit' ?_
      refine wp_seq' ?_
      refine wp_region_t ?_
      refine wpc (step_plain rfl (acts_move (d := 53) (ltN rfl) (OpX.tmp 3 (V.b (.a (.sl 12 0 ((matT (joined (regSet l)) k).length))))))) (by kernel_rfl) ?_
      refine wpc (step_plain rfl (acts_call1 (d := 54) (ltN rfl) (spec_SortDominoes_fn (matT (joined (regSet l)) k) (by first | omega | assumption | exact regSet_lt (by assumption) | (have := hjr k (by omega); omega) | (have := matT_len (joined (regSet l)) k; omega))) (ArgVs.cons (argv_own (t := 53) (h := 12) (n := ((matT (joined (regSet l)) k).length)) (T := 52) (s := 3) (ex := true) (xs := dsl (matT (joined (regSet l)) k)) (by first | exact dsl_len _ | (simp [isl_len, bsl_len, dsl_len, csl_len]; done) | (simp [isl_len, bsl_len, dsl_len, csl_len]; omega))) (ArgVs.nil)) (ResV.row 52 3 ((sortD (matT (joined (regSet l)) k)).length) (dsl (sortD (matT (joined (regSet l)) k))) 54))) (by kernel_rfl) ?_
      refine wpc (step_plain rfl (acts_assign (d := 2) (ltN rfl) (OpX.tmp 54 (V.b (.a (.sl 54 0 ((sortD (matT (joined (regSet l)) k)).length))))))) (by kernel_rfl) ?_
      refine wpl_nil ?_
      refine wp_ret' ?_
      exact VRes.tmp 2 (.a (.sl 54 0 ((sortD (matT (joined (regSet l)) k)).length))) _ (by kernel_rfl) (brow_doms (h := 54) (L := (sortD (matT (joined (regSet l)) k))) (by kernel_rfl) (by (have e : k = 64 := by omega); subst e; unfold matR; rw [if_pos (by assumption)]) (by first | rfl | (simp; done) | (simp; omega)))

set_option maxHeartbeats 4000000 in
set_option maxRecDepth 100000 in
theorem impl_MostDominoes_fn (l : List Int) (hl : l.length ≤ 4194304) : Fn Try.prog 18 [.agg [(.slv l.length 1 (isl l) : A)]] [.val (.int .i64 (((matR l).length : Nat) : Int))] := by
  refine fn_intro (N := 6) Try.func18 rfl (by kernel_rfl) rfl (Nat.le_of_ble_eq_true rfl) [1, 4, 5] (ret1 rfl) (fun W => ?_)
  show Wp _ _ _ [(.s 0, some (.s (V.b (.agg [(.slv l.length 1 (isl l) : A)])))), (.o 1, some .free), (.o 4, some .free), (.o 5, some .free)]
  refine wp_seq' ?_
  refine wp_region_t ?_
  refine wpc (step_plain rfl (acts_box (d := 1) (h := 1) (b := .agg [(.slv l.length 1 (isl l) : A)]) (ltN rfl) (OpX.tmp 0 (V.b (.agg [(.slv l.length 1 (isl l) : A)]))) (by intro y hy; simp [B.cs] at hy; subst hy; rfl))) (by kernel_rfl) ?_
  refine wpc (step_plain rfl (acts_assign (d := 2) (ltN rfl) (OpX.const (.int .i64 0)))) (by kernel_rfl) ?_
  refine wpl_nil ?_
  refine wp_seq' ?_
  refine wp_region_t ?_
  refine wpc (step_plain rfl (acts_load_owns (d := 3) (t := 1) (h := 1) (off := 0) (o := ⟨29, 1, true, [(.slv l.length 1 (isl l) : A)]⟩)  (xs := [(.slv l.length 1 (isl l) : A)]) (ltN rfl) qC8_ti_29 rfl (by decide) rfl)) (by kernel_rfl) ?_
  refine wpc (step_plain rfl (acts_call1 (d := 4) (ltN rfl) (impl_MatchRegion_fn l (by omega)) (ArgVs.cons (ArgV.regv 3 l.length 1 (isl l)) (ArgVs.nil)) (ResV.row 52 3 ((matR l).length) (dsl (matR l)) 4))) (by kernel_rfl) ?_
  refine wpc (step_plain rfl (acts_len (d := 5) (X := .sl 4 0 ((matR l).length)) (n := ((matR l).length)) (iv := (((matR l).length : Nat) : Int)) (ltN rfl) qC8_un_31 (OpX.tmp 4 (V.b (.a (.sl 4 0 ((matR l).length))))) (LenOf.sl _ _ _) rfl)) (by kernel_rfl) ?_
  refine wpc (step_plain rfl (acts_assign (d := 2) (ltN rfl) (OpX.tmp 5 (V.v (.int .i64 (((matR l).length : Nat) : Int)))))) (by kernel_rfl) ?_
  refine wpl_nil ?_
  refine wp_ret' ?_
  exact VRes.tmp 2 (.a (.val (.int .i64 (((matR l).length : Nat) : Int)))) _ (by kernel_rfl) (BRes.val _)

set_option maxHeartbeats 4000000 in
set_option maxRecDepth 100000 in
theorem spec_MostDominoes_fn (l : List Int) (hl : l.length ≤ 4194304) : Fn Try.prog 17 [.agg [(.slv l.length 1 (isl l) : A)]] [.val (.int .i64 (((matR l).length : Nat) : Int))] := by
  refine fn_intro (N := 6) Try.func17 rfl (by kernel_rfl) rfl (Nat.le_of_ble_eq_true rfl) [1, 4, 5] (ret1 rfl) (fun W => ?_)
  show Wp _ _ _ [(.s 0, some (.s (V.b (.agg [(.slv l.length 1 (isl l) : A)])))), (.o 1, some .free), (.o 4, some .free), (.o 5, some .free)]
  refine wp_seq' ?_
  refine wp_region_t ?_
  refine wpc (step_plain rfl (acts_box (d := 1) (h := 1) (b := .agg [(.slv l.length 1 (isl l) : A)]) (ltN rfl) (OpX.tmp 0 (V.b (.agg [(.slv l.length 1 (isl l) : A)]))) (by intro y hy; simp [B.cs] at hy; subst hy; rfl))) (by kernel_rfl) ?_
  refine wpc (step_plain rfl (acts_assign (d := 2) (ltN rfl) (OpX.const (.int .i64 0)))) (by kernel_rfl) ?_
  refine wpl_nil ?_
  refine wp_seq' ?_
  refine wp_region_t ?_
  refine wpc (step_plain rfl (acts_load_owns (d := 3) (t := 1) (h := 1) (off := 0) (o := ⟨29, 1, true, [(.slv l.length 1 (isl l) : A)]⟩)  (xs := [(.slv l.length 1 (isl l) : A)]) (ltN rfl) qC8_ti_29 rfl (by decide) rfl)) (by kernel_rfl) ?_
  refine wpc (step_plain rfl (acts_call1 (d := 4) (ltN rfl) (spec_MatchRegion_fn l (by omega)) (ArgVs.cons (ArgV.regv 3 l.length 1 (isl l)) (ArgVs.nil)) (ResV.row 52 3 ((matR l).length) (dsl (matR l)) 4))) (by kernel_rfl) ?_
  refine wpc (step_plain rfl (acts_len (d := 5) (X := .sl 4 0 ((matR l).length)) (n := ((matR l).length)) (iv := (((matR l).length : Nat) : Int)) (ltN rfl) qC8_un_31 (OpX.tmp 4 (V.b (.a (.sl 4 0 ((matR l).length))))) (LenOf.sl _ _ _) rfl)) (by kernel_rfl) ?_
  refine wpc (step_plain rfl (acts_assign (d := 2) (ltN rfl) (OpX.tmp 5 (V.v (.int .i64 (((matR l).length : Nat) : Int)))))) (by kernel_rfl) ?_
  refine wpl_nil ?_
  refine wp_ret' ?_
  exact VRes.tmp 2 (.a (.val (.int .i64 (((matR l).length : Nat) : Int)))) _ (by kernel_rfl) (BRes.val _)

set_option maxHeartbeats 4000000 in
set_option maxRecDepth 100000 in
theorem impl_IsMostPartial_fn (l : List Int) (ds : List Dom) (hl : l.length ≤ 4194304) (hd : ds.length ≤ 2097152) : Fn Try.prog 32 [.agg [(.slv l.length 1 (isl l) : A)], .a (.slv ds.length 3 (dsl ds))] [.val (.bool (isPar l ds && decide (ds.length = (matR l).length)))] := by
  refine fn_intro (N := 15) Try.func32 rfl (by kernel_rfl) rfl (Nat.le_of_ble_eq_true rfl) [2, 7, 10, 12] (ret1 rfl) (fun W => ?_)
  show Wp _ _ _ [(.s 0, some (.s (V.b (.agg [(.slv l.length 1 (isl l) : A)])))), (.s 1, some (.s (V.b (.a (.slv ds.length 3 (dsl ds)))))), (.o 2, some .free), (.o 7, some .free), (.o 10, some .free), (.o 12, some .free)]
  refine wp_seq' ?_
  refine wp_region_t ?_
  refine wpc (step_plain rfl (acts_box (d := 2) (h := 2) (b := .agg [(.slv l.length 1 (isl l) : A)]) (ltN rfl) (OpX.tmp 0 (V.b (.agg [(.slv l.length 1 (isl l) : A)]))) (by intro y hy; simp [B.cs] at hy; subst hy; rfl))) (by kernel_rfl) ?_
  refine wpc (step_plain rfl (acts_assign (d := 4) (ltN rfl) (OpX.const (.bool false)))) (by kernel_rfl) ?_
  refine wpl_nil ?_
  refine wp_seq' ?_
  rcases Bool.eq_false_or_eq_true ((isPar l ds)) with c1 | c1
  · skip
    refine wp_region_t ?_
    refine wpc (step_plain rfl (acts_load_owns (d := 5) (t := 2) (h := 2) (off := 0) (o := ⟨29, 1, true, [(.slv l.length 1 (isl l) : A)]⟩)  (xs := [(.slv l.length 1 (isl l) : A)]) (ltN rfl) qC8_ti_29 rfl (by decide) rfl)) (by kernel_rfl) ?_
    refine wpc (step_plain rfl (acts_move (d := 6) (ltN rfl) (OpX.tmp 1 (V.b (.a (.slv ds.length 3 (dsl ds))))))) (by kernel_rfl) ?_
    refine wpc (step_plain rfl (acts_call1 (d := 7) (ltN rfl) (impl_IsPartial_fn l ds (by omega) (by omega)) (ArgVs.cons (ArgV.regv 5 l.length 1 (isl l)) (ArgVs.cons (ArgV.slv 6 ds.length 3 (dsl ds)) (ArgVs.nil))) ((resval (congrArg Value.bool c1))))) (by kernel_rfl) ?_
    refine wpc (step_plain rfl (acts_move (d := 8) (ltN rfl) (OpX.tmp 7 (V.v (.bool true))))) (by kernel_rfl) ?_
    refine wpc (step_on (dj := 8) rfl rfl (acts_move (d := 9) (ltN rfl) (OpX.tmp 1 (V.b (.a (.slv ds.length 3 (dsl ds))))))) (by kernel_rfl) ?_
    refine wpc (step_on (dj := 8) rfl rfl (acts_len (d := 10) (X := .slv ds.length 3 (dsl ds)) (n := ds.length) (iv := ((ds.length : Nat) : Int)) (ltN rfl) qC8_un_31 (OpX.tmp 9 (V.b (.a (.slv ds.length 3 (dsl ds))))) (LenOf.slv _ _ _) rfl)) (by kernel_rfl) ?_
    refine wpc (step_on (dj := 8) rfl rfl (acts_load_owns (d := 11) (t := 2) (h := 2) (off := 0) (o := ⟨29, 1, true, [(.slv l.length 1 (isl l) : A)]⟩)  (xs := [(.slv l.length 1 (isl l) : A)]) (ltN rfl) qC8_ti_29 rfl (by decide) rfl)) (by kernel_rfl) ?_
    refine wpc (step_on (dj := 8) rfl rfl (acts_call1 (d := 12) (ltN rfl) (impl_MostDominoes_fn l (by omega)) (ArgVs.cons (ArgV.regv 11 l.length 1 (isl l)) (ArgVs.nil)) (ResV.val _))) (by kernel_rfl) ?_
    refine wpc (step_on (dj := 8) rfl rfl (acts_bin (d := 13) (ltN rfl) (OpV.tmp 10 (.int .i64 ((ds.length : Nat) : Int))) (OpV.tmp 12 (.int .i64 (((matR l).length : Nat) : Int))) (r_eql (c := (decide (((ds.length : Nat) : Int) = (((matR l).length : Nat) : Int)))) rfl))) (by kernel_rfl) ?_
    refine wpc (step_plain rfl (acts_pick_t (d := 14) (ltN rfl) (OpV.tmp 8 (.bool true)) (OpX.tmp 13 (V.v (.bool (decide (((ds.length : Nat) : Int) = (((matR l).length : Nat) : Int)))))))) (by kernel_rfl) ?_
    refine wpc (step_plain rfl (acts_assign (d := 4) (ltN rfl) (OpX.tmp 14 (V.v (.bool (decide (((ds.length : Nat) : Int) = (((matR l).length : Nat) : Int)))))))) (by kernel_rfl) ?_
    refine wpl_nil ?_
    refine wp_ret' ?_
    exact VRes.tmp 4 (.a (.val (.bool (decide (((ds.length : Nat) : Int) = (((matR l).length : Nat) : Int)))))) _ (by kernel_rfl) (bval (congrArg Value.bool (by first | (simp_all; done) | (simp_all [natI]; done))))
  · skip
    refine wp_region_t ?_
    refine wpc (step_plain rfl (acts_load_owns (d := 5) (t := 2) (h := 2) (off := 0) (o := ⟨29, 1, true, [(.slv l.length 1 (isl l) : A)]⟩)  (xs := [(.slv l.length 1 (isl l) : A)]) (ltN rfl) qC8_ti_29 rfl (by decide) rfl)) (by kernel_rfl) ?_
    refine wpc (step_plain rfl (acts_move (d := 6) (ltN rfl) (OpX.tmp 1 (V.b (.a (.slv ds.length 3 (dsl ds))))))) (by kernel_rfl) ?_
    refine wpc (step_plain rfl (acts_call1 (d := 7) (ltN rfl) (impl_IsPartial_fn l ds (by omega) (by omega)) (ArgVs.cons (ArgV.regv 5 l.length 1 (isl l)) (ArgVs.cons (ArgV.slv 6 ds.length 3 (dsl ds)) (ArgVs.nil))) ((resval (congrArg Value.bool c1))))) (by kernel_rfl) ?_
    refine wpc (step_plain rfl (acts_move (d := 8) (ltN rfl) (OpX.tmp 7 (V.v (.bool false))))) (by kernel_rfl) ?_
    refine wpc (step_off (dj := 8) (b' := false) rfl rfl (by decide) rfl (ltN rfl)) (by kernel_rfl) ?_
    refine wpc (step_off (dj := 8) (b' := false) rfl rfl (by decide) rfl (ltN rfl)) (by kernel_rfl) ?_
    refine wpc (step_off (dj := 8) (b' := false) rfl rfl (by decide) rfl (ltN rfl)) (by kernel_rfl) ?_
    refine wpc (step_off (dj := 8) (b' := false) rfl rfl (by decide) rfl (ltN rfl)) (by kernel_rfl) ?_
    refine wpc (step_off (dj := 8) (b' := false) rfl rfl (by decide) rfl (ltN rfl)) (by kernel_rfl) ?_
    refine wpc (step_plain rfl (acts_pick_f (d := 14) (ltN rfl) (OpV.tmp 8 (.bool false)) (OpX.const (.bool false)))) (by kernel_rfl) ?_
    refine wpc (step_plain rfl (acts_assign (d := 4) (ltN rfl) (OpX.tmp 14 (V.v (.bool false))))) (by kernel_rfl) ?_
    refine wpl_nil ?_
    refine wp_ret' ?_
    exact VRes.tmp 4 (.a (.val (.bool false))) _ (by kernel_rfl) (bval (congrArg Value.bool (by first | (simp_all; done) | (simp_all [natI]; done))))

set_option maxHeartbeats 4000000 in
set_option maxRecDepth 100000 in
theorem spec_IsMostPartial_fn (l : List Int) (ds : List Dom) (hl : l.length ≤ 4194304) (hd : ds.length ≤ 2097152) : Fn Try.prog 31 [.agg [(.slv l.length 1 (isl l) : A)], .a (.slv ds.length 3 (dsl ds))] [.val (.bool (isPar l ds && decide (ds.length = (matR l).length)))] := by
  refine fn_intro (N := 15) Try.func31 rfl (by kernel_rfl) rfl (Nat.le_of_ble_eq_true rfl) [2, 7, 10, 12] (ret1 rfl) (fun W => ?_)
  show Wp _ _ _ [(.s 0, some (.s (V.b (.agg [(.slv l.length 1 (isl l) : A)])))), (.s 1, some (.s (V.b (.a (.slv ds.length 3 (dsl ds)))))), (.o 2, some .free), (.o 7, some .free), (.o 10, some .free), (.o 12, some .free)]
  refine wp_seq' ?_
  refine wp_region_t ?_
  refine wpc (step_plain rfl (acts_box (d := 2) (h := 2) (b := .agg [(.slv l.length 1 (isl l) : A)]) (ltN rfl) (OpX.tmp 0 (V.b (.agg [(.slv l.length 1 (isl l) : A)]))) (by intro y hy; simp [B.cs] at hy; subst hy; rfl))) (by kernel_rfl) ?_
  refine wpc (step_plain rfl (acts_assign (d := 4) (ltN rfl) (OpX.const (.bool false)))) (by kernel_rfl) ?_
  refine wpl_nil ?_
  refine wp_seq' ?_
  rcases Bool.eq_false_or_eq_true ((isPar l ds)) with c1 | c1
  · skip
    refine wp_region_t ?_
    refine wpc (step_plain rfl (acts_load_owns (d := 5) (t := 2) (h := 2) (off := 0) (o := ⟨29, 1, true, [(.slv l.length 1 (isl l) : A)]⟩)  (xs := [(.slv l.length 1 (isl l) : A)]) (ltN rfl) qC8_ti_29 rfl (by decide) rfl)) (by kernel_rfl) ?_
    refine wpc (step_plain rfl (acts_move (d := 6) (ltN rfl) (OpX.tmp 1 (V.b (.a (.slv ds.length 3 (dsl ds))))))) (by kernel_rfl) ?_
    refine wpc (step_plain rfl (acts_call1 (d := 7) (ltN rfl) (spec_IsPartial_fn l ds (by omega) (by omega)) (ArgVs.cons (ArgV.regv 5 l.length 1 (isl l)) (ArgVs.cons (ArgV.slv 6 ds.length 3 (dsl ds)) (ArgVs.nil))) ((resval (congrArg Value.bool c1))))) (by kernel_rfl) ?_
    refine wpc (step_plain rfl (acts_move (d := 8) (ltN rfl) (OpX.tmp 7 (V.v (.bool true))))) (by kernel_rfl) ?_
    refine wpc (step_on (dj := 8) rfl rfl (acts_move (d := 9) (ltN rfl) (OpX.tmp 1 (V.b (.a (.slv ds.length 3 (dsl ds))))))) (by kernel_rfl) ?_
    refine wpc (step_on (dj := 8) rfl rfl (acts_len (d := 10) (X := .slv ds.length 3 (dsl ds)) (n := ds.length) (iv := ((ds.length : Nat) : Int)) (ltN rfl) qC8_un_31 (OpX.tmp 9 (V.b (.a (.slv ds.length 3 (dsl ds))))) (LenOf.slv _ _ _) rfl)) (by kernel_rfl) ?_
    refine wpc (step_on (dj := 8) rfl rfl (acts_load_owns (d := 11) (t := 2) (h := 2) (off := 0) (o := ⟨29, 1, true, [(.slv l.length 1 (isl l) : A)]⟩)  (xs := [(.slv l.length 1 (isl l) : A)]) (ltN rfl) qC8_ti_29 rfl (by decide) rfl)) (by kernel_rfl) ?_
    refine wpc (step_on (dj := 8) rfl rfl (acts_call1 (d := 12) (ltN rfl) (spec_MostDominoes_fn l (by omega)) (ArgVs.cons (ArgV.regv 11 l.length 1 (isl l)) (ArgVs.nil)) (ResV.val _))) (by kernel_rfl) ?_
    refine wpc (step_on (dj := 8) rfl rfl (acts_bin (d := 13) (ltN rfl) (OpV.tmp 10 (.int .i64 ((ds.length : Nat) : Int))) (OpV.tmp 12 (.int .i64 (((matR l).length : Nat) : Int))) (r_eql (c := (decide (((ds.length : Nat) : Int) = (((matR l).length : Nat) : Int)))) rfl))) (by kernel_rfl) ?_
    refine wpc (step_plain rfl (acts_pick_t (d := 14) (ltN rfl) (OpV.tmp 8 (.bool true)) (OpX.tmp 13 (V.v (.bool (decide (((ds.length : Nat) : Int) = (((matR l).length : Nat) : Int)))))))) (by kernel_rfl) ?_
    refine wpc (step_plain rfl (acts_assign (d := 4) (ltN rfl) (OpX.tmp 14 (V.v (.bool (decide (((ds.length : Nat) : Int) = (((matR l).length : Nat) : Int)))))))) (by kernel_rfl) ?_
    refine wpl_nil ?_
    refine wp_ret' ?_
    exact VRes.tmp 4 (.a (.val (.bool (decide (((ds.length : Nat) : Int) = (((matR l).length : Nat) : Int)))))) _ (by kernel_rfl) (bval (congrArg Value.bool (by first | (simp_all; done) | (simp_all [natI]; done))))
  · skip
    refine wp_region_t ?_
    refine wpc (step_plain rfl (acts_load_owns (d := 5) (t := 2) (h := 2) (off := 0) (o := ⟨29, 1, true, [(.slv l.length 1 (isl l) : A)]⟩)  (xs := [(.slv l.length 1 (isl l) : A)]) (ltN rfl) qC8_ti_29 rfl (by decide) rfl)) (by kernel_rfl) ?_
    refine wpc (step_plain rfl (acts_move (d := 6) (ltN rfl) (OpX.tmp 1 (V.b (.a (.slv ds.length 3 (dsl ds))))))) (by kernel_rfl) ?_
    refine wpc (step_plain rfl (acts_call1 (d := 7) (ltN rfl) (spec_IsPartial_fn l ds (by omega) (by omega)) (ArgVs.cons (ArgV.regv 5 l.length 1 (isl l)) (ArgVs.cons (ArgV.slv 6 ds.length 3 (dsl ds)) (ArgVs.nil))) ((resval (congrArg Value.bool c1))))) (by kernel_rfl) ?_
    refine wpc (step_plain rfl (acts_move (d := 8) (ltN rfl) (OpX.tmp 7 (V.v (.bool false))))) (by kernel_rfl) ?_
    refine wpc (step_off (dj := 8) (b' := false) rfl rfl (by decide) rfl (ltN rfl)) (by kernel_rfl) ?_
    refine wpc (step_off (dj := 8) (b' := false) rfl rfl (by decide) rfl (ltN rfl)) (by kernel_rfl) ?_
    refine wpc (step_off (dj := 8) (b' := false) rfl rfl (by decide) rfl (ltN rfl)) (by kernel_rfl) ?_
    refine wpc (step_off (dj := 8) (b' := false) rfl rfl (by decide) rfl (ltN rfl)) (by kernel_rfl) ?_
    refine wpc (step_off (dj := 8) (b' := false) rfl rfl (by decide) rfl (ltN rfl)) (by kernel_rfl) ?_
    refine wpc (step_plain rfl (acts_pick_f (d := 14) (ltN rfl) (OpV.tmp 8 (.bool false)) (OpX.const (.bool false)))) (by kernel_rfl) ?_
    refine wpc (step_plain rfl (acts_assign (d := 4) (ltN rfl) (OpX.tmp 14 (V.v (.bool false))))) (by kernel_rfl) ?_
    refine wpl_nil ?_
    refine wp_ret' ?_
    exact VRes.tmp 4 (.a (.val (.bool false))) _ (by kernel_rfl) (bval (congrArg Value.bool (by first | (simp_all; done) | (simp_all [natI]; done))))

set_option maxHeartbeats 4000000 in
set_option maxRecDepth 100000 in
theorem impl_set__countBlack_fn (s : Nat) (hs : s < 18446744073709551616) : Fn Try.prog 49 [.a (.val (.int .u64 ((s : Nat) : Int)))] [.val (.int .i64 ((((setCells s).filter black).length : Nat) : Int))] := by
  have h64 := setCells_len s
  refine fn_intro (N := 19) Try.func49 rfl (by kernel_rfl) rfl (Nat.le_of_ble_eq_true rfl) [5, 7, 8, 14] (ret1 rfl) (fun W => ?_)
  show Wp _ _ _ [(.s 0, some (.s (V.v (.int .u64 ((s : Nat) : Int))))), (.o 5, some .free), (.o 7, some .free), (.o 8, some .free), (.o 14, some .free)]
  refine wp_seq' ?_
  refine wp_region_t ?_
  refine wpc (step_plain rfl (acts_assign (d := 2) (ltN rfl) (OpX.const (.int .i64 0)))) (by kernel_rfl) ?_
  refine wpl_nil ?_
  refine wp_seq' ?_
  refine wp_region_t ?_
  refine wpc (step_plain rfl (acts_assign (d := 3) (ltN rfl) (OpX.const (.int .i64 0)))) (by kernel_rfl) ?_
  refine wpl_nil ?_
  refine wp_seq' ?_
  refine wp_seq' ?_
  refine wp_region_t ?_
  refine wpc (step_plain rfl (acts_move (d := 6) (ltN rfl) (OpX.tmp 0 (V.v (.int .u64 ((s : Nat) : Int)))))) (by kernel_rfl) ?_
  refine wpc (step_plain rfl (acts_call1 (d := 7) (ltN rfl) (impl_set__cells_fn s (by first | omega | assumption | (have := cfilt_len black (setCells s) k; omega))) (ArgVs.cons (ArgV.v (OpV.tmp 6 (.int .u64 ((s : Nat) : Int)))) (ArgVs.nil)) (ResV.row 49 2 ((setCells s).length) (csl (setCells s)) 7))) (by kernel_rfl) ?_
  refine wpc (step_plain rfl (acts_len (d := 8) (X := .sl 7 0 ((setCells s).length)) (n := ((setCells s).length)) (iv := (((setCells s).length : Nat) : Int)) (ltN rfl) qC8_un_41 (OpX.tmp 7 (V.b (.a (.sl 7 0 ((setCells s).length))))) (LenOf.sl _ _ _) rfl)) (by kernel_rfl) ?_
  refine wpc (step_plain rfl (acts_move (d := 9) (ltN rfl) (OpX.const (.int .i64 0)))) (by kernel_rfl) ?_
  refine wpl_nil ?_
  refine wp_block' ?_
  refine wp_loop' (fun (k : Nat) => k ≤ (setCells s).length) (fun (k : Nat) => [(.s 3, some (.s (V.v (.int .i64 (((((setCells s).take k).filter black).length : Nat) : Int))))), (.s 7, some (.s (V.b (.a (.sl 7 0 ((setCells s).length)))))), (.s 8, some (.s (V.v (.int .i64 (((setCells s).length : Nat) : Int))))), (.s 9, some (.s (V.v (.int .i64 ((k : Nat) : Int))))), (.o 7, some (.o ⟨49, 2, true, pl (csl (setCells s))⟩)), (.o 5, some .free), (.o 8, some .free), (.o 14, some .free)]) (fun (k : Nat) => (setCells s).length - k) ((0 : Nat)) (by exact (Nat.zero_le _ : 0 ≤ _)) (weak_of id [5, 8, 14] (by kernel_rfl) (wk_s (v' := V.v (.int .i64 0)) (by kernel_rfl) (vint (by first | rfl | (rw [cfilt_yes (by omega) (by assumption)]; simp; done) | (rw [cfilt_no (by omega) (by assumption)]; done) | omega)) rfl (wk_s (v' := V.b (.a (.sl 7 0 ((setCells s).length)))) (by kernel_rfl) rfl rfl (wk_s (v' := V.v (.int .i64 (((setCells s).length : Nat) : Int))) (by kernel_rfl) rfl rfl (wk_s (v' := V.v (.int .i64 0)) (by kernel_rfl) (vint (by first | rfl | (rw [cfilt_yes (by omega) (by assumption)]; simp; done) | (rw [cfilt_no (by omega) (by assumption)]; done) | omega)) rfl (wk_o (o' := ⟨49, 2, true, pl (csl (setCells s))⟩) (by kernel_rfl) (renob_pl (fun h => h)) rfl (wk_f rfl (wk_f rfl (wk_f rfl (wk_nil)))))))))) ?_
  rintro k inv1
  replace inv1 : k ≤ (setCells s).length := inv1
  have inv := inv1
  show Wp _ _ _ [(.s 3, some (.s (V.v (.int .i64 (((((setCells s).take k).filter black).length : Nat) : Int))))), (.s 7, some (.s (V.b (.a (.sl 7 0 ((setCells s).length)))))), (.s 8, some (.s (V.v (.int .i64 (((setCells s).length : Nat) : Int))))), (.s 9, some (.s (V.v (.int .i64 ((k : Nat) : Int))))), (.o 7, some (.o ⟨49, 2, true, pl (csl (setCells s))⟩)), (.o 5, some .free), (.o 8, some .free), (.o 14, some .free)]
  have hck := cfilt_len black (setCells s) k
  refine wp_seq' ?_
  refine wp_region_t ?_
  refine wpc (step_plain rfl (acts_bin (d := 10) (ltN rfl) (OpV.tmp 9 (.int .i64 ((k : Nat) : Int))) (OpV.tmp 8 (.int .i64 (((setCells s).length : Nat) : Int))) (r_lss (c := (decide (((k : Nat) : Int) < (((setCells s).length : Nat) : Int)))) rfl))) (by kernel_rfl) ?_
  refine wpl_nil ?_
  refine wp_seq' ?_
  refine wp_if (t := 10) (decide (((k : Nat) : Int) < (((setCells s).length : Nat) : Int))) (by kernel_rfl) (fun c2 => ?_) (fun c2 => ?_)
  · skip
    have c2P := of_decide_eq_true c2
    refine wp_skip' ?_
    refine wp_seq' ?_
    refine wp_block' ?_
    refine wp_seq' ?_
    refine wp_region_t ?_
    refine wpc (step_plain rfl (acts_index_sl (d := 11) (x := 7) (h := 7) (off := 0) (n := ((setCells s).length)) (k := k) (off' := (k * 2)) (o := ⟨49, 2, true, pl (csl (setCells s))⟩) (ltN rfl) qC8_un_41 qC8_sz_49 (OpV.tmp 9 (.int .i64 ((k : Nat) : Int))) rfl (by first | omega | assumption | (have := cfilt_len black (setCells s) k; omega)) (by first | (simp; done) | (simp; omega) | omega))) (by kernel_rfl) ?_
    refine wpc (step_plain rfl (acts_load_owns (d := 12) (t := 11) (h := 7) (off := (k * 2)) (o := ⟨49, 2, true, pl (csl (setCells s))⟩)  (xs := [(.int .i64 ((gC (setCells s) k).x) : Value), .int .i64 ((gC (setCells s) k).y)].map A.val) (ltN rfl) qC8_ti_49 rfl (by decide) (pl_at (csl_at (k := k) (by first | omega | assumption | (have := cfilt_len black (setCells s) k; omega)))))) (by kernel_rfl) ?_
    refine wpc (step_plain rfl (acts_alloc' (d := 5) (h := 5) (cap := 1) (s := 2) (cells := [(.val (.int .i64 0) : A), .val (.int .i64 0)]) (ltN rfl) qC8_zi_49 rfl rfl (by decide))) (by kernel_rfl) ?_
    refine wpc (step_plain rfl (acts_store (t := 5) (h := 5) (off := 0) (o := ⟨49, 2, true, [(.val (.int .i64 0) : A), .val (.int .i64 0)]⟩) (b := .agg ([(.int .i64 ((gC (setCells s) k).x) : Value), .int .i64 ((gC (setCells s) k).y)].map A.val)) (cells := [(.val (.int .i64 ((gC (setCells s) k).x)) : A), .val (.int .i64 ((gC (setCells s) k).y))]) qC8_ti_49 (OpX.tmp 12 (V.av [(.int .i64 ((gC (setCells s) k).x) : Value), .int .i64 ((gC (setCells s) k).y)])) rfl (by decide) (by intro y hy; simp [B.cs] at hy; rcases hy with rfl | rfl <;> rfl) (Nat.le_of_ble_eq_true rfl) rfl)) (by kernel_rfl) ?_
    refine wpl_nil ?_
    refine wp_seq' ?_
    refine wp_region_t ?_
    refine wpc (step_plain rfl (acts_load_owns (d := 13) (t := 5) (h := 5) (off := 0) (o := ⟨49, 2, true, [(.val (.int .i64 ((gC (setCells s) k).x)) : A), .val (.int .i64 ((gC (setCells s) k).y))]⟩)  (xs := [(.int .i64 ((gC (setCells s) k).x) : Value), .int .i64 ((gC (setCells s) k).y)].map A.val) (ltN rfl) qC8_ti_49 rfl (by decide) rfl)) (by kernel_rfl) ?_
    refine wpc (step_plain rfl (acts_call1 (d := 14) (ltN rfl) (impl_IsBlack_fn (gC (setCells s) k) ) (ArgVs.cons (ArgV.va (vs := [(.int .i64 ((gC (setCells s) k).x) : Value), .int .i64 ((gC (setCells s) k).y)]) (OpV.agg 13 [(.int .i64 ((gC (setCells s) k).x) : Value), .int .i64 ((gC (setCells s) k).y)])) (ArgVs.nil)) (ResV.val _))) (by kernel_rfl) ?_
    refine wpl_nil ?_
    refine wp_if (t := 14) ((black (gC (setCells s) k))) (by kernel_rfl) (fun c3 => ?_) (fun c3 => ?_)
    · skip
      refine wp_region_t ?_
      refine wpc (step_plain rfl (acts_move (d := 15) (ltN rfl) (OpX.tmp 3 (V.v (.int .i64 (((((setCells s).take k).filter black).length : Nat) : Int)))))) (by kernel_rfl) ?_
      refine wpc (step_plain rfl (acts_bin (d := 16) (ltN rfl) (OpV.tmp 15 (.int .i64 (((((setCells s).take k).filter black).length : Nat) : Int))) (OpV.const (.int .i64 1)) (r_add (c := ((((((setCells s).take k).filter black).length : Nat) : Int) + 1)) (w64 (by first | omega | assumption | (have := cfilt_len black (setCells s) k; omega)) (by first | omega | assumption | (have := cfilt_len black (setCells s) k; omega)))))) (by kernel_rfl) ?_
      refine wpc (step_plain rfl (acts_assign (d := 3) (ltN rfl) (OpX.tmp 16 (V.v (.int .i64 ((((((setCells s).take k).filter black).length : Nat) : Int) + 1)))))) (by kernel_rfl) ?_
      refine wpl_nil ?_
      refine wp_region_t ?_
      refine wpc (step_plain rfl (acts_bin (d := 17) (ltN rfl) (OpV.tmp 9 (.int .i64 ((k : Nat) : Int))) (OpV.const (.int .i64 1)) (r_add (c := (((k : Nat) : Int) + 1)) (w64 (by first | omega | assumption | (have := cfilt_len black (setCells s) k; omega)) (by first | omega | assumption | (have := cfilt_len black (setCells s) k; omega)))))) (by kernel_rfl) ?_
      refine wpc (step_plain rfl (acts_move (d := 9) (ltN rfl) (OpX.tmp 17 (V.v (.int .i64 (((k : Nat) : Int) + 1)))))) (by kernel_rfl) ?_
      refine wpl_nil ?_
      exact loop_back ((k + 1)) (by show _ ≤ _; omega) (by show (setCells s).length - (k + 1) < (setCells s).length - k; omega) (weak_of id [5, 8, 14] (by kernel_rfl) (wk_s (v' := V.v (.int .i64 ((((((setCells s).take k).filter black).length : Nat) : Int) + 1))) (by kernel_rfl) (vint (by first | rfl | (rw [cfilt_yes (by omega) (by assumption)]; simp; done) | (rw [cfilt_no (by omega) (by assumption)]; done) | omega)) rfl (wk_s (v' := V.b (.a (.sl 7 0 ((setCells s).length)))) (by kernel_rfl) rfl rfl (wk_s (v' := V.v (.int .i64 (((setCells s).length : Nat) : Int))) (by kernel_rfl) rfl rfl (wk_s (v' := V.v (.int .i64 (((k : Nat) : Int) + 1))) (by kernel_rfl) (vint (by first | rfl | (rw [cfilt_yes (by omega) (by assumption)]; simp; done) | (rw [cfilt_no (by omega) (by assumption)]; done) | omega)) rfl (wk_o (o' := ⟨49, 2, true, pl (csl (setCells s))⟩) (by kernel_rfl) (renob_pl (fun h => h)) rfl (wk_f rfl (wk_f rfl (wk_f rfl (wk_nil))))))))))
    · skip
      refine wp_skip' ?_
      refine wp_region_t ?_
      refine wpc (step_plain rfl (acts_bin (d := 17) (ltN rfl) (OpV.tmp 9 (.int .i64 ((k : Nat) : Int))) (OpV.const (.int .i64 1)) (r_add (c := (((k : Nat) : Int) + 1)) (w64 (by first | omega | assumption | (have := cfilt_len black (setCells s) k; omega)) (by first | omega | assumption | (have := cfilt_len black (setCells s) k; omega)))))) (by kernel_rfl) ?_
      refine wpc (step_plain rfl (acts_move (d := 9) (ltN rfl) (OpX.tmp 17 (V.v (.int .i64 (((k : Nat) : Int) + 1)))))) (by kernel_rfl) ?_
      refine wpl_nil ?_
      exact loop_back ((k + 1)) (by show _ ≤ _; omega) (by show (setCells s).length - (k + 1) < (setCells s).length - k; omega) (weak_of id [5, 8, 14] (by kernel_rfl) (wk_s (v' := V.v (.int .i64 (((((setCells s).take k).filter black).length : Nat) : Int))) (by kernel_rfl) (vint (by first | rfl | (rw [cfilt_yes (by omega) (by assumption)]; simp; done) | (rw [cfilt_no (by omega) (by assumption)]; done) | omega)) rfl (wk_s (v' := V.b (.a (.sl 7 0 ((setCells s).length)))) (by kernel_rfl) rfl rfl (wk_s (v' := V.v (.int .i64 (((setCells s).length : Nat) : Int))) (by kernel_rfl) rfl rfl (wk_s (v' := V.v (.int .i64 (((k : Nat) : Int) + 1))) (by kernel_rfl) (vint (by first | rfl | (rw [cfilt_yes (by omega) (by assumption)]; simp; done) | (rw [cfilt_no (by omega) (by assumption)]; done) | omega)) rfl (wk_o (o' := ⟨49, 2, true, pl (csl (setCells s))⟩) (by kernel_rfl) (renob_pl (fun h => h)) rfl (wk_f rfl (wk_f rfl (wk_f rfl (wk_nil))))))))))
  · skip
    have c2P := of_decide_eq_false c2
    refine wp_exit' ?_
    refine wp_seq' ?_
    refine wp_region_t ?_
    refine wpc (step_plain rfl (acts_move (d := 18) (ltN rfl) (OpX.tmp 3 (V.v (.int .i64 (((((setCells s).take k).filter black).length : Nat) : Int)))))) (by kernel_rfl) ?_
    refine wpc (step_plain rfl (acts_assign (d := 2) (ltN rfl) (OpX.tmp 18 (V.v (.int .i64 (((((setCells s).take k).filter black).length : Nat) : Int)))))) (by kernel_rfl) ?_
    refine wpl_nil ?_
    refine wp_ret' ?_
    exact VRes.tmp 2 (.a (.val (.int .i64 (((((setCells s).take k).filter black).length : Nat) : Int)))) _ (by kernel_rfl) (bval (congrArg (Value.int .i64) (by rw [List.take_of_length_le (by omega)])))

set_option maxHeartbeats 4000000 in
set_option maxRecDepth 100000 in
theorem impl_FreeBlacks_fn (l : List Int) (hl : l.length ≤ 4194304) : Fn Try.prog 20 [.agg [(.slv l.length 1 (isl l) : A)]] [.val (.int .i64 (frees l))] := by
  have h64 := cellsOf_len l
  have hm64 := matR_len l
  have hb64 := List.length_filter_le black (cellsOf l)
  have hs64 := setCells_len (regSet l)
  have hc64 := List.length_filter_le black (setCells (regSet l))
  refine fn_intro (N := 12) Try.func20 rfl (by kernel_rfl) rfl (Nat.le_of_ble_eq_true rfl) [1, 4, 7, 8, 10] (ret1 rfl) (fun W => ?_)
  show Wp _ _ _ [(.s 0, some (.s (V.b (.agg [(.slv l.length 1 (isl l) : A)])))), (.o 1, some .free), (.o 4, some .free), (.o 7, some .free), (.o 8, some .free), (.o 10, some .free)]
  refine wp_seq' ?_
  refine wp_region_t ?_
  refine wpc (step_plain rfl (acts_box (d := 1) (h := 1) (b := .agg [(.slv l.length 1 (isl l) : A)]) (ltN rfl) (OpX.tmp 0 (V.b (.agg [(.slv l.length 1 (isl l) : A)]))) (by intro y hy; simp [B.cs] at hy; subst hy; rfl))) (by kernel_rfl) ?_
  refine wpc (step_plain rfl (acts_assign (d := 2) (ltN rfl) (OpX.const (.int .i64 0)))) (by kernel_rfl) ?_
  refine wpl_nil ?_
  refine wp_seq' ?_
  refine wp_seq' ?_
  refine wp_region_t ?_
  refine wpc (step_plain rfl (acts_load_owns (d := 3) (t := 1) (h := 1) (off := 0) (o := ⟨29, 1, true, [(.slv l.length 1 (isl l) : A)]⟩)  (xs := [(.slv l.length 1 (isl l) : A)]) (ltN rfl) qC8_ti_29 rfl (by decide) rfl)) (by kernel_rfl) ?_
  refine wpc (step_plain rfl (acts_call1 (d := 4) (ltN rfl) (impl_RegionOk_fn l (by first | omega | assumption | exact regSet_lt (by assumption))) (ArgVs.cons (ArgV.regv 3 l.length 1 (isl l)) (ArgVs.nil)) (ResV.val _))) (by kernel_rfl) ?_
  refine wpc (step_plain rfl (acts_un (d := 5) (ltN rfl) (OpV.tmp 4 (.bool (regOk l))) (r_not (c := (!(regOk l))) rfl))) (by kernel_rfl) ?_
  refine wpl_nil ?_
  refine wp_if (t := 5) ((!(regOk l))) (by kernel_rfl) (fun c1 => ?_) (fun c1 => ?_)
  · skip
    have c2 : (regOk l) = false := by simpa using c1
    refine wp_seq' ?_
    refine wp_region_t ?_
    refine wpc (step_plain rfl (acts_assign (d := 2) (ltN rfl) (OpX.const (.int .i64 0)))) (by kernel_rfl) ?_
    refine wpl_nil ?_
    refine wp_ret' ?_
    exact VRes.tmp 2 (.a (.val (.int .i64 0))) _ (by kernel_rfl) (bval (congrArg (Value.int .i64) (by exact (frees_no (by assumption)).symm)))
  · skip
    have c3 : (regOk l) = true := by simpa using c1
    refine wp_skip' ?_
    refine wp_seq' ?_
    refine wp_drawn' (by kernel_rfl) (AllSteps.cons (step_plain rfl (acts_load_owns (d := 6) (t := 1) (h := 1) (off := 0) (o := ⟨29, 1, true, [(.slv l.length 1 (isl l) : A)]⟩)  (xs := [(.slv l.length 1 (isl l) : A)]) (ltN rfl) qC8_ti_29 rfl (by decide) rfl)) (AllSteps.cons (step_plain rfl (acts_call1 (d := 7) (ltN rfl) (impl_Region__set_fn l (by first | omega | assumption | exact regSet_lt (by assumption))) (ArgVs.cons (ArgV.regv 6 l.length 1 (isl l)) (ArgVs.nil)) (ResV.val _))) (AllSteps.cons (step_plain rfl (acts_call1 (d := 8) (ltN rfl) (impl_set__countBlack_fn (regSet l) (by first | omega | assumption | exact regSet_lt (by assumption))) (ArgVs.cons (ArgV.v (OpV.tmp 7 (.int .u64 (((regSet l) : Nat) : Int)))) (ArgVs.nil)) (ResV.val _))) (AllSteps.cons (step_plain rfl (acts_load_owns (d := 9) (t := 1) (h := 1) (off := 0) (o := ⟨29, 1, true, [(.slv l.length 1 (isl l) : A)]⟩)  (xs := [(.slv l.length 1 (isl l) : A)]) (ltN rfl) qC8_ti_29 rfl (by decide) rfl)) (AllSteps.cons (step_plain rfl (acts_call1 (d := 10) (ltN rfl) (impl_MostDominoes_fn l (by first | omega | assumption | exact regSet_lt (by assumption))) (ArgVs.cons (ArgV.regv 9 l.length 1 (isl l)) (ArgVs.nil)) (ResV.val _))) (AllSteps.cons (step_plain rfl (acts_bin (d := 11) (ltN rfl) (OpV.tmp 8 (.int .i64 ((((setCells (regSet l)).filter black).length : Nat) : Int))) (OpV.tmp 10 (.int .i64 (((matR l).length : Nat) : Int))) (r_sub (c := (((((setCells (regSet l)).filter black).length : Nat) : Int) - (((matR l).length : Nat) : Int))) (w64 (by first | omega | assumption | exact regSet_lt (by assumption)) (by first | omega | assumption | exact regSet_lt (by assumption)))))) (AllSteps.cons (step_plain rfl (acts_assign (d := 2) (ltN rfl) (OpX.tmp 11 (V.v (.int .i64 (((((setCells (regSet l)).filter black).length : Nat) : Int) - (((matR l).length : Nat) : Int))))))) (AllSteps.nil)))))))) (by kernel_rfl) (by kernel_rfl) (by kernel_rfl) ?_
    refine wp_ret' ?_
    exact VRes.tmp 2 (.a (.val (.int .i64 (((((setCells (regSet l)).filter black).length : Nat) : Int) - (((matR l).length : Nat) : Int))))) _ (by kernel_rfl) (bval (congrArg (Value.int .i64) (by unfold frees cellsOf; rw [if_pos (by assumption)])))

set_option maxHeartbeats 4000000 in
set_option maxRecDepth 100000 in
theorem spec_FreeBlacks_fn (l : List Int) (hl : l.length ≤ 4194304) : Fn Try.prog 19 [.agg [(.slv l.length 1 (isl l) : A)]] [.val (.int .i64 (frees l))] := by
  have h64 := cellsOf_len l
  have hm64 := matR_len l
  have hb64 := List.length_filter_le black (cellsOf l)
  refine fn_intro (N := 25) Try.func19 rfl (by kernel_rfl) rfl (Nat.le_of_ble_eq_true rfl) [1, 7, 10, 18, 23] (ret1 rfl) (fun W => ?_)
  show Wp _ _ _ [(.s 0, some (.s (V.b (.agg [(.slv l.length 1 (isl l) : A)])))), (.o 1, some .free), (.o 7, some .free), (.o 10, some .free), (.o 18, some .free), (.o 23, some .free)]
  refine wp_seq' ?_
  refine wp_region_t ?_
  refine wpc (step_plain rfl (acts_box (d := 1) (h := 1) (b := .agg [(.slv l.length 1 (isl l) : A)]) (ltN rfl) (OpX.tmp 0 (V.b (.agg [(.slv l.length 1 (isl l) : A)]))) (by intro y hy; simp [B.cs] at hy; subst hy; rfl))) (by kernel_rfl) ?_
  refine wpc (step_plain rfl (acts_assign (d := 2) (ltN rfl) (OpX.const (.int .i64 0)))) (by kernel_rfl) ?_
  refine wpl_nil ?_
  refine wp_seq' ?_
  refine wp_region_t ?_
  refine wpc (step_plain rfl (acts_assign (d := 3) (ltN rfl) (OpX.const (.int .i64 0)))) (by kernel_rfl) ?_
  refine wpl_nil ?_
  refine wp_seq' ?_
  refine wp_region_t ?_
  refine wpc (step_plain rfl (acts_load_owns (d := 6) (t := 1) (h := 1) (off := 0) (o := ⟨29, 1, true, [(.slv l.length 1 (isl l) : A)]⟩)  (xs := [(.slv l.length 1 (isl l) : A)]) (ltN rfl) qC8_ti_29 rfl (by decide) rfl)) (by kernel_rfl) ?_
  refine wpc (step_plain rfl (acts_call1 (d := 7) (ltN rfl) (spec_CellsOf_fn l (by first | omega | assumption | (have := cfilt_len black (cellsOf l) k; omega))) (ArgVs.cons (ArgV.regv 6 l.length 1 (isl l)) (ArgVs.nil)) (ResV.row 49 2 ((cellsOf l).length) (csl (cellsOf l)) 7))) (by kernel_rfl) ?_
  refine wpc (step_plain rfl (acts_assign (d := 4) (ltN rfl) (OpX.tmp 7 (V.b (.a (.sl 7 0 ((cellsOf l).length))))))) (by kernel_rfl) ?_
  refine wpl_nil ?_
  refine wp_seq' ?_
  refine wp_seq' ?_
  refine wp_region_t ?_
  refine wpc (step_plain rfl (acts_assign (d := 5) (ltN rfl) (OpX.const (.int .i64 0)))) (by kernel_rfl) ?_
  refine wpl_nil ?_
  refine wp_block' ?_
  refine wp_loop' (fun (k : Nat) => k ≤ (cellsOf l).length) (fun (k : Nat) => [(.s 1, some (.s (V.p 1 0))), (.s 3, some (.s (V.v (.int .i64 (((((cellsOf l).take k).filter black).length : Nat) : Int))))), (.s 4, some (.s (V.b (.a (.sl 7 0 ((cellsOf l).length)))))), (.s 5, some (.s (V.v (.int .i64 ((k : Nat) : Int))))), (.o 1, some (.o ⟨29, 1, true, [(.slv l.length 1 (isl l) : A)]⟩)), (.o 7, some (.o ⟨49, 2, true, pl (csl (cellsOf l))⟩)), (.o 10, some .free), (.o 18, some .free), (.o 23, some .free)]) (fun (k : Nat) => (cellsOf l).length - k) ((0 : Nat)) (by exact (Nat.zero_le _ : 0 ≤ _)) (weak_of id [10, 18, 23] (by kernel_rfl) (wk_s (v' := V.p 1 0) (by kernel_rfl) rfl rfl (wk_s (v' := V.v (.int .i64 0)) (by kernel_rfl) (vint (by first | rfl | (rw [cfilt_yes (by omega) (by assumption)]; simp; done) | (rw [cfilt_no (by omega) (by assumption)]; done) | omega)) rfl (wk_s (v' := V.b (.a (.sl 7 0 ((cellsOf l).length)))) (by kernel_rfl) rfl rfl (wk_s (v' := V.v (.int .i64 0)) (by kernel_rfl) (vint (by first | rfl | (rw [cfilt_yes (by omega) (by assumption)]; simp; done) | (rw [cfilt_no (by omega) (by assumption)]; done) | omega)) rfl (wk_o (o' := ⟨29, 1, true, [(.slv l.length 1 (isl l) : A)]⟩) (by kernel_rfl) (renob_l (fun h => h) rfl rfl) rfl (wk_o (o' := ⟨49, 2, true, pl (csl (cellsOf l))⟩) (by kernel_rfl) (renob_pl (fun h => h)) rfl (wk_f rfl (wk_f rfl (wk_f rfl (wk_nil))))))))))) ?_
  rintro k inv1
  replace inv1 : k ≤ (cellsOf l).length := inv1
  have inv := inv1
  show Wp _ _ _ [(.s 1, some (.s (V.p 1 0))), (.s 3, some (.s (V.v (.int .i64 (((((cellsOf l).take k).filter black).length : Nat) : Int))))), (.s 4, some (.s (V.b (.a (.sl 7 0 ((cellsOf l).length)))))), (.s 5, some (.s (V.v (.int .i64 ((k : Nat) : Int))))), (.o 1, some (.o ⟨29, 1, true, [(.slv l.length 1 (isl l) : A)]⟩)), (.o 7, some (.o ⟨49, 2, true, pl (csl (cellsOf l))⟩)), (.o 10, some .free), (.o 18, some .free), (.o 23, some .free)]
  have hck := cfilt_len black (cellsOf l) k
  refine wp_seq' ?_
  refine wp_seq' ?_
  refine wp_region_t ?_
  refine wpc (step_plain rfl (acts_move (d := 8) (ltN rfl) (OpX.tmp 5 (V.v (.int .i64 ((k : Nat) : Int)))))) (by kernel_rfl) ?_
  refine wpc (step_plain rfl (acts_move (d := 9) (ltN rfl) (OpX.tmp 4 (V.b (.a (.sl 7 0 ((cellsOf l).length))))))) (by kernel_rfl) ?_
  refine wpc (step_plain rfl (acts_len (d := 10) (X := .sl 7 0 ((cellsOf l).length)) (n := ((cellsOf l).length)) (iv := (((cellsOf l).length : Nat) : Int)) (ltN rfl) qC8_un_41 (OpX.tmp 9 (V.b (.a (.sl 7 0 ((cellsOf l).length))))) (LenOf.sl _ _ _) rfl)) (by kernel_rfl) ?_
  refine wpc (step_plain rfl (acts_bin (d := 11) (ltN rfl) (OpV.tmp 8 (.int .i64 ((k : Nat) : Int))) (OpV.tmp 10 (.int .i64 (((cellsOf l).length : Nat) : Int))) (r_lss (c := (decide (((k : Nat) : Int) < (((cellsOf l).length : Nat) : Int)))) rfl))) (by kernel_rfl) ?_
  refine wpl_nil ?_
  refine wp_if (t := 11) (decide (((k : Nat) : Int) < (((cellsOf l).length : Nat) : Int))) (by kernel_rfl) (fun c2 => ?_) (fun c2 => ?_)
  · skip
    have c2P := of_decide_eq_true c2
    refine wp_skip' ?_
    refine wp_seq' ?_
    refine wp_block' ?_
    refine wp_seq' ?_
    refine wp_region_t ?_
    refine wpc (step_plain rfl (acts_move (d := 14) (ltN rfl) (OpX.tmp 4 (V.b (.a (.sl 7 0 ((cellsOf l).length))))))) (by kernel_rfl) ?_
    refine wpc (step_plain rfl (acts_move (d := 15) (ltN rfl) (OpX.tmp 5 (V.v (.int .i64 ((k : Nat) : Int)))))) (by kernel_rfl) ?_
    refine wpc (step_plain rfl (acts_index_sl (d := 16) (x := 14) (h := 7) (off := 0) (n := ((cellsOf l).length)) (k := k) (off' := (k * 2)) (o := ⟨49, 2, true, pl (csl (cellsOf l))⟩) (ltN rfl) qC8_un_41 qC8_sz_49 (OpV.tmp 15 (.int .i64 ((k : Nat) : Int))) rfl (by first | omega | assumption | (have := cfilt_len black (cellsOf l) k; omega)) (by first | (simp; done) | (simp; omega) | omega))) (by kernel_rfl) ?_
    refine wpc (step_plain rfl (acts_load_owns (d := 17) (t := 16) (h := 7) (off := (k * 2)) (o := ⟨49, 2, true, pl (csl (cellsOf l))⟩)  (xs := [(.int .i64 ((gC (cellsOf l) k).x) : Value), .int .i64 ((gC (cellsOf l) k).y)].map A.val) (ltN rfl) qC8_ti_49 rfl (by decide) (pl_at (csl_at (k := k) (by first | omega | assumption | (have := cfilt_len black (cellsOf l) k; omega)))))) (by kernel_rfl) ?_
    refine wpc (step_plain rfl (acts_call1 (d := 18) (ltN rfl) (spec_IsBlack_fn (gC (cellsOf l) k) ) (ArgVs.cons (ArgV.va (vs := [(.int .i64 ((gC (cellsOf l) k).x) : Value), .int .i64 ((gC (cellsOf l) k).y)]) (OpV.agg 17 [(.int .i64 ((gC (cellsOf l) k).x) : Value), .int .i64 ((gC (cellsOf l) k).y)])) (ArgVs.nil)) (ResV.val _))) (by kernel_rfl) ?_
    refine wpl_nil ?_
    refine wp_if (t := 18) ((black (gC (cellsOf l) k))) (by kernel_rfl) (fun c3 => ?_) (fun c3 => ?_)
    · skip
      refine wp_region_t ?_
      refine wpc (step_plain rfl (acts_move (d := 19) (ltN rfl) (OpX.tmp 3 (V.v (.int .i64 (((((cellsOf l).take k).filter black).length : Nat) : Int)))))) (by kernel_rfl) ?_
      refine wpc (step_plain rfl (acts_bin (d := 20) (ltN rfl) (OpV.tmp 19 (.int .i64 (((((cellsOf l).take k).filter black).length : Nat) : Int))) (OpV.const (.int .i64 1)) (r_add (c := ((((((cellsOf l).take k).filter black).length : Nat) : Int) + 1)) (w64 (by first | omega | assumption | (have := cfilt_len black (cellsOf l) k; omega)) (by first | omega | assumption | (have := cfilt_len black (cellsOf l) k; omega)))))) (by kernel_rfl) ?_
      refine wpc (step_plain rfl (acts_assign (d := 3) (ltN rfl) (OpX.tmp 20 (V.v (.int .i64 ((((((cellsOf l).take k).filter black).length : Nat) : Int) + 1)))))) (by kernel_rfl) ?_
      refine wpl_nil ?_
      refine wp_region_t ?_
      refine wpc (step_plain rfl (acts_move (d := 12) (ltN rfl) (OpX.tmp 5 (V.v (.int .i64 ((k : Nat) : Int)))))) (by kernel_rfl) ?_
      refine wpc (step_plain rfl (acts_bin (d := 13) (ltN rfl) (OpV.tmp 12 (.int .i64 ((k : Nat) : Int))) (OpV.const (.int .i64 1)) (r_add (c := (((k : Nat) : Int) + 1)) (w64 (by first | omega | assumption | (have := cfilt_len black (cellsOf l) k; omega)) (by first | omega | assumption | (have := cfilt_len black (cellsOf l) k; omega)))))) (by kernel_rfl) ?_
      refine wpc (step_plain rfl (acts_assign (d := 5) (ltN rfl) (OpX.tmp 13 (V.v (.int .i64 (((k : Nat) : Int) + 1)))))) (by kernel_rfl) ?_
      refine wpl_nil ?_
      exact loop_back ((k + 1)) (by show _ ≤ _; omega) (by show (cellsOf l).length - (k + 1) < (cellsOf l).length - k; omega) (weak_of id [10, 18, 23] (by kernel_rfl) (wk_s (v' := V.p 1 0) (by kernel_rfl) rfl rfl (wk_s (v' := V.v (.int .i64 ((((((cellsOf l).take k).filter black).length : Nat) : Int) + 1))) (by kernel_rfl) (vint (by first | rfl | (rw [cfilt_yes (by omega) (by assumption)]; simp; done) | (rw [cfilt_no (by omega) (by assumption)]; done) | omega)) rfl (wk_s (v' := V.b (.a (.sl 7 0 ((cellsOf l).length)))) (by kernel_rfl) rfl rfl (wk_s (v' := V.v (.int .i64 (((k : Nat) : Int) + 1))) (by kernel_rfl) (vint (by first | rfl | (rw [cfilt_yes (by omega) (by assumption)]; simp; done) | (rw [cfilt_no (by omega) (by assumption)]; done) | omega)) rfl (wk_o (o' := ⟨29, 1, true, [(.slv l.length 1 (isl l) : A)]⟩) (by kernel_rfl) (renob_l (fun h => h) rfl rfl) rfl (wk_o (o' := ⟨49, 2, true, pl (csl (cellsOf l))⟩) (by kernel_rfl) (renob_pl (fun h => h)) rfl (wk_f rfl (wk_f rfl (wk_f rfl (wk_nil)))))))))))
    · skip
      refine wp_skip' ?_
      refine wp_region_t ?_
      refine wpc (step_plain rfl (acts_move (d := 12) (ltN rfl) (OpX.tmp 5 (V.v (.int .i64 ((k : Nat) : Int)))))) (by kernel_rfl) ?_
      refine wpc (step_plain rfl (acts_bin (d := 13) (ltN rfl) (OpV.tmp 12 (.int .i64 ((k : Nat) : Int))) (OpV.const (.int .i64 1)) (r_add (c := (((k : Nat) : Int) + 1)) (w64 (by first | omega | assumption | (have := cfilt_len black (cellsOf l) k; omega)) (by first | omega | assumption | (have := cfilt_len black (cellsOf l) k; omega)))))) (by kernel_rfl) ?_
      refine wpc (step_plain rfl (acts_assign (d := 5) (ltN rfl) (OpX.tmp 13 (V.v (.int .i64 (((k : Nat) : Int) + 1)))))) (by kernel_rfl) ?_
      refine wpl_nil ?_
      exact loop_back ((k + 1)) (by show _ ≤ _; omega) (by show (cellsOf l).length - (k + 1) < (cellsOf l).length - k; omega) (weak_of id [10, 18, 23] (by kernel_rfl) (wk_s (v' := V.p 1 0) (by kernel_rfl) rfl rfl (wk_s (v' := V.v (.int .i64 (((((cellsOf l).take k).filter black).length : Nat) : Int))) (by kernel_rfl) (vint (by first | rfl | (rw [cfilt_yes (by omega) (by assumption)]; simp; done) | (rw [cfilt_no (by omega) (by assumption)]; done) | omega)) rfl (wk_s (v' := V.b (.a (.sl 7 0 ((cellsOf l).length)))) (by kernel_rfl) rfl rfl (wk_s (v' := V.v (.int .i64 (((k : Nat) : Int) + 1))) (by kernel_rfl) (vint (by first | rfl | (rw [cfilt_yes (by omega) (by assumption)]; simp; done) | (rw [cfilt_no (by omega) (by assumption)]; done) | omega)) rfl (wk_o (o' := ⟨29, 1, true, [(.slv l.length 1 (isl l) : A)]⟩) (by kernel_rfl) (renob_l (fun h => h) rfl rfl) rfl (wk_o (o' := ⟨49, 2, true, pl (csl (cellsOf l))⟩) (by kernel_rfl) (renob_pl (fun h => h)) rfl (wk_f rfl (wk_f rfl (wk_f rfl (wk_nil)))))))))))
  · skip
    have c2P := of_decide_eq_false c2
    refine wp_exit' ?_
    refine wp_seq' ?_
    refine wp_region_t ?_
    refine wpc (step_plain rfl (acts_move (d := 21) (ltN rfl) (OpX.tmp 3 (V.v (.int .i64 (((((cellsOf l).take k).filter black).length : Nat) : Int)))))) (by kernel_rfl) ?_
    refine wpc (step_plain rfl (acts_load_owns (d := 22) (t := 1) (h := 1) (off := 0) (o := ⟨29, 1, true, [(.slv l.length 1 (isl l) : A)]⟩)  (xs := [(.slv l.length 1 (isl l) : A)]) (ltN rfl) qC8_ti_29 rfl (by decide) rfl)) (by kernel_rfl) ?_
    refine wpc (step_plain rfl (acts_call1 (d := 23) (ltN rfl) (spec_MostDominoes_fn l (by first | omega | assumption | (have := cfilt_len black (cellsOf l) k; omega))) (ArgVs.cons (ArgV.regv 22 l.length 1 (isl l)) (ArgVs.nil)) (ResV.val _))) (by kernel_rfl) ?_
    refine wpc (step_plain rfl (acts_bin (d := 24) (ltN rfl) (OpV.tmp 21 (.int .i64 (((((cellsOf l).take k).filter black).length : Nat) : Int))) (OpV.tmp 23 (.int .i64 (((matR l).length : Nat) : Int))) (r_sub (c := ((((((cellsOf l).take k).filter black).length : Nat) : Int) - (((matR l).length : Nat) : Int))) (w64 (by first | omega | assumption | (have := cfilt_len black (cellsOf l) k; omega)) (by first | omega | assumption | (have := cfilt_len black (cellsOf l) k; omega)))))) (by kernel_rfl) ?_
    refine wpc (step_plain rfl (acts_assign (d := 2) (ltN rfl) (OpX.tmp 24 (V.v (.int .i64 ((((((cellsOf l).take k).filter black).length : Nat) : Int) - (((matR l).length : Nat) : Int))))))) (by kernel_rfl) ?_
    refine wpl_nil ?_
    refine wp_ret' ?_
    exact VRes.tmp 2 (.a (.val (.int .i64 ((((((cellsOf l).take k).filter black).length : Nat) : Int) - (((matR l).length : Nat) : Int))))) _ (by kernel_rfl) (bval (congrArg (Value.int .i64) (by unfold frees; rw [List.take_of_length_le (by omega)])))

set_option maxHeartbeats 4000000 in
set_option maxRecDepth 100000 in
theorem impl_indexOf_fn (l : List Int) (n : Int) (hl : l.length ≤ 4194304) : Fn Try.prog 64 [.a (.slv l.length 1 (isl l)), .a (.val (.int .i64 n))] [.val (.int .i64 (posI l n))] := by
  refine fn_intro (N := 19) Try.func64 rfl (by kernel_rfl) rfl (Nat.le_of_ble_eq_true rfl) [8] (ret1 rfl) (fun W => ?_)
  show Wp _ _ _ [(.s 0, some (.s (V.b (.a (.slv l.length 1 (isl l)))))), (.s 1, some (.s (V.v (.int .i64 n)))), (.o 8, some .free)]
  refine wp_seq' ?_
  refine wp_region_t ?_
  refine wpc (step_plain rfl (acts_assign (d := 4) (ltN rfl) (OpX.const (.int .i64 0)))) (by kernel_rfl) ?_
  refine wpl_nil ?_
  refine wp_seq' ?_
  refine wp_seq' ?_
  refine wp_region_t ?_
  refine wpc (step_plain rfl (acts_move (d := 7) (ltN rfl) (OpX.tmp 0 (V.b (.a (.slv l.length 1 (isl l))))))) (by kernel_rfl) ?_
  refine wpc (step_plain rfl (acts_len (d := 8) (X := .slv l.length 1 (isl l)) (n := l.length) (iv := ((l.length : Nat) : Int)) (ltN rfl) qC8_un_22 (OpX.tmp 7 (V.b (.a (.slv l.length 1 (isl l))))) (LenOf.slv _ _ _) rfl)) (by kernel_rfl) ?_
  refine wpc (step_plain rfl (acts_move (d := 9) (ltN rfl) (OpX.const (.int .i64 0)))) (by kernel_rfl) ?_
  refine wpl_nil ?_
  refine wp_block' ?_
  refine wp_loop' (fun (k : Nat) => k ≤ l.length ∧ n ∉ l.take k) (fun (k : Nat) => [(.s 1, some (.s (V.v (.int .i64 n)))), (.s 7, some (.s (V.b (.a (.slv l.length 1 (isl l)))))), (.s 8, some (.s (V.v (.int .i64 ((l.length : Nat) : Int))))), (.s 9, some (.s (V.v (.int .i64 ((k : Nat) : Int))))), (.o 8, some .free)]) (fun (k : Nat) => l.length - k) ((0 : Nat)) (by exact ⟨Nat.zero_le _, by simp⟩) (weak_of id [8] (by kernel_rfl) (wk_s (v' := V.v (.int .i64 n)) (by kernel_rfl) rfl rfl (wk_s (v' := V.b (.a (.slv l.length 1 (isl l)))) (by kernel_rfl) rfl rfl (wk_s (v' := V.v (.int .i64 ((l.length : Nat) : Int))) (by kernel_rfl) rfl rfl (wk_s (v' := V.v (.int .i64 0)) (by kernel_rfl) (vint (by first | rfl | omega | (simp; done) | (simp; omega))) rfl (wk_f rfl (wk_nil))))))) ?_
  rintro k inv1
  replace inv1 : k ≤ l.length ∧ n ∉ l.take k := inv1
  obtain ⟨inv1_0, inv1_1⟩ := inv1
  show Wp _ _ _ [(.s 1, some (.s (V.v (.int .i64 n)))), (.s 7, some (.s (V.b (.a (.slv l.length 1 (isl l)))))), (.s 8, some (.s (V.v (.int .i64 ((l.length : Nat) : Int))))), (.s 9, some (.s (V.v (.int .i64 ((k : Nat) : Int))))), (.o 8, some .free)]
  refine wp_seq' ?_
  refine wp_region_t ?_
  refine wpc (step_plain rfl (acts_bin (d := 10) (ltN rfl) (OpV.tmp 9 (.int .i64 ((k : Nat) : Int))) (OpV.tmp 8 (.int .i64 ((l.length : Nat) : Int))) (r_lss (c := (decide (((k : Nat) : Int) < ((l.length : Nat) : Int)))) rfl))) (by kernel_rfl) ?_
  refine wpl_nil ?_
  refine wp_seq' ?_
  refine wp_if (t := 10) (decide (((k : Nat) : Int) < ((l.length : Nat) : Int))) (by kernel_rfl) (fun c2 => ?_) (fun c2 => ?_)
  · skip
    have c2P := of_decide_eq_true c2
    refine wp_skip' ?_
    refine wp_seq' ?_
    refine wp_block' ?_
    refine wp_seq' ?_
    refine wp_region_t ?_
    refine wpc (step_plain rfl (acts_move (d := 11) (ltN rfl) (OpX.tmp 9 (V.v (.int .i64 ((k : Nat) : Int)))))) (by kernel_rfl) ?_
    refine wpc (step_plain rfl (acts_index_v (d := 12) (x := 7) (n := l.length) (s := 1) (k := k) (xs := isl l) (ltN rfl) qC8_un_22 qC8_sz_3 (OpV.tmp 9 (.int .i64 ((k : Nat) : Int))) rfl (by omega))) (by kernel_rfl) ?_
    refine wpc (step_plain rfl (acts_load_v (d := 13) (t := 12) (s := 1) (off := (k * 1)) (xs := isl l)  (v := .int .i64 (gI l k)) (ltN rfl) qC8_ti_3 (isl_get1 (k := k) (by omega)))) (by kernel_rfl) ?_
    refine wpc (step_plain rfl (acts_assign (d := 5) (ltN rfl) (OpX.tmp 11 (V.v (.int .i64 ((k : Nat) : Int)))))) (by kernel_rfl) ?_
    refine wpc (step_plain rfl (acts_assign (d := 6) (ltN rfl) (OpX.tmp 13 (V.v (.int .i64 (gI l k)))))) (by kernel_rfl) ?_
    refine wpl_nil ?_
    refine wp_seq' ?_
    refine wp_region_t ?_
    refine wpc (step_plain rfl (acts_move (d := 14) (ltN rfl) (OpX.tmp 6 (V.v (.int .i64 (gI l k)))))) (by kernel_rfl) ?_
    refine wpc (step_plain rfl (acts_move (d := 15) (ltN rfl) (OpX.tmp 1 (V.v (.int .i64 n))))) (by kernel_rfl) ?_
    refine wpc (step_plain rfl (acts_bin (d := 16) (ltN rfl) (OpV.tmp 14 (.int .i64 (gI l k))) (OpV.tmp 15 (.int .i64 n)) (r_eql (c := (decide ((gI l k) = n))) rfl))) (by kernel_rfl) ?_
    refine wpl_nil ?_
    refine wp_if (t := 16) (decide ((gI l k) = n)) (by kernel_rfl) (fun c3 => ?_) (fun c3 => ?_)
    · skip
      have c3P := of_decide_eq_true c3
      refine wp_seq' ?_
      refine wp_region_t ?_
      refine wpc (step_plain rfl (acts_move (d := 17) (ltN rfl) (OpX.tmp 5 (V.v (.int .i64 ((k : Nat) : Int)))))) (by kernel_rfl) ?_
      refine wpc (step_plain rfl (acts_assign (d := 4) (ltN rfl) (OpX.tmp 17 (V.v (.int .i64 ((k : Nat) : Int)))))) (by kernel_rfl) ?_
      refine wpl_nil ?_
      refine wp_ret' ?_
      exact VRes.tmp 4 (.a (.val (.int .i64 ((k : Nat) : Int)))) _ (by kernel_rfl) (bval (congrArg (Value.int .i64) (by exact posI_yes (by omega) (by assumption) (by assumption))))
    · skip
      have c3P := of_decide_eq_false c3
      refine wp_skip' ?_
      refine wp_region_t ?_
      refine wpc (step_plain rfl (acts_bin (d := 18) (ltN rfl) (OpV.tmp 9 (.int .i64 ((k : Nat) : Int))) (OpV.const (.int .i64 1)) (r_add (c := (((k : Nat) : Int) + 1)) (w64 (by omega) (by omega))))) (by kernel_rfl) ?_
      refine wpc (step_plain rfl (acts_move (d := 9) (ltN rfl) (OpX.tmp 18 (V.v (.int .i64 (((k : Nat) : Int) + 1)))))) (by kernel_rfl) ?_
      refine wpl_nil ?_
      exact loop_back ((k + 1)) (by exact ⟨by omega, notin_snoc (by omega) (by assumption) (by assumption)⟩) (by show l.length - (k + 1) < l.length - k; omega) (weak_of id [8] (by kernel_rfl) (wk_s (v' := V.v (.int .i64 n)) (by kernel_rfl) rfl rfl (wk_s (v' := V.b (.a (.slv l.length 1 (isl l)))) (by kernel_rfl) rfl rfl (wk_s (v' := V.v (.int .i64 ((l.length : Nat) : Int))) (by kernel_rfl) rfl rfl (wk_s (v' := V.v (.int .i64 (((k : Nat) : Int) + 1))) (by kernel_rfl) (vint (by first | rfl | omega | (simp; done) | (simp; omega))) rfl (wk_f rfl (wk_nil)))))))
  · skip
    have c2P := of_decide_eq_false c2
    refine wp_exit' ?_
    refine wp_seq' ?_
    refine wp_region_t ?_
    refine wpc (step_plain rfl (acts_assign (d := 4) (ltN rfl) (OpX.const (.int .i64 (-1))))) (by kernel_rfl) ?_
    refine wpl_nil ?_
    refine wp_ret' ?_
    exact VRes.tmp 4 (.a (.val (.int .i64 (-1)))) _ (by kernel_rfl) (bval (congrArg (Value.int .i64) (by exact posI_no (by assumption) (by assumption))))
end Cl
end Go.Proofs.Ytafbklfdgpfmgaa
