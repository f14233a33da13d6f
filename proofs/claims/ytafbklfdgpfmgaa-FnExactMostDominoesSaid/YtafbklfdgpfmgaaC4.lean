/- Walks over clean states, printed by wg.py. No statement is proved here. -/
import Derived.Test.YtafbklfdgpfmgaaC3
namespace Go.Proofs.Ytafbklfdgpfmgaa
namespace Cl
open Go.ChangeShapes Go.WideShapes Go.ChangeAt Go.RowKit

theorem pr_snoc {L : List Cel} {k j : Nat} (h : (List.range j).any (fun i => nbr (gC L i) (gC L k)) = false) (h2 : nbr (gC L j) (gC L k) = false) : (List.range (j+1)).any (fun i => nbr (gC L i) (gC L k)) = false := by
  rw [List.range_succ, List.any_append, h]; simp [h2]
theorem pairs_snoc {L : List Cel} {k : Nat} (h : (List.range k).any (prB L) = false) (h2 : prB L k = false) : (List.range (k+1)).any (prB L) = false := by
  rw [List.range_succ, List.any_append, h]; simp [h2]
theorem pairs_yes {L : List Cel} {k j : Nat} (hk : k < L.length) (hj : j < k) (h : nbr (gC L j) (gC L k) = true) : pairs L = true := by
  unfold pairs prB
  exact List.any_eq_true.2 ⟨k, by simpa using hk, List.any_eq_true.2 ⟨j, by simpa using hj, h⟩⟩
theorem prB_end {L : List Cel} {k j : Nat} (hj : ¬ (j : Int) < (k : Int)) (hj2 : j ≤ k) (h : (List.range j).any (fun i => nbr (gC L i) (gC L k)) = false) : prB L k = false := by
  obtain rfl : j = k := by omega
  exact h
theorem pairs_end {L : List Cel} {k : Nat} (hj : ¬ (k : Int) < (L.length : Int)) (hj2 : k ≤ L.length) (h : (List.range k).any (prB L) = false) : pairs L = false := by
  obtain rfl : k = L.length := by omega
  exact h
theorem any_zeroC (p : Cel → Bool) (l : List Cel) : (l.take 0).any p = false := rfl
theorem nxt_end {p : Cel → Bool} {L : List Cel} {k : Nat} (hj : ¬ (k : Int) < (L.length : Int)) (h : (L.take k).any p = false) : L.any p = false := by rwa [List.take_of_length_le (by omega)] at h

theorem qC4_fo_49_0 : fieldOff Try.prog 49 0 = some 0 := by kernel_rfl
theorem qC4_fo_49_1 : fieldOff Try.prog 49 1 = some 1 := by kernel_rfl
theorem qC4_sz_49 : (Try.prog.info? 49).map (·.size) = some 2 := by kernel_rfl
theorem qC4_ti_29 : TI Try.prog 29 true 1 := ⟨⟨_, Try.underlying29, rfl⟩, by kernel_rfl⟩
theorem qC4_ti_3 : TI Try.prog 3 false 1 := ⟨⟨_, Try.underlying3, rfl⟩, by kernel_rfl⟩
theorem qC4_ti_49 : TI Try.prog 49 true 2 := ⟨⟨_, Try.underlying49, rfl⟩, by kernel_rfl⟩
theorem qC4_un_41 : Try.prog.underlying 41 = some (.slice 49) := Try.underlying41
theorem qC4_zi_49 : ZI Try.prog 49 (.agg #[.int .i64 0, .int .i64 0]) 2 16 := by unfold ZI; kernel_rfl
set_option maxHeartbeats 4000000 in
set_option maxRecDepth 100000 in
theorem impl_CanExtend_fn (l : List Int) (ds : List Dom) (hl : l.length ≤ 4194304) (hd : ds.length ≤ 2097152) : Fn Try.prog 14 [.agg [(.slv l.length 1 (isl l) : A)], .a (.slv ds.length 3 (dsl ds))] [.val (.bool (canX l ds))] := by
  have h64 := setCells_len (andn (regSet l) (covS ds))
  refine fn_intro (N := 43) Try.func14 rfl (by kernel_rfl) rfl (Nat.le_of_ble_eq_true rfl) [2, 7, 10, 13, 15, 18, 19, 31, 40] (ret1 rfl) (fun W => ?_)
  show Wp _ _ _ [(.s 0, some (.s (V.b (.agg [(.slv l.length 1 (isl l) : A)])))), (.s 1, some (.s (V.b (.a (.slv ds.length 3 (dsl ds)))))), (.o 2, some .free), (.o 7, some .free), (.o 10, some .free), (.o 13, some .free), (.o 15, some .free), (.o 18, some .free), (.o 19, some .free), (.o 31, some .free), (.o 40, some .free)]
  refine wp_seq' ?_
  refine wp_region_t ?_
  refine wpc (step_plain rfl (acts_box (d := 2) (h := 2) (b := .agg [(.slv l.length 1 (isl l) : A)]) (ltN rfl) (OpX.tmp 0 (V.b (.agg [(.slv l.length 1 (isl l) : A)]))) (by intro y hy; simp [B.cs] at hy; subst hy; rfl))) (by kernel_rfl) ?_
  refine wpc (step_plain rfl (acts_assign (d := 4) (ltN rfl) (OpX.const (.bool false)))) (by kernel_rfl) ?_
  refine wpl_nil ?_
  refine wp_seq' ?_
  refine wp_seq' ?_
  refine wp_region_t ?_
  refine wpc (step_plain rfl (acts_load_owns (d := 8) (t := 2) (h := 2) (off := 0) (o := ⟨29, 1, true, [(.slv l.length 1 (isl l) : A)]⟩)  (xs := [(.slv l.length 1 (isl l) : A)]) (ltN rfl) qC4_ti_29 rfl (by decide) rfl)) (by kernel_rfl) ?_
  refine wpc (step_plain rfl (acts_move (d := 9) (ltN rfl) (OpX.tmp 1 (V.b (.a (.slv ds.length 3 (dsl ds))))))) (by kernel_rfl) ?_
  refine wpc (step_plain rfl (acts_call1 (d := 10) (ltN rfl) (impl_IsPartial_fn l ds (by first | omega | assumption | (have hq := okc_true.1 (set_in (s := (andn (regSet l) (covS ds))) (k := k) (by omega)); omega) | exact (isPar_step (by assumption)).1 | exact regSet_lt (isPar_step (by assumption)).1 | exact covS_lt _ | exact andn_lt (regSet_lt (isPar_step (by assumption)).1)) (by first | omega | assumption | (have hq := okc_true.1 (set_in (s := (andn (regSet l) (covS ds))) (k := k) (by omega)); omega) | exact (isPar_step (by assumption)).1 | exact regSet_lt (isPar_step (by assumption)).1 | exact covS_lt _ | exact andn_lt (regSet_lt (isPar_step (by assumption)).1))) (ArgVs.cons (ArgV.regv 8 l.length 1 (isl l)) (ArgVs.cons (ArgV.slv 9 ds.length 3 (dsl ds)) (ArgVs.nil))) (ResV.val _))) (by kernel_rfl) ?_
  refine wpc (step_plain rfl (acts_un (d := 11) (ltN rfl) (OpV.tmp 10 (.bool (isPar l ds))) (r_not (c := (!(isPar l ds))) rfl))) (by kernel_rfl) ?_
  refine wpl_nil ?_
  refine wp_if (t := 11) ((!(isPar l ds))) (by kernel_rfl) (fun c1 => ?_) (fun c1 => ?_)
  · skip
    have c2 : (isPar l ds) = false := by simpa using c1
    refine wp_seq' ?_
    refine wp_region_t ?_
    refine wpc (step_plain rfl (acts_assign (d := 4) (ltN rfl) (OpX.const (.bool false)))) (by kernel_rfl) ?_
    refine wpl_nil ?_
    refine wp_ret' ?_
    exact VRes.tmp 4 (.a (.val (.bool false))) _ (by kernel_rfl) (bval (congrArg Value.bool (by exact (canX_no (by assumption)).symm)))
  · skip
    have c3 : (isPar l ds) = true := by simpa using c1
    refine wp_skip' ?_
    refine wp_seq' ?_
    refine wp_region_t ?_
    refine wpc (step_plain rfl (acts_load_owns (d := 12) (t := 2) (h := 2) (off := 0) (o := ⟨29, 1, true, [(.slv l.length 1 (isl l) : A)]⟩)  (xs := [(.slv l.length 1 (isl l) : A)]) (ltN rfl) qC4_ti_29 rfl (by decide) rfl)) (by kernel_rfl) ?_
    refine wpc (step_plain rfl (acts_call1 (d := 13) (ltN rfl) (impl_Region__set_fn l (by first | omega | assumption | (have hq := okc_true.1 (set_in (s := (andn (regSet l) (covS ds))) (k := k) (by omega)); omega) | exact (isPar_step (by assumption)).1 | exact regSet_lt (isPar_step (by assumption)).1 | exact covS_lt _ | exact andn_lt (regSet_lt (isPar_step (by assumption)).1))) (ArgVs.cons (ArgV.regv 12 l.length 1 (isl l)) (ArgVs.nil)) (ResV.val _))) (by kernel_rfl) ?_
    refine wpc (step_plain rfl (acts_move (d := 14) (ltN rfl) (OpX.tmp 1 (V.b (.a (.slv ds.length 3 (dsl ds))))))) (by kernel_rfl) ?_
    refine wpc (step_plain rfl (acts_call1 (d := 15) (ltN rfl) (impl_covered_fn ds (by first | omega | assumption | (have hq := okc_true.1 (set_in (s := (andn (regSet l) (covS ds))) (k := k) (by omega)); omega) | exact (isPar_step (by assumption)).1 | exact regSet_lt (isPar_step (by assumption)).1 | exact covS_lt _ | exact andn_lt (regSet_lt (isPar_step (by assumption)).1))) (ArgVs.cons (ArgV.slv 14 ds.length 3 (dsl ds)) (ArgVs.nil)) (ResV.val _))) (by kernel_rfl) ?_
    refine wpc (step_plain rfl (acts_bin (d := 16) (ltN rfl) (OpV.tmp 13 (.int .u64 (((regSet l) : Nat) : Int))) (OpV.tmp 15 (.int .u64 (((covS ds) : Nat) : Int))) (r_andNot (c := (((andn (regSet l) (covS ds)) : Nat) : Int)) (andnU (m := (regSet l)) (n := (covS ds)) rfl rfl (by first | omega | assumption | exact Nat.lt_of_le_of_lt (shr_le _ _) (by first | omega | assumption | (first | omega | assumption | (have hq := okc_true.1 (set_in (s := (andn (regSet l) (covS ds))) (k := k) (by omega)); omega) | exact (isPar_step (by assumption)).1 | exact regSet_lt (isPar_step (by assumption)).1 | exact covS_lt _ | exact andn_lt (regSet_lt (isPar_step (by assumption)).1))) | (first | omega | assumption | (have hq := okc_true.1 (set_in (s := (andn (regSet l) (covS ds))) (k := k) (by omega)); omega) | exact (isPar_step (by assumption)).1 | exact regSet_lt (isPar_step (by assumption)).1 | exact covS_lt _ | exact andn_lt (regSet_lt (isPar_step (by assumption)).1))) (by first | omega | assumption | exact Nat.lt_of_le_of_lt (shr_le _ _) (by first | omega | assumption | (first | omega | assumption | (have hq := okc_true.1 (set_in (s := (andn (regSet l) (covS ds))) (k := k) (by omega)); omega) | exact (isPar_step (by assumption)).1 | exact regSet_lt (isPar_step (by assumption)).1 | exact covS_lt _ | exact andn_lt (regSet_lt (isPar_step (by assumption)).1))) | (first | omega | assumption | (have hq := okc_true.1 (set_in (s := (andn (regSet l) (covS ds))) (k := k) (by omega)); omega) | exact (isPar_step (by assumption)).1 | exact regSet_lt (isPar_step (by assumption)).1 | exact covS_lt _ | exact andn_lt (regSet_lt (isPar_step (by assumption)).1))))))) (by kernel_rfl) ?_
    refine wpc (step_plain rfl (acts_assign (d := 5) (ltN rfl) (OpX.tmp 16 (V.v (.int .u64 (((andn (regSet l) (covS ds)) : Nat) : Int)))))) (by kernel_rfl) ?_
    refine wpl_nil ?_
    refine wp_seq' ?_
    refine wp_seq' ?_
    refine wp_region_t ?_
    refine wpc (step_plain rfl (acts_move (d := 17) (ltN rfl) (OpX.tmp 5 (V.v (.int .u64 (((andn (regSet l) (covS ds)) : Nat) : Int)))))) (by kernel_rfl) ?_
    refine wpc (step_plain rfl (acts_call1 (d := 18) (ltN rfl) (impl_set__cells_fn (andn (regSet l) (covS ds)) (by first | omega | assumption | (have hq := okc_true.1 (set_in (s := (andn (regSet l) (covS ds))) (k := k) (by omega)); omega) | exact (isPar_step (by assumption)).1 | exact regSet_lt (isPar_step (by assumption)).1 | exact covS_lt _ | exact andn_lt (regSet_lt (isPar_step (by assumption)).1))) (ArgVs.cons (ArgV.v (OpV.tmp 17 (.int .u64 (((andn (regSet l) (covS ds)) : Nat) : Int)))) (ArgVs.nil)) (ResV.row 49 2 ((setCells (andn (regSet l) (covS ds))).length) (csl (setCells (andn (regSet l) (covS ds)))) 18))) (by kernel_rfl) ?_
    refine wpc (step_plain rfl (acts_len (d := 19) (X := .sl 18 0 ((setCells (andn (regSet l) (covS ds))).length)) (n := ((setCells (andn (regSet l) (covS ds))).length)) (iv := (((setCells (andn (regSet l) (covS ds))).length : Nat) : Int)) (ltN rfl) qC4_un_41 (OpX.tmp 18 (V.b (.a (.sl 18 0 ((setCells (andn (regSet l) (covS ds))).length))))) (LenOf.sl _ _ _) rfl)) (by kernel_rfl) ?_
    refine wpc (step_plain rfl (acts_move (d := 20) (ltN rfl) (OpX.const (.int .i64 0)))) (by kernel_rfl) ?_
    refine wpl_nil ?_
    refine wp_block' ?_
    refine wp_loop' (fun (k : Nat) => k ≤ (setCells (andn (regSet l) (covS ds))).length ∧ ((setCells (andn (regSet l) (covS ds))).take k).any (nxt (andn (regSet l) (covS ds))) = false) (fun (k : Nat) => [(.s 5, some (.s (V.v (.int .u64 (((andn (regSet l) (covS ds)) : Nat) : Int))))), (.s 18, some (.s (V.b (.a (.sl 18 0 ((setCells (andn (regSet l) (covS ds))).length)))))), (.s 19, some (.s (V.v (.int .i64 (((setCells (andn (regSet l) (covS ds))).length : Nat) : Int))))), (.s 20, some (.s (V.v (.int .i64 ((k : Nat) : Int))))), (.o 18, some (.o ⟨49, 2, true, pl (csl (setCells (andn (regSet l) (covS ds))))⟩)), (.o 2, some .free), (.o 7, some .free), (.o 10, some .free), (.o 13, some .free), (.o 15, some .free), (.o 19, some .free), (.o 31, some .free), (.o 40, some .free)]) (fun (k : Nat) => (setCells (andn (regSet l) (covS ds))).length - k) ((0 : Nat)) (by exact ⟨Nat.zero_le _, any_zeroC _ _⟩) (weak_of id [2, 7, 10, 13, 15, 19, 31, 40] (by kernel_rfl) (wk_s (v' := V.v (.int .u64 (((andn (regSet l) (covS ds)) : Nat) : Int))) (by kernel_rfl) rfl rfl (wk_s (v' := V.b (.a (.sl 18 0 ((setCells (andn (regSet l) (covS ds))).length)))) (by kernel_rfl) rfl rfl (wk_s (v' := V.v (.int .i64 (((setCells (andn (regSet l) (covS ds))).length : Nat) : Int))) (by kernel_rfl) rfl rfl (wk_s (v' := V.v (.int .i64 0)) (by kernel_rfl) (vint (by first | rfl | omega | (simp; done) | (simp; omega))) rfl (wk_o (o' := ⟨49, 2, true, pl (csl (setCells (andn (regSet l) (covS ds))))⟩) (by kernel_rfl) (renob_pl (fun h => h)) rfl (wk_f rfl (wk_f rfl (wk_f rfl (wk_f rfl (wk_f rfl (wk_f rfl (wk_f rfl (wk_f rfl (wk_nil))))))))))))))) ?_
    rintro k inv4
    replace inv4 : k ≤ (setCells (andn (regSet l) (covS ds))).length ∧ ((setCells (andn (regSet l) (covS ds))).take k).any (nxt (andn (regSet l) (covS ds))) = false := inv4
    obtain ⟨inv4_0, inv4_1⟩ := inv4
    show Wp _ _ _ [(.s 5, some (.s (V.v (.int .u64 (((andn (regSet l) (covS ds)) : Nat) : Int))))), (.s 18, some (.s (V.b (.a (.sl 18 0 ((setCells (andn (regSet l) (covS ds))).length)))))), (.s 19, some (.s (V.v (.int .i64 (((setCells (andn (regSet l) (covS ds))).length : Nat) : Int))))), (.s 20, some (.s (V.v (.int .i64 ((k : Nat) : Int))))), (.o 18, some (.o ⟨49, 2, true, pl (csl (setCells (andn (regSet l) (covS ds))))⟩)), (.o 2, some .free), (.o 7, some .free), (.o 10, some .free), (.o 13, some .free), (.o 15, some .free), (.o 19, some .free), (.o 31, some .free), (.o 40, some .free)]
    refine wp_seq' ?_
    refine wp_region_t ?_
    refine wpc (step_plain rfl (acts_bin (d := 21) (ltN rfl) (OpV.tmp 20 (.int .i64 ((k : Nat) : Int))) (OpV.tmp 19 (.int .i64 (((setCells (andn (regSet l) (covS ds))).length : Nat) : Int))) (r_lss (c := (decide (((k : Nat) : Int) < (((setCells (andn (regSet l) (covS ds))).length : Nat) : Int)))) rfl))) (by kernel_rfl) ?_
    refine wpl_nil ?_
    refine wp_seq' ?_
    refine wp_if (t := 21) (decide (((k : Nat) : Int) < (((setCells (andn (regSet l) (covS ds))).length : Nat) : Int))) (by kernel_rfl) (fun c5 => ?_) (fun c5 => ?_)
    · skip
      have c5P := of_decide_eq_true c5
      refine wp_skip' ?_
      refine wp_seq' ?_
      refine wp_block' ?_
      refine wp_seq' ?_
      refine wp_region_t ?_
      refine wpc (step_plain rfl (acts_index_sl (d := 22) (x := 18) (h := 18) (off := 0) (n := ((setCells (andn (regSet l) (covS ds))).length)) (k := k) (off' := (k * 2)) (o := ⟨49, 2, true, pl (csl (setCells (andn (regSet l) (covS ds))))⟩) (ltN rfl) qC4_un_41 qC4_sz_49 (OpV.tmp 20 (.int .i64 ((k : Nat) : Int))) rfl (by first | omega | assumption | (have hq := okc_true.1 (set_in (s := (andn (regSet l) (covS ds))) (k := k) (by omega)); omega) | exact (isPar_step (by assumption)).1 | exact regSet_lt (isPar_step (by assumption)).1 | exact covS_lt _ | exact andn_lt (regSet_lt (isPar_step (by assumption)).1)) (by first | (simp; done) | (simp; omega) | omega))) (by kernel_rfl) ?_
      refine wpc (step_plain rfl (acts_load_owns (d := 23) (t := 22) (h := 18) (off := (k * 2)) (o := ⟨49, 2, true, pl (csl (setCells (andn (regSet l) (covS ds))))⟩)  (xs := [(.int .i64 ((gC (setCells (andn (regSet l) (covS ds))) k).x) : Value), .int .i64 ((gC (setCells (andn (regSet l) (covS ds))) k).y)].map A.val) (ltN rfl) qC4_ti_49 rfl (by decide) (pl_at (csl_at (k := k) (by first | omega | assumption | (have hq := okc_true.1 (set_in (s := (andn (regSet l) (covS ds))) (k := k) (by omega)); omega) | exact (isPar_step (by assumption)).1 | exact regSet_lt (isPar_step (by assumption)).1 | exact covS_lt _ | exact andn_lt (regSet_lt (isPar_step (by assumption)).1)))))) (by kernel_rfl) ?_
      refine wpc (step_plain rfl (acts_alloc' (d := 7) (h := 7) (cap := 1) (s := 2) (cells := [(.val (.int .i64 0) : A), .val (.int .i64 0)]) (ltN rfl) qC4_zi_49 rfl rfl (by decide))) (by kernel_rfl) ?_
      refine wpc (step_plain rfl (acts_store (t := 7) (h := 7) (off := 0) (o := ⟨49, 2, true, [(.val (.int .i64 0) : A), .val (.int .i64 0)]⟩) (b := .agg ([(.int .i64 ((gC (setCells (andn (regSet l) (covS ds))) k).x) : Value), .int .i64 ((gC (setCells (andn (regSet l) (covS ds))) k).y)].map A.val)) (cells := [(.val (.int .i64 ((gC (setCells (andn (regSet l) (covS ds))) k).x)) : A), .val (.int .i64 ((gC (setCells (andn (regSet l) (covS ds))) k).y))]) qC4_ti_49 (OpX.tmp 23 (V.av [(.int .i64 ((gC (setCells (andn (regSet l) (covS ds))) k).x) : Value), .int .i64 ((gC (setCells (andn (regSet l) (covS ds))) k).y)])) rfl (by decide) (by intro y hy; simp [B.cs] at hy; rcases hy with rfl | rfl <;> rfl) (Nat.le_of_ble_eq_true rfl) rfl)) (by kernel_rfl) ?_
      refine wpl_nil ?_
      refine wp_seq' ?_
      rcases Bool.eq_false_or_eq_true ((hasS (andn (regSet l) (covS ds)) (⟨((gC (setCells (andn (regSet l) (covS ds))) k).x + 1), (gC (setCells (andn (regSet l) (covS ds))) k).y⟩ : Cel))) with c6 | c6
      · skip
        refine wp_region_t ?_
        refine wpc (step_plain rfl (acts_move (d := 24) (ltN rfl) (OpX.tmp 5 (V.v (.int .u64 (((andn (regSet l) (covS ds)) : Nat) : Int)))))) (by kernel_rfl) ?_
        refine wpc (step_plain rfl (acts_field (d := 25) (t := 7) (h := 7) (off := 0) (off' := 0) (ltN rfl) qC4_fo_49_0 rfl)) (by kernel_rfl) ?_
        refine wpc (step_plain rfl (acts_load_own (d := 26) (t := 25) (h := 7) (off := 0) (o := ⟨49, 2, true, [(.val (.int .i64 ((gC (setCells (andn (regSet l) (covS ds))) k).x)) : A), .val (.int .i64 ((gC (setCells (andn (regSet l) (covS ds))) k).y))]⟩)  (x := .val (.int .i64 ((gC (setCells (andn (regSet l) (covS ds))) k).x))) (ltN rfl) qC4_ti_3 rfl)) (by kernel_rfl) ?_
        refine wpc (step_plain rfl (acts_bin (d := 27) (ltN rfl) (OpV.tmp 26 (.int .i64 ((gC (setCells (andn (regSet l) (covS ds))) k).x))) (OpV.const (.int .i64 1)) (r_add (c := ((gC (setCells (andn (regSet l) (covS ds))) k).x + 1)) (w64 (by first | omega | assumption | (have hq := okc_true.1 (set_in (s := (andn (regSet l) (covS ds))) (k := k) (by omega)); omega) | exact (isPar_step (by assumption)).1 | exact regSet_lt (isPar_step (by assumption)).1 | exact covS_lt _ | exact andn_lt (regSet_lt (isPar_step (by assumption)).1)) (by first | omega | assumption | (have hq := okc_true.1 (set_in (s := (andn (regSet l) (covS ds))) (k := k) (by omega)); omega) | exact (isPar_step (by assumption)).1 | exact regSet_lt (isPar_step (by assumption)).1 | exact covS_lt _ | exact andn_lt (regSet_lt (isPar_step (by assumption)).1)))))) (by kernel_rfl) ?_
        refine wpc (step_plain rfl (acts_field (d := 28) (t := 7) (h := 7) (off := 0) (off' := 1) (ltN rfl) qC4_fo_49_1 rfl)) (by kernel_rfl) ?_
        refine wpc (step_plain rfl (acts_load_own (d := 29) (t := 28) (h := 7) (off := 1) (o := ⟨49, 2, true, [(.val (.int .i64 ((gC (setCells (andn (regSet l) (covS ds))) k).x)) : A), .val (.int .i64 ((gC (setCells (andn (regSet l) (covS ds))) k).y))]⟩)  (x := .val (.int .i64 ((gC (setCells (andn (regSet l) (covS ds))) k).y))) (ltN rfl) qC4_ti_3 rfl)) (by kernel_rfl) ?_
        refine wpc (step_plain rfl (acts_build (d := 30) (t := 49) (cells := [(.int .i64 ((gC (setCells (andn (regSet l) (covS ds))) k).x + 1) : Value), .int .i64 ((gC (setCells (andn (regSet l) (covS ds))) k).y)]) (ltN rfl) (OpVs.cons (i := 0) (OpV.tmp 27 (.int .i64 ((gC (setCells (andn (regSet l) (covS ds))) k).x + 1))) (OpVs.cons (i := 1) (OpV.tmp 29 (.int .i64 ((gC (setCells (andn (regSet l) (covS ds))) k).y))) (OpVs.nil))) rfl)) (by kernel_rfl) ?_
        refine wpc (step_plain rfl (acts_call1 (d := 31) (ltN rfl) (impl_set__has_fn (andn (regSet l) (covS ds)) (⟨((gC (setCells (andn (regSet l) (covS ds))) k).x + 1), (gC (setCells (andn (regSet l) (covS ds))) k).y⟩ : Cel) (by first | omega | assumption | (have hq := okc_true.1 (set_in (s := (andn (regSet l) (covS ds))) (k := k) (by omega)); omega) | exact (isPar_step (by assumption)).1 | exact regSet_lt (isPar_step (by assumption)).1 | exact covS_lt _ | exact andn_lt (regSet_lt (isPar_step (by assumption)).1))) (ArgVs.cons (ArgV.v (OpV.tmp 24 (.int .u64 (((andn (regSet l) (covS ds)) : Nat) : Int)))) (ArgVs.cons (ArgV.va (vs := [(.int .i64 ((gC (setCells (andn (regSet l) (covS ds))) k).x + 1) : Value), .int .i64 ((gC (setCells (andn (regSet l) (covS ds))) k).y)]) (OpV.agg 30 [(.int .i64 ((gC (setCells (andn (regSet l) (covS ds))) k).x + 1) : Value), .int .i64 ((gC (setCells (andn (regSet l) (covS ds))) k).y)])) (ArgVs.nil))) ((resval (congrArg Value.bool c6))))) (by kernel_rfl) ?_
        refine wpc (step_plain rfl (acts_move (d := 32) (ltN rfl) (OpX.tmp 31 (V.v (.bool true))))) (by kernel_rfl) ?_
        refine wpc (step_off (dj := 32) (b' := true) rfl rfl (by decide) rfl (ltN rfl)) (by kernel_rfl) ?_
        refine wpc (step_off (dj := 32) (b' := true) rfl rfl (by decide) rfl (ltN rfl)) (by kernel_rfl) ?_
        refine wpc (step_off (dj := 32) (b' := true) rfl rfl (by decide) rfl (ltN rfl)) (by kernel_rfl) ?_
        refine wpc (step_off (dj := 32) (b' := true) rfl rfl (by decide) rfl (ltN rfl)) (by kernel_rfl) ?_
        refine wpc (step_off (dj := 32) (b' := true) rfl rfl (by decide) rfl (ltN rfl)) (by kernel_rfl) ?_
        refine wpc (step_off (dj := 32) (b' := true) rfl rfl (by decide) rfl (ltN rfl)) (by kernel_rfl) ?_
        refine wpc (step_off (dj := 32) (b' := true) rfl rfl (by decide) rfl (ltN rfl)) (by kernel_rfl) ?_
        refine wpc (step_off (dj := 32) (b' := true) rfl rfl (by decide) rfl (ltN rfl)) (by kernel_rfl) ?_
        refine wpc (step_plain rfl (acts_pick_t (d := 41) (ltN rfl) (OpV.tmp 32 (.bool true)) (OpX.const (.bool true)))) (by kernel_rfl) ?_
        refine wpl_nil ?_
        refine wp_if_t (t := 41) (by kernel_rfl) ?_
        refine wp_seq' ?_
        refine wp_region_t ?_
        refine wpc (step_plain rfl (acts_assign (d := 4) (ltN rfl) (OpX.const (.bool true)))) (by kernel_rfl) ?_
        refine wpl_nil ?_
        refine wp_ret' ?_
        exact VRes.tmp 4 (.a (.val (.bool true))) _ (by kernel_rfl) (bval (congrArg Value.bool (by unfold canX lft; rw [any_atC (k := k) (p := (nxt (andn (regSet l) (covS ds)))) (l := (setCells (andn (regSet l) (covS ds)))) (by omega) (by unfold nxt; simp_all)]; simp_all)))
      · skip
        refine wp_region_t ?_
        refine wpc (step_plain rfl (acts_move (d := 24) (ltN rfl) (OpX.tmp 5 (V.v (.int .u64 (((andn (regSet l) (covS ds)) : Nat) : Int)))))) (by kernel_rfl) ?_
        refine wpc (step_plain rfl (acts_field (d := 25) (t := 7) (h := 7) (off := 0) (off' := 0) (ltN rfl) qC4_fo_49_0 rfl)) (by kernel_rfl) ?_
        refine wpc (step_plain rfl (acts_load_own (d := 26) (t := 25) (h := 7) (off := 0) (o := ⟨49, 2, true, [(.val (.int .i64 ((gC (setCells (andn (regSet l) (covS ds))) k).x)) : A), .val (.int .i64 ((gC (setCells (andn (regSet l) (covS ds))) k).y))]⟩)  (x := .val (.int .i64 ((gC (setCells (andn (regSet l) (covS ds))) k).x))) (ltN rfl) qC4_ti_3 rfl)) (by kernel_rfl) ?_
        refine wpc (step_plain rfl (acts_bin (d := 27) (ltN rfl) (OpV.tmp 26 (.int .i64 ((gC (setCells (andn (regSet l) (covS ds))) k).x))) (OpV.const (.int .i64 1)) (r_add (c := ((gC (setCells (andn (regSet l) (covS ds))) k).x + 1)) (w64 (by first | omega | assumption | (have hq := okc_true.1 (set_in (s := (andn (regSet l) (covS ds))) (k := k) (by omega)); omega) | exact (isPar_step (by assumption)).1 | exact regSet_lt (isPar_step (by assumption)).1 | exact covS_lt _ | exact andn_lt (regSet_lt (isPar_step (by assumption)).1)) (by first | omega | assumption | (have hq := okc_true.1 (set_in (s := (andn (regSet l) (covS ds))) (k := k) (by omega)); omega) | exact (isPar_step (by assumption)).1 | exact regSet_lt (isPar_step (by assumption)).1 | exact covS_lt _ | exact andn_lt (regSet_lt (isPar_step (by assumption)).1)))))) (by kernel_rfl) ?_
        refine wpc (step_plain rfl (acts_field (d := 28) (t := 7) (h := 7) (off := 0) (off' := 1) (ltN rfl) qC4_fo_49_1 rfl)) (by kernel_rfl) ?_
        refine wpc (step_plain rfl (acts_load_own (d := 29) (t := 28) (h := 7) (off := 1) (o := ⟨49, 2, true, [(.val (.int .i64 ((gC (setCells (andn (regSet l) (covS ds))) k).x)) : A), .val (.int .i64 ((gC (setCells (andn (regSet l) (covS ds))) k).y))]⟩)  (x := .val (.int .i64 ((gC (setCells (andn (regSet l) (covS ds))) k).y))) (ltN rfl) qC4_ti_3 rfl)) (by kernel_rfl) ?_
        refine wpc (step_plain rfl (acts_build (d := 30) (t := 49) (cells := [(.int .i64 ((gC (setCells (andn (regSet l) (covS ds))) k).x + 1) : Value), .int .i64 ((gC (setCells (andn (regSet l) (covS ds))) k).y)]) (ltN rfl) (OpVs.cons (i := 0) (OpV.tmp 27 (.int .i64 ((gC (setCells (andn (regSet l) (covS ds))) k).x + 1))) (OpVs.cons (i := 1) (OpV.tmp 29 (.int .i64 ((gC (setCells (andn (regSet l) (covS ds))) k).y))) (OpVs.nil))) rfl)) (by kernel_rfl) ?_
        refine wpc (step_plain rfl (acts_call1 (d := 31) (ltN rfl) (impl_set__has_fn (andn (regSet l) (covS ds)) (⟨((gC (setCells (andn (regSet l) (covS ds))) k).x + 1), (gC (setCells (andn (regSet l) (covS ds))) k).y⟩ : Cel) (by first | omega | assumption | (have hq := okc_true.1 (set_in (s := (andn (regSet l) (covS ds))) (k := k) (by omega)); omega) | exact (isPar_step (by assumption)).1 | exact regSet_lt (isPar_step (by assumption)).1 | exact covS_lt _ | exact andn_lt (regSet_lt (isPar_step (by assumption)).1))) (ArgVs.cons (ArgV.v (OpV.tmp 24 (.int .u64 (((andn (regSet l) (covS ds)) : Nat) : Int)))) (ArgVs.cons (ArgV.va (vs := [(.int .i64 ((gC (setCells (andn (regSet l) (covS ds))) k).x + 1) : Value), .int .i64 ((gC (setCells (andn (regSet l) (covS ds))) k).y)]) (OpV.agg 30 [(.int .i64 ((gC (setCells (andn (regSet l) (covS ds))) k).x + 1) : Value), .int .i64 ((gC (setCells (andn (regSet l) (covS ds))) k).y)])) (ArgVs.nil))) ((resval (congrArg Value.bool c6))))) (by kernel_rfl) ?_
        refine wpc (step_plain rfl (acts_move (d := 32) (ltN rfl) (OpX.tmp 31 (V.v (.bool false))))) (by kernel_rfl) ?_
        refine wpc (step_on (dj := 32) rfl rfl (acts_move (d := 33) (ltN rfl) (OpX.tmp 5 (V.v (.int .u64 (((andn (regSet l) (covS ds)) : Nat) : Int)))))) (by kernel_rfl) ?_
        refine wpc (step_on (dj := 32) rfl rfl (acts_field (d := 34) (t := 7) (h := 7) (off := 0) (off' := 0) (ltN rfl) qC4_fo_49_0 rfl)) (by kernel_rfl) ?_
        refine wpc (step_on (dj := 32) rfl rfl (acts_load_own (d := 35) (t := 34) (h := 7) (off := 0) (o := ⟨49, 2, true, [(.val (.int .i64 ((gC (setCells (andn (regSet l) (covS ds))) k).x)) : A), .val (.int .i64 ((gC (setCells (andn (regSet l) (covS ds))) k).y))]⟩)  (x := .val (.int .i64 ((gC (setCells (andn (regSet l) (covS ds))) k).x))) (ltN rfl) qC4_ti_3 rfl)) (by kernel_rfl) ?_
        refine wpc (step_on (dj := 32) rfl rfl (acts_field (d := 36) (t := 7) (h := 7) (off := 0) (off' := 1) (ltN rfl) qC4_fo_49_1 rfl)) (by kernel_rfl) ?_
        refine wpc (step_on (dj := 32) rfl rfl (acts_load_own (d := 37) (t := 36) (h := 7) (off := 1) (o := ⟨49, 2, true, [(.val (.int .i64 ((gC (setCells (andn (regSet l) (covS ds))) k).x)) : A), .val (.int .i64 ((gC (setCells (andn (regSet l) (covS ds))) k).y))]⟩)  (x := .val (.int .i64 ((gC (setCells (andn (regSet l) (covS ds))) k).y))) (ltN rfl) qC4_ti_3 rfl)) (by kernel_rfl) ?_
        refine wpc (step_on (dj := 32) rfl rfl (acts_bin (d := 38) (ltN rfl) (OpV.tmp 37 (.int .i64 ((gC (setCells (andn (regSet l) (covS ds))) k).y))) (OpV.const (.int .i64 1)) (r_add (c := ((gC (setCells (andn (regSet l) (covS ds))) k).y + 1)) (w64 (by first | omega | assumption | (have hq := okc_true.1 (set_in (s := (andn (regSet l) (covS ds))) (k := k) (by omega)); omega) | exact (isPar_step (by assumption)).1 | exact regSet_lt (isPar_step (by assumption)).1 | exact covS_lt _ | exact andn_lt (regSet_lt (isPar_step (by assumption)).1)) (by first | omega | assumption | (have hq := okc_true.1 (set_in (s := (andn (regSet l) (covS ds))) (k := k) (by omega)); omega) | exact (isPar_step (by assumption)).1 | exact regSet_lt (isPar_step (by assumption)).1 | exact covS_lt _ | exact andn_lt (regSet_lt (isPar_step (by assumption)).1)))))) (by kernel_rfl) ?_
        refine wpc (step_on (dj := 32) rfl rfl (acts_build (d := 39) (t := 49) (cells := [(.int .i64 ((gC (setCells (andn (regSet l) (covS ds))) k).x) : Value), .int .i64 ((gC (setCells (andn (regSet l) (covS ds))) k).y + 1)]) (ltN rfl) (OpVs.cons (i := 0) (OpV.tmp 35 (.int .i64 ((gC (setCells (andn (regSet l) (covS ds))) k).x))) (OpVs.cons (i := 1) (OpV.tmp 38 (.int .i64 ((gC (setCells (andn (regSet l) (covS ds))) k).y + 1))) (OpVs.nil))) rfl)) (by kernel_rfl) ?_
        refine wpc (step_on (dj := 32) rfl rfl (acts_call1 (d := 40) (ltN rfl) (impl_set__has_fn (andn (regSet l) (covS ds)) (⟨(gC (setCells (andn (regSet l) (covS ds))) k).x, ((gC (setCells (andn (regSet l) (covS ds))) k).y + 1)⟩ : Cel) (by first | omega | assumption | (have hq := okc_true.1 (set_in (s := (andn (regSet l) (covS ds))) (k := k) (by omega)); omega) | exact (isPar_step (by assumption)).1 | exact regSet_lt (isPar_step (by assumption)).1 | exact covS_lt _ | exact andn_lt (regSet_lt (isPar_step (by assumption)).1))) (ArgVs.cons (ArgV.v (OpV.tmp 33 (.int .u64 (((andn (regSet l) (covS ds)) : Nat) : Int)))) (ArgVs.cons (ArgV.va (vs := [(.int .i64 ((gC (setCells (andn (regSet l) (covS ds))) k).x) : Value), .int .i64 ((gC (setCells (andn (regSet l) (covS ds))) k).y + 1)]) (OpV.agg 39 [(.int .i64 ((gC (setCells (andn (regSet l) (covS ds))) k).x) : Value), .int .i64 ((gC (setCells (andn (regSet l) (covS ds))) k).y + 1)])) (ArgVs.nil))) (ResV.val _))) (by kernel_rfl) ?_
        refine wpc (step_plain rfl (acts_pick_f (d := 41) (ltN rfl) (OpV.tmp 32 (.bool false)) (OpX.tmp 40 (V.v (.bool (hasS (andn (regSet l) (covS ds)) (⟨(gC (setCells (andn (regSet l) (covS ds))) k).x, ((gC (setCells (andn (regSet l) (covS ds))) k).y + 1)⟩ : Cel))))))) (by kernel_rfl) ?_
        refine wpl_nil ?_
        refine wp_if (t := 41) ((hasS (andn (regSet l) (covS ds)) (⟨(gC (setCells (andn (regSet l) (covS ds))) k).x, ((gC (setCells (andn (regSet l) (covS ds))) k).y + 1)⟩ : Cel))) (by kernel_rfl) (fun c7 => ?_) (fun c7 => ?_)
        · skip
          refine wp_seq' ?_
          refine wp_region_t ?_
          refine wpc (step_plain rfl (acts_assign (d := 4) (ltN rfl) (OpX.const (.bool true)))) (by kernel_rfl) ?_
          refine wpl_nil ?_
          refine wp_ret' ?_
          exact VRes.tmp 4 (.a (.val (.bool true))) _ (by kernel_rfl) (bval (congrArg Value.bool (by unfold canX lft; rw [any_atC (k := k) (p := (nxt (andn (regSet l) (covS ds)))) (l := (setCells (andn (regSet l) (covS ds)))) (by omega) (by unfold nxt; simp_all)]; simp_all)))
        · skip
          refine wp_skip' ?_
          refine wp_region_t ?_
          refine wpc (step_plain rfl (acts_bin (d := 42) (ltN rfl) (OpV.tmp 20 (.int .i64 ((k : Nat) : Int))) (OpV.const (.int .i64 1)) (r_add (c := (((k : Nat) : Int) + 1)) (w64 (by first | omega | assumption | (have hq := okc_true.1 (set_in (s := (andn (regSet l) (covS ds))) (k := k) (by omega)); omega) | exact (isPar_step (by assumption)).1 | exact regSet_lt (isPar_step (by assumption)).1 | exact covS_lt _ | exact andn_lt (regSet_lt (isPar_step (by assumption)).1)) (by first | omega | assumption | (have hq := okc_true.1 (set_in (s := (andn (regSet l) (covS ds))) (k := k) (by omega)); omega) | exact (isPar_step (by assumption)).1 | exact regSet_lt (isPar_step (by assumption)).1 | exact covS_lt _ | exact andn_lt (regSet_lt (isPar_step (by assumption)).1)))))) (by kernel_rfl) ?_
          refine wpc (step_plain rfl (acts_move (d := 20) (ltN rfl) (OpX.tmp 42 (V.v (.int .i64 (((k : Nat) : Int) + 1)))))) (by kernel_rfl) ?_
          refine wpl_nil ?_
          exact loop_back ((k + 1)) (by refine ⟨by omega, any_snocC (by omega) (by assumption) ?_⟩; unfold nxt; simp_all) (by show (setCells (andn (regSet l) (covS ds))).length - (k + 1) < (setCells (andn (regSet l) (covS ds))).length - k; omega) (weak_of id [2, 7, 10, 13, 15, 19, 31, 40] (by kernel_rfl) (wk_s (v' := V.v (.int .u64 (((andn (regSet l) (covS ds)) : Nat) : Int))) (by kernel_rfl) rfl rfl (wk_s (v' := V.b (.a (.sl 18 0 ((setCells (andn (regSet l) (covS ds))).length)))) (by kernel_rfl) rfl rfl (wk_s (v' := V.v (.int .i64 (((setCells (andn (regSet l) (covS ds))).length : Nat) : Int))) (by kernel_rfl) rfl rfl (wk_s (v' := V.v (.int .i64 (((k : Nat) : Int) + 1))) (by kernel_rfl) (vint (by first | rfl | omega | (simp; done) | (simp; omega))) rfl (wk_o (o' := ⟨49, 2, true, pl (csl (setCells (andn (regSet l) (covS ds))))⟩) (by kernel_rfl) (renob_pl (fun h => h)) rfl (wk_f rfl (wk_f rfl (wk_f rfl (wk_f rfl (wk_f rfl (wk_f rfl (wk_f rfl (wk_f rfl (wk_nil)))))))))))))))
    · skip
      have c5P := of_decide_eq_false c5
      refine wp_exit' ?_
      refine wp_seq' ?_
      refine wp_region_t ?_
      refine wpc (step_plain rfl (acts_assign (d := 4) (ltN rfl) (OpX.const (.bool false)))) (by kernel_rfl) ?_
      refine wpl_nil ?_
      refine wp_ret' ?_
      exact VRes.tmp 4 (.a (.val (.bool false))) _ (by kernel_rfl) (bval (congrArg Value.bool (by unfold canX lft; rw [nxt_end (k := k) (by omega) (by assumption)]; simp)))

set_option maxHeartbeats 4000000 in
set_option maxRecDepth 100000 in
theorem spec_CanExtend_fn (l : List Int) (ds : List Dom) (hl : l.length ≤ 4194304) (hd : ds.length ≤ 2097152) : Fn Try.prog 11 [.agg [(.slv l.length 1 (isl l) : A)], .a (.slv ds.length 3 (dsl ds))] [.val (.bool (canX l ds))] := by
  have h64 := unc_len l ds
  refine fn_intro (N := 35) Try.func11 rfl (by kernel_rfl) rfl (Nat.le_of_ble_eq_true rfl) [2, 10, 14, 17, 34] (ret1 rfl) (fun W => ?_)
  show Wp _ _ _ [(.s 0, some (.s (V.b (.agg [(.slv l.length 1 (isl l) : A)])))), (.s 1, some (.s (V.b (.a (.slv ds.length 3 (dsl ds)))))), (.o 2, some .free), (.o 10, some .free), (.o 14, some .free), (.o 17, some .free), (.o 34, some .free)]
  refine wp_seq' ?_
  refine wp_region_t ?_
  refine wpc (step_plain rfl (acts_box (d := 2) (h := 2) (b := .agg [(.slv l.length 1 (isl l) : A)]) (ltN rfl) (OpX.tmp 0 (V.b (.agg [(.slv l.length 1 (isl l) : A)]))) (by intro y hy; simp [B.cs] at hy; subst hy; rfl))) (by kernel_rfl) ?_
  refine wpc (step_plain rfl (acts_assign (d := 4) (ltN rfl) (OpX.const (.bool false)))) (by kernel_rfl) ?_
  refine wpl_nil ?_
  refine wp_seq' ?_
  refine wp_seq' ?_
  refine wp_region_t ?_
  refine wpc (step_plain rfl (acts_load_owns (d := 8) (t := 2) (h := 2) (off := 0) (o := ⟨29, 1, true, [(.slv l.length 1 (isl l) : A)]⟩)  (xs := [(.slv l.length 1 (isl l) : A)]) (ltN rfl) qC4_ti_29 rfl (by decide) rfl)) (by kernel_rfl) ?_
  refine wpc (step_plain rfl (acts_move (d := 9) (ltN rfl) (OpX.tmp 1 (V.b (.a (.slv ds.length 3 (dsl ds))))))) (by kernel_rfl) ?_
  refine wpc (step_plain rfl (acts_call1 (d := 10) (ltN rfl) (spec_IsPartial_fn l ds (by first | omega | assumption) (by first | omega | assumption)) (ArgVs.cons (ArgV.regv 8 l.length 1 (isl l)) (ArgVs.cons (ArgV.slv 9 ds.length 3 (dsl ds)) (ArgVs.nil))) (ResV.val _))) (by kernel_rfl) ?_
  refine wpc (step_plain rfl (acts_un (d := 11) (ltN rfl) (OpV.tmp 10 (.bool (isPar l ds))) (r_not (c := (!(isPar l ds))) rfl))) (by kernel_rfl) ?_
  refine wpl_nil ?_
  refine wp_if (t := 11) ((!(isPar l ds))) (by kernel_rfl) (fun c1 => ?_) (fun c1 => ?_)
  · skip
    have c2 : (isPar l ds) = false := by simpa using c1
    refine wp_seq' ?_
    refine wp_region_t ?_
    refine wpc (step_plain rfl (acts_assign (d := 4) (ltN rfl) (OpX.const (.bool false)))) (by kernel_rfl) ?_
    refine wpl_nil ?_
    refine wp_ret' ?_
    exact VRes.tmp 4 (.a (.val (.bool false))) _ (by kernel_rfl) (bval (congrArg Value.bool (by exact (canX_no (by assumption)).symm)))
  · skip
    have c3 : (isPar l ds) = true := by simpa using c1
    refine wp_skip' ?_
    refine wp_seq' ?_
    refine wp_region_t ?_
    refine wpc (step_plain rfl (acts_load_owns (d := 12) (t := 2) (h := 2) (off := 0) (o := ⟨29, 1, true, [(.slv l.length 1 (isl l) : A)]⟩)  (xs := [(.slv l.length 1 (isl l) : A)]) (ltN rfl) qC4_ti_29 rfl (by decide) rfl)) (by kernel_rfl) ?_
    refine wpc (step_plain rfl (acts_move (d := 13) (ltN rfl) (OpX.tmp 1 (V.b (.a (.slv ds.length 3 (dsl ds))))))) (by kernel_rfl) ?_
    refine wpc (step_plain rfl (acts_call1 (d := 14) (ltN rfl) (spec_UncoveredOf_fn l ds (by first | omega | assumption) (by first | omega | assumption)) (ArgVs.cons (ArgV.regv 12 l.length 1 (isl l)) (ArgVs.cons (ArgV.slv 13 ds.length 3 (dsl ds)) (ArgVs.nil))) (ResV.row 49 2 ((unc l ds).length) (csl (unc l ds)) 14))) (by kernel_rfl) ?_
    refine wpc (step_plain rfl (acts_assign (d := 5) (ltN rfl) (OpX.tmp 14 (V.b (.a (.sl 14 0 ((unc l ds).length))))))) (by kernel_rfl) ?_
    refine wpl_nil ?_
    refine wp_seq' ?_
    refine wp_seq' ?_
    refine wp_region_t ?_
    refine wpc (step_plain rfl (acts_assign (d := 6) (ltN rfl) (OpX.const (.int .i64 0)))) (by kernel_rfl) ?_
    refine wpl_nil ?_
    refine wp_block' ?_
    refine wp_loop' (fun (k : Nat) => k ≤ (unc l ds).length ∧ (List.range k).any (prB (unc l ds)) = false) (fun (k : Nat) => [(.s 5, some (.s (V.b (.a (.sl 14 0 ((unc l ds).length)))))), (.s 6, some (.s (V.v (.int .i64 ((k : Nat) : Int))))), (.o 14, some (.o ⟨49, 2, true, pl (csl (unc l ds))⟩)), (.o 2, some .free), (.o 10, some .free), (.o 17, some .free), (.o 34, some .free)]) (fun (k : Nat) => (unc l ds).length - k) ((0 : Nat)) (by exact ⟨Nat.zero_le _, rfl⟩) (weak_of id [2, 10, 17, 34] (by kernel_rfl) (wk_s (v' := V.b (.a (.sl 14 0 ((unc l ds).length)))) (by kernel_rfl) rfl rfl (wk_s (v' := V.v (.int .i64 0)) (by kernel_rfl) (vint (by first | rfl | omega | (simp; done) | (simp; omega))) rfl (wk_o (o' := ⟨49, 2, true, pl (csl (unc l ds))⟩) (by kernel_rfl) (renob_pl (fun h => h)) rfl (wk_f rfl (wk_f rfl (wk_f rfl (wk_f rfl (wk_nil))))))))) ?_
    rintro k inv4
    replace inv4 : k ≤ (unc l ds).length ∧ (List.range k).any (prB (unc l ds)) = false := inv4
    obtain ⟨inv4_0, inv4_1⟩ := inv4
    show Wp _ _ _ [(.s 5, some (.s (V.b (.a (.sl 14 0 ((unc l ds).length)))))), (.s 6, some (.s (V.v (.int .i64 ((k : Nat) : Int))))), (.o 14, some (.o ⟨49, 2, true, pl (csl (unc l ds))⟩)), (.o 2, some .free), (.o 10, some .free), (.o 17, some .free), (.o 34, some .free)]
    refine wp_seq' ?_
    refine wp_seq' ?_
    refine wp_region_t ?_
    refine wpc (step_plain rfl (acts_move (d := 15) (ltN rfl) (OpX.tmp 6 (V.v (.int .i64 ((k : Nat) : Int)))))) (by kernel_rfl) ?_
    refine wpc (step_plain rfl (acts_move (d := 16) (ltN rfl) (OpX.tmp 5 (V.b (.a (.sl 14 0 ((unc l ds).length))))))) (by kernel_rfl) ?_
    refine wpc (step_plain rfl (acts_len (d := 17) (X := .sl 14 0 ((unc l ds).length)) (n := ((unc l ds).length)) (iv := (((unc l ds).length : Nat) : Int)) (ltN rfl) qC4_un_41 (OpX.tmp 16 (V.b (.a (.sl 14 0 ((unc l ds).length))))) (LenOf.sl _ _ _) rfl)) (by kernel_rfl) ?_
    refine wpc (step_plain rfl (acts_bin (d := 18) (ltN rfl) (OpV.tmp 15 (.int .i64 ((k : Nat) : Int))) (OpV.tmp 17 (.int .i64 (((unc l ds).length : Nat) : Int))) (r_lss (c := (decide (((k : Nat) : Int) < (((unc l ds).length : Nat) : Int)))) rfl))) (by kernel_rfl) ?_
    refine wpl_nil ?_
    refine wp_if (t := 18) (decide (((k : Nat) : Int) < (((unc l ds).length : Nat) : Int))) (by kernel_rfl) (fun c5 => ?_) (fun c5 => ?_)
    · skip
      have c5P := of_decide_eq_true c5
      refine wp_skip' ?_
      refine wp_seq' ?_
      refine wp_block' ?_
      refine wp_seq' ?_
      refine wp_region_t ?_
      refine wpc (step_plain rfl (acts_assign (d := 7) (ltN rfl) (OpX.const (.int .i64 0)))) (by kernel_rfl) ?_
      refine wpl_nil ?_
      refine wp_block' ?_
      refine wp_loop' (fun (j : Nat) => j ≤ k ∧ (List.range j).any (fun i => nbr (gC (unc l ds) i) (gC (unc l ds) k)) = false) (fun (j : Nat) => [(.s 5, some (.s (V.b (.a (.sl 14 0 ((unc l ds).length)))))), (.s 6, some (.s (V.v (.int .i64 ((k : Nat) : Int))))), (.s 7, some (.s (V.v (.int .i64 ((j : Nat) : Int))))), (.s 15, some (.s (V.v (.int .i64 ((k : Nat) : Int))))), (.s 16, some (.s (V.b (.a (.sl 14 0 ((unc l ds).length)))))), (.s 17, some (.s (V.v (.int .i64 (((unc l ds).length : Nat) : Int))))), (.s 18, some (.s (V.v (.bool (decide (((k : Nat) : Int) < (((unc l ds).length : Nat) : Int))))))), (.o 14, some (.o ⟨49, 2, true, pl (csl (unc l ds))⟩)), (.o 2, some .free), (.o 10, some .free), (.o 17, some .free), (.o 34, some .free)]) (fun (j : Nat) => k - j) ((0 : Nat)) (by exact ⟨Nat.zero_le _, rfl⟩) (weak_of id [2, 10, 17, 34] (by kernel_rfl) (wk_s (v' := V.b (.a (.sl 14 0 ((unc l ds).length)))) (by kernel_rfl) rfl rfl (wk_s (v' := V.v (.int .i64 ((k : Nat) : Int))) (by kernel_rfl) rfl rfl (wk_s (v' := V.v (.int .i64 0)) (by kernel_rfl) (vint (by first | rfl | omega | (simp; done) | (simp; omega))) rfl (wk_s (v' := V.v (.int .i64 ((k : Nat) : Int))) (by kernel_rfl) rfl rfl (wk_s (v' := V.b (.a (.sl 14 0 ((unc l ds).length)))) (by kernel_rfl) rfl rfl (wk_s (v' := V.v (.int .i64 (((unc l ds).length : Nat) : Int))) (by kernel_rfl) rfl rfl (wk_s (v' := V.v (.bool (decide (((k : Nat) : Int) < (((unc l ds).length : Nat) : Int))))) (by kernel_rfl) rfl rfl (wk_o (o' := ⟨49, 2, true, pl (csl (unc l ds))⟩) (by kernel_rfl) (renob_pl (fun h => h)) rfl (wk_f rfl (wk_f rfl (wk_f rfl (wk_f rfl (wk_nil)))))))))))))) ?_
      rintro j inv6
      replace inv6 : j ≤ k ∧ (List.range j).any (fun i => nbr (gC (unc l ds) i) (gC (unc l ds) k)) = false := inv6
      obtain ⟨inv6_0, inv6_1⟩ := inv6
      show Wp _ _ _ [(.s 5, some (.s (V.b (.a (.sl 14 0 ((unc l ds).length)))))), (.s 6, some (.s (V.v (.int .i64 ((k : Nat) : Int))))), (.s 7, some (.s (V.v (.int .i64 ((j : Nat) : Int))))), (.s 15, some (.s (V.v (.int .i64 ((k : Nat) : Int))))), (.s 16, some (.s (V.b (.a (.sl 14 0 ((unc l ds).length)))))), (.s 17, some (.s (V.v (.int .i64 (((unc l ds).length : Nat) : Int))))), (.s 18, some (.s (V.v (.bool (decide (((k : Nat) : Int) < (((unc l ds).length : Nat) : Int))))))), (.o 14, some (.o ⟨49, 2, true, pl (csl (unc l ds))⟩)), (.o 2, some .free), (.o 10, some .free), (.o 17, some .free), (.o 34, some .free)]
      refine wp_seq' ?_
      refine wp_seq' ?_
      refine wp_region_t ?_
      refine wpc (step_plain rfl (acts_move (d := 21) (ltN rfl) (OpX.tmp 7 (V.v (.int .i64 ((j : Nat) : Int)))))) (by kernel_rfl) ?_
      refine wpc (step_plain rfl (acts_move (d := 22) (ltN rfl) (OpX.tmp 6 (V.v (.int .i64 ((k : Nat) : Int)))))) (by kernel_rfl) ?_
      refine wpc (step_plain rfl (acts_bin (d := 23) (ltN rfl) (OpV.tmp 21 (.int .i64 ((j : Nat) : Int))) (OpV.tmp 22 (.int .i64 ((k : Nat) : Int))) (r_lss (c := (decide (((j : Nat) : Int) < ((k : Nat) : Int)))) rfl))) (by kernel_rfl) ?_
      refine wpl_nil ?_
      refine wp_if (t := 23) (decide (((j : Nat) : Int) < ((k : Nat) : Int))) (by kernel_rfl) (fun c7 => ?_) (fun c7 => ?_)
      · skip
        have c7P := of_decide_eq_true c7
        refine wp_skip' ?_
        refine wp_seq' ?_
        refine wp_block' ?_
        refine wp_seq' ?_
        refine wp_drawn' (by kernel_rfl) (AllSteps.cons (step_plain rfl (acts_move (d := 26) (ltN rfl) (OpX.tmp 5 (V.b (.a (.sl 14 0 ((unc l ds).length))))))) (AllSteps.cons (step_plain rfl (acts_move (d := 27) (ltN rfl) (OpX.tmp 7 (V.v (.int .i64 ((j : Nat) : Int)))))) (AllSteps.cons (step_plain rfl (acts_index_sl (d := 28) (x := 26) (h := 14) (off := 0) (n := ((unc l ds).length)) (k := j) (off' := (j * 2)) (o := ⟨49, 2, true, pl (csl (unc l ds))⟩) (ltN rfl) qC4_un_41 qC4_sz_49 (OpV.tmp 27 (.int .i64 ((j : Nat) : Int))) rfl (by first | omega | assumption) (by first | (simp; done) | (simp; omega) | omega))) (AllSteps.cons (step_plain rfl (acts_load_owns (d := 29) (t := 28) (h := 14) (off := (j * 2)) (o := ⟨49, 2, true, pl (csl (unc l ds))⟩)  (xs := [(.int .i64 ((gC (unc l ds) j).x) : Value), .int .i64 ((gC (unc l ds) j).y)].map A.val) (ltN rfl) qC4_ti_49 rfl (by decide) (pl_at (csl_at (k := j) (by first | omega | assumption))))) (AllSteps.cons (step_plain rfl (acts_move (d := 30) (ltN rfl) (OpX.tmp 5 (V.b (.a (.sl 14 0 ((unc l ds).length))))))) (AllSteps.cons (step_plain rfl (acts_move (d := 31) (ltN rfl) (OpX.tmp 6 (V.v (.int .i64 ((k : Nat) : Int)))))) (AllSteps.cons (step_plain rfl (acts_index_sl (d := 32) (x := 30) (h := 14) (off := 0) (n := ((unc l ds).length)) (k := k) (off' := (k * 2)) (o := ⟨49, 2, true, pl (csl (unc l ds))⟩) (ltN rfl) qC4_un_41 qC4_sz_49 (OpV.tmp 31 (.int .i64 ((k : Nat) : Int))) rfl (by first | omega | assumption) (by first | (simp; done) | (simp; omega) | omega))) (AllSteps.cons (step_plain rfl (acts_load_owns (d := 33) (t := 32) (h := 14) (off := (k * 2)) (o := ⟨49, 2, true, pl (csl (unc l ds))⟩)  (xs := [(.int .i64 ((gC (unc l ds) k).x) : Value), .int .i64 ((gC (unc l ds) k).y)].map A.val) (ltN rfl) qC4_ti_49 rfl (by decide) (pl_at (csl_at (k := k) (by first | omega | assumption))))) (AllSteps.cons (step_plain rfl (acts_call1 (d := 34) (ltN rfl) (spec_AreNeighbors_fn (gC (unc l ds) j) (gC (unc l ds) k) ) (ArgVs.cons (ArgV.va (vs := [(.int .i64 ((gC (unc l ds) j).x) : Value), .int .i64 ((gC (unc l ds) j).y)]) (OpV.agg 29 [(.int .i64 ((gC (unc l ds) j).x) : Value), .int .i64 ((gC (unc l ds) j).y)])) (ArgVs.cons (ArgV.va (vs := [(.int .i64 ((gC (unc l ds) k).x) : Value), .int .i64 ((gC (unc l ds) k).y)]) (OpV.agg 33 [(.int .i64 ((gC (unc l ds) k).x) : Value), .int .i64 ((gC (unc l ds) k).y)])) (ArgVs.nil))) (ResV.val _))) (AllSteps.nil)))))))))) (by kernel_rfl) (by kernel_rfl) (by kernel_rfl) ?_
        refine wp_if (t := 34) ((nbr (gC (unc l ds) j) (gC (unc l ds) k))) (by kernel_rfl) (fun c8 => ?_) (fun c8 => ?_)
        · skip
          refine wp_seq' ?_
          refine wp_region_t ?_
          refine wpc (step_plain rfl (acts_assign (d := 4) (ltN rfl) (OpX.const (.bool true)))) (by kernel_rfl) ?_
          refine wpl_nil ?_
          refine wp_ret' ?_
          exact VRes.tmp 4 (.a (.val (.bool true))) _ (by kernel_rfl) (bval (congrArg Value.bool (by rw [canX_pairs (by assumption)]; exact (pairs_yes (k := k) (j := j) (by omega) (by omega) (by assumption)).symm)))
        · skip
          refine wp_skip' ?_
          refine wp_region_t ?_
          refine wpc (step_plain rfl (acts_move (d := 24) (ltN rfl) (OpX.tmp 7 (V.v (.int .i64 ((j : Nat) : Int)))))) (by kernel_rfl) ?_
          refine wpc (step_plain rfl (acts_bin (d := 25) (ltN rfl) (OpV.tmp 24 (.int .i64 ((j : Nat) : Int))) (OpV.const (.int .i64 1)) (r_add (c := (((j : Nat) : Int) + 1)) (w64 (by first | omega | assumption) (by first | omega | assumption))))) (by kernel_rfl) ?_
          refine wpc (step_plain rfl (acts_assign (d := 7) (ltN rfl) (OpX.tmp 25 (V.v (.int .i64 (((j : Nat) : Int) + 1)))))) (by kernel_rfl) ?_
          refine wpl_nil ?_
          exact loop_back ((j + 1)) (by exact ⟨by omega, pr_snoc (by assumption) (by assumption)⟩) (by show k - (j + 1) < k - j; omega) (weak_of id [2, 10, 17, 34] (by kernel_rfl) (wk_s (v' := V.b (.a (.sl 14 0 ((unc l ds).length)))) (by kernel_rfl) rfl rfl (wk_s (v' := V.v (.int .i64 ((k : Nat) : Int))) (by kernel_rfl) rfl rfl (wk_s (v' := V.v (.int .i64 (((j : Nat) : Int) + 1))) (by kernel_rfl) (vint (by first | rfl | omega | (simp; done) | (simp; omega))) rfl (wk_s (v' := V.v (.int .i64 ((k : Nat) : Int))) (by kernel_rfl) rfl rfl (wk_s (v' := V.b (.a (.sl 14 0 ((unc l ds).length)))) (by kernel_rfl) rfl rfl (wk_s (v' := V.v (.int .i64 (((unc l ds).length : Nat) : Int))) (by kernel_rfl) rfl rfl (wk_s (v' := V.v (.bool (decide (((k : Nat) : Int) < (((unc l ds).length : Nat) : Int))))) (by kernel_rfl) rfl rfl (wk_o (o' := ⟨49, 2, true, pl (csl (unc l ds))⟩) (by kernel_rfl) (renob_pl (fun h => h)) rfl (wk_f rfl (wk_f rfl (wk_f rfl (wk_f rfl (wk_nil))))))))))))))
      · skip
        have c7P := of_decide_eq_false c7
        refine wp_exit' ?_
        refine wp_region_t ?_
        refine wpc (step_plain rfl (acts_move (d := 19) (ltN rfl) (OpX.tmp 6 (V.v (.int .i64 ((k : Nat) : Int)))))) (by kernel_rfl) ?_
        refine wpc (step_plain rfl (acts_bin (d := 20) (ltN rfl) (OpV.tmp 19 (.int .i64 ((k : Nat) : Int))) (OpV.const (.int .i64 1)) (r_add (c := (((k : Nat) : Int) + 1)) (w64 (by first | omega | assumption) (by first | omega | assumption))))) (by kernel_rfl) ?_
        refine wpc (step_plain rfl (acts_assign (d := 6) (ltN rfl) (OpX.tmp 20 (V.v (.int .i64 (((k : Nat) : Int) + 1)))))) (by kernel_rfl) ?_
        refine wpl_nil ?_
        exact loop_back ((k + 1)) (by exact ⟨by omega, pairs_snoc (by assumption) (prB_end (by assumption) (by assumption) (by assumption))⟩) (by show (unc l ds).length - (k + 1) < (unc l ds).length - k; omega) (weak_of id [2, 10, 17, 34] (by kernel_rfl) (wk_s (v' := V.b (.a (.sl 14 0 ((unc l ds).length)))) (by kernel_rfl) rfl rfl (wk_s (v' := V.v (.int .i64 (((k : Nat) : Int) + 1))) (by kernel_rfl) (vint (by first | rfl | omega | (simp; done) | (simp; omega))) rfl (wk_o (o' := ⟨49, 2, true, pl (csl (unc l ds))⟩) (by kernel_rfl) (renob_pl (fun h => h)) rfl (wk_f rfl (wk_f rfl (wk_f rfl (wk_f rfl (wk_nil)))))))))
    · skip
      have c5P := of_decide_eq_false c5
      refine wp_exit' ?_
      refine wp_seq' ?_
      refine wp_region_t ?_
      refine wpc (step_plain rfl (acts_assign (d := 4) (ltN rfl) (OpX.const (.bool false)))) (by kernel_rfl) ?_
      refine wpl_nil ?_
      refine wp_ret' ?_
      exact VRes.tmp 4 (.a (.val (.bool false))) _ (by kernel_rfl) (bval (congrArg Value.bool (by rw [canX_pairs (by assumption)]; exact (pairs_end (by omega) (by omega) (by assumption)).symm)))
end Cl
end Go.Proofs.Ytafbklfdgpfmgaa
