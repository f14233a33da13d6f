/- Walks over clean states, printed by wg.py. No statement is proved here. -/
import Derived.Test.YtabgfoindidigaaC14
namespace Go.Proofs.Ytabgfoindidigaa
namespace Cl
open Go.ChangeShapes Go.WideShapes Go.ChangeAt Go.RowKit

def eqP (a : Nat) : Nat → Bool := fun n => decide (n = a)
def frcT (l : List Int) : List Dom := if cntR l = 0 then [] else cwD l (eqP (cntR l))
theorem frcT_len (l : List Int) : (frcT l).length ≤ 128 := by
  unfold frcT; split
  · simp
  · exact cwD_len _ _
theorem frcT_no {l : List Int} (h : cntR l = 0) : frcT l = [] := by unfold frcT; rw [if_pos h]
theorem frcT_yes {l : List Int} (h : ¬ cntR l = 0) : frcT l = cwD l (eqP (cntR l)) := by unfold frcT; rw [if_neg h]
theorem frcT_all {l : List Int} (h : ¬ cntR l = 0) : frcT l = (allD l).filter (fun d => eqP (cntR l) (cntW l d)) := by
  rw [frcT_yes h]; exact cw_all (by unfold eqP; simp; exact fun e => h e.symm)

theorem qC15_fo_39_0 : fieldOff Try.prog 39 0 = some 0 := by kernel_rfl
theorem qC15_fo_39_1 : fieldOff Try.prog 39 1 = some 1 := by kernel_rfl
theorem qC15_sz_32 : (Try.prog.info? 32).map (·.size) = some 3 := by kernel_rfl
theorem qC15_sz_4 : (Try.prog.info? 4).map (·.size) = some 1 := by kernel_rfl
theorem qC15_ti_3 : TI Try.prog 3 false 1 := ⟨⟨_, Try.underlying3, rfl⟩, by kernel_rfl⟩
theorem qC15_ti_30 : TI Try.prog 30 true 1 := ⟨⟨_, Try.underlying30, rfl⟩, by kernel_rfl⟩
theorem qC15_ti_32 : TI Try.prog 32 true 3 := ⟨⟨_, Try.underlying32, rfl⟩, by kernel_rfl⟩
theorem qC15_ti_39 : TI Try.prog 39 true 2 := ⟨⟨_, Try.underlying39, rfl⟩, by kernel_rfl⟩
theorem qC15_ti_4 : TI Try.prog 4 false 1 := ⟨⟨_, Try.underlying4, rfl⟩, by kernel_rfl⟩
theorem qC15_un_42 : Try.prog.underlying 42 = some (.slice 32) := Try.underlying42
theorem qC15_un_92 : Try.prog.underlying 92 = some (.slice 4) := Try.underlying92
theorem qC15_zi_3 : ZI Try.prog 3 (.int .i64 0) 1 8 := by unfold ZI; kernel_rfl
theorem qC15_zi_32 : ZI Try.prog 32 (.agg #[.int .i64 0, .int .i64 0, .bool false]) 3 24 := by unfold ZI; kernel_rfl
theorem qC15_zi_39 : ZI Try.prog 39 (.agg #[.int .i64 0, .int .i64 0]) 2 16 := by unfold ZI; kernel_rfl
theorem qC15_zi_4 : ZI Try.prog 4 (.bool false) 1 1 := by unfold ZI; kernel_rfl
set_option maxHeartbeats 4000000 in
set_option maxRecDepth 100000 in
theorem impl_ForcedDominoes_1_fn (n a : Nat) : FnO Try.prog 51 [.a (.val (.int .i64 ((n : Nat) : Int))), .a (.ptr 1 0)] [(.o 1, some (.o ⟨3, 1, true, [(.val (.int .i64 ((a : Nat) : Int)) : A)]⟩))] (V.v (.bool (eqP a n))) [(.o 1, some (.o ⟨3, 1, true, [(.val (.int .i64 ((a : Nat) : Int)) : A)]⟩))] [1] := by
  refine fn_introO (N := 7) Try.func51 rfl (by kernel_rfl) rfl (Nat.le_of_ble_eq_true rfl) rfl rfl (by kernel_rfl) (by kernel_rfl) ⟨ocs (by kernel_rfl), trivial⟩ [] (retO1 rfl) (fun W own kp im0 => ?_)
  show Wp _ _ _ [(.s 0, some (.s (V.v (.int .i64 ((n : Nat) : Int))))), (.s 1, some (.s (V.p 1 0))), (.o 1, some (.o ⟨3, 1, true, [(.val (.int .i64 ((a : Nat) : Int)) : A)]⟩))]
  refine wp_seq' ?_
  refine wp_region_t ?_
  refine wpc (step_plain rfl (acts_assign (d := 3) (ltN rfl) (OpX.const (.bool false)))) (by kernel_rfl) ?_
  refine wpl_nil ?_
  refine wp_seq' ?_
  refine wp_region_t ?_
  refine wpc (step_plain rfl (acts_move (d := 4) (ltN rfl) (OpX.tmp 0 (V.v (.int .i64 ((n : Nat) : Int)))))) (by kernel_rfl) ?_
  refine wpc (step_plain rfl (acts_load_own (d := 5) (t := 1) (h := 1) (off := 0) (o := ⟨3, 1, true, [(.val (.int .i64 ((a : Nat) : Int)) : A)]⟩)  (x := .val (.int .i64 ((a : Nat) : Int))) (ltN rfl) qC15_ti_3 rfl)) (by kernel_rfl) ?_
  refine wpc (step_plain rfl (acts_bin (d := 6) (ltN rfl) (OpV.tmp 4 (.int .i64 ((n : Nat) : Int))) (OpV.tmp 5 (.int .i64 ((a : Nat) : Int))) (r_eql (c := (decide (((n : Nat) : Int) = ((a : Nat) : Int)))) rfl))) (by kernel_rfl) ?_
  refine wpc (step_plain rfl (acts_assign (d := 3) (ltN rfl) (OpX.tmp 6 (V.v (.bool (decide (((n : Nat) : Int) = ((a : Nat) : Int)))))))) (by kernel_rfl) ?_
  refine wpl_nil ?_
  refine wp_ret' ?_
  exact ⟨_, weak_id, ⟨by kernel_rfl, trivial⟩, vo_eq 3 (.a (.val (.bool (decide (((n : Nat) : Int) = ((a : Nat) : Int)))))) (.a (.val (.bool (eqP a n)))) (by kernel_rfl) (congrArg (fun z : Bool => B.a (.val (.bool z))) (by (unfold eqP; rw [decide_eq_decide]; omega)))⟩

set_option maxHeartbeats 4000000 in
set_option maxRecDepth 100000 in
theorem dominoesWhere2_fn (l : List Int) (a : Nat) (hl : l.length ≤ 4194304) : FnO Try.prog 47 [.agg [(.slv l.length 1 (isl l) : A)], .a (.fn 51 [1])] [(.o 1, some (.o ⟨3, 1, true, [(.val (.int .i64 ((a : Nat) : Int)) : A)]⟩))] (V.b (.a (.sl 7 0 ((cwD l (eqP a)).length)))) [(.o 1, some (.o ⟨3, 1, true, [(.val (.int .i64 ((a : Nat) : Int)) : A)]⟩)), (.o 7, some (.o ⟨32, 3, true, pl (dsl (cwD l (eqP a)))⟩))] [1] := by
  have hb2 : ([false, true] : List Bool).length = 2 := rfl
  refine fn_introO (N := 45) Try.func47 rfl (by kernel_rfl) rfl (Nat.le_of_ble_eq_true rfl) rfl rfl (by kernel_rfl) (by kernel_rfl) ⟨ocs (by kernel_rfl), trivial⟩ [2, 9, 10, 11, 15, 16, 22, 30, 35, 36, 40, 41] (retO1 rfl) (fun W own kp im0 => ?_)
  show Wp _ _ _ [(.s 0, some (.s (V.b (.agg [(.slv l.length 1 (isl l) : A)])))), (.s 1, some (.s (V.b (.a (.fn 51 [1]))))), (.o 1, some (.o ⟨3, 1, true, [(.val (.int .i64 ((a : Nat) : Int)) : A)]⟩)), (.o 2, some .free), (.o 9, some .free), (.o 10, some .free), (.o 11, some .free), (.o 15, some .free), (.o 16, some .free), (.o 22, some .free), (.o 30, some .free), (.o 35, some .free), (.o 36, some .free), (.o 40, some .free), (.o 41, some .free)]
  refine wp_seq' ?_
  refine wp_region_t ?_
  refine wpc (step_plain rfl (acts_box (d := 2) (h := 2) (b := .agg [(.slv l.length 1 (isl l) : A)]) (ltN rfl) (OpX.tmp 0 (V.b (.agg [(.slv l.length 1 (isl l) : A)]))) (by intro y hy; simp [B.cs] at hy; subst hy; rfl))) (by kernel_rfl) ?_
  refine wpc (step_plain rfl (acts_assign (d := 4) (ltN rfl) (OpX.const (.slice none 0 0)))) (by kernel_rfl) ?_
  refine wpl_nil ?_
  refine wp_seq' ?_
  refine wp_region_t ?_
  refine wpc (step_plain rfl (acts_buildSlice0' (d := 11) (h := 11) (s := 3) (ltN rfl) qC15_un_42 qC15_zi_32)) (by kernel_rfl) ?_
  refine wpc (step_plain rfl (acts_assign (d := 5) (ltN rfl) (OpX.tmp 11 (V.b (.a (.sl 11 0 0)))))) (by kernel_rfl) ?_
  refine wpl_nil ?_
  refine wp_seq' ?_
  refine wp_seq' ?_
  refine wp_region_t ?_
  refine wpc (step_plain rfl (acts_move (d := 12) (ltN rfl) (OpX.const (.int .i64 0)))) (by kernel_rfl) ?_
  refine wpl_nil ?_
  refine wp_block' ?_
  refine wp_loop' (fun (i : Nat) => i ≤ 64) (fun (i : Nat) => [(.s 1, some (.s (V.b (.a (.fn 51 [1]))))), (.s 2, some (.s (V.p 2 0))), (.s 5, some (.s (V.b (.a (.sl 11 0 ((dmT cN (fun d => okD d && eqP a (cntW l d)) i).length)))))), (.s 12, some (.s (V.v (.int .i64 ((i : Nat) : Int))))), (.o 1, some (.o ⟨3, 1, true, [(.val (.int .i64 ((a : Nat) : Int)) : A)]⟩)), (.o 2, some (.o ⟨30, 1, true, [(.slv l.length 1 (isl l) : A)]⟩)), (.o 11, some (.o ⟨32, 3, true, pl (dsl (dmT cN (fun d => okD d && eqP a (cntW l d)) i))⟩)), (.o 9, some .free), (.o 10, some .free), (.o 15, some .free), (.o 16, some .free), (.o 22, some .free), (.o 30, some .free), (.o 35, some .free), (.o 36, some .free), (.o 40, some .free), (.o 41, some .free)]) (fun (i : Nat) => 64 - i) ((0 : Nat)) (by exact (Nat.zero_le _ : 0 ≤ _)) (weak_of id [9, 10, 15, 16, 22, 30, 35, 36, 40, 41] (by kernel_rfl) (wk_s (v' := V.b (.a (.fn 51 [1]))) (by kernel_rfl) rfl rfl (wk_s (v' := V.p 2 0) (by kernel_rfl) rfl rfl (wk_s (v' := V.b (.a (.sl 11 0 0))) (by kernel_rfl) (vsl (by rfl) rfl) rfl (wk_s (v' := V.v (.int .i64 0)) (by kernel_rfl) (vint (by rfl)) rfl (wk_o (o' := ⟨3, 1, true, [(.val (.int .i64 ((a : Nat) : Int)) : A)]⟩) (by kernel_rfl) (renob_l (fun h => h) rfl rfl) rfl (wk_o (o' := ⟨30, 1, true, [(.slv l.length 1 (isl l) : A)]⟩) (by kernel_rfl) (renob_l (fun h => h) rfl rfl) rfl (wk_o (o' := ⟨32, 3, true, pl (dsl [])⟩) (by kernel_rfl) (renob_eq (fun h => h) (congrArg dsl (by rfl))) rfl (wk_f rfl (wk_f rfl (wk_f rfl (wk_f rfl (wk_f rfl (wk_f rfl (wk_f rfl (wk_f rfl (wk_f rfl (wk_f rfl (wk_nil))))))))))))))))))) ?_
  rintro i inv1
  replace inv1 : i ≤ 64 := inv1
  have invi := inv1
  show Wp _ _ _ [(.s 1, some (.s (V.b (.a (.fn 51 [1]))))), (.s 2, some (.s (V.p 2 0))), (.s 5, some (.s (V.b (.a (.sl 11 0 ((dmT cN (fun d => okD d && eqP a (cntW l d)) i).length)))))), (.s 12, some (.s (V.v (.int .i64 ((i : Nat) : Int))))), (.o 1, some (.o ⟨3, 1, true, [(.val (.int .i64 ((a : Nat) : Int)) : A)]⟩)), (.o 2, some (.o ⟨30, 1, true, [(.slv l.length 1 (isl l) : A)]⟩)), (.o 11, some (.o ⟨32, 3, true, pl (dsl (dmT cN (fun d => okD d && eqP a (cntW l d)) i))⟩)), (.o 9, some .free), (.o 10, some .free), (.o 15, some .free), (.o 16, some .free), (.o 22, some .free), (.o 30, some .free), (.o 35, some .free), (.o 36, some .free), (.o 40, some .free), (.o 41, some .free)]
  have hml := dmT_len cN (fun d => okD d && eqP a (cntW l d)) i
  refine wp_seq' ?_
  refine wp_region_t ?_
  refine wpc (step_plain rfl (acts_bin (d := 13) (ltN rfl) (OpV.tmp 12 (.int .i64 ((i : Nat) : Int))) (OpV.const (.int .i64 64)) (r_lss (c := (decide (((i : Nat) : Int) < 64))) rfl))) (by kernel_rfl) ?_
  refine wpl_nil ?_
  refine wp_seq' ?_
  refine wp_if (t := 13) (decide (((i : Nat) : Int) < 64)) (by kernel_rfl) (fun c2 => ?_) (fun c2 => ?_)
  · skip
    have c2P := of_decide_eq_true c2
    refine wp_skip' ?_
    refine wp_seq' ?_
    refine wp_block' ?_
    refine wp_seq' ?_
    refine wp_region_t ?_
    refine wpc (step_plain rfl (acts_move (d := 14) (ltN rfl) (OpX.tmp 12 (V.v (.int .i64 ((i : Nat) : Int)))))) (by kernel_rfl) ?_
    refine wpc (step_plain rfl (acts_assign (d := 6) (ltN rfl) (OpX.tmp 14 (V.v (.int .i64 ((i : Nat) : Int)))))) (by kernel_rfl) ?_
    refine wpl_nil ?_
    refine wp_seq' ?_
    refine wp_region_t ?_
    refine wpc (step_plain rfl (acts_buildSlice' (d := 15) (h := 15) (n := 2) (s := 1) (xs := bsl ([false, true] : List Bool)) (ltN rfl) qC15_un_92 qC15_zi_4 (OpVs.cons (i := 0) (OpV.const (.bool false)) (OpVs.cons (i := 1) (OpV.const (.bool true)) (OpVs.nil))) (by decide) (by decide) (by kernel_rfl) rfl)) (by kernel_rfl) ?_
    refine wpc (step_plain rfl (acts_len (d := 16) (X := .sl 15 0 2) (n := 2) (iv := 2) (ltN rfl) qC15_un_92 (OpX.tmp 15 (V.b (.a (.sl 15 0 2)))) (LenOf.sl _ _ _) rfl)) (by kernel_rfl) ?_
    refine wpc (step_plain rfl (acts_move (d := 17) (ltN rfl) (OpX.const (.int .i64 0)))) (by kernel_rfl) ?_
    refine wpl_nil ?_
    refine wp_block' ?_
    refine wp_loop' (fun (j : Nat) => j ≤ 2) (fun (j : Nat) => [(.s 1, some (.s (V.b (.a (.fn 51 [1]))))), (.s 2, some (.s (V.p 2 0))), (.s 5, some (.s (V.b (.a (.sl 11 0 ((dmJ cN (gB [false, true]) (fun d => okD d && eqP a (cntW l d)) i j).length)))))), (.s 6, some (.s (V.v (.int .i64 ((i : Nat) : Int))))), (.s 12, some (.s (V.v (.int .i64 ((i : Nat) : Int))))), (.s 15, some (.s (V.b (.a (.sl 15 0 2))))), (.s 16, some (.s (V.v (.int .i64 2)))), (.s 17, some (.s (V.v (.int .i64 ((j : Nat) : Int))))), (.o 1, some (.o ⟨3, 1, true, [(.val (.int .i64 ((a : Nat) : Int)) : A)]⟩)), (.o 2, some (.o ⟨30, 1, true, [(.slv l.length 1 (isl l) : A)]⟩)), (.o 11, some (.o ⟨32, 3, true, pl (dsl (dmJ cN (gB [false, true]) (fun d => okD d && eqP a (cntW l d)) i j))⟩)), (.o 15, some (.o ⟨4, 1, true, pl (bsl [false, true])⟩)), (.o 9, some .free), (.o 10, some .free), (.o 16, some .free), (.o 22, some .free), (.o 30, some .free), (.o 35, some .free), (.o 36, some .free), (.o 40, some .free), (.o 41, some .free)]) (fun (j : Nat) => 2 - j) ((0 : Nat)) (by exact (Nat.zero_le _ : 0 ≤ _)) (weak_of id [9, 10, 16, 22, 30, 35, 36, 40, 41] (by kernel_rfl) (wk_s (v' := V.b (.a (.fn 51 [1]))) (by kernel_rfl) rfl rfl (wk_s (v' := V.p 2 0) (by kernel_rfl) rfl rfl (wk_s (v' := V.b (.a (.sl 11 0 ((dmT cN (fun d => okD d && eqP a (cntW l d)) i).length)))) (by kernel_rfl) (vsl (by (exact congrArg List.length (by first | rfl | exact (dmJ_zero _ _ _ _).symm | exact dmJ_zero _ _ _ _ | exact (dmJ_yes (and_t (by assumption) (by assumption))).symm | exact dmJ_yes (and_t (by assumption) (by assumption)) | exact dmJ_no (and_f1 (by assumption)) | exact dmJ_no (and_f2 (by assumption)) | exact (dmJ_no (and_f1 (by assumption))).symm | exact (dmJ_no (and_f2 (by assumption))).symm | omega))) rfl) rfl (wk_s (v' := V.v (.int .i64 ((i : Nat) : Int))) (by kernel_rfl) rfl rfl (wk_s (v' := V.v (.int .i64 ((i : Nat) : Int))) (by kernel_rfl) rfl rfl (wk_s (v' := V.b (.a (.sl 15 0 2))) (by kernel_rfl) rfl rfl (wk_s (v' := V.v (.int .i64 2)) (by kernel_rfl) rfl rfl (wk_s (v' := V.v (.int .i64 0)) (by kernel_rfl) (vint (by rfl)) rfl (wk_o (o' := ⟨3, 1, true, [(.val (.int .i64 ((a : Nat) : Int)) : A)]⟩) (by kernel_rfl) (renob_l (fun h => h) rfl rfl) rfl (wk_o (o' := ⟨30, 1, true, [(.slv l.length 1 (isl l) : A)]⟩) (by kernel_rfl) (renob_l (fun h => h) rfl rfl) rfl (wk_o (o' := ⟨32, 3, true, pl (dsl (dmT cN (fun d => okD d && eqP a (cntW l d)) i))⟩) (by kernel_rfl) (renob_eq (fun h => h) (congrArg dsl (by exact dmJ_zero _ _ _ _))) rfl (wk_o (o' := ⟨4, 1, true, pl (bsl [false, true])⟩) (by kernel_rfl) (renob_pl (fun h => h)) rfl (wk_f rfl (wk_f rfl (wk_f rfl (wk_f rfl (wk_f rfl (wk_f rfl (wk_f rfl (wk_f rfl (wk_f rfl (wk_nil))))))))))))))))))))))) ?_
    rintro j inv3
    replace inv3 : j ≤ 2 := inv3
    have invj := inv3
    show Wp _ _ _ [(.s 1, some (.s (V.b (.a (.fn 51 [1]))))), (.s 2, some (.s (V.p 2 0))), (.s 5, some (.s (V.b (.a (.sl 11 0 ((dmJ cN (gB [false, true]) (fun d => okD d && eqP a (cntW l d)) i j).length)))))), (.s 6, some (.s (V.v (.int .i64 ((i : Nat) : Int))))), (.s 12, some (.s (V.v (.int .i64 ((i : Nat) : Int))))), (.s 15, some (.s (V.b (.a (.sl 15 0 2))))), (.s 16, some (.s (V.v (.int .i64 2)))), (.s 17, some (.s (V.v (.int .i64 ((j : Nat) : Int))))), (.o 1, some (.o ⟨3, 1, true, [(.val (.int .i64 ((a : Nat) : Int)) : A)]⟩)), (.o 2, some (.o ⟨30, 1, true, [(.slv l.length 1 (isl l) : A)]⟩)), (.o 11, some (.o ⟨32, 3, true, pl (dsl (dmJ cN (gB [false, true]) (fun d => okD d && eqP a (cntW l d)) i j))⟩)), (.o 15, some (.o ⟨4, 1, true, pl (bsl [false, true])⟩)), (.o 9, some .free), (.o 10, some .free), (.o 16, some .free), (.o 22, some .free), (.o 30, some .free), (.o 35, some .free), (.o 36, some .free), (.o 40, some .free), (.o 41, some .free)]
    have hmj := dmJ_len cN (gB [false, true]) (fun d => okD d && eqP a (cntW l d)) i j
    refine wp_seq' ?_
    refine wp_region_t ?_
    refine wpc (step_plain rfl (acts_bin (d := 18) (ltN rfl) (OpV.tmp 17 (.int .i64 ((j : Nat) : Int))) (OpV.tmp 16 (.int .i64 2)) (r_lss (c := (decide (((j : Nat) : Int) < 2))) rfl))) (by kernel_rfl) ?_
    refine wpl_nil ?_
    refine wp_seq' ?_
    refine wp_if (t := 18) (decide (((j : Nat) : Int) < 2)) (by kernel_rfl) (fun c4 => ?_) (fun c4 => ?_)
    · skip
      have c4P := of_decide_eq_true c4
      refine wp_skip' ?_
      refine wp_seq' ?_
      refine wp_block' ?_
      refine wp_seq' ?_
      refine wp_region_t ?_
      refine wpc (step_plain rfl (acts_index_sl (d := 19) (x := 15) (h := 15) (off := 0) (n := 2) (k := j) (off' := (j * 1)) (o := ⟨4, 1, true, pl (bsl [false, true])⟩) (ltN rfl) qC15_un_92 qC15_sz_4 (OpV.tmp 17 (.int .i64 ((j : Nat) : Int))) rfl (by omega) (by (simp; done)))) (by kernel_rfl) ?_
      refine wpc (step_plain rfl (acts_load_own (d := 20) (t := 19) (h := 15) (off := (j * 1)) (o := ⟨4, 1, true, pl (bsl [false, true])⟩)  (x := .val (.bool (gB [false, true] j))) (ltN rfl) qC15_ti_4 (pl_get (bsl_get1 (k := j) (by omega))))) (by kernel_rfl) ?_
      refine wpc (step_plain rfl (acts_assign (d := 8) (ltN rfl) (OpX.tmp 20 (V.v (.bool (gB [false, true] j)))))) (by kernel_rfl) ?_
      refine wpl_nil ?_
      refine wp_seq' ?_
      refine wp_region_t ?_
      refine wpc (step_plain rfl (acts_move (d := 21) (ltN rfl) (OpX.tmp 6 (V.v (.int .i64 ((i : Nat) : Int)))))) (by kernel_rfl) ?_
      refine wpc (step_plain rfl (acts_call1 (d := 22) (ltN rfl) (impl_cellAt_fn i (by omega)) (ArgVs.cons (ArgV.v (OpV.tmp 21 (.int .i64 ((i : Nat) : Int)))) (ArgVs.nil)) (ResV.agg [(.int .i64 ((cN i).x) : Value), .int .i64 ((cN i).y)]))) (by kernel_rfl) ?_
      refine wpc (step_plain rfl (acts_alloc' (d := 9) (h := 9) (cap := 1) (s := 2) (cells := [(.val (.int .i64 0) : A), .val (.int .i64 0)]) (ltN rfl) qC15_zi_39 rfl rfl (by decide))) (by kernel_rfl) ?_
      refine wpc (step_plain rfl (acts_store (t := 9) (h := 9) (off := 0) (o := ⟨39, 2, true, [(.val (.int .i64 0) : A), .val (.int .i64 0)]⟩) (b := .agg ([(.int .i64 ((cN i).x) : Value), .int .i64 ((cN i).y)].map A.val)) (cells := [(.val (.int .i64 ((cN i).x)) : A), .val (.int .i64 ((cN i).y))]) qC15_ti_39 (OpX.tmp 22 (V.av [(.int .i64 ((cN i).x) : Value), .int .i64 ((cN i).y)])) rfl (by decide) (by intro y hy; simp [B.cs] at hy; rcases hy with rfl | rfl <;> rfl) (Nat.le_of_ble_eq_true rfl) rfl)) (by kernel_rfl) ?_
      refine wpl_nil ?_
      refine wp_seq' ?_
      refine wp_region_t ?_
      refine wpc (step_plain rfl (acts_field (d := 23) (t := 9) (h := 9) (off := 0) (off' := 0) (ltN rfl) qC15_fo_39_0 rfl)) (by kernel_rfl) ?_
      refine wpc (step_plain rfl (acts_load_own (d := 24) (t := 23) (h := 9) (off := 0) (o := ⟨39, 2, true, [(.val (.int .i64 ((cN i).x)) : A), .val (.int .i64 ((cN i).y))]⟩)  (x := .val (.int .i64 ((cN i).x))) (ltN rfl) qC15_ti_3 rfl)) (by kernel_rfl) ?_
      refine wpc (step_plain rfl (acts_field (d := 25) (t := 9) (h := 9) (off := 0) (off' := 1) (ltN rfl) qC15_fo_39_1 rfl)) (by kernel_rfl) ?_
      refine wpc (step_plain rfl (acts_load_own (d := 26) (t := 25) (h := 9) (off := 1) (o := ⟨39, 2, true, [(.val (.int .i64 ((cN i).x)) : A), .val (.int .i64 ((cN i).y))]⟩)  (x := .val (.int .i64 ((cN i).y))) (ltN rfl) qC15_ti_3 rfl)) (by kernel_rfl) ?_
      refine wpc (step_plain rfl (acts_move (d := 27) (ltN rfl) (OpX.tmp 8 (V.v (.bool (gB [false, true] j)))))) (by kernel_rfl) ?_
      refine wpc (step_plain rfl (acts_build (d := 28) (t := 32) (cells := [(.int .i64 ((cN i).x) : Value), .int .i64 ((cN i).y), .bool (gB [false, true] j)]) (ltN rfl) (OpVs.cons (i := 0) (OpV.tmp 24 (.int .i64 ((cN i).x))) (OpVs.cons (i := 1) (OpV.tmp 26 (.int .i64 ((cN i).y))) (OpVs.cons (i := 2) (OpV.tmp 27 (.bool (gB [false, true] j))) (OpVs.nil)))) rfl)) (by kernel_rfl) ?_
      refine wpc (step_plain rfl (acts_alloc' (d := 10) (h := 10) (cap := 1) (s := 3) (cells := [(.val (.int .i64 0) : A), .val (.int .i64 0), .val (.bool false)]) (ltN rfl) qC15_zi_32 rfl rfl (by decide))) (by kernel_rfl) ?_
      refine wpc (step_plain rfl (acts_store (t := 10) (h := 10) (off := 0) (o := ⟨32, 3, true, [(.val (.int .i64 0) : A), .val (.int .i64 0), .val (.bool false)]⟩) (b := .agg ([(.int .i64 ((cN i).x) : Value), .int .i64 ((cN i).y), .bool (gB [false, true] j)].map A.val)) (cells := [(.val (.int .i64 ((cN i).x)) : A), .val (.int .i64 ((cN i).y)), .val (.bool (gB [false, true] j))]) qC15_ti_32 (OpX.tmp 28 (V.av [(.int .i64 ((cN i).x) : Value), .int .i64 ((cN i).y), .bool (gB [false, true] j)])) rfl (by decide) (by intro y hy; simp [B.cs] at hy; rcases hy with rfl | rfl | rfl <;> rfl) (Nat.le_of_ble_eq_true rfl) rfl)) (by kernel_rfl) ?_
      refine wpl_nil ?_
      refine wp_seq' ?_
      rcases Bool.eq_false_or_eq_true ((okD (⟨(cN i).x, (cN i).y, (gB [false, true] j)⟩ : Dom))) with c5 | c5
      · skip
        refine wp_region_t ?_
        refine wpc (step_plain rfl (acts_load_owns (d := 29) (t := 10) (h := 10) (off := 0) (o := ⟨32, 3, true, [(.val (.int .i64 ((cN i).x)) : A), .val (.int .i64 ((cN i).y)), .val (.bool (gB [false, true] j))]⟩)  (xs := [(.int .i64 ((cN i).x) : Value), .int .i64 ((cN i).y), .bool (gB [false, true] j)].map A.val) (ltN rfl) qC15_ti_32 rfl (by decide) rfl)) (by kernel_rfl) ?_
        refine wpc (step_plain rfl (acts_call1 (d := 30) (ltN rfl) (impl_DominoOk_fn (⟨(cN i).x, (cN i).y, (gB [false, true] j)⟩ : Dom) ) (ArgVs.cons (ArgV.va (vs := [(.int .i64 ((cN i).x) : Value), .int .i64 ((cN i).y), .bool (gB [false, true] j)]) (OpV.agg 29 [(.int .i64 ((cN i).x) : Value), .int .i64 ((cN i).y), .bool (gB [false, true] j)])) (ArgVs.nil)) ((resval (congrArg Value.bool c5))))) (by kernel_rfl) ?_
        refine wpc (step_plain rfl (acts_move (d := 31) (ltN rfl) (OpX.tmp 30 (V.v (.bool true))))) (by kernel_rfl) ?_
        refine wpc (step_on (dj := 31) rfl rfl (acts_move (d := 32) (ltN rfl) (OpX.tmp 1 (V.b (.a (.fn 51 [1])))))) (by kernel_rfl) ?_
        refine wpc (step_on (dj := 31) rfl rfl (acts_load_owns (d := 33) (t := 2) (h := 2) (off := 0) (o := ⟨30, 1, true, [(.slv l.length 1 (isl l) : A)]⟩)  (xs := [(.slv l.length 1 (isl l) : A)]) (ltN rfl) qC15_ti_30 rfl (by decide) rfl)) (by kernel_rfl) ?_
        refine wpc (step_on (dj := 31) rfl rfl (acts_load_owns (d := 34) (t := 10) (h := 10) (off := 0) (o := ⟨32, 3, true, [(.val (.int .i64 ((cN i).x)) : A), .val (.int .i64 ((cN i).y)), .val (.bool (gB [false, true] j))]⟩)  (xs := [(.int .i64 ((cN i).x) : Value), .int .i64 ((cN i).y), .bool (gB [false, true] j)].map A.val) (ltN rfl) qC15_ti_32 rfl (by decide) rfl)) (by kernel_rfl) ?_
        refine wpc (step_on (dj := 31) rfl rfl (acts_call1 (d := 35) (ltN rfl) (impl_CountWith_fn l (⟨(cN i).x, (cN i).y, (gB [false, true] j)⟩ : Dom) (by omega)) (ArgVs.cons (ArgV.regv 33 l.length 1 (isl l)) (ArgVs.cons (ArgV.va (vs := [(.int .i64 ((cN i).x) : Value), .int .i64 ((cN i).y), .bool (gB [false, true] j)]) (OpV.agg 34 [(.int .i64 ((cN i).x) : Value), .int .i64 ((cN i).y), .bool (gB [false, true] j)])) (ArgVs.nil))) (ResV.val _))) (by kernel_rfl) ?_
        refine wpc (step_on (dj := 31) rfl rfl (acts_callV (d := 36) (f := 51) (t := 32) (caps := [1]) (os := [(.o 1, some (.o ⟨3, 1, true, [(.val (.int .i64 ((a : Nat) : Int)) : A)]⟩))]) (os' := [(.o 1, some (.o ⟨3, 1, true, [(.val (.int .i64 ((a : Nat) : Int)) : A)]⟩))]) (r := V.v (.bool (eqP a (cntW l (⟨(cN i).x, (cN i).y, (gB [false, true] j)⟩ : Dom))))) (bs := [.a (.val (.int .i64 (((cntW l (⟨(cN i).x, (cN i).y, (gB [false, true] j)⟩ : Dom)) : Nat) : Int)))]) (keep := [1]) (new := []) (dead := []) (ltN rfl) ((impl_ForcedDominoes_1_fn (cntW l (⟨(cN i).x, (cN i).y, (gB [false, true] j)⟩ : Dom)) a )) (by kernel_rfl) ⟨ocs (by kernel_rfl), trivial⟩ (by kernel_rfl) (ArgOs.cons (ArgO.v (OpV.tmp 35 (.int .i64 (((cntW l (⟨(cN i).x, (cN i).y, (gB [false, true] j)⟩ : Dom)) : Nat) : Int)))) (ArgOs.nil)))) (by kernel_rfl) ?_
        refine wpc (step_plain rfl (acts_pick_t (d := 37) (ltN rfl) (OpV.tmp 31 (.bool true)) (OpX.tmp 36 (V.v (.bool (eqP a (cntW l (⟨(cN i).x, (cN i).y, (gB [false, true] j)⟩ : Dom)))))))) (by kernel_rfl) ?_
        refine wpl_nil ?_
        refine wp_if (t := 37) ((eqP a (cntW l (⟨(cN i).x, (cN i).y, (gB [false, true] j)⟩ : Dom)))) (by kernel_rfl) (fun c6 => ?_) (fun c6 => ?_)
        · skip
          refine wp_region_t ?_
          refine wpc (step_plain rfl (acts_move (d := 38) (ltN rfl) (OpX.tmp 5 (V.b (.a (.sl 11 0 ((dmJ cN (gB [false, true]) (fun d => okD d && eqP a (cntW l d)) i j).length))))))) (by kernel_rfl) ?_
          refine wpc (step_plain rfl (acts_load_owns (d := 39) (t := 10) (h := 10) (off := 0) (o := ⟨32, 3, true, [(.val (.int .i64 ((cN i).x)) : A), .val (.int .i64 ((cN i).y)), .val (.bool (gB [false, true] j))]⟩)  (xs := [(.int .i64 ((cN i).x) : Value), .int .i64 ((cN i).y), .bool (gB [false, true] j)].map A.val) (ltN rfl) qC15_ti_32 rfl (by decide) rfl)) (by kernel_rfl) ?_
          refine wpc (step_plain rfl (acts_buildSlice' (d := 40) (h := 40) (n := 1) (s := 3) (xs := dsl ([(⟨(cN i).x, (cN i).y, (gB [false, true] j)⟩ : Dom)] : List Dom)) (ltN rfl) qC15_un_42 qC15_zi_32 (OpVs.cons (i := 0) (OpV.agg 39 [(.int .i64 ((cN i).x) : Value), .int .i64 ((cN i).y), .bool (gB [false, true] j)]) (OpVs.nil)) (by decide) (by decide) (by kernel_rfl) rfl)) (by kernel_rfl) ?_
          refine wpc (step_plain rfl (acts_app (d := 41) (x := 38) (h := 11) (h2 := 41) (n := ((dmJ cN (gB [false, true]) (fun d => okD d && eqP a (cntW l d)) i j).length)) (m := 1) (nm := (((dmJ cN (gB [false, true]) (fun d => okD d && eqP a (cntW l d)) i j) ++ [(⟨(cN i).x, (cN i).y, (gB [false, true] j)⟩ : Dom)]).length)) (X := .sl 40 0 1) (xs := dsl (dmJ cN (gB [false, true]) (fun d => okD d && eqP a (cntW l d)) i j)) (ys := dsl [(⟨(cN i).x, (cN i).y, (gB [false, true] j)⟩ : Dom)]) (zs := dsl ((dmJ cN (gB [false, true]) (fun d => okD d && eqP a (cntW l d)) i j) ++ [(⟨(cN i).x, (cN i).y, (gB [false, true] j)⟩ : Dom)])) (ltN rfl) qC15_un_42 qC15_zi_32 rfl (by decide) (by decide) (by exact dsl_len _) (OpX.tmp 40 (V.b (.a (.sl 40 0 1)))) (src_own (h := 40) (T := 32) (s := 3) (ex := true) (n := 1) (by exact dsl_len _)) (dsl_one' _) (by omega) (by exact (dsl_append _ _).symm) (by (simp; done)))) (by kernel_rfl) ?_
          refine wpc (step_plain rfl (acts_assign (d := 5) (ltN rfl) (OpX.tmp 41 (V.b (.a (.sl 41 0 (((dmJ cN (gB [false, true]) (fun d => okD d && eqP a (cntW l d)) i j) ++ [(⟨(cN i).x, (cN i).y, (gB [false, true] j)⟩ : Dom)]).length))))))) (by kernel_rfl) ?_
          refine wpl_nil ?_
          refine wp_region_t ?_
          refine wpc (step_plain rfl (acts_bin (d := 42) (ltN rfl) (OpV.tmp 17 (.int .i64 ((j : Nat) : Int))) (OpV.const (.int .i64 1)) (r_add (c := (((j : Nat) : Int) + 1)) (w64 (by omega) (by omega))))) (by kernel_rfl) ?_
          refine wpc (step_plain rfl (acts_move (d := 17) (ltN rfl) (OpX.tmp 42 (V.v (.int .i64 (((j : Nat) : Int) + 1)))))) (by kernel_rfl) ?_
          refine wpl_nil ?_
          exact loop_back ((j + 1)) (by show _ ≤ _; omega) (by show 2 - (j + 1) < 2 - j; omega) (weak_of (subst1 [(11, 41)]) [9, 10, 16, 22, 30, 35, 36, 40, 41] (by kernel_rfl) (wk_s (v' := V.b (.a (.fn 51 [1]))) (by kernel_rfl) rfl rfl (wk_s (v' := V.p 2 0) (by kernel_rfl) rfl rfl (wk_s (v' := V.b (.a (.sl 41 0 (((dmJ cN (gB [false, true]) (fun d => okD d && eqP a (cntW l d)) i j) ++ [(⟨(cN i).x, (cN i).y, (gB [false, true] j)⟩ : Dom)]).length)))) (by kernel_rfl) (vsl (by (exact congrArg List.length (by first | rfl | exact (dmJ_zero _ _ _ _).symm | exact dmJ_zero _ _ _ _ | exact (dmJ_yes (and_t (by assumption) (by assumption))).symm | exact dmJ_yes (and_t (by assumption) (by assumption)) | exact dmJ_no (and_f1 (by assumption)) | exact dmJ_no (and_f2 (by assumption)) | exact (dmJ_no (and_f1 (by assumption))).symm | exact (dmJ_no (and_f2 (by assumption))).symm | omega))) rfl) rfl (wk_s (v' := V.v (.int .i64 ((i : Nat) : Int))) (by kernel_rfl) rfl rfl (wk_s (v' := V.v (.int .i64 ((i : Nat) : Int))) (by kernel_rfl) rfl rfl (wk_s (v' := V.b (.a (.sl 15 0 2))) (by kernel_rfl) rfl rfl (wk_s (v' := V.v (.int .i64 2)) (by kernel_rfl) rfl rfl (wk_s (v' := V.v (.int .i64 (((j : Nat) : Int) + 1))) (by kernel_rfl) (vint (by rfl)) rfl (wk_o (o' := ⟨3, 1, true, [(.val (.int .i64 ((a : Nat) : Int)) : A)]⟩) (by kernel_rfl) (renob_l (fun h => h) rfl rfl) rfl (wk_o (o' := ⟨30, 1, true, [(.slv l.length 1 (isl l) : A)]⟩) (by kernel_rfl) (renob_l (fun h => h) rfl rfl) rfl (wk_o (o' := ⟨32, 3, true, pl (dsl ((dmJ cN (gB [false, true]) (fun d => okD d && eqP a (cntW l d)) i j) ++ [(⟨(cN i).x, (cN i).y, (gB [false, true] j)⟩ : Dom)]))⟩) (by kernel_rfl) (renob_eq (fun h => h) (congrArg dsl (by exact dmJ_yes (and_t (by assumption) (by assumption))))) rfl (wk_o (o' := ⟨4, 1, true, pl (bsl [false, true])⟩) (by kernel_rfl) (renob_pl (fun h => h)) rfl (wk_f rfl (wk_f rfl (wk_f rfl (wk_f rfl (wk_f rfl (wk_f rfl (wk_f rfl (wk_f rfl (wk_f rfl (wk_nil)))))))))))))))))))))))
        · skip
          refine wp_skip' ?_
          refine wp_region_t ?_
          refine wpc (step_plain rfl (acts_bin (d := 42) (ltN rfl) (OpV.tmp 17 (.int .i64 ((j : Nat) : Int))) (OpV.const (.int .i64 1)) (r_add (c := (((j : Nat) : Int) + 1)) (w64 (by omega) (by omega))))) (by kernel_rfl) ?_
          refine wpc (step_plain rfl (acts_move (d := 17) (ltN rfl) (OpX.tmp 42 (V.v (.int .i64 (((j : Nat) : Int) + 1)))))) (by kernel_rfl) ?_
          refine wpl_nil ?_
          exact loop_back ((j + 1)) (by show _ ≤ _; omega) (by show 2 - (j + 1) < 2 - j; omega) (weak_of id [9, 10, 16, 22, 30, 35, 36, 40, 41] (by kernel_rfl) (wk_s (v' := V.b (.a (.fn 51 [1]))) (by kernel_rfl) rfl rfl (wk_s (v' := V.p 2 0) (by kernel_rfl) rfl rfl (wk_s (v' := V.b (.a (.sl 11 0 ((dmJ cN (gB [false, true]) (fun d => okD d && eqP a (cntW l d)) i j).length)))) (by kernel_rfl) (vsl (by (exact congrArg List.length (by first | rfl | exact (dmJ_zero _ _ _ _).symm | exact dmJ_zero _ _ _ _ | exact (dmJ_yes (and_t (by assumption) (by assumption))).symm | exact dmJ_yes (and_t (by assumption) (by assumption)) | exact dmJ_no (and_f1 (by assumption)) | exact dmJ_no (and_f2 (by assumption)) | exact (dmJ_no (and_f1 (by assumption))).symm | exact (dmJ_no (and_f2 (by assumption))).symm | omega))) rfl) rfl (wk_s (v' := V.v (.int .i64 ((i : Nat) : Int))) (by kernel_rfl) rfl rfl (wk_s (v' := V.v (.int .i64 ((i : Nat) : Int))) (by kernel_rfl) rfl rfl (wk_s (v' := V.b (.a (.sl 15 0 2))) (by kernel_rfl) rfl rfl (wk_s (v' := V.v (.int .i64 2)) (by kernel_rfl) rfl rfl (wk_s (v' := V.v (.int .i64 (((j : Nat) : Int) + 1))) (by kernel_rfl) (vint (by rfl)) rfl (wk_o (o' := ⟨3, 1, true, [(.val (.int .i64 ((a : Nat) : Int)) : A)]⟩) (by kernel_rfl) (renob_l (fun h => h) rfl rfl) rfl (wk_o (o' := ⟨30, 1, true, [(.slv l.length 1 (isl l) : A)]⟩) (by kernel_rfl) (renob_l (fun h => h) rfl rfl) rfl (wk_o (o' := ⟨32, 3, true, pl (dsl (dmJ cN (gB [false, true]) (fun d => okD d && eqP a (cntW l d)) i j))⟩) (by kernel_rfl) (renob_eq (fun h => h) (congrArg dsl (by exact dmJ_no (and_f2 (by assumption))))) rfl (wk_o (o' := ⟨4, 1, true, pl (bsl [false, true])⟩) (by kernel_rfl) (renob_pl (fun h => h)) rfl (wk_f rfl (wk_f rfl (wk_f rfl (wk_f rfl (wk_f rfl (wk_f rfl (wk_f rfl (wk_f rfl (wk_f rfl (wk_nil)))))))))))))))))))))))
      · skip
        refine wp_region_t ?_
        refine wpc (step_plain rfl (acts_load_owns (d := 29) (t := 10) (h := 10) (off := 0) (o := ⟨32, 3, true, [(.val (.int .i64 ((cN i).x)) : A), .val (.int .i64 ((cN i).y)), .val (.bool (gB [false, true] j))]⟩)  (xs := [(.int .i64 ((cN i).x) : Value), .int .i64 ((cN i).y), .bool (gB [false, true] j)].map A.val) (ltN rfl) qC15_ti_32 rfl (by decide) rfl)) (by kernel_rfl) ?_
        refine wpc (step_plain rfl (acts_call1 (d := 30) (ltN rfl) (impl_DominoOk_fn (⟨(cN i).x, (cN i).y, (gB [false, true] j)⟩ : Dom) ) (ArgVs.cons (ArgV.va (vs := [(.int .i64 ((cN i).x) : Value), .int .i64 ((cN i).y), .bool (gB [false, true] j)]) (OpV.agg 29 [(.int .i64 ((cN i).x) : Value), .int .i64 ((cN i).y), .bool (gB [false, true] j)])) (ArgVs.nil)) ((resval (congrArg Value.bool c5))))) (by kernel_rfl) ?_
        refine wpc (step_plain rfl (acts_move (d := 31) (ltN rfl) (OpX.tmp 30 (V.v (.bool false))))) (by kernel_rfl) ?_
        refine wpc (step_off (dj := 31) (b' := false) rfl rfl (by decide) rfl (ltN rfl)) (by kernel_rfl) ?_
        refine wpc (step_off (dj := 31) (b' := false) rfl rfl (by decide) rfl (ltN rfl)) (by kernel_rfl) ?_
        refine wpc (step_off (dj := 31) (b' := false) rfl rfl (by decide) rfl (ltN rfl)) (by kernel_rfl) ?_
        refine wpc (step_off (dj := 31) (b' := false) rfl rfl (by decide) rfl (ltN rfl)) (by kernel_rfl) ?_
        refine wpc (step_off (dj := 31) (b' := false) rfl rfl (by decide) rfl (ltN rfl)) (by kernel_rfl) ?_
        refine wpc (step_plain rfl (acts_pick_f (d := 37) (ltN rfl) (OpV.tmp 31 (.bool false)) (OpX.const (.bool false)))) (by kernel_rfl) ?_
        refine wpl_nil ?_
        refine wp_if_f (t := 37) (by kernel_rfl) ?_
        refine wp_skip' ?_
        refine wp_region_t ?_
        refine wpc (step_plain rfl (acts_bin (d := 42) (ltN rfl) (OpV.tmp 17 (.int .i64 ((j : Nat) : Int))) (OpV.const (.int .i64 1)) (r_add (c := (((j : Nat) : Int) + 1)) (w64 (by omega) (by omega))))) (by kernel_rfl) ?_
        refine wpc (step_plain rfl (acts_move (d := 17) (ltN rfl) (OpX.tmp 42 (V.v (.int .i64 (((j : Nat) : Int) + 1)))))) (by kernel_rfl) ?_
        refine wpl_nil ?_
        exact loop_back ((j + 1)) (by show _ ≤ _; omega) (by show 2 - (j + 1) < 2 - j; omega) (weak_of id [9, 10, 16, 22, 30, 35, 36, 40, 41] (by kernel_rfl) (wk_s (v' := V.b (.a (.fn 51 [1]))) (by kernel_rfl) rfl rfl (wk_s (v' := V.p 2 0) (by kernel_rfl) rfl rfl (wk_s (v' := V.b (.a (.sl 11 0 ((dmJ cN (gB [false, true]) (fun d => okD d && eqP a (cntW l d)) i j).length)))) (by kernel_rfl) (vsl (by (exact congrArg List.length (by first | rfl | exact (dmJ_zero _ _ _ _).symm | exact dmJ_zero _ _ _ _ | exact (dmJ_yes (and_t (by assumption) (by assumption))).symm | exact dmJ_yes (and_t (by assumption) (by assumption)) | exact dmJ_no (and_f1 (by assumption)) | exact dmJ_no (and_f2 (by assumption)) | exact (dmJ_no (and_f1 (by assumption))).symm | exact (dmJ_no (and_f2 (by assumption))).symm | omega))) rfl) rfl (wk_s (v' := V.v (.int .i64 ((i : Nat) : Int))) (by kernel_rfl) rfl rfl (wk_s (v' := V.v (.int .i64 ((i : Nat) : Int))) (by kernel_rfl) rfl rfl (wk_s (v' := V.b (.a (.sl 15 0 2))) (by kernel_rfl) rfl rfl (wk_s (v' := V.v (.int .i64 2)) (by kernel_rfl) rfl rfl (wk_s (v' := V.v (.int .i64 (((j : Nat) : Int) + 1))) (by kernel_rfl) (vint (by rfl)) rfl (wk_o (o' := ⟨3, 1, true, [(.val (.int .i64 ((a : Nat) : Int)) : A)]⟩) (by kernel_rfl) (renob_l (fun h => h) rfl rfl) rfl (wk_o (o' := ⟨30, 1, true, [(.slv l.length 1 (isl l) : A)]⟩) (by kernel_rfl) (renob_l (fun h => h) rfl rfl) rfl (wk_o (o' := ⟨32, 3, true, pl (dsl (dmJ cN (gB [false, true]) (fun d => okD d && eqP a (cntW l d)) i j))⟩) (by kernel_rfl) (renob_eq (fun h => h) (congrArg dsl (by exact dmJ_no (and_f1 (by assumption))))) rfl (wk_o (o' := ⟨4, 1, true, pl (bsl [false, true])⟩) (by kernel_rfl) (renob_pl (fun h => h)) rfl (wk_f rfl (wk_f rfl (wk_f rfl (wk_f rfl (wk_f rfl (wk_f rfl (wk_f rfl (wk_f rfl (wk_f rfl (wk_nil)))))))))))))))))))))))
    · skip
      have c4P := of_decide_eq_false c4
      refine wp_exit' ?_
      refine wp_region_t ?_
      refine wpc (step_plain rfl (acts_bin (d := 43) (ltN rfl) (OpV.tmp 12 (.int .i64 ((i : Nat) : Int))) (OpV.const (.int .i64 1)) (r_add (c := (((i : Nat) : Int) + 1)) (w64 (by omega) (by omega))))) (by kernel_rfl) ?_
      refine wpc (step_plain rfl (acts_move (d := 12) (ltN rfl) (OpX.tmp 43 (V.v (.int .i64 (((i : Nat) : Int) + 1)))))) (by kernel_rfl) ?_
      refine wpl_nil ?_
      exact loop_back ((i + 1)) (by show _ ≤ _; omega) (by show 64 - (i + 1) < 64 - i; omega) (weak_of id [9, 10, 15, 16, 22, 30, 35, 36, 40, 41] (by kernel_rfl) (wk_s (v' := V.b (.a (.fn 51 [1]))) (by kernel_rfl) rfl rfl (wk_s (v' := V.p 2 0) (by kernel_rfl) rfl rfl (wk_s (v' := V.b (.a (.sl 11 0 ((dmJ cN (gB [false, true]) (fun d => okD d && eqP a (cntW l d)) i j).length)))) (by kernel_rfl) (vsl (by (exact congrArg List.length (by first | rfl | omega | ((have e : j = 2 := by omega); subst e; exact (dmJ_end rfl rfl _ _).symm) | ((have e : j = 2 := by omega); subst e; exact dmJ_end rfl rfl _ _)))) rfl) rfl (wk_s (v' := V.v (.int .i64 (((i : Nat) : Int) + 1))) (by kernel_rfl) (vint (by rfl)) rfl (wk_o (o' := ⟨3, 1, true, [(.val (.int .i64 ((a : Nat) : Int)) : A)]⟩) (by kernel_rfl) (renob_l (fun h => h) rfl rfl) rfl (wk_o (o' := ⟨30, 1, true, [(.slv l.length 1 (isl l) : A)]⟩) (by kernel_rfl) (renob_l (fun h => h) rfl rfl) rfl (wk_o (o' := ⟨32, 3, true, pl (dsl (dmJ cN (gB [false, true]) (fun d => okD d && eqP a (cntW l d)) i j))⟩) (by kernel_rfl) (renob_eq (fun h => h) (congrArg dsl (by ((have e : j = 2 := by omega); subst e; exact (dmJ_end rfl rfl _ _).symm)))) rfl (wk_f rfl (wk_f rfl (wk_f rfl (wk_f rfl (wk_f rfl (wk_f rfl (wk_f rfl (wk_f rfl (wk_f rfl (wk_f rfl (wk_nil)))))))))))))))))))
  · skip
    have c2P := of_decide_eq_false c2
    refine wp_exit' ?_
    refine wp_seq' ?_
    refine wp_region_t ?_
    refine wpc (step_plain rfl (acts_move (d := 44) (ltN rfl) (OpX.tmp 5 (V.b (.a (.sl 11 0 ((dmT cN (fun d => okD d && eqP a (cntW l d)) i).length))))))) (by kernel_rfl) ?_
    refine wpc (step_plain rfl (acts_assign (d := 4) (ltN rfl) (OpX.tmp 44 (V.b (.a (.sl 11 0 ((dmT cN (fun d => okD d && eqP a (cntW l d)) i).length))))))) (by kernel_rfl) ?_
    refine wpl_nil ?_
    refine wp_ret' ?_
    exact ⟨[(.s 4, some (.s (V.b (.a (.sl 7 0 ((dmT cN (fun d => okD d && eqP a (cntW l d)) i).length)))))), (.o 1, some (.o ⟨3, 1, true, [(.val (.int .i64 ((a : Nat) : Int)) : A)]⟩)), (.o 7, some (.o ⟨32, 3, true, pl (dsl (dmT cN (fun d => okD d && eqP a (cntW l d)) i))⟩)), (.o 2, some .free), (.o 9, some .free), (.o 10, some .free), (.o 11, some .free), (.o 15, some .free), (.o 16, some .free), (.o 22, some .free), (.o 30, some .free), (.o 35, some .free), (.o 36, some .free), (.o 40, some .free), (.o 41, some .free)], weak_of (subst1 [(7, 11)]) [2, 9, 10, 11, 15, 16, 22, 30, 35, 36, 40, 41] (by kernel_rfl) (wk_s (v' := V.b (.a (.sl 11 0 ((dmT cN (fun d => okD d && eqP a (cntW l d)) i).length)))) (by kernel_rfl) rfl rfl (wk_o (o' := ⟨3, 1, true, [(.val (.int .i64 ((a : Nat) : Int)) : A)]⟩) (by kernel_rfl) (renob_l (fun h => h) rfl rfl) rfl (wk_o (o' := ⟨32, 3, true, pl (dsl (dmT cN (fun d => okD d && eqP a (cntW l d)) i))⟩) (by kernel_rfl) (renob_pl (fun h => h)) rfl (wk_f rfl (wk_f rfl (wk_f rfl (wk_f rfl (wk_f rfl (wk_f rfl (wk_f rfl (wk_f rfl (wk_f rfl (wk_f rfl (wk_f rfl (wk_f rfl (wk_nil)))))))))))))))), ⟨by kernel_rfl, obj_eq (c := pl (dsl (dmT cN (fun d => okD d && eqP a (cntW l d)) i))) (by kernel_rfl) (congrArg (fun z => pl (dsl z)) (by ((have e : i = 64 := by omega); subst e; rfl))), trivial⟩, vo_eq 4 (.a (.sl 7 0 ((dmT cN (fun d => okD d && eqP a (cntW l d)) i).length))) (.a (.sl 7 0 ((cwD l (eqP a)).length))) (by kernel_rfl) (congrArg (fun z : Nat => B.a (.sl 7 0 z)) (by ((have e : i = 64 := by omega); subst e; rfl)))⟩

set_option maxHeartbeats 4000000 in
set_option maxRecDepth 100000 in
theorem impl_ForcedDominoes_fn (l : List Int) (hl : l.length ≤ 4194304) : Fn Try.prog 25 [.agg [(.slv l.length 1 (isl l) : A)]] [.row 32 3 (frcT l).length (dsl (frcT l))] := by
  refine fn_intro (N := 11) Try.func25 rfl (by kernel_rfl) rfl (Nat.le_of_ble_eq_true rfl) [1, 3, 5, 10] (ret1 rfl) (fun W => ?_)
  show Wp _ _ _ [(.s 0, some (.s (V.b (.agg [(.slv l.length 1 (isl l) : A)])))), (.o 1, some .free), (.o 3, some .free), (.o 5, some .free), (.o 10, some .free)]
  refine wp_seq' ?_
  refine wp_region_t ?_
  refine wpc (step_plain rfl (acts_box (d := 1) (h := 1) (b := .agg [(.slv l.length 1 (isl l) : A)]) (ltN rfl) (OpX.tmp 0 (V.b (.agg [(.slv l.length 1 (isl l) : A)]))) (by intro y hy; simp [B.cs] at hy; subst hy; rfl))) (by kernel_rfl) ?_
  refine wpc (step_plain rfl (acts_assign (d := 2) (ltN rfl) (OpX.const (.slice none 0 0)))) (by kernel_rfl) ?_
  refine wpl_nil ?_
  refine wp_seq' ?_
  refine wp_region_t ?_
  refine wpc (step_plain rfl (acts_load_owns (d := 4) (t := 1) (h := 1) (off := 0) (o := ⟨30, 1, true, [(.slv l.length 1 (isl l) : A)]⟩)  (xs := [(.slv l.length 1 (isl l) : A)]) (ltN rfl) qC15_ti_30 rfl (by decide) rfl)) (by kernel_rfl) ?_
  refine wpc (step_plain rfl (acts_call1 (d := 5) (ltN rfl) (impl_CountTilings_fn l (by omega)) (ArgVs.cons (ArgV.regv 4 l.length 1 (isl l)) (ArgVs.nil)) (ResV.val _))) (by kernel_rfl) ?_
  refine wpc (step_plain rfl (acts_alloc' (d := 3) (h := 3) (cap := 1) (s := 1) (cells := [(.val (.int .i64 0) : A)]) (ltN rfl) qC15_zi_3 rfl rfl (by decide))) (by kernel_rfl) ?_
  refine wpc (step_plain rfl (acts_store (t := 3) (h := 3) (off := 0) (o := ⟨3, 1, true, [(.val (.int .i64 0) : A)]⟩) (b := .a (.val (.int .i64 (((cntR l) : Nat) : Int)))) (cells := [(.val (.int .i64 (((cntR l) : Nat) : Int)) : A)]) qC15_ti_3 (OpX.tmp 5 (V.v (.int .i64 (((cntR l) : Nat) : Int)))) rfl (by decide) (by intro y hy; simp [B.cs] at hy; subst hy; rfl) (Nat.le_of_ble_eq_true rfl) rfl)) (by kernel_rfl) ?_
  refine wpl_nil ?_
  refine wp_seq' ?_
  refine wp_seq' ?_
  refine wp_region_t ?_
  refine wpc (step_plain rfl (acts_load_own (d := 6) (t := 3) (h := 3) (off := 0) (o := ⟨3, 1, true, [(.val (.int .i64 (((cntR l) : Nat) : Int)) : A)]⟩)  (x := .val (.int .i64 (((cntR l) : Nat) : Int))) (ltN rfl) qC15_ti_3 rfl)) (by kernel_rfl) ?_
  refine wpc (step_plain rfl (acts_bin (d := 7) (ltN rfl) (OpV.tmp 6 (.int .i64 (((cntR l) : Nat) : Int))) (OpV.const (.int .i64 0)) (r_eql (c := (decide ((((cntR l) : Nat) : Int) = 0))) rfl))) (by kernel_rfl) ?_
  refine wpl_nil ?_
  refine wp_if (t := 7) (decide ((((cntR l) : Nat) : Int) = 0)) (by kernel_rfl) (fun c1 => ?_) (fun c1 => ?_)
  · skip
    have c1P := of_decide_eq_true c1
    refine wp_seq' ?_
    refine wp_region_t ?_
    refine wpc (step_plain rfl (acts_assign (d := 2) (ltN rfl) (OpX.const (.slice none 0 0)))) (by kernel_rfl) ?_
    refine wpl_nil ?_
    refine wp_ret' ?_
    exact VRes.tmp 2 (.a (.val (.slice none 0 0))) _ (by kernel_rfl) (bnil_doms (L := (frcT l)) (by exact frcT_no (l := l) (by omega)))
  · skip
    have c1P := of_decide_eq_false c1
    refine wp_skip' ?_
    refine wp_seq' ?_
    refine wp_region_t ?_
    refine wpc (step_plain rfl (acts_load_owns (d := 8) (t := 1) (h := 1) (off := 0) (o := ⟨30, 1, true, [(.slv l.length 1 (isl l) : A)]⟩)  (xs := [(.slv l.length 1 (isl l) : A)]) (ltN rfl) qC15_ti_30 rfl (by decide) rfl)) (by kernel_rfl) ?_
    refine wpc (step_plain rfl (acts_makeFunc (d := 9) (f := 51) (l := [(3, 3)]) (ltN rfl))) (by kernel_rfl) ?_
    refine wpc (step_plain rfl (acts_callO (d := 10) (f := 47) (os := [(.o 3, some (.o ⟨3, 1, true, [(.val (.int .i64 (((cntR l) : Nat) : Int)) : A)]⟩))]) (os' := [(.o 3, some (.o ⟨3, 1, true, [(.val (.int .i64 (((cntR l) : Nat) : Int)) : A)]⟩)), (.o 5, some (.o ⟨32, 3, true, pl (dsl (cwD l (eqP (cntR l))))⟩))]) (r := V.b (.a (.sl 5 0 ((cwD l (eqP (cntR l))).length)))) (bs := [.agg [(.slv l.length 1 (isl l) : A)], .a (.fn 51 [3])]) (keep := [3]) (new := [5]) (dead := []) (ltN rfl) (FnO.ren' (dominoesWhere2_fn l (cntR l) (by omega)) (subst1 [(1, 3), (7, 5)]) rfl rfl (by kernel_rfl) (by kernel_rfl) ⟨ocs (by kernel_rfl), oc_pl (fun _ => rfl), trivial⟩ (by kernel_rfl) rfl (by simp only [renS, Ob.ren, pl_ren, rws_ren_doms, rws_ren_ints, rws_ren_cels]; rfl) (by simp only [renS, Ob.ren, pl_ren, rws_ren_doms, rws_ren_ints, rws_ren_cels]; rfl) rfl rfl) (by kernel_rfl) ⟨ocs (by kernel_rfl), oc_pl (fun _ => rfl), trivial⟩ (by kernel_rfl) (ArgOs.cons (ArgO.slot 8 (.agg [(.slv l.length 1 (isl l) : A)])) (ArgOs.cons (ArgO.slot 9 (.a (.fn 51 [3]))) (ArgOs.nil))))) (by kernel_rfl) ?_
    refine wpc (step_plain rfl (acts_assign (d := 2) (ltN rfl) (OpX.tmp 10 (V.b (.a (.sl 5 0 ((cwD l (eqP (cntR l))).length))))))) (by kernel_rfl) ?_
    refine wpl_nil ?_
    refine wp_ret' ?_
    exact VRes.tmp 2 (.a (.sl 5 0 ((cwD l (eqP (cntR l))).length))) _ (by kernel_rfl) (brow_doms (h := 5) (L := (cwD l (eqP (cntR l)))) (by kernel_rfl) (by exact (frcT_yes (by omega)).symm) (by rfl))

set_option maxHeartbeats 4000000 in
set_option maxRecDepth 100000 in
theorem spec_ForcedDominoes_fn (l : List Int) (hl : l.length ≤ 4194304) : Fn Try.prog 24 [.agg [(.slv l.length 1 (isl l) : A)]] [.row 32 3 (frcT l).length (dsl (frcT l))] := by
  have hal := allD_len l
  refine fn_intro (N := 37) Try.func24 rfl (by kernel_rfl) rfl (Nat.le_of_ble_eq_true rfl) [1, 7, 9, 14, 17, 26, 34, 35] (ret1 rfl) (fun W => ?_)
  show Wp _ _ _ [(.s 0, some (.s (V.b (.agg [(.slv l.length 1 (isl l) : A)])))), (.o 1, some .free), (.o 7, some .free), (.o 9, some .free), (.o 14, some .free), (.o 17, some .free), (.o 26, some .free), (.o 34, some .free), (.o 35, some .free)]
  refine wp_seq' ?_
  refine wp_region_t ?_
  refine wpc (step_plain rfl (acts_box (d := 1) (h := 1) (b := .agg [(.slv l.length 1 (isl l) : A)]) (ltN rfl) (OpX.tmp 0 (V.b (.agg [(.slv l.length 1 (isl l) : A)]))) (by intro y hy; simp [B.cs] at hy; subst hy; rfl))) (by kernel_rfl) ?_
  refine wpc (step_plain rfl (acts_assign (d := 2) (ltN rfl) (OpX.const (.slice none 0 0)))) (by kernel_rfl) ?_
  refine wpl_nil ?_
  refine wp_seq' ?_
  refine wp_region_t ?_
  refine wpc (step_plain rfl (acts_buildSlice0' (d := 7) (h := 7) (s := 3) (ltN rfl) qC15_un_42 qC15_zi_32)) (by kernel_rfl) ?_
  refine wpc (step_plain rfl (acts_assign (d := 3) (ltN rfl) (OpX.tmp 7 (V.b (.a (.sl 7 0 0)))))) (by kernel_rfl) ?_
  refine wpl_nil ?_
  refine wp_seq' ?_
  refine wp_region_t ?_
  refine wpc (step_plain rfl (acts_load_owns (d := 8) (t := 1) (h := 1) (off := 0) (o := ⟨30, 1, true, [(.slv l.length 1 (isl l) : A)]⟩)  (xs := [(.slv l.length 1 (isl l) : A)]) (ltN rfl) qC15_ti_30 rfl (by decide) rfl)) (by kernel_rfl) ?_
  refine wpc (step_plain rfl (acts_call1 (d := 9) (ltN rfl) (spec_CountTilings_fn l (by omega)) (ArgVs.cons (ArgV.regv 8 l.length 1 (isl l)) (ArgVs.nil)) (ResV.val _))) (by kernel_rfl) ?_
  refine wpc (step_plain rfl (acts_assign (d := 4) (ltN rfl) (OpX.tmp 9 (V.v (.int .i64 (((cntR l) : Nat) : Int)))))) (by kernel_rfl) ?_
  refine wpl_nil ?_
  refine wp_seq' ?_
  refine wp_seq' ?_
  refine wp_region_t ?_
  refine wpc (step_plain rfl (acts_move (d := 10) (ltN rfl) (OpX.tmp 4 (V.v (.int .i64 (((cntR l) : Nat) : Int)))))) (by kernel_rfl) ?_
  refine wpc (step_plain rfl (acts_bin (d := 11) (ltN rfl) (OpV.tmp 10 (.int .i64 (((cntR l) : Nat) : Int))) (OpV.const (.int .i64 0)) (r_eql (c := (decide ((((cntR l) : Nat) : Int) = 0))) rfl))) (by kernel_rfl) ?_
  refine wpl_nil ?_
  refine wp_if (t := 11) (decide ((((cntR l) : Nat) : Int) = 0)) (by kernel_rfl) (fun c1 => ?_) (fun c1 => ?_)
  · skip
    have c1P := of_decide_eq_true c1
    refine wp_seq' ?_
    refine wp_region_t ?_
    refine wpc (step_plain rfl (acts_move (d := 12) (ltN rfl) (OpX.tmp 3 (V.b (.a (.sl 7 0 0)))))) (by kernel_rfl) ?_
    refine wpc (step_plain rfl (acts_assign (d := 2) (ltN rfl) (OpX.tmp 12 (V.b (.a (.sl 7 0 0)))))) (by kernel_rfl) ?_
    refine wpl_nil ?_
    refine wp_ret' ?_
    exact VRes.tmp 2 (.a (.sl 7 0 0)) _ (by kernel_rfl) (brow_doms (h := 7) (L := []) (by kernel_rfl) (by exact (frcT_no (l := l) (by omega)).symm) (by rfl))
  · skip
    have c1P := of_decide_eq_false c1
    refine wp_skip' ?_
    refine wp_seq' ?_
    refine wp_region_t ?_
    refine wpc (step_plain rfl (acts_load_owns (d := 13) (t := 1) (h := 1) (off := 0) (o := ⟨30, 1, true, [(.slv l.length 1 (isl l) : A)]⟩)  (xs := [(.slv l.length 1 (isl l) : A)]) (ltN rfl) qC15_ti_30 rfl (by decide) rfl)) (by kernel_rfl) ?_
    refine wpc (step_plain rfl (acts_call1 (d := 14) (ltN rfl) (spec_l15All_fn l (by omega)) (ArgVs.cons (ArgV.regv 13 l.length 1 (isl l)) (ArgVs.nil)) (ResV.row 32 3 ((allD l).length) (dsl (allD l)) 14))) (by kernel_rfl) ?_
    refine wpc (step_plain rfl (acts_assign (d := 5) (ltN rfl) (OpX.tmp 14 (V.b (.a (.sl 14 0 ((allD l).length))))))) (by kernel_rfl) ?_
    refine wpl_nil ?_
    refine wp_seq' ?_
    refine wp_seq' ?_
    refine wp_region_t ?_
    refine wpc (step_plain rfl (acts_assign (d := 6) (ltN rfl) (OpX.const (.int .i64 0)))) (by kernel_rfl) ?_
    refine wpl_nil ?_
    refine wp_block' ?_
    refine wp_loop' (fun (k : Nat) => k ≤ (allD l).length) (fun (k : Nat) => [(.s 1, some (.s (V.p 1 0))), (.s 3, some (.s (V.b (.a (.sl 7 0 ((((allD l).take k).filter (fun d => eqP (cntR l) (cntW l d))).length)))))), (.s 4, some (.s (V.v (.int .i64 (((cntR l) : Nat) : Int))))), (.s 5, some (.s (V.b (.a (.sl 14 0 ((allD l).length)))))), (.s 6, some (.s (V.v (.int .i64 ((k : Nat) : Int))))), (.o 1, some (.o ⟨30, 1, true, [(.slv l.length 1 (isl l) : A)]⟩)), (.o 7, some (.o ⟨32, 3, true, pl (dsl (((allD l).take k).filter (fun d => eqP (cntR l) (cntW l d))))⟩)), (.o 14, some (.o ⟨32, 3, true, pl (dsl (allD l))⟩)), (.o 9, some .free), (.o 17, some .free), (.o 26, some .free), (.o 34, some .free), (.o 35, some .free)]) (fun (k : Nat) => (allD l).length - k) ((0 : Nat)) (by exact (Nat.zero_le _ : 0 ≤ _)) (weak_of id [9, 17, 26, 34, 35] (by kernel_rfl) (wk_s (v' := V.p 1 0) (by kernel_rfl) rfl rfl (wk_s (v' := V.b (.a (.sl 7 0 0))) (by kernel_rfl) (vsl (by rfl) rfl) rfl (wk_s (v' := V.v (.int .i64 (((cntR l) : Nat) : Int))) (by kernel_rfl) rfl rfl (wk_s (v' := V.b (.a (.sl 14 0 ((allD l).length)))) (by kernel_rfl) rfl rfl (wk_s (v' := V.v (.int .i64 0)) (by kernel_rfl) (vint (by rfl)) rfl (wk_o (o' := ⟨30, 1, true, [(.slv l.length 1 (isl l) : A)]⟩) (by kernel_rfl) (renob_l (fun h => h) rfl rfl) rfl (wk_o (o' := ⟨32, 3, true, pl (dsl [])⟩) (by kernel_rfl) (renob_eq (fun h => h) (congrArg dsl (by rfl))) rfl (wk_o (o' := ⟨32, 3, true, pl (dsl (allD l))⟩) (by kernel_rfl) (renob_pl (fun h => h)) rfl (wk_f rfl (wk_f rfl (wk_f rfl (wk_f rfl (wk_f rfl (wk_nil))))))))))))))) ?_
    rintro k inv2
    replace inv2 : k ≤ (allD l).length := inv2
    have inv := inv2
    show Wp _ _ _ [(.s 1, some (.s (V.p 1 0))), (.s 3, some (.s (V.b (.a (.sl 7 0 ((((allD l).take k).filter (fun d => eqP (cntR l) (cntW l d))).length)))))), (.s 4, some (.s (V.v (.int .i64 (((cntR l) : Nat) : Int))))), (.s 5, some (.s (V.b (.a (.sl 14 0 ((allD l).length)))))), (.s 6, some (.s (V.v (.int .i64 ((k : Nat) : Int))))), (.o 1, some (.o ⟨30, 1, true, [(.slv l.length 1 (isl l) : A)]⟩)), (.o 7, some (.o ⟨32, 3, true, pl (dsl (((allD l).take k).filter (fun d => eqP (cntR l) (cntW l d))))⟩)), (.o 14, some (.o ⟨32, 3, true, pl (dsl (allD l))⟩)), (.o 9, some .free), (.o 17, some .free), (.o 26, some .free), (.o 34, some .free), (.o 35, some .free)]
    have hfl := dfilt_len (fun d => eqP (cntR l) (cntW l d)) (allD l) k
    refine wp_seq' ?_
    refine wp_seq' ?_
    refine wp_region_t ?_
    refine wpc (step_plain rfl (acts_move (d := 15) (ltN rfl) (OpX.tmp 6 (V.v (.int .i64 ((k : Nat) : Int)))))) (by kernel_rfl) ?_
    refine wpc (step_plain rfl (acts_move (d := 16) (ltN rfl) (OpX.tmp 5 (V.b (.a (.sl 14 0 ((allD l).length))))))) (by kernel_rfl) ?_
    refine wpc (step_plain rfl (acts_len (d := 17) (X := .sl 14 0 ((allD l).length)) (n := ((allD l).length)) (iv := (((allD l).length : Nat) : Int)) (ltN rfl) qC15_un_42 (OpX.tmp 16 (V.b (.a (.sl 14 0 ((allD l).length))))) (LenOf.sl _ _ _) rfl)) (by kernel_rfl) ?_
    refine wpc (step_plain rfl (acts_bin (d := 18) (ltN rfl) (OpV.tmp 15 (.int .i64 ((k : Nat) : Int))) (OpV.tmp 17 (.int .i64 (((allD l).length : Nat) : Int))) (r_lss (c := (decide (((k : Nat) : Int) < (((allD l).length : Nat) : Int)))) rfl))) (by kernel_rfl) ?_
    refine wpl_nil ?_
    refine wp_if (t := 18) (decide (((k : Nat) : Int) < (((allD l).length : Nat) : Int))) (by kernel_rfl) (fun c3 => ?_) (fun c3 => ?_)
    · skip
      have c3P := of_decide_eq_true c3
      refine wp_skip' ?_
      refine wp_seq' ?_
      refine wp_block' ?_
      refine wp_seq' ?_
      refine wp_drawn' (by kernel_rfl) (AllSteps.cons (step_plain rfl (acts_load_owns (d := 21) (t := 1) (h := 1) (off := 0) (o := ⟨30, 1, true, [(.slv l.length 1 (isl l) : A)]⟩)  (xs := [(.slv l.length 1 (isl l) : A)]) (ltN rfl) qC15_ti_30 rfl (by decide) rfl)) (AllSteps.cons (step_plain rfl (acts_move (d := 22) (ltN rfl) (OpX.tmp 5 (V.b (.a (.sl 14 0 ((allD l).length))))))) (AllSteps.cons (step_plain rfl (acts_move (d := 23) (ltN rfl) (OpX.tmp 6 (V.v (.int .i64 ((k : Nat) : Int)))))) (AllSteps.cons (step_plain rfl (acts_index_sl (d := 24) (x := 22) (h := 14) (off := 0) (n := ((allD l).length)) (k := k) (off' := (k * 3)) (o := ⟨32, 3, true, pl (dsl (allD l))⟩) (ltN rfl) qC15_un_42 qC15_sz_32 (OpV.tmp 23 (.int .i64 ((k : Nat) : Int))) rfl (by omega) (by (simp; done)))) (AllSteps.cons (step_plain rfl (acts_load_owns (d := 25) (t := 24) (h := 14) (off := (k * 3)) (o := ⟨32, 3, true, pl (dsl (allD l))⟩)  (xs := [(.int .i64 ((gD (allD l) k).x) : Value), .int .i64 ((gD (allD l) k).y), .bool ((gD (allD l) k).d)].map A.val) (ltN rfl) qC15_ti_32 rfl (by decide) (pl_at (dsl_at (k := k) (by omega))))) (AllSteps.cons (step_plain rfl (acts_call1 (d := 26) (ltN rfl) (spec_CountWith_fn l (gD (allD l) k) (by omega)) (ArgVs.cons (ArgV.regv 21 l.length 1 (isl l)) (ArgVs.cons (ArgV.va (vs := [(.int .i64 ((gD (allD l) k).x) : Value), .int .i64 ((gD (allD l) k).y), .bool ((gD (allD l) k).d)]) (OpV.agg 25 [(.int .i64 ((gD (allD l) k).x) : Value), .int .i64 ((gD (allD l) k).y), .bool ((gD (allD l) k).d)])) (ArgVs.nil))) (ResV.val _))) (AllSteps.cons (step_plain rfl (acts_move (d := 27) (ltN rfl) (OpX.tmp 4 (V.v (.int .i64 (((cntR l) : Nat) : Int)))))) (AllSteps.cons (step_plain rfl (acts_bin (d := 28) (ltN rfl) (OpV.tmp 26 (.int .i64 (((cntW l (gD (allD l) k)) : Nat) : Int))) (OpV.tmp 27 (.int .i64 (((cntR l) : Nat) : Int))) (r_eql (c := (decide ((((cntW l (gD (allD l) k)) : Nat) : Int) = (((cntR l) : Nat) : Int)))) rfl))) (AllSteps.nil))))))))) (by kernel_rfl) (by kernel_rfl) (by kernel_rfl) ?_
      refine wp_if (t := 28) (decide ((((cntW l (gD (allD l) k)) : Nat) : Int) = (((cntR l) : Nat) : Int))) (by kernel_rfl) (fun c4 => ?_) (fun c4 => ?_)
      · skip
        have c4P := of_decide_eq_true c4
        refine wp_region_t ?_
        refine wpc (step_plain rfl (acts_move (d := 29) (ltN rfl) (OpX.tmp 3 (V.b (.a (.sl 7 0 ((((allD l).take k).filter (fun d => eqP (cntR l) (cntW l d))).length))))))) (by kernel_rfl) ?_
        refine wpc (step_plain rfl (acts_move (d := 30) (ltN rfl) (OpX.tmp 5 (V.b (.a (.sl 14 0 ((allD l).length))))))) (by kernel_rfl) ?_
        refine wpc (step_plain rfl (acts_move (d := 31) (ltN rfl) (OpX.tmp 6 (V.v (.int .i64 ((k : Nat) : Int)))))) (by kernel_rfl) ?_
        refine wpc (step_plain rfl (acts_index_sl (d := 32) (x := 30) (h := 14) (off := 0) (n := ((allD l).length)) (k := k) (off' := (k * 3)) (o := ⟨32, 3, true, pl (dsl (allD l))⟩) (ltN rfl) qC15_un_42 qC15_sz_32 (OpV.tmp 31 (.int .i64 ((k : Nat) : Int))) rfl (by omega) (by (simp; done)))) (by kernel_rfl) ?_
        refine wpc (step_plain rfl (acts_load_owns (d := 33) (t := 32) (h := 14) (off := (k * 3)) (o := ⟨32, 3, true, pl (dsl (allD l))⟩)  (xs := [(.int .i64 ((gD (allD l) k).x) : Value), .int .i64 ((gD (allD l) k).y), .bool ((gD (allD l) k).d)].map A.val) (ltN rfl) qC15_ti_32 rfl (by decide) (pl_at (dsl_at (k := k) (by omega))))) (by kernel_rfl) ?_
        refine wpc (step_plain rfl (acts_buildSlice' (d := 34) (h := 34) (n := 1) (s := 3) (xs := dsl ([(gD (allD l) k)] : List Dom)) (ltN rfl) qC15_un_42 qC15_zi_32 (OpVs.cons (i := 0) (OpV.agg 33 [(.int .i64 ((gD (allD l) k).x) : Value), .int .i64 ((gD (allD l) k).y), .bool ((gD (allD l) k).d)]) (OpVs.nil)) (by decide) (by decide) (by kernel_rfl) rfl)) (by kernel_rfl) ?_
        refine wpc (step_plain rfl (acts_app (d := 35) (x := 29) (h := 7) (h2 := 35) (n := ((((allD l).take k).filter (fun d => eqP (cntR l) (cntW l d))).length)) (m := 1) (nm := (((((allD l).take k).filter (fun d => eqP (cntR l) (cntW l d))) ++ [(gD (allD l) k)]).length)) (X := .sl 34 0 1) (xs := dsl (((allD l).take k).filter (fun d => eqP (cntR l) (cntW l d)))) (ys := dsl [(gD (allD l) k)]) (zs := dsl ((((allD l).take k).filter (fun d => eqP (cntR l) (cntW l d))) ++ [(gD (allD l) k)])) (ltN rfl) qC15_un_42 qC15_zi_32 rfl (by decide) (by decide) (by exact dsl_len _) (OpX.tmp 34 (V.b (.a (.sl 34 0 1)))) (src_own (h := 34) (T := 32) (s := 3) (ex := true) (n := 1) (by exact dsl_len _)) (dsl_one' _) (by omega) (by exact (dsl_append _ _).symm) (by (simp; done)))) (by kernel_rfl) ?_
        refine wpc (step_plain rfl (acts_assign (d := 3) (ltN rfl) (OpX.tmp 35 (V.b (.a (.sl 35 0 (((((allD l).take k).filter (fun d => eqP (cntR l) (cntW l d))) ++ [(gD (allD l) k)]).length))))))) (by kernel_rfl) ?_
        refine wpl_nil ?_
        refine wp_region_t ?_
        refine wpc (step_plain rfl (acts_move (d := 19) (ltN rfl) (OpX.tmp 6 (V.v (.int .i64 ((k : Nat) : Int)))))) (by kernel_rfl) ?_
        refine wpc (step_plain rfl (acts_bin (d := 20) (ltN rfl) (OpV.tmp 19 (.int .i64 ((k : Nat) : Int))) (OpV.const (.int .i64 1)) (r_add (c := (((k : Nat) : Int) + 1)) (w64 (by omega) (by omega))))) (by kernel_rfl) ?_
        refine wpc (step_plain rfl (acts_assign (d := 6) (ltN rfl) (OpX.tmp 20 (V.v (.int .i64 (((k : Nat) : Int) + 1)))))) (by kernel_rfl) ?_
        refine wpl_nil ?_
        exact loop_back ((k + 1)) (by show _ ≤ _; omega) (by show (allD l).length - (k + 1) < (allD l).length - k; omega) (weak_of (subst1 [(7, 35)]) [9, 17, 26, 34, 35] (by kernel_rfl) (wk_s (v' := V.p 1 0) (by kernel_rfl) rfl rfl (wk_s (v' := V.b (.a (.sl 35 0 (((((allD l).take k).filter (fun d => eqP (cntR l) (cntW l d))) ++ [(gD (allD l) k)]).length)))) (by kernel_rfl) (vsl (by (exact congrArg List.length (by first | rfl | (simp; done) | exact dfilt_yes (by omega) (by unfold eqP; rw [decide_eq_true_eq]; omega) | exact dfilt_no (by omega) (by unfold eqP; rw [decide_eq_false_iff_not]; omega) | omega))) rfl) rfl (wk_s (v' := V.v (.int .i64 (((cntR l) : Nat) : Int))) (by kernel_rfl) rfl rfl (wk_s (v' := V.b (.a (.sl 14 0 ((allD l).length)))) (by kernel_rfl) rfl rfl (wk_s (v' := V.v (.int .i64 (((k : Nat) : Int) + 1))) (by kernel_rfl) (vint (by rfl)) rfl (wk_o (o' := ⟨30, 1, true, [(.slv l.length 1 (isl l) : A)]⟩) (by kernel_rfl) (renob_l (fun h => h) rfl rfl) rfl (wk_o (o' := ⟨32, 3, true, pl (dsl ((((allD l).take k).filter (fun d => eqP (cntR l) (cntW l d))) ++ [(gD (allD l) k)]))⟩) (by kernel_rfl) (renob_eq (fun h => h) (congrArg dsl (by exact dfilt_yes (by omega) (by unfold eqP; rw [decide_eq_true_eq]; omega)))) rfl (wk_o (o' := ⟨32, 3, true, pl (dsl (allD l))⟩) (by kernel_rfl) (renob_pl (fun h => h)) rfl (wk_f rfl (wk_f rfl (wk_f rfl (wk_f rfl (wk_f rfl (wk_nil)))))))))))))))
      · skip
        have c4P := of_decide_eq_false c4
        refine wp_skip' ?_
        refine wp_region_t ?_
        refine wpc (step_plain rfl (acts_move (d := 19) (ltN rfl) (OpX.tmp 6 (V.v (.int .i64 ((k : Nat) : Int)))))) (by kernel_rfl) ?_
        refine wpc (step_plain rfl (acts_bin (d := 20) (ltN rfl) (OpV.tmp 19 (.int .i64 ((k : Nat) : Int))) (OpV.const (.int .i64 1)) (r_add (c := (((k : Nat) : Int) + 1)) (w64 (by omega) (by omega))))) (by kernel_rfl) ?_
        refine wpc (step_plain rfl (acts_assign (d := 6) (ltN rfl) (OpX.tmp 20 (V.v (.int .i64 (((k : Nat) : Int) + 1)))))) (by kernel_rfl) ?_
        refine wpl_nil ?_
        exact loop_back ((k + 1)) (by show _ ≤ _; omega) (by show (allD l).length - (k + 1) < (allD l).length - k; omega) (weak_of id [9, 17, 26, 34, 35] (by kernel_rfl) (wk_s (v' := V.p 1 0) (by kernel_rfl) rfl rfl (wk_s (v' := V.b (.a (.sl 7 0 ((((allD l).take k).filter (fun d => eqP (cntR l) (cntW l d))).length)))) (by kernel_rfl) (vsl (by (exact congrArg List.length (by first | rfl | (simp; done) | exact dfilt_yes (by omega) (by unfold eqP; rw [decide_eq_true_eq]; omega) | exact dfilt_no (by omega) (by unfold eqP; rw [decide_eq_false_iff_not]; omega) | omega))) rfl) rfl (wk_s (v' := V.v (.int .i64 (((cntR l) : Nat) : Int))) (by kernel_rfl) rfl rfl (wk_s (v' := V.b (.a (.sl 14 0 ((allD l).length)))) (by kernel_rfl) rfl rfl (wk_s (v' := V.v (.int .i64 (((k : Nat) : Int) + 1))) (by kernel_rfl) (vint (by rfl)) rfl (wk_o (o' := ⟨30, 1, true, [(.slv l.length 1 (isl l) : A)]⟩) (by kernel_rfl) (renob_l (fun h => h) rfl rfl) rfl (wk_o (o' := ⟨32, 3, true, pl (dsl (((allD l).take k).filter (fun d => eqP (cntR l) (cntW l d))))⟩) (by kernel_rfl) (renob_eq (fun h => h) (congrArg dsl (by exact dfilt_no (by omega) (by unfold eqP; rw [decide_eq_false_iff_not]; omega)))) rfl (wk_o (o' := ⟨32, 3, true, pl (dsl (allD l))⟩) (by kernel_rfl) (renob_pl (fun h => h)) rfl (wk_f rfl (wk_f rfl (wk_f rfl (wk_f rfl (wk_f rfl (wk_nil)))))))))))))))
    · skip
      have c3P := of_decide_eq_false c3
      refine wp_exit' ?_
      refine wp_seq' ?_
      refine wp_region_t ?_
      refine wpc (step_plain rfl (acts_move (d := 36) (ltN rfl) (OpX.tmp 3 (V.b (.a (.sl 7 0 ((((allD l).take k).filter (fun d => eqP (cntR l) (cntW l d))).length))))))) (by kernel_rfl) ?_
      refine wpc (step_plain rfl (acts_assign (d := 2) (ltN rfl) (OpX.tmp 36 (V.b (.a (.sl 7 0 ((((allD l).take k).filter (fun d => eqP (cntR l) (cntW l d))).length))))))) (by kernel_rfl) ?_
      refine wpl_nil ?_
      refine wp_ret' ?_
      exact VRes.tmp 2 (.a (.sl 7 0 ((((allD l).take k).filter (fun d => eqP (cntR l) (cntW l d))).length))) _ (by kernel_rfl) (brow_doms (h := 7) (L := (((allD l).take k).filter (fun d => eqP (cntR l) (cntW l d)))) (by kernel_rfl) (by rw [dfilt_all _ (by assumption)]; exact (frcT_all (by omega)).symm) (by rfl))
end Cl
end Go.Proofs.Ytabgfoindidigaa
