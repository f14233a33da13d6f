/- Walks over clean states, printed by wg.py. No statement is proved here. -/
import Derived.Test.YtmbodpmhokbapaaC21
import Derived.Test.YtmbodpmhokbapaaCl18
namespace Go.Proofs.Ytmbodpmhokbapaa
namespace Cl
open Go.ChangeShapes Go.WideShapes Go.ChangeAt Go.RowKit

theorem qC22_eg_53 : Try.prog.eqGuardType Try.prog.depth 53 = false := by kernel_rfl
theorem qC22_sz_4 : (Try.prog.info? 4).map (·.size) = some 1 := by kernel_rfl
theorem qC22_sz_53 : (Try.prog.info? 53).map (·.size) = some 2 := by kernel_rfl
theorem qC22_ti_29 : TI Try.prog 29 true 1 := ⟨⟨_, Try.underlying29, rfl⟩, by kernel_rfl⟩
theorem qC22_ti_4 : TI Try.prog 4 false 1 := ⟨⟨_, Try.underlying4, rfl⟩, by kernel_rfl⟩
theorem qC22_ti_53 : TI Try.prog 53 true 2 := ⟨⟨_, Try.underlying53, rfl⟩, by kernel_rfl⟩
theorem qC22_un_69 : Try.prog.underlying 69 = some (.slice 53) := Try.underlying69
theorem qC22_un_94 : Try.prog.underlying 94 = some (.slice 4) := Try.underlying94
theorem qC22_zi_4 : ZI Try.prog 4 (.bool false) 1 1 := by unfold ZI; kernel_rfl
theorem qC22_zi_53 : ZI Try.prog 53 (.agg #[.int .i64 0, .int .i64 0]) 2 16 := by unfold ZI; kernel_rfl
set_option maxHeartbeats 4000000 in
set_option maxRecDepth 100000 in
theorem spec_PieceOf_fn (l : List Int) (c : Cel) (hl : l.length ≤ 4194304) : Fn Try.prog 90 [.agg [(.slv l.length 1 (isl l) : A)], .agg ([(.int .i64 c.x : Value), .int .i64 c.y].map A.val)] [.row 53 2 (pcs l c).length (csl (pcs l c))] := by
  refine fn_intro (N := 95) Try.func90 rfl (by kernel_rfl) rfl (Nat.le_of_ble_eq_true rfl) [2, 3, 12, 14, 17, 20, 23, 26, 29, 37, 40, 49, 56, 66, 73, 74, 77, 87, 92, 93] (ret1 rfl) (fun W => ?_)
  show Wp _ _ _ [(.s 0, some (.s (V.b (.agg [(.slv l.length 1 (isl l) : A)])))), (.s 1, some (.s (V.av [(.int .i64 c.x : Value), .int .i64 c.y]))), (.o 2, some .free), (.o 3, some .free), (.o 12, some .free), (.o 14, some .free), (.o 17, some .free), (.o 20, some .free), (.o 23, some .free), (.o 26, some .free), (.o 29, some .free), (.o 37, some .free), (.o 40, some .free), (.o 49, some .free), (.o 56, some .free), (.o 66, some .free), (.o 73, some .free), (.o 74, some .free), (.o 77, some .free), (.o 87, some .free), (.o 92, some .free), (.o 93, some .free)]
  refine wp_seq' ?_
  refine wp_region_t ?_
  refine w1 (acts_box (d := 2) (h := 2) (b := .agg [(.slv l.length 1 (isl l) : A)]) (ltN rfl) (OpX.tmp 0 (V.b (.agg [(.slv l.length 1 (isl l) : A)]))) (by intro y hy; simp [B.cs] at hy; subst hy; rfl)) ?_
  refine w1 (acts_box (d := 3) (h := 3) (b := .agg ([(.int .i64 c.x : Value), .int .i64 c.y].map A.val)) (ltN rfl) (OpX.tmp 1 (V.av [(.int .i64 c.x : Value), .int .i64 c.y])) (by intro y hy; simp [B.cs] at hy; rcases hy with rfl | rfl <;> rfl)) ?_
  refine w1 (acts_assign (d := 4) (ltN rfl) (OpX.const (.slice none 0 0))) ?_
  refine wpl_nil ?_
  refine wp_seq' ?_
  refine wp_region_t ?_
  refine w1 (acts_buildSlice0' (d := 14) (h := 14) (s := 2) (ltN rfl) qC22_un_69 qC22_zi_53) ?_
  refine w1 (asg 5 14 (V.b (.a (.sl 14 0 0)))) ?_
  refine wpl_nil ?_
  refine wp_seq' ?_
  refine wp_seq' ?_
  refine wp_region_t ?_
  refine w1 (acts_load_owns (d := 15) (t := 2) (h := 2) (off := 0) (o := ⟨29, 1, true, [(.slv l.length 1 (isl l) : A)]⟩)  (xs := [(.slv l.length 1 (isl l) : A)]) (ltN rfl) qC22_ti_29 rfl (by decide) rfl) ?_
  refine w1 (acts_load_owns (d := 16) (t := 3) (h := 3) (off := 0) (o := ⟨53, 2, true, [(.val (.int .i64 c.x) : A), .val (.int .i64 c.y)]⟩)  (xs := [(.int .i64 c.x : Value), .int .i64 c.y].map A.val) (ltN rfl) qC22_ti_53 rfl (by decide) rfl) ?_
  refine w1 (acts_call1 (d := 17) (ltN rfl) (spec_HasCell_fn l c (by omega)) (ArgVs.cons (ArgV.regv 15 l.length 1 (isl l)) (ArgVs.cons (ArgV.va (vs := [(.int .i64 c.x : Value), .int .i64 c.y]) (OpV.agg 16 [(.int .i64 c.x : Value), .int .i64 c.y])) (ArgVs.nil))) (ResV.val _)) ?_
  refine w1 (acts_un (d := 18) (ltN rfl) (OpV.tmp 17 (.bool (hasC l c))) (r_not (c := (!(hasC l c))) rfl)) ?_
  refine wpl_nil ?_
  refine wp_if (t := 18) ((!(hasC l c))) (by kernel_rfl) (fun c1 => ?_) (fun c1 => ?_)
  · skip
    have c2 : (hasC l c) = false := by first | simpa using c1 | (rw [← Bool.not_eq_true']; exact c1)
    refine wp_seq' ?_
    refine wp_region_t ?_
    refine w1 (mv 19 5 (V.b (.a (.sl 14 0 0)))) ?_
    refine w1 (asg 4 19 (V.b (.a (.sl 14 0 0)))) ?_
    refine wpl_nil ?_
    refine wp_ret' ?_
    exact VRes.tmp 4 (.a (.sl 14 0 0)) _ (by kernel_rfl) (brow_cels (h := 14) (L := []) (by kernel_rfl) (by unfold pcs; rw [if_neg (by simp_all)]) (by rfl))
  · skip
    have c3 : (hasC l c) = true := by first | simpa using c1 | (rw [← Bool.not_eq_false']; exact c1)
    obtain ⟨hro, hc⟩ := hasC_S c3
    have hcx := hasS_ok hc
    have hidx := idx_lt hcx
    refine wp_skip' ?_
    refine wp_seq' ?_
    refine wp_region_t ?_
    refine w1 (acts_make' (d := 20) (h := 20) (n := 64) (s := 1) (xs := bsl (List.replicate 64 false)) (ltN rfl) qC22_un_94 qC22_zi_4 (OpV.const (.int .i64 64)) (OpV.const (.int .i64 64)) rfl rfl (by decide) (by omega) (made_bools 64)) ?_
    refine w1 (asg 6 20 (V.b (.a (.sl 20 0 64)))) ?_
    refine wpl_nil ?_
    refine wp_seq' ?_
    refine wp_region_t ?_
    refine w1 (mv 21 6 (V.b (.a (.sl 20 0 64)))) ?_
    refine w1 (acts_load_owns (d := 22) (t := 3) (h := 3) (off := 0) (o := ⟨53, 2, true, [(.val (.int .i64 c.x) : A), .val (.int .i64 c.y)]⟩)  (xs := [(.int .i64 c.x : Value), .int .i64 c.y].map A.val) (ltN rfl) qC22_ti_53 rfl (by decide) rfl) ?_
    refine w1 (acts_call1 (d := 23) (ltN rfl) (spec_CellIndex_fn c (by omega)) (ArgVs.cons (ArgV.va (vs := [(.int .i64 c.x : Value), .int .i64 c.y]) (OpV.agg 22 [(.int .i64 c.x : Value), .int .i64 c.y])) (ArgVs.nil)) (ResV.val _)) ?_
    refine w1 (acts_index_sl (d := 24) (x := 21) (h := 20) (off := 0) (n := 64) (k := (idx c)) (off' := ((idx c) * 1)) (o := ⟨4, 1, true, pl (bsl (List.replicate 64 false))⟩) (ltN rfl) qC22_un_94 qC22_sz_4 (OpV.tmp 23 (.int .i64 (((idx c) : Nat) : Int))) rfl (by omega) (by (simp; done))) ?_
    refine w1 (acts_store (t := 24) (h := 20) (off := ((idx c) * 1)) (o := ⟨4, 1, true, pl (bsl (List.replicate 64 false))⟩) (b := .a (.val (.bool true))) (cells := pl (bsl ((List.replicate 64 false).set (idx c) true))) qC22_ti_4 (OpX.const (.bool true)) rfl (by decide) (by intro y hy; simp [B.cs] at hy; subst hy; rfl) (by simp only [pl_len, bsl_len]; first | omega | assumption | exact hasS_ok (ginv_has hc hg (gC_mem (by omega))) | (simp; done) | (rw [List.length_replicate]; omega) | (rw [bitsL_len]; omega) | exact nbs_ok (by omega)) (bsl_put (k := (idx c)) (by assumption))) ?_
    refine wpl_nil ?_
    refine wp_seq' ?_
    refine wp_region_t ?_
    refine w1 (acts_load_owns (d := 25) (t := 3) (h := 3) (off := 0) (o := ⟨53, 2, true, [(.val (.int .i64 c.x) : A), .val (.int .i64 c.y)]⟩)  (xs := [(.int .i64 c.x : Value), .int .i64 c.y].map A.val) (ltN rfl) qC22_ti_53 rfl (by decide) rfl) ?_
    refine w1 (acts_buildSlice' (d := 26) (h := 26) (n := 1) (s := 2) (xs := csl ([c] : List Cel)) (ltN rfl) qC22_un_69 qC22_zi_53 (OpVs.cons (i := 0) (OpV.agg 25 [(.int .i64 c.x : Value), .int .i64 c.y]) (OpVs.nil)) (by decide) (by decide) (by kernel_rfl) rfl) ?_
    refine w1 (asg 7 26 (V.b (.a (.sl 26 0 1)))) ?_
    refine wpl_nil ?_
    refine wp_seq' ?_
    refine wp_seq' ?_
    refine wp_region_t ?_
    refine w1 (acts_assign (d := 8) (ltN rfl) (OpX.const (.int .i64 0))) ?_
    refine wpl_nil ?_
    refine wp_block' ?_
    refine wp_loop' (fun (x : Nat × (List Cel)) => match x with | (k, L) => GInv nbs (okS (regSet l)) c L k) (fun (x : Nat × (List Cel)) => match x with | (k, L) => [(.s 2, some (.s (V.p 2 0))), (.s 5, some (.s (V.b (.a (.sl 14 0 0))))), (.s 6, some (.s (V.b (.a (.sl 20 0 64))))), (.s 7, some (.s (V.b (.a (.sl 26 0 L.length))))), (.s 8, some (.s (V.v (.int .i64 ((k : Nat) : Int))))), (.o 2, some (.o ⟨29, 1, true, [(.slv l.length 1 (isl l) : A)]⟩)), (.o 14, some (.o ⟨53, 2, true, pl (csl [])⟩)), (.o 20, some (.o ⟨4, 1, true, pl (bsl (bitsL (setL L)))⟩)), (.o 26, some (.o ⟨53, 2, true, pl (csl L)⟩)), (.o 3, some .free), (.o 12, some .free), (.o 17, some .free), (.o 23, some .free), (.o 29, some .free), (.o 37, some .free), (.o 40, some .free), (.o 49, some .free), (.o 56, some .free), (.o 66, some .free), (.o 73, some .free), (.o 74, some .free), (.o 77, some .free), (.o 87, some .free), (.o 92, some .free), (.o 93, some .free)]) (fun (x : Nat × (List Cel)) => match x with | (k, L) => 64 - k) ((0 : Nat), ([c] : List Cel)) (by exact rinit) (weak_of id [3, 12, 17, 23, 29, 37, 40, 49, 56, 66, 73, 74, 77, 87, 92, 93] (by kernel_rfl) (wk_s (v' := V.p 2 0) (by kernel_rfl) rfl rfl (wk_s (v' := V.b (.a (.sl 14 0 0))) (by kernel_rfl) rfl rfl (wk_s (v' := V.b (.a (.sl 20 0 64))) (by kernel_rfl) rfl rfl (wk_s (v' := V.b (.a (.sl 26 0 1))) (by kernel_rfl) (vsl (by rfl) rfl) rfl (wk_s (v' := V.v (.int .i64 0)) (by kernel_rfl) (vint (by rfl)) rfl (wk_o (o' := ⟨29, 1, true, [(.slv l.length 1 (isl l) : A)]⟩) (by kernel_rfl) (renob_l (fun h => h) rfl rfl) rfl (wk_o (o' := ⟨53, 2, true, pl (csl [])⟩) (by kernel_rfl) (renob_pl (fun h => h)) rfl (wk_o (o' := ⟨4, 1, true, pl (bsl ((List.replicate 64 false).set (idx c) true))⟩) (by kernel_rfl) (renob_eq (fun h => h) (congrArg bsl (by (rw [bitsL_zero, bitsL_set]; rfl)))) rfl (wk_o (o' := ⟨53, 2, true, pl (csl [c])⟩) (by kernel_rfl) (renob_pl (fun h => h)) rfl (wk_f rfl (wk_f rfl (wk_f rfl (wk_f rfl (wk_f rfl (wk_f rfl (wk_f rfl (wk_f rfl (wk_f rfl (wk_f rfl (wk_f rfl (wk_f rfl (wk_f rfl (wk_f rfl (wk_f rfl (wk_f rfl (wk_nil))))))))))))))))))))))))))) ?_
    rintro ⟨k, L⟩ inv4
    replace inv4 : GInv nbs (okS (regSet l)) c L k := inv4
    have hg := inv4
    show Wp _ _ _ [(.s 2, some (.s (V.p 2 0))), (.s 5, some (.s (V.b (.a (.sl 14 0 0))))), (.s 6, some (.s (V.b (.a (.sl 20 0 64))))), (.s 7, some (.s (V.b (.a (.sl 26 0 L.length))))), (.s 8, some (.s (V.v (.int .i64 ((k : Nat) : Int))))), (.o 2, some (.o ⟨29, 1, true, [(.slv l.length 1 (isl l) : A)]⟩)), (.o 14, some (.o ⟨53, 2, true, pl (csl [])⟩)), (.o 20, some (.o ⟨4, 1, true, pl (bsl (bitsL (setL L)))⟩)), (.o 26, some (.o ⟨53, 2, true, pl (csl L)⟩)), (.o 3, some .free), (.o 12, some .free), (.o 17, some .free), (.o 23, some .free), (.o 29, some .free), (.o 37, some .free), (.o 40, some .free), (.o 49, some .free), (.o 56, some .free), (.o 66, some .free), (.o 73, some .free), (.o 74, some .free), (.o 77, some .free), (.o 87, some .free), (.o 92, some .free), (.o 93, some .free)]
    have hgl := ginv_len hc hg
    have hbl := bitsL_len (setL L)
    refine wp_seq' ?_
    refine wp_seq' ?_
    refine wp_region_t ?_
    refine w1 (mv 27 8 (V.v (.int .i64 ((k : Nat) : Int)))) ?_
    refine w1 (mv 28 7 (V.b (.a (.sl 26 0 L.length)))) ?_
    refine w1 (acts_len (d := 29) (X := .sl 26 0 L.length) (n := L.length) (iv := ((L.length : Nat) : Int)) (ltN rfl) qC22_un_69 (OpX.tmp 28 (V.b (.a (.sl 26 0 L.length)))) (LenOf.sl _ _ _) rfl) ?_
    refine w1 (bn 30 (OpV.tmp 27 (.int .i64 ((k : Nat) : Int))) (OpV.tmp 29 (.int .i64 ((L.length : Nat) : Int))) (r_lss (c := (decide (((k : Nat) : Int) < ((L.length : Nat) : Int)))) rfl)) ?_
    refine wpl_nil ?_
    refine wp_if (t := 30) (decide (((k : Nat) : Int) < ((L.length : Nat) : Int))) (by kernel_rfl) (fun c5 => ?_) (fun c5 => ?_)
    · skip
      have c5P := of_decide_eq_true c5
      have hR0 := RIn.zero hc hg (by omega)
      have hOk := hasS_ok (ginv_has hc hg (gC_mem (l := L) (k := k) (by omega)))
      refine wp_skip' ?_
      refine wp_seq' ?_
      refine wp_block' ?_
      refine wp_seq' ?_
      refine wp_region_t ?_
      refine w1 (mv 33 7 (V.b (.a (.sl 26 0 L.length)))) ?_
      refine w1 (mv 34 8 (V.v (.int .i64 ((k : Nat) : Int)))) ?_
      refine w1 (acts_index_sl (d := 35) (x := 33) (h := 26) (off := 0) (n := L.length) (k := k) (off' := (k * 2)) (o := ⟨53, 2, true, pl (csl L)⟩) (ltN rfl) qC22_un_69 qC22_sz_53 (OpV.tmp 34 (.int .i64 ((k : Nat) : Int))) rfl (by omega) (by (simp; done))) ?_
      refine w1 (acts_load_owns (d := 36) (t := 35) (h := 26) (off := (k * 2)) (o := ⟨53, 2, true, pl (csl L)⟩)  (xs := [(.int .i64 ((gC L k).x) : Value), .int .i64 ((gC L k).y)].map A.val) (ltN rfl) qC22_ti_53 rfl (by decide) (pl_at (csl_at (k := k) (by omega)))) ?_
      refine w1 (acts_call1 (d := 37) (ltN rfl) (spec_NeighborsOf_fn (gC L k) ) (ArgVs.cons (ArgV.va (vs := [(.int .i64 ((gC L k).x) : Value), .int .i64 ((gC L k).y)]) (OpV.agg 36 [(.int .i64 ((gC L k).x) : Value), .int .i64 ((gC L k).y)])) (ArgVs.nil)) (ResV.row 53 2 ((nbs (gC L k)).length) (csl (nbs (gC L k))) 37)) ?_
      refine w1 (asg 9 37 (V.b (.a (.sl 37 0 ((nbs (gC L k)).length))))) ?_
      refine wpl_nil ?_
      refine wp_seq' ?_
      refine wp_region_t ?_
      refine w1 (acts_assign (d := 10) (ltN rfl) (OpX.const (.int .i64 0))) ?_
      refine wpl_nil ?_
      refine wp_block' ?_
      refine wp_loop' (fun (x : Nat × (List Cel)) => match x with | (j, M) => j ≤ (nbs (gC L k)).length ∧ RIn (regSet l) c L k M j) (fun (x : Nat × (List Cel)) => match x with | (j, M) => [(.s 2, some (.s (V.p 2 0))), (.s 5, some (.s (V.b (.a (.sl 14 0 0))))), (.s 6, some (.s (V.b (.a (.sl 20 0 64))))), (.s 7, some (.s (V.b (.a (.sl 26 0 M.length))))), (.s 8, some (.s (V.v (.int .i64 ((k : Nat) : Int))))), (.s 9, some (.s (V.b (.a (.sl 37 0 ((nbs (gC L k)).length)))))), (.s 10, some (.s (V.v (.int .i64 ((j : Nat) : Int))))), (.o 2, some (.o ⟨29, 1, true, [(.slv l.length 1 (isl l) : A)]⟩)), (.o 14, some (.o ⟨53, 2, true, pl (csl [])⟩)), (.o 20, some (.o ⟨4, 1, true, pl (bsl (bitsL (setL M)))⟩)), (.o 26, some (.o ⟨53, 2, true, pl (csl M)⟩)), (.o 37, some (.o ⟨53, 2, true, pl (csl (nbs (gC L k)))⟩)), (.o 3, some .free), (.o 12, some .free), (.o 17, some .free), (.o 23, some .free), (.o 29, some .free), (.o 40, some .free), (.o 49, some .free), (.o 56, some .free), (.o 66, some .free), (.o 73, some .free), (.o 74, some .free), (.o 77, some .free), (.o 87, some .free), (.o 92, some .free), (.o 93, some .free)]) (fun (x : Nat × (List Cel)) => match x with | (j, M) => (nbs (gC L k)).length - j) ((0 : Nat), (L : List Cel)) (by exact ⟨Nat.zero_le _, hR0⟩) (weak_of id [3, 12, 17, 23, 29, 40, 49, 56, 66, 73, 74, 77, 87, 92, 93] (by kernel_rfl) (wk_s (v' := V.p 2 0) (by kernel_rfl) rfl rfl (wk_s (v' := V.b (.a (.sl 14 0 0))) (by kernel_rfl) rfl rfl (wk_s (v' := V.b (.a (.sl 20 0 64))) (by kernel_rfl) rfl rfl (wk_s (v' := V.b (.a (.sl 26 0 L.length))) (by kernel_rfl) rfl rfl (wk_s (v' := V.v (.int .i64 ((k : Nat) : Int))) (by kernel_rfl) rfl rfl (wk_s (v' := V.b (.a (.sl 37 0 ((nbs (gC L k)).length)))) (by kernel_rfl) rfl rfl (wk_s (v' := V.v (.int .i64 0)) (by kernel_rfl) (vint (by rfl)) rfl (wk_o (o' := ⟨29, 1, true, [(.slv l.length 1 (isl l) : A)]⟩) (by kernel_rfl) (renob_l (fun h => h) rfl rfl) rfl (wk_o (o' := ⟨53, 2, true, pl (csl [])⟩) (by kernel_rfl) (renob_pl (fun h => h)) rfl (wk_o (o' := ⟨4, 1, true, pl (bsl (bitsL (setL L)))⟩) (by kernel_rfl) (renob_pl (fun h => h)) rfl (wk_o (o' := ⟨53, 2, true, pl (csl L)⟩) (by kernel_rfl) (renob_pl (fun h => h)) rfl (wk_o (o' := ⟨53, 2, true, pl (csl (nbs (gC L k)))⟩) (by kernel_rfl) (renob_pl (fun h => h)) rfl (wk_f rfl (wk_f rfl (wk_f rfl (wk_f rfl (wk_f rfl (wk_f rfl (wk_f rfl (wk_f rfl (wk_f rfl (wk_f rfl (wk_f rfl (wk_f rfl (wk_f rfl (wk_f rfl (wk_f rfl (wk_nil))))))))))))))))))))))))))))) ?_
      rintro ⟨j, M⟩ inv6
      replace inv6 : j ≤ (nbs (gC L k)).length ∧ RIn (regSet l) c L k M j := inv6
      obtain ⟨inv6_0, inv6_1⟩ := inv6
      show Wp _ _ _ [(.s 2, some (.s (V.p 2 0))), (.s 5, some (.s (V.b (.a (.sl 14 0 0))))), (.s 6, some (.s (V.b (.a (.sl 20 0 64))))), (.s 7, some (.s (V.b (.a (.sl 26 0 M.length))))), (.s 8, some (.s (V.v (.int .i64 ((k : Nat) : Int))))), (.s 9, some (.s (V.b (.a (.sl 37 0 ((nbs (gC L k)).length)))))), (.s 10, some (.s (V.v (.int .i64 ((j : Nat) : Int))))), (.o 2, some (.o ⟨29, 1, true, [(.slv l.length 1 (isl l) : A)]⟩)), (.o 14, some (.o ⟨53, 2, true, pl (csl [])⟩)), (.o 20, some (.o ⟨4, 1, true, pl (bsl (bitsL (setL M)))⟩)), (.o 26, some (.o ⟨53, 2, true, pl (csl M)⟩)), (.o 37, some (.o ⟨53, 2, true, pl (csl (nbs (gC L k)))⟩)), (.o 3, some .free), (.o 12, some .free), (.o 17, some .free), (.o 23, some .free), (.o 29, some .free), (.o 40, some .free), (.o 49, some .free), (.o 56, some .free), (.o 66, some .free), (.o 73, some .free), (.o 74, some .free), (.o 77, some .free), (.o 87, some .free), (.o 92, some .free), (.o 93, some .free)]
      have hR : RIn (regSet l) c L k M j := by assumption
      have hml := hR.len
      have hkl := hR.kl
      have hn4 := nbs_len (gC L k)
      have hbl2 := bitsL_len (setL M)
      refine wp_seq' ?_
      refine wp_seq' ?_
      refine wp_region_t ?_
      refine w1 (mv 38 10 (V.v (.int .i64 ((j : Nat) : Int)))) ?_
      refine w1 (mv 39 9 (V.b (.a (.sl 37 0 ((nbs (gC L k)).length))))) ?_
      refine w1 (acts_len (d := 40) (X := .sl 37 0 ((nbs (gC L k)).length)) (n := ((nbs (gC L k)).length)) (iv := (((nbs (gC L k)).length : Nat) : Int)) (ltN rfl) qC22_un_69 (OpX.tmp 39 (V.b (.a (.sl 37 0 ((nbs (gC L k)).length))))) (LenOf.sl _ _ _) rfl) ?_
      refine w1 (bn 41 (OpV.tmp 38 (.int .i64 ((j : Nat) : Int))) (OpV.tmp 40 (.int .i64 (((nbs (gC L k)).length : Nat) : Int))) (r_lss (c := (decide (((j : Nat) : Int) < (((nbs (gC L k)).length : Nat) : Int)))) rfl)) ?_
      refine wpl_nil ?_
      refine wp_if (t := 41) (decide (((j : Nat) : Int) < (((nbs (gC L k)).length : Nat) : Int))) (by kernel_rfl) (fun c7 => ?_) (fun c7 => ?_)
      · skip
        have c7P := of_decide_eq_true c7
        have hO := nbs_ok (b := gC L k) (k := j) (by omega)
        have hI := idx_lt hO
        refine wp_skip' ?_
        refine wp_seq' ?_
        refine wp_block' ?_
        refine wp_seq' ?_
        refine wp_join [(.s 60, some (.s (V.v (.bool ((hasR l (gC (nbs (gC L k)) j)) && (!(gB (bitsL (setL M)) (idx (gC (nbs (gC L k)) j))))))))), (.s 2, some (.s (V.p 2 0))), (.s 5, some (.s (V.b (.a (.sl 14 0 0))))), (.s 6, some (.s (V.b (.a (.sl 20 0 64))))), (.s 7, some (.s (V.b (.a (.sl 26 0 M.length))))), (.s 8, some (.s (V.v (.int .i64 ((k : Nat) : Int))))), (.s 9, some (.s (V.b (.a (.sl 37 0 ((nbs (gC L k)).length)))))), (.s 10, some (.s (V.v (.int .i64 ((j : Nat) : Int))))), (.o 2, some (.o ⟨29, 1, true, [(.slv l.length 1 (isl l) : A)]⟩)), (.o 14, some (.o ⟨53, 2, true, pl (csl [])⟩)), (.o 20, some (.o ⟨4, 1, true, pl (bsl (bitsL (setL M)))⟩)), (.o 26, some (.o ⟨53, 2, true, pl (csl M)⟩)), (.o 37, some (.o ⟨53, 2, true, pl (csl (nbs (gC L k)))⟩)), (.o 3, some .free), (.o 12, some .free), (.o 17, some .free), (.o 23, some .free), (.o 29, some .free), (.o 40, some .free), (.o 49, some .free), (.o 56, some .free), (.o 66, some .free), (.o 73, some .free), (.o 74, some .free), (.o 77, some .free), (.o 87, some .free), (.o 92, some .free), (.o 93, some .free)] ?_ ?_
        · skip
          rcases Bool.eq_false_or_eq_true ((hasR l (gC (nbs (gC L k)) j))) with c8 | c8
          · skip
            have hS1 : hasS (regSet l) (gC (nbs (gC L k)) j) = true := (hasR_S hro hO).symm.trans c8
            refine wp_drawn' (by kernel_rfl) (AllSteps.cons (step_plain rfl (acts_load_owns (d := 44) (t := 2) (h := 2) (off := 0) (o := ⟨29, 1, true, [(.slv l.length 1 (isl l) : A)]⟩)  (xs := [(.slv l.length 1 (isl l) : A)]) (ltN rfl) qC22_ti_29 rfl (by decide) rfl)) (AllSteps.cons (step_plain rfl (mv 45 9 (V.b (.a (.sl 37 0 ((nbs (gC L k)).length)))))) (AllSteps.cons (step_plain rfl (mv 46 10 (V.v (.int .i64 ((j : Nat) : Int))))) (AllSteps.cons (step_plain rfl (acts_index_sl (d := 47) (x := 45) (h := 37) (off := 0) (n := ((nbs (gC L k)).length)) (k := j) (off' := (j * 2)) (o := ⟨53, 2, true, pl (csl (nbs (gC L k)))⟩) (ltN rfl) qC22_un_69 qC22_sz_53 (OpV.tmp 46 (.int .i64 ((j : Nat) : Int))) rfl (by omega) (by (simp; done)))) (AllSteps.cons (step_plain rfl (acts_load_owns (d := 48) (t := 47) (h := 37) (off := (j * 2)) (o := ⟨53, 2, true, pl (csl (nbs (gC L k)))⟩)  (xs := [(.int .i64 ((gC (nbs (gC L k)) j).x) : Value), .int .i64 ((gC (nbs (gC L k)) j).y)].map A.val) (ltN rfl) qC22_ti_53 rfl (by decide) (pl_at (csl_at (k := j) (by omega))))) (AllSteps.cons (step_plain rfl (acts_call1 (d := 49) (ltN rfl) (spec_l03Has_fn l (gC (nbs (gC L k)) j) (by omega) (by omega)) (ArgVs.cons (ArgV.regv 44 l.length 1 (isl l)) (ArgVs.cons (ArgV.va (vs := [(.int .i64 ((gC (nbs (gC L k)) j).x) : Value), .int .i64 ((gC (nbs (gC L k)) j).y)]) (OpV.agg 48 [(.int .i64 ((gC (nbs (gC L k)) j).x) : Value), .int .i64 ((gC (nbs (gC L k)) j).y)])) (ArgVs.nil))) ((resval (congrArg Value.bool c8))))) (AllSteps.cons (step_plain rfl (mv 50 49 (V.v (.bool true)))) (AllSteps.cons (step_on (dj := 50) rfl rfl (mv 51 6 (V.b (.a (.sl 20 0 64))))) (AllSteps.cons (step_on (dj := 50) rfl rfl (mv 52 9 (V.b (.a (.sl 37 0 ((nbs (gC L k)).length)))))) (AllSteps.cons (step_on (dj := 50) rfl rfl (mv 53 10 (V.v (.int .i64 ((j : Nat) : Int))))) (AllSteps.cons (step_on (dj := 50) rfl rfl (acts_index_sl (d := 54) (x := 52) (h := 37) (off := 0) (n := ((nbs (gC L k)).length)) (k := j) (off' := (j * 2)) (o := ⟨53, 2, true, pl (csl (nbs (gC L k)))⟩) (ltN rfl) qC22_un_69 qC22_sz_53 (OpV.tmp 53 (.int .i64 ((j : Nat) : Int))) rfl (by omega) (by (simp; done)))) (AllSteps.cons (step_on (dj := 50) rfl rfl (acts_load_owns (d := 55) (t := 54) (h := 37) (off := (j * 2)) (o := ⟨53, 2, true, pl (csl (nbs (gC L k)))⟩)  (xs := [(.int .i64 ((gC (nbs (gC L k)) j).x) : Value), .int .i64 ((gC (nbs (gC L k)) j).y)].map A.val) (ltN rfl) qC22_ti_53 rfl (by decide) (pl_at (csl_at (k := j) (by omega))))) (AllSteps.cons (step_on (dj := 50) rfl rfl (acts_call1 (d := 56) (ltN rfl) (spec_CellIndex_fn (gC (nbs (gC L k)) j) (by omega)) (ArgVs.cons (ArgV.va (vs := [(.int .i64 ((gC (nbs (gC L k)) j).x) : Value), .int .i64 ((gC (nbs (gC L k)) j).y)]) (OpV.agg 55 [(.int .i64 ((gC (nbs (gC L k)) j).x) : Value), .int .i64 ((gC (nbs (gC L k)) j).y)])) (ArgVs.nil)) (ResV.val _))) (AllSteps.cons (step_on (dj := 50) rfl rfl (acts_index_sl (d := 57) (x := 51) (h := 20) (off := 0) (n := 64) (k := (idx (gC (nbs (gC L k)) j))) (off' := ((idx (gC (nbs (gC L k)) j)) * 1)) (o := ⟨4, 1, true, pl (bsl (bitsL (setL M)))⟩) (ltN rfl) qC22_un_94 qC22_sz_4 (OpV.tmp 56 (.int .i64 (((idx (gC (nbs (gC L k)) j)) : Nat) : Int))) rfl (by omega) (by (simp; done)))) (AllSteps.cons (step_on (dj := 50) rfl rfl (acts_load_own (d := 58) (t := 57) (h := 20) (off := ((idx (gC (nbs (gC L k)) j)) * 1)) (o := ⟨4, 1, true, pl (bsl (bitsL (setL M)))⟩)  (x := .val (.bool (gB (bitsL (setL M)) (idx (gC (nbs (gC L k)) j))))) (ltN rfl) qC22_ti_4 (pl_get (bsl_get1 (k := (idx (gC (nbs (gC L k)) j))) (by omega))))) (AllSteps.cons (step_on (dj := 50) rfl rfl (acts_un (d := 59) (ltN rfl) (OpV.tmp 58 (.bool (gB (bitsL (setL M)) (idx (gC (nbs (gC L k)) j))))) (r_not (c := (!(gB (bitsL (setL M)) (idx (gC (nbs (gC L k)) j))))) rfl))) (AllSteps.cons (step_plain rfl (acts_pick_t (d := 60) (ltN rfl) (OpV.tmp 50 (.bool true)) (OpX.tmp 59 (V.v (.bool (!(gB (bitsL (setL M)) (idx (gC (nbs (gC L k)) j))))))))) (AllSteps.nil)))))))))))))))))) (by kernel_rfl) (by kernel_rfl) (by kernel_rfl) ?_
            exact ⟨rfl, weak_reads ⟨(by simp only [c8]; first | done | kernel_rfl), (by repeat (first | exact trivial | refine ⟨by kernel_rfl, ?_⟩))⟩⟩
          · skip
            have hS1 : hasS (regSet l) (gC (nbs (gC L k)) j) = false := (hasR_S hro hO).symm.trans c8
            refine wp_drawn' (by kernel_rfl) (AllSteps.cons (step_plain rfl (acts_load_owns (d := 44) (t := 2) (h := 2) (off := 0) (o := ⟨29, 1, true, [(.slv l.length 1 (isl l) : A)]⟩)  (xs := [(.slv l.length 1 (isl l) : A)]) (ltN rfl) qC22_ti_29 rfl (by decide) rfl)) (AllSteps.cons (step_plain rfl (mv 45 9 (V.b (.a (.sl 37 0 ((nbs (gC L k)).length)))))) (AllSteps.cons (step_plain rfl (mv 46 10 (V.v (.int .i64 ((j : Nat) : Int))))) (AllSteps.cons (step_plain rfl (acts_index_sl (d := 47) (x := 45) (h := 37) (off := 0) (n := ((nbs (gC L k)).length)) (k := j) (off' := (j * 2)) (o := ⟨53, 2, true, pl (csl (nbs (gC L k)))⟩) (ltN rfl) qC22_un_69 qC22_sz_53 (OpV.tmp 46 (.int .i64 ((j : Nat) : Int))) rfl (by omega) (by (simp; done)))) (AllSteps.cons (step_plain rfl (acts_load_owns (d := 48) (t := 47) (h := 37) (off := (j * 2)) (o := ⟨53, 2, true, pl (csl (nbs (gC L k)))⟩)  (xs := [(.int .i64 ((gC (nbs (gC L k)) j).x) : Value), .int .i64 ((gC (nbs (gC L k)) j).y)].map A.val) (ltN rfl) qC22_ti_53 rfl (by decide) (pl_at (csl_at (k := j) (by omega))))) (AllSteps.cons (step_plain rfl (acts_call1 (d := 49) (ltN rfl) (spec_l03Has_fn l (gC (nbs (gC L k)) j) (by omega) (by omega)) (ArgVs.cons (ArgV.regv 44 l.length 1 (isl l)) (ArgVs.cons (ArgV.va (vs := [(.int .i64 ((gC (nbs (gC L k)) j).x) : Value), .int .i64 ((gC (nbs (gC L k)) j).y)]) (OpV.agg 48 [(.int .i64 ((gC (nbs (gC L k)) j).x) : Value), .int .i64 ((gC (nbs (gC L k)) j).y)])) (ArgVs.nil))) ((resval (congrArg Value.bool c8))))) (AllSteps.cons (step_plain rfl (mv 50 49 (V.v (.bool false)))) (AllSteps.cons (step_off (dj := 50) (b' := false) rfl rfl (by decide) rfl (ltN rfl)) (AllSteps.cons (step_off (dj := 50) (b' := false) rfl rfl (by decide) rfl (ltN rfl)) (AllSteps.cons (step_off (dj := 50) (b' := false) rfl rfl (by decide) rfl (ltN rfl)) (AllSteps.cons (step_off (dj := 50) (b' := false) rfl rfl (by decide) rfl (ltN rfl)) (AllSteps.cons (step_off (dj := 50) (b' := false) rfl rfl (by decide) rfl (ltN rfl)) (AllSteps.cons (step_off (dj := 50) (b' := false) rfl rfl (by decide) rfl (ltN rfl)) (AllSteps.cons (step_off (dj := 50) (b' := false) rfl rfl (by decide) rfl (ltN rfl)) (AllSteps.cons (step_off (dj := 50) (b' := false) rfl rfl (by decide) rfl (ltN rfl)) (AllSteps.cons (step_off (dj := 50) (b' := false) rfl rfl (by decide) rfl (ltN rfl)) (AllSteps.cons (step_plain rfl (acts_pick_f (d := 60) (ltN rfl) (OpV.tmp 50 (.bool false)) (OpX.const (.bool false)))) (AllSteps.nil)))))))))))))))))) (by kernel_rfl) (by kernel_rfl) (by kernel_rfl) ?_
            exact ⟨rfl, weak_reads ⟨(by simp only [c8]; first | done | kernel_rfl), (by repeat (first | exact trivial | refine ⟨by kernel_rfl, ?_⟩))⟩⟩
        refine wp_if (t := 60) (((hasR l (gC (nbs (gC L k)) j)) && (!(gB (bitsL (setL M)) (idx (gC (nbs (gC L k)) j)))))) (by kernel_rfl) (fun c9 => ?_) (fun c9 => ?_)
        · skip
          obtain ⟨c10, c11⟩ := and_tt c9
          have hS1 : hasS (regSet l) (gC (nbs (gC L k)) j) = true := (hasR_S hro hO).symm.trans c10
          have c12 : (gB (bitsL (setL M)) (idx (gC (nbs (gC L k)) j))) = false := by first | simpa using c11 | (rw [← Bool.not_eq_true']; exact c11)
          have hS2 : hasS (setL M) (gC (nbs (gC L k)) j) = false := (gB_bitS hO).symm.trans c12
          refine wp_seq' ?_
          refine wp_region_t ?_
          refine w1 (mv 61 6 (V.b (.a (.sl 20 0 64)))) ?_
          refine w1 (mv 62 9 (V.b (.a (.sl 37 0 ((nbs (gC L k)).length))))) ?_
          refine w1 (mv 63 10 (V.v (.int .i64 ((j : Nat) : Int)))) ?_
          refine w1 (acts_index_sl (d := 64) (x := 62) (h := 37) (off := 0) (n := ((nbs (gC L k)).length)) (k := j) (off' := (j * 2)) (o := ⟨53, 2, true, pl (csl (nbs (gC L k)))⟩) (ltN rfl) qC22_un_69 qC22_sz_53 (OpV.tmp 63 (.int .i64 ((j : Nat) : Int))) rfl (by omega) (by (simp; done))) ?_
          refine w1 (acts_load_owns (d := 65) (t := 64) (h := 37) (off := (j * 2)) (o := ⟨53, 2, true, pl (csl (nbs (gC L k)))⟩)  (xs := [(.int .i64 ((gC (nbs (gC L k)) j).x) : Value), .int .i64 ((gC (nbs (gC L k)) j).y)].map A.val) (ltN rfl) qC22_ti_53 rfl (by decide) (pl_at (csl_at (k := j) (by omega)))) ?_
          refine w1 (acts_call1 (d := 66) (ltN rfl) (spec_CellIndex_fn (gC (nbs (gC L k)) j) (by omega)) (ArgVs.cons (ArgV.va (vs := [(.int .i64 ((gC (nbs (gC L k)) j).x) : Value), .int .i64 ((gC (nbs (gC L k)) j).y)]) (OpV.agg 65 [(.int .i64 ((gC (nbs (gC L k)) j).x) : Value), .int .i64 ((gC (nbs (gC L k)) j).y)])) (ArgVs.nil)) (ResV.val _)) ?_
          refine w1 (acts_index_sl (d := 67) (x := 61) (h := 20) (off := 0) (n := 64) (k := (idx (gC (nbs (gC L k)) j))) (off' := ((idx (gC (nbs (gC L k)) j)) * 1)) (o := ⟨4, 1, true, pl (bsl (bitsL (setL M)))⟩) (ltN rfl) qC22_un_94 qC22_sz_4 (OpV.tmp 66 (.int .i64 (((idx (gC (nbs (gC L k)) j)) : Nat) : Int))) rfl (by omega) (by (simp; done))) ?_
          refine w1 (acts_store (t := 67) (h := 20) (off := ((idx (gC (nbs (gC L k)) j)) * 1)) (o := ⟨4, 1, true, pl (bsl (bitsL (setL M)))⟩) (b := .a (.val (.bool true))) (cells := pl (bsl ((bitsL (setL M)).set (idx (gC (nbs (gC L k)) j)) true))) qC22_ti_4 (OpX.const (.bool true)) rfl (by decide) (by intro y hy; simp [B.cs] at hy; subst hy; rfl) (by simp only [pl_len, bsl_len]; first | omega | assumption | exact hasS_ok (ginv_has hc hg (gC_mem (by omega))) | (simp; done) | (rw [List.length_replicate]; omega) | (rw [bitsL_len]; omega) | exact nbs_ok (by omega)) (bsl_put (k := (idx (gC (nbs (gC L k)) j))) (by omega))) ?_
          refine wpl_nil ?_
          refine wp_region_t ?_
          refine w1 (mv 68 7 (V.b (.a (.sl 26 0 M.length)))) ?_
          refine w1 (mv 69 9 (V.b (.a (.sl 37 0 ((nbs (gC L k)).length))))) ?_
          refine w1 (mv 70 10 (V.v (.int .i64 ((j : Nat) : Int)))) ?_
          refine w1 (acts_index_sl (d := 71) (x := 69) (h := 37) (off := 0) (n := ((nbs (gC L k)).length)) (k := j) (off' := (j * 2)) (o := ⟨53, 2, true, pl (csl (nbs (gC L k)))⟩) (ltN rfl) qC22_un_69 qC22_sz_53 (OpV.tmp 70 (.int .i64 ((j : Nat) : Int))) rfl (by omega) (by (simp; done))) ?_
          refine w1 (acts_load_owns (d := 72) (t := 71) (h := 37) (off := (j * 2)) (o := ⟨53, 2, true, pl (csl (nbs (gC L k)))⟩)  (xs := [(.int .i64 ((gC (nbs (gC L k)) j).x) : Value), .int .i64 ((gC (nbs (gC L k)) j).y)].map A.val) (ltN rfl) qC22_ti_53 rfl (by decide) (pl_at (csl_at (k := j) (by omega)))) ?_
          refine w1 (acts_buildSlice' (d := 73) (h := 73) (n := 1) (s := 2) (xs := csl ([(gC (nbs (gC L k)) j)] : List Cel)) (ltN rfl) qC22_un_69 qC22_zi_53 (OpVs.cons (i := 0) (OpV.agg 72 [(.int .i64 ((gC (nbs (gC L k)) j).x) : Value), .int .i64 ((gC (nbs (gC L k)) j).y)]) (OpVs.nil)) (by decide) (by decide) (by kernel_rfl) rfl) ?_
          refine w1 (acts_app (d := 74) (x := 68) (h := 26) (h2 := 74) (n := M.length) (m := 1) (nm := ((M ++ [(gC (nbs (gC L k)) j)]).length)) (X := .sl 73 0 1) (xs := csl M) (ys := csl [(gC (nbs (gC L k)) j)]) (zs := csl (M ++ [(gC (nbs (gC L k)) j)])) (ltN rfl) qC22_un_69 qC22_zi_53 rfl (by decide) (by decide) (by exact csl_len _) (OpX.tmp 73 (V.b (.a (.sl 73 0 1)))) (src_own (h := 73) (T := 53) (s := 2) (ex := true) (n := 1) (by exact csl_len _)) (csl_one' _) (by omega) (by exact (csl_append _ _).symm) (by (simp; done))) ?_
          refine w1 (asg 7 74 (V.b (.a (.sl 74 0 ((M ++ [(gC (nbs (gC L k)) j)]).length))))) ?_
          refine wpl_nil ?_
          refine wp_region_t ?_
          refine w1 (mv 42 10 (V.v (.int .i64 ((j : Nat) : Int)))) ?_
          refine w1 (bn 43 (OpV.tmp 42 (.int .i64 ((j : Nat) : Int))) (OpV.const (.int .i64 1)) (r_add (c := (((j : Nat) : Int) + 1)) (w64 (by omega) (by omega)))) ?_
          refine w1 (asg 10 43 (V.v (.int .i64 (((j : Nat) : Int) + 1)))) ?_
          refine wpl_nil ?_
          exact loop_back ((j + 1), (M ++ [(gC (nbs (gC L k)) j)])) (by refine ⟨by omega, ?_⟩; first | exact hR.yes (by omega) (by assumption) (by assumption) | exact hR.no (by omega) hor) (by show (nbs (gC L k)).length - (j + 1) < (nbs (gC L k)).length - j; omega) (weak_of (subst1 [(26, 74)]) [3, 12, 17, 23, 29, 40, 49, 56, 66, 73, 74, 77, 87, 92, 93] (by kernel_rfl) (wk_s (v' := V.p 2 0) (by kernel_rfl) rfl rfl (wk_s (v' := V.b (.a (.sl 14 0 0))) (by kernel_rfl) rfl rfl (wk_s (v' := V.b (.a (.sl 20 0 64))) (by kernel_rfl) rfl rfl (wk_s (v' := V.b (.a (.sl 74 0 ((M ++ [(gC (nbs (gC L k)) j)]).length)))) (by kernel_rfl) rfl rfl (wk_s (v' := V.v (.int .i64 ((k : Nat) : Int))) (by kernel_rfl) rfl rfl (wk_s (v' := V.b (.a (.sl 37 0 ((nbs (gC L k)).length)))) (by kernel_rfl) rfl rfl (wk_s (v' := V.v (.int .i64 (((j : Nat) : Int) + 1))) (by kernel_rfl) (vint (by rfl)) rfl (wk_o (o' := ⟨29, 1, true, [(.slv l.length 1 (isl l) : A)]⟩) (by kernel_rfl) (renob_l (fun h => h) rfl rfl) rfl (wk_o (o' := ⟨53, 2, true, pl (csl [])⟩) (by kernel_rfl) (renob_pl (fun h => h)) rfl (wk_o (o' := ⟨4, 1, true, pl (bsl ((bitsL (setL M)).set (idx (gC (nbs (gC L k)) j)) true))⟩) (by kernel_rfl) (renob_eq (fun h => h) (congrArg bsl (by (rw [setL_app, bitsL_set]; done)))) rfl (wk_o (o' := ⟨53, 2, true, pl (csl (M ++ [(gC (nbs (gC L k)) j)]))⟩) (by kernel_rfl) (renob_pl (fun h => h)) rfl (wk_o (o' := ⟨53, 2, true, pl (csl (nbs (gC L k)))⟩) (by kernel_rfl) (renob_pl (fun h => h)) rfl (wk_f rfl (wk_f rfl (wk_f rfl (wk_f rfl (wk_f rfl (wk_f rfl (wk_f rfl (wk_f rfl (wk_f rfl (wk_f rfl (wk_f rfl (wk_f rfl (wk_f rfl (wk_f rfl (wk_f rfl (wk_nil)))))))))))))))))))))))))))))
        · skip
          have c13 := and_ff c9
          have hor : hasS (regSet l) (gC (nbs (gC L k)) j) = false ∨ hasS (setL M) (gC (nbs (gC L k)) j) = true := by
            rcases c13 with q | q
            · exact .inl ((hasR_S hro hO).symm.trans q)
            · rw [Bool.not_eq_false'] at q; exact .inr ((gB_bitS hO).symm.trans q)
          refine wp_skip' ?_
          refine wp_region_t ?_
          refine w1 (mv 42 10 (V.v (.int .i64 ((j : Nat) : Int)))) ?_
          refine w1 (bn 43 (OpV.tmp 42 (.int .i64 ((j : Nat) : Int))) (OpV.const (.int .i64 1)) (r_add (c := (((j : Nat) : Int) + 1)) (w64 (by omega) (by omega)))) ?_
          refine w1 (asg 10 43 (V.v (.int .i64 (((j : Nat) : Int) + 1)))) ?_
          refine wpl_nil ?_
          exact loop_back ((j + 1), M) (by refine ⟨by omega, ?_⟩; first | exact hR.yes (by omega) (by assumption) (by assumption) | exact hR.no (by omega) hor) (by show (nbs (gC L k)).length - (j + 1) < (nbs (gC L k)).length - j; omega) (weak_of id [3, 12, 17, 23, 29, 40, 49, 56, 66, 73, 74, 77, 87, 92, 93] (by kernel_rfl) (wk_s (v' := V.p 2 0) (by kernel_rfl) rfl rfl (wk_s (v' := V.b (.a (.sl 14 0 0))) (by kernel_rfl) rfl rfl (wk_s (v' := V.b (.a (.sl 20 0 64))) (by kernel_rfl) rfl rfl (wk_s (v' := V.b (.a (.sl 26 0 M.length))) (by kernel_rfl) rfl rfl (wk_s (v' := V.v (.int .i64 ((k : Nat) : Int))) (by kernel_rfl) rfl rfl (wk_s (v' := V.b (.a (.sl 37 0 ((nbs (gC L k)).length)))) (by kernel_rfl) rfl rfl (wk_s (v' := V.v (.int .i64 (((j : Nat) : Int) + 1))) (by kernel_rfl) (vint (by rfl)) rfl (wk_o (o' := ⟨29, 1, true, [(.slv l.length 1 (isl l) : A)]⟩) (by kernel_rfl) (renob_l (fun h => h) rfl rfl) rfl (wk_o (o' := ⟨53, 2, true, pl (csl [])⟩) (by kernel_rfl) (renob_pl (fun h => h)) rfl (wk_o (o' := ⟨4, 1, true, pl (bsl (bitsL (setL M)))⟩) (by kernel_rfl) (renob_pl (fun h => h)) rfl (wk_o (o' := ⟨53, 2, true, pl (csl M)⟩) (by kernel_rfl) (renob_pl (fun h => h)) rfl (wk_o (o' := ⟨53, 2, true, pl (csl (nbs (gC L k)))⟩) (by kernel_rfl) (renob_pl (fun h => h)) rfl (wk_f rfl (wk_f rfl (wk_f rfl (wk_f rfl (wk_f rfl (wk_f rfl (wk_f rfl (wk_f rfl (wk_f rfl (wk_f rfl (wk_f rfl (wk_f rfl (wk_f rfl (wk_f rfl (wk_f rfl (wk_nil)))))))))))))))))))))))))))))
      · skip
        have c7P := of_decide_eq_false c7
        refine wp_exit' ?_
        refine wp_region_t ?_
        refine w1 (mv 31 8 (V.v (.int .i64 ((k : Nat) : Int)))) ?_
        refine w1 (bn 32 (OpV.tmp 31 (.int .i64 ((k : Nat) : Int))) (OpV.const (.int .i64 1)) (r_add (c := (((k : Nat) : Int) + 1)) (w64 (by omega) (by omega)))) ?_
        refine w1 (asg 8 32 (V.v (.int .i64 (((k : Nat) : Int) + 1)))) ?_
        refine wpl_nil ?_
        exact loop_back ((k + 1), M) (by exact RIn.out hg (by omega) hR (by omega)) (by show 64 - (k + 1) < 64 - k; omega) (weak_of id [3, 12, 17, 23, 29, 37, 40, 49, 56, 66, 73, 74, 77, 87, 92, 93] (by kernel_rfl) (wk_s (v' := V.p 2 0) (by kernel_rfl) rfl rfl (wk_s (v' := V.b (.a (.sl 14 0 0))) (by kernel_rfl) rfl rfl (wk_s (v' := V.b (.a (.sl 20 0 64))) (by kernel_rfl) rfl rfl (wk_s (v' := V.b (.a (.sl 26 0 M.length))) (by kernel_rfl) rfl rfl (wk_s (v' := V.v (.int .i64 (((k : Nat) : Int) + 1))) (by kernel_rfl) (vint (by rfl)) rfl (wk_o (o' := ⟨29, 1, true, [(.slv l.length 1 (isl l) : A)]⟩) (by kernel_rfl) (renob_l (fun h => h) rfl rfl) rfl (wk_o (o' := ⟨53, 2, true, pl (csl [])⟩) (by kernel_rfl) (renob_pl (fun h => h)) rfl (wk_o (o' := ⟨4, 1, true, pl (bsl (bitsL (setL M)))⟩) (by kernel_rfl) (renob_pl (fun h => h)) rfl (wk_o (o' := ⟨53, 2, true, pl (csl M)⟩) (by kernel_rfl) (renob_pl (fun h => h)) rfl (wk_f rfl (wk_f rfl (wk_f rfl (wk_f rfl (wk_f rfl (wk_f rfl (wk_f rfl (wk_f rfl (wk_f rfl (wk_f rfl (wk_f rfl (wk_f rfl (wk_f rfl (wk_f rfl (wk_f rfl (wk_f rfl (wk_nil)))))))))))))))))))))))))))
    · skip
      have c5P := of_decide_eq_false c5
      refine wp_exit' ?_
      refine wp_seq' ?_
      refine wp_seq' ?_
      refine wp_region_t ?_
      refine w1 (acts_assign (d := 11) (ltN rfl) (OpX.const (.int .i64 0))) ?_
      refine wpl_nil ?_
      refine wp_block' ?_
      refine wp_loop' (fun (m : Nat) => m ≤ 64) (fun (m : Nat) => [(.s 5, some (.s (V.b (.a (.sl 14 0 ((((List.range m).filter (setL L).testBit).map cN).length)))))), (.s 6, some (.s (V.b (.a (.sl 20 0 64))))), (.s 11, some (.s (V.v (.int .i64 ((m : Nat) : Int))))), (.o 14, some (.o ⟨53, 2, true, pl (csl (((List.range m).filter (setL L).testBit).map cN))⟩)), (.o 20, some (.o ⟨4, 1, true, pl (bsl (bitsL (setL L)))⟩)), (.o 2, some .free), (.o 3, some .free), (.o 12, some .free), (.o 17, some .free), (.o 23, some .free), (.o 26, some .free), (.o 29, some .free), (.o 37, some .free), (.o 40, some .free), (.o 49, some .free), (.o 56, some .free), (.o 66, some .free), (.o 73, some .free), (.o 74, some .free), (.o 77, some .free), (.o 87, some .free), (.o 92, some .free), (.o 93, some .free)]) (fun (m : Nat) => 64 - m) ((0 : Nat)) (by exact (Nat.zero_le _ : 0 ≤ _)) (weak_of id [2, 3, 12, 17, 23, 26, 29, 37, 40, 49, 56, 66, 73, 74, 77, 87, 92, 93] (by kernel_rfl) (wk_s (v' := V.b (.a (.sl 14 0 0))) (by kernel_rfl) (vsl (by rfl) rfl) rfl (wk_s (v' := V.b (.a (.sl 20 0 64))) (by kernel_rfl) rfl rfl (wk_s (v' := V.v (.int .i64 0)) (by kernel_rfl) (vint (by rfl)) rfl (wk_o (o' := ⟨53, 2, true, pl (csl [])⟩) (by kernel_rfl) (renob_eq (fun h => h) (congrArg csl (by rfl))) rfl (wk_o (o' := ⟨4, 1, true, pl (bsl (bitsL (setL L)))⟩) (by kernel_rfl) (renob_pl (fun h => h)) rfl (wk_f rfl (wk_f rfl (wk_f rfl (wk_f rfl (wk_f rfl (wk_f rfl (wk_f rfl (wk_f rfl (wk_f rfl (wk_f rfl (wk_f rfl (wk_f rfl (wk_f rfl (wk_f rfl (wk_f rfl (wk_f rfl (wk_f rfl (wk_f rfl (wk_nil))))))))))))))))))))))))) ?_
      rintro m inv14
      replace inv14 : m ≤ 64 := inv14
      have invm := inv14
      show Wp _ _ _ [(.s 5, some (.s (V.b (.a (.sl 14 0 ((((List.range m).filter (setL L).testBit).map cN).length)))))), (.s 6, some (.s (V.b (.a (.sl 20 0 64))))), (.s 11, some (.s (V.v (.int .i64 ((m : Nat) : Int))))), (.o 14, some (.o ⟨53, 2, true, pl (csl (((List.range m).filter (setL L).testBit).map cN))⟩)), (.o 20, some (.o ⟨4, 1, true, pl (bsl (bitsL (setL L)))⟩)), (.o 2, some .free), (.o 3, some .free), (.o 12, some .free), (.o 17, some .free), (.o 23, some .free), (.o 26, some .free), (.o 29, some .free), (.o 37, some .free), (.o 40, some .free), (.o 49, some .free), (.o 56, some .free), (.o 66, some .free), (.o 73, some .free), (.o 74, some .free), (.o 77, some .free), (.o 87, some .free), (.o 92, some .free), (.o 93, some .free)]
      have hfl := range_len (setL L).testBit m
      refine wp_seq' ?_
      refine wp_seq' ?_
      refine wp_region_t ?_
      refine w1 (mv 75 11 (V.v (.int .i64 ((m : Nat) : Int)))) ?_
      refine w1 (mv 76 6 (V.b (.a (.sl 20 0 64)))) ?_
      refine w1 (acts_len (d := 77) (X := .sl 20 0 64) (n := 64) (iv := 64) (ltN rfl) qC22_un_94 (OpX.tmp 76 (V.b (.a (.sl 20 0 64)))) (LenOf.sl _ _ _) rfl) ?_
      refine w1 (bn 78 (OpV.tmp 75 (.int .i64 ((m : Nat) : Int))) (OpV.tmp 77 (.int .i64 64)) (r_lss (c := (decide (((m : Nat) : Int) < 64))) rfl)) ?_
      refine wpl_nil ?_
      refine wp_if (t := 78) (decide (((m : Nat) : Int) < 64)) (by kernel_rfl) (fun c15 => ?_) (fun c15 => ?_)
      · skip
        have c15P := of_decide_eq_true c15
        refine wp_skip' ?_
        refine wp_seq' ?_
        refine wp_block' ?_
        refine wp_seq' ?_
        refine wp_region_t ?_
        refine w1 (mv 81 6 (V.b (.a (.sl 20 0 64)))) ?_
        refine w1 (mv 82 11 (V.v (.int .i64 ((m : Nat) : Int)))) ?_
        refine w1 (acts_index_sl (d := 83) (x := 81) (h := 20) (off := 0) (n := 64) (k := m) (off' := (m * 1)) (o := ⟨4, 1, true, pl (bsl (bitsL (setL L)))⟩) (ltN rfl) qC22_un_94 qC22_sz_4 (OpV.tmp 82 (.int .i64 ((m : Nat) : Int))) rfl (by omega) (by (simp; done))) ?_
        refine w1 (acts_load_own (d := 84) (t := 83) (h := 20) (off := (m * 1)) (o := ⟨4, 1, true, pl (bsl (bitsL (setL L)))⟩)  (x := .val (.bool (gB (bitsL (setL L)) m))) (ltN rfl) qC22_ti_4 (pl_get (bsl_get1 (k := m) (by omega)))) ?_
        refine wpl_nil ?_
        refine wp_if (t := 84) ((gB (bitsL (setL L)) m)) (by kernel_rfl) (fun c16 => ?_) (fun c16 => ?_)
        · skip
          refine wp_seq' ?_
          refine wp_region_t ?_
          refine w1 (mv 86 11 (V.v (.int .i64 ((m : Nat) : Int)))) ?_
          refine w1 (acts_call2 (d := 87) (ltN rfl) (spec_CellAt_fn m (by omega)) (ArgVs.cons (ArgV.v (OpV.tmp 86 (.int .i64 ((m : Nat) : Int)))) (ArgVs.nil)) (ResV.agg [(.int .i64 ((cN m).x) : Value), .int .i64 ((cN m).y)]) (ResV.val _)) ?_
          refine w1 (mv 85 87 (V.tup [.agg ([(.int .i64 ((cN m).x) : Value), .int .i64 ((cN m).y)].map A.val), .a (.val (.bool true))])) ?_
          refine w1 (acts_extract (d := 88) (t := 85) (ix := 0) (xs := [.agg ([(.int .i64 ((cN m).x) : Value), .int .i64 ((cN m).y)].map A.val), .a (.val (.bool true))]) (X := .agg ([(.int .i64 ((cN m).x) : Value), .int .i64 ((cN m).y)].map A.val)) (ltN rfl) rfl) ?_
          refine w1 (acts_extract (d := 89) (t := 85) (ix := 1) (xs := [.agg ([(.int .i64 ((cN m).x) : Value), .int .i64 ((cN m).y)].map A.val), .a (.val (.bool true))]) (X := .a (.val (.bool true))) (ltN rfl) rfl) ?_
          refine w1 (acts_alloc' (d := 12) (h := 12) (cap := 1) (s := 2) (cells := [(.val (.int .i64 0) : A), .val (.int .i64 0)]) (ltN rfl) qC22_zi_53 rfl rfl (by decide)) ?_
          refine w1 (acts_store (t := 12) (h := 12) (off := 0) (o := ⟨53, 2, true, [(.val (.int .i64 0) : A), .val (.int .i64 0)]⟩) (b := .agg ([(.int .i64 ((cN m).x) : Value), .int .i64 ((cN m).y)].map A.val)) (cells := [(.val (.int .i64 ((cN m).x)) : A), .val (.int .i64 ((cN m).y))]) qC22_ti_53 (OpX.tmp 88 (V.av [(.int .i64 ((cN m).x) : Value), .int .i64 ((cN m).y)])) rfl (by decide) (by intro y hy; simp [B.cs] at hy; rcases hy with rfl | rfl <;> rfl) (Nat.le_of_ble_eq_true rfl) rfl) ?_
          refine w1 (asg 13 89 (V.v (.bool true))) ?_
          refine wpl_nil ?_
          refine wp_region_t ?_
          refine w1 (mv 90 5 (V.b (.a (.sl 14 0 ((((List.range m).filter (setL L).testBit).map cN).length))))) ?_
          refine w1 (acts_load_owns (d := 91) (t := 12) (h := 12) (off := 0) (o := ⟨53, 2, true, [(.val (.int .i64 ((cN m).x)) : A), .val (.int .i64 ((cN m).y))]⟩)  (xs := [(.int .i64 ((cN m).x) : Value), .int .i64 ((cN m).y)].map A.val) (ltN rfl) qC22_ti_53 rfl (by decide) rfl) ?_
          refine w1 (acts_buildSlice' (d := 92) (h := 92) (n := 1) (s := 2) (xs := csl ([(cN m)] : List Cel)) (ltN rfl) qC22_un_69 qC22_zi_53 (OpVs.cons (i := 0) (OpV.agg 91 [(.int .i64 ((cN m).x) : Value), .int .i64 ((cN m).y)]) (OpVs.nil)) (by decide) (by decide) (by kernel_rfl) rfl) ?_
          refine w1 (acts_app (d := 93) (x := 90) (h := 14) (h2 := 93) (n := ((((List.range m).filter (setL L).testBit).map cN).length)) (m := 1) (nm := (((((List.range m).filter (setL L).testBit).map cN) ++ [(cN m)]).length)) (X := .sl 92 0 1) (xs := csl (((List.range m).filter (setL L).testBit).map cN)) (ys := csl [(cN m)]) (zs := csl ((((List.range m).filter (setL L).testBit).map cN) ++ [(cN m)])) (ltN rfl) qC22_un_69 qC22_zi_53 rfl (by decide) (by decide) (by exact csl_len _) (OpX.tmp 92 (V.b (.a (.sl 92 0 1)))) (src_own (h := 92) (T := 53) (s := 2) (ex := true) (n := 1) (by exact csl_len _)) (csl_one' _) (by omega) (by exact (csl_append _ _).symm) (by (simp; done))) ?_
          refine w1 (asg 5 93 (V.b (.a (.sl 93 0 (((((List.range m).filter (setL L).testBit).map cN) ++ [(cN m)]).length))))) ?_
          refine wpl_nil ?_
          refine wp_region_t ?_
          refine w1 (mv 79 11 (V.v (.int .i64 ((m : Nat) : Int)))) ?_
          refine w1 (bn 80 (OpV.tmp 79 (.int .i64 ((m : Nat) : Int))) (OpV.const (.int .i64 1)) (r_add (c := (((m : Nat) : Int) + 1)) (w64 (by omega) (by omega)))) ?_
          refine w1 (asg 11 80 (V.v (.int .i64 (((m : Nat) : Int) + 1)))) ?_
          refine wpl_nil ?_
          exact loop_back ((m + 1)) (by show _ ≤ _; omega) (by show 64 - (m + 1) < 64 - m; omega) (weak_of (subst1 [(14, 93)]) [2, 3, 12, 17, 23, 26, 29, 37, 40, 49, 56, 66, 73, 74, 77, 87, 92, 93] (by kernel_rfl) (wk_s (v' := V.b (.a (.sl 93 0 (((((List.range m).filter (setL L).testBit).map cN) ++ [(cN m)]).length)))) (by kernel_rfl) (vsl (by (exact congrArg List.length (by first | rfl | exact range_yes ((gB_bits (by omega)).symm.trans (by assumption)) | exact range_no ((gB_bits (by omega)).symm.trans (by assumption)) | omega))) rfl) rfl (wk_s (v' := V.b (.a (.sl 20 0 64))) (by kernel_rfl) rfl rfl (wk_s (v' := V.v (.int .i64 (((m : Nat) : Int) + 1))) (by kernel_rfl) (vint (by rfl)) rfl (wk_o (o' := ⟨53, 2, true, pl (csl ((((List.range m).filter (setL L).testBit).map cN) ++ [(cN m)]))⟩) (by kernel_rfl) (renob_eq (fun h => h) (congrArg csl (by exact range_yes ((gB_bits (by omega)).symm.trans (by assumption))))) rfl (wk_o (o' := ⟨4, 1, true, pl (bsl (bitsL (setL L)))⟩) (by kernel_rfl) (renob_pl (fun h => h)) rfl (wk_f rfl (wk_f rfl (wk_f rfl (wk_f rfl (wk_f rfl (wk_f rfl (wk_f rfl (wk_f rfl (wk_f rfl (wk_f rfl (wk_f rfl (wk_f rfl (wk_f rfl (wk_f rfl (wk_f rfl (wk_f rfl (wk_f rfl (wk_f rfl (wk_nil)))))))))))))))))))))))))
        · skip
          refine wp_skip' ?_
          refine wp_region_t ?_
          refine w1 (mv 79 11 (V.v (.int .i64 ((m : Nat) : Int)))) ?_
          refine w1 (bn 80 (OpV.tmp 79 (.int .i64 ((m : Nat) : Int))) (OpV.const (.int .i64 1)) (r_add (c := (((m : Nat) : Int) + 1)) (w64 (by omega) (by omega)))) ?_
          refine w1 (asg 11 80 (V.v (.int .i64 (((m : Nat) : Int) + 1)))) ?_
          refine wpl_nil ?_
          exact loop_back ((m + 1)) (by show _ ≤ _; omega) (by show 64 - (m + 1) < 64 - m; omega) (weak_of id [2, 3, 12, 17, 23, 26, 29, 37, 40, 49, 56, 66, 73, 74, 77, 87, 92, 93] (by kernel_rfl) (wk_s (v' := V.b (.a (.sl 14 0 ((((List.range m).filter (setL L).testBit).map cN).length)))) (by kernel_rfl) (vsl (by (exact congrArg List.length (by first | rfl | exact range_yes ((gB_bits (by omega)).symm.trans (by assumption)) | exact range_no ((gB_bits (by omega)).symm.trans (by assumption)) | omega))) rfl) rfl (wk_s (v' := V.b (.a (.sl 20 0 64))) (by kernel_rfl) rfl rfl (wk_s (v' := V.v (.int .i64 (((m : Nat) : Int) + 1))) (by kernel_rfl) (vint (by rfl)) rfl (wk_o (o' := ⟨53, 2, true, pl (csl (((List.range m).filter (setL L).testBit).map cN))⟩) (by kernel_rfl) (renob_eq (fun h => h) (congrArg csl (by exact range_no ((gB_bits (by omega)).symm.trans (by assumption))))) rfl (wk_o (o' := ⟨4, 1, true, pl (bsl (bitsL (setL L)))⟩) (by kernel_rfl) (renob_pl (fun h => h)) rfl (wk_f rfl (wk_f rfl (wk_f rfl (wk_f rfl (wk_f rfl (wk_f rfl (wk_f rfl (wk_f rfl (wk_f rfl (wk_f rfl (wk_f rfl (wk_f rfl (wk_f rfl (wk_f rfl (wk_f rfl (wk_f rfl (wk_f rfl (wk_f rfl (wk_nil)))))))))))))))))))))))))
      · skip
        have c15P := of_decide_eq_false c15
        refine wp_exit' ?_
        refine wp_seq' ?_
        refine wp_region_t ?_
        refine w1 (mv 94 5 (V.b (.a (.sl 14 0 ((((List.range m).filter (setL L).testBit).map cN).length))))) ?_
        refine w1 (asg 4 94 (V.b (.a (.sl 14 0 ((((List.range m).filter (setL L).testBit).map cN).length))))) ?_
        refine wpl_nil ?_
        refine wp_ret' ?_
        exact VRes.tmp 4 (.a (.sl 14 0 ((((List.range m).filter (setL L).testBit).map cN).length))) _ (by kernel_rfl) (brow_cels (h := 14) (L := (((List.range m).filter (setL L).testBit).map cN)) (by kernel_rfl) (by (have e : m = 64 := by omega); subst e; unfold pcs; rw [if_pos (by assumption), ← rch_end hc hg (by omega)]; rfl) (by rfl))

set_option maxHeartbeats 4000000 in
set_option maxRecDepth 100000 in
theorem impl_CountPieces_fn (l : List Int) (hl : l.length ≤ 4194304) : Fn Try.prog 78 [.agg [(.slv l.length 1 (isl l) : A)]] [.val (.int .i64 (((pcN l) : Nat) : Int))] := by
 refine fn_intro (N := 23) Try.func78 rfl (by kernel_rfl) rfl (Nat.le_of_ble_eq_true rfl) [1, 6, 9, 17, 20] (ret1 rfl) (fun W => ?_)
 show Wp _ _ _ [(.s 0, some (.s (V.b (.agg [(.slv l.length 1 (isl l) : A)])))), (.o 1, some .free), (.o 6, some .free), (.o 9, some .free), (.o 17, some .free), (.o 20, some .free)]
 refine wp_seq' ?_
 refine wp_region_t ?_
 refine w1 (acts_box (d := 1) (h := 1) (b := .agg [(.slv l.length 1 (isl l) : A)]) (ltN rfl) (OpX.tmp 0 (V.b (.agg [(.slv l.length 1 (isl l) : A)]))) (by intro y hy; simp [B.cs] at hy; subst hy; rfl)) ?_
 refine w1 (acts_assign (d := 2) (ltN rfl) (OpX.const (.int .i64 0))) ?_
 refine wpl_nil ?_
 refine wp_seq' ?_
 refine wp_seq' ?_
 refine wp_region_t ?_
 refine w1 (acts_load_owns (d := 5) (t := 1) (h := 1) (off := 0) (o := ⟨29, 1, true, [(.slv l.length 1 (isl l) : A)]⟩)  (xs := [(.slv l.length 1 (isl l) : A)]) (ltN rfl) qC22_ti_29 rfl (by decide) rfl) ?_
 refine w1 (acts_call1 (d := 6) (ltN rfl) (impl_RegionOk_fn l (by omega)) (ArgVs.cons (ArgV.regv 5 l.length 1 (isl l)) (ArgVs.nil)) (ResV.val _)) ?_
 refine w1 (acts_un (d := 7) (ltN rfl) (OpV.tmp 6 (.bool (regOk l))) (r_not (c := (!(regOk l))) rfl)) ?_
 refine wpl_nil ?_
 refine wp_if (t := 7) ((!(regOk l))) (by kernel_rfl) (fun c1 => ?_) (fun c1 => ?_)
 ·skip
  have c2 : (regOk l) = false := by first | simpa using c1 | (rw [← Bool.not_eq_true']; exact c1)
  refine wp_seq' ?_
  refine wp_region_t ?_
  refine w1 (acts_assign (d := 2) (ltN rfl) (OpX.const (.int .i64 0))) ?_
  refine wpl_nil ?_
  refine wp_ret' ?_
  exact VRes.tmp 2 (.a (.val (.int .i64 0))) _ (by kernel_rfl) (bval (congrArg (Value.int .i64) (by (rw [pcN_no (by assumption)]; rfl))))
 ·skip
  have c3 : (regOk l) = true := by first | simpa using c1 | (rw [← Bool.not_eq_false']; exact c1)
  refine wp_skip' ?_
  refine wp_seq' ?_
  refine wp_region_t ?_
  refine w1 (acts_assign (d := 3) (ltN rfl) (OpX.const (.int .i64 0))) ?_
  refine wpl_nil ?_
  refine wp_seq' ?_
  refine wp_seq' ?_
  refine wp_region_t ?_
  refine w1 (acts_load_owns (d := 8) (t := 1) (h := 1) (off := 0) (o := ⟨29, 1, true, [(.slv l.length 1 (isl l) : A)]⟩)  (xs := [(.slv l.length 1 (isl l) : A)]) (ltN rfl) qC22_ti_29 rfl (by decide) rfl) ?_
  refine w1 (acts_call1 (d := 9) (ltN rfl) (impl_Region__set_fn l (by omega)) (ArgVs.cons (ArgV.regv 8 l.length 1 (isl l)) (ArgVs.nil)) (ResV.val _)) ?_
  refine w1 (asg 4 9 (V.v (.int .u64 (((regSet l) : Nat) : Int)))) ?_
  refine wpl_nil ?_
  refine wp_block' ?_
  refine wp_loop' (fun (x : Nat × Nat) => match x with | (t, m) => PInv (regSet l) t m) (fun (x : Nat × Nat) => match x with | (t, m) => [(.s 3, some (.s (V.v (.int .i64 (((rootsP (regSet l) m) : Nat) : Int))))), (.s 4, some (.s (V.v (.int .u64 ((t : Nat) : Int))))), (.o 1, some .free), (.o 6, some .free), (.o 9, some .free), (.o 17, some .free), (.o 20, some .free)]) (fun (x : Nat × Nat) => match x with | (t, m) => 64 - m) (((regSet l) : Nat), (0 : Nat)) (by exact PInv.zero (regSet_lt (by assumption))) (weak_of id [1, 6, 9, 17, 20] (by kernel_rfl) (wk_s (v' := V.v (.int .i64 0)) (by kernel_rfl) (vint (by (rw [rootsP_zero]; rfl))) rfl (wk_s (v' := V.v (.int .u64 (((regSet l) : Nat) : Int))) (by kernel_rfl) rfl rfl (wk_f rfl (wk_f rfl (wk_f rfl (wk_f rfl (wk_f rfl (wk_nil))))))))) ?_
  rintro ⟨t, m⟩ inv4
  replace inv4 : PInv (regSet l) t m := inv4
  have hP := inv4
  show Wp _ _ _ [(.s 3, some (.s (V.v (.int .i64 (((rootsP (regSet l) m) : Nat) : Int))))), (.s 4, some (.s (V.v (.int .u64 ((t : Nat) : Int))))), (.o 1, some .free), (.o 6, some .free), (.o 9, some .free), (.o 17, some .free), (.o 20, some .free)]
  have htl := hP.lt
  have hrl := rootsP_le (regSet l) m
  refine wp_seq' ?_
  refine wp_seq' ?_
  refine wp_region_t ?_
  refine w1 (mv 10 4 (V.v (.int .u64 ((t : Nat) : Int)))) ?_
  refine w1 (bn 11 (OpV.tmp 10 (.int .u64 ((t : Nat) : Int))) (OpV.const (.int .u64 0)) (r_neq (c := (decide (((t : Nat) : Int) ≠ 0))) rfl)) ?_
  refine wpl_nil ?_
  refine wp_if (t := 11) (decide (((t : Nat) : Int) ≠ 0)) (by kernel_rfl) (fun c5 => ?_) (fun c5 => ?_)
  ·skip
   have c5P := of_decide_eq_true c5
   have ht0 : t ≠ 0 := by have := of_decide_eq_true c5; omega
   have hcp := cells_pos hP.lt ht0
   obtain ⟨hn1, hn2, hn3, hn4⟩ := hP.next ht0
   refine wp_skip' ?_
   refine wp_seq' ?_
   refine wp_block' ?_
   refine wp_region_t ?_
   refine w1 (mv 14 4 (V.v (.int .u64 ((t : Nat) : Int)))) ?_
   refine w1 (mv 15 4 (V.v (.int .u64 ((t : Nat) : Int)))) ?_
   refine w1 (mv 16 4 (V.v (.int .u64 ((t : Nat) : Int)))) ?_
   refine w1 (acts_call1 (d := 17) (ltN rfl) (impl_set__cells_fn t (by omega)) (ArgVs.cons (ArgV.v (OpV.tmp 16 (.int .u64 ((t : Nat) : Int)))) (ArgVs.nil)) (ResV.row 53 2 ((setCells t).length) (csl (setCells t)) 17)) ?_
   refine w1 (acts_index_sl (d := 18) (x := 17) (h := 17) (off := 0) (n := ((setCells t).length)) (k := 0) (off' := (0 * 2)) (o := ⟨53, 2, true, pl (csl (setCells t))⟩) (ltN rfl) qC22_un_69 qC22_sz_53 (OpV.const (.int .i64 0)) rfl (by omega) (by (simp; done))) ?_
   refine w1 (acts_load_owns (d := 19) (t := 18) (h := 17) (off := (0 * 2)) (o := ⟨53, 2, true, pl (csl (setCells t))⟩)  (xs := [(.int .i64 ((gC (setCells t) 0).x) : Value), .int .i64 ((gC (setCells t) 0).y)].map A.val) (ltN rfl) qC22_ti_53 rfl (by decide) (pl_at (csl_at (k := 0) (by omega)))) ?_
   refine w1 (acts_call1 (d := 20) (ltN rfl) (impl_set__reach_fn t (gC (setCells t) 0) (by omega) (by exact set_mem.1 (gC_mem (by assumption)))) (ArgVs.cons (ArgV.v (OpV.tmp 15 (.int .u64 ((t : Nat) : Int)))) (ArgVs.cons (ArgV.va (vs := [(.int .i64 ((gC (setCells t) 0).x) : Value), .int .i64 ((gC (setCells t) 0).y)]) (OpV.agg 19 [(.int .i64 ((gC (setCells t) 0).x) : Value), .int .i64 ((gC (setCells t) 0).y)])) (ArgVs.nil))) (ResV.val _)) ?_
   refine w1 (bn 21 (OpV.tmp 14 (.int .u64 ((t : Nat) : Int))) (OpV.tmp 20 (.int .u64 (((rchS t (gC (setCells t) 0)) : Nat) : Int))) (r_andNot (c := (((andn t (rchS t (gC (setCells t) 0))) : Nat) : Int)) (andnU (m := t) (n := (rchS t (gC (setCells t) 0))) rfl rfl (by omega) (by (first | omega | assumption | exact regSet_lt (by assumption) | exact rchS_lt _ _ | exact set_mem.1 (gC_mem (by assumption))))))) ?_
   refine w1 (asg 4 21 (V.v (.int .u64 (((andn t (rchS t (gC (setCells t) 0))) : Nat) : Int)))) ?_
   refine wpl_nil ?_
   refine wp_region_t ?_
   refine w1 (mv 12 3 (V.v (.int .i64 (((rootsP (regSet l) m) : Nat) : Int)))) ?_
   refine w1 (bn 13 (OpV.tmp 12 (.int .i64 (((rootsP (regSet l) m) : Nat) : Int))) (OpV.const (.int .i64 1)) (r_add (c := ((((rootsP (regSet l) m) : Nat) : Int) + 1)) (w64 (by omega) (by omega)))) ?_
   refine w1 (asg 3 13 (V.v (.int .i64 ((((rootsP (regSet l) m) : Nat) : Int) + 1)))) ?_
   refine wpl_nil ?_
   exact loop_back ((andn t (rchS t (gC (setCells t) 0))), (idx (gC (setCells t) 0) + 1)) (by exact hn4) (by show 64 - (idx (gC (setCells t) 0) + 1) < 64 - m; omega) (weak_of id [1, 6, 9, 17, 20] (by kernel_rfl) (wk_s (v' := V.v (.int .i64 ((((rootsP (regSet l) m) : Nat) : Int) + 1))) (by kernel_rfl) (vint (by omega)) rfl (wk_s (v' := V.v (.int .u64 (((andn t (rchS t (gC (setCells t) 0))) : Nat) : Int))) (by kernel_rfl) rfl rfl (wk_f rfl (wk_f rfl (wk_f rfl (wk_f rfl (wk_f rfl (wk_nil)))))))))
  ·skip
   have c5P := of_decide_eq_false c5
   have ht0 : t = 0 := by have := of_decide_eq_false c5; omega
   refine wp_exit' ?_
   refine wp_seq' ?_
   refine wp_region_t ?_
   refine w1 (mv 22 3 (V.v (.int .i64 (((rootsP (regSet l) m) : Nat) : Int)))) ?_
   refine w1 (asg 2 22 (V.v (.int .i64 (((rootsP (regSet l) m) : Nat) : Int)))) ?_
   refine wpl_nil ?_
   refine wp_ret' ?_
   exact VRes.tmp 2 (.a (.val (.int .i64 (((rootsP (regSet l) m) : Nat) : Int)))) _ (by kernel_rfl) (bval (congrArg (Value.int .i64) (by rw [pcN_yes (by assumption), ← pieces_end hP.mem ht0])))

set_option maxHeartbeats 4000000 in
set_option maxRecDepth 100000 in
theorem spec_CountPieces_fn (l : List Int) (hl : l.length ≤ 4194304) : Fn Try.prog 69 [.agg [(.slv l.length 1 (isl l) : A)]] [.val (.int .i64 (((pcN l) : Nat) : Int))] := by
 have h64 := cellsOf_len l
 refine fn_intro (N := 30) Try.func69 rfl (by kernel_rfl) rfl (Nat.le_of_ble_eq_true rfl) [1, 7, 10, 19] (ret1 rfl) (fun W => ?_)
 show Wp _ _ _ [(.s 0, some (.s (V.b (.agg [(.slv l.length 1 (isl l) : A)])))), (.o 1, some .free), (.o 7, some .free), (.o 10, some .free), (.o 19, some .free)]
 refine wp_seq' ?_
 refine wp_region_t ?_
 refine w1 (acts_box (d := 1) (h := 1) (b := .agg [(.slv l.length 1 (isl l) : A)]) (ltN rfl) (OpX.tmp 0 (V.b (.agg [(.slv l.length 1 (isl l) : A)]))) (by intro y hy; simp [B.cs] at hy; subst hy; rfl)) ?_
 refine w1 (acts_assign (d := 2) (ltN rfl) (OpX.const (.int .i64 0))) ?_
 refine wpl_nil ?_
 refine wp_seq' ?_
 refine wp_region_t ?_
 refine w1 (acts_assign (d := 3) (ltN rfl) (OpX.const (.int .i64 0))) ?_
 refine wpl_nil ?_
 refine wp_seq' ?_
 refine wp_region_t ?_
 refine w1 (acts_load_owns (d := 6) (t := 1) (h := 1) (off := 0) (o := ⟨29, 1, true, [(.slv l.length 1 (isl l) : A)]⟩)  (xs := [(.slv l.length 1 (isl l) : A)]) (ltN rfl) qC22_ti_29 rfl (by decide) rfl) ?_
 refine w1 (acts_call1 (d := 7) (ltN rfl) (spec_CellsOf_fn l (by omega)) (ArgVs.cons (ArgV.regv 6 l.length 1 (isl l)) (ArgVs.nil)) (ResV.row 53 2 ((cellsOf l).length) (csl (cellsOf l)) 7)) ?_
 refine w1 (asg 4 7 (V.b (.a (.sl 7 0 ((cellsOf l).length))))) ?_
 refine wpl_nil ?_
 refine wp_seq' ?_
 refine wp_seq' ?_
 refine wp_region_t ?_
 refine w1 (acts_assign (d := 5) (ltN rfl) (OpX.const (.int .i64 0))) ?_
 refine wpl_nil ?_
 refine wp_block' ?_
 refine wp_loop' (fun (k : Nat) => k ≤ (cellsOf l).length) (fun (k : Nat) => [(.s 1, some (.s (V.p 1 0))), (.s 3, some (.s (V.v (.int .i64 (((((cellsOf l).take k).filter (rootD (regSet l))).length : Nat) : Int))))), (.s 4, some (.s (V.b (.a (.sl 7 0 ((cellsOf l).length)))))), (.s 5, some (.s (V.v (.int .i64 ((k : Nat) : Int))))), (.o 1, some (.o ⟨29, 1, true, [(.slv l.length 1 (isl l) : A)]⟩)), (.o 7, some (.o ⟨53, 2, true, pl (csl (cellsOf l))⟩)), (.o 10, some .free), (.o 19, some .free)]) (fun (k : Nat) => (cellsOf l).length - k) ((0 : Nat)) (by exact (Nat.zero_le _ : 0 ≤ _)) (weak_of id [10, 19] (by kernel_rfl) (wk_s (v' := V.p 1 0) (by kernel_rfl) rfl rfl (wk_s (v' := V.v (.int .i64 0)) (by kernel_rfl) (vint (by rfl)) rfl (wk_s (v' := V.b (.a (.sl 7 0 ((cellsOf l).length)))) (by kernel_rfl) rfl rfl (wk_s (v' := V.v (.int .i64 0)) (by kernel_rfl) (vint (by rfl)) rfl (wk_o (o' := ⟨29, 1, true, [(.slv l.length 1 (isl l) : A)]⟩) (by kernel_rfl) (renob_l (fun h => h) rfl rfl) rfl (wk_o (o' := ⟨53, 2, true, pl (csl (cellsOf l))⟩) (by kernel_rfl) (renob_pl (fun h => h)) rfl (wk_f rfl (wk_f rfl (wk_nil)))))))))) ?_
 rintro k inv1
 replace inv1 : k ≤ (cellsOf l).length := inv1
 have inv := inv1
 show Wp _ _ _ [(.s 1, some (.s (V.p 1 0))), (.s 3, some (.s (V.v (.int .i64 (((((cellsOf l).take k).filter (rootD (regSet l))).length : Nat) : Int))))), (.s 4, some (.s (V.b (.a (.sl 7 0 ((cellsOf l).length)))))), (.s 5, some (.s (V.v (.int .i64 ((k : Nat) : Int))))), (.o 1, some (.o ⟨29, 1, true, [(.slv l.length 1 (isl l) : A)]⟩)), (.o 7, some (.o ⟨53, 2, true, pl (csl (cellsOf l))⟩)), (.o 10, some .free), (.o 19, some .free)]
 have hck := cfilt_len (rootD (regSet l)) (cellsOf l) k
 refine wp_seq' ?_
 refine wp_seq' ?_
 refine wp_region_t ?_
 refine w1 (mv 8 5 (V.v (.int .i64 ((k : Nat) : Int)))) ?_
 refine w1 (mv 9 4 (V.b (.a (.sl 7 0 ((cellsOf l).length))))) ?_
 refine w1 (acts_len (d := 10) (X := .sl 7 0 ((cellsOf l).length)) (n := ((cellsOf l).length)) (iv := (((cellsOf l).length : Nat) : Int)) (ltN rfl) qC22_un_69 (OpX.tmp 9 (V.b (.a (.sl 7 0 ((cellsOf l).length))))) (LenOf.sl _ _ _) rfl) ?_
 refine w1 (bn 11 (OpV.tmp 8 (.int .i64 ((k : Nat) : Int))) (OpV.tmp 10 (.int .i64 (((cellsOf l).length : Nat) : Int))) (r_lss (c := (decide (((k : Nat) : Int) < (((cellsOf l).length : Nat) : Int)))) rfl)) ?_
 refine wpl_nil ?_
 refine wp_if (t := 11) (decide (((k : Nat) : Int) < (((cellsOf l).length : Nat) : Int))) (by kernel_rfl) (fun c2 => ?_) (fun c2 => ?_)
 ·skip
  have c2P := of_decide_eq_true c2
  obtain ⟨hpf, hpb⟩ := pcs_first (l := l) (k := k) (by omega)
  refine wp_skip' ?_
  refine wp_seq' ?_
  refine wp_block' ?_
  refine wp_seq' ?_
  refine wp_drawn' (by kernel_rfl) (AllSteps.cons (step_plain rfl (acts_load_owns (d := 14) (t := 1) (h := 1) (off := 0) (o := ⟨29, 1, true, [(.slv l.length 1 (isl l) : A)]⟩)  (xs := [(.slv l.length 1 (isl l) : A)]) (ltN rfl) qC22_ti_29 rfl (by decide) rfl)) (AllSteps.cons (step_plain rfl (mv 15 4 (V.b (.a (.sl 7 0 ((cellsOf l).length)))))) (AllSteps.cons (step_plain rfl (mv 16 5 (V.v (.int .i64 ((k : Nat) : Int))))) (AllSteps.cons (step_plain rfl (acts_index_sl (d := 17) (x := 15) (h := 7) (off := 0) (n := ((cellsOf l).length)) (k := k) (off' := (k * 2)) (o := ⟨53, 2, true, pl (csl (cellsOf l))⟩) (ltN rfl) qC22_un_69 qC22_sz_53 (OpV.tmp 16 (.int .i64 ((k : Nat) : Int))) rfl (by omega) (by (simp; done)))) (AllSteps.cons (step_plain rfl (acts_load_owns (d := 18) (t := 17) (h := 7) (off := (k * 2)) (o := ⟨53, 2, true, pl (csl (cellsOf l))⟩)  (xs := [(.int .i64 ((gC (cellsOf l) k).x) : Value), .int .i64 ((gC (cellsOf l) k).y)].map A.val) (ltN rfl) qC22_ti_53 rfl (by decide) (pl_at (csl_at (k := k) (by omega))))) (AllSteps.cons (step_plain rfl (acts_call1 (d := 19) (ltN rfl) (spec_PieceOf_fn l (gC (cellsOf l) k) (by omega)) (ArgVs.cons (ArgV.regv 14 l.length 1 (isl l)) (ArgVs.cons (ArgV.va (vs := [(.int .i64 ((gC (cellsOf l) k).x) : Value), .int .i64 ((gC (cellsOf l) k).y)]) (OpV.agg 18 [(.int .i64 ((gC (cellsOf l) k).x) : Value), .int .i64 ((gC (cellsOf l) k).y)])) (ArgVs.nil))) (ResV.row 53 2 ((pcs l (gC (cellsOf l) k)).length) (csl (pcs l (gC (cellsOf l) k))) 19))) (AllSteps.cons (step_plain rfl (acts_index_sl (d := 20) (x := 19) (h := 19) (off := 0) (n := ((pcs l (gC (cellsOf l) k)).length)) (k := 0) (off' := (0 * 2)) (o := ⟨53, 2, true, pl (csl (pcs l (gC (cellsOf l) k)))⟩) (ltN rfl) qC22_un_69 qC22_sz_53 (OpV.const (.int .i64 0)) rfl (by omega) (by (simp; done)))) (AllSteps.cons (step_plain rfl (acts_load_owns (d := 21) (t := 20) (h := 19) (off := (0 * 2)) (o := ⟨53, 2, true, pl (csl (pcs l (gC (cellsOf l) k)))⟩)  (xs := [(.int .i64 ((gC (pcs l (gC (cellsOf l) k)) 0).x) : Value), .int .i64 ((gC (pcs l (gC (cellsOf l) k)) 0).y)].map A.val) (ltN rfl) qC22_ti_53 rfl (by decide) (pl_at (csl_at (k := 0) (by omega))))) (AllSteps.cons (step_plain rfl (mv 22 4 (V.b (.a (.sl 7 0 ((cellsOf l).length)))))) (AllSteps.cons (step_plain rfl (mv 23 5 (V.v (.int .i64 ((k : Nat) : Int))))) (AllSteps.cons (step_plain rfl (acts_index_sl (d := 24) (x := 22) (h := 7) (off := 0) (n := ((cellsOf l).length)) (k := k) (off' := (k * 2)) (o := ⟨53, 2, true, pl (csl (cellsOf l))⟩) (ltN rfl) qC22_un_69 qC22_sz_53 (OpV.tmp 23 (.int .i64 ((k : Nat) : Int))) rfl (by omega) (by (simp; done)))) (AllSteps.cons (step_plain rfl (acts_load_owns (d := 25) (t := 24) (h := 7) (off := (k * 2)) (o := ⟨53, 2, true, pl (csl (cellsOf l))⟩)  (xs := [(.int .i64 ((gC (cellsOf l) k).x) : Value), .int .i64 ((gC (cellsOf l) k).y)].map A.val) (ltN rfl) qC22_ti_53 rfl (by decide) (pl_at (csl_at (k := k) (by omega))))) (AllSteps.cons (step_plain rfl (bn 26 (OpV.agg 21 [(.int .i64 ((gC (pcs l (gC (cellsOf l) k)) 0).x) : Value), .int .i64 ((gC (pcs l (gC (cellsOf l) k)) 0).y)]) (OpV.agg 25 [(.int .i64 ((gC (cellsOf l) k).x) : Value), .int .i64 ((gC (cellsOf l) k).y)]) (r_aggeq qC22_eg_53 (fun w => (run_eql_cel ((gC (pcs l (gC (cellsOf l) k)) 0).x) ((gC (pcs l (gC (cellsOf l) k)) 0).y) ((gC (cellsOf l) k).x) ((gC (cellsOf l) k).y) w).trans (congrArg (fun z => Result.ok (Value.bool z) w) (rfl : (cEq ((gC (pcs l (gC (cellsOf l) k)) 0).x) ((gC (pcs l (gC (cellsOf l) k)) 0).y) ((gC (cellsOf l) k).x) ((gC (cellsOf l) k).y)) = (cEq ((gC (pcs l (gC (cellsOf l) k)) 0).x) ((gC (pcs l (gC (cellsOf l) k)) 0).y) ((gC (cellsOf l) k).x) ((gC (cellsOf l) k).y)))))))) (AllSteps.nil)))))))))))))) (by kernel_rfl) (by kernel_rfl) (by kernel_rfl) ?_
  refine wp_if (t := 26) ((cEq ((gC (pcs l (gC (cellsOf l) k)) 0).x) ((gC (pcs l (gC (cellsOf l) k)) 0).y) ((gC (cellsOf l) k).x) ((gC (cellsOf l) k).y))) (by kernel_rfl) (fun c3 => ?_) (fun c3 => ?_)
  ·skip
   refine wp_region_t ?_
   refine w1 (mv 27 3 (V.v (.int .i64 (((((cellsOf l).take k).filter (rootD (regSet l))).length : Nat) : Int)))) ?_
   refine w1 (bn 28 (OpV.tmp 27 (.int .i64 (((((cellsOf l).take k).filter (rootD (regSet l))).length : Nat) : Int))) (OpV.const (.int .i64 1)) (r_add (c := ((((((cellsOf l).take k).filter (rootD (regSet l))).length : Nat) : Int) + 1)) (w64 (by omega) (by omega)))) ?_
   refine w1 (asg 3 28 (V.v (.int .i64 ((((((cellsOf l).take k).filter (rootD (regSet l))).length : Nat) : Int) + 1)))) ?_
   refine wpl_nil ?_
   refine wp_region_t ?_
   refine w1 (mv 12 5 (V.v (.int .i64 ((k : Nat) : Int)))) ?_
   refine w1 (bn 13 (OpV.tmp 12 (.int .i64 ((k : Nat) : Int))) (OpV.const (.int .i64 1)) (r_add (c := (((k : Nat) : Int) + 1)) (w64 (by omega) (by omega)))) ?_
   refine w1 (asg 5 13 (V.v (.int .i64 (((k : Nat) : Int) + 1)))) ?_
   refine wpl_nil ?_
   exact loop_back ((k + 1)) (by show _ ≤ _; omega) (by show (cellsOf l).length - (k + 1) < (cellsOf l).length - k; omega) (weak_of id [10, 19] (by kernel_rfl) (wk_s (v' := V.p 1 0) (by kernel_rfl) rfl rfl (wk_s (v' := V.v (.int .i64 ((((((cellsOf l).take k).filter (rootD (regSet l))).length : Nat) : Int) + 1))) (by kernel_rfl) (vint (by (rw [cfilt_yes (by omega) (hpb true (by simp_all [cEq_cel]))]; simp; done))) rfl (wk_s (v' := V.b (.a (.sl 7 0 ((cellsOf l).length)))) (by kernel_rfl) rfl rfl (wk_s (v' := V.v (.int .i64 (((k : Nat) : Int) + 1))) (by kernel_rfl) (vint (by rfl)) rfl (wk_o (o' := ⟨29, 1, true, [(.slv l.length 1 (isl l) : A)]⟩) (by kernel_rfl) (renob_l (fun h => h) rfl rfl) rfl (wk_o (o' := ⟨53, 2, true, pl (csl (cellsOf l))⟩) (by kernel_rfl) (renob_pl (fun h => h)) rfl (wk_f rfl (wk_f rfl (wk_nil))))))))))
  ·skip
   refine wp_skip' ?_
   refine wp_region_t ?_
   refine w1 (mv 12 5 (V.v (.int .i64 ((k : Nat) : Int)))) ?_
   refine w1 (bn 13 (OpV.tmp 12 (.int .i64 ((k : Nat) : Int))) (OpV.const (.int .i64 1)) (r_add (c := (((k : Nat) : Int) + 1)) (w64 (by omega) (by omega)))) ?_
   refine w1 (asg 5 13 (V.v (.int .i64 (((k : Nat) : Int) + 1)))) ?_
   refine wpl_nil ?_
   exact loop_back ((k + 1)) (by show _ ≤ _; omega) (by show (cellsOf l).length - (k + 1) < (cellsOf l).length - k; omega) (weak_of id [10, 19] (by kernel_rfl) (wk_s (v' := V.p 1 0) (by kernel_rfl) rfl rfl (wk_s (v' := V.v (.int .i64 (((((cellsOf l).take k).filter (rootD (regSet l))).length : Nat) : Int))) (by kernel_rfl) (vint (by (rw [cfilt_no (by omega) (hpb false (by simp_all [cEq_cel]))]; done))) rfl (wk_s (v' := V.b (.a (.sl 7 0 ((cellsOf l).length)))) (by kernel_rfl) rfl rfl (wk_s (v' := V.v (.int .i64 (((k : Nat) : Int) + 1))) (by kernel_rfl) (vint (by rfl)) rfl (wk_o (o' := ⟨29, 1, true, [(.slv l.length 1 (isl l) : A)]⟩) (by kernel_rfl) (renob_l (fun h => h) rfl rfl) rfl (wk_o (o' := ⟨53, 2, true, pl (csl (cellsOf l))⟩) (by kernel_rfl) (renob_pl (fun h => h)) rfl (wk_f rfl (wk_f rfl (wk_nil))))))))))
 ·skip
  have c2P := of_decide_eq_false c2
  refine wp_exit' ?_
  refine wp_seq' ?_
  refine wp_region_t ?_
  refine w1 (mv 29 3 (V.v (.int .i64 (((((cellsOf l).take k).filter (rootD (regSet l))).length : Nat) : Int)))) ?_
  refine w1 (asg 2 29 (V.v (.int .i64 (((((cellsOf l).take k).filter (rootD (regSet l))).length : Nat) : Int)))) ?_
  refine wpl_nil ?_
  refine wp_ret' ?_
  exact VRes.tmp 2 (.a (.val (.int .i64 (((((cellsOf l).take k).filter (rootD (regSet l))).length : Nat) : Int)))) _ (by kernel_rfl) (bval (congrArg (Value.int .i64) (by rw [pcN_eq, List.take_of_length_le (by omega)])))
end Cl
end Go.Proofs.Ytmbodpmhokbapaa
