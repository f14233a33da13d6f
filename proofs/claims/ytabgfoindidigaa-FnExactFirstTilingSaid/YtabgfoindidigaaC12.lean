/- Walks over clean states, printed by wg.py. No statement is proved here. -/
import Derived.Test.YtabgfoindidigaaC10
import Derived.Test.YtabgfoindidigaaC1
namespace Go.Proofs.Ytabgfoindidigaa
namespace Cl
open Go.ChangeShapes Go.WideShapes Go.ChangeAt Go.RowKit

theorem qC12_fo_39_0 : fieldOff Try.prog 39 0 = some 0 := by kernel_rfl
theorem qC12_fo_39_1 : fieldOff Try.prog 39 1 = some 1 := by kernel_rfl
theorem qC12_sz_3 : (Try.prog.info? 3).map (·.size) = some 1 := by kernel_rfl
theorem qC12_ti_3 : TI Try.prog 3 false 1 := ⟨⟨_, Try.underlying3, rfl⟩, by kernel_rfl⟩
theorem qC12_ti_30 : TI Try.prog 30 true 1 := ⟨⟨_, Try.underlying30, rfl⟩, by kernel_rfl⟩
theorem qC12_ti_39 : TI Try.prog 39 true 2 := ⟨⟨_, Try.underlying39, rfl⟩, by kernel_rfl⟩
theorem qC12_un_22 : Try.prog.underlying 22 = some (.slice 3) := Try.underlying22
theorem qC12_zi_3 : ZI Try.prog 3 (.int .i64 0) 1 8 := by unfold ZI; kernel_rfl
theorem qC12_zi_39 : ZI Try.prog 39 (.agg #[.int .i64 0, .int .i64 0]) 2 16 := by unfold ZI; kernel_rfl
set_option maxHeartbeats 4000000 in
set_option maxRecDepth 100000 in
theorem spec_l07Count_fn (l : List Int) (ho : regOk l = true) : Fn Try.prog 74 [.agg [(.slv l.length 1 (isl l) : A)]] [.val (.int .i64 (((cnt (regSet l)) : Nat) : Int))] := by
  have hpl0 := prof_len (regSet l) 0
  have hr0 : (List.replicate 256 (0 : Int)).length = 256 := List.length_replicate
  have hrl := (regOk_true ho).1
  refine fn_intro (N := 157) Try.func74 rfl (by kernel_rfl) rfl (Nat.le_of_ble_eq_true rfl) [1, 7, 14, 15, 18, 33, 38, 41, 64, 94, 98, 122, 126] (ret1 rfl) (fun W => ?_)
  show Wp _ _ _ [(.s 0, some (.s (V.b (.agg [(.slv l.length 1 (isl l) : A)])))), (.o 1, some .free), (.o 7, some .free), (.o 14, some .free), (.o 15, some .free), (.o 18, some .free), (.o 33, some .free), (.o 38, some .free), (.o 41, some .free), (.o 64, some .free), (.o 94, some .free), (.o 98, some .free), (.o 122, some .free), (.o 126, some .free)]
  refine wp_seq' ?_
  refine wp_region_t ?_
  refine wpc (step_plain rfl (acts_box (d := 1) (h := 1) (b := .agg [(.slv l.length 1 (isl l) : A)]) (ltN rfl) (OpX.tmp 0 (V.b (.agg [(.slv l.length 1 (isl l) : A)]))) (by intro y hy; simp [B.cs] at hy; subst hy; rfl))) (by kernel_rfl) ?_
  refine wpc (step_plain rfl (acts_assign (d := 2) (ltN rfl) (OpX.const (.int .i64 0)))) (by kernel_rfl) ?_
  refine wpl_nil ?_
  refine wp_seq' ?_
  refine wp_region_t ?_
  refine wpc (step_plain rfl (acts_assign (d := 3) (ltN rfl) (OpX.const (.int .i64 8)))) (by kernel_rfl) ?_
  refine wpl_nil ?_
  refine wp_seq' ?_
  refine wp_region_t ?_
  refine wpc (step_plain rfl (acts_move (d := 16) (ltN rfl) (OpX.tmp 3 (V.v (.int .i64 8))))) (by kernel_rfl) ?_
  refine wpc (step_plain rfl (acts_bin (d := 17) (ltN rfl) (OpV.const (.int .i64 1)) (OpV.tmp 16 (.int .i64 8)) (r_shl (c := 256) (by omega) (by decide)))) (by kernel_rfl) ?_
  refine wpc (step_plain rfl (acts_make' (d := 18) (h := 18) (n := 256) (s := 1) (xs := isl (List.replicate 256 0)) (ltN rfl) qC12_un_22 qC12_zi_3 (OpV.tmp 17 (.int .i64 256)) (OpV.tmp 17 (.int .i64 256)) rfl rfl (by decide) (by omega) (made_ints' 256))) (by kernel_rfl) ?_
  refine wpc (step_plain rfl (acts_assign (d := 4) (ltN rfl) (OpX.tmp 18 (V.b (.a (.sl 18 0 256)))))) (by kernel_rfl) ?_
  refine wpl_nil ?_
  refine wp_seq' ?_
  refine wp_region_t ?_
  refine wpc (step_plain rfl (acts_move (d := 19) (ltN rfl) (OpX.tmp 4 (V.b (.a (.sl 18 0 256)))))) (by kernel_rfl) ?_
  refine wpc (step_plain rfl (acts_index_sl (d := 20) (x := 19) (h := 18) (off := 0) (n := 256) (k := 0) (off' := (0 * 1)) (o := ⟨3, 1, true, pl (isl (List.replicate 256 0))⟩) (ltN rfl) qC12_un_22 qC12_sz_3 (OpV.const (.int .i64 0)) rfl (by omega) (by (simp; done)))) (by kernel_rfl) ?_
  refine wpc (step_plain rfl (acts_store (t := 20) (h := 18) (off := (0 * 1)) (o := ⟨3, 1, true, pl (isl (List.replicate 256 0))⟩) (b := .a (.val (.int .i64 1))) (cells := pl (isl ((List.replicate 256 0).set 0 1))) qC12_ti_3 (OpX.const (.int .i64 1)) rfl (by decide) (by intro y hy; simp [B.cs] at hy; subst hy; rfl) (by simp only [pl_len, isl_len]; first | omega | assumption | exact cN_ok (by omega) | exact regSet_lt ho | (simp only [List.length_set]; omega)) (isl_put (k := 0) (by omega)))) (by kernel_rfl) ?_
  refine wpl_nil ?_
  refine wp_seq' ?_
  refine wp_seq' ?_
  refine wp_region_t ?_
  refine wpc (step_plain rfl (acts_assign (d := 5) (ltN rfl) (OpX.const (.int .i64 0)))) (by kernel_rfl) ?_
  refine wpl_nil ?_
  refine wp_block' ?_
  refine wp_loop' (fun (i : Nat) => i ≤ 64) (fun (i : Nat) => [(.s 1, some (.s (V.p 1 0))), (.s 3, some (.s (V.v (.int .i64 8)))), (.s 4, some (.s (V.b (.a (.sl 18 0 ((prof (regSet l) i).length)))))), (.s 5, some (.s (V.v (.int .i64 ((i : Nat) : Int))))), (.o 1, some (.o ⟨30, 1, true, [(.slv l.length 1 (isl l) : A)]⟩)), (.o 18, some (.o ⟨3, 1, true, pl (isl (prof (regSet l) i))⟩)), (.o 7, some .free), (.o 14, some .free), (.o 15, some .free), (.o 33, some .free), (.o 38, some .free), (.o 41, some .free), (.o 64, some .free), (.o 94, some .free), (.o 98, some .free), (.o 122, some .free), (.o 126, some .free)]) (fun (i : Nat) => 64 - i) ((0 : Nat)) (by exact (Nat.zero_le _ : 0 ≤ _)) (weak_of id [7, 14, 15, 33, 38, 41, 64, 94, 98, 122, 126] (by kernel_rfl) (wk_s (v' := V.p 1 0) (by kernel_rfl) rfl rfl (wk_s (v' := V.v (.int .i64 8)) (by kernel_rfl) rfl rfl (wk_s (v' := V.b (.a (.sl 18 0 256))) (by kernel_rfl) (vsl (by rfl) rfl) rfl (wk_s (v' := V.v (.int .i64 0)) (by kernel_rfl) (vint (by rfl)) rfl (wk_o (o' := ⟨30, 1, true, [(.slv l.length 1 (isl l) : A)]⟩) (by kernel_rfl) (renob_l (fun h => h) rfl rfl) rfl (wk_o (o' := ⟨3, 1, true, pl (isl ((List.replicate 256 0).set 0 1))⟩) (by kernel_rfl) (renob_eq (fun h => h) (congrArg isl (by rfl))) rfl (wk_f rfl (wk_f rfl (wk_f rfl (wk_f rfl (wk_f rfl (wk_f rfl (wk_f rfl (wk_f rfl (wk_f rfl (wk_f rfl (wk_f rfl (wk_nil))))))))))))))))))) ?_
  rintro i inv1
  replace inv1 : i ≤ 64 := inv1
  have invi := inv1
  show Wp _ _ _ [(.s 1, some (.s (V.p 1 0))), (.s 3, some (.s (V.v (.int .i64 8)))), (.s 4, some (.s (V.b (.a (.sl 18 0 ((prof (regSet l) i).length)))))), (.s 5, some (.s (V.v (.int .i64 ((i : Nat) : Int))))), (.o 1, some (.o ⟨30, 1, true, [(.slv l.length 1 (isl l) : A)]⟩)), (.o 18, some (.o ⟨3, 1, true, pl (isl (prof (regSet l) i))⟩)), (.o 7, some .free), (.o 14, some .free), (.o 15, some .free), (.o 33, some .free), (.o 38, some .free), (.o 41, some .free), (.o 64, some .free), (.o 94, some .free), (.o 98, some .free), (.o 122, some .free), (.o 126, some .free)]
  have hpl := prof_len (regSet l) i
  have hpl1 := prof_len (regSet l) (i + 1)
  have hcx : (cN i).x = ((i % 8 : Nat) : Int) := rfl
  have hcx0 : 0 ≤ (cN i).x := Int.natCast_nonneg _
  have hcy : (cN i).y = ((i / 8 : Nat) : Int) := rfl
  have hpw : 2 ^ (i % 8) < 256 := Nat.pow_lt_pow_right (m := i % 8) (n := 8) (by decide) (by omega)
  have hpw1 : 2 ^ (i % 8 + 1) < 512 := Nat.pow_lt_pow_right (m := i % 8 + 1) (n := 9) (by decide) (by omega)
  refine wp_seq' ?_
  refine wp_seq' ?_
  refine wp_region_t ?_
  refine wpc (step_plain rfl (acts_move (d := 21) (ltN rfl) (OpX.tmp 5 (V.v (.int .i64 ((i : Nat) : Int)))))) (by kernel_rfl) ?_
  refine wpc (step_plain rfl (acts_move (d := 22) (ltN rfl) (OpX.tmp 3 (V.v (.int .i64 8))))) (by kernel_rfl) ?_
  refine wpc (step_plain rfl (acts_move (d := 23) (ltN rfl) (OpX.tmp 3 (V.v (.int .i64 8))))) (by kernel_rfl) ?_
  refine wpc (step_plain rfl (acts_bin (d := 24) (ltN rfl) (OpV.tmp 22 (.int .i64 8)) (OpV.tmp 23 (.int .i64 8)) (r_mul (c := 64) (w64 (by omega) (by omega))))) (by kernel_rfl) ?_
  refine wpc (step_plain rfl (acts_bin (d := 25) (ltN rfl) (OpV.tmp 21 (.int .i64 ((i : Nat) : Int))) (OpV.tmp 24 (.int .i64 64)) (r_lss (c := (decide (((i : Nat) : Int) < 64))) rfl))) (by kernel_rfl) ?_
  refine wpl_nil ?_
  refine wp_if (t := 25) (decide (((i : Nat) : Int) < 64)) (by kernel_rfl) (fun c2 => ?_) (fun c2 => ?_)
  · skip
    have c2P := of_decide_eq_true c2
    refine wp_skip' ?_
    refine wp_seq' ?_
    refine wp_block' ?_
    refine wp_seq' ?_
    refine wp_region_t ?_
    refine wpc (step_plain rfl (acts_move (d := 28) (ltN rfl) (OpX.tmp 5 (V.v (.int .i64 ((i : Nat) : Int)))))) (by kernel_rfl) ?_
    refine wpc (step_plain rfl (acts_move (d := 29) (ltN rfl) (OpX.tmp 3 (V.v (.int .i64 8))))) (by kernel_rfl) ?_
    refine wpc (step_plain rfl (acts_bin (d := 30) (ltN rfl) (OpV.tmp 28 (.int .i64 ((i : Nat) : Int))) (OpV.tmp 29 (.int .i64 8)) (r_rem (c := (((i % 8) : Nat) : Int)) (by decide) (remN (a := ((i : Nat) : Int)) (b := i) (c := 8) rfl)))) (by kernel_rfl) ?_
    refine wpc (step_plain rfl (acts_assign (d := 6) (ltN rfl) (OpX.tmp 30 (V.v (.int .i64 (((i % 8) : Nat) : Int)))))) (by kernel_rfl) ?_
    refine wpl_nil ?_
    refine wp_seq' ?_
    refine wp_region_t ?_
    refine wpc (step_plain rfl (acts_move (d := 32) (ltN rfl) (OpX.tmp 5 (V.v (.int .i64 ((i : Nat) : Int)))))) (by kernel_rfl) ?_
    refine wpc (step_plain rfl (acts_call2 (d := 33) (ltN rfl) (spec_CellAt_fn i (by omega)) (ArgVs.cons (ArgV.v (OpV.tmp 32 (.int .i64 ((i : Nat) : Int)))) (ArgVs.nil)) (ResV.agg [(.int .i64 ((cN i).x) : Value), .int .i64 ((cN i).y)]) (ResV.val _))) (by kernel_rfl) ?_
    refine wpc (step_plain rfl (acts_move (d := 31) (ltN rfl) (OpX.tmp 33 (V.tup [.agg ([(.int .i64 ((cN i).x) : Value), .int .i64 ((cN i).y)].map A.val), .a (.val (.bool true))])))) (by kernel_rfl) ?_
    refine wpc (step_plain rfl (acts_extract (d := 34) (t := 31) (ix := 0) (xs := [.agg ([(.int .i64 ((cN i).x) : Value), .int .i64 ((cN i).y)].map A.val), .a (.val (.bool true))]) (X := .agg ([(.int .i64 ((cN i).x) : Value), .int .i64 ((cN i).y)].map A.val)) (ltN rfl) rfl)) (by kernel_rfl) ?_
    refine wpc (step_plain rfl (acts_extract (d := 35) (t := 31) (ix := 1) (xs := [.agg ([(.int .i64 ((cN i).x) : Value), .int .i64 ((cN i).y)].map A.val), .a (.val (.bool true))]) (X := .a (.val (.bool true))) (ltN rfl) rfl)) (by kernel_rfl) ?_
    refine wpc (step_plain rfl (acts_alloc' (d := 7) (h := 7) (cap := 1) (s := 2) (cells := [(.val (.int .i64 0) : A), .val (.int .i64 0)]) (ltN rfl) qC12_zi_39 rfl rfl (by decide))) (by kernel_rfl) ?_
    refine wpc (step_plain rfl (acts_store (t := 7) (h := 7) (off := 0) (o := ⟨39, 2, true, [(.val (.int .i64 0) : A), .val (.int .i64 0)]⟩) (b := .agg ([(.int .i64 ((cN i).x) : Value), .int .i64 ((cN i).y)].map A.val)) (cells := [(.val (.int .i64 ((cN i).x)) : A), .val (.int .i64 ((cN i).y))]) qC12_ti_39 (OpX.tmp 34 (V.av [(.int .i64 ((cN i).x) : Value), .int .i64 ((cN i).y)])) rfl (by decide) (by intro y hy; simp [B.cs] at hy; rcases hy with rfl | rfl <;> rfl) (Nat.le_of_ble_eq_true rfl) rfl)) (by kernel_rfl) ?_
    refine wpc (step_plain rfl (acts_assign (d := 8) (ltN rfl) (OpX.tmp 35 (V.v (.bool true))))) (by kernel_rfl) ?_
    refine wpl_nil ?_
    refine wp_seq' ?_
    refine wp_region_t ?_
    refine wpc (step_plain rfl (acts_move (d := 36) (ltN rfl) (OpX.tmp 3 (V.v (.int .i64 8))))) (by kernel_rfl) ?_
    refine wpc (step_plain rfl (acts_bin (d := 37) (ltN rfl) (OpV.const (.int .i64 1)) (OpV.tmp 36 (.int .i64 8)) (r_shl (c := 256) (by omega) (by decide)))) (by kernel_rfl) ?_
    refine wpc (step_plain rfl (acts_make' (d := 38) (h := 38) (n := 256) (s := 1) (xs := isl (List.replicate 256 0)) (ltN rfl) qC12_un_22 qC12_zi_3 (OpV.tmp 37 (.int .i64 256)) (OpV.tmp 37 (.int .i64 256)) rfl rfl (by decide) (by omega) (made_ints' 256))) (by kernel_rfl) ?_
    refine wpc (step_plain rfl (acts_assign (d := 9) (ltN rfl) (OpX.tmp 38 (V.b (.a (.sl 38 0 256)))))) (by kernel_rfl) ?_
    refine wpl_nil ?_
    refine wp_seq' ?_
    refine wp_seq' ?_
    refine wp_region_t ?_
    refine wpc (step_plain rfl (acts_assign (d := 10) (ltN rfl) (OpX.const (.int .i64 0)))) (by kernel_rfl) ?_
    refine wpl_nil ?_
    refine wp_block' ?_
    refine wp_loop' (fun (k : Nat) => k ≤ 256) (fun (k : Nat) => [(.s 1, some (.s (V.p 1 0))), (.s 3, some (.s (V.v (.int .i64 8)))), (.s 4, some (.s (V.b (.a (.sl 18 0 ((prof (regSet l) i).length)))))), (.s 5, some (.s (V.v (.int .i64 ((i : Nat) : Int))))), (.s 6, some (.s (V.v (.int .i64 (((i % 8) : Nat) : Int))))), (.s 7, some (.s (V.p 7 0))), (.s 9, some (.s (V.b (.a (.sl 38 0 256))))), (.s 10, some (.s (V.v (.int .i64 ((k : Nat) : Int))))), (.o 1, some (.o ⟨30, 1, true, [(.slv l.length 1 (isl l) : A)]⟩)), (.o 7, some (.o ⟨39, 2, true, [(.val (.int .i64 ((cN i).x)) : A), .val (.int .i64 ((cN i).y))]⟩)), (.o 18, some (.o ⟨3, 1, true, pl (isl (prof (regSet l) i))⟩)), (.o 38, some (.o ⟨3, 1, true, pl (isl (stepT (regSet l) i (prof (regSet l) i) k))⟩)), (.o 14, some .free), (.o 15, some .free), (.o 33, some .free), (.o 41, some .free), (.o 64, some .free), (.o 94, some .free), (.o 98, some .free), (.o 122, some .free), (.o 126, some .free)]) (fun (k : Nat) => 256 - k) ((0 : Nat)) (by exact (Nat.zero_le _ : 0 ≤ _)) (weak_of id [14, 15, 33, 41, 64, 94, 98, 122, 126] (by kernel_rfl) (wk_s (v' := V.p 1 0) (by kernel_rfl) rfl rfl (wk_s (v' := V.v (.int .i64 8)) (by kernel_rfl) rfl rfl (wk_s (v' := V.b (.a (.sl 18 0 ((prof (regSet l) i).length)))) (by kernel_rfl) rfl rfl (wk_s (v' := V.v (.int .i64 ((i : Nat) : Int))) (by kernel_rfl) rfl rfl (wk_s (v' := V.v (.int .i64 (((i % 8) : Nat) : Int))) (by kernel_rfl) rfl rfl (wk_s (v' := V.p 7 0) (by kernel_rfl) rfl rfl (wk_s (v' := V.b (.a (.sl 38 0 256))) (by kernel_rfl) rfl rfl (wk_s (v' := V.v (.int .i64 0)) (by kernel_rfl) (vint (by rfl)) rfl (wk_o (o' := ⟨30, 1, true, [(.slv l.length 1 (isl l) : A)]⟩) (by kernel_rfl) (renob_l (fun h => h) rfl rfl) rfl (wk_o (o' := ⟨39, 2, true, [(.val (.int .i64 ((cN i).x)) : A), .val (.int .i64 ((cN i).y))]⟩) (by kernel_rfl) (renob_l (fun h => h) rfl rfl) rfl (wk_o (o' := ⟨3, 1, true, pl (isl (prof (regSet l) i))⟩) (by kernel_rfl) (renob_pl (fun h => h)) rfl (wk_o (o' := ⟨3, 1, true, pl (isl (List.replicate 256 0))⟩) (by kernel_rfl) (renob_eq (fun h => h) (congrArg isl (by rfl))) rfl (wk_f rfl (wk_f rfl (wk_f rfl (wk_f rfl (wk_f rfl (wk_f rfl (wk_f rfl (wk_f rfl (wk_f rfl (wk_nil))))))))))))))))))))))) ?_
    rintro k inv3
    replace inv3 : k ≤ 256 := inv3
    have inv4 := inv3
    show Wp _ _ _ [(.s 1, some (.s (V.p 1 0))), (.s 3, some (.s (V.v (.int .i64 8)))), (.s 4, some (.s (V.b (.a (.sl 18 0 ((prof (regSet l) i).length)))))), (.s 5, some (.s (V.v (.int .i64 ((i : Nat) : Int))))), (.s 6, some (.s (V.v (.int .i64 (((i % 8) : Nat) : Int))))), (.s 7, some (.s (V.p 7 0))), (.s 9, some (.s (V.b (.a (.sl 38 0 256))))), (.s 10, some (.s (V.v (.int .i64 ((k : Nat) : Int))))), (.o 1, some (.o ⟨30, 1, true, [(.slv l.length 1 (isl l) : A)]⟩)), (.o 7, some (.o ⟨39, 2, true, [(.val (.int .i64 ((cN i).x)) : A), .val (.int .i64 ((cN i).y))]⟩)), (.o 18, some (.o ⟨3, 1, true, pl (isl (prof (regSet l) i))⟩)), (.o 38, some (.o ⟨3, 1, true, pl (isl (stepT (regSet l) i (prof (regSet l) i) k))⟩)), (.o 14, some .free), (.o 15, some .free), (.o 33, some .free), (.o 41, some .free), (.o 64, some .free), (.o 94, some .free), (.o 98, some .free), (.o 122, some .free), (.o 126, some .free)]
    have hlt := stepT_len (regSet l) i (prof (regSet l) i) k
    have hbt : ∀ j, j < 256 → 0 ≤ gI (stepT (regSet l) i (prof (regSet l) i) k) j ∧ gI (stepT (regSet l) i (prof (regSet l) i) k) j ≤ 1099511627776 := fun j hj => by
      have := part_bd (s := regSet l) (i := i) (by omega) (m := k) (k := j) (by omega) hj
      omega
    refine wp_seq' ?_
    refine wp_seq' ?_
    refine wp_region_t ?_
    refine wpc (step_plain rfl (acts_move (d := 39) (ltN rfl) (OpX.tmp 10 (V.v (.int .i64 ((k : Nat) : Int)))))) (by kernel_rfl) ?_
    refine wpc (step_plain rfl (acts_move (d := 40) (ltN rfl) (OpX.tmp 4 (V.b (.a (.sl 18 0 ((prof (regSet l) i).length))))))) (by kernel_rfl) ?_
    refine wpc (step_plain rfl (acts_len (d := 41) (X := .sl 18 0 ((prof (regSet l) i).length)) (n := ((prof (regSet l) i).length)) (iv := (((prof (regSet l) i).length : Nat) : Int)) (ltN rfl) qC12_un_22 (OpX.tmp 40 (V.b (.a (.sl 18 0 ((prof (regSet l) i).length))))) (LenOf.sl _ _ _) rfl)) (by kernel_rfl) ?_
    refine wpc (step_plain rfl (acts_bin (d := 42) (ltN rfl) (OpV.tmp 39 (.int .i64 ((k : Nat) : Int))) (OpV.tmp 41 (.int .i64 (((prof (regSet l) i).length : Nat) : Int))) (r_lss (c := (decide (((k : Nat) : Int) < (((prof (regSet l) i).length : Nat) : Int)))) rfl))) (by kernel_rfl) ?_
    refine wpl_nil ?_
    refine wp_if (t := 42) (decide (((k : Nat) : Int) < (((prof (regSet l) i).length : Nat) : Int))) (by kernel_rfl) (fun c4 => ?_) (fun c4 => ?_)
    · skip
      have c4P := of_decide_eq_true c4
      have hpk := prof_bd (s := regSet l) (i := i) (by omega) (k := k) (by omega)
      have ho1 : (k ||| 2 ^ (i % 8)) < 256 := or_lt (by omega) (by omega)
      have ha1 : andn k (2 ^ (i % 8)) < 256 := andn_lt8 (by omega)
      have hb1 := hbt _ ho1
      have hb2 := hbt _ ha1
      have hbk := hbt k (by omega)
      refine wp_skip' ?_
      refine wp_seq' ?_
      refine wp_block' ?_
      refine wp_seq' ?_
      refine wp_region_t ?_
      refine wpc (step_plain rfl (acts_move (d := 45) (ltN rfl) (OpX.tmp 4 (V.b (.a (.sl 18 0 ((prof (regSet l) i).length))))))) (by kernel_rfl) ?_
      refine wpc (step_plain rfl (acts_move (d := 46) (ltN rfl) (OpX.tmp 10 (V.v (.int .i64 ((k : Nat) : Int)))))) (by kernel_rfl) ?_
      refine wpc (step_plain rfl (acts_index_sl (d := 47) (x := 45) (h := 18) (off := 0) (n := ((prof (regSet l) i).length)) (k := k) (off' := (k * 1)) (o := ⟨3, 1, true, pl (isl (prof (regSet l) i))⟩) (ltN rfl) qC12_un_22 qC12_sz_3 (OpV.tmp 46 (.int .i64 ((k : Nat) : Int))) rfl (by omega) (by (simp; done)))) (by kernel_rfl) ?_
      refine wpc (step_plain rfl (acts_load_own (d := 48) (t := 47) (h := 18) (off := (k * 1)) (o := ⟨3, 1, true, pl (isl (prof (regSet l) i))⟩)  (x := .val (.int .i64 (gI (prof (regSet l) i) k))) (ltN rfl) qC12_ti_3 (pl_get (isl_get1 (k := k) (by omega))))) (by kernel_rfl) ?_
      refine wpc (step_plain rfl (acts_assign (d := 11) (ltN rfl) (OpX.tmp 48 (V.v (.int .i64 (gI (prof (regSet l) i) k)))))) (by kernel_rfl) ?_
      refine wpl_nil ?_
      refine wp_seq' ?_
      refine wp_seq' ?_
      refine wp_region_t ?_
      refine wpc (step_plain rfl (acts_move (d := 49) (ltN rfl) (OpX.tmp 11 (V.v (.int .i64 (gI (prof (regSet l) i) k)))))) (by kernel_rfl) ?_
      refine wpc (step_plain rfl (acts_bin (d := 50) (ltN rfl) (OpV.tmp 49 (.int .i64 (gI (prof (regSet l) i) k))) (OpV.const (.int .i64 0)) (r_eql (c := (decide ((gI (prof (regSet l) i) k) = 0))) rfl))) (by kernel_rfl) ?_
      refine wpl_nil ?_
      refine wp_if (t := 50) (decide ((gI (prof (regSet l) i) k) = 0)) (by kernel_rfl) (fun c5 => ?_) (fun c5 => ?_)
      · skip
        have c5P := of_decide_eq_true c5
        refine wp_exit' ?_
        refine wp_region_t ?_
        refine wpc (step_plain rfl (acts_move (d := 43) (ltN rfl) (OpX.tmp 10 (V.v (.int .i64 ((k : Nat) : Int)))))) (by kernel_rfl) ?_
        refine wpc (step_plain rfl (acts_bin (d := 44) (ltN rfl) (OpV.tmp 43 (.int .i64 ((k : Nat) : Int))) (OpV.const (.int .i64 1)) (r_add (c := (((k : Nat) : Int) + 1)) (w64 (by omega) (by omega))))) (by kernel_rfl) ?_
        refine wpc (step_plain rfl (acts_assign (d := 10) (ltN rfl) (OpX.tmp 44 (V.v (.int .i64 (((k : Nat) : Int) + 1)))))) (by kernel_rfl) ?_
        refine wpl_nil ?_
        exact loop_back ((k + 1)) (by show _ ≤ _; omega) (by show 256 - (k + 1) < 256 - k; omega) (weak_of id [14, 15, 33, 41, 64, 94, 98, 122, 126] (by kernel_rfl) (wk_s (v' := V.p 1 0) (by kernel_rfl) rfl rfl (wk_s (v' := V.v (.int .i64 8)) (by kernel_rfl) rfl rfl (wk_s (v' := V.b (.a (.sl 18 0 ((prof (regSet l) i).length)))) (by kernel_rfl) rfl rfl (wk_s (v' := V.v (.int .i64 ((i : Nat) : Int))) (by kernel_rfl) rfl rfl (wk_s (v' := V.v (.int .i64 (((i % 8) : Nat) : Int))) (by kernel_rfl) rfl rfl (wk_s (v' := V.p 7 0) (by kernel_rfl) rfl rfl (wk_s (v' := V.b (.a (.sl 38 0 256))) (by kernel_rfl) rfl rfl (wk_s (v' := V.v (.int .i64 (((k : Nat) : Int) + 1))) (by kernel_rfl) (vint (by rfl)) rfl (wk_o (o' := ⟨30, 1, true, [(.slv l.length 1 (isl l) : A)]⟩) (by kernel_rfl) (renob_l (fun h => h) rfl rfl) rfl (wk_o (o' := ⟨39, 2, true, [(.val (.int .i64 ((cN i).x)) : A), .val (.int .i64 ((cN i).y))]⟩) (by kernel_rfl) (renob_l (fun h => h) rfl rfl) rfl (wk_o (o' := ⟨3, 1, true, pl (isl (prof (regSet l) i))⟩) (by kernel_rfl) (renob_pl (fun h => h)) rfl (wk_o (o' := ⟨3, 1, true, pl (isl (stepT (regSet l) i (prof (regSet l) i) k))⟩) (by kernel_rfl) (renob_eq (fun h => h) (congrArg isl (by (rw [stepT_snoc, sk_zero (by assumption)]; done)))) rfl (wk_f rfl (wk_f rfl (wk_f rfl (wk_f rfl (wk_f rfl (wk_f rfl (wk_f rfl (wk_f rfl (wk_f rfl (wk_nil)))))))))))))))))))))))
      · skip
        have c5P := of_decide_eq_false c5
        have hN : ¬ gI (prof (regSet l) i) k = 0 := of_decide_eq_false c5
        refine wp_skip' ?_
        refine wp_seq' ?_
        refine wp_region_t ?_
        refine wpc (step_plain rfl (acts_move (d := 51) (ltN rfl) (OpX.tmp 10 (V.v (.int .i64 ((k : Nat) : Int)))))) (by kernel_rfl) ?_
        refine wpc (step_plain rfl (acts_move (d := 52) (ltN rfl) (OpX.tmp 6 (V.v (.int .i64 (((i % 8) : Nat) : Int)))))) (by kernel_rfl) ?_
        refine wpc (step_plain rfl (acts_bin (d := 53) (ltN rfl) (OpV.tmp 51 (.int .i64 ((k : Nat) : Int))) (OpV.tmp 52 (.int .i64 (((i % 8) : Nat) : Int))) (r_shr (c := (((k >>> (i % 8)) : Nat) : Int)) (by omega) (shrU (m := k) (n := (i % 8)) rfl rfl (by omega) rfl)))) (by kernel_rfl) ?_
        refine wpc (step_plain rfl (acts_bin (d := 54) (ltN rfl) (OpV.tmp 53 (.int .i64 (((k >>> (i % 8)) : Nat) : Int))) (OpV.const (.int .i64 1)) (r_and (c := ((((k >>> (i % 8)) &&& 1) : Nat) : Int)) (andI (m := (k >>> (i % 8))) (n := 1) rfl rfl (by exact Nat.lt_of_le_of_lt (shr_le _ _) (by first | omega | assumption | (first | omega | assumption | exact cN_ok (by omega) | exact regSet_lt ho | (simp only [List.length_set]; omega)))) (by omega))))) (by kernel_rfl) ?_
        refine wpc (step_plain rfl (acts_bin (d := 55) (ltN rfl) (OpV.tmp 54 (.int .i64 ((((k >>> (i % 8)) &&& 1) : Nat) : Int))) (OpV.const (.int .i64 1)) (r_eql (c := (k.testBit (i % 8))) (bit_one _ _)))) (by kernel_rfl) ?_
        refine wpc (step_plain rfl (acts_assign (d := 12) (ltN rfl) (OpX.tmp 55 (V.v (.bool (k.testBit (i % 8))))))) (by kernel_rfl) ?_
        refine wpl_nil ?_
        refine wp_seq' ?_
        refine wp_region_t ?_
        refine wpc (step_plain rfl (acts_move (d := 56) (ltN rfl) (OpX.tmp 10 (V.v (.int .i64 ((k : Nat) : Int)))))) (by kernel_rfl) ?_
        refine wpc (step_plain rfl (acts_assign (d := 13) (ltN rfl) (OpX.tmp 56 (V.v (.int .i64 ((k : Nat) : Int)))))) (by kernel_rfl) ?_
        refine wpl_nil ?_
        refine wp_seq' ?_
        refine wp_seq' ?_
        refine wp_region_t ?_
        refine wpc (step_plain rfl (acts_move (d := 57) (ltN rfl) (OpX.tmp 12 (V.v (.bool (k.testBit (i % 8))))))) (by kernel_rfl) ?_
        refine wpl_nil ?_
        refine wp_if (t := 57) ((k.testBit (i % 8))) (by kernel_rfl) (fun c6 => ?_) (fun c6 => ?_)
        · skip
          have hK : k.testBit (i % 8) = true := c6
          refine wp_region_t ?_
          refine wpc (step_plain rfl (acts_move (d := 58) (ltN rfl) (OpX.tmp 10 (V.v (.int .i64 ((k : Nat) : Int)))))) (by kernel_rfl) ?_
          refine wpc (step_plain rfl (acts_move (d := 59) (ltN rfl) (OpX.tmp 6 (V.v (.int .i64 (((i % 8) : Nat) : Int)))))) (by kernel_rfl) ?_
          refine wpc (step_plain rfl (acts_bin (d := 60) (ltN rfl) (OpV.const (.int .i64 1)) (OpV.tmp 59 (.int .i64 (((i % 8) : Nat) : Int))) (r_shl (c := (((2 ^ (i % 8)) : Nat) : Int)) (by omega) (shl1I (n := (i % 8)) rfl (by omega))))) (by kernel_rfl) ?_
          refine wpc (step_plain rfl (acts_bin (d := 61) (ltN rfl) (OpV.tmp 58 (.int .i64 ((k : Nat) : Int))) (OpV.tmp 60 (.int .i64 (((2 ^ (i % 8)) : Nat) : Int))) (r_sub (c := (((andn k (2 ^ (i % 8))) : Nat) : Int)) (sub_bit (by omega) (by assumption))))) (by kernel_rfl) ?_
          refine wpc (step_plain rfl (acts_assign (d := 13) (ltN rfl) (OpX.tmp 61 (V.v (.int .i64 (((andn k (2 ^ (i % 8))) : Nat) : Int)))))) (by kernel_rfl) ?_
          refine wpl_nil ?_
          refine wp_seq' ?_
          refine wp_seq' ?_
          refine wp_region_t ?_
          refine wpc (step_plain rfl (acts_load_owns (d := 62) (t := 1) (h := 1) (off := 0) (o := ⟨30, 1, true, [(.slv l.length 1 (isl l) : A)]⟩)  (xs := [(.slv l.length 1 (isl l) : A)]) (ltN rfl) qC12_ti_30 rfl (by decide) rfl)) (by kernel_rfl) ?_
          refine wpc (step_plain rfl (acts_load_owns (d := 63) (t := 7) (h := 7) (off := 0) (o := ⟨39, 2, true, [(.val (.int .i64 ((cN i).x)) : A), .val (.int .i64 ((cN i).y))]⟩)  (xs := [(.int .i64 ((cN i).x) : Value), .int .i64 ((cN i).y)].map A.val) (ltN rfl) qC12_ti_39 rfl (by decide) rfl)) (by kernel_rfl) ?_
          refine wpc (step_plain rfl (acts_call1 (d := 64) (ltN rfl) (spec_l03Has_fn l (cN i) (by omega) (by exact cN_ok (by omega))) (ArgVs.cons (ArgV.regv 62 l.length 1 (isl l)) (ArgVs.cons (ArgV.va (vs := [(.int .i64 ((cN i).x) : Value), .int .i64 ((cN i).y)]) (OpV.agg 63 [(.int .i64 ((cN i).x) : Value), .int .i64 ((cN i).y)])) (ArgVs.nil))) (ResV.val _))) (by kernel_rfl) ?_
          refine wpc (step_plain rfl (acts_un (d := 65) (ltN rfl) (OpV.tmp 64 (.bool (hasR l (cN i)))) (r_not (c := (!(hasR l (cN i)))) rfl))) (by kernel_rfl) ?_
          refine wpl_nil ?_
          refine wp_if (t := 65) ((!(hasR l (cN i)))) (by kernel_rfl) (fun c7 => ?_) (fun c7 => ?_)
          · skip
            have c8 : (hasR l (cN i)) = false := by simpa using c7
            have hS : (regSet l).testBit i = false := hasR_i ho (by omega) c8
            refine wp_seq' ?_
            refine wp_seq' ?_
            refine wp_region_t ?_
            refine wpc (step_plain rfl (acts_move (d := 66) (ltN rfl) (OpX.tmp 12 (V.v (.bool (k.testBit (i % 8))))))) (by kernel_rfl) ?_
            refine wpc (step_plain rfl (acts_un (d := 67) (ltN rfl) (OpV.tmp 66 (.bool (k.testBit (i % 8)))) (r_not (c := false) (by (rw [c6]; rfl))))) (by kernel_rfl) ?_
            refine wpl_nil ?_
            refine wp_if_f (t := 67) (by kernel_rfl) ?_
            refine wp_skip' ?_
            refine wp_exit' ?_
            refine wp_region_t ?_
            refine wpc (step_plain rfl (acts_move (d := 43) (ltN rfl) (OpX.tmp 10 (V.v (.int .i64 ((k : Nat) : Int)))))) (by kernel_rfl) ?_
            refine wpc (step_plain rfl (acts_bin (d := 44) (ltN rfl) (OpV.tmp 43 (.int .i64 ((k : Nat) : Int))) (OpV.const (.int .i64 1)) (r_add (c := (((k : Nat) : Int) + 1)) (w64 (by omega) (by omega))))) (by kernel_rfl) ?_
            refine wpc (step_plain rfl (acts_assign (d := 10) (ltN rfl) (OpX.tmp 44 (V.v (.int .i64 (((k : Nat) : Int) + 1)))))) (by kernel_rfl) ?_
            refine wpl_nil ?_
            exact loop_back ((k + 1)) (by show _ ≤ _; omega) (by show 256 - (k + 1) < 256 - k; omega) (weak_of id [14, 15, 33, 41, 64, 94, 98, 122, 126] (by kernel_rfl) (wk_s (v' := V.p 1 0) (by kernel_rfl) rfl rfl (wk_s (v' := V.v (.int .i64 8)) (by kernel_rfl) rfl rfl (wk_s (v' := V.b (.a (.sl 18 0 ((prof (regSet l) i).length)))) (by kernel_rfl) rfl rfl (wk_s (v' := V.v (.int .i64 ((i : Nat) : Int))) (by kernel_rfl) rfl rfl (wk_s (v' := V.v (.int .i64 (((i % 8) : Nat) : Int))) (by kernel_rfl) rfl rfl (wk_s (v' := V.p 7 0) (by kernel_rfl) rfl rfl (wk_s (v' := V.b (.a (.sl 38 0 256))) (by kernel_rfl) rfl rfl (wk_s (v' := V.v (.int .i64 (((k : Nat) : Int) + 1))) (by kernel_rfl) (vint (by rfl)) rfl (wk_o (o' := ⟨30, 1, true, [(.slv l.length 1 (isl l) : A)]⟩) (by kernel_rfl) (renob_l (fun h => h) rfl rfl) rfl (wk_o (o' := ⟨39, 2, true, [(.val (.int .i64 ((cN i).x)) : A), .val (.int .i64 ((cN i).y))]⟩) (by kernel_rfl) (renob_l (fun h => h) rfl rfl) rfl (wk_o (o' := ⟨3, 1, true, pl (isl (prof (regSet l) i))⟩) (by kernel_rfl) (renob_pl (fun h => h)) rfl (wk_o (o' := ⟨3, 1, true, pl (isl (stepT (regSet l) i (prof (regSet l) i) k))⟩) (by kernel_rfl) (renob_eq (fun h => h) (congrArg isl (by (rw [stepT_snoc, sk_d hN hS hK]; done)))) rfl (wk_f rfl (wk_f rfl (wk_f rfl (wk_f rfl (wk_f rfl (wk_f rfl (wk_f rfl (wk_f rfl (wk_f rfl (wk_nil)))))))))))))))))))))))
          · skip
            have c9 : (hasR l (cN i)) = true := by simpa using c7
            have hS : (regSet l).testBit i = true := hasR_i ho (by omega) c9
            refine wp_skip' ?_
            refine wp_seq' ?_
            refine wp_seq' ?_
            refine wp_region_t ?_
            refine wpc (step_plain rfl (acts_move (d := 77) (ltN rfl) (OpX.tmp 12 (V.v (.bool (k.testBit (i % 8))))))) (by kernel_rfl) ?_
            refine wpl_nil ?_
            refine wp_if (t := 77) ((k.testBit (i % 8))) (by kernel_rfl) (fun c10 => ?_) (fun c10 => ?_)
            · skip
              have hK : k.testBit (i % 8) = true := c10
              refine wp_seq' ?_
              refine wp_region_t ?_
              refine wpc (step_plain rfl (acts_move (d := 78) (ltN rfl) (OpX.tmp 9 (V.b (.a (.sl 38 0 256)))))) (by kernel_rfl) ?_
              refine wpc (step_plain rfl (acts_move (d := 79) (ltN rfl) (OpX.tmp 13 (V.v (.int .i64 (((andn k (2 ^ (i % 8))) : Nat) : Int)))))) (by kernel_rfl) ?_
              refine wpc (step_plain rfl (acts_move (d := 80) (ltN rfl) (OpX.tmp 9 (V.b (.a (.sl 38 0 256)))))) (by kernel_rfl) ?_
              refine wpc (step_plain rfl (acts_move (d := 81) (ltN rfl) (OpX.tmp 13 (V.v (.int .i64 (((andn k (2 ^ (i % 8))) : Nat) : Int)))))) (by kernel_rfl) ?_
              refine wpc (step_plain rfl (acts_index_sl (d := 82) (x := 80) (h := 38) (off := 0) (n := 256) (k := (andn k (2 ^ (i % 8)))) (off' := ((andn k (2 ^ (i % 8))) * 1)) (o := ⟨3, 1, true, pl (isl (stepT (regSet l) i (prof (regSet l) i) k))⟩) (ltN rfl) qC12_un_22 qC12_sz_3 (OpV.tmp 81 (.int .i64 (((andn k (2 ^ (i % 8))) : Nat) : Int))) rfl (by omega) (by (simp; done)))) (by kernel_rfl) ?_
              refine wpc (step_plain rfl (acts_load_own (d := 83) (t := 82) (h := 38) (off := ((andn k (2 ^ (i % 8))) * 1)) (o := ⟨3, 1, true, pl (isl (stepT (regSet l) i (prof (regSet l) i) k))⟩)  (x := .val (.int .i64 (gI (stepT (regSet l) i (prof (regSet l) i) k) (andn k (2 ^ (i % 8)))))) (ltN rfl) qC12_ti_3 (pl_get (isl_get1 (k := (andn k (2 ^ (i % 8)))) (by omega))))) (by kernel_rfl) ?_
              refine wpc (step_plain rfl (acts_move (d := 84) (ltN rfl) (OpX.tmp 11 (V.v (.int .i64 (gI (prof (regSet l) i) k)))))) (by kernel_rfl) ?_
              refine wpc (step_plain rfl (acts_bin (d := 85) (ltN rfl) (OpV.tmp 83 (.int .i64 (gI (stepT (regSet l) i (prof (regSet l) i) k) (andn k (2 ^ (i % 8)))))) (OpV.tmp 84 (.int .i64 (gI (prof (regSet l) i) k))) (r_add (c := ((gI (stepT (regSet l) i (prof (regSet l) i) k) (andn k (2 ^ (i % 8)))) + (gI (prof (regSet l) i) k))) (w64 (by omega) (by omega))))) (by kernel_rfl) ?_
              refine wpc (step_plain rfl (acts_index_sl (d := 86) (x := 78) (h := 38) (off := 0) (n := 256) (k := (andn k (2 ^ (i % 8)))) (off' := ((andn k (2 ^ (i % 8))) * 1)) (o := ⟨3, 1, true, pl (isl (stepT (regSet l) i (prof (regSet l) i) k))⟩) (ltN rfl) qC12_un_22 qC12_sz_3 (OpV.tmp 79 (.int .i64 (((andn k (2 ^ (i % 8))) : Nat) : Int))) rfl (by omega) (by (simp; done)))) (by kernel_rfl) ?_
              refine wpc (step_plain rfl (acts_store (t := 86) (h := 38) (off := ((andn k (2 ^ (i % 8))) * 1)) (o := ⟨3, 1, true, pl (isl (stepT (regSet l) i (prof (regSet l) i) k))⟩) (b := .a (.val (.int .i64 ((gI (stepT (regSet l) i (prof (regSet l) i) k) (andn k (2 ^ (i % 8)))) + (gI (prof (regSet l) i) k))))) (cells := pl (isl ((stepT (regSet l) i (prof (regSet l) i) k).set (andn k (2 ^ (i % 8))) ((gI (stepT (regSet l) i (prof (regSet l) i) k) (andn k (2 ^ (i % 8)))) + (gI (prof (regSet l) i) k))))) qC12_ti_3 (OpX.tmp 85 (V.v (.int .i64 ((gI (stepT (regSet l) i (prof (regSet l) i) k) (andn k (2 ^ (i % 8)))) + (gI (prof (regSet l) i) k))))) rfl (by decide) (by intro y hy; simp [B.cs] at hy; subst hy; rfl) (by simp only [pl_len, isl_len]; first | omega | assumption | exact cN_ok (by omega) | exact regSet_lt ho | (simp only [List.length_set]; omega)) (isl_put (k := (andn k (2 ^ (i % 8)))) (by omega)))) (by kernel_rfl) ?_
              refine wpl_nil ?_
              refine wp_exit' ?_
              refine wp_region_t ?_
              refine wpc (step_plain rfl (acts_move (d := 43) (ltN rfl) (OpX.tmp 10 (V.v (.int .i64 ((k : Nat) : Int)))))) (by kernel_rfl) ?_
              refine wpc (step_plain rfl (acts_bin (d := 44) (ltN rfl) (OpV.tmp 43 (.int .i64 ((k : Nat) : Int))) (OpV.const (.int .i64 1)) (r_add (c := (((k : Nat) : Int) + 1)) (w64 (by omega) (by omega))))) (by kernel_rfl) ?_
              refine wpc (step_plain rfl (acts_assign (d := 10) (ltN rfl) (OpX.tmp 44 (V.v (.int .i64 (((k : Nat) : Int) + 1)))))) (by kernel_rfl) ?_
              refine wpl_nil ?_
              exact loop_back ((k + 1)) (by show _ ≤ _; omega) (by show 256 - (k + 1) < 256 - k; omega) (weak_of id [14, 15, 33, 41, 64, 94, 98, 122, 126] (by kernel_rfl) (wk_s (v' := V.p 1 0) (by kernel_rfl) rfl rfl (wk_s (v' := V.v (.int .i64 8)) (by kernel_rfl) rfl rfl (wk_s (v' := V.b (.a (.sl 18 0 ((prof (regSet l) i).length)))) (by kernel_rfl) rfl rfl (wk_s (v' := V.v (.int .i64 ((i : Nat) : Int))) (by kernel_rfl) rfl rfl (wk_s (v' := V.v (.int .i64 (((i % 8) : Nat) : Int))) (by kernel_rfl) rfl rfl (wk_s (v' := V.p 7 0) (by kernel_rfl) rfl rfl (wk_s (v' := V.b (.a (.sl 38 0 256))) (by kernel_rfl) rfl rfl (wk_s (v' := V.v (.int .i64 (((k : Nat) : Int) + 1))) (by kernel_rfl) (vint (by rfl)) rfl (wk_o (o' := ⟨30, 1, true, [(.slv l.length 1 (isl l) : A)]⟩) (by kernel_rfl) (renob_l (fun h => h) rfl rfl) rfl (wk_o (o' := ⟨39, 2, true, [(.val (.int .i64 ((cN i).x)) : A), .val (.int .i64 ((cN i).y))]⟩) (by kernel_rfl) (renob_l (fun h => h) rfl rfl) rfl (wk_o (o' := ⟨3, 1, true, pl (isl (prof (regSet l) i))⟩) (by kernel_rfl) (renob_pl (fun h => h)) rfl (wk_o (o' := ⟨3, 1, true, pl (isl ((stepT (regSet l) i (prof (regSet l) i) k).set (andn k (2 ^ (i % 8))) ((gI (stepT (regSet l) i (prof (regSet l) i) k) (andn k (2 ^ (i % 8)))) + (gI (prof (regSet l) i) k))))⟩) (by kernel_rfl) (renob_eq (fun h => h) (congrArg isl (by (rw [stepT_snoc, sk_b hN hS hK]; first | done | rfl)))) rfl (wk_f rfl (wk_f rfl (wk_f rfl (wk_f rfl (wk_f rfl (wk_f rfl (wk_f rfl (wk_f rfl (wk_f rfl (wk_nil)))))))))))))))))))))))
            · skip
              have hK : k.testBit (i % 8) = false := c10
              exact absurd (c6.symm.trans c10) (by decide)
        · skip
          have hK : k.testBit (i % 8) = false := c6
          refine wp_skip' ?_
          refine wp_seq' ?_
          refine wp_seq' ?_
          refine wp_region_t ?_
          refine wpc (step_plain rfl (acts_load_owns (d := 62) (t := 1) (h := 1) (off := 0) (o := ⟨30, 1, true, [(.slv l.length 1 (isl l) : A)]⟩)  (xs := [(.slv l.length 1 (isl l) : A)]) (ltN rfl) qC12_ti_30 rfl (by decide) rfl)) (by kernel_rfl) ?_
          refine wpc (step_plain rfl (acts_load_owns (d := 63) (t := 7) (h := 7) (off := 0) (o := ⟨39, 2, true, [(.val (.int .i64 ((cN i).x)) : A), .val (.int .i64 ((cN i).y))]⟩)  (xs := [(.int .i64 ((cN i).x) : Value), .int .i64 ((cN i).y)].map A.val) (ltN rfl) qC12_ti_39 rfl (by decide) rfl)) (by kernel_rfl) ?_
          refine wpc (step_plain rfl (acts_call1 (d := 64) (ltN rfl) (spec_l03Has_fn l (cN i) (by omega) (by exact cN_ok (by omega))) (ArgVs.cons (ArgV.regv 62 l.length 1 (isl l)) (ArgVs.cons (ArgV.va (vs := [(.int .i64 ((cN i).x) : Value), .int .i64 ((cN i).y)]) (OpV.agg 63 [(.int .i64 ((cN i).x) : Value), .int .i64 ((cN i).y)])) (ArgVs.nil))) (ResV.val _))) (by kernel_rfl) ?_
          refine wpc (step_plain rfl (acts_un (d := 65) (ltN rfl) (OpV.tmp 64 (.bool (hasR l (cN i)))) (r_not (c := (!(hasR l (cN i)))) rfl))) (by kernel_rfl) ?_
          refine wpl_nil ?_
          refine wp_if (t := 65) ((!(hasR l (cN i)))) (by kernel_rfl) (fun c11 => ?_) (fun c11 => ?_)
          · skip
            have c12 : (hasR l (cN i)) = false := by simpa using c11
            have hS : (regSet l).testBit i = false := hasR_i ho (by omega) c12
            refine wp_seq' ?_
            refine wp_seq' ?_
            refine wp_region_t ?_
            refine wpc (step_plain rfl (acts_move (d := 66) (ltN rfl) (OpX.tmp 12 (V.v (.bool (k.testBit (i % 8))))))) (by kernel_rfl) ?_
            refine wpc (step_plain rfl (acts_un (d := 67) (ltN rfl) (OpV.tmp 66 (.bool (k.testBit (i % 8)))) (r_not (c := true) (by (rw [c6]; rfl))))) (by kernel_rfl) ?_
            refine wpl_nil ?_
            refine wp_if_t (t := 67) (by kernel_rfl) ?_
            refine wp_region_t ?_
            refine wpc (step_plain rfl (acts_move (d := 68) (ltN rfl) (OpX.tmp 9 (V.b (.a (.sl 38 0 256)))))) (by kernel_rfl) ?_
            refine wpc (step_plain rfl (acts_move (d := 69) (ltN rfl) (OpX.tmp 13 (V.v (.int .i64 ((k : Nat) : Int)))))) (by kernel_rfl) ?_
            refine wpc (step_plain rfl (acts_move (d := 70) (ltN rfl) (OpX.tmp 9 (V.b (.a (.sl 38 0 256)))))) (by kernel_rfl) ?_
            refine wpc (step_plain rfl (acts_move (d := 71) (ltN rfl) (OpX.tmp 13 (V.v (.int .i64 ((k : Nat) : Int)))))) (by kernel_rfl) ?_
            refine wpc (step_plain rfl (acts_index_sl (d := 72) (x := 70) (h := 38) (off := 0) (n := 256) (k := k) (off' := (k * 1)) (o := ⟨3, 1, true, pl (isl (stepT (regSet l) i (prof (regSet l) i) k))⟩) (ltN rfl) qC12_un_22 qC12_sz_3 (OpV.tmp 71 (.int .i64 ((k : Nat) : Int))) rfl (by omega) (by (simp; done)))) (by kernel_rfl) ?_
            refine wpc (step_plain rfl (acts_load_own (d := 73) (t := 72) (h := 38) (off := (k * 1)) (o := ⟨3, 1, true, pl (isl (stepT (regSet l) i (prof (regSet l) i) k))⟩)  (x := .val (.int .i64 (gI (stepT (regSet l) i (prof (regSet l) i) k) k))) (ltN rfl) qC12_ti_3 (pl_get (isl_get1 (k := k) (by omega))))) (by kernel_rfl) ?_
            refine wpc (step_plain rfl (acts_move (d := 74) (ltN rfl) (OpX.tmp 11 (V.v (.int .i64 (gI (prof (regSet l) i) k)))))) (by kernel_rfl) ?_
            refine wpc (step_plain rfl (acts_bin (d := 75) (ltN rfl) (OpV.tmp 73 (.int .i64 (gI (stepT (regSet l) i (prof (regSet l) i) k) k))) (OpV.tmp 74 (.int .i64 (gI (prof (regSet l) i) k))) (r_add (c := ((gI (stepT (regSet l) i (prof (regSet l) i) k) k) + (gI (prof (regSet l) i) k))) (w64 (by omega) (by omega))))) (by kernel_rfl) ?_
            refine wpc (step_plain rfl (acts_index_sl (d := 76) (x := 68) (h := 38) (off := 0) (n := 256) (k := k) (off' := (k * 1)) (o := ⟨3, 1, true, pl (isl (stepT (regSet l) i (prof (regSet l) i) k))⟩) (ltN rfl) qC12_un_22 qC12_sz_3 (OpV.tmp 69 (.int .i64 ((k : Nat) : Int))) rfl (by omega) (by (simp; done)))) (by kernel_rfl) ?_
            refine wpc (step_plain rfl (acts_store (t := 76) (h := 38) (off := (k * 1)) (o := ⟨3, 1, true, pl (isl (stepT (regSet l) i (prof (regSet l) i) k))⟩) (b := .a (.val (.int .i64 ((gI (stepT (regSet l) i (prof (regSet l) i) k) k) + (gI (prof (regSet l) i) k))))) (cells := pl (isl ((stepT (regSet l) i (prof (regSet l) i) k).set k ((gI (stepT (regSet l) i (prof (regSet l) i) k) k) + (gI (prof (regSet l) i) k))))) qC12_ti_3 (OpX.tmp 75 (V.v (.int .i64 ((gI (stepT (regSet l) i (prof (regSet l) i) k) k) + (gI (prof (regSet l) i) k))))) rfl (by decide) (by intro y hy; simp [B.cs] at hy; subst hy; rfl) (by simp only [pl_len, isl_len]; first | omega | assumption | exact cN_ok (by omega) | exact regSet_lt ho | (simp only [List.length_set]; omega)) (isl_put (k := k) (by omega)))) (by kernel_rfl) ?_
            refine wpl_nil ?_
            refine wp_exit' ?_
            refine wp_region_t ?_
            refine wpc (step_plain rfl (acts_move (d := 43) (ltN rfl) (OpX.tmp 10 (V.v (.int .i64 ((k : Nat) : Int)))))) (by kernel_rfl) ?_
            refine wpc (step_plain rfl (acts_bin (d := 44) (ltN rfl) (OpV.tmp 43 (.int .i64 ((k : Nat) : Int))) (OpV.const (.int .i64 1)) (r_add (c := (((k : Nat) : Int) + 1)) (w64 (by omega) (by omega))))) (by kernel_rfl) ?_
            refine wpc (step_plain rfl (acts_assign (d := 10) (ltN rfl) (OpX.tmp 44 (V.v (.int .i64 (((k : Nat) : Int) + 1)))))) (by kernel_rfl) ?_
            refine wpl_nil ?_
            exact loop_back ((k + 1)) (by show _ ≤ _; omega) (by show 256 - (k + 1) < 256 - k; omega) (weak_of id [14, 15, 33, 41, 64, 94, 98, 122, 126] (by kernel_rfl) (wk_s (v' := V.p 1 0) (by kernel_rfl) rfl rfl (wk_s (v' := V.v (.int .i64 8)) (by kernel_rfl) rfl rfl (wk_s (v' := V.b (.a (.sl 18 0 ((prof (regSet l) i).length)))) (by kernel_rfl) rfl rfl (wk_s (v' := V.v (.int .i64 ((i : Nat) : Int))) (by kernel_rfl) rfl rfl (wk_s (v' := V.v (.int .i64 (((i % 8) : Nat) : Int))) (by kernel_rfl) rfl rfl (wk_s (v' := V.p 7 0) (by kernel_rfl) rfl rfl (wk_s (v' := V.b (.a (.sl 38 0 256))) (by kernel_rfl) rfl rfl (wk_s (v' := V.v (.int .i64 (((k : Nat) : Int) + 1))) (by kernel_rfl) (vint (by rfl)) rfl (wk_o (o' := ⟨30, 1, true, [(.slv l.length 1 (isl l) : A)]⟩) (by kernel_rfl) (renob_l (fun h => h) rfl rfl) rfl (wk_o (o' := ⟨39, 2, true, [(.val (.int .i64 ((cN i).x)) : A), .val (.int .i64 ((cN i).y))]⟩) (by kernel_rfl) (renob_l (fun h => h) rfl rfl) rfl (wk_o (o' := ⟨3, 1, true, pl (isl (prof (regSet l) i))⟩) (by kernel_rfl) (renob_pl (fun h => h)) rfl (wk_o (o' := ⟨3, 1, true, pl (isl ((stepT (regSet l) i (prof (regSet l) i) k).set k ((gI (stepT (regSet l) i (prof (regSet l) i) k) k) + (gI (prof (regSet l) i) k))))⟩) (by kernel_rfl) (renob_eq (fun h => h) (congrArg isl (by (rw [stepT_snoc, sk_a hN hS hK]; first | done | rfl)))) rfl (wk_f rfl (wk_f rfl (wk_f rfl (wk_f rfl (wk_f rfl (wk_f rfl (wk_f rfl (wk_f rfl (wk_f rfl (wk_nil)))))))))))))))))))))))
          · skip
            have c13 : (hasR l (cN i)) = true := by simpa using c11
            have hS : (regSet l).testBit i = true := hasR_i ho (by omega) c13
            refine wp_skip' ?_
            refine wp_seq' ?_
            refine wp_seq' ?_
            refine wp_region_t ?_
            refine wpc (step_plain rfl (acts_move (d := 77) (ltN rfl) (OpX.tmp 12 (V.v (.bool (k.testBit (i % 8))))))) (by kernel_rfl) ?_
            refine wpl_nil ?_
            refine wp_if (t := 77) ((k.testBit (i % 8))) (by kernel_rfl) (fun c14 => ?_) (fun c14 => ?_)
            · skip
              have hK : k.testBit (i % 8) = true := c14
              exact absurd (c6.symm.trans c14) (by decide)
            · skip
              have hK : k.testBit (i % 8) = false := c14
              refine wp_skip' ?_
              refine wp_seq' ?_
              refine wp_region_t ?_
              refine wpc (step_plain rfl (acts_field (d := 87) (t := 7) (h := 7) (off := 0) (off' := 0) (ltN rfl) qC12_fo_39_0 rfl)) (by kernel_rfl) ?_
              refine wpc (step_plain rfl (acts_load_own (d := 88) (t := 87) (h := 7) (off := 0) (o := ⟨39, 2, true, [(.val (.int .i64 ((cN i).x)) : A), .val (.int .i64 ((cN i).y))]⟩)  (x := .val (.int .i64 ((cN i).x))) (ltN rfl) qC12_ti_3 rfl)) (by kernel_rfl) ?_
              refine wpc (step_plain rfl (acts_field (d := 89) (t := 7) (h := 7) (off := 0) (off' := 1) (ltN rfl) qC12_fo_39_1 rfl)) (by kernel_rfl) ?_
              refine wpc (step_plain rfl (acts_load_own (d := 90) (t := 89) (h := 7) (off := 1) (o := ⟨39, 2, true, [(.val (.int .i64 ((cN i).x)) : A), .val (.int .i64 ((cN i).y))]⟩)  (x := .val (.int .i64 ((cN i).y))) (ltN rfl) qC12_ti_3 rfl)) (by kernel_rfl) ?_
              refine wpc (step_plain rfl (acts_bin (d := 91) (ltN rfl) (OpV.tmp 90 (.int .i64 ((cN i).y))) (OpV.const (.int .i64 1)) (r_add (c := ((cN i).y + 1)) (w64 (by omega) (by omega))))) (by kernel_rfl) ?_
              refine wpc (step_plain rfl (acts_build (d := 92) (t := 39) (cells := [(.int .i64 ((cN i).x) : Value), .int .i64 ((cN i).y + 1)]) (ltN rfl) (OpVs.cons (i := 0) (OpV.tmp 88 (.int .i64 ((cN i).x))) (OpVs.cons (i := 1) (OpV.tmp 91 (.int .i64 ((cN i).y + 1))) (OpVs.nil))) rfl)) (by kernel_rfl) ?_
              refine wpc (step_plain rfl (acts_alloc' (d := 14) (h := 14) (cap := 1) (s := 2) (cells := [(.val (.int .i64 0) : A), .val (.int .i64 0)]) (ltN rfl) qC12_zi_39 rfl rfl (by decide))) (by kernel_rfl) ?_
              refine wpc (step_plain rfl (acts_store (t := 14) (h := 14) (off := 0) (o := ⟨39, 2, true, [(.val (.int .i64 0) : A), .val (.int .i64 0)]⟩) (b := .agg ([(.int .i64 ((cN i).x) : Value), .int .i64 ((cN i).y + 1)].map A.val)) (cells := [(.val (.int .i64 ((cN i).x)) : A), .val (.int .i64 ((cN i).y + 1))]) qC12_ti_39 (OpX.tmp 92 (V.av [(.int .i64 ((cN i).x) : Value), .int .i64 ((cN i).y + 1)])) rfl (by decide) (by intro y hy; simp [B.cs] at hy; rcases hy with rfl | rfl <;> rfl) (Nat.le_of_ble_eq_true rfl) rfl)) (by kernel_rfl) ?_
              refine wpl_nil ?_
              refine wp_seq' ?_
              refine wp_seq' ?_
              rcases Bool.eq_false_or_eq_true ((okc ((cN i).x) ((cN i).y + 1))) with c15 | c15
              · skip
                have hO1 := c15
                refine wp_region_t ?_
                refine wpc (step_plain rfl (acts_load_owns (d := 93) (t := 14) (h := 14) (off := 0) (o := ⟨39, 2, true, [(.val (.int .i64 ((cN i).x)) : A), .val (.int .i64 ((cN i).y + 1))]⟩)  (xs := [(.int .i64 ((cN i).x) : Value), .int .i64 ((cN i).y + 1)].map A.val) (ltN rfl) qC12_ti_39 rfl (by decide) rfl)) (by kernel_rfl) ?_
                refine wpc (step_plain rfl (acts_call1 (d := 94) (ltN rfl) (spec_CellOk_fn (⟨(cN i).x, ((cN i).y + 1)⟩ : Cel) ) (ArgVs.cons (ArgV.va (vs := [(.int .i64 ((cN i).x) : Value), .int .i64 ((cN i).y + 1)]) (OpV.agg 93 [(.int .i64 ((cN i).x) : Value), .int .i64 ((cN i).y + 1)])) (ArgVs.nil)) ((resval (congrArg Value.bool c15))))) (by kernel_rfl) ?_
                refine wpc (step_plain rfl (acts_move (d := 95) (ltN rfl) (OpX.tmp 94 (V.v (.bool true))))) (by kernel_rfl) ?_
                refine wpc (step_on (dj := 95) rfl rfl (acts_load_owns (d := 96) (t := 1) (h := 1) (off := 0) (o := ⟨30, 1, true, [(.slv l.length 1 (isl l) : A)]⟩)  (xs := [(.slv l.length 1 (isl l) : A)]) (ltN rfl) qC12_ti_30 rfl (by decide) rfl)) (by kernel_rfl) ?_
                refine wpc (step_on (dj := 95) rfl rfl (acts_load_owns (d := 97) (t := 14) (h := 14) (off := 0) (o := ⟨39, 2, true, [(.val (.int .i64 ((cN i).x)) : A), .val (.int .i64 ((cN i).y + 1))]⟩)  (xs := [(.int .i64 ((cN i).x) : Value), .int .i64 ((cN i).y + 1)].map A.val) (ltN rfl) qC12_ti_39 rfl (by decide) rfl)) (by kernel_rfl) ?_
                refine wpc (step_on (dj := 95) rfl rfl (acts_call1 (d := 98) (ltN rfl) (spec_l03Has_fn l (⟨(cN i).x, ((cN i).y + 1)⟩ : Cel) (by omega) (by omega)) (ArgVs.cons (ArgV.regv 96 l.length 1 (isl l)) (ArgVs.cons (ArgV.va (vs := [(.int .i64 ((cN i).x) : Value), .int .i64 ((cN i).y + 1)]) (OpV.agg 97 [(.int .i64 ((cN i).x) : Value), .int .i64 ((cN i).y + 1)])) (ArgVs.nil))) (ResV.val _))) (by kernel_rfl) ?_
                refine wpc (step_plain rfl (acts_pick_t (d := 99) (ltN rfl) (OpV.tmp 95 (.bool true)) (OpX.tmp 98 (V.v (.bool (hasR l (⟨(cN i).x, ((cN i).y + 1)⟩ : Cel))))))) (by kernel_rfl) ?_
                refine wpl_nil ?_
                refine wp_if (t := 99) ((hasR l (⟨(cN i).x, ((cN i).y + 1)⟩ : Cel))) (by kernel_rfl) (fun c16 => ?_) (fun c16 => ?_)
                · skip
                  have hD : dnB (regSet l) i = true := dn_okR ho (by omega) hO1 c16
                  refine wp_drawn' (by kernel_rfl) (AllSteps.cons (step_plain rfl (acts_move (d := 100) (ltN rfl) (OpX.tmp 9 (V.b (.a (.sl 38 0 256)))))) (AllSteps.cons (step_plain rfl (acts_move (d := 101) (ltN rfl) (OpX.tmp 10 (V.v (.int .i64 ((k : Nat) : Int)))))) (AllSteps.cons (step_plain rfl (acts_move (d := 102) (ltN rfl) (OpX.tmp 6 (V.v (.int .i64 (((i % 8) : Nat) : Int)))))) (AllSteps.cons (step_plain rfl (acts_bin (d := 103) (ltN rfl) (OpV.const (.int .i64 1)) (OpV.tmp 102 (.int .i64 (((i % 8) : Nat) : Int))) (r_shl (c := (((2 ^ (i % 8)) : Nat) : Int)) (by omega) (shl1I (n := (i % 8)) rfl (by omega))))) (AllSteps.cons (step_plain rfl (acts_bin (d := 104) (ltN rfl) (OpV.tmp 101 (.int .i64 ((k : Nat) : Int))) (OpV.tmp 103 (.int .i64 (((2 ^ (i % 8)) : Nat) : Int))) (r_or (c := (((k ||| (2 ^ (i % 8))) : Nat) : Int)) (orI (m := k) (n := (2 ^ (i % 8))) rfl rfl (by omega) (by omega))))) (AllSteps.cons (step_plain rfl (acts_move (d := 105) (ltN rfl) (OpX.tmp 9 (V.b (.a (.sl 38 0 256)))))) (AllSteps.cons (step_plain rfl (acts_move (d := 106) (ltN rfl) (OpX.tmp 10 (V.v (.int .i64 ((k : Nat) : Int)))))) (AllSteps.cons (step_plain rfl (acts_move (d := 107) (ltN rfl) (OpX.tmp 6 (V.v (.int .i64 (((i % 8) : Nat) : Int)))))) (AllSteps.cons (step_plain rfl (acts_bin (d := 108) (ltN rfl) (OpV.const (.int .i64 1)) (OpV.tmp 107 (.int .i64 (((i % 8) : Nat) : Int))) (r_shl (c := (((2 ^ (i % 8)) : Nat) : Int)) (by omega) (shl1I (n := (i % 8)) rfl (by omega))))) (AllSteps.cons (step_plain rfl (acts_bin (d := 109) (ltN rfl) (OpV.tmp 106 (.int .i64 ((k : Nat) : Int))) (OpV.tmp 108 (.int .i64 (((2 ^ (i % 8)) : Nat) : Int))) (r_or (c := (((k ||| (2 ^ (i % 8))) : Nat) : Int)) (orI (m := k) (n := (2 ^ (i % 8))) rfl rfl (by omega) (by omega))))) (AllSteps.cons (step_plain rfl (acts_index_sl (d := 110) (x := 105) (h := 38) (off := 0) (n := 256) (k := (k ||| (2 ^ (i % 8)))) (off' := ((k ||| (2 ^ (i % 8))) * 1)) (o := ⟨3, 1, true, pl (isl (stepT (regSet l) i (prof (regSet l) i) k))⟩) (ltN rfl) qC12_un_22 qC12_sz_3 (OpV.tmp 109 (.int .i64 (((k ||| (2 ^ (i % 8))) : Nat) : Int))) rfl (by omega) (by (simp; done)))) (AllSteps.cons (step_plain rfl (acts_load_own (d := 111) (t := 110) (h := 38) (off := ((k ||| (2 ^ (i % 8))) * 1)) (o := ⟨3, 1, true, pl (isl (stepT (regSet l) i (prof (regSet l) i) k))⟩)  (x := .val (.int .i64 (gI (stepT (regSet l) i (prof (regSet l) i) k) (k ||| (2 ^ (i % 8)))))) (ltN rfl) qC12_ti_3 (pl_get (isl_get1 (k := (k ||| (2 ^ (i % 8)))) (by omega))))) (AllSteps.cons (step_plain rfl (acts_move (d := 112) (ltN rfl) (OpX.tmp 11 (V.v (.int .i64 (gI (prof (regSet l) i) k)))))) (AllSteps.cons (step_plain rfl (acts_bin (d := 113) (ltN rfl) (OpV.tmp 111 (.int .i64 (gI (stepT (regSet l) i (prof (regSet l) i) k) (k ||| (2 ^ (i % 8)))))) (OpV.tmp 112 (.int .i64 (gI (prof (regSet l) i) k))) (r_add (c := ((gI (stepT (regSet l) i (prof (regSet l) i) k) (k ||| (2 ^ (i % 8)))) + (gI (prof (regSet l) i) k))) (w64 (by omega) (by omega))))) (AllSteps.cons (step_plain rfl (acts_index_sl (d := 114) (x := 100) (h := 38) (off := 0) (n := 256) (k := (k ||| (2 ^ (i % 8)))) (off' := ((k ||| (2 ^ (i % 8))) * 1)) (o := ⟨3, 1, true, pl (isl (stepT (regSet l) i (prof (regSet l) i) k))⟩) (ltN rfl) qC12_un_22 qC12_sz_3 (OpV.tmp 104 (.int .i64 (((k ||| (2 ^ (i % 8))) : Nat) : Int))) rfl (by omega) (by (simp; done)))) (AllSteps.cons (step_plain rfl (acts_store (t := 114) (h := 38) (off := ((k ||| (2 ^ (i % 8))) * 1)) (o := ⟨3, 1, true, pl (isl (stepT (regSet l) i (prof (regSet l) i) k))⟩) (b := .a (.val (.int .i64 ((gI (stepT (regSet l) i (prof (regSet l) i) k) (k ||| (2 ^ (i % 8)))) + (gI (prof (regSet l) i) k))))) (cells := pl (isl ((stepT (regSet l) i (prof (regSet l) i) k).set (k ||| (2 ^ (i % 8))) ((gI (stepT (regSet l) i (prof (regSet l) i) k) (k ||| (2 ^ (i % 8)))) + (gI (prof (regSet l) i) k))))) qC12_ti_3 (OpX.tmp 113 (V.v (.int .i64 ((gI (stepT (regSet l) i (prof (regSet l) i) k) (k ||| (2 ^ (i % 8)))) + (gI (prof (regSet l) i) k))))) rfl (by decide) (by intro y hy; simp [B.cs] at hy; subst hy; rfl) (by simp only [pl_len, isl_len]; first | omega | assumption | exact cN_ok (by omega) | exact regSet_lt ho | (simp only [List.length_set]; omega)) (isl_put (k := (k ||| (2 ^ (i % 8)))) (by omega)))) (AllSteps.nil))))))))))))))))) (by kernel_rfl) (by kernel_rfl) (by kernel_rfl) ?_
                  refine wp_seq' ?_
                  refine wp_region_t ?_
                  refine wpc (step_plain rfl (acts_field (d := 115) (t := 7) (h := 7) (off := 0) (off' := 0) (ltN rfl) qC12_fo_39_0 rfl)) (by kernel_rfl) ?_
                  refine wpc (step_plain rfl (acts_load_own (d := 116) (t := 115) (h := 7) (off := 0) (o := ⟨39, 2, true, [(.val (.int .i64 ((cN i).x)) : A), .val (.int .i64 ((cN i).y))]⟩)  (x := .val (.int .i64 ((cN i).x))) (ltN rfl) qC12_ti_3 rfl)) (by kernel_rfl) ?_
                  refine wpc (step_plain rfl (acts_bin (d := 117) (ltN rfl) (OpV.tmp 116 (.int .i64 ((cN i).x))) (OpV.const (.int .i64 1)) (r_add (c := ((cN i).x + 1)) (w64 (by omega) (by omega))))) (by kernel_rfl) ?_
                  refine wpc (step_plain rfl (acts_field (d := 118) (t := 7) (h := 7) (off := 0) (off' := 1) (ltN rfl) qC12_fo_39_1 rfl)) (by kernel_rfl) ?_
                  refine wpc (step_plain rfl (acts_load_own (d := 119) (t := 118) (h := 7) (off := 1) (o := ⟨39, 2, true, [(.val (.int .i64 ((cN i).x)) : A), .val (.int .i64 ((cN i).y))]⟩)  (x := .val (.int .i64 ((cN i).y))) (ltN rfl) qC12_ti_3 rfl)) (by kernel_rfl) ?_
                  refine wpc (step_plain rfl (acts_build (d := 120) (t := 39) (cells := [(.int .i64 ((cN i).x + 1) : Value), .int .i64 ((cN i).y)]) (ltN rfl) (OpVs.cons (i := 0) (OpV.tmp 117 (.int .i64 ((cN i).x + 1))) (OpVs.cons (i := 1) (OpV.tmp 119 (.int .i64 ((cN i).y))) (OpVs.nil))) rfl)) (by kernel_rfl) ?_
                  refine wpc (step_plain rfl (acts_alloc' (d := 15) (h := 15) (cap := 1) (s := 2) (cells := [(.val (.int .i64 0) : A), .val (.int .i64 0)]) (ltN rfl) qC12_zi_39 rfl rfl (by decide))) (by kernel_rfl) ?_
                  refine wpc (step_plain rfl (acts_store (t := 15) (h := 15) (off := 0) (o := ⟨39, 2, true, [(.val (.int .i64 0) : A), .val (.int .i64 0)]⟩) (b := .agg ([(.int .i64 ((cN i).x + 1) : Value), .int .i64 ((cN i).y)].map A.val)) (cells := [(.val (.int .i64 ((cN i).x + 1)) : A), .val (.int .i64 ((cN i).y))]) qC12_ti_39 (OpX.tmp 120 (V.av [(.int .i64 ((cN i).x + 1) : Value), .int .i64 ((cN i).y)])) rfl (by decide) (by intro y hy; simp [B.cs] at hy; rcases hy with rfl | rfl <;> rfl) (Nat.le_of_ble_eq_true rfl) rfl)) (by kernel_rfl) ?_
                  refine wpl_nil ?_
                  refine wp_seq' ?_
                  rcases Bool.eq_false_or_eq_true ((okc ((cN i).x + 1) ((cN i).y))) with c17 | c17
                  · skip
                    have hO2 := c17
                    rcases Bool.eq_false_or_eq_true ((hasR l (⟨((cN i).x + 1), (cN i).y⟩ : Cel))) with c18 | c18
                    · skip
                      have hR : rtB (regSet l) i = true := rt_okR ho (by omega) hO2 c18
                      have hr7 := rt_lt hR
                      have ho2 : (k ||| 2 ^ (i % 8 + 1)) < 256 := or_lt (by omega) hr7
                      have hb3 := hbt _ ho2
                      have hb4 := rt_bd2 (s := regSet l) (i := i) (k := k) (by omega) (by omega) hR
                      unfold putI at hb4
                      refine wp_region_t ?_
                      refine wpc (step_plain rfl (acts_load_owns (d := 121) (t := 15) (h := 15) (off := 0) (o := ⟨39, 2, true, [(.val (.int .i64 ((cN i).x + 1)) : A), .val (.int .i64 ((cN i).y))]⟩)  (xs := [(.int .i64 ((cN i).x + 1) : Value), .int .i64 ((cN i).y)].map A.val) (ltN rfl) qC12_ti_39 rfl (by decide) rfl)) (by kernel_rfl) ?_
                      refine wpc (step_plain rfl (acts_call1 (d := 122) (ltN rfl) (spec_CellOk_fn (⟨((cN i).x + 1), (cN i).y⟩ : Cel) ) (ArgVs.cons (ArgV.va (vs := [(.int .i64 ((cN i).x + 1) : Value), .int .i64 ((cN i).y)]) (OpV.agg 121 [(.int .i64 ((cN i).x + 1) : Value), .int .i64 ((cN i).y)])) (ArgVs.nil)) ((resval (congrArg Value.bool c17))))) (by kernel_rfl) ?_
                      refine wpc (step_plain rfl (acts_move (d := 123) (ltN rfl) (OpX.tmp 122 (V.v (.bool true))))) (by kernel_rfl) ?_
                      refine wpc (step_on (dj := 123) rfl rfl (acts_load_owns (d := 124) (t := 1) (h := 1) (off := 0) (o := ⟨30, 1, true, [(.slv l.length 1 (isl l) : A)]⟩)  (xs := [(.slv l.length 1 (isl l) : A)]) (ltN rfl) qC12_ti_30 rfl (by decide) rfl)) (by kernel_rfl) ?_
                      refine wpc (step_on (dj := 123) rfl rfl (acts_load_owns (d := 125) (t := 15) (h := 15) (off := 0) (o := ⟨39, 2, true, [(.val (.int .i64 ((cN i).x + 1)) : A), .val (.int .i64 ((cN i).y))]⟩)  (xs := [(.int .i64 ((cN i).x + 1) : Value), .int .i64 ((cN i).y)].map A.val) (ltN rfl) qC12_ti_39 rfl (by decide) rfl)) (by kernel_rfl) ?_
                      refine wpc (step_on (dj := 123) rfl rfl (acts_call1 (d := 126) (ltN rfl) (spec_l03Has_fn l (⟨((cN i).x + 1), (cN i).y⟩ : Cel) (by omega) (by omega)) (ArgVs.cons (ArgV.regv 124 l.length 1 (isl l)) (ArgVs.cons (ArgV.va (vs := [(.int .i64 ((cN i).x + 1) : Value), .int .i64 ((cN i).y)]) (OpV.agg 125 [(.int .i64 ((cN i).x + 1) : Value), .int .i64 ((cN i).y)])) (ArgVs.nil))) ((resval (congrArg Value.bool c18))))) (by kernel_rfl) ?_
                      refine wpc (step_plain rfl (acts_pick_t (d := 127) (ltN rfl) (OpV.tmp 123 (.bool true)) (OpX.tmp 126 (V.v (.bool true))))) (by kernel_rfl) ?_
                      refine wpc (step_plain rfl (acts_move (d := 128) (ltN rfl) (OpX.tmp 127 (V.v (.bool true))))) (by kernel_rfl) ?_
                      refine wpc (step_on (dj := 128) rfl rfl (acts_move (d := 129) (ltN rfl) (OpX.tmp 10 (V.v (.int .i64 ((k : Nat) : Int)))))) (by kernel_rfl) ?_
                      refine wpc (step_on (dj := 128) rfl rfl (acts_move (d := 130) (ltN rfl) (OpX.tmp 6 (V.v (.int .i64 (((i % 8) : Nat) : Int)))))) (by kernel_rfl) ?_
                      refine wpc (step_on (dj := 128) rfl rfl (acts_bin (d := 131) (ltN rfl) (OpV.tmp 130 (.int .i64 (((i % 8) : Nat) : Int))) (OpV.const (.int .i64 1)) (r_add (c := ((((i % 8) : Nat) : Int) + 1)) (w64 (by omega) (by omega))))) (by kernel_rfl) ?_
                      refine wpc (step_on (dj := 128) rfl rfl (acts_bin (d := 132) (ltN rfl) (OpV.tmp 129 (.int .i64 ((k : Nat) : Int))) (OpV.tmp 131 (.int .i64 ((((i % 8) : Nat) : Int) + 1))) (r_shr (c := (((k >>> ((i % 8) + 1)) : Nat) : Int)) (by omega) (shrU (m := k) (n := ((i % 8) + 1)) rfl (by rfl) (by omega) rfl)))) (by kernel_rfl) ?_
                      refine wpc (step_on (dj := 128) rfl rfl (acts_bin (d := 133) (ltN rfl) (OpV.tmp 132 (.int .i64 (((k >>> ((i % 8) + 1)) : Nat) : Int))) (OpV.const (.int .i64 1)) (r_and (c := ((((k >>> ((i % 8) + 1)) &&& 1) : Nat) : Int)) (andI (m := (k >>> ((i % 8) + 1))) (n := 1) rfl rfl (by exact Nat.lt_of_le_of_lt (shr_le _ _) (by first | omega | assumption | (first | omega | assumption | exact cN_ok (by omega) | exact regSet_lt ho | (simp only [List.length_set]; omega)))) (by omega))))) (by kernel_rfl) ?_
                      refine wpc (step_on (dj := 128) rfl rfl (acts_bin (d := 134) (ltN rfl) (OpV.tmp 133 (.int .i64 ((((k >>> ((i % 8) + 1)) &&& 1) : Nat) : Int))) (OpV.const (.int .i64 0)) (r_eql (c := (!(k.testBit ((i % 8) + 1)))) (bit_zero _ _)))) (by kernel_rfl) ?_
                      refine wpc (step_plain rfl (acts_pick_t (d := 135) (ltN rfl) (OpV.tmp 128 (.bool true)) (OpX.tmp 134 (V.v (.bool (!(k.testBit ((i % 8) + 1)))))))) (by kernel_rfl) ?_
                      refine wpl_nil ?_
                      refine wp_if (t := 135) ((!(k.testBit ((i % 8) + 1)))) (by kernel_rfl) (fun c19 => ?_) (fun c19 => ?_)
                      · skip
                        have c20 : (k.testBit ((i % 8) + 1)) = false := by simpa using c19
                        have hK1 : k.testBit (i % 8 + 1) = false := c20
                        refine wp_drawn' (by kernel_rfl) (AllSteps.cons (step_plain rfl (acts_move (d := 136) (ltN rfl) (OpX.tmp 9 (V.b (.a (.sl 38 0 256)))))) (AllSteps.cons (step_plain rfl (acts_move (d := 137) (ltN rfl) (OpX.tmp 10 (V.v (.int .i64 ((k : Nat) : Int)))))) (AllSteps.cons (step_plain rfl (acts_move (d := 138) (ltN rfl) (OpX.tmp 6 (V.v (.int .i64 (((i % 8) : Nat) : Int)))))) (AllSteps.cons (step_plain rfl (acts_bin (d := 139) (ltN rfl) (OpV.tmp 138 (.int .i64 (((i % 8) : Nat) : Int))) (OpV.const (.int .i64 1)) (r_add (c := ((((i % 8) : Nat) : Int) + 1)) (w64 (by omega) (by omega))))) (AllSteps.cons (step_plain rfl (acts_bin (d := 140) (ltN rfl) (OpV.const (.int .i64 1)) (OpV.tmp 139 (.int .i64 ((((i % 8) : Nat) : Int) + 1))) (r_shl (c := (((2 ^ ((i % 8) + 1)) : Nat) : Int)) (by omega) (shl1I (n := ((i % 8) + 1)) (by rfl) (by omega))))) (AllSteps.cons (step_plain rfl (acts_bin (d := 141) (ltN rfl) (OpV.tmp 137 (.int .i64 ((k : Nat) : Int))) (OpV.tmp 140 (.int .i64 (((2 ^ ((i % 8) + 1)) : Nat) : Int))) (r_or (c := (((k ||| (2 ^ ((i % 8) + 1))) : Nat) : Int)) (orI (m := k) (n := (2 ^ ((i % 8) + 1))) rfl rfl (by omega) (by omega))))) (AllSteps.cons (step_plain rfl (acts_move (d := 142) (ltN rfl) (OpX.tmp 9 (V.b (.a (.sl 38 0 256)))))) (AllSteps.cons (step_plain rfl (acts_move (d := 143) (ltN rfl) (OpX.tmp 10 (V.v (.int .i64 ((k : Nat) : Int)))))) (AllSteps.cons (step_plain rfl (acts_move (d := 144) (ltN rfl) (OpX.tmp 6 (V.v (.int .i64 (((i % 8) : Nat) : Int)))))) (AllSteps.cons (step_plain rfl (acts_bin (d := 145) (ltN rfl) (OpV.tmp 144 (.int .i64 (((i % 8) : Nat) : Int))) (OpV.const (.int .i64 1)) (r_add (c := ((((i % 8) : Nat) : Int) + 1)) (w64 (by omega) (by omega))))) (AllSteps.cons (step_plain rfl (acts_bin (d := 146) (ltN rfl) (OpV.const (.int .i64 1)) (OpV.tmp 145 (.int .i64 ((((i % 8) : Nat) : Int) + 1))) (r_shl (c := (((2 ^ ((i % 8) + 1)) : Nat) : Int)) (by omega) (shl1I (n := ((i % 8) + 1)) (by rfl) (by omega))))) (AllSteps.cons (step_plain rfl (acts_bin (d := 147) (ltN rfl) (OpV.tmp 143 (.int .i64 ((k : Nat) : Int))) (OpV.tmp 146 (.int .i64 (((2 ^ ((i % 8) + 1)) : Nat) : Int))) (r_or (c := (((k ||| (2 ^ ((i % 8) + 1))) : Nat) : Int)) (orI (m := k) (n := (2 ^ ((i % 8) + 1))) rfl rfl (by omega) (by omega))))) (AllSteps.cons (step_plain rfl (acts_index_sl (d := 148) (x := 142) (h := 38) (off := 0) (n := 256) (k := (k ||| (2 ^ ((i % 8) + 1)))) (off' := ((k ||| (2 ^ ((i % 8) + 1))) * 1)) (o := ⟨3, 1, true, pl (isl ((stepT (regSet l) i (prof (regSet l) i) k).set (k ||| (2 ^ (i % 8))) ((gI (stepT (regSet l) i (prof (regSet l) i) k) (k ||| (2 ^ (i % 8)))) + (gI (prof (regSet l) i) k))))⟩) (ltN rfl) qC12_un_22 qC12_sz_3 (OpV.tmp 147 (.int .i64 (((k ||| (2 ^ ((i % 8) + 1))) : Nat) : Int))) rfl (by omega) (by (simp; done)))) (AllSteps.cons (step_plain rfl (acts_load_own (d := 149) (t := 148) (h := 38) (off := ((k ||| (2 ^ ((i % 8) + 1))) * 1)) (o := ⟨3, 1, true, pl (isl ((stepT (regSet l) i (prof (regSet l) i) k).set (k ||| (2 ^ (i % 8))) ((gI (stepT (regSet l) i (prof (regSet l) i) k) (k ||| (2 ^ (i % 8)))) + (gI (prof (regSet l) i) k))))⟩)  (x := .val (.int .i64 (gI ((stepT (regSet l) i (prof (regSet l) i) k).set (k ||| (2 ^ (i % 8))) ((gI (stepT (regSet l) i (prof (regSet l) i) k) (k ||| (2 ^ (i % 8)))) + (gI (prof (regSet l) i) k))) (k ||| (2 ^ ((i % 8) + 1)))))) (ltN rfl) qC12_ti_3 (pl_get (isl_get1 (k := (k ||| (2 ^ ((i % 8) + 1)))) (by (simp only [List.length_set]; omega)))))) (AllSteps.cons (step_plain rfl (acts_move (d := 150) (ltN rfl) (OpX.tmp 11 (V.v (.int .i64 (gI (prof (regSet l) i) k)))))) (AllSteps.cons (step_plain rfl (acts_bin (d := 151) (ltN rfl) (OpV.tmp 149 (.int .i64 (gI ((stepT (regSet l) i (prof (regSet l) i) k).set (k ||| (2 ^ (i % 8))) ((gI (stepT (regSet l) i (prof (regSet l) i) k) (k ||| (2 ^ (i % 8)))) + (gI (prof (regSet l) i) k))) (k ||| (2 ^ ((i % 8) + 1)))))) (OpV.tmp 150 (.int .i64 (gI (prof (regSet l) i) k))) (r_add (c := ((gI ((stepT (regSet l) i (prof (regSet l) i) k).set (k ||| (2 ^ (i % 8))) ((gI (stepT (regSet l) i (prof (regSet l) i) k) (k ||| (2 ^ (i % 8)))) + (gI (prof (regSet l) i) k))) (k ||| (2 ^ ((i % 8) + 1)))) + (gI (prof (regSet l) i) k))) (w64 (by omega) (by omega))))) (AllSteps.cons (step_plain rfl (acts_index_sl (d := 152) (x := 136) (h := 38) (off := 0) (n := 256) (k := (k ||| (2 ^ ((i % 8) + 1)))) (off' := ((k ||| (2 ^ ((i % 8) + 1))) * 1)) (o := ⟨3, 1, true, pl (isl ((stepT (regSet l) i (prof (regSet l) i) k).set (k ||| (2 ^ (i % 8))) ((gI (stepT (regSet l) i (prof (regSet l) i) k) (k ||| (2 ^ (i % 8)))) + (gI (prof (regSet l) i) k))))⟩) (ltN rfl) qC12_un_22 qC12_sz_3 (OpV.tmp 141 (.int .i64 (((k ||| (2 ^ ((i % 8) + 1))) : Nat) : Int))) rfl (by omega) (by (simp; done)))) (AllSteps.cons (step_plain rfl (acts_store (t := 152) (h := 38) (off := ((k ||| (2 ^ ((i % 8) + 1))) * 1)) (o := ⟨3, 1, true, pl (isl ((stepT (regSet l) i (prof (regSet l) i) k).set (k ||| (2 ^ (i % 8))) ((gI (stepT (regSet l) i (prof (regSet l) i) k) (k ||| (2 ^ (i % 8)))) + (gI (prof (regSet l) i) k))))⟩) (b := .a (.val (.int .i64 ((gI ((stepT (regSet l) i (prof (regSet l) i) k).set (k ||| (2 ^ (i % 8))) ((gI (stepT (regSet l) i (prof (regSet l) i) k) (k ||| (2 ^ (i % 8)))) + (gI (prof (regSet l) i) k))) (k ||| (2 ^ ((i % 8) + 1)))) + (gI (prof (regSet l) i) k))))) (cells := pl (isl (((stepT (regSet l) i (prof (regSet l) i) k).set (k ||| (2 ^ (i % 8))) ((gI (stepT (regSet l) i (prof (regSet l) i) k) (k ||| (2 ^ (i % 8)))) + (gI (prof (regSet l) i) k))).set (k ||| (2 ^ ((i % 8) + 1))) ((gI ((stepT (regSet l) i (prof (regSet l) i) k).set (k ||| (2 ^ (i % 8))) ((gI (stepT (regSet l) i (prof (regSet l) i) k) (k ||| (2 ^ (i % 8)))) + (gI (prof (regSet l) i) k))) (k ||| (2 ^ ((i % 8) + 1)))) + (gI (prof (regSet l) i) k))))) qC12_ti_3 (OpX.tmp 151 (V.v (.int .i64 ((gI ((stepT (regSet l) i (prof (regSet l) i) k).set (k ||| (2 ^ (i % 8))) ((gI (stepT (regSet l) i (prof (regSet l) i) k) (k ||| (2 ^ (i % 8)))) + (gI (prof (regSet l) i) k))) (k ||| (2 ^ ((i % 8) + 1)))) + (gI (prof (regSet l) i) k))))) rfl (by decide) (by intro y hy; simp [B.cs] at hy; subst hy; rfl) (by simp only [pl_len, isl_len]; first | omega | assumption | exact cN_ok (by omega) | exact regSet_lt ho | (simp only [List.length_set]; omega)) (isl_put (k := (k ||| (2 ^ ((i % 8) + 1)))) (by (simp only [List.length_set]; omega))))) (AllSteps.nil))))))))))))))))))) (by kernel_rfl) (by kernel_rfl) (by kernel_rfl) ?_
                        refine wp_region_t ?_
                        refine wpc (step_plain rfl (acts_move (d := 43) (ltN rfl) (OpX.tmp 10 (V.v (.int .i64 ((k : Nat) : Int)))))) (by kernel_rfl) ?_
                        refine wpc (step_plain rfl (acts_bin (d := 44) (ltN rfl) (OpV.tmp 43 (.int .i64 ((k : Nat) : Int))) (OpV.const (.int .i64 1)) (r_add (c := (((k : Nat) : Int) + 1)) (w64 (by omega) (by omega))))) (by kernel_rfl) ?_
                        refine wpc (step_plain rfl (acts_assign (d := 10) (ltN rfl) (OpX.tmp 44 (V.v (.int .i64 (((k : Nat) : Int) + 1)))))) (by kernel_rfl) ?_
                        refine wpl_nil ?_
                        exact loop_back ((k + 1)) (by show _ ≤ _; omega) (by show 256 - (k + 1) < 256 - k; omega) (weak_of id [14, 15, 33, 41, 64, 94, 98, 122, 126] (by kernel_rfl) (wk_s (v' := V.p 1 0) (by kernel_rfl) rfl rfl (wk_s (v' := V.v (.int .i64 8)) (by kernel_rfl) rfl rfl (wk_s (v' := V.b (.a (.sl 18 0 ((prof (regSet l) i).length)))) (by kernel_rfl) rfl rfl (wk_s (v' := V.v (.int .i64 ((i : Nat) : Int))) (by kernel_rfl) rfl rfl (wk_s (v' := V.v (.int .i64 (((i % 8) : Nat) : Int))) (by kernel_rfl) rfl rfl (wk_s (v' := V.p 7 0) (by kernel_rfl) rfl rfl (wk_s (v' := V.b (.a (.sl 38 0 256))) (by kernel_rfl) rfl rfl (wk_s (v' := V.v (.int .i64 (((k : Nat) : Int) + 1))) (by kernel_rfl) (vint (by rfl)) rfl (wk_o (o' := ⟨30, 1, true, [(.slv l.length 1 (isl l) : A)]⟩) (by kernel_rfl) (renob_l (fun h => h) rfl rfl) rfl (wk_o (o' := ⟨39, 2, true, [(.val (.int .i64 ((cN i).x)) : A), .val (.int .i64 ((cN i).y))]⟩) (by kernel_rfl) (renob_l (fun h => h) rfl rfl) rfl (wk_o (o' := ⟨3, 1, true, pl (isl (prof (regSet l) i))⟩) (by kernel_rfl) (renob_pl (fun h => h)) rfl (wk_o (o' := ⟨3, 1, true, pl (isl (((stepT (regSet l) i (prof (regSet l) i) k).set (k ||| (2 ^ (i % 8))) ((gI (stepT (regSet l) i (prof (regSet l) i) k) (k ||| (2 ^ (i % 8)))) + (gI (prof (regSet l) i) k))).set (k ||| (2 ^ ((i % 8) + 1))) ((gI ((stepT (regSet l) i (prof (regSet l) i) k).set (k ||| (2 ^ (i % 8))) ((gI (stepT (regSet l) i (prof (regSet l) i) k) (k ||| (2 ^ (i % 8)))) + (gI (prof (regSet l) i) k))) (k ||| (2 ^ ((i % 8) + 1)))) + (gI (prof (regSet l) i) k))))⟩) (by kernel_rfl) (renob_eq (fun h => h) (congrArg isl (by (rw [stepT_snoc, sk_c hN hS hK]; simp only [hD, hR, hK1, shl_one, Bool.true_and, Bool.false_and, Bool.not_false, Bool.not_true, if_true, if_false, Bool.false_eq_true]; first | done | rfl)))) rfl (wk_f rfl (wk_f rfl (wk_f rfl (wk_f rfl (wk_f rfl (wk_f rfl (wk_f rfl (wk_f rfl (wk_f rfl (wk_nil)))))))))))))))))))))))
                      · skip
                        have c21 : (k.testBit ((i % 8) + 1)) = true := by simpa using c19
                        have hK1 : k.testBit (i % 8 + 1) = true := c21
                        refine wp_skip' ?_
                        refine wp_region_t ?_
                        refine wpc (step_plain rfl (acts_move (d := 43) (ltN rfl) (OpX.tmp 10 (V.v (.int .i64 ((k : Nat) : Int)))))) (by kernel_rfl) ?_
                        refine wpc (step_plain rfl (acts_bin (d := 44) (ltN rfl) (OpV.tmp 43 (.int .i64 ((k : Nat) : Int))) (OpV.const (.int .i64 1)) (r_add (c := (((k : Nat) : Int) + 1)) (w64 (by omega) (by omega))))) (by kernel_rfl) ?_
                        refine wpc (step_plain rfl (acts_assign (d := 10) (ltN rfl) (OpX.tmp 44 (V.v (.int .i64 (((k : Nat) : Int) + 1)))))) (by kernel_rfl) ?_
                        refine wpl_nil ?_
                        exact loop_back ((k + 1)) (by show _ ≤ _; omega) (by show 256 - (k + 1) < 256 - k; omega) (weak_of id [14, 15, 33, 41, 64, 94, 98, 122, 126] (by kernel_rfl) (wk_s (v' := V.p 1 0) (by kernel_rfl) rfl rfl (wk_s (v' := V.v (.int .i64 8)) (by kernel_rfl) rfl rfl (wk_s (v' := V.b (.a (.sl 18 0 ((prof (regSet l) i).length)))) (by kernel_rfl) rfl rfl (wk_s (v' := V.v (.int .i64 ((i : Nat) : Int))) (by kernel_rfl) rfl rfl (wk_s (v' := V.v (.int .i64 (((i % 8) : Nat) : Int))) (by kernel_rfl) rfl rfl (wk_s (v' := V.p 7 0) (by kernel_rfl) rfl rfl (wk_s (v' := V.b (.a (.sl 38 0 256))) (by kernel_rfl) rfl rfl (wk_s (v' := V.v (.int .i64 (((k : Nat) : Int) + 1))) (by kernel_rfl) (vint (by rfl)) rfl (wk_o (o' := ⟨30, 1, true, [(.slv l.length 1 (isl l) : A)]⟩) (by kernel_rfl) (renob_l (fun h => h) rfl rfl) rfl (wk_o (o' := ⟨39, 2, true, [(.val (.int .i64 ((cN i).x)) : A), .val (.int .i64 ((cN i).y))]⟩) (by kernel_rfl) (renob_l (fun h => h) rfl rfl) rfl (wk_o (o' := ⟨3, 1, true, pl (isl (prof (regSet l) i))⟩) (by kernel_rfl) (renob_pl (fun h => h)) rfl (wk_o (o' := ⟨3, 1, true, pl (isl ((stepT (regSet l) i (prof (regSet l) i) k).set (k ||| (2 ^ (i % 8))) ((gI (stepT (regSet l) i (prof (regSet l) i) k) (k ||| (2 ^ (i % 8)))) + (gI (prof (regSet l) i) k))))⟩) (by kernel_rfl) (renob_eq (fun h => h) (congrArg isl (by (rw [stepT_snoc, sk_c hN hS hK]; simp only [hD, hR, hK1, shl_one, Bool.true_and, Bool.false_and, Bool.not_false, Bool.not_true, if_true, if_false, Bool.false_eq_true]; first | done | rfl)))) rfl (wk_f rfl (wk_f rfl (wk_f rfl (wk_f rfl (wk_f rfl (wk_f rfl (wk_f rfl (wk_f rfl (wk_f rfl (wk_nil)))))))))))))))))))))))
                    · skip
                      have hR : rtB (regSet l) i = false := rt_okR ho (by omega) hO2 c18
                      refine wp_region_t ?_
                      refine wpc (step_plain rfl (acts_load_owns (d := 121) (t := 15) (h := 15) (off := 0) (o := ⟨39, 2, true, [(.val (.int .i64 ((cN i).x + 1)) : A), .val (.int .i64 ((cN i).y))]⟩)  (xs := [(.int .i64 ((cN i).x + 1) : Value), .int .i64 ((cN i).y)].map A.val) (ltN rfl) qC12_ti_39 rfl (by decide) rfl)) (by kernel_rfl) ?_
                      refine wpc (step_plain rfl (acts_call1 (d := 122) (ltN rfl) (spec_CellOk_fn (⟨((cN i).x + 1), (cN i).y⟩ : Cel) ) (ArgVs.cons (ArgV.va (vs := [(.int .i64 ((cN i).x + 1) : Value), .int .i64 ((cN i).y)]) (OpV.agg 121 [(.int .i64 ((cN i).x + 1) : Value), .int .i64 ((cN i).y)])) (ArgVs.nil)) ((resval (congrArg Value.bool c17))))) (by kernel_rfl) ?_
                      refine wpc (step_plain rfl (acts_move (d := 123) (ltN rfl) (OpX.tmp 122 (V.v (.bool true))))) (by kernel_rfl) ?_
                      refine wpc (step_on (dj := 123) rfl rfl (acts_load_owns (d := 124) (t := 1) (h := 1) (off := 0) (o := ⟨30, 1, true, [(.slv l.length 1 (isl l) : A)]⟩)  (xs := [(.slv l.length 1 (isl l) : A)]) (ltN rfl) qC12_ti_30 rfl (by decide) rfl)) (by kernel_rfl) ?_
                      refine wpc (step_on (dj := 123) rfl rfl (acts_load_owns (d := 125) (t := 15) (h := 15) (off := 0) (o := ⟨39, 2, true, [(.val (.int .i64 ((cN i).x + 1)) : A), .val (.int .i64 ((cN i).y))]⟩)  (xs := [(.int .i64 ((cN i).x + 1) : Value), .int .i64 ((cN i).y)].map A.val) (ltN rfl) qC12_ti_39 rfl (by decide) rfl)) (by kernel_rfl) ?_
                      refine wpc (step_on (dj := 123) rfl rfl (acts_call1 (d := 126) (ltN rfl) (spec_l03Has_fn l (⟨((cN i).x + 1), (cN i).y⟩ : Cel) (by omega) (by omega)) (ArgVs.cons (ArgV.regv 124 l.length 1 (isl l)) (ArgVs.cons (ArgV.va (vs := [(.int .i64 ((cN i).x + 1) : Value), .int .i64 ((cN i).y)]) (OpV.agg 125 [(.int .i64 ((cN i).x + 1) : Value), .int .i64 ((cN i).y)])) (ArgVs.nil))) ((resval (congrArg Value.bool c18))))) (by kernel_rfl) ?_
                      refine wpc (step_plain rfl (acts_pick_t (d := 127) (ltN rfl) (OpV.tmp 123 (.bool true)) (OpX.tmp 126 (V.v (.bool false))))) (by kernel_rfl) ?_
                      refine wpc (step_plain rfl (acts_move (d := 128) (ltN rfl) (OpX.tmp 127 (V.v (.bool false))))) (by kernel_rfl) ?_
                      refine wpc (step_off (dj := 128) (b' := false) rfl rfl (by decide) rfl (ltN rfl)) (by kernel_rfl) ?_
                      refine wpc (step_off (dj := 128) (b' := false) rfl rfl (by decide) rfl (ltN rfl)) (by kernel_rfl) ?_
                      refine wpc (step_off (dj := 128) (b' := false) rfl rfl (by decide) rfl (ltN rfl)) (by kernel_rfl) ?_
                      refine wpc (step_off (dj := 128) (b' := false) rfl rfl (by decide) rfl (ltN rfl)) (by kernel_rfl) ?_
                      refine wpc (step_off (dj := 128) (b' := false) rfl rfl (by decide) rfl (ltN rfl)) (by kernel_rfl) ?_
                      refine wpc (step_off (dj := 128) (b' := false) rfl rfl (by decide) rfl (ltN rfl)) (by kernel_rfl) ?_
                      refine wpc (step_plain rfl (acts_pick_f (d := 135) (ltN rfl) (OpV.tmp 128 (.bool false)) (OpX.const (.bool false)))) (by kernel_rfl) ?_
                      refine wpl_nil ?_
                      refine wp_if_f (t := 135) (by kernel_rfl) ?_
                      refine wp_skip' ?_
                      refine wp_region_t ?_
                      refine wpc (step_plain rfl (acts_move (d := 43) (ltN rfl) (OpX.tmp 10 (V.v (.int .i64 ((k : Nat) : Int)))))) (by kernel_rfl) ?_
                      refine wpc (step_plain rfl (acts_bin (d := 44) (ltN rfl) (OpV.tmp 43 (.int .i64 ((k : Nat) : Int))) (OpV.const (.int .i64 1)) (r_add (c := (((k : Nat) : Int) + 1)) (w64 (by omega) (by omega))))) (by kernel_rfl) ?_
                      refine wpc (step_plain rfl (acts_assign (d := 10) (ltN rfl) (OpX.tmp 44 (V.v (.int .i64 (((k : Nat) : Int) + 1)))))) (by kernel_rfl) ?_
                      refine wpl_nil ?_
                      exact loop_back ((k + 1)) (by show _ ≤ _; omega) (by show 256 - (k + 1) < 256 - k; omega) (weak_of id [14, 15, 33, 41, 64, 94, 98, 122, 126] (by kernel_rfl) (wk_s (v' := V.p 1 0) (by kernel_rfl) rfl rfl (wk_s (v' := V.v (.int .i64 8)) (by kernel_rfl) rfl rfl (wk_s (v' := V.b (.a (.sl 18 0 ((prof (regSet l) i).length)))) (by kernel_rfl) rfl rfl (wk_s (v' := V.v (.int .i64 ((i : Nat) : Int))) (by kernel_rfl) rfl rfl (wk_s (v' := V.v (.int .i64 (((i % 8) : Nat) : Int))) (by kernel_rfl) rfl rfl (wk_s (v' := V.p 7 0) (by kernel_rfl) rfl rfl (wk_s (v' := V.b (.a (.sl 38 0 256))) (by kernel_rfl) rfl rfl (wk_s (v' := V.v (.int .i64 (((k : Nat) : Int) + 1))) (by kernel_rfl) (vint (by rfl)) rfl (wk_o (o' := ⟨30, 1, true, [(.slv l.length 1 (isl l) : A)]⟩) (by kernel_rfl) (renob_l (fun h => h) rfl rfl) rfl (wk_o (o' := ⟨39, 2, true, [(.val (.int .i64 ((cN i).x)) : A), .val (.int .i64 ((cN i).y))]⟩) (by kernel_rfl) (renob_l (fun h => h) rfl rfl) rfl (wk_o (o' := ⟨3, 1, true, pl (isl (prof (regSet l) i))⟩) (by kernel_rfl) (renob_pl (fun h => h)) rfl (wk_o (o' := ⟨3, 1, true, pl (isl ((stepT (regSet l) i (prof (regSet l) i) k).set (k ||| (2 ^ (i % 8))) ((gI (stepT (regSet l) i (prof (regSet l) i) k) (k ||| (2 ^ (i % 8)))) + (gI (prof (regSet l) i) k))))⟩) (by kernel_rfl) (renob_eq (fun h => h) (congrArg isl (by (rw [stepT_snoc, sk_c hN hS hK]; simp only [hD, hR, shl_one, Bool.true_and, Bool.false_and, Bool.not_false, Bool.not_true, if_true, if_false, Bool.false_eq_true]; first | done | rfl)))) rfl (wk_f rfl (wk_f rfl (wk_f rfl (wk_f rfl (wk_f rfl (wk_f rfl (wk_f rfl (wk_f rfl (wk_f rfl (wk_nil)))))))))))))))))))))))
                  · skip
                    have hR : rtB (regSet l) i = false := rt_no (by omega) c17
                    refine wp_region_t ?_
                    refine wpc (step_plain rfl (acts_load_owns (d := 121) (t := 15) (h := 15) (off := 0) (o := ⟨39, 2, true, [(.val (.int .i64 ((cN i).x + 1)) : A), .val (.int .i64 ((cN i).y))]⟩)  (xs := [(.int .i64 ((cN i).x + 1) : Value), .int .i64 ((cN i).y)].map A.val) (ltN rfl) qC12_ti_39 rfl (by decide) rfl)) (by kernel_rfl) ?_
                    refine wpc (step_plain rfl (acts_call1 (d := 122) (ltN rfl) (spec_CellOk_fn (⟨((cN i).x + 1), (cN i).y⟩ : Cel) ) (ArgVs.cons (ArgV.va (vs := [(.int .i64 ((cN i).x + 1) : Value), .int .i64 ((cN i).y)]) (OpV.agg 121 [(.int .i64 ((cN i).x + 1) : Value), .int .i64 ((cN i).y)])) (ArgVs.nil)) ((resval (congrArg Value.bool c17))))) (by kernel_rfl) ?_
                    refine wpc (step_plain rfl (acts_move (d := 123) (ltN rfl) (OpX.tmp 122 (V.v (.bool false))))) (by kernel_rfl) ?_
                    refine wpc (step_off (dj := 123) (b' := false) rfl rfl (by decide) rfl (ltN rfl)) (by kernel_rfl) ?_
                    refine wpc (step_off (dj := 123) (b' := false) rfl rfl (by decide) rfl (ltN rfl)) (by kernel_rfl) ?_
                    refine wpc (step_off (dj := 123) (b' := false) rfl rfl (by decide) rfl (ltN rfl)) (by kernel_rfl) ?_
                    refine wpc (step_plain rfl (acts_pick_f (d := 127) (ltN rfl) (OpV.tmp 123 (.bool false)) (OpX.const (.bool false)))) (by kernel_rfl) ?_
                    refine wpc (step_plain rfl (acts_move (d := 128) (ltN rfl) (OpX.tmp 127 (V.v (.bool false))))) (by kernel_rfl) ?_
                    refine wpc (step_off (dj := 128) (b' := false) rfl rfl (by decide) rfl (ltN rfl)) (by kernel_rfl) ?_
                    refine wpc (step_off (dj := 128) (b' := false) rfl rfl (by decide) rfl (ltN rfl)) (by kernel_rfl) ?_
                    refine wpc (step_off (dj := 128) (b' := false) rfl rfl (by decide) rfl (ltN rfl)) (by kernel_rfl) ?_
                    refine wpc (step_off (dj := 128) (b' := false) rfl rfl (by decide) rfl (ltN rfl)) (by kernel_rfl) ?_
                    refine wpc (step_off (dj := 128) (b' := false) rfl rfl (by decide) rfl (ltN rfl)) (by kernel_rfl) ?_
                    refine wpc (step_off (dj := 128) (b' := false) rfl rfl (by decide) rfl (ltN rfl)) (by kernel_rfl) ?_
                    refine wpc (step_plain rfl (acts_pick_f (d := 135) (ltN rfl) (OpV.tmp 128 (.bool false)) (OpX.const (.bool false)))) (by kernel_rfl) ?_
                    refine wpl_nil ?_
                    refine wp_if_f (t := 135) (by kernel_rfl) ?_
                    refine wp_skip' ?_
                    refine wp_region_t ?_
                    refine wpc (step_plain rfl (acts_move (d := 43) (ltN rfl) (OpX.tmp 10 (V.v (.int .i64 ((k : Nat) : Int)))))) (by kernel_rfl) ?_
                    refine wpc (step_plain rfl (acts_bin (d := 44) (ltN rfl) (OpV.tmp 43 (.int .i64 ((k : Nat) : Int))) (OpV.const (.int .i64 1)) (r_add (c := (((k : Nat) : Int) + 1)) (w64 (by omega) (by omega))))) (by kernel_rfl) ?_
                    refine wpc (step_plain rfl (acts_assign (d := 10) (ltN rfl) (OpX.tmp 44 (V.v (.int .i64 (((k : Nat) : Int) + 1)))))) (by kernel_rfl) ?_
                    refine wpl_nil ?_
                    exact loop_back ((k + 1)) (by show _ ≤ _; omega) (by show 256 - (k + 1) < 256 - k; omega) (weak_of id [14, 15, 33, 41, 64, 94, 98, 122, 126] (by kernel_rfl) (wk_s (v' := V.p 1 0) (by kernel_rfl) rfl rfl (wk_s (v' := V.v (.int .i64 8)) (by kernel_rfl) rfl rfl (wk_s (v' := V.b (.a (.sl 18 0 ((prof (regSet l) i).length)))) (by kernel_rfl) rfl rfl (wk_s (v' := V.v (.int .i64 ((i : Nat) : Int))) (by kernel_rfl) rfl rfl (wk_s (v' := V.v (.int .i64 (((i % 8) : Nat) : Int))) (by kernel_rfl) rfl rfl (wk_s (v' := V.p 7 0) (by kernel_rfl) rfl rfl (wk_s (v' := V.b (.a (.sl 38 0 256))) (by kernel_rfl) rfl rfl (wk_s (v' := V.v (.int .i64 (((k : Nat) : Int) + 1))) (by kernel_rfl) (vint (by rfl)) rfl (wk_o (o' := ⟨30, 1, true, [(.slv l.length 1 (isl l) : A)]⟩) (by kernel_rfl) (renob_l (fun h => h) rfl rfl) rfl (wk_o (o' := ⟨39, 2, true, [(.val (.int .i64 ((cN i).x)) : A), .val (.int .i64 ((cN i).y))]⟩) (by kernel_rfl) (renob_l (fun h => h) rfl rfl) rfl (wk_o (o' := ⟨3, 1, true, pl (isl (prof (regSet l) i))⟩) (by kernel_rfl) (renob_pl (fun h => h)) rfl (wk_o (o' := ⟨3, 1, true, pl (isl ((stepT (regSet l) i (prof (regSet l) i) k).set (k ||| (2 ^ (i % 8))) ((gI (stepT (regSet l) i (prof (regSet l) i) k) (k ||| (2 ^ (i % 8)))) + (gI (prof (regSet l) i) k))))⟩) (by kernel_rfl) (renob_eq (fun h => h) (congrArg isl (by (rw [stepT_snoc, sk_c hN hS hK]; simp only [hD, hR, shl_one, Bool.true_and, Bool.false_and, Bool.not_false, Bool.not_true, if_true, if_false, Bool.false_eq_true]; first | done | rfl)))) rfl (wk_f rfl (wk_f rfl (wk_f rfl (wk_f rfl (wk_f rfl (wk_f rfl (wk_f rfl (wk_f rfl (wk_f rfl (wk_nil)))))))))))))))))))))))
                · skip
                  have hD : dnB (regSet l) i = false := dn_okR ho (by omega) hO1 c16
                  refine wp_skip' ?_
                  refine wp_seq' ?_
                  refine wp_region_t ?_
                  refine wpc (step_plain rfl (acts_field (d := 115) (t := 7) (h := 7) (off := 0) (off' := 0) (ltN rfl) qC12_fo_39_0 rfl)) (by kernel_rfl) ?_
                  refine wpc (step_plain rfl (acts_load_own (d := 116) (t := 115) (h := 7) (off := 0) (o := ⟨39, 2, true, [(.val (.int .i64 ((cN i).x)) : A), .val (.int .i64 ((cN i).y))]⟩)  (x := .val (.int .i64 ((cN i).x))) (ltN rfl) qC12_ti_3 rfl)) (by kernel_rfl) ?_
                  refine wpc (step_plain rfl (acts_bin (d := 117) (ltN rfl) (OpV.tmp 116 (.int .i64 ((cN i).x))) (OpV.const (.int .i64 1)) (r_add (c := ((cN i).x + 1)) (w64 (by omega) (by omega))))) (by kernel_rfl) ?_
                  refine wpc (step_plain rfl (acts_field (d := 118) (t := 7) (h := 7) (off := 0) (off' := 1) (ltN rfl) qC12_fo_39_1 rfl)) (by kernel_rfl) ?_
                  refine wpc (step_plain rfl (acts_load_own (d := 119) (t := 118) (h := 7) (off := 1) (o := ⟨39, 2, true, [(.val (.int .i64 ((cN i).x)) : A), .val (.int .i64 ((cN i).y))]⟩)  (x := .val (.int .i64 ((cN i).y))) (ltN rfl) qC12_ti_3 rfl)) (by kernel_rfl) ?_
                  refine wpc (step_plain rfl (acts_build (d := 120) (t := 39) (cells := [(.int .i64 ((cN i).x + 1) : Value), .int .i64 ((cN i).y)]) (ltN rfl) (OpVs.cons (i := 0) (OpV.tmp 117 (.int .i64 ((cN i).x + 1))) (OpVs.cons (i := 1) (OpV.tmp 119 (.int .i64 ((cN i).y))) (OpVs.nil))) rfl)) (by kernel_rfl) ?_
                  refine wpc (step_plain rfl (acts_alloc' (d := 15) (h := 15) (cap := 1) (s := 2) (cells := [(.val (.int .i64 0) : A), .val (.int .i64 0)]) (ltN rfl) qC12_zi_39 rfl rfl (by decide))) (by kernel_rfl) ?_
                  refine wpc (step_plain rfl (acts_store (t := 15) (h := 15) (off := 0) (o := ⟨39, 2, true, [(.val (.int .i64 0) : A), .val (.int .i64 0)]⟩) (b := .agg ([(.int .i64 ((cN i).x + 1) : Value), .int .i64 ((cN i).y)].map A.val)) (cells := [(.val (.int .i64 ((cN i).x + 1)) : A), .val (.int .i64 ((cN i).y))]) qC12_ti_39 (OpX.tmp 120 (V.av [(.int .i64 ((cN i).x + 1) : Value), .int .i64 ((cN i).y)])) rfl (by decide) (by intro y hy; simp [B.cs] at hy; rcases hy with rfl | rfl <;> rfl) (Nat.le_of_ble_eq_true rfl) rfl)) (by kernel_rfl) ?_
                  refine wpl_nil ?_
                  refine wp_seq' ?_
                  rcases Bool.eq_false_or_eq_true ((okc ((cN i).x + 1) ((cN i).y))) with c22 | c22
                  · skip
                    have hO2 := c22
                    rcases Bool.eq_false_or_eq_true ((hasR l (⟨((cN i).x + 1), (cN i).y⟩ : Cel))) with c23 | c23
                    · skip
                      have hR : rtB (regSet l) i = true := rt_okR ho (by omega) hO2 c23
                      have hr7 := rt_lt hR
                      have ho2 : (k ||| 2 ^ (i % 8 + 1)) < 256 := or_lt (by omega) hr7
                      have hb3 := hbt _ ho2
                      have hb4 := rt_bd2 (s := regSet l) (i := i) (k := k) (by omega) (by omega) hR
                      unfold putI at hb4
                      refine wp_region_t ?_
                      refine wpc (step_plain rfl (acts_load_owns (d := 121) (t := 15) (h := 15) (off := 0) (o := ⟨39, 2, true, [(.val (.int .i64 ((cN i).x + 1)) : A), .val (.int .i64 ((cN i).y))]⟩)  (xs := [(.int .i64 ((cN i).x + 1) : Value), .int .i64 ((cN i).y)].map A.val) (ltN rfl) qC12_ti_39 rfl (by decide) rfl)) (by kernel_rfl) ?_
                      refine wpc (step_plain rfl (acts_call1 (d := 122) (ltN rfl) (spec_CellOk_fn (⟨((cN i).x + 1), (cN i).y⟩ : Cel) ) (ArgVs.cons (ArgV.va (vs := [(.int .i64 ((cN i).x + 1) : Value), .int .i64 ((cN i).y)]) (OpV.agg 121 [(.int .i64 ((cN i).x + 1) : Value), .int .i64 ((cN i).y)])) (ArgVs.nil)) ((resval (congrArg Value.bool c22))))) (by kernel_rfl) ?_
                      refine wpc (step_plain rfl (acts_move (d := 123) (ltN rfl) (OpX.tmp 122 (V.v (.bool true))))) (by kernel_rfl) ?_
                      refine wpc (step_on (dj := 123) rfl rfl (acts_load_owns (d := 124) (t := 1) (h := 1) (off := 0) (o := ⟨30, 1, true, [(.slv l.length 1 (isl l) : A)]⟩)  (xs := [(.slv l.length 1 (isl l) : A)]) (ltN rfl) qC12_ti_30 rfl (by decide) rfl)) (by kernel_rfl) ?_
                      refine wpc (step_on (dj := 123) rfl rfl (acts_load_owns (d := 125) (t := 15) (h := 15) (off := 0) (o := ⟨39, 2, true, [(.val (.int .i64 ((cN i).x + 1)) : A), .val (.int .i64 ((cN i).y))]⟩)  (xs := [(.int .i64 ((cN i).x + 1) : Value), .int .i64 ((cN i).y)].map A.val) (ltN rfl) qC12_ti_39 rfl (by decide) rfl)) (by kernel_rfl) ?_
                      refine wpc (step_on (dj := 123) rfl rfl (acts_call1 (d := 126) (ltN rfl) (spec_l03Has_fn l (⟨((cN i).x + 1), (cN i).y⟩ : Cel) (by omega) (by omega)) (ArgVs.cons (ArgV.regv 124 l.length 1 (isl l)) (ArgVs.cons (ArgV.va (vs := [(.int .i64 ((cN i).x + 1) : Value), .int .i64 ((cN i).y)]) (OpV.agg 125 [(.int .i64 ((cN i).x + 1) : Value), .int .i64 ((cN i).y)])) (ArgVs.nil))) ((resval (congrArg Value.bool c23))))) (by kernel_rfl) ?_
                      refine wpc (step_plain rfl (acts_pick_t (d := 127) (ltN rfl) (OpV.tmp 123 (.bool true)) (OpX.tmp 126 (V.v (.bool true))))) (by kernel_rfl) ?_
                      refine wpc (step_plain rfl (acts_move (d := 128) (ltN rfl) (OpX.tmp 127 (V.v (.bool true))))) (by kernel_rfl) ?_
                      refine wpc (step_on (dj := 128) rfl rfl (acts_move (d := 129) (ltN rfl) (OpX.tmp 10 (V.v (.int .i64 ((k : Nat) : Int)))))) (by kernel_rfl) ?_
                      refine wpc (step_on (dj := 128) rfl rfl (acts_move (d := 130) (ltN rfl) (OpX.tmp 6 (V.v (.int .i64 (((i % 8) : Nat) : Int)))))) (by kernel_rfl) ?_
                      refine wpc (step_on (dj := 128) rfl rfl (acts_bin (d := 131) (ltN rfl) (OpV.tmp 130 (.int .i64 (((i % 8) : Nat) : Int))) (OpV.const (.int .i64 1)) (r_add (c := ((((i % 8) : Nat) : Int) + 1)) (w64 (by omega) (by omega))))) (by kernel_rfl) ?_
                      refine wpc (step_on (dj := 128) rfl rfl (acts_bin (d := 132) (ltN rfl) (OpV.tmp 129 (.int .i64 ((k : Nat) : Int))) (OpV.tmp 131 (.int .i64 ((((i % 8) : Nat) : Int) + 1))) (r_shr (c := (((k >>> ((i % 8) + 1)) : Nat) : Int)) (by omega) (shrU (m := k) (n := ((i % 8) + 1)) rfl (by rfl) (by omega) rfl)))) (by kernel_rfl) ?_
                      refine wpc (step_on (dj := 128) rfl rfl (acts_bin (d := 133) (ltN rfl) (OpV.tmp 132 (.int .i64 (((k >>> ((i % 8) + 1)) : Nat) : Int))) (OpV.const (.int .i64 1)) (r_and (c := ((((k >>> ((i % 8) + 1)) &&& 1) : Nat) : Int)) (andI (m := (k >>> ((i % 8) + 1))) (n := 1) rfl rfl (by exact Nat.lt_of_le_of_lt (shr_le _ _) (by first | omega | assumption | (first | omega | assumption | exact cN_ok (by omega) | exact regSet_lt ho | (simp only [List.length_set]; omega)))) (by omega))))) (by kernel_rfl) ?_
                      refine wpc (step_on (dj := 128) rfl rfl (acts_bin (d := 134) (ltN rfl) (OpV.tmp 133 (.int .i64 ((((k >>> ((i % 8) + 1)) &&& 1) : Nat) : Int))) (OpV.const (.int .i64 0)) (r_eql (c := (!(k.testBit ((i % 8) + 1)))) (bit_zero _ _)))) (by kernel_rfl) ?_
                      refine wpc (step_plain rfl (acts_pick_t (d := 135) (ltN rfl) (OpV.tmp 128 (.bool true)) (OpX.tmp 134 (V.v (.bool (!(k.testBit ((i % 8) + 1)))))))) (by kernel_rfl) ?_
                      refine wpl_nil ?_
                      refine wp_if (t := 135) ((!(k.testBit ((i % 8) + 1)))) (by kernel_rfl) (fun c24 => ?_) (fun c24 => ?_)
                      · skip
                        have c25 : (k.testBit ((i % 8) + 1)) = false := by simpa using c24
                        have hK1 : k.testBit (i % 8 + 1) = false := c25
                        refine wp_drawn' (by kernel_rfl) (AllSteps.cons (step_plain rfl (acts_move (d := 136) (ltN rfl) (OpX.tmp 9 (V.b (.a (.sl 38 0 256)))))) (AllSteps.cons (step_plain rfl (acts_move (d := 137) (ltN rfl) (OpX.tmp 10 (V.v (.int .i64 ((k : Nat) : Int)))))) (AllSteps.cons (step_plain rfl (acts_move (d := 138) (ltN rfl) (OpX.tmp 6 (V.v (.int .i64 (((i % 8) : Nat) : Int)))))) (AllSteps.cons (step_plain rfl (acts_bin (d := 139) (ltN rfl) (OpV.tmp 138 (.int .i64 (((i % 8) : Nat) : Int))) (OpV.const (.int .i64 1)) (r_add (c := ((((i % 8) : Nat) : Int) + 1)) (w64 (by omega) (by omega))))) (AllSteps.cons (step_plain rfl (acts_bin (d := 140) (ltN rfl) (OpV.const (.int .i64 1)) (OpV.tmp 139 (.int .i64 ((((i % 8) : Nat) : Int) + 1))) (r_shl (c := (((2 ^ ((i % 8) + 1)) : Nat) : Int)) (by omega) (shl1I (n := ((i % 8) + 1)) (by rfl) (by omega))))) (AllSteps.cons (step_plain rfl (acts_bin (d := 141) (ltN rfl) (OpV.tmp 137 (.int .i64 ((k : Nat) : Int))) (OpV.tmp 140 (.int .i64 (((2 ^ ((i % 8) + 1)) : Nat) : Int))) (r_or (c := (((k ||| (2 ^ ((i % 8) + 1))) : Nat) : Int)) (orI (m := k) (n := (2 ^ ((i % 8) + 1))) rfl rfl (by omega) (by omega))))) (AllSteps.cons (step_plain rfl (acts_move (d := 142) (ltN rfl) (OpX.tmp 9 (V.b (.a (.sl 38 0 256)))))) (AllSteps.cons (step_plain rfl (acts_move (d := 143) (ltN rfl) (OpX.tmp 10 (V.v (.int .i64 ((k : Nat) : Int)))))) (AllSteps.cons (step_plain rfl (acts_move (d := 144) (ltN rfl) (OpX.tmp 6 (V.v (.int .i64 (((i % 8) : Nat) : Int)))))) (AllSteps.cons (step_plain rfl (acts_bin (d := 145) (ltN rfl) (OpV.tmp 144 (.int .i64 (((i % 8) : Nat) : Int))) (OpV.const (.int .i64 1)) (r_add (c := ((((i % 8) : Nat) : Int) + 1)) (w64 (by omega) (by omega))))) (AllSteps.cons (step_plain rfl (acts_bin (d := 146) (ltN rfl) (OpV.const (.int .i64 1)) (OpV.tmp 145 (.int .i64 ((((i % 8) : Nat) : Int) + 1))) (r_shl (c := (((2 ^ ((i % 8) + 1)) : Nat) : Int)) (by omega) (shl1I (n := ((i % 8) + 1)) (by rfl) (by omega))))) (AllSteps.cons (step_plain rfl (acts_bin (d := 147) (ltN rfl) (OpV.tmp 143 (.int .i64 ((k : Nat) : Int))) (OpV.tmp 146 (.int .i64 (((2 ^ ((i % 8) + 1)) : Nat) : Int))) (r_or (c := (((k ||| (2 ^ ((i % 8) + 1))) : Nat) : Int)) (orI (m := k) (n := (2 ^ ((i % 8) + 1))) rfl rfl (by omega) (by omega))))) (AllSteps.cons (step_plain rfl (acts_index_sl (d := 148) (x := 142) (h := 38) (off := 0) (n := 256) (k := (k ||| (2 ^ ((i % 8) + 1)))) (off' := ((k ||| (2 ^ ((i % 8) + 1))) * 1)) (o := ⟨3, 1, true, pl (isl (stepT (regSet l) i (prof (regSet l) i) k))⟩) (ltN rfl) qC12_un_22 qC12_sz_3 (OpV.tmp 147 (.int .i64 (((k ||| (2 ^ ((i % 8) + 1))) : Nat) : Int))) rfl (by omega) (by (simp; done)))) (AllSteps.cons (step_plain rfl (acts_load_own (d := 149) (t := 148) (h := 38) (off := ((k ||| (2 ^ ((i % 8) + 1))) * 1)) (o := ⟨3, 1, true, pl (isl (stepT (regSet l) i (prof (regSet l) i) k))⟩)  (x := .val (.int .i64 (gI (stepT (regSet l) i (prof (regSet l) i) k) (k ||| (2 ^ ((i % 8) + 1)))))) (ltN rfl) qC12_ti_3 (pl_get (isl_get1 (k := (k ||| (2 ^ ((i % 8) + 1)))) (by omega))))) (AllSteps.cons (step_plain rfl (acts_move (d := 150) (ltN rfl) (OpX.tmp 11 (V.v (.int .i64 (gI (prof (regSet l) i) k)))))) (AllSteps.cons (step_plain rfl (acts_bin (d := 151) (ltN rfl) (OpV.tmp 149 (.int .i64 (gI (stepT (regSet l) i (prof (regSet l) i) k) (k ||| (2 ^ ((i % 8) + 1)))))) (OpV.tmp 150 (.int .i64 (gI (prof (regSet l) i) k))) (r_add (c := ((gI (stepT (regSet l) i (prof (regSet l) i) k) (k ||| (2 ^ ((i % 8) + 1)))) + (gI (prof (regSet l) i) k))) (w64 (by omega) (by omega))))) (AllSteps.cons (step_plain rfl (acts_index_sl (d := 152) (x := 136) (h := 38) (off := 0) (n := 256) (k := (k ||| (2 ^ ((i % 8) + 1)))) (off' := ((k ||| (2 ^ ((i % 8) + 1))) * 1)) (o := ⟨3, 1, true, pl (isl (stepT (regSet l) i (prof (regSet l) i) k))⟩) (ltN rfl) qC12_un_22 qC12_sz_3 (OpV.tmp 141 (.int .i64 (((k ||| (2 ^ ((i % 8) + 1))) : Nat) : Int))) rfl (by omega) (by (simp; done)))) (AllSteps.cons (step_plain rfl (acts_store (t := 152) (h := 38) (off := ((k ||| (2 ^ ((i % 8) + 1))) * 1)) (o := ⟨3, 1, true, pl (isl (stepT (regSet l) i (prof (regSet l) i) k))⟩) (b := .a (.val (.int .i64 ((gI (stepT (regSet l) i (prof (regSet l) i) k) (k ||| (2 ^ ((i % 8) + 1)))) + (gI (prof (regSet l) i) k))))) (cells := pl (isl ((stepT (regSet l) i (prof (regSet l) i) k).set (k ||| (2 ^ ((i % 8) + 1))) ((gI (stepT (regSet l) i (prof (regSet l) i) k) (k ||| (2 ^ ((i % 8) + 1)))) + (gI (prof (regSet l) i) k))))) qC12_ti_3 (OpX.tmp 151 (V.v (.int .i64 ((gI (stepT (regSet l) i (prof (regSet l) i) k) (k ||| (2 ^ ((i % 8) + 1)))) + (gI (prof (regSet l) i) k))))) rfl (by decide) (by intro y hy; simp [B.cs] at hy; subst hy; rfl) (by simp only [pl_len, isl_len]; first | omega | assumption | exact cN_ok (by omega) | exact regSet_lt ho | (simp only [List.length_set]; omega)) (isl_put (k := (k ||| (2 ^ ((i % 8) + 1)))) (by omega)))) (AllSteps.nil))))))))))))))))))) (by kernel_rfl) (by kernel_rfl) (by kernel_rfl) ?_
                        refine wp_region_t ?_
                        refine wpc (step_plain rfl (acts_move (d := 43) (ltN rfl) (OpX.tmp 10 (V.v (.int .i64 ((k : Nat) : Int)))))) (by kernel_rfl) ?_
                        refine wpc (step_plain rfl (acts_bin (d := 44) (ltN rfl) (OpV.tmp 43 (.int .i64 ((k : Nat) : Int))) (OpV.const (.int .i64 1)) (r_add (c := (((k : Nat) : Int) + 1)) (w64 (by omega) (by omega))))) (by kernel_rfl) ?_
                        refine wpc (step_plain rfl (acts_assign (d := 10) (ltN rfl) (OpX.tmp 44 (V.v (.int .i64 (((k : Nat) : Int) + 1)))))) (by kernel_rfl) ?_
                        refine wpl_nil ?_
                        exact loop_back ((k + 1)) (by show _ ≤ _; omega) (by show 256 - (k + 1) < 256 - k; omega) (weak_of id [14, 15, 33, 41, 64, 94, 98, 122, 126] (by kernel_rfl) (wk_s (v' := V.p 1 0) (by kernel_rfl) rfl rfl (wk_s (v' := V.v (.int .i64 8)) (by kernel_rfl) rfl rfl (wk_s (v' := V.b (.a (.sl 18 0 ((prof (regSet l) i).length)))) (by kernel_rfl) rfl rfl (wk_s (v' := V.v (.int .i64 ((i : Nat) : Int))) (by kernel_rfl) rfl rfl (wk_s (v' := V.v (.int .i64 (((i % 8) : Nat) : Int))) (by kernel_rfl) rfl rfl (wk_s (v' := V.p 7 0) (by kernel_rfl) rfl rfl (wk_s (v' := V.b (.a (.sl 38 0 256))) (by kernel_rfl) rfl rfl (wk_s (v' := V.v (.int .i64 (((k : Nat) : Int) + 1))) (by kernel_rfl) (vint (by rfl)) rfl (wk_o (o' := ⟨30, 1, true, [(.slv l.length 1 (isl l) : A)]⟩) (by kernel_rfl) (renob_l (fun h => h) rfl rfl) rfl (wk_o (o' := ⟨39, 2, true, [(.val (.int .i64 ((cN i).x)) : A), .val (.int .i64 ((cN i).y))]⟩) (by kernel_rfl) (renob_l (fun h => h) rfl rfl) rfl (wk_o (o' := ⟨3, 1, true, pl (isl (prof (regSet l) i))⟩) (by kernel_rfl) (renob_pl (fun h => h)) rfl (wk_o (o' := ⟨3, 1, true, pl (isl ((stepT (regSet l) i (prof (regSet l) i) k).set (k ||| (2 ^ ((i % 8) + 1))) ((gI (stepT (regSet l) i (prof (regSet l) i) k) (k ||| (2 ^ ((i % 8) + 1)))) + (gI (prof (regSet l) i) k))))⟩) (by kernel_rfl) (renob_eq (fun h => h) (congrArg isl (by (rw [stepT_snoc, sk_c hN hS hK]; simp only [hD, hR, hK1, shl_one, Bool.true_and, Bool.false_and, Bool.not_false, Bool.not_true, if_true, if_false, Bool.false_eq_true]; first | done | rfl)))) rfl (wk_f rfl (wk_f rfl (wk_f rfl (wk_f rfl (wk_f rfl (wk_f rfl (wk_f rfl (wk_f rfl (wk_f rfl (wk_nil)))))))))))))))))))))))
                      · skip
                        have c26 : (k.testBit ((i % 8) + 1)) = true := by simpa using c24
                        have hK1 : k.testBit (i % 8 + 1) = true := c26
                        refine wp_skip' ?_
                        refine wp_region_t ?_
                        refine wpc (step_plain rfl (acts_move (d := 43) (ltN rfl) (OpX.tmp 10 (V.v (.int .i64 ((k : Nat) : Int)))))) (by kernel_rfl) ?_
                        refine wpc (step_plain rfl (acts_bin (d := 44) (ltN rfl) (OpV.tmp 43 (.int .i64 ((k : Nat) : Int))) (OpV.const (.int .i64 1)) (r_add (c := (((k : Nat) : Int) + 1)) (w64 (by omega) (by omega))))) (by kernel_rfl) ?_
                        refine wpc (step_plain rfl (acts_assign (d := 10) (ltN rfl) (OpX.tmp 44 (V.v (.int .i64 (((k : Nat) : Int) + 1)))))) (by kernel_rfl) ?_
                        refine wpl_nil ?_
                        exact loop_back ((k + 1)) (by show _ ≤ _; omega) (by show 256 - (k + 1) < 256 - k; omega) (weak_of id [14, 15, 33, 41, 64, 94, 98, 122, 126] (by kernel_rfl) (wk_s (v' := V.p 1 0) (by kernel_rfl) rfl rfl (wk_s (v' := V.v (.int .i64 8)) (by kernel_rfl) rfl rfl (wk_s (v' := V.b (.a (.sl 18 0 ((prof (regSet l) i).length)))) (by kernel_rfl) rfl rfl (wk_s (v' := V.v (.int .i64 ((i : Nat) : Int))) (by kernel_rfl) rfl rfl (wk_s (v' := V.v (.int .i64 (((i % 8) : Nat) : Int))) (by kernel_rfl) rfl rfl (wk_s (v' := V.p 7 0) (by kernel_rfl) rfl rfl (wk_s (v' := V.b (.a (.sl 38 0 256))) (by kernel_rfl) rfl rfl (wk_s (v' := V.v (.int .i64 (((k : Nat) : Int) + 1))) (by kernel_rfl) (vint (by rfl)) rfl (wk_o (o' := ⟨30, 1, true, [(.slv l.length 1 (isl l) : A)]⟩) (by kernel_rfl) (renob_l (fun h => h) rfl rfl) rfl (wk_o (o' := ⟨39, 2, true, [(.val (.int .i64 ((cN i).x)) : A), .val (.int .i64 ((cN i).y))]⟩) (by kernel_rfl) (renob_l (fun h => h) rfl rfl) rfl (wk_o (o' := ⟨3, 1, true, pl (isl (prof (regSet l) i))⟩) (by kernel_rfl) (renob_pl (fun h => h)) rfl (wk_o (o' := ⟨3, 1, true, pl (isl (stepT (regSet l) i (prof (regSet l) i) k))⟩) (by kernel_rfl) (renob_eq (fun h => h) (congrArg isl (by (rw [stepT_snoc, sk_c hN hS hK]; simp only [hD, hR, hK1, shl_one, Bool.true_and, Bool.false_and, Bool.not_false, Bool.not_true, if_true, if_false, Bool.false_eq_true]; first | done | rfl)))) rfl (wk_f rfl (wk_f rfl (wk_f rfl (wk_f rfl (wk_f rfl (wk_f rfl (wk_f rfl (wk_f rfl (wk_f rfl (wk_nil)))))))))))))))))))))))
                    · skip
                      have hR : rtB (regSet l) i = false := rt_okR ho (by omega) hO2 c23
                      refine wp_region_t ?_
                      refine wpc (step_plain rfl (acts_load_owns (d := 121) (t := 15) (h := 15) (off := 0) (o := ⟨39, 2, true, [(.val (.int .i64 ((cN i).x + 1)) : A), .val (.int .i64 ((cN i).y))]⟩)  (xs := [(.int .i64 ((cN i).x + 1) : Value), .int .i64 ((cN i).y)].map A.val) (ltN rfl) qC12_ti_39 rfl (by decide) rfl)) (by kernel_rfl) ?_
                      refine wpc (step_plain rfl (acts_call1 (d := 122) (ltN rfl) (spec_CellOk_fn (⟨((cN i).x + 1), (cN i).y⟩ : Cel) ) (ArgVs.cons (ArgV.va (vs := [(.int .i64 ((cN i).x + 1) : Value), .int .i64 ((cN i).y)]) (OpV.agg 121 [(.int .i64 ((cN i).x + 1) : Value), .int .i64 ((cN i).y)])) (ArgVs.nil)) ((resval (congrArg Value.bool c22))))) (by kernel_rfl) ?_
                      refine wpc (step_plain rfl (acts_move (d := 123) (ltN rfl) (OpX.tmp 122 (V.v (.bool true))))) (by kernel_rfl) ?_
                      refine wpc (step_on (dj := 123) rfl rfl (acts_load_owns (d := 124) (t := 1) (h := 1) (off := 0) (o := ⟨30, 1, true, [(.slv l.length 1 (isl l) : A)]⟩)  (xs := [(.slv l.length 1 (isl l) : A)]) (ltN rfl) qC12_ti_30 rfl (by decide) rfl)) (by kernel_rfl) ?_
                      refine wpc (step_on (dj := 123) rfl rfl (acts_load_owns (d := 125) (t := 15) (h := 15) (off := 0) (o := ⟨39, 2, true, [(.val (.int .i64 ((cN i).x + 1)) : A), .val (.int .i64 ((cN i).y))]⟩)  (xs := [(.int .i64 ((cN i).x + 1) : Value), .int .i64 ((cN i).y)].map A.val) (ltN rfl) qC12_ti_39 rfl (by decide) rfl)) (by kernel_rfl) ?_
                      refine wpc (step_on (dj := 123) rfl rfl (acts_call1 (d := 126) (ltN rfl) (spec_l03Has_fn l (⟨((cN i).x + 1), (cN i).y⟩ : Cel) (by omega) (by omega)) (ArgVs.cons (ArgV.regv 124 l.length 1 (isl l)) (ArgVs.cons (ArgV.va (vs := [(.int .i64 ((cN i).x + 1) : Value), .int .i64 ((cN i).y)]) (OpV.agg 125 [(.int .i64 ((cN i).x + 1) : Value), .int .i64 ((cN i).y)])) (ArgVs.nil))) ((resval (congrArg Value.bool c23))))) (by kernel_rfl) ?_
                      refine wpc (step_plain rfl (acts_pick_t (d := 127) (ltN rfl) (OpV.tmp 123 (.bool true)) (OpX.tmp 126 (V.v (.bool false))))) (by kernel_rfl) ?_
                      refine wpc (step_plain rfl (acts_move (d := 128) (ltN rfl) (OpX.tmp 127 (V.v (.bool false))))) (by kernel_rfl) ?_
                      refine wpc (step_off (dj := 128) (b' := false) rfl rfl (by decide) rfl (ltN rfl)) (by kernel_rfl) ?_
                      refine wpc (step_off (dj := 128) (b' := false) rfl rfl (by decide) rfl (ltN rfl)) (by kernel_rfl) ?_
                      refine wpc (step_off (dj := 128) (b' := false) rfl rfl (by decide) rfl (ltN rfl)) (by kernel_rfl) ?_
                      refine wpc (step_off (dj := 128) (b' := false) rfl rfl (by decide) rfl (ltN rfl)) (by kernel_rfl) ?_
                      refine wpc (step_off (dj := 128) (b' := false) rfl rfl (by decide) rfl (ltN rfl)) (by kernel_rfl) ?_
                      refine wpc (step_off (dj := 128) (b' := false) rfl rfl (by decide) rfl (ltN rfl)) (by kernel_rfl) ?_
                      refine wpc (step_plain rfl (acts_pick_f (d := 135) (ltN rfl) (OpV.tmp 128 (.bool false)) (OpX.const (.bool false)))) (by kernel_rfl) ?_
                      refine wpl_nil ?_
                      refine wp_if_f (t := 135) (by kernel_rfl) ?_
                      refine wp_skip' ?_
                      refine wp_region_t ?_
                      refine wpc (step_plain rfl (acts_move (d := 43) (ltN rfl) (OpX.tmp 10 (V.v (.int .i64 ((k : Nat) : Int)))))) (by kernel_rfl) ?_
                      refine wpc (step_plain rfl (acts_bin (d := 44) (ltN rfl) (OpV.tmp 43 (.int .i64 ((k : Nat) : Int))) (OpV.const (.int .i64 1)) (r_add (c := (((k : Nat) : Int) + 1)) (w64 (by omega) (by omega))))) (by kernel_rfl) ?_
                      refine wpc (step_plain rfl (acts_assign (d := 10) (ltN rfl) (OpX.tmp 44 (V.v (.int .i64 (((k : Nat) : Int) + 1)))))) (by kernel_rfl) ?_
                      refine wpl_nil ?_
                      exact loop_back ((k + 1)) (by show _ ≤ _; omega) (by show 256 - (k + 1) < 256 - k; omega) (weak_of id [14, 15, 33, 41, 64, 94, 98, 122, 126] (by kernel_rfl) (wk_s (v' := V.p 1 0) (by kernel_rfl) rfl rfl (wk_s (v' := V.v (.int .i64 8)) (by kernel_rfl) rfl rfl (wk_s (v' := V.b (.a (.sl 18 0 ((prof (regSet l) i).length)))) (by kernel_rfl) rfl rfl (wk_s (v' := V.v (.int .i64 ((i : Nat) : Int))) (by kernel_rfl) rfl rfl (wk_s (v' := V.v (.int .i64 (((i % 8) : Nat) : Int))) (by kernel_rfl) rfl rfl (wk_s (v' := V.p 7 0) (by kernel_rfl) rfl rfl (wk_s (v' := V.b (.a (.sl 38 0 256))) (by kernel_rfl) rfl rfl (wk_s (v' := V.v (.int .i64 (((k : Nat) : Int) + 1))) (by kernel_rfl) (vint (by rfl)) rfl (wk_o (o' := ⟨30, 1, true, [(.slv l.length 1 (isl l) : A)]⟩) (by kernel_rfl) (renob_l (fun h => h) rfl rfl) rfl (wk_o (o' := ⟨39, 2, true, [(.val (.int .i64 ((cN i).x)) : A), .val (.int .i64 ((cN i).y))]⟩) (by kernel_rfl) (renob_l (fun h => h) rfl rfl) rfl (wk_o (o' := ⟨3, 1, true, pl (isl (prof (regSet l) i))⟩) (by kernel_rfl) (renob_pl (fun h => h)) rfl (wk_o (o' := ⟨3, 1, true, pl (isl (stepT (regSet l) i (prof (regSet l) i) k))⟩) (by kernel_rfl) (renob_eq (fun h => h) (congrArg isl (by (rw [stepT_snoc, sk_c hN hS hK]; simp only [hD, hR, shl_one, Bool.true_and, Bool.false_and, Bool.not_false, Bool.not_true, if_true, if_false, Bool.false_eq_true]; first | done | rfl)))) rfl (wk_f rfl (wk_f rfl (wk_f rfl (wk_f rfl (wk_f rfl (wk_f rfl (wk_f rfl (wk_f rfl (wk_f rfl (wk_nil)))))))))))))))))))))))
                  · skip
                    have hR : rtB (regSet l) i = false := rt_no (by omega) c22
                    refine wp_region_t ?_
                    refine wpc (step_plain rfl (acts_load_owns (d := 121) (t := 15) (h := 15) (off := 0) (o := ⟨39, 2, true, [(.val (.int .i64 ((cN i).x + 1)) : A), .val (.int .i64 ((cN i).y))]⟩)  (xs := [(.int .i64 ((cN i).x + 1) : Value), .int .i64 ((cN i).y)].map A.val) (ltN rfl) qC12_ti_39 rfl (by decide) rfl)) (by kernel_rfl) ?_
                    refine wpc (step_plain rfl (acts_call1 (d := 122) (ltN rfl) (spec_CellOk_fn (⟨((cN i).x + 1), (cN i).y⟩ : Cel) ) (ArgVs.cons (ArgV.va (vs := [(.int .i64 ((cN i).x + 1) : Value), .int .i64 ((cN i).y)]) (OpV.agg 121 [(.int .i64 ((cN i).x + 1) : Value), .int .i64 ((cN i).y)])) (ArgVs.nil)) ((resval (congrArg Value.bool c22))))) (by kernel_rfl) ?_
                    refine wpc (step_plain rfl (acts_move (d := 123) (ltN rfl) (OpX.tmp 122 (V.v (.bool false))))) (by kernel_rfl) ?_
                    refine wpc (step_off (dj := 123) (b' := false) rfl rfl (by decide) rfl (ltN rfl)) (by kernel_rfl) ?_
                    refine wpc (step_off (dj := 123) (b' := false) rfl rfl (by decide) rfl (ltN rfl)) (by kernel_rfl) ?_
                    refine wpc (step_off (dj := 123) (b' := false) rfl rfl (by decide) rfl (ltN rfl)) (by kernel_rfl) ?_
                    refine wpc (step_plain rfl (acts_pick_f (d := 127) (ltN rfl) (OpV.tmp 123 (.bool false)) (OpX.const (.bool false)))) (by kernel_rfl) ?_
                    refine wpc (step_plain rfl (acts_move (d := 128) (ltN rfl) (OpX.tmp 127 (V.v (.bool false))))) (by kernel_rfl) ?_
                    refine wpc (step_off (dj := 128) (b' := false) rfl rfl (by decide) rfl (ltN rfl)) (by kernel_rfl) ?_
                    refine wpc (step_off (dj := 128) (b' := false) rfl rfl (by decide) rfl (ltN rfl)) (by kernel_rfl) ?_
                    refine wpc (step_off (dj := 128) (b' := false) rfl rfl (by decide) rfl (ltN rfl)) (by kernel_rfl) ?_
                    refine wpc (step_off (dj := 128) (b' := false) rfl rfl (by decide) rfl (ltN rfl)) (by kernel_rfl) ?_
                    refine wpc (step_off (dj := 128) (b' := false) rfl rfl (by decide) rfl (ltN rfl)) (by kernel_rfl) ?_
                    refine wpc (step_off (dj := 128) (b' := false) rfl rfl (by decide) rfl (ltN rfl)) (by kernel_rfl) ?_
                    refine wpc (step_plain rfl (acts_pick_f (d := 135) (ltN rfl) (OpV.tmp 128 (.bool false)) (OpX.const (.bool false)))) (by kernel_rfl) ?_
                    refine wpl_nil ?_
                    refine wp_if_f (t := 135) (by kernel_rfl) ?_
                    refine wp_skip' ?_
                    refine wp_region_t ?_
                    refine wpc (step_plain rfl (acts_move (d := 43) (ltN rfl) (OpX.tmp 10 (V.v (.int .i64 ((k : Nat) : Int)))))) (by kernel_rfl) ?_
                    refine wpc (step_plain rfl (acts_bin (d := 44) (ltN rfl) (OpV.tmp 43 (.int .i64 ((k : Nat) : Int))) (OpV.const (.int .i64 1)) (r_add (c := (((k : Nat) : Int) + 1)) (w64 (by omega) (by omega))))) (by kernel_rfl) ?_
                    refine wpc (step_plain rfl (acts_assign (d := 10) (ltN rfl) (OpX.tmp 44 (V.v (.int .i64 (((k : Nat) : Int) + 1)))))) (by kernel_rfl) ?_
                    refine wpl_nil ?_
                    exact loop_back ((k + 1)) (by show _ ≤ _; omega) (by show 256 - (k + 1) < 256 - k; omega) (weak_of id [14, 15, 33, 41, 64, 94, 98, 122, 126] (by kernel_rfl) (wk_s (v' := V.p 1 0) (by kernel_rfl) rfl rfl (wk_s (v' := V.v (.int .i64 8)) (by kernel_rfl) rfl rfl (wk_s (v' := V.b (.a (.sl 18 0 ((prof (regSet l) i).length)))) (by kernel_rfl) rfl rfl (wk_s (v' := V.v (.int .i64 ((i : Nat) : Int))) (by kernel_rfl) rfl rfl (wk_s (v' := V.v (.int .i64 (((i % 8) : Nat) : Int))) (by kernel_rfl) rfl rfl (wk_s (v' := V.p 7 0) (by kernel_rfl) rfl rfl (wk_s (v' := V.b (.a (.sl 38 0 256))) (by kernel_rfl) rfl rfl (wk_s (v' := V.v (.int .i64 (((k : Nat) : Int) + 1))) (by kernel_rfl) (vint (by rfl)) rfl (wk_o (o' := ⟨30, 1, true, [(.slv l.length 1 (isl l) : A)]⟩) (by kernel_rfl) (renob_l (fun h => h) rfl rfl) rfl (wk_o (o' := ⟨39, 2, true, [(.val (.int .i64 ((cN i).x)) : A), .val (.int .i64 ((cN i).y))]⟩) (by kernel_rfl) (renob_l (fun h => h) rfl rfl) rfl (wk_o (o' := ⟨3, 1, true, pl (isl (prof (regSet l) i))⟩) (by kernel_rfl) (renob_pl (fun h => h)) rfl (wk_o (o' := ⟨3, 1, true, pl (isl (stepT (regSet l) i (prof (regSet l) i) k))⟩) (by kernel_rfl) (renob_eq (fun h => h) (congrArg isl (by (rw [stepT_snoc, sk_c hN hS hK]; simp only [hD, hR, shl_one, Bool.true_and, Bool.false_and, Bool.not_false, Bool.not_true, if_true, if_false, Bool.false_eq_true]; first | done | rfl)))) rfl (wk_f rfl (wk_f rfl (wk_f rfl (wk_f rfl (wk_f rfl (wk_f rfl (wk_f rfl (wk_f rfl (wk_f rfl (wk_nil)))))))))))))))))))))))
              · skip
                have hD : dnB (regSet l) i = false := dn_no (by omega) c15
                refine wp_region_t ?_
                refine wpc (step_plain rfl (acts_load_owns (d := 93) (t := 14) (h := 14) (off := 0) (o := ⟨39, 2, true, [(.val (.int .i64 ((cN i).x)) : A), .val (.int .i64 ((cN i).y + 1))]⟩)  (xs := [(.int .i64 ((cN i).x) : Value), .int .i64 ((cN i).y + 1)].map A.val) (ltN rfl) qC12_ti_39 rfl (by decide) rfl)) (by kernel_rfl) ?_
                refine wpc (step_plain rfl (acts_call1 (d := 94) (ltN rfl) (spec_CellOk_fn (⟨(cN i).x, ((cN i).y + 1)⟩ : Cel) ) (ArgVs.cons (ArgV.va (vs := [(.int .i64 ((cN i).x) : Value), .int .i64 ((cN i).y + 1)]) (OpV.agg 93 [(.int .i64 ((cN i).x) : Value), .int .i64 ((cN i).y + 1)])) (ArgVs.nil)) ((resval (congrArg Value.bool c15))))) (by kernel_rfl) ?_
                refine wpc (step_plain rfl (acts_move (d := 95) (ltN rfl) (OpX.tmp 94 (V.v (.bool false))))) (by kernel_rfl) ?_
                refine wpc (step_off (dj := 95) (b' := false) rfl rfl (by decide) rfl (ltN rfl)) (by kernel_rfl) ?_
                refine wpc (step_off (dj := 95) (b' := false) rfl rfl (by decide) rfl (ltN rfl)) (by kernel_rfl) ?_
                refine wpc (step_off (dj := 95) (b' := false) rfl rfl (by decide) rfl (ltN rfl)) (by kernel_rfl) ?_
                refine wpc (step_plain rfl (acts_pick_f (d := 99) (ltN rfl) (OpV.tmp 95 (.bool false)) (OpX.const (.bool false)))) (by kernel_rfl) ?_
                refine wpl_nil ?_
                refine wp_if_f (t := 99) (by kernel_rfl) ?_
                refine wp_skip' ?_
                refine wp_seq' ?_
                refine wp_region_t ?_
                refine wpc (step_plain rfl (acts_field (d := 115) (t := 7) (h := 7) (off := 0) (off' := 0) (ltN rfl) qC12_fo_39_0 rfl)) (by kernel_rfl) ?_
                refine wpc (step_plain rfl (acts_load_own (d := 116) (t := 115) (h := 7) (off := 0) (o := ⟨39, 2, true, [(.val (.int .i64 ((cN i).x)) : A), .val (.int .i64 ((cN i).y))]⟩)  (x := .val (.int .i64 ((cN i).x))) (ltN rfl) qC12_ti_3 rfl)) (by kernel_rfl) ?_
                refine wpc (step_plain rfl (acts_bin (d := 117) (ltN rfl) (OpV.tmp 116 (.int .i64 ((cN i).x))) (OpV.const (.int .i64 1)) (r_add (c := ((cN i).x + 1)) (w64 (by omega) (by omega))))) (by kernel_rfl) ?_
                refine wpc (step_plain rfl (acts_field (d := 118) (t := 7) (h := 7) (off := 0) (off' := 1) (ltN rfl) qC12_fo_39_1 rfl)) (by kernel_rfl) ?_
                refine wpc (step_plain rfl (acts_load_own (d := 119) (t := 118) (h := 7) (off := 1) (o := ⟨39, 2, true, [(.val (.int .i64 ((cN i).x)) : A), .val (.int .i64 ((cN i).y))]⟩)  (x := .val (.int .i64 ((cN i).y))) (ltN rfl) qC12_ti_3 rfl)) (by kernel_rfl) ?_
                refine wpc (step_plain rfl (acts_build (d := 120) (t := 39) (cells := [(.int .i64 ((cN i).x + 1) : Value), .int .i64 ((cN i).y)]) (ltN rfl) (OpVs.cons (i := 0) (OpV.tmp 117 (.int .i64 ((cN i).x + 1))) (OpVs.cons (i := 1) (OpV.tmp 119 (.int .i64 ((cN i).y))) (OpVs.nil))) rfl)) (by kernel_rfl) ?_
                refine wpc (step_plain rfl (acts_alloc' (d := 15) (h := 15) (cap := 1) (s := 2) (cells := [(.val (.int .i64 0) : A), .val (.int .i64 0)]) (ltN rfl) qC12_zi_39 rfl rfl (by decide))) (by kernel_rfl) ?_
                refine wpc (step_plain rfl (acts_store (t := 15) (h := 15) (off := 0) (o := ⟨39, 2, true, [(.val (.int .i64 0) : A), .val (.int .i64 0)]⟩) (b := .agg ([(.int .i64 ((cN i).x + 1) : Value), .int .i64 ((cN i).y)].map A.val)) (cells := [(.val (.int .i64 ((cN i).x + 1)) : A), .val (.int .i64 ((cN i).y))]) qC12_ti_39 (OpX.tmp 120 (V.av [(.int .i64 ((cN i).x + 1) : Value), .int .i64 ((cN i).y)])) rfl (by decide) (by intro y hy; simp [B.cs] at hy; rcases hy with rfl | rfl <;> rfl) (Nat.le_of_ble_eq_true rfl) rfl)) (by kernel_rfl) ?_
                refine wpl_nil ?_
                refine wp_seq' ?_
                rcases Bool.eq_false_or_eq_true ((okc ((cN i).x + 1) ((cN i).y))) with c27 | c27
                · skip
                  have hO2 := c27
                  rcases Bool.eq_false_or_eq_true ((hasR l (⟨((cN i).x + 1), (cN i).y⟩ : Cel))) with c28 | c28
                  · skip
                    have hR : rtB (regSet l) i = true := rt_okR ho (by omega) hO2 c28
                    have hr7 := rt_lt hR
                    have ho2 : (k ||| 2 ^ (i % 8 + 1)) < 256 := or_lt (by omega) hr7
                    have hb3 := hbt _ ho2
                    have hb4 := rt_bd2 (s := regSet l) (i := i) (k := k) (by omega) (by omega) hR
                    unfold putI at hb4
                    refine wp_region_t ?_
                    refine wpc (step_plain rfl (acts_load_owns (d := 121) (t := 15) (h := 15) (off := 0) (o := ⟨39, 2, true, [(.val (.int .i64 ((cN i).x + 1)) : A), .val (.int .i64 ((cN i).y))]⟩)  (xs := [(.int .i64 ((cN i).x + 1) : Value), .int .i64 ((cN i).y)].map A.val) (ltN rfl) qC12_ti_39 rfl (by decide) rfl)) (by kernel_rfl) ?_
                    refine wpc (step_plain rfl (acts_call1 (d := 122) (ltN rfl) (spec_CellOk_fn (⟨((cN i).x + 1), (cN i).y⟩ : Cel) ) (ArgVs.cons (ArgV.va (vs := [(.int .i64 ((cN i).x + 1) : Value), .int .i64 ((cN i).y)]) (OpV.agg 121 [(.int .i64 ((cN i).x + 1) : Value), .int .i64 ((cN i).y)])) (ArgVs.nil)) ((resval (congrArg Value.bool c27))))) (by kernel_rfl) ?_
                    refine wpc (step_plain rfl (acts_move (d := 123) (ltN rfl) (OpX.tmp 122 (V.v (.bool true))))) (by kernel_rfl) ?_
                    refine wpc (step_on (dj := 123) rfl rfl (acts_load_owns (d := 124) (t := 1) (h := 1) (off := 0) (o := ⟨30, 1, true, [(.slv l.length 1 (isl l) : A)]⟩)  (xs := [(.slv l.length 1 (isl l) : A)]) (ltN rfl) qC12_ti_30 rfl (by decide) rfl)) (by kernel_rfl) ?_
                    refine wpc (step_on (dj := 123) rfl rfl (acts_load_owns (d := 125) (t := 15) (h := 15) (off := 0) (o := ⟨39, 2, true, [(.val (.int .i64 ((cN i).x + 1)) : A), .val (.int .i64 ((cN i).y))]⟩)  (xs := [(.int .i64 ((cN i).x + 1) : Value), .int .i64 ((cN i).y)].map A.val) (ltN rfl) qC12_ti_39 rfl (by decide) rfl)) (by kernel_rfl) ?_
                    refine wpc (step_on (dj := 123) rfl rfl (acts_call1 (d := 126) (ltN rfl) (spec_l03Has_fn l (⟨((cN i).x + 1), (cN i).y⟩ : Cel) (by omega) (by omega)) (ArgVs.cons (ArgV.regv 124 l.length 1 (isl l)) (ArgVs.cons (ArgV.va (vs := [(.int .i64 ((cN i).x + 1) : Value), .int .i64 ((cN i).y)]) (OpV.agg 125 [(.int .i64 ((cN i).x + 1) : Value), .int .i64 ((cN i).y)])) (ArgVs.nil))) ((resval (congrArg Value.bool c28))))) (by kernel_rfl) ?_
                    refine wpc (step_plain rfl (acts_pick_t (d := 127) (ltN rfl) (OpV.tmp 123 (.bool true)) (OpX.tmp 126 (V.v (.bool true))))) (by kernel_rfl) ?_
                    refine wpc (step_plain rfl (acts_move (d := 128) (ltN rfl) (OpX.tmp 127 (V.v (.bool true))))) (by kernel_rfl) ?_
                    refine wpc (step_on (dj := 128) rfl rfl (acts_move (d := 129) (ltN rfl) (OpX.tmp 10 (V.v (.int .i64 ((k : Nat) : Int)))))) (by kernel_rfl) ?_
                    refine wpc (step_on (dj := 128) rfl rfl (acts_move (d := 130) (ltN rfl) (OpX.tmp 6 (V.v (.int .i64 (((i % 8) : Nat) : Int)))))) (by kernel_rfl) ?_
                    refine wpc (step_on (dj := 128) rfl rfl (acts_bin (d := 131) (ltN rfl) (OpV.tmp 130 (.int .i64 (((i % 8) : Nat) : Int))) (OpV.const (.int .i64 1)) (r_add (c := ((((i % 8) : Nat) : Int) + 1)) (w64 (by omega) (by omega))))) (by kernel_rfl) ?_
                    refine wpc (step_on (dj := 128) rfl rfl (acts_bin (d := 132) (ltN rfl) (OpV.tmp 129 (.int .i64 ((k : Nat) : Int))) (OpV.tmp 131 (.int .i64 ((((i % 8) : Nat) : Int) + 1))) (r_shr (c := (((k >>> ((i % 8) + 1)) : Nat) : Int)) (by omega) (shrU (m := k) (n := ((i % 8) + 1)) rfl (by rfl) (by omega) rfl)))) (by kernel_rfl) ?_
                    refine wpc (step_on (dj := 128) rfl rfl (acts_bin (d := 133) (ltN rfl) (OpV.tmp 132 (.int .i64 (((k >>> ((i % 8) + 1)) : Nat) : Int))) (OpV.const (.int .i64 1)) (r_and (c := ((((k >>> ((i % 8) + 1)) &&& 1) : Nat) : Int)) (andI (m := (k >>> ((i % 8) + 1))) (n := 1) rfl rfl (by exact Nat.lt_of_le_of_lt (shr_le _ _) (by first | omega | assumption | (first | omega | assumption | exact cN_ok (by omega) | exact regSet_lt ho | (simp only [List.length_set]; omega)))) (by omega))))) (by kernel_rfl) ?_
                    refine wpc (step_on (dj := 128) rfl rfl (acts_bin (d := 134) (ltN rfl) (OpV.tmp 133 (.int .i64 ((((k >>> ((i % 8) + 1)) &&& 1) : Nat) : Int))) (OpV.const (.int .i64 0)) (r_eql (c := (!(k.testBit ((i % 8) + 1)))) (bit_zero _ _)))) (by kernel_rfl) ?_
                    refine wpc (step_plain rfl (acts_pick_t (d := 135) (ltN rfl) (OpV.tmp 128 (.bool true)) (OpX.tmp 134 (V.v (.bool (!(k.testBit ((i % 8) + 1)))))))) (by kernel_rfl) ?_
                    refine wpl_nil ?_
                    refine wp_if (t := 135) ((!(k.testBit ((i % 8) + 1)))) (by kernel_rfl) (fun c29 => ?_) (fun c29 => ?_)
                    · skip
                      have c30 : (k.testBit ((i % 8) + 1)) = false := by simpa using c29
                      have hK1 : k.testBit (i % 8 + 1) = false := c30
                      refine wp_drawn' (by kernel_rfl) (AllSteps.cons (step_plain rfl (acts_move (d := 136) (ltN rfl) (OpX.tmp 9 (V.b (.a (.sl 38 0 256)))))) (AllSteps.cons (step_plain rfl (acts_move (d := 137) (ltN rfl) (OpX.tmp 10 (V.v (.int .i64 ((k : Nat) : Int)))))) (AllSteps.cons (step_plain rfl (acts_move (d := 138) (ltN rfl) (OpX.tmp 6 (V.v (.int .i64 (((i % 8) : Nat) : Int)))))) (AllSteps.cons (step_plain rfl (acts_bin (d := 139) (ltN rfl) (OpV.tmp 138 (.int .i64 (((i % 8) : Nat) : Int))) (OpV.const (.int .i64 1)) (r_add (c := ((((i % 8) : Nat) : Int) + 1)) (w64 (by omega) (by omega))))) (AllSteps.cons (step_plain rfl (acts_bin (d := 140) (ltN rfl) (OpV.const (.int .i64 1)) (OpV.tmp 139 (.int .i64 ((((i % 8) : Nat) : Int) + 1))) (r_shl (c := (((2 ^ ((i % 8) + 1)) : Nat) : Int)) (by omega) (shl1I (n := ((i % 8) + 1)) (by rfl) (by omega))))) (AllSteps.cons (step_plain rfl (acts_bin (d := 141) (ltN rfl) (OpV.tmp 137 (.int .i64 ((k : Nat) : Int))) (OpV.tmp 140 (.int .i64 (((2 ^ ((i % 8) + 1)) : Nat) : Int))) (r_or (c := (((k ||| (2 ^ ((i % 8) + 1))) : Nat) : Int)) (orI (m := k) (n := (2 ^ ((i % 8) + 1))) rfl rfl (by omega) (by omega))))) (AllSteps.cons (step_plain rfl (acts_move (d := 142) (ltN rfl) (OpX.tmp 9 (V.b (.a (.sl 38 0 256)))))) (AllSteps.cons (step_plain rfl (acts_move (d := 143) (ltN rfl) (OpX.tmp 10 (V.v (.int .i64 ((k : Nat) : Int)))))) (AllSteps.cons (step_plain rfl (acts_move (d := 144) (ltN rfl) (OpX.tmp 6 (V.v (.int .i64 (((i % 8) : Nat) : Int)))))) (AllSteps.cons (step_plain rfl (acts_bin (d := 145) (ltN rfl) (OpV.tmp 144 (.int .i64 (((i % 8) : Nat) : Int))) (OpV.const (.int .i64 1)) (r_add (c := ((((i % 8) : Nat) : Int) + 1)) (w64 (by omega) (by omega))))) (AllSteps.cons (step_plain rfl (acts_bin (d := 146) (ltN rfl) (OpV.const (.int .i64 1)) (OpV.tmp 145 (.int .i64 ((((i % 8) : Nat) : Int) + 1))) (r_shl (c := (((2 ^ ((i % 8) + 1)) : Nat) : Int)) (by omega) (shl1I (n := ((i % 8) + 1)) (by rfl) (by omega))))) (AllSteps.cons (step_plain rfl (acts_bin (d := 147) (ltN rfl) (OpV.tmp 143 (.int .i64 ((k : Nat) : Int))) (OpV.tmp 146 (.int .i64 (((2 ^ ((i % 8) + 1)) : Nat) : Int))) (r_or (c := (((k ||| (2 ^ ((i % 8) + 1))) : Nat) : Int)) (orI (m := k) (n := (2 ^ ((i % 8) + 1))) rfl rfl (by omega) (by omega))))) (AllSteps.cons (step_plain rfl (acts_index_sl (d := 148) (x := 142) (h := 38) (off := 0) (n := 256) (k := (k ||| (2 ^ ((i % 8) + 1)))) (off' := ((k ||| (2 ^ ((i % 8) + 1))) * 1)) (o := ⟨3, 1, true, pl (isl (stepT (regSet l) i (prof (regSet l) i) k))⟩) (ltN rfl) qC12_un_22 qC12_sz_3 (OpV.tmp 147 (.int .i64 (((k ||| (2 ^ ((i % 8) + 1))) : Nat) : Int))) rfl (by omega) (by (simp; done)))) (AllSteps.cons (step_plain rfl (acts_load_own (d := 149) (t := 148) (h := 38) (off := ((k ||| (2 ^ ((i % 8) + 1))) * 1)) (o := ⟨3, 1, true, pl (isl (stepT (regSet l) i (prof (regSet l) i) k))⟩)  (x := .val (.int .i64 (gI (stepT (regSet l) i (prof (regSet l) i) k) (k ||| (2 ^ ((i % 8) + 1)))))) (ltN rfl) qC12_ti_3 (pl_get (isl_get1 (k := (k ||| (2 ^ ((i % 8) + 1)))) (by omega))))) (AllSteps.cons (step_plain rfl (acts_move (d := 150) (ltN rfl) (OpX.tmp 11 (V.v (.int .i64 (gI (prof (regSet l) i) k)))))) (AllSteps.cons (step_plain rfl (acts_bin (d := 151) (ltN rfl) (OpV.tmp 149 (.int .i64 (gI (stepT (regSet l) i (prof (regSet l) i) k) (k ||| (2 ^ ((i % 8) + 1)))))) (OpV.tmp 150 (.int .i64 (gI (prof (regSet l) i) k))) (r_add (c := ((gI (stepT (regSet l) i (prof (regSet l) i) k) (k ||| (2 ^ ((i % 8) + 1)))) + (gI (prof (regSet l) i) k))) (w64 (by omega) (by omega))))) (AllSteps.cons (step_plain rfl (acts_index_sl (d := 152) (x := 136) (h := 38) (off := 0) (n := 256) (k := (k ||| (2 ^ ((i % 8) + 1)))) (off' := ((k ||| (2 ^ ((i % 8) + 1))) * 1)) (o := ⟨3, 1, true, pl (isl (stepT (regSet l) i (prof (regSet l) i) k))⟩) (ltN rfl) qC12_un_22 qC12_sz_3 (OpV.tmp 141 (.int .i64 (((k ||| (2 ^ ((i % 8) + 1))) : Nat) : Int))) rfl (by omega) (by (simp; done)))) (AllSteps.cons (step_plain rfl (acts_store (t := 152) (h := 38) (off := ((k ||| (2 ^ ((i % 8) + 1))) * 1)) (o := ⟨3, 1, true, pl (isl (stepT (regSet l) i (prof (regSet l) i) k))⟩) (b := .a (.val (.int .i64 ((gI (stepT (regSet l) i (prof (regSet l) i) k) (k ||| (2 ^ ((i % 8) + 1)))) + (gI (prof (regSet l) i) k))))) (cells := pl (isl ((stepT (regSet l) i (prof (regSet l) i) k).set (k ||| (2 ^ ((i % 8) + 1))) ((gI (stepT (regSet l) i (prof (regSet l) i) k) (k ||| (2 ^ ((i % 8) + 1)))) + (gI (prof (regSet l) i) k))))) qC12_ti_3 (OpX.tmp 151 (V.v (.int .i64 ((gI (stepT (regSet l) i (prof (regSet l) i) k) (k ||| (2 ^ ((i % 8) + 1)))) + (gI (prof (regSet l) i) k))))) rfl (by decide) (by intro y hy; simp [B.cs] at hy; subst hy; rfl) (by simp only [pl_len, isl_len]; first | omega | assumption | exact cN_ok (by omega) | exact regSet_lt ho | (simp only [List.length_set]; omega)) (isl_put (k := (k ||| (2 ^ ((i % 8) + 1)))) (by omega)))) (AllSteps.nil))))))))))))))))))) (by kernel_rfl) (by kernel_rfl) (by kernel_rfl) ?_
                      refine wp_region_t ?_
                      refine wpc (step_plain rfl (acts_move (d := 43) (ltN rfl) (OpX.tmp 10 (V.v (.int .i64 ((k : Nat) : Int)))))) (by kernel_rfl) ?_
                      refine wpc (step_plain rfl (acts_bin (d := 44) (ltN rfl) (OpV.tmp 43 (.int .i64 ((k : Nat) : Int))) (OpV.const (.int .i64 1)) (r_add (c := (((k : Nat) : Int) + 1)) (w64 (by omega) (by omega))))) (by kernel_rfl) ?_
                      refine wpc (step_plain rfl (acts_assign (d := 10) (ltN rfl) (OpX.tmp 44 (V.v (.int .i64 (((k : Nat) : Int) + 1)))))) (by kernel_rfl) ?_
                      refine wpl_nil ?_
                      exact loop_back ((k + 1)) (by show _ ≤ _; omega) (by show 256 - (k + 1) < 256 - k; omega) (weak_of id [14, 15, 33, 41, 64, 94, 98, 122, 126] (by kernel_rfl) (wk_s (v' := V.p 1 0) (by kernel_rfl) rfl rfl (wk_s (v' := V.v (.int .i64 8)) (by kernel_rfl) rfl rfl (wk_s (v' := V.b (.a (.sl 18 0 ((prof (regSet l) i).length)))) (by kernel_rfl) rfl rfl (wk_s (v' := V.v (.int .i64 ((i : Nat) : Int))) (by kernel_rfl) rfl rfl (wk_s (v' := V.v (.int .i64 (((i % 8) : Nat) : Int))) (by kernel_rfl) rfl rfl (wk_s (v' := V.p 7 0) (by kernel_rfl) rfl rfl (wk_s (v' := V.b (.a (.sl 38 0 256))) (by kernel_rfl) rfl rfl (wk_s (v' := V.v (.int .i64 (((k : Nat) : Int) + 1))) (by kernel_rfl) (vint (by rfl)) rfl (wk_o (o' := ⟨30, 1, true, [(.slv l.length 1 (isl l) : A)]⟩) (by kernel_rfl) (renob_l (fun h => h) rfl rfl) rfl (wk_o (o' := ⟨39, 2, true, [(.val (.int .i64 ((cN i).x)) : A), .val (.int .i64 ((cN i).y))]⟩) (by kernel_rfl) (renob_l (fun h => h) rfl rfl) rfl (wk_o (o' := ⟨3, 1, true, pl (isl (prof (regSet l) i))⟩) (by kernel_rfl) (renob_pl (fun h => h)) rfl (wk_o (o' := ⟨3, 1, true, pl (isl ((stepT (regSet l) i (prof (regSet l) i) k).set (k ||| (2 ^ ((i % 8) + 1))) ((gI (stepT (regSet l) i (prof (regSet l) i) k) (k ||| (2 ^ ((i % 8) + 1)))) + (gI (prof (regSet l) i) k))))⟩) (by kernel_rfl) (renob_eq (fun h => h) (congrArg isl (by (rw [stepT_snoc, sk_c hN hS hK]; simp only [hD, hR, hK1, shl_one, Bool.true_and, Bool.false_and, Bool.not_false, Bool.not_true, if_true, if_false, Bool.false_eq_true]; first | done | rfl)))) rfl (wk_f rfl (wk_f rfl (wk_f rfl (wk_f rfl (wk_f rfl (wk_f rfl (wk_f rfl (wk_f rfl (wk_f rfl (wk_nil)))))))))))))))))))))))
                    · skip
                      have c31 : (k.testBit ((i % 8) + 1)) = true := by simpa using c29
                      have hK1 : k.testBit (i % 8 + 1) = true := c31
                      refine wp_skip' ?_
                      refine wp_region_t ?_
                      refine wpc (step_plain rfl (acts_move (d := 43) (ltN rfl) (OpX.tmp 10 (V.v (.int .i64 ((k : Nat) : Int)))))) (by kernel_rfl) ?_
                      refine wpc (step_plain rfl (acts_bin (d := 44) (ltN rfl) (OpV.tmp 43 (.int .i64 ((k : Nat) : Int))) (OpV.const (.int .i64 1)) (r_add (c := (((k : Nat) : Int) + 1)) (w64 (by omega) (by omega))))) (by kernel_rfl) ?_
                      refine wpc (step_plain rfl (acts_assign (d := 10) (ltN rfl) (OpX.tmp 44 (V.v (.int .i64 (((k : Nat) : Int) + 1)))))) (by kernel_rfl) ?_
                      refine wpl_nil ?_
                      exact loop_back ((k + 1)) (by show _ ≤ _; omega) (by show 256 - (k + 1) < 256 - k; omega) (weak_of id [14, 15, 33, 41, 64, 94, 98, 122, 126] (by kernel_rfl) (wk_s (v' := V.p 1 0) (by kernel_rfl) rfl rfl (wk_s (v' := V.v (.int .i64 8)) (by kernel_rfl) rfl rfl (wk_s (v' := V.b (.a (.sl 18 0 ((prof (regSet l) i).length)))) (by kernel_rfl) rfl rfl (wk_s (v' := V.v (.int .i64 ((i : Nat) : Int))) (by kernel_rfl) rfl rfl (wk_s (v' := V.v (.int .i64 (((i % 8) : Nat) : Int))) (by kernel_rfl) rfl rfl (wk_s (v' := V.p 7 0) (by kernel_rfl) rfl rfl (wk_s (v' := V.b (.a (.sl 38 0 256))) (by kernel_rfl) rfl rfl (wk_s (v' := V.v (.int .i64 (((k : Nat) : Int) + 1))) (by kernel_rfl) (vint (by rfl)) rfl (wk_o (o' := ⟨30, 1, true, [(.slv l.length 1 (isl l) : A)]⟩) (by kernel_rfl) (renob_l (fun h => h) rfl rfl) rfl (wk_o (o' := ⟨39, 2, true, [(.val (.int .i64 ((cN i).x)) : A), .val (.int .i64 ((cN i).y))]⟩) (by kernel_rfl) (renob_l (fun h => h) rfl rfl) rfl (wk_o (o' := ⟨3, 1, true, pl (isl (prof (regSet l) i))⟩) (by kernel_rfl) (renob_pl (fun h => h)) rfl (wk_o (o' := ⟨3, 1, true, pl (isl (stepT (regSet l) i (prof (regSet l) i) k))⟩) (by kernel_rfl) (renob_eq (fun h => h) (congrArg isl (by (rw [stepT_snoc, sk_c hN hS hK]; simp only [hD, hR, hK1, shl_one, Bool.true_and, Bool.false_and, Bool.not_false, Bool.not_true, if_true, if_false, Bool.false_eq_true]; first | done | rfl)))) rfl (wk_f rfl (wk_f rfl (wk_f rfl (wk_f rfl (wk_f rfl (wk_f rfl (wk_f rfl (wk_f rfl (wk_f rfl (wk_nil)))))))))))))))))))))))
                  · skip
                    have hR : rtB (regSet l) i = false := rt_okR ho (by omega) hO2 c28
                    refine wp_region_t ?_
                    refine wpc (step_plain rfl (acts_load_owns (d := 121) (t := 15) (h := 15) (off := 0) (o := ⟨39, 2, true, [(.val (.int .i64 ((cN i).x + 1)) : A), .val (.int .i64 ((cN i).y))]⟩)  (xs := [(.int .i64 ((cN i).x + 1) : Value), .int .i64 ((cN i).y)].map A.val) (ltN rfl) qC12_ti_39 rfl (by decide) rfl)) (by kernel_rfl) ?_
                    refine wpc (step_plain rfl (acts_call1 (d := 122) (ltN rfl) (spec_CellOk_fn (⟨((cN i).x + 1), (cN i).y⟩ : Cel) ) (ArgVs.cons (ArgV.va (vs := [(.int .i64 ((cN i).x + 1) : Value), .int .i64 ((cN i).y)]) (OpV.agg 121 [(.int .i64 ((cN i).x + 1) : Value), .int .i64 ((cN i).y)])) (ArgVs.nil)) ((resval (congrArg Value.bool c27))))) (by kernel_rfl) ?_
                    refine wpc (step_plain rfl (acts_move (d := 123) (ltN rfl) (OpX.tmp 122 (V.v (.bool true))))) (by kernel_rfl) ?_
                    refine wpc (step_on (dj := 123) rfl rfl (acts_load_owns (d := 124) (t := 1) (h := 1) (off := 0) (o := ⟨30, 1, true, [(.slv l.length 1 (isl l) : A)]⟩)  (xs := [(.slv l.length 1 (isl l) : A)]) (ltN rfl) qC12_ti_30 rfl (by decide) rfl)) (by kernel_rfl) ?_
                    refine wpc (step_on (dj := 123) rfl rfl (acts_load_owns (d := 125) (t := 15) (h := 15) (off := 0) (o := ⟨39, 2, true, [(.val (.int .i64 ((cN i).x + 1)) : A), .val (.int .i64 ((cN i).y))]⟩)  (xs := [(.int .i64 ((cN i).x + 1) : Value), .int .i64 ((cN i).y)].map A.val) (ltN rfl) qC12_ti_39 rfl (by decide) rfl)) (by kernel_rfl) ?_
                    refine wpc (step_on (dj := 123) rfl rfl (acts_call1 (d := 126) (ltN rfl) (spec_l03Has_fn l (⟨((cN i).x + 1), (cN i).y⟩ : Cel) (by omega) (by omega)) (ArgVs.cons (ArgV.regv 124 l.length 1 (isl l)) (ArgVs.cons (ArgV.va (vs := [(.int .i64 ((cN i).x + 1) : Value), .int .i64 ((cN i).y)]) (OpV.agg 125 [(.int .i64 ((cN i).x + 1) : Value), .int .i64 ((cN i).y)])) (ArgVs.nil))) ((resval (congrArg Value.bool c28))))) (by kernel_rfl) ?_
                    refine wpc (step_plain rfl (acts_pick_t (d := 127) (ltN rfl) (OpV.tmp 123 (.bool true)) (OpX.tmp 126 (V.v (.bool false))))) (by kernel_rfl) ?_
                    refine wpc (step_plain rfl (acts_move (d := 128) (ltN rfl) (OpX.tmp 127 (V.v (.bool false))))) (by kernel_rfl) ?_
                    refine wpc (step_off (dj := 128) (b' := false) rfl rfl (by decide) rfl (ltN rfl)) (by kernel_rfl) ?_
                    refine wpc (step_off (dj := 128) (b' := false) rfl rfl (by decide) rfl (ltN rfl)) (by kernel_rfl) ?_
                    refine wpc (step_off (dj := 128) (b' := false) rfl rfl (by decide) rfl (ltN rfl)) (by kernel_rfl) ?_
                    refine wpc (step_off (dj := 128) (b' := false) rfl rfl (by decide) rfl (ltN rfl)) (by kernel_rfl) ?_
                    refine wpc (step_off (dj := 128) (b' := false) rfl rfl (by decide) rfl (ltN rfl)) (by kernel_rfl) ?_
                    refine wpc (step_off (dj := 128) (b' := false) rfl rfl (by decide) rfl (ltN rfl)) (by kernel_rfl) ?_
                    refine wpc (step_plain rfl (acts_pick_f (d := 135) (ltN rfl) (OpV.tmp 128 (.bool false)) (OpX.const (.bool false)))) (by kernel_rfl) ?_
                    refine wpl_nil ?_
                    refine wp_if_f (t := 135) (by kernel_rfl) ?_
                    refine wp_skip' ?_
                    refine wp_region_t ?_
                    refine wpc (step_plain rfl (acts_move (d := 43) (ltN rfl) (OpX.tmp 10 (V.v (.int .i64 ((k : Nat) : Int)))))) (by kernel_rfl) ?_
                    refine wpc (step_plain rfl (acts_bin (d := 44) (ltN rfl) (OpV.tmp 43 (.int .i64 ((k : Nat) : Int))) (OpV.const (.int .i64 1)) (r_add (c := (((k : Nat) : Int) + 1)) (w64 (by omega) (by omega))))) (by kernel_rfl) ?_
                    refine wpc (step_plain rfl (acts_assign (d := 10) (ltN rfl) (OpX.tmp 44 (V.v (.int .i64 (((k : Nat) : Int) + 1)))))) (by kernel_rfl) ?_
                    refine wpl_nil ?_
                    exact loop_back ((k + 1)) (by show _ ≤ _; omega) (by show 256 - (k + 1) < 256 - k; omega) (weak_of id [14, 15, 33, 41, 64, 94, 98, 122, 126] (by kernel_rfl) (wk_s (v' := V.p 1 0) (by kernel_rfl) rfl rfl (wk_s (v' := V.v (.int .i64 8)) (by kernel_rfl) rfl rfl (wk_s (v' := V.b (.a (.sl 18 0 ((prof (regSet l) i).length)))) (by kernel_rfl) rfl rfl (wk_s (v' := V.v (.int .i64 ((i : Nat) : Int))) (by kernel_rfl) rfl rfl (wk_s (v' := V.v (.int .i64 (((i % 8) : Nat) : Int))) (by kernel_rfl) rfl rfl (wk_s (v' := V.p 7 0) (by kernel_rfl) rfl rfl (wk_s (v' := V.b (.a (.sl 38 0 256))) (by kernel_rfl) rfl rfl (wk_s (v' := V.v (.int .i64 (((k : Nat) : Int) + 1))) (by kernel_rfl) (vint (by rfl)) rfl (wk_o (o' := ⟨30, 1, true, [(.slv l.length 1 (isl l) : A)]⟩) (by kernel_rfl) (renob_l (fun h => h) rfl rfl) rfl (wk_o (o' := ⟨39, 2, true, [(.val (.int .i64 ((cN i).x)) : A), .val (.int .i64 ((cN i).y))]⟩) (by kernel_rfl) (renob_l (fun h => h) rfl rfl) rfl (wk_o (o' := ⟨3, 1, true, pl (isl (prof (regSet l) i))⟩) (by kernel_rfl) (renob_pl (fun h => h)) rfl (wk_o (o' := ⟨3, 1, true, pl (isl (stepT (regSet l) i (prof (regSet l) i) k))⟩) (by kernel_rfl) (renob_eq (fun h => h) (congrArg isl (by (rw [stepT_snoc, sk_c hN hS hK]; simp only [hD, hR, shl_one, Bool.true_and, Bool.false_and, Bool.not_false, Bool.not_true, if_true, if_false, Bool.false_eq_true]; first | done | rfl)))) rfl (wk_f rfl (wk_f rfl (wk_f rfl (wk_f rfl (wk_f rfl (wk_f rfl (wk_f rfl (wk_f rfl (wk_f rfl (wk_nil)))))))))))))))))))))))
                · skip
                  have hR : rtB (regSet l) i = false := rt_no (by omega) c27
                  refine wp_region_t ?_
                  refine wpc (step_plain rfl (acts_load_owns (d := 121) (t := 15) (h := 15) (off := 0) (o := ⟨39, 2, true, [(.val (.int .i64 ((cN i).x + 1)) : A), .val (.int .i64 ((cN i).y))]⟩)  (xs := [(.int .i64 ((cN i).x + 1) : Value), .int .i64 ((cN i).y)].map A.val) (ltN rfl) qC12_ti_39 rfl (by decide) rfl)) (by kernel_rfl) ?_
                  refine wpc (step_plain rfl (acts_call1 (d := 122) (ltN rfl) (spec_CellOk_fn (⟨((cN i).x + 1), (cN i).y⟩ : Cel) ) (ArgVs.cons (ArgV.va (vs := [(.int .i64 ((cN i).x + 1) : Value), .int .i64 ((cN i).y)]) (OpV.agg 121 [(.int .i64 ((cN i).x + 1) : Value), .int .i64 ((cN i).y)])) (ArgVs.nil)) ((resval (congrArg Value.bool c27))))) (by kernel_rfl) ?_
                  refine wpc (step_plain rfl (acts_move (d := 123) (ltN rfl) (OpX.tmp 122 (V.v (.bool false))))) (by kernel_rfl) ?_
                  refine wpc (step_off (dj := 123) (b' := false) rfl rfl (by decide) rfl (ltN rfl)) (by kernel_rfl) ?_
                  refine wpc (step_off (dj := 123) (b' := false) rfl rfl (by decide) rfl (ltN rfl)) (by kernel_rfl) ?_
                  refine wpc (step_off (dj := 123) (b' := false) rfl rfl (by decide) rfl (ltN rfl)) (by kernel_rfl) ?_
                  refine wpc (step_plain rfl (acts_pick_f (d := 127) (ltN rfl) (OpV.tmp 123 (.bool false)) (OpX.const (.bool false)))) (by kernel_rfl) ?_
                  refine wpc (step_plain rfl (acts_move (d := 128) (ltN rfl) (OpX.tmp 127 (V.v (.bool false))))) (by kernel_rfl) ?_
                  refine wpc (step_off (dj := 128) (b' := false) rfl rfl (by decide) rfl (ltN rfl)) (by kernel_rfl) ?_
                  refine wpc (step_off (dj := 128) (b' := false) rfl rfl (by decide) rfl (ltN rfl)) (by kernel_rfl) ?_
                  refine wpc (step_off (dj := 128) (b' := false) rfl rfl (by decide) rfl (ltN rfl)) (by kernel_rfl) ?_
                  refine wpc (step_off (dj := 128) (b' := false) rfl rfl (by decide) rfl (ltN rfl)) (by kernel_rfl) ?_
                  refine wpc (step_off (dj := 128) (b' := false) rfl rfl (by decide) rfl (ltN rfl)) (by kernel_rfl) ?_
                  refine wpc (step_off (dj := 128) (b' := false) rfl rfl (by decide) rfl (ltN rfl)) (by kernel_rfl) ?_
                  refine wpc (step_plain rfl (acts_pick_f (d := 135) (ltN rfl) (OpV.tmp 128 (.bool false)) (OpX.const (.bool false)))) (by kernel_rfl) ?_
                  refine wpl_nil ?_
                  refine wp_if_f (t := 135) (by kernel_rfl) ?_
                  refine wp_skip' ?_
                  refine wp_region_t ?_
                  refine wpc (step_plain rfl (acts_move (d := 43) (ltN rfl) (OpX.tmp 10 (V.v (.int .i64 ((k : Nat) : Int)))))) (by kernel_rfl) ?_
                  refine wpc (step_plain rfl (acts_bin (d := 44) (ltN rfl) (OpV.tmp 43 (.int .i64 ((k : Nat) : Int))) (OpV.const (.int .i64 1)) (r_add (c := (((k : Nat) : Int) + 1)) (w64 (by omega) (by omega))))) (by kernel_rfl) ?_
                  refine wpc (step_plain rfl (acts_assign (d := 10) (ltN rfl) (OpX.tmp 44 (V.v (.int .i64 (((k : Nat) : Int) + 1)))))) (by kernel_rfl) ?_
                  refine wpl_nil ?_
                  exact loop_back ((k + 1)) (by show _ ≤ _; omega) (by show 256 - (k + 1) < 256 - k; omega) (weak_of id [14, 15, 33, 41, 64, 94, 98, 122, 126] (by kernel_rfl) (wk_s (v' := V.p 1 0) (by kernel_rfl) rfl rfl (wk_s (v' := V.v (.int .i64 8)) (by kernel_rfl) rfl rfl (wk_s (v' := V.b (.a (.sl 18 0 ((prof (regSet l) i).length)))) (by kernel_rfl) rfl rfl (wk_s (v' := V.v (.int .i64 ((i : Nat) : Int))) (by kernel_rfl) rfl rfl (wk_s (v' := V.v (.int .i64 (((i % 8) : Nat) : Int))) (by kernel_rfl) rfl rfl (wk_s (v' := V.p 7 0) (by kernel_rfl) rfl rfl (wk_s (v' := V.b (.a (.sl 38 0 256))) (by kernel_rfl) rfl rfl (wk_s (v' := V.v (.int .i64 (((k : Nat) : Int) + 1))) (by kernel_rfl) (vint (by rfl)) rfl (wk_o (o' := ⟨30, 1, true, [(.slv l.length 1 (isl l) : A)]⟩) (by kernel_rfl) (renob_l (fun h => h) rfl rfl) rfl (wk_o (o' := ⟨39, 2, true, [(.val (.int .i64 ((cN i).x)) : A), .val (.int .i64 ((cN i).y))]⟩) (by kernel_rfl) (renob_l (fun h => h) rfl rfl) rfl (wk_o (o' := ⟨3, 1, true, pl (isl (prof (regSet l) i))⟩) (by kernel_rfl) (renob_pl (fun h => h)) rfl (wk_o (o' := ⟨3, 1, true, pl (isl (stepT (regSet l) i (prof (regSet l) i) k))⟩) (by kernel_rfl) (renob_eq (fun h => h) (congrArg isl (by (rw [stepT_snoc, sk_c hN hS hK]; simp only [hD, hR, shl_one, Bool.true_and, Bool.false_and, Bool.not_false, Bool.not_true, if_true, if_false, Bool.false_eq_true]; first | done | rfl)))) rfl (wk_f rfl (wk_f rfl (wk_f rfl (wk_f rfl (wk_f rfl (wk_f rfl (wk_f rfl (wk_f rfl (wk_f rfl (wk_nil)))))))))))))))))))))))
    · skip
      have c4P := of_decide_eq_false c4
      refine wp_exit' ?_
      refine wp_region_t ?_
      refine wpc (step_plain rfl (acts_move (d := 153) (ltN rfl) (OpX.tmp 9 (V.b (.a (.sl 38 0 256)))))) (by kernel_rfl) ?_
      refine wpc (step_plain rfl (acts_assign (d := 4) (ltN rfl) (OpX.tmp 153 (V.b (.a (.sl 38 0 256)))))) (by kernel_rfl) ?_
      refine wpl_nil ?_
      refine wp_region_t ?_
      refine wpc (step_plain rfl (acts_move (d := 26) (ltN rfl) (OpX.tmp 5 (V.v (.int .i64 ((i : Nat) : Int)))))) (by kernel_rfl) ?_
      refine wpc (step_plain rfl (acts_bin (d := 27) (ltN rfl) (OpV.tmp 26 (.int .i64 ((i : Nat) : Int))) (OpV.const (.int .i64 1)) (r_add (c := (((i : Nat) : Int) + 1)) (w64 (by omega) (by omega))))) (by kernel_rfl) ?_
      refine wpc (step_plain rfl (acts_assign (d := 5) (ltN rfl) (OpX.tmp 27 (V.v (.int .i64 (((i : Nat) : Int) + 1)))))) (by kernel_rfl) ?_
      refine wpl_nil ?_
      exact loop_back ((i + 1)) (by show _ ≤ _; omega) (by show 64 - (i + 1) < 64 - i; omega) (weak_of (subst1 [(18, 38)]) [7, 14, 15, 33, 38, 41, 64, 94, 98, 122, 126] (by kernel_rfl) (wk_s (v' := V.p 1 0) (by kernel_rfl) rfl rfl (wk_s (v' := V.v (.int .i64 8)) (by kernel_rfl) rfl rfl (wk_s (v' := V.b (.a (.sl 38 0 256))) (by kernel_rfl) (vsl (by omega) rfl) rfl (wk_s (v' := V.v (.int .i64 (((i : Nat) : Int) + 1))) (by kernel_rfl) (vint (by rfl)) rfl (wk_o (o' := ⟨30, 1, true, [(.slv l.length 1 (isl l) : A)]⟩) (by kernel_rfl) (renob_l (fun h => h) rfl rfl) rfl (wk_o (o' := ⟨3, 1, true, pl (isl (stepT (regSet l) i (prof (regSet l) i) k))⟩) (by kernel_rfl) (renob_eq (fun h => h) (congrArg isl (by (have e : k = 256 := by omega); subst e; rfl))) rfl (wk_f rfl (wk_f rfl (wk_f rfl (wk_f rfl (wk_f rfl (wk_f rfl (wk_f rfl (wk_f rfl (wk_f rfl (wk_f rfl (wk_f rfl (wk_nil)))))))))))))))))))
  · skip
    have c2P := of_decide_eq_false c2
    refine wp_exit' ?_
    refine wp_seq' ?_
    refine wp_region_t ?_
    refine wpc (step_plain rfl (acts_move (d := 154) (ltN rfl) (OpX.tmp 4 (V.b (.a (.sl 18 0 ((prof (regSet l) i).length))))))) (by kernel_rfl) ?_
    refine wpc (step_plain rfl (acts_index_sl (d := 155) (x := 154) (h := 18) (off := 0) (n := ((prof (regSet l) i).length)) (k := 0) (off' := (0 * 1)) (o := ⟨3, 1, true, pl (isl (prof (regSet l) i))⟩) (ltN rfl) qC12_un_22 qC12_sz_3 (OpV.const (.int .i64 0)) rfl (by omega) (by (simp; done)))) (by kernel_rfl) ?_
    refine wpc (step_plain rfl (acts_load_own (d := 156) (t := 155) (h := 18) (off := (0 * 1)) (o := ⟨3, 1, true, pl (isl (prof (regSet l) i))⟩)  (x := .val (.int .i64 (gI (prof (regSet l) i) 0))) (ltN rfl) qC12_ti_3 (pl_get (isl_get1 (k := 0) (by omega))))) (by kernel_rfl) ?_
    refine wpc (step_plain rfl (acts_assign (d := 2) (ltN rfl) (OpX.tmp 156 (V.v (.int .i64 (gI (prof (regSet l) i) 0)))))) (by kernel_rfl) ?_
    refine wpl_nil ?_
    refine wp_ret' ?_
    exact VRes.tmp 2 (.a (.val (.int .i64 (gI (prof (regSet l) i) 0)))) _ (by kernel_rfl) (bval (congrArg (Value.int .i64) (by (have e : i = 64 := by omega); subst e; exact prof_cnt (regSet_lt ho))))
end Cl
end Go.Proofs.Ytabgfoindidigaa
