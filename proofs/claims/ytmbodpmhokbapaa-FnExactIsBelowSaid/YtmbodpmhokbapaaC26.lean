/- Walks over clean states, printed by wg.py. No statement is proved here. -/
import Derived.Test.YtmbodpmhokbapaaC25
import Derived.Test.YtmbodpmhokbapaaCl18
namespace Go.Proofs.Ytmbodpmhokbapaa
namespace Cl
open Go.ChangeShapes Go.WideShapes Go.ChangeAt Go.RowKit

theorem tch_yes {s x y : Nat} (hx : x < 7) (hy : y < 7) (h : tq s x y = true) : tchS s = true := by
  unfold tchS
  exact List.any_eq_true.2 ⟨y, List.mem_range.2 hy, List.any_eq_true.2 ⟨x, List.mem_range.2 hx, h⟩⟩
def tqR (s b a : Nat) : Bool := (List.range b).any fun x => tq s x a
def tqT (s a : Nat) : Bool := (List.range a).any fun y => tqR s 7 y
theorem tqR_snoc {s a b : Nat} (h : tqR s b a = false) (h2 : tq s b a = false) : tqR s (b + 1) a = false := by
  unfold tqR at *; rw [List.range_succ, List.any_append, h]; simp [h2]
theorem tqT_snoc {s a : Nat} (h : tqT s a = false) (h2 : tqR s 7 a = false) : tqT s (a + 1) = false := by
  unfold tqT at *; rw [List.range_succ, List.any_append, h]; simp [h2]
theorem tqT_end {s : Nat} (h : tqT s 7 = false) : tchS s = false := h
theorem tq_def (s x y : Nat) : tq s x y = ((decide (hasS s ⟨x, y⟩ = hasS s ⟨x + 1, y + 1⟩) && decide (hasS s ⟨x + 1, y⟩ = hasS s ⟨x, y + 1⟩)) && !decide (hasS s ⟨x, y⟩ = hasS s ⟨x + 1, y⟩)) := rfl
theorem tq_R {l : List Int} (ho : regOk l = true) {x y : Nat} (hx : x < 7) (hy : y < 7) : tq (regSet l) x y = ((decide (hasR l ⟨x, y⟩ = hasR l ⟨x + 1, y + 1⟩) && decide (hasR l ⟨x + 1, y⟩ = hasR l ⟨x, y + 1⟩)) && !decide (hasR l ⟨x, y⟩ = hasR l ⟨x + 1, y⟩)) := by
  rw [tq_def]
  rw [hasR_S ho (okc_true.2 (by simp only; omega)), hasR_S ho (okc_true.2 (by simp only; omega)), hasR_S ho (okc_true.2 (by simp only; omega)), hasR_S ho (okc_true.2 (by simp only; omega))]
theorem tq_j (s x y : Nat) : (decide (hasS s ⟨x, y⟩ = hasS s ⟨x + 1, y + 1⟩) && (decide (hasS s ⟨x + 1, y⟩ = hasS s ⟨x, y + 1⟩) && decide (hasS s ⟨x, y⟩ ≠ hasS s ⟨x + 1, y⟩))) = tq s x y := by
  rw [tq_def, Bool.and_assoc, decide_not]
theorem tq_jR {l : List Int} (ho : regOk l = true) {x y : Nat} (hx : x < 7) (hy : y < 7) : (decide (hasR l ⟨x, y⟩ = hasR l ⟨x + 1, y + 1⟩) && (decide (hasR l ⟨x + 1, y⟩ = hasR l ⟨x, y + 1⟩) && decide (hasR l ⟨x, y⟩ ≠ hasR l ⟨x + 1, y⟩))) = tq (regSet l) x y := by
  rw [tq_R ho hx hy, Bool.and_assoc, decide_not]
theorem simB_1 {l : List Int} (h : regOk l = false) : simB l = false := by unfold simB; rw [h]; rfl
theorem simB_2 {l : List Int} (h : ((pcN l : Nat) : Int) ≠ 1) : simB l = false := by
  rcases Bool.eq_false_or_eq_true (regOk l) with h1 | h1
  · rw [pcN_yes h1] at h
    unfold simB; rw [decide_eq_false (fun e => h (by rw [e]; rfl)), Bool.false_and, Bool.and_false]
  · exact simB_1 h1
theorem simB_3 {l : List Int} (h : hol l ≠ 0) : simB l = false := by
  rcases Bool.eq_false_or_eq_true (regOk l) with h1 | h1
  · have h2 : ¬ holesN (regSet l) = 1 := fun e => h (by unfold hol; rw [if_pos h1, e]; rfl)
    unfold simB; rw [decide_eq_false h2, Bool.false_and, Bool.and_false, Bool.and_false]
  · exact simB_1 h1
theorem simB_4 {l : List Int} (h : tchS (regSet l) = true) : simB l = false := by
  unfold simB; rw [h]; simp
theorem simB_5 {l : List Int} (h1 : regOk l = true) (h2 : ¬ ((pcN l : Nat) : Int) ≠ 1) (h3 : ¬ hol l ≠ 0) (h4 : tchS (regSet l) = false) : simB l = true := by
  rw [pcN_yes h1] at h2
  have e2 : piecesN (regSet l) = 1 := by omega
  have e3 : holesN (regSet l) = 1 := by
    unfold hol at h3; rw [if_pos h1] at h3; omega
  unfold simB; rw [h1, h4, e2, e3]; rfl
theorem simB_7 {l : List Int} (h : ((!(regOk l)) || (decide (((pcN l : Nat) : Int) ≠ 1) || decide (hol l ≠ 0))) = true) : simB l = false := by
  simp only [Bool.or_eq_true, Bool.not_eq_true', decide_eq_true_eq] at h
  rcases h with h | h | h
  · exact simB_1 h
  · exact simB_2 h
  · exact simB_3 h
theorem simB_6 {l : List Int} (h1 : regOk l = true) (h2 : ((pcN l : Nat) : Int) = 1) (h3 : hol l = 0) : simB l = !(tchS (regSet l)) := by
  cases h4 : tchS (regSet l)
  · exact simB_5 h1 (by omega) (by omega) h4
  · exact simB_4 h4

theorem qC26_ti_29 : TI Try.prog 29 true 1 := ⟨⟨_, Try.underlying29, rfl⟩, by kernel_rfl⟩
theorem qC26_un_4 : Try.prog.underlying 4 = some .bool := Try.underlying4
set_option maxHeartbeats 4000000 in
set_option maxRecDepth 100000 in
theorem impl_IsSimple_fn (l : List Int) (hl : l.length ≤ 4194304) : Fn Try.prog 44 [.agg [(.slv l.length 1 (isl l) : A)]] [.val (.bool (simB l))] := by
 refine fn_intro (N := 70) Try.func44 rfl (by kernel_rfl) rfl (Nat.le_of_ble_eq_true rfl) [1, 11, 15, 20, 24, 35, 41, 47, 54] (ret1 rfl) (fun W => ?_)
 show Wp _ _ _ [(.s 0, some (.s (V.b (.agg [(.slv l.length 1 (isl l) : A)])))), (.o 1, some .free), (.o 11, some .free), (.o 15, some .free), (.o 20, some .free), (.o 24, some .free), (.o 35, some .free), (.o 41, some .free), (.o 47, some .free), (.o 54, some .free)]
 refine wp_seq' ?_
 refine wp_region_t ?_
 refine w1 (acts_box (d := 1) (h := 1) (b := .agg [(.slv l.length 1 (isl l) : A)]) (ltN rfl) (OpX.tmp 0 (V.b (.agg [(.slv l.length 1 (isl l) : A)]))) (by intro y hy; simp [B.cs] at hy; subst hy; rfl)) ?_
 refine w1 (acts_assign (d := 2) (ltN rfl) (OpX.const (.bool false))) ?_
 refine wpl_nil ?_
 refine wp_seq' ?_
 refine wp_seq' ?_
 refine wp_join [(.s 22, some (.s (V.v (.bool ((!(regOk l)) || ((decide ((((pcN l) : Nat) : Int) ≠ 1)) || (decide ((hol l) ≠ 0)))))))), (.s 1, some (.s (V.p 1 0))), (.o 1, some (.o ⟨29, 1, true, [(.slv l.length 1 (isl l) : A)]⟩)), (.o 11, some .free), (.o 15, some .free), (.o 20, some .free), (.o 24, some .free), (.o 35, some .free), (.o 41, some .free), (.o 47, some .free), (.o 54, some .free)] ?_ ?_
 ·skip
  rcases Bool.eq_false_or_eq_true ((regOk l)) with c1 | c1
  ·skip
   rcases Bool.eq_false_or_eq_true (decide ((((pcN l) : Nat) : Int) ≠ 1)) with c2 | c2
   ·skip
    have c2P := of_decide_eq_true c2
    refine wp_region_t ?_
    refine w1 (acts_load_owns (d := 10) (t := 1) (h := 1) (off := 0) (o := ⟨29, 1, true, [(.slv l.length 1 (isl l) : A)]⟩)  (xs := [(.slv l.length 1 (isl l) : A)]) (ltN rfl) qC26_ti_29 rfl (by decide) rfl) ?_
    refine w1 (acts_call1 (d := 11) (ltN rfl) (impl_RegionOk_fn l (by omega)) (ArgVs.cons (ArgV.regv 10 l.length 1 (isl l)) (ArgVs.nil)) ((resval (congrArg Value.bool c1)))) ?_
    refine w1 (acts_un (d := 12) (ltN rfl) (OpV.tmp 11 (.bool true)) (r_not (c := false) rfl)) ?_
    refine w1 (mv 13 12 (V.v (.bool false))) ?_
    refine w2 (step_on (dj := 13) rfl rfl (acts_load_owns (d := 14) (t := 1) (h := 1) (off := 0) (o := ⟨29, 1, true, [(.slv l.length 1 (isl l) : A)]⟩)  (xs := [(.slv l.length 1 (isl l) : A)]) (ltN rfl) qC26_ti_29 rfl (by decide) rfl)) ?_
    refine w2 (step_on (dj := 13) rfl rfl (acts_call1 (d := 15) (ltN rfl) (impl_CountPieces_fn l (by omega)) (ArgVs.cons (ArgV.regv 14 l.length 1 (isl l)) (ArgVs.nil)) (ResV.val _))) ?_
    refine w2 (step_on (dj := 13) rfl rfl (bn 16 (OpV.tmp 15 (.int .i64 (((pcN l) : Nat) : Int))) (OpV.const (.int .i64 1)) (r_neq (c := true) c2))) ?_
    refine w1 (acts_pick_f (d := 17) (ltN rfl) (OpV.tmp 13 (.bool false)) (OpX.tmp 16 (V.v (.bool true)))) ?_
    refine w1 (mv 18 17 (V.v (.bool true))) ?_
    refine w2 (step_off (dj := 18) (b' := true) rfl rfl (by decide) rfl (ltN rfl)) ?_
    refine w2 (step_off (dj := 18) (b' := true) rfl rfl (by decide) rfl (ltN rfl)) ?_
    refine w2 (step_off (dj := 18) (b' := true) rfl rfl (by decide) rfl (ltN rfl)) ?_
    refine w1 (acts_pick_t (d := 22) (ltN rfl) (OpV.tmp 18 (.bool true)) (OpX.const (.bool true))) ?_
    refine wpl_nil ?_
    exact ⟨rfl, weak_reads ⟨(by simp only [c1, c2]; first | done | kernel_rfl), (by repeat (first | exact trivial | refine ⟨by kernel_rfl, ?_⟩))⟩⟩
   ·skip
    have c2P := of_decide_eq_false c2
    refine wp_region_t ?_
    refine w1 (acts_load_owns (d := 10) (t := 1) (h := 1) (off := 0) (o := ⟨29, 1, true, [(.slv l.length 1 (isl l) : A)]⟩)  (xs := [(.slv l.length 1 (isl l) : A)]) (ltN rfl) qC26_ti_29 rfl (by decide) rfl) ?_
    refine w1 (acts_call1 (d := 11) (ltN rfl) (impl_RegionOk_fn l (by omega)) (ArgVs.cons (ArgV.regv 10 l.length 1 (isl l)) (ArgVs.nil)) ((resval (congrArg Value.bool c1)))) ?_
    refine w1 (acts_un (d := 12) (ltN rfl) (OpV.tmp 11 (.bool true)) (r_not (c := false) rfl)) ?_
    refine w1 (mv 13 12 (V.v (.bool false))) ?_
    refine w2 (step_on (dj := 13) rfl rfl (acts_load_owns (d := 14) (t := 1) (h := 1) (off := 0) (o := ⟨29, 1, true, [(.slv l.length 1 (isl l) : A)]⟩)  (xs := [(.slv l.length 1 (isl l) : A)]) (ltN rfl) qC26_ti_29 rfl (by decide) rfl)) ?_
    refine w2 (step_on (dj := 13) rfl rfl (acts_call1 (d := 15) (ltN rfl) (impl_CountPieces_fn l (by omega)) (ArgVs.cons (ArgV.regv 14 l.length 1 (isl l)) (ArgVs.nil)) (ResV.val _))) ?_
    refine w2 (step_on (dj := 13) rfl rfl (bn 16 (OpV.tmp 15 (.int .i64 (((pcN l) : Nat) : Int))) (OpV.const (.int .i64 1)) (r_neq (c := false) c2))) ?_
    refine w1 (acts_pick_f (d := 17) (ltN rfl) (OpV.tmp 13 (.bool false)) (OpX.tmp 16 (V.v (.bool false)))) ?_
    refine w1 (mv 18 17 (V.v (.bool false))) ?_
    refine w2 (step_on (dj := 18) rfl rfl (acts_load_owns (d := 19) (t := 1) (h := 1) (off := 0) (o := ⟨29, 1, true, [(.slv l.length 1 (isl l) : A)]⟩)  (xs := [(.slv l.length 1 (isl l) : A)]) (ltN rfl) qC26_ti_29 rfl (by decide) rfl)) ?_
    refine w2 (step_on (dj := 18) rfl rfl (acts_call1 (d := 20) (ltN rfl) (impl_CountHoles_fn l (by omega)) (ArgVs.cons (ArgV.regv 19 l.length 1 (isl l)) (ArgVs.nil)) (ResV.val _))) ?_
    refine w2 (step_on (dj := 18) rfl rfl (bn 21 (OpV.tmp 20 (.int .i64 (hol l))) (OpV.const (.int .i64 0)) (r_neq (c := (decide ((hol l) ≠ 0))) rfl))) ?_
    refine w1 (acts_pick_f (d := 22) (ltN rfl) (OpV.tmp 18 (.bool false)) (OpX.tmp 21 (V.v (.bool (decide ((hol l) ≠ 0)))))) ?_
    refine wpl_nil ?_
    exact ⟨rfl, weak_reads ⟨(by simp only [c1, c2]; first | done | kernel_rfl), (by repeat (first | exact trivial | refine ⟨by kernel_rfl, ?_⟩))⟩⟩
  ·skip
   refine wp_region_t ?_
   refine w1 (acts_load_owns (d := 10) (t := 1) (h := 1) (off := 0) (o := ⟨29, 1, true, [(.slv l.length 1 (isl l) : A)]⟩)  (xs := [(.slv l.length 1 (isl l) : A)]) (ltN rfl) qC26_ti_29 rfl (by decide) rfl) ?_
   refine w1 (acts_call1 (d := 11) (ltN rfl) (impl_RegionOk_fn l (by omega)) (ArgVs.cons (ArgV.regv 10 l.length 1 (isl l)) (ArgVs.nil)) ((resval (congrArg Value.bool c1)))) ?_
   refine w1 (acts_un (d := 12) (ltN rfl) (OpV.tmp 11 (.bool false)) (r_not (c := true) rfl)) ?_
   refine w1 (mv 13 12 (V.v (.bool true))) ?_
   refine w2 (step_off (dj := 13) (b' := true) rfl rfl (by decide) rfl (ltN rfl)) ?_
   refine w2 (step_off (dj := 13) (b' := true) rfl rfl (by decide) rfl (ltN rfl)) ?_
   refine w2 (step_off (dj := 13) (b' := true) rfl rfl (by decide) rfl (ltN rfl)) ?_
   refine w1 (acts_pick_t (d := 17) (ltN rfl) (OpV.tmp 13 (.bool true)) (OpX.const (.bool true))) ?_
   refine w1 (mv 18 17 (V.v (.bool true))) ?_
   refine w2 (step_off (dj := 18) (b' := true) rfl rfl (by decide) rfl (ltN rfl)) ?_
   refine w2 (step_off (dj := 18) (b' := true) rfl rfl (by decide) rfl (ltN rfl)) ?_
   refine w2 (step_off (dj := 18) (b' := true) rfl rfl (by decide) rfl (ltN rfl)) ?_
   refine w1 (acts_pick_t (d := 22) (ltN rfl) (OpV.tmp 18 (.bool true)) (OpX.const (.bool true))) ?_
   refine wpl_nil ?_
   exact ⟨rfl, weak_reads ⟨(by simp only [c1]; first | done | kernel_rfl), (by repeat (first | exact trivial | refine ⟨by kernel_rfl, ?_⟩))⟩⟩
 refine wp_if (t := 22) (((!(regOk l)) || ((decide ((((pcN l) : Nat) : Int) ≠ 1)) || (decide ((hol l) ≠ 0))))) (by kernel_rfl) (fun c3 => ?_) (fun c3 => ?_)
 ·skip
  have c4 := or_tt c3
  refine wp_seq' ?_
  refine wp_region_t ?_
  refine w1 (acts_assign (d := 2) (ltN rfl) (OpX.const (.bool false))) ?_
  refine wpl_nil ?_
  refine wp_ret' ?_
  exact VRes.tmp 2 (.a (.val (.bool false))) _ (by kernel_rfl) (bval (congrArg Value.bool (by exact (simB_7 (by assumption)).symm)))
 ·skip
  obtain ⟨c5, c6⟩ := or_ff c3
  have c7 : (regOk l) = true := by first | simpa using c5 | (rw [← Bool.not_eq_false']; exact c5)
  obtain ⟨c8, c9⟩ := or_ff c6
  have c8P := of_decide_eq_false c8
  have c9P := of_decide_eq_false c9
  refine wp_skip' ?_
  refine wp_seq' ?_
  refine wp_region_t ?_
  refine w1 (acts_load_owns (d := 23) (t := 1) (h := 1) (off := 0) (o := ⟨29, 1, true, [(.slv l.length 1 (isl l) : A)]⟩)  (xs := [(.slv l.length 1 (isl l) : A)]) (ltN rfl) qC26_ti_29 rfl (by decide) rfl) ?_
  refine w1 (acts_call1 (d := 24) (ltN rfl) (impl_Region__set_fn l (by omega)) (ArgVs.cons (ArgV.regv 23 l.length 1 (isl l)) (ArgVs.nil)) (ResV.val _)) ?_
  refine w1 (asg 3 24 (V.v (.int .u64 (((regSet l) : Nat) : Int)))) ?_
  refine wpl_nil ?_
  refine wp_seq' ?_
  refine wp_seq' ?_
  refine wp_region_t ?_
  refine w1 (acts_move (d := 25) (ltN rfl) (OpX.const (.int .i64 0))) ?_
  refine wpl_nil ?_
  refine wp_block' ?_
  refine wp_loop' (fun (a : Nat) => a ≤ 7 ∧ tqT (regSet l) a = false) (fun (a : Nat) => [(.s 3, some (.s (V.v (.int .u64 (((regSet l) : Nat) : Int))))), (.s 25, some (.s (V.v (.int .i64 ((a : Nat) : Int))))), (.o 1, some .free), (.o 11, some .free), (.o 15, some .free), (.o 20, some .free), (.o 24, some .free), (.o 35, some .free), (.o 41, some .free), (.o 47, some .free), (.o 54, some .free)]) (fun (a : Nat) => 7 - a) ((0 : Nat)) (by exact ⟨Nat.zero_le _, rfl⟩) (weak_of id [1, 11, 15, 20, 24, 35, 41, 47, 54] (by kernel_rfl) (wk_s (v' := V.v (.int .u64 (((regSet l) : Nat) : Int))) (by kernel_rfl) rfl rfl (wk_s (v' := V.v (.int .i64 0)) (by kernel_rfl) (vint (by rfl)) rfl (wk_f rfl (wk_f rfl (wk_f rfl (wk_f rfl (wk_f rfl (wk_f rfl (wk_f rfl (wk_f rfl (wk_f rfl (wk_nil))))))))))))) ?_
  rintro a inv10
  replace inv10 : a ≤ 7 ∧ tqT (regSet l) a = false := inv10
  obtain ⟨inv10_0, inv10_1⟩ := inv10
  show Wp _ _ _ [(.s 3, some (.s (V.v (.int .u64 (((regSet l) : Nat) : Int))))), (.s 25, some (.s (V.v (.int .i64 ((a : Nat) : Int))))), (.o 1, some .free), (.o 11, some .free), (.o 15, some .free), (.o 20, some .free), (.o 24, some .free), (.o 35, some .free), (.o 41, some .free), (.o 47, some .free), (.o 54, some .free)]
  refine wp_seq' ?_
  refine wp_region_t ?_
  refine w1 (bn 26 (OpV.tmp 25 (.int .i64 ((a : Nat) : Int))) (OpV.const (.int .i64 7)) (r_lss (c := (decide (((a : Nat) : Int) < 7))) rfl)) ?_
  refine wpl_nil ?_
  refine wp_seq' ?_
  refine wp_if (t := 26) (decide (((a : Nat) : Int) < 7)) (by kernel_rfl) (fun c11 => ?_) (fun c11 => ?_)
  ·skip
   have c11P := of_decide_eq_true c11
   refine wp_skip' ?_
   refine wp_seq' ?_
   refine wp_block' ?_
   refine wp_seq' ?_
   refine wp_region_t ?_
   refine w1 (mv 27 25 (V.v (.int .i64 ((a : Nat) : Int)))) ?_
   refine w1 (asg 4 27 (V.v (.int .i64 ((a : Nat) : Int)))) ?_
   refine wpl_nil ?_
   refine wp_seq' ?_
   refine wp_region_t ?_
   refine w1 (acts_move (d := 28) (ltN rfl) (OpX.const (.int .i64 0))) ?_
   refine wpl_nil ?_
   refine wp_block' ?_
   refine wp_loop' (fun (b : Nat) => b ≤ 7 ∧ tqR (regSet l) b a = false) (fun (b : Nat) => [(.s 3, some (.s (V.v (.int .u64 (((regSet l) : Nat) : Int))))), (.s 4, some (.s (V.v (.int .i64 ((a : Nat) : Int))))), (.s 25, some (.s (V.v (.int .i64 ((a : Nat) : Int))))), (.s 28, some (.s (V.v (.int .i64 ((b : Nat) : Int))))), (.o 1, some .free), (.o 11, some .free), (.o 15, some .free), (.o 20, some .free), (.o 24, some .free), (.o 35, some .free), (.o 41, some .free), (.o 47, some .free), (.o 54, some .free)]) (fun (b : Nat) => 7 - b) ((0 : Nat)) (by exact ⟨Nat.zero_le _, rfl⟩) (weak_of id [1, 11, 15, 20, 24, 35, 41, 47, 54] (by kernel_rfl) (wk_s (v' := V.v (.int .u64 (((regSet l) : Nat) : Int))) (by kernel_rfl) rfl rfl (wk_s (v' := V.v (.int .i64 ((a : Nat) : Int))) (by kernel_rfl) rfl rfl (wk_s (v' := V.v (.int .i64 ((a : Nat) : Int))) (by kernel_rfl) rfl rfl (wk_s (v' := V.v (.int .i64 0)) (by kernel_rfl) (vint (by rfl)) rfl (wk_f rfl (wk_f rfl (wk_f rfl (wk_f rfl (wk_f rfl (wk_f rfl (wk_f rfl (wk_f rfl (wk_f rfl (wk_nil))))))))))))))) ?_
   rintro b inv12
   replace inv12 : b ≤ 7 ∧ tqR (regSet l) b a = false := inv12
   obtain ⟨inv12_0, inv12_1⟩ := inv12
   show Wp _ _ _ [(.s 3, some (.s (V.v (.int .u64 (((regSet l) : Nat) : Int))))), (.s 4, some (.s (V.v (.int .i64 ((a : Nat) : Int))))), (.s 25, some (.s (V.v (.int .i64 ((a : Nat) : Int))))), (.s 28, some (.s (V.v (.int .i64 ((b : Nat) : Int))))), (.o 1, some .free), (.o 11, some .free), (.o 15, some .free), (.o 20, some .free), (.o 24, some .free), (.o 35, some .free), (.o 41, some .free), (.o 47, some .free), (.o 54, some .free)]
   refine wp_seq' ?_
   refine wp_region_t ?_
   refine w1 (bn 29 (OpV.tmp 28 (.int .i64 ((b : Nat) : Int))) (OpV.const (.int .i64 7)) (r_lss (c := (decide (((b : Nat) : Int) < 7))) rfl)) ?_
   refine wpl_nil ?_
   refine wp_seq' ?_
   refine wp_if (t := 29) (decide (((b : Nat) : Int) < 7)) (by kernel_rfl) (fun c13 => ?_) (fun c13 => ?_)
   ·skip
    have c13P := of_decide_eq_true c13
    refine wp_skip' ?_
    refine wp_seq' ?_
    refine wp_block' ?_
    refine wp_seq' ?_
    refine wp_region_t ?_
    refine w1 (mv 30 28 (V.v (.int .i64 ((b : Nat) : Int)))) ?_
    refine w1 (asg 5 30 (V.v (.int .i64 ((b : Nat) : Int)))) ?_
    refine wpl_nil ?_
    refine wp_seq' ?_
    refine wp_region_t ?_
    refine w1 (mv 31 3 (V.v (.int .u64 (((regSet l) : Nat) : Int)))) ?_
    refine w1 (mv 32 5 (V.v (.int .i64 ((b : Nat) : Int)))) ?_
    refine w1 (mv 33 4 (V.v (.int .i64 ((a : Nat) : Int)))) ?_
    refine w1 (acts_build (d := 34) (t := 53) (cells := [(.int .i64 ((b : Nat) : Int) : Value), .int .i64 ((a : Nat) : Int)]) (ltN rfl) (OpVs.cons (i := 0) (OpV.tmp 32 (.int .i64 ((b : Nat) : Int))) (OpVs.cons (i := 1) (OpV.tmp 33 (.int .i64 ((a : Nat) : Int))) (OpVs.nil))) rfl) ?_
    refine w1 (acts_call1 (d := 35) (ltN rfl) (impl_set__has_fn (regSet l) (⟨((b : Nat) : Int), ((a : Nat) : Int)⟩ : Cel) (by exact regSet_lt (by assumption))) (ArgVs.cons (ArgV.v (OpV.tmp 31 (.int .u64 (((regSet l) : Nat) : Int)))) (ArgVs.cons (ArgV.va (vs := [(.int .i64 ((b : Nat) : Int) : Value), .int .i64 ((a : Nat) : Int)]) (OpV.agg 34 [(.int .i64 ((b : Nat) : Int) : Value), .int .i64 ((a : Nat) : Int)])) (ArgVs.nil))) (ResV.val _)) ?_
    refine w1 (mv 36 3 (V.v (.int .u64 (((regSet l) : Nat) : Int)))) ?_
    refine w1 (mv 37 5 (V.v (.int .i64 ((b : Nat) : Int)))) ?_
    refine w1 (bn 38 (OpV.tmp 37 (.int .i64 ((b : Nat) : Int))) (OpV.const (.int .i64 1)) (r_add (c := (((b : Nat) : Int) + 1)) (w64 (by omega) (by omega)))) ?_
    refine w1 (mv 39 4 (V.v (.int .i64 ((a : Nat) : Int)))) ?_
    refine w1 (acts_build (d := 40) (t := 53) (cells := [(.int .i64 (((b : Nat) : Int) + 1) : Value), .int .i64 ((a : Nat) : Int)]) (ltN rfl) (OpVs.cons (i := 0) (OpV.tmp 38 (.int .i64 (((b : Nat) : Int) + 1))) (OpVs.cons (i := 1) (OpV.tmp 39 (.int .i64 ((a : Nat) : Int))) (OpVs.nil))) rfl) ?_
    refine w1 (acts_call1 (d := 41) (ltN rfl) (impl_set__has_fn (regSet l) (⟨(((b : Nat) : Int) + 1), ((a : Nat) : Int)⟩ : Cel) (by exact regSet_lt (by assumption))) (ArgVs.cons (ArgV.v (OpV.tmp 36 (.int .u64 (((regSet l) : Nat) : Int)))) (ArgVs.cons (ArgV.va (vs := [(.int .i64 (((b : Nat) : Int) + 1) : Value), .int .i64 ((a : Nat) : Int)]) (OpV.agg 40 [(.int .i64 (((b : Nat) : Int) + 1) : Value), .int .i64 ((a : Nat) : Int)])) (ArgVs.nil))) (ResV.val _)) ?_
    refine w1 (mv 42 3 (V.v (.int .u64 (((regSet l) : Nat) : Int)))) ?_
    refine w1 (mv 43 5 (V.v (.int .i64 ((b : Nat) : Int)))) ?_
    refine w1 (mv 44 4 (V.v (.int .i64 ((a : Nat) : Int)))) ?_
    refine w1 (bn 45 (OpV.tmp 44 (.int .i64 ((a : Nat) : Int))) (OpV.const (.int .i64 1)) (r_add (c := (((a : Nat) : Int) + 1)) (w64 (by omega) (by omega)))) ?_
    refine w1 (acts_build (d := 46) (t := 53) (cells := [(.int .i64 ((b : Nat) : Int) : Value), .int .i64 (((a : Nat) : Int) + 1)]) (ltN rfl) (OpVs.cons (i := 0) (OpV.tmp 43 (.int .i64 ((b : Nat) : Int))) (OpVs.cons (i := 1) (OpV.tmp 45 (.int .i64 (((a : Nat) : Int) + 1))) (OpVs.nil))) rfl) ?_
    refine w1 (acts_call1 (d := 47) (ltN rfl) (impl_set__has_fn (regSet l) (⟨((b : Nat) : Int), (((a : Nat) : Int) + 1)⟩ : Cel) (by exact regSet_lt (by assumption))) (ArgVs.cons (ArgV.v (OpV.tmp 42 (.int .u64 (((regSet l) : Nat) : Int)))) (ArgVs.cons (ArgV.va (vs := [(.int .i64 ((b : Nat) : Int) : Value), .int .i64 (((a : Nat) : Int) + 1)]) (OpV.agg 46 [(.int .i64 ((b : Nat) : Int) : Value), .int .i64 (((a : Nat) : Int) + 1)])) (ArgVs.nil))) (ResV.val _)) ?_
    refine w1 (mv 48 3 (V.v (.int .u64 (((regSet l) : Nat) : Int)))) ?_
    refine w1 (mv 49 5 (V.v (.int .i64 ((b : Nat) : Int)))) ?_
    refine w1 (bn 50 (OpV.tmp 49 (.int .i64 ((b : Nat) : Int))) (OpV.const (.int .i64 1)) (r_add (c := (((b : Nat) : Int) + 1)) (w64 (by omega) (by omega)))) ?_
    refine w1 (mv 51 4 (V.v (.int .i64 ((a : Nat) : Int)))) ?_
    refine w1 (bn 52 (OpV.tmp 51 (.int .i64 ((a : Nat) : Int))) (OpV.const (.int .i64 1)) (r_add (c := (((a : Nat) : Int) + 1)) (w64 (by omega) (by omega)))) ?_
    refine w1 (acts_build (d := 53) (t := 53) (cells := [(.int .i64 (((b : Nat) : Int) + 1) : Value), .int .i64 (((a : Nat) : Int) + 1)]) (ltN rfl) (OpVs.cons (i := 0) (OpV.tmp 50 (.int .i64 (((b : Nat) : Int) + 1))) (OpVs.cons (i := 1) (OpV.tmp 52 (.int .i64 (((a : Nat) : Int) + 1))) (OpVs.nil))) rfl) ?_
    refine w1 (acts_call1 (d := 54) (ltN rfl) (impl_set__has_fn (regSet l) (⟨(((b : Nat) : Int) + 1), (((a : Nat) : Int) + 1)⟩ : Cel) (by exact regSet_lt (by assumption))) (ArgVs.cons (ArgV.v (OpV.tmp 48 (.int .u64 (((regSet l) : Nat) : Int)))) (ArgVs.cons (ArgV.va (vs := [(.int .i64 (((b : Nat) : Int) + 1) : Value), .int .i64 (((a : Nat) : Int) + 1)]) (OpV.agg 53 [(.int .i64 (((b : Nat) : Int) + 1) : Value), .int .i64 (((a : Nat) : Int) + 1)])) (ArgVs.nil))) (ResV.val _)) ?_
    refine w1 (asg 6 35 (V.v (.bool (hasS (regSet l) (⟨((b : Nat) : Int), ((a : Nat) : Int)⟩ : Cel))))) ?_
    refine w1 (asg 7 41 (V.v (.bool (hasS (regSet l) (⟨(((b : Nat) : Int) + 1), ((a : Nat) : Int)⟩ : Cel))))) ?_
    refine w1 (asg 8 47 (V.v (.bool (hasS (regSet l) (⟨((b : Nat) : Int), (((a : Nat) : Int) + 1)⟩ : Cel))))) ?_
    refine w1 (asg 9 54 (V.v (.bool (hasS (regSet l) (⟨(((b : Nat) : Int) + 1), (((a : Nat) : Int) + 1)⟩ : Cel))))) ?_
    refine wpl_nil ?_
    refine wp_seq' ?_
    refine wp_join [(.s 67, some (.s (V.v (.bool ((decide ((hasS (regSet l) (⟨((b : Nat) : Int), ((a : Nat) : Int)⟩ : Cel)) = (hasS (regSet l) (⟨(((b : Nat) : Int) + 1), (((a : Nat) : Int) + 1)⟩ : Cel)))) && ((decide ((hasS (regSet l) (⟨(((b : Nat) : Int) + 1), ((a : Nat) : Int)⟩ : Cel)) = (hasS (regSet l) (⟨((b : Nat) : Int), (((a : Nat) : Int) + 1)⟩ : Cel)))) && (decide ((hasS (regSet l) (⟨((b : Nat) : Int), ((a : Nat) : Int)⟩ : Cel)) ≠ (hasS (regSet l) (⟨(((b : Nat) : Int) + 1), ((a : Nat) : Int)⟩ : Cel)))))))))), (.s 3, some (.s (V.v (.int .u64 (((regSet l) : Nat) : Int))))), (.s 4, some (.s (V.v (.int .i64 ((a : Nat) : Int))))), (.s 25, some (.s (V.v (.int .i64 ((a : Nat) : Int))))), (.s 28, some (.s (V.v (.int .i64 ((b : Nat) : Int))))), (.o 1, some .free), (.o 11, some .free), (.o 15, some .free), (.o 20, some .free), (.o 24, some .free), (.o 35, some .free), (.o 41, some .free), (.o 47, some .free), (.o 54, some .free)] ?_ ?_
    ·skip
     rcases Bool.eq_false_or_eq_true (decide ((hasS (regSet l) (⟨((b : Nat) : Int), ((a : Nat) : Int)⟩ : Cel)) = (hasS (regSet l) (⟨(((b : Nat) : Int) + 1), (((a : Nat) : Int) + 1)⟩ : Cel)))) with c14 | c14
     ·skip
      have c14P := of_decide_eq_true c14
      rcases Bool.eq_false_or_eq_true (decide ((hasS (regSet l) (⟨(((b : Nat) : Int) + 1), ((a : Nat) : Int)⟩ : Cel)) = (hasS (regSet l) (⟨((b : Nat) : Int), (((a : Nat) : Int) + 1)⟩ : Cel)))) with c15 | c15
      ·skip
       have c15P := of_decide_eq_true c15
       refine wp_region_t ?_
       refine w1 (mv 55 6 (V.v (.bool (hasS (regSet l) (⟨((b : Nat) : Int), ((a : Nat) : Int)⟩ : Cel))))) ?_
       refine w1 (mv 56 9 (V.v (.bool (hasS (regSet l) (⟨(((b : Nat) : Int) + 1), (((a : Nat) : Int) + 1)⟩ : Cel))))) ?_
       refine w1 (bn 57 (OpV.tmp 55 (.bool (hasS (regSet l) (⟨((b : Nat) : Int), ((a : Nat) : Int)⟩ : Cel)))) (OpV.tmp 56 (.bool (hasS (regSet l) (⟨(((b : Nat) : Int) + 1), (((a : Nat) : Int) + 1)⟩ : Cel)))) (r_beql (c := true) qC26_un_4 c14)) ?_
       refine w1 (mv 58 57 (V.v (.bool true))) ?_
       refine w2 (step_on (dj := 58) rfl rfl (mv 59 7 (V.v (.bool (hasS (regSet l) (⟨(((b : Nat) : Int) + 1), ((a : Nat) : Int)⟩ : Cel)))))) ?_
       refine w2 (step_on (dj := 58) rfl rfl (mv 60 8 (V.v (.bool (hasS (regSet l) (⟨((b : Nat) : Int), (((a : Nat) : Int) + 1)⟩ : Cel)))))) ?_
       refine w2 (step_on (dj := 58) rfl rfl (bn 61 (OpV.tmp 59 (.bool (hasS (regSet l) (⟨(((b : Nat) : Int) + 1), ((a : Nat) : Int)⟩ : Cel)))) (OpV.tmp 60 (.bool (hasS (regSet l) (⟨((b : Nat) : Int), (((a : Nat) : Int) + 1)⟩ : Cel)))) (r_beql (c := true) qC26_un_4 c15))) ?_
       refine w1 (acts_pick_t (d := 62) (ltN rfl) (OpV.tmp 58 (.bool true)) (OpX.tmp 61 (V.v (.bool true)))) ?_
       refine w1 (mv 63 62 (V.v (.bool true))) ?_
       refine w2 (step_on (dj := 63) rfl rfl (mv 64 6 (V.v (.bool (hasS (regSet l) (⟨((b : Nat) : Int), ((a : Nat) : Int)⟩ : Cel)))))) ?_
       refine w2 (step_on (dj := 63) rfl rfl (mv 65 7 (V.v (.bool (hasS (regSet l) (⟨(((b : Nat) : Int) + 1), ((a : Nat) : Int)⟩ : Cel)))))) ?_
       refine w2 (step_on (dj := 63) rfl rfl (bn 66 (OpV.tmp 64 (.bool (hasS (regSet l) (⟨((b : Nat) : Int), ((a : Nat) : Int)⟩ : Cel)))) (OpV.tmp 65 (.bool (hasS (regSet l) (⟨(((b : Nat) : Int) + 1), ((a : Nat) : Int)⟩ : Cel)))) (r_bneq (c := (decide ((hasS (regSet l) (⟨((b : Nat) : Int), ((a : Nat) : Int)⟩ : Cel)) ≠ (hasS (regSet l) (⟨(((b : Nat) : Int) + 1), ((a : Nat) : Int)⟩ : Cel))))) qC26_un_4 rfl))) ?_
       refine w1 (acts_pick_t (d := 67) (ltN rfl) (OpV.tmp 63 (.bool true)) (OpX.tmp 66 (V.v (.bool (decide ((hasS (regSet l) (⟨((b : Nat) : Int), ((a : Nat) : Int)⟩ : Cel)) ≠ (hasS (regSet l) (⟨(((b : Nat) : Int) + 1), ((a : Nat) : Int)⟩ : Cel)))))))) ?_
       refine wpl_nil ?_
       exact ⟨rfl, weak_reads ⟨(by simp only [c14, c15]; first | done | kernel_rfl), (by repeat (first | exact trivial | refine ⟨by kernel_rfl, ?_⟩))⟩⟩
      ·skip
       have c15P := of_decide_eq_false c15
       refine wp_region_t ?_
       refine w1 (mv 55 6 (V.v (.bool (hasS (regSet l) (⟨((b : Nat) : Int), ((a : Nat) : Int)⟩ : Cel))))) ?_
       refine w1 (mv 56 9 (V.v (.bool (hasS (regSet l) (⟨(((b : Nat) : Int) + 1), (((a : Nat) : Int) + 1)⟩ : Cel))))) ?_
       refine w1 (bn 57 (OpV.tmp 55 (.bool (hasS (regSet l) (⟨((b : Nat) : Int), ((a : Nat) : Int)⟩ : Cel)))) (OpV.tmp 56 (.bool (hasS (regSet l) (⟨(((b : Nat) : Int) + 1), (((a : Nat) : Int) + 1)⟩ : Cel)))) (r_beql (c := true) qC26_un_4 c14)) ?_
       refine w1 (mv 58 57 (V.v (.bool true))) ?_
       refine w2 (step_on (dj := 58) rfl rfl (mv 59 7 (V.v (.bool (hasS (regSet l) (⟨(((b : Nat) : Int) + 1), ((a : Nat) : Int)⟩ : Cel)))))) ?_
       refine w2 (step_on (dj := 58) rfl rfl (mv 60 8 (V.v (.bool (hasS (regSet l) (⟨((b : Nat) : Int), (((a : Nat) : Int) + 1)⟩ : Cel)))))) ?_
       refine w2 (step_on (dj := 58) rfl rfl (bn 61 (OpV.tmp 59 (.bool (hasS (regSet l) (⟨(((b : Nat) : Int) + 1), ((a : Nat) : Int)⟩ : Cel)))) (OpV.tmp 60 (.bool (hasS (regSet l) (⟨((b : Nat) : Int), (((a : Nat) : Int) + 1)⟩ : Cel)))) (r_beql (c := false) qC26_un_4 c15))) ?_
       refine w1 (acts_pick_t (d := 62) (ltN rfl) (OpV.tmp 58 (.bool true)) (OpX.tmp 61 (V.v (.bool false)))) ?_
       refine w1 (mv 63 62 (V.v (.bool false))) ?_
       refine w2 (step_off (dj := 63) (b' := false) rfl rfl (by decide) rfl (ltN rfl)) ?_
       refine w2 (step_off (dj := 63) (b' := false) rfl rfl (by decide) rfl (ltN rfl)) ?_
       refine w2 (step_off (dj := 63) (b' := false) rfl rfl (by decide) rfl (ltN rfl)) ?_
       refine w1 (acts_pick_f (d := 67) (ltN rfl) (OpV.tmp 63 (.bool false)) (OpX.const (.bool false))) ?_
       refine wpl_nil ?_
       exact ⟨rfl, weak_reads ⟨(by simp only [c14, c15]; first | done | kernel_rfl), (by repeat (first | exact trivial | refine ⟨by kernel_rfl, ?_⟩))⟩⟩
     ·skip
      have c14P := of_decide_eq_false c14
      refine wp_region_t ?_
      refine w1 (mv 55 6 (V.v (.bool (hasS (regSet l) (⟨((b : Nat) : Int), ((a : Nat) : Int)⟩ : Cel))))) ?_
      refine w1 (mv 56 9 (V.v (.bool (hasS (regSet l) (⟨(((b : Nat) : Int) + 1), (((a : Nat) : Int) + 1)⟩ : Cel))))) ?_
      refine w1 (bn 57 (OpV.tmp 55 (.bool (hasS (regSet l) (⟨((b : Nat) : Int), ((a : Nat) : Int)⟩ : Cel)))) (OpV.tmp 56 (.bool (hasS (regSet l) (⟨(((b : Nat) : Int) + 1), (((a : Nat) : Int) + 1)⟩ : Cel)))) (r_beql (c := false) qC26_un_4 c14)) ?_
      refine w1 (mv 58 57 (V.v (.bool false))) ?_
      refine w2 (step_off (dj := 58) (b' := false) rfl rfl (by decide) rfl (ltN rfl)) ?_
      refine w2 (step_off (dj := 58) (b' := false) rfl rfl (by decide) rfl (ltN rfl)) ?_
      refine w2 (step_off (dj := 58) (b' := false) rfl rfl (by decide) rfl (ltN rfl)) ?_
      refine w1 (acts_pick_f (d := 62) (ltN rfl) (OpV.tmp 58 (.bool false)) (OpX.const (.bool false))) ?_
      refine w1 (mv 63 62 (V.v (.bool false))) ?_
      refine w2 (step_off (dj := 63) (b' := false) rfl rfl (by decide) rfl (ltN rfl)) ?_
      refine w2 (step_off (dj := 63) (b' := false) rfl rfl (by decide) rfl (ltN rfl)) ?_
      refine w2 (step_off (dj := 63) (b' := false) rfl rfl (by decide) rfl (ltN rfl)) ?_
      refine w1 (acts_pick_f (d := 67) (ltN rfl) (OpV.tmp 63 (.bool false)) (OpX.const (.bool false))) ?_
      refine wpl_nil ?_
      exact ⟨rfl, weak_reads ⟨(by simp only [c14]; first | done | kernel_rfl), (by repeat (first | exact trivial | refine ⟨by kernel_rfl, ?_⟩))⟩⟩
    refine wp_if (t := 67) (((decide ((hasS (regSet l) (⟨((b : Nat) : Int), ((a : Nat) : Int)⟩ : Cel)) = (hasS (regSet l) (⟨(((b : Nat) : Int) + 1), (((a : Nat) : Int) + 1)⟩ : Cel)))) && ((decide ((hasS (regSet l) (⟨(((b : Nat) : Int) + 1), ((a : Nat) : Int)⟩ : Cel)) = (hasS (regSet l) (⟨((b : Nat) : Int), (((a : Nat) : Int) + 1)⟩ : Cel)))) && (decide ((hasS (regSet l) (⟨((b : Nat) : Int), ((a : Nat) : Int)⟩ : Cel)) ≠ (hasS (regSet l) (⟨(((b : Nat) : Int) + 1), ((a : Nat) : Int)⟩ : Cel))))))) (by kernel_rfl) (fun c16 => ?_) (fun c16 => ?_)
    ·skip
     obtain ⟨c17, c18⟩ := and_tt c16
     have c17P := of_decide_eq_true c17
     obtain ⟨c19, c20⟩ := and_tt c18
     have c19P := of_decide_eq_true c19
     have c20P := of_decide_eq_true c20
     refine wp_seq' ?_
     refine wp_region_t ?_
     refine w1 (acts_assign (d := 2) (ltN rfl) (OpX.const (.bool false))) ?_
     refine wpl_nil ?_
     refine wp_ret' ?_
     exact VRes.tmp 2 (.a (.val (.bool false))) _ (by kernel_rfl) (bval (congrArg Value.bool (by exact (simB_4 (tch_yes (x := b) (y := a) (by omega) (by omega) ((tq_j _ _ _).symm.trans (by assumption)))).symm)))
    ·skip
     have c21 := and_ff c16
     refine wp_skip' ?_
     refine wp_region_t ?_
     refine w1 (bn 68 (OpV.tmp 28 (.int .i64 ((b : Nat) : Int))) (OpV.const (.int .i64 1)) (r_add (c := (((b : Nat) : Int) + 1)) (w64 (by omega) (by omega)))) ?_
     refine w1 (mv 28 68 (V.v (.int .i64 (((b : Nat) : Int) + 1)))) ?_
     refine wpl_nil ?_
     exact loop_back ((b + 1)) (by exact ⟨by omega, tqR_snoc (by assumption) ((tq_j _ _ _).symm.trans (by assumption))⟩) (by show 7 - (b + 1) < 7 - b; omega) (weak_of id [1, 11, 15, 20, 24, 35, 41, 47, 54] (by kernel_rfl) (wk_s (v' := V.v (.int .u64 (((regSet l) : Nat) : Int))) (by kernel_rfl) rfl rfl (wk_s (v' := V.v (.int .i64 ((a : Nat) : Int))) (by kernel_rfl) rfl rfl (wk_s (v' := V.v (.int .i64 ((a : Nat) : Int))) (by kernel_rfl) rfl rfl (wk_s (v' := V.v (.int .i64 (((b : Nat) : Int) + 1))) (by kernel_rfl) (vint (by rfl)) rfl (wk_f rfl (wk_f rfl (wk_f rfl (wk_f rfl (wk_f rfl (wk_f rfl (wk_f rfl (wk_f rfl (wk_f rfl (wk_nil)))))))))))))))
   ·skip
    have c13P := of_decide_eq_false c13
    refine wp_exit' ?_
    refine wp_region_t ?_
    refine w1 (bn 69 (OpV.tmp 25 (.int .i64 ((a : Nat) : Int))) (OpV.const (.int .i64 1)) (r_add (c := (((a : Nat) : Int) + 1)) (w64 (by omega) (by omega)))) ?_
    refine w1 (mv 25 69 (V.v (.int .i64 (((a : Nat) : Int) + 1)))) ?_
    refine wpl_nil ?_
    exact loop_back ((a + 1)) (by (have e : b = 7 := by omega); subst e; exact ⟨by omega, tqT_snoc (by assumption) (by assumption)⟩) (by show 7 - (a + 1) < 7 - a; omega) (weak_of id [1, 11, 15, 20, 24, 35, 41, 47, 54] (by kernel_rfl) (wk_s (v' := V.v (.int .u64 (((regSet l) : Nat) : Int))) (by kernel_rfl) rfl rfl (wk_s (v' := V.v (.int .i64 (((a : Nat) : Int) + 1))) (by kernel_rfl) (vint (by rfl)) rfl (wk_f rfl (wk_f rfl (wk_f rfl (wk_f rfl (wk_f rfl (wk_f rfl (wk_f rfl (wk_f rfl (wk_f rfl (wk_nil)))))))))))))
  ·skip
   have c11P := of_decide_eq_false c11
   refine wp_exit' ?_
   refine wp_seq' ?_
   refine wp_region_t ?_
   refine w1 (acts_assign (d := 2) (ltN rfl) (OpX.const (.bool true))) ?_
   refine wpl_nil ?_
   refine wp_ret' ?_
   exact VRes.tmp 2 (.a (.val (.bool true))) _ (by kernel_rfl) (bval (congrArg Value.bool (by ((have e : a = 7 := by omega); subst e; exact (simB_5 (by assumption) (by assumption) (by assumption) (tqT_end (by assumption))).symm))))

set_option maxHeartbeats 4000000 in
set_option maxRecDepth 100000 in
theorem spec_l04Touches_fn (l : List Int) (ho : regOk l = true) : Fn Try.prog 71 [.agg [(.slv l.length 1 (isl l) : A)]] [.val (.bool (tchS (regSet l)))] := by
 refine fn_intro (N := 56) Try.func71 rfl (by kernel_rfl) rfl (Nat.le_of_ble_eq_true rfl) [1, 23, 29, 35, 42] (ret1 rfl) (fun W => ?_)
 show Wp _ _ _ [(.s 0, some (.s (V.b (.agg [(.slv l.length 1 (isl l) : A)])))), (.o 1, some .free), (.o 23, some .free), (.o 29, some .free), (.o 35, some .free), (.o 42, some .free)]
 refine wp_seq' ?_
 refine wp_region_t ?_
 refine w1 (acts_box (d := 1) (h := 1) (b := .agg [(.slv l.length 1 (isl l) : A)]) (ltN rfl) (OpX.tmp 0 (V.b (.agg [(.slv l.length 1 (isl l) : A)]))) (by intro y hy; simp [B.cs] at hy; subst hy; rfl)) ?_
 refine w1 (acts_assign (d := 2) (ltN rfl) (OpX.const (.bool false))) ?_
 refine wpl_nil ?_
 refine wp_seq' ?_
 refine wp_seq' ?_
 refine wp_region_t ?_
 refine w1 (acts_assign (d := 3) (ltN rfl) (OpX.const (.int .i64 0))) ?_
 refine wpl_nil ?_
 refine wp_block' ?_
 refine wp_loop' (fun (a : Nat) => a ≤ 7 ∧ tqT (regSet l) a = false) (fun (a : Nat) => [(.s 1, some (.s (V.p 1 0))), (.s 3, some (.s (V.v (.int .i64 ((a : Nat) : Int))))), (.o 1, some (.o ⟨29, 1, true, [(.slv l.length 1 (isl l) : A)]⟩)), (.o 23, some .free), (.o 29, some .free), (.o 35, some .free), (.o 42, some .free)]) (fun (a : Nat) => 7 - a) ((0 : Nat)) (by exact ⟨Nat.zero_le _, rfl⟩) (weak_of id [23, 29, 35, 42] (by kernel_rfl) (wk_s (v' := V.p 1 0) (by kernel_rfl) rfl rfl (wk_s (v' := V.v (.int .i64 0)) (by kernel_rfl) (vint (by rfl)) rfl (wk_o (o' := ⟨29, 1, true, [(.slv l.length 1 (isl l) : A)]⟩) (by kernel_rfl) (renob_l (fun h => h) rfl rfl) rfl (wk_f rfl (wk_f rfl (wk_f rfl (wk_f rfl (wk_nil))))))))) ?_
 rintro a inv1
 replace inv1 : a ≤ 7 ∧ tqT (regSet l) a = false := inv1
 obtain ⟨inv1_0, inv1_1⟩ := inv1
 show Wp _ _ _ [(.s 1, some (.s (V.p 1 0))), (.s 3, some (.s (V.v (.int .i64 ((a : Nat) : Int))))), (.o 1, some (.o ⟨29, 1, true, [(.slv l.length 1 (isl l) : A)]⟩)), (.o 23, some .free), (.o 29, some .free), (.o 35, some .free), (.o 42, some .free)]
 refine wp_seq' ?_
 refine wp_seq' ?_
 refine wp_region_t ?_
 refine w1 (mv 9 3 (V.v (.int .i64 ((a : Nat) : Int)))) ?_
 refine w1 (bn 10 (OpV.tmp 9 (.int .i64 ((a : Nat) : Int))) (OpV.const (.int .i64 1)) (r_add (c := (((a : Nat) : Int) + 1)) (w64 (by omega) (by omega)))) ?_
 refine w1 (bn 11 (OpV.tmp 10 (.int .i64 (((a : Nat) : Int) + 1))) (OpV.const (.int .i64 8)) (r_lss (c := (decide ((((a : Nat) : Int) + 1) < 8))) rfl)) ?_
 refine wpl_nil ?_
 refine wp_if (t := 11) (decide ((((a : Nat) : Int) + 1) < 8)) (by kernel_rfl) (fun c2 => ?_) (fun c2 => ?_)
 ·skip
  have c2P := of_decide_eq_true c2
  refine wp_skip' ?_
  refine wp_seq' ?_
  refine wp_block' ?_
  refine wp_seq' ?_
  refine wp_region_t ?_
  refine w1 (acts_assign (d := 4) (ltN rfl) (OpX.const (.int .i64 0))) ?_
  refine wpl_nil ?_
  refine wp_block' ?_
  refine wp_loop' (fun (b : Nat) => b ≤ 7 ∧ tqR (regSet l) b a = false) (fun (b : Nat) => [(.s 1, some (.s (V.p 1 0))), (.s 3, some (.s (V.v (.int .i64 ((a : Nat) : Int))))), (.s 4, some (.s (V.v (.int .i64 ((b : Nat) : Int))))), (.o 1, some (.o ⟨29, 1, true, [(.slv l.length 1 (isl l) : A)]⟩)), (.o 23, some .free), (.o 29, some .free), (.o 35, some .free), (.o 42, some .free)]) (fun (b : Nat) => 7 - b) ((0 : Nat)) (by exact ⟨Nat.zero_le _, rfl⟩) (weak_of id [23, 29, 35, 42] (by kernel_rfl) (wk_s (v' := V.p 1 0) (by kernel_rfl) rfl rfl (wk_s (v' := V.v (.int .i64 ((a : Nat) : Int))) (by kernel_rfl) rfl rfl (wk_s (v' := V.v (.int .i64 0)) (by kernel_rfl) (vint (by rfl)) rfl (wk_o (o' := ⟨29, 1, true, [(.slv l.length 1 (isl l) : A)]⟩) (by kernel_rfl) (renob_l (fun h => h) rfl rfl) rfl (wk_f rfl (wk_f rfl (wk_f rfl (wk_f rfl (wk_nil)))))))))) ?_
  rintro b inv3
  replace inv3 : b ≤ 7 ∧ tqR (regSet l) b a = false := inv3
  obtain ⟨inv3_0, inv3_1⟩ := inv3
  show Wp _ _ _ [(.s 1, some (.s (V.p 1 0))), (.s 3, some (.s (V.v (.int .i64 ((a : Nat) : Int))))), (.s 4, some (.s (V.v (.int .i64 ((b : Nat) : Int))))), (.o 1, some (.o ⟨29, 1, true, [(.slv l.length 1 (isl l) : A)]⟩)), (.o 23, some .free), (.o 29, some .free), (.o 35, some .free), (.o 42, some .free)]
  refine wp_seq' ?_
  refine wp_seq' ?_
  refine wp_region_t ?_
  refine w1 (mv 14 4 (V.v (.int .i64 ((b : Nat) : Int)))) ?_
  refine w1 (bn 15 (OpV.tmp 14 (.int .i64 ((b : Nat) : Int))) (OpV.const (.int .i64 1)) (r_add (c := (((b : Nat) : Int) + 1)) (w64 (by omega) (by omega)))) ?_
  refine w1 (bn 16 (OpV.tmp 15 (.int .i64 (((b : Nat) : Int) + 1))) (OpV.const (.int .i64 8)) (r_lss (c := (decide ((((b : Nat) : Int) + 1) < 8))) rfl)) ?_
  refine wpl_nil ?_
  refine wp_if (t := 16) (decide ((((b : Nat) : Int) + 1) < 8)) (by kernel_rfl) (fun c4 => ?_) (fun c4 => ?_)
  ·skip
   have c4P := of_decide_eq_true c4
   refine wp_skip' ?_
   refine wp_seq' ?_
   refine wp_block' ?_
   refine wp_seq' ?_
   refine wp_region_t ?_
   refine w1 (acts_load_owns (d := 19) (t := 1) (h := 1) (off := 0) (o := ⟨29, 1, true, [(.slv l.length 1 (isl l) : A)]⟩)  (xs := [(.slv l.length 1 (isl l) : A)]) (ltN rfl) qC26_ti_29 rfl (by decide) rfl) ?_
   refine w1 (mv 20 4 (V.v (.int .i64 ((b : Nat) : Int)))) ?_
   refine w1 (mv 21 3 (V.v (.int .i64 ((a : Nat) : Int)))) ?_
   refine w1 (acts_build (d := 22) (t := 53) (cells := [(.int .i64 ((b : Nat) : Int) : Value), .int .i64 ((a : Nat) : Int)]) (ltN rfl) (OpVs.cons (i := 0) (OpV.tmp 20 (.int .i64 ((b : Nat) : Int))) (OpVs.cons (i := 1) (OpV.tmp 21 (.int .i64 ((a : Nat) : Int))) (OpVs.nil))) rfl) ?_
   refine w1 (acts_call1 (d := 23) (ltN rfl) (spec_l03Has_fn l (⟨((b : Nat) : Int), ((a : Nat) : Int)⟩ : Cel) (by omega) (by exact okc_true.2 (by simp only; omega))) (ArgVs.cons (ArgV.regv 19 l.length 1 (isl l)) (ArgVs.cons (ArgV.va (vs := [(.int .i64 ((b : Nat) : Int) : Value), .int .i64 ((a : Nat) : Int)]) (OpV.agg 22 [(.int .i64 ((b : Nat) : Int) : Value), .int .i64 ((a : Nat) : Int)])) (ArgVs.nil))) (ResV.val _)) ?_
   refine w1 (asg 5 23 (V.v (.bool (hasR l (⟨((b : Nat) : Int), ((a : Nat) : Int)⟩ : Cel))))) ?_
   refine wpl_nil ?_
   refine wp_seq' ?_
   refine wp_region_t ?_
   refine w1 (acts_load_owns (d := 24) (t := 1) (h := 1) (off := 0) (o := ⟨29, 1, true, [(.slv l.length 1 (isl l) : A)]⟩)  (xs := [(.slv l.length 1 (isl l) : A)]) (ltN rfl) qC26_ti_29 rfl (by decide) rfl) ?_
   refine w1 (mv 25 4 (V.v (.int .i64 ((b : Nat) : Int)))) ?_
   refine w1 (bn 26 (OpV.tmp 25 (.int .i64 ((b : Nat) : Int))) (OpV.const (.int .i64 1)) (r_add (c := (((b : Nat) : Int) + 1)) (w64 (by omega) (by omega)))) ?_
   refine w1 (mv 27 3 (V.v (.int .i64 ((a : Nat) : Int)))) ?_
   refine w1 (acts_build (d := 28) (t := 53) (cells := [(.int .i64 (((b : Nat) : Int) + 1) : Value), .int .i64 ((a : Nat) : Int)]) (ltN rfl) (OpVs.cons (i := 0) (OpV.tmp 26 (.int .i64 (((b : Nat) : Int) + 1))) (OpVs.cons (i := 1) (OpV.tmp 27 (.int .i64 ((a : Nat) : Int))) (OpVs.nil))) rfl) ?_
   refine w1 (acts_call1 (d := 29) (ltN rfl) (spec_l03Has_fn l (⟨(((b : Nat) : Int) + 1), ((a : Nat) : Int)⟩ : Cel) (by omega) (by exact okc_true.2 (by simp only; omega))) (ArgVs.cons (ArgV.regv 24 l.length 1 (isl l)) (ArgVs.cons (ArgV.va (vs := [(.int .i64 (((b : Nat) : Int) + 1) : Value), .int .i64 ((a : Nat) : Int)]) (OpV.agg 28 [(.int .i64 (((b : Nat) : Int) + 1) : Value), .int .i64 ((a : Nat) : Int)])) (ArgVs.nil))) (ResV.val _)) ?_
   refine w1 (asg 6 29 (V.v (.bool (hasR l (⟨(((b : Nat) : Int) + 1), ((a : Nat) : Int)⟩ : Cel))))) ?_
   refine wpl_nil ?_
   refine wp_seq' ?_
   refine wp_region_t ?_
   refine w1 (acts_load_owns (d := 30) (t := 1) (h := 1) (off := 0) (o := ⟨29, 1, true, [(.slv l.length 1 (isl l) : A)]⟩)  (xs := [(.slv l.length 1 (isl l) : A)]) (ltN rfl) qC26_ti_29 rfl (by decide) rfl) ?_
   refine w1 (mv 31 4 (V.v (.int .i64 ((b : Nat) : Int)))) ?_
   refine w1 (mv 32 3 (V.v (.int .i64 ((a : Nat) : Int)))) ?_
   refine w1 (bn 33 (OpV.tmp 32 (.int .i64 ((a : Nat) : Int))) (OpV.const (.int .i64 1)) (r_add (c := (((a : Nat) : Int) + 1)) (w64 (by omega) (by omega)))) ?_
   refine w1 (acts_build (d := 34) (t := 53) (cells := [(.int .i64 ((b : Nat) : Int) : Value), .int .i64 (((a : Nat) : Int) + 1)]) (ltN rfl) (OpVs.cons (i := 0) (OpV.tmp 31 (.int .i64 ((b : Nat) : Int))) (OpVs.cons (i := 1) (OpV.tmp 33 (.int .i64 (((a : Nat) : Int) + 1))) (OpVs.nil))) rfl) ?_
   refine w1 (acts_call1 (d := 35) (ltN rfl) (spec_l03Has_fn l (⟨((b : Nat) : Int), (((a : Nat) : Int) + 1)⟩ : Cel) (by omega) (by exact okc_true.2 (by simp only; omega))) (ArgVs.cons (ArgV.regv 30 l.length 1 (isl l)) (ArgVs.cons (ArgV.va (vs := [(.int .i64 ((b : Nat) : Int) : Value), .int .i64 (((a : Nat) : Int) + 1)]) (OpV.agg 34 [(.int .i64 ((b : Nat) : Int) : Value), .int .i64 (((a : Nat) : Int) + 1)])) (ArgVs.nil))) (ResV.val _)) ?_
   refine w1 (asg 7 35 (V.v (.bool (hasR l (⟨((b : Nat) : Int), (((a : Nat) : Int) + 1)⟩ : Cel))))) ?_
   refine wpl_nil ?_
   refine wp_seq' ?_
   refine wp_region_t ?_
   refine w1 (acts_load_owns (d := 36) (t := 1) (h := 1) (off := 0) (o := ⟨29, 1, true, [(.slv l.length 1 (isl l) : A)]⟩)  (xs := [(.slv l.length 1 (isl l) : A)]) (ltN rfl) qC26_ti_29 rfl (by decide) rfl) ?_
   refine w1 (mv 37 4 (V.v (.int .i64 ((b : Nat) : Int)))) ?_
   refine w1 (bn 38 (OpV.tmp 37 (.int .i64 ((b : Nat) : Int))) (OpV.const (.int .i64 1)) (r_add (c := (((b : Nat) : Int) + 1)) (w64 (by omega) (by omega)))) ?_
   refine w1 (mv 39 3 (V.v (.int .i64 ((a : Nat) : Int)))) ?_
   refine w1 (bn 40 (OpV.tmp 39 (.int .i64 ((a : Nat) : Int))) (OpV.const (.int .i64 1)) (r_add (c := (((a : Nat) : Int) + 1)) (w64 (by omega) (by omega)))) ?_
   refine w1 (acts_build (d := 41) (t := 53) (cells := [(.int .i64 (((b : Nat) : Int) + 1) : Value), .int .i64 (((a : Nat) : Int) + 1)]) (ltN rfl) (OpVs.cons (i := 0) (OpV.tmp 38 (.int .i64 (((b : Nat) : Int) + 1))) (OpVs.cons (i := 1) (OpV.tmp 40 (.int .i64 (((a : Nat) : Int) + 1))) (OpVs.nil))) rfl) ?_
   refine w1 (acts_call1 (d := 42) (ltN rfl) (spec_l03Has_fn l (⟨(((b : Nat) : Int) + 1), (((a : Nat) : Int) + 1)⟩ : Cel) (by omega) (by exact okc_true.2 (by simp only; omega))) (ArgVs.cons (ArgV.regv 36 l.length 1 (isl l)) (ArgVs.cons (ArgV.va (vs := [(.int .i64 (((b : Nat) : Int) + 1) : Value), .int .i64 (((a : Nat) : Int) + 1)]) (OpV.agg 41 [(.int .i64 (((b : Nat) : Int) + 1) : Value), .int .i64 (((a : Nat) : Int) + 1)])) (ArgVs.nil))) (ResV.val _)) ?_
   refine w1 (asg 8 42 (V.v (.bool (hasR l (⟨(((b : Nat) : Int) + 1), (((a : Nat) : Int) + 1)⟩ : Cel))))) ?_
   refine wpl_nil ?_
   refine wp_seq' ?_
   refine wp_join [(.s 55, some (.s (V.v (.bool ((decide ((hasR l (⟨((b : Nat) : Int), ((a : Nat) : Int)⟩ : Cel)) = (hasR l (⟨(((b : Nat) : Int) + 1), (((a : Nat) : Int) + 1)⟩ : Cel)))) && ((decide ((hasR l (⟨(((b : Nat) : Int) + 1), ((a : Nat) : Int)⟩ : Cel)) = (hasR l (⟨((b : Nat) : Int), (((a : Nat) : Int) + 1)⟩ : Cel)))) && (decide ((hasR l (⟨((b : Nat) : Int), ((a : Nat) : Int)⟩ : Cel)) ≠ (hasR l (⟨(((b : Nat) : Int) + 1), ((a : Nat) : Int)⟩ : Cel)))))))))), (.s 1, some (.s (V.p 1 0))), (.s 3, some (.s (V.v (.int .i64 ((a : Nat) : Int))))), (.s 4, some (.s (V.v (.int .i64 ((b : Nat) : Int))))), (.o 1, some (.o ⟨29, 1, true, [(.slv l.length 1 (isl l) : A)]⟩)), (.o 23, some .free), (.o 29, some .free), (.o 35, some .free), (.o 42, some .free)] ?_ ?_
   ·skip
    rcases Bool.eq_false_or_eq_true (decide ((hasR l (⟨((b : Nat) : Int), ((a : Nat) : Int)⟩ : Cel)) = (hasR l (⟨(((b : Nat) : Int) + 1), (((a : Nat) : Int) + 1)⟩ : Cel)))) with c5 | c5
    ·skip
     have c5P := of_decide_eq_true c5
     rcases Bool.eq_false_or_eq_true (decide ((hasR l (⟨(((b : Nat) : Int) + 1), ((a : Nat) : Int)⟩ : Cel)) = (hasR l (⟨((b : Nat) : Int), (((a : Nat) : Int) + 1)⟩ : Cel)))) with c6 | c6
     ·skip
      have c6P := of_decide_eq_true c6
      refine wp_region_t ?_
      refine w1 (mv 43 5 (V.v (.bool (hasR l (⟨((b : Nat) : Int), ((a : Nat) : Int)⟩ : Cel))))) ?_
      refine w1 (mv 44 8 (V.v (.bool (hasR l (⟨(((b : Nat) : Int) + 1), (((a : Nat) : Int) + 1)⟩ : Cel))))) ?_
      refine w1 (bn 45 (OpV.tmp 43 (.bool (hasR l (⟨((b : Nat) : Int), ((a : Nat) : Int)⟩ : Cel)))) (OpV.tmp 44 (.bool (hasR l (⟨(((b : Nat) : Int) + 1), (((a : Nat) : Int) + 1)⟩ : Cel)))) (r_beql (c := true) qC26_un_4 c5)) ?_
      refine w1 (mv 46 45 (V.v (.bool true))) ?_
      refine w2 (step_on (dj := 46) rfl rfl (mv 47 6 (V.v (.bool (hasR l (⟨(((b : Nat) : Int) + 1), ((a : Nat) : Int)⟩ : Cel)))))) ?_
      refine w2 (step_on (dj := 46) rfl rfl (mv 48 7 (V.v (.bool (hasR l (⟨((b : Nat) : Int), (((a : Nat) : Int) + 1)⟩ : Cel)))))) ?_
      refine w2 (step_on (dj := 46) rfl rfl (bn 49 (OpV.tmp 47 (.bool (hasR l (⟨(((b : Nat) : Int) + 1), ((a : Nat) : Int)⟩ : Cel)))) (OpV.tmp 48 (.bool (hasR l (⟨((b : Nat) : Int), (((a : Nat) : Int) + 1)⟩ : Cel)))) (r_beql (c := true) qC26_un_4 c6))) ?_
      refine w1 (acts_pick_t (d := 50) (ltN rfl) (OpV.tmp 46 (.bool true)) (OpX.tmp 49 (V.v (.bool true)))) ?_
      refine w1 (mv 51 50 (V.v (.bool true))) ?_
      refine w2 (step_on (dj := 51) rfl rfl (mv 52 5 (V.v (.bool (hasR l (⟨((b : Nat) : Int), ((a : Nat) : Int)⟩ : Cel)))))) ?_
      refine w2 (step_on (dj := 51) rfl rfl (mv 53 6 (V.v (.bool (hasR l (⟨(((b : Nat) : Int) + 1), ((a : Nat) : Int)⟩ : Cel)))))) ?_
      refine w2 (step_on (dj := 51) rfl rfl (bn 54 (OpV.tmp 52 (.bool (hasR l (⟨((b : Nat) : Int), ((a : Nat) : Int)⟩ : Cel)))) (OpV.tmp 53 (.bool (hasR l (⟨(((b : Nat) : Int) + 1), ((a : Nat) : Int)⟩ : Cel)))) (r_bneq (c := (decide ((hasR l (⟨((b : Nat) : Int), ((a : Nat) : Int)⟩ : Cel)) ≠ (hasR l (⟨(((b : Nat) : Int) + 1), ((a : Nat) : Int)⟩ : Cel))))) qC26_un_4 rfl))) ?_
      refine w1 (acts_pick_t (d := 55) (ltN rfl) (OpV.tmp 51 (.bool true)) (OpX.tmp 54 (V.v (.bool (decide ((hasR l (⟨((b : Nat) : Int), ((a : Nat) : Int)⟩ : Cel)) ≠ (hasR l (⟨(((b : Nat) : Int) + 1), ((a : Nat) : Int)⟩ : Cel)))))))) ?_
      refine wpl_nil ?_
      exact ⟨rfl, weak_reads ⟨(by simp only [c5, c6]; first | done | kernel_rfl), (by repeat (first | exact trivial | refine ⟨by kernel_rfl, ?_⟩))⟩⟩
     ·skip
      have c6P := of_decide_eq_false c6
      refine wp_region_t ?_
      refine w1 (mv 43 5 (V.v (.bool (hasR l (⟨((b : Nat) : Int), ((a : Nat) : Int)⟩ : Cel))))) ?_
      refine w1 (mv 44 8 (V.v (.bool (hasR l (⟨(((b : Nat) : Int) + 1), (((a : Nat) : Int) + 1)⟩ : Cel))))) ?_
      refine w1 (bn 45 (OpV.tmp 43 (.bool (hasR l (⟨((b : Nat) : Int), ((a : Nat) : Int)⟩ : Cel)))) (OpV.tmp 44 (.bool (hasR l (⟨(((b : Nat) : Int) + 1), (((a : Nat) : Int) + 1)⟩ : Cel)))) (r_beql (c := true) qC26_un_4 c5)) ?_
      refine w1 (mv 46 45 (V.v (.bool true))) ?_
      refine w2 (step_on (dj := 46) rfl rfl (mv 47 6 (V.v (.bool (hasR l (⟨(((b : Nat) : Int) + 1), ((a : Nat) : Int)⟩ : Cel)))))) ?_
      refine w2 (step_on (dj := 46) rfl rfl (mv 48 7 (V.v (.bool (hasR l (⟨((b : Nat) : Int), (((a : Nat) : Int) + 1)⟩ : Cel)))))) ?_
      refine w2 (step_on (dj := 46) rfl rfl (bn 49 (OpV.tmp 47 (.bool (hasR l (⟨(((b : Nat) : Int) + 1), ((a : Nat) : Int)⟩ : Cel)))) (OpV.tmp 48 (.bool (hasR l (⟨((b : Nat) : Int), (((a : Nat) : Int) + 1)⟩ : Cel)))) (r_beql (c := false) qC26_un_4 c6))) ?_
      refine w1 (acts_pick_t (d := 50) (ltN rfl) (OpV.tmp 46 (.bool true)) (OpX.tmp 49 (V.v (.bool false)))) ?_
      refine w1 (mv 51 50 (V.v (.bool false))) ?_
      refine w2 (step_off (dj := 51) (b' := false) rfl rfl (by decide) rfl (ltN rfl)) ?_
      refine w2 (step_off (dj := 51) (b' := false) rfl rfl (by decide) rfl (ltN rfl)) ?_
      refine w2 (step_off (dj := 51) (b' := false) rfl rfl (by decide) rfl (ltN rfl)) ?_
      refine w1 (acts_pick_f (d := 55) (ltN rfl) (OpV.tmp 51 (.bool false)) (OpX.const (.bool false))) ?_
      refine wpl_nil ?_
      exact ⟨rfl, weak_reads ⟨(by simp only [c5, c6]; first | done | kernel_rfl), (by repeat (first | exact trivial | refine ⟨by kernel_rfl, ?_⟩))⟩⟩
    ·skip
     have c5P := of_decide_eq_false c5
     refine wp_region_t ?_
     refine w1 (mv 43 5 (V.v (.bool (hasR l (⟨((b : Nat) : Int), ((a : Nat) : Int)⟩ : Cel))))) ?_
     refine w1 (mv 44 8 (V.v (.bool (hasR l (⟨(((b : Nat) : Int) + 1), (((a : Nat) : Int) + 1)⟩ : Cel))))) ?_
     refine w1 (bn 45 (OpV.tmp 43 (.bool (hasR l (⟨((b : Nat) : Int), ((a : Nat) : Int)⟩ : Cel)))) (OpV.tmp 44 (.bool (hasR l (⟨(((b : Nat) : Int) + 1), (((a : Nat) : Int) + 1)⟩ : Cel)))) (r_beql (c := false) qC26_un_4 c5)) ?_
     refine w1 (mv 46 45 (V.v (.bool false))) ?_
     refine w2 (step_off (dj := 46) (b' := false) rfl rfl (by decide) rfl (ltN rfl)) ?_
     refine w2 (step_off (dj := 46) (b' := false) rfl rfl (by decide) rfl (ltN rfl)) ?_
     refine w2 (step_off (dj := 46) (b' := false) rfl rfl (by decide) rfl (ltN rfl)) ?_
     refine w1 (acts_pick_f (d := 50) (ltN rfl) (OpV.tmp 46 (.bool false)) (OpX.const (.bool false))) ?_
     refine w1 (mv 51 50 (V.v (.bool false))) ?_
     refine w2 (step_off (dj := 51) (b' := false) rfl rfl (by decide) rfl (ltN rfl)) ?_
     refine w2 (step_off (dj := 51) (b' := false) rfl rfl (by decide) rfl (ltN rfl)) ?_
     refine w2 (step_off (dj := 51) (b' := false) rfl rfl (by decide) rfl (ltN rfl)) ?_
     refine w1 (acts_pick_f (d := 55) (ltN rfl) (OpV.tmp 51 (.bool false)) (OpX.const (.bool false))) ?_
     refine wpl_nil ?_
     exact ⟨rfl, weak_reads ⟨(by simp only [c5]; first | done | kernel_rfl), (by repeat (first | exact trivial | refine ⟨by kernel_rfl, ?_⟩))⟩⟩
   refine wp_if (t := 55) (((decide ((hasR l (⟨((b : Nat) : Int), ((a : Nat) : Int)⟩ : Cel)) = (hasR l (⟨(((b : Nat) : Int) + 1), (((a : Nat) : Int) + 1)⟩ : Cel)))) && ((decide ((hasR l (⟨(((b : Nat) : Int) + 1), ((a : Nat) : Int)⟩ : Cel)) = (hasR l (⟨((b : Nat) : Int), (((a : Nat) : Int) + 1)⟩ : Cel)))) && (decide ((hasR l (⟨((b : Nat) : Int), ((a : Nat) : Int)⟩ : Cel)) ≠ (hasR l (⟨(((b : Nat) : Int) + 1), ((a : Nat) : Int)⟩ : Cel))))))) (by kernel_rfl) (fun c7 => ?_) (fun c7 => ?_)
   ·skip
    obtain ⟨c8, c9⟩ := and_tt c7
    have c8P := of_decide_eq_true c8
    obtain ⟨c10, c11⟩ := and_tt c9
    have c10P := of_decide_eq_true c10
    have c11P := of_decide_eq_true c11
    refine wp_seq' ?_
    refine wp_region_t ?_
    refine w1 (acts_assign (d := 2) (ltN rfl) (OpX.const (.bool true))) ?_
    refine wpl_nil ?_
    refine wp_ret' ?_
    exact VRes.tmp 2 (.a (.val (.bool true))) _ (by kernel_rfl) (bval (congrArg Value.bool (by exact (tch_yes (x := b) (y := a) (by omega) (by omega) ((tq_jR ho (by omega) (by omega)).symm.trans (by assumption))).symm)))
   ·skip
    have c12 := and_ff c7
    refine wp_skip' ?_
    refine wp_region_t ?_
    refine w1 (mv 17 4 (V.v (.int .i64 ((b : Nat) : Int)))) ?_
    refine w1 (bn 18 (OpV.tmp 17 (.int .i64 ((b : Nat) : Int))) (OpV.const (.int .i64 1)) (r_add (c := (((b : Nat) : Int) + 1)) (w64 (by omega) (by omega)))) ?_
    refine w1 (asg 4 18 (V.v (.int .i64 (((b : Nat) : Int) + 1)))) ?_
    refine wpl_nil ?_
    exact loop_back ((b + 1)) (by exact ⟨by omega, tqR_snoc (by assumption) ((tq_jR ho (by omega) (by omega)).symm.trans (by assumption))⟩) (by show 7 - (b + 1) < 7 - b; omega) (weak_of id [23, 29, 35, 42] (by kernel_rfl) (wk_s (v' := V.p 1 0) (by kernel_rfl) rfl rfl (wk_s (v' := V.v (.int .i64 ((a : Nat) : Int))) (by kernel_rfl) rfl rfl (wk_s (v' := V.v (.int .i64 (((b : Nat) : Int) + 1))) (by kernel_rfl) (vint (by rfl)) rfl (wk_o (o' := ⟨29, 1, true, [(.slv l.length 1 (isl l) : A)]⟩) (by kernel_rfl) (renob_l (fun h => h) rfl rfl) rfl (wk_f rfl (wk_f rfl (wk_f rfl (wk_f rfl (wk_nil))))))))))
  ·skip
   have c4P := of_decide_eq_false c4
   refine wp_exit' ?_
   refine wp_region_t ?_
   refine w1 (mv 12 3 (V.v (.int .i64 ((a : Nat) : Int)))) ?_
   refine w1 (bn 13 (OpV.tmp 12 (.int .i64 ((a : Nat) : Int))) (OpV.const (.int .i64 1)) (r_add (c := (((a : Nat) : Int) + 1)) (w64 (by omega) (by omega)))) ?_
   refine w1 (asg 3 13 (V.v (.int .i64 (((a : Nat) : Int) + 1)))) ?_
   refine wpl_nil ?_
   exact loop_back ((a + 1)) (by (have e : b = 7 := by omega); subst e; exact ⟨by omega, tqT_snoc (by assumption) (by assumption)⟩) (by show 7 - (a + 1) < 7 - a; omega) (weak_of id [23, 29, 35, 42] (by kernel_rfl) (wk_s (v' := V.p 1 0) (by kernel_rfl) rfl rfl (wk_s (v' := V.v (.int .i64 (((a : Nat) : Int) + 1))) (by kernel_rfl) (vint (by rfl)) rfl (wk_o (o' := ⟨29, 1, true, [(.slv l.length 1 (isl l) : A)]⟩) (by kernel_rfl) (renob_l (fun h => h) rfl rfl) rfl (wk_f rfl (wk_f rfl (wk_f rfl (wk_f rfl (wk_nil)))))))))
 ·skip
  have c2P := of_decide_eq_false c2
  refine wp_exit' ?_
  refine wp_seq' ?_
  refine wp_region_t ?_
  refine w1 (acts_assign (d := 2) (ltN rfl) (OpX.const (.bool false))) ?_
  refine wpl_nil ?_
  refine wp_ret' ?_
  exact VRes.tmp 2 (.a (.val (.bool false))) _ (by kernel_rfl) (bval (congrArg Value.bool (by ((have e : a = 7 := by omega); subst e; exact (tqT_end (by assumption)).symm))))

set_option maxHeartbeats 4000000 in
set_option maxRecDepth 100000 in
theorem spec_IsSimple_fn (l : List Int) (hl : l.length ≤ 4194304) : Fn Try.prog 35 [.agg [(.slv l.length 1 (isl l) : A)]] [.val (.bool (simB l))] := by
 refine fn_intro (N := 20) Try.func35 rfl (by kernel_rfl) rfl (Nat.le_of_ble_eq_true rfl) [1, 4, 7, 12, 17] (ret1 rfl) (fun W => ?_)
 show Wp _ _ _ [(.s 0, some (.s (V.b (.agg [(.slv l.length 1 (isl l) : A)])))), (.o 1, some .free), (.o 4, some .free), (.o 7, some .free), (.o 12, some .free), (.o 17, some .free)]
 refine wp_seq' ?_
 refine wp_region_t ?_
 refine w1 (acts_box (d := 1) (h := 1) (b := .agg [(.slv l.length 1 (isl l) : A)]) (ltN rfl) (OpX.tmp 0 (V.b (.agg [(.slv l.length 1 (isl l) : A)]))) (by intro y hy; simp [B.cs] at hy; subst hy; rfl)) ?_
 refine w1 (acts_assign (d := 2) (ltN rfl) (OpX.const (.bool false))) ?_
 refine wpl_nil ?_
 refine wp_seq' ?_
 rcases Bool.eq_false_or_eq_true ((regOk l)) with c1 | c1
 ·skip
  rcases Bool.eq_false_or_eq_true (decide ((((pcN l) : Nat) : Int) = 1)) with c2 | c2
  ·skip
   have c2P := of_decide_eq_true c2
   rcases Bool.eq_false_or_eq_true (decide ((hol l) = 0)) with c3 | c3
   ·skip
    have c3P := of_decide_eq_true c3
    refine wp_region_t ?_
    refine w1 (acts_load_owns (d := 3) (t := 1) (h := 1) (off := 0) (o := ⟨29, 1, true, [(.slv l.length 1 (isl l) : A)]⟩)  (xs := [(.slv l.length 1 (isl l) : A)]) (ltN rfl) qC26_ti_29 rfl (by decide) rfl) ?_
    refine w1 (acts_call1 (d := 4) (ltN rfl) (spec_RegionOk_fn l (by omega)) (ArgVs.cons (ArgV.regv 3 l.length 1 (isl l)) (ArgVs.nil)) ((resval (congrArg Value.bool c1)))) ?_
    refine w1 (mv 5 4 (V.v (.bool true))) ?_
    refine w2 (step_on (dj := 5) rfl rfl (acts_load_owns (d := 6) (t := 1) (h := 1) (off := 0) (o := ⟨29, 1, true, [(.slv l.length 1 (isl l) : A)]⟩)  (xs := [(.slv l.length 1 (isl l) : A)]) (ltN rfl) qC26_ti_29 rfl (by decide) rfl)) ?_
    refine w2 (step_on (dj := 5) rfl rfl (acts_call1 (d := 7) (ltN rfl) (spec_CountPieces_fn l (by omega)) (ArgVs.cons (ArgV.regv 6 l.length 1 (isl l)) (ArgVs.nil)) (ResV.val _))) ?_
    refine w2 (step_on (dj := 5) rfl rfl (bn 8 (OpV.tmp 7 (.int .i64 (((pcN l) : Nat) : Int))) (OpV.const (.int .i64 1)) (r_eql (c := true) c2))) ?_
    refine w1 (acts_pick_t (d := 9) (ltN rfl) (OpV.tmp 5 (.bool true)) (OpX.tmp 8 (V.v (.bool true)))) ?_
    refine w1 (mv 10 9 (V.v (.bool true))) ?_
    refine w2 (step_on (dj := 10) rfl rfl (acts_load_owns (d := 11) (t := 1) (h := 1) (off := 0) (o := ⟨29, 1, true, [(.slv l.length 1 (isl l) : A)]⟩)  (xs := [(.slv l.length 1 (isl l) : A)]) (ltN rfl) qC26_ti_29 rfl (by decide) rfl)) ?_
    refine w2 (step_on (dj := 10) rfl rfl (acts_call1 (d := 12) (ltN rfl) (spec_CountHoles_fn l (by omega)) (ArgVs.cons (ArgV.regv 11 l.length 1 (isl l)) (ArgVs.nil)) (ResV.val _))) ?_
    refine w2 (step_on (dj := 10) rfl rfl (bn 13 (OpV.tmp 12 (.int .i64 (hol l))) (OpV.const (.int .i64 0)) (r_eql (c := true) c3))) ?_
    refine w1 (acts_pick_t (d := 14) (ltN rfl) (OpV.tmp 10 (.bool true)) (OpX.tmp 13 (V.v (.bool true)))) ?_
    refine w1 (mv 15 14 (V.v (.bool true))) ?_
    refine w2 (step_on (dj := 15) rfl rfl (acts_load_owns (d := 16) (t := 1) (h := 1) (off := 0) (o := ⟨29, 1, true, [(.slv l.length 1 (isl l) : A)]⟩)  (xs := [(.slv l.length 1 (isl l) : A)]) (ltN rfl) qC26_ti_29 rfl (by decide) rfl)) ?_
    refine w2 (step_on (dj := 15) rfl rfl (acts_call1 (d := 17) (ltN rfl) (spec_l04Touches_fn l (by omega)) (ArgVs.cons (ArgV.regv 16 l.length 1 (isl l)) (ArgVs.nil)) (ResV.val _))) ?_
    refine w2 (step_on (dj := 15) rfl rfl (acts_un (d := 18) (ltN rfl) (OpV.tmp 17 (.bool (tchS (regSet l)))) (r_not (c := (!(tchS (regSet l)))) rfl))) ?_
    refine w1 (acts_pick_t (d := 19) (ltN rfl) (OpV.tmp 15 (.bool true)) (OpX.tmp 18 (V.v (.bool (!(tchS (regSet l))))))) ?_
    refine w1 (asg 2 19 (V.v (.bool (!(tchS (regSet l)))))) ?_
    refine wpl_nil ?_
    refine wp_ret' ?_
    exact VRes.tmp 2 (.a (.val (.bool (!(tchS (regSet l)))))) _ (by kernel_rfl) (bval (congrArg Value.bool (by (rw [simB_6 (by assumption) (by assumption) (by assumption)]; first | done | (simp_all; done)))))
   ·skip
    have c3P := of_decide_eq_false c3
    refine wp_region_t ?_
    refine w1 (acts_load_owns (d := 3) (t := 1) (h := 1) (off := 0) (o := ⟨29, 1, true, [(.slv l.length 1 (isl l) : A)]⟩)  (xs := [(.slv l.length 1 (isl l) : A)]) (ltN rfl) qC26_ti_29 rfl (by decide) rfl) ?_
    refine w1 (acts_call1 (d := 4) (ltN rfl) (spec_RegionOk_fn l (by omega)) (ArgVs.cons (ArgV.regv 3 l.length 1 (isl l)) (ArgVs.nil)) ((resval (congrArg Value.bool c1)))) ?_
    refine w1 (mv 5 4 (V.v (.bool true))) ?_
    refine w2 (step_on (dj := 5) rfl rfl (acts_load_owns (d := 6) (t := 1) (h := 1) (off := 0) (o := ⟨29, 1, true, [(.slv l.length 1 (isl l) : A)]⟩)  (xs := [(.slv l.length 1 (isl l) : A)]) (ltN rfl) qC26_ti_29 rfl (by decide) rfl)) ?_
    refine w2 (step_on (dj := 5) rfl rfl (acts_call1 (d := 7) (ltN rfl) (spec_CountPieces_fn l (by omega)) (ArgVs.cons (ArgV.regv 6 l.length 1 (isl l)) (ArgVs.nil)) (ResV.val _))) ?_
    refine w2 (step_on (dj := 5) rfl rfl (bn 8 (OpV.tmp 7 (.int .i64 (((pcN l) : Nat) : Int))) (OpV.const (.int .i64 1)) (r_eql (c := true) c2))) ?_
    refine w1 (acts_pick_t (d := 9) (ltN rfl) (OpV.tmp 5 (.bool true)) (OpX.tmp 8 (V.v (.bool true)))) ?_
    refine w1 (mv 10 9 (V.v (.bool true))) ?_
    refine w2 (step_on (dj := 10) rfl rfl (acts_load_owns (d := 11) (t := 1) (h := 1) (off := 0) (o := ⟨29, 1, true, [(.slv l.length 1 (isl l) : A)]⟩)  (xs := [(.slv l.length 1 (isl l) : A)]) (ltN rfl) qC26_ti_29 rfl (by decide) rfl)) ?_
    refine w2 (step_on (dj := 10) rfl rfl (acts_call1 (d := 12) (ltN rfl) (spec_CountHoles_fn l (by omega)) (ArgVs.cons (ArgV.regv 11 l.length 1 (isl l)) (ArgVs.nil)) (ResV.val _))) ?_
    refine w2 (step_on (dj := 10) rfl rfl (bn 13 (OpV.tmp 12 (.int .i64 (hol l))) (OpV.const (.int .i64 0)) (r_eql (c := false) c3))) ?_
    refine w1 (acts_pick_t (d := 14) (ltN rfl) (OpV.tmp 10 (.bool true)) (OpX.tmp 13 (V.v (.bool false)))) ?_
    refine w1 (mv 15 14 (V.v (.bool false))) ?_
    refine w2 (step_off (dj := 15) (b' := false) rfl rfl (by decide) rfl (ltN rfl)) ?_
    refine w2 (step_off (dj := 15) (b' := false) rfl rfl (by decide) rfl (ltN rfl)) ?_
    refine w2 (step_off (dj := 15) (b' := false) rfl rfl (by decide) rfl (ltN rfl)) ?_
    refine w1 (acts_pick_f (d := 19) (ltN rfl) (OpV.tmp 15 (.bool false)) (OpX.const (.bool false))) ?_
    refine w1 (asg 2 19 (V.v (.bool false))) ?_
    refine wpl_nil ?_
    refine wp_ret' ?_
    exact VRes.tmp 2 (.a (.val (.bool false))) _ (by kernel_rfl) (bval (congrArg Value.bool (by exact (simB_3 (by assumption)).symm)))
  ·skip
   have c2P := of_decide_eq_false c2
   refine wp_region_t ?_
   refine w1 (acts_load_owns (d := 3) (t := 1) (h := 1) (off := 0) (o := ⟨29, 1, true, [(.slv l.length 1 (isl l) : A)]⟩)  (xs := [(.slv l.length 1 (isl l) : A)]) (ltN rfl) qC26_ti_29 rfl (by decide) rfl) ?_
   refine w1 (acts_call1 (d := 4) (ltN rfl) (spec_RegionOk_fn l (by omega)) (ArgVs.cons (ArgV.regv 3 l.length 1 (isl l)) (ArgVs.nil)) ((resval (congrArg Value.bool c1)))) ?_
   refine w1 (mv 5 4 (V.v (.bool true))) ?_
   refine w2 (step_on (dj := 5) rfl rfl (acts_load_owns (d := 6) (t := 1) (h := 1) (off := 0) (o := ⟨29, 1, true, [(.slv l.length 1 (isl l) : A)]⟩)  (xs := [(.slv l.length 1 (isl l) : A)]) (ltN rfl) qC26_ti_29 rfl (by decide) rfl)) ?_
   refine w2 (step_on (dj := 5) rfl rfl (acts_call1 (d := 7) (ltN rfl) (spec_CountPieces_fn l (by omega)) (ArgVs.cons (ArgV.regv 6 l.length 1 (isl l)) (ArgVs.nil)) (ResV.val _))) ?_
   refine w2 (step_on (dj := 5) rfl rfl (bn 8 (OpV.tmp 7 (.int .i64 (((pcN l) : Nat) : Int))) (OpV.const (.int .i64 1)) (r_eql (c := false) c2))) ?_
   refine w1 (acts_pick_t (d := 9) (ltN rfl) (OpV.tmp 5 (.bool true)) (OpX.tmp 8 (V.v (.bool false)))) ?_
   refine w1 (mv 10 9 (V.v (.bool false))) ?_
   refine w2 (step_off (dj := 10) (b' := false) rfl rfl (by decide) rfl (ltN rfl)) ?_
   refine w2 (step_off (dj := 10) (b' := false) rfl rfl (by decide) rfl (ltN rfl)) ?_
   refine w2 (step_off (dj := 10) (b' := false) rfl rfl (by decide) rfl (ltN rfl)) ?_
   refine w1 (acts_pick_f (d := 14) (ltN rfl) (OpV.tmp 10 (.bool false)) (OpX.const (.bool false))) ?_
   refine w1 (mv 15 14 (V.v (.bool false))) ?_
   refine w2 (step_off (dj := 15) (b' := false) rfl rfl (by decide) rfl (ltN rfl)) ?_
   refine w2 (step_off (dj := 15) (b' := false) rfl rfl (by decide) rfl (ltN rfl)) ?_
   refine w2 (step_off (dj := 15) (b' := false) rfl rfl (by decide) rfl (ltN rfl)) ?_
   refine w1 (acts_pick_f (d := 19) (ltN rfl) (OpV.tmp 15 (.bool false)) (OpX.const (.bool false))) ?_
   refine w1 (asg 2 19 (V.v (.bool false))) ?_
   refine wpl_nil ?_
   refine wp_ret' ?_
   exact VRes.tmp 2 (.a (.val (.bool false))) _ (by kernel_rfl) (bval (congrArg Value.bool (by exact (simB_2 (by assumption)).symm)))
 ·skip
  refine wp_region_t ?_
  refine w1 (acts_load_owns (d := 3) (t := 1) (h := 1) (off := 0) (o := ⟨29, 1, true, [(.slv l.length 1 (isl l) : A)]⟩)  (xs := [(.slv l.length 1 (isl l) : A)]) (ltN rfl) qC26_ti_29 rfl (by decide) rfl) ?_
  refine w1 (acts_call1 (d := 4) (ltN rfl) (spec_RegionOk_fn l (by omega)) (ArgVs.cons (ArgV.regv 3 l.length 1 (isl l)) (ArgVs.nil)) ((resval (congrArg Value.bool c1)))) ?_
  refine w1 (mv 5 4 (V.v (.bool false))) ?_
  refine w2 (step_off (dj := 5) (b' := false) rfl rfl (by decide) rfl (ltN rfl)) ?_
  refine w2 (step_off (dj := 5) (b' := false) rfl rfl (by decide) rfl (ltN rfl)) ?_
  refine w2 (step_off (dj := 5) (b' := false) rfl rfl (by decide) rfl (ltN rfl)) ?_
  refine w1 (acts_pick_f (d := 9) (ltN rfl) (OpV.tmp 5 (.bool false)) (OpX.const (.bool false))) ?_
  refine w1 (mv 10 9 (V.v (.bool false))) ?_
  refine w2 (step_off (dj := 10) (b' := false) rfl rfl (by decide) rfl (ltN rfl)) ?_
  refine w2 (step_off (dj := 10) (b' := false) rfl rfl (by decide) rfl (ltN rfl)) ?_
  refine w2 (step_off (dj := 10) (b' := false) rfl rfl (by decide) rfl (ltN rfl)) ?_
  refine w1 (acts_pick_f (d := 14) (ltN rfl) (OpV.tmp 10 (.bool false)) (OpX.const (.bool false))) ?_
  refine w1 (mv 15 14 (V.v (.bool false))) ?_
  refine w2 (step_off (dj := 15) (b' := false) rfl rfl (by decide) rfl (ltN rfl)) ?_
  refine w2 (step_off (dj := 15) (b' := false) rfl rfl (by decide) rfl (ltN rfl)) ?_
  refine w2 (step_off (dj := 15) (b' := false) rfl rfl (by decide) rfl (ltN rfl)) ?_
  refine w1 (acts_pick_f (d := 19) (ltN rfl) (OpV.tmp 15 (.bool false)) (OpX.const (.bool false))) ?_
  refine w1 (asg 2 19 (V.v (.bool false))) ?_
  refine wpl_nil ?_
  refine wp_ret' ?_
  exact VRes.tmp 2 (.a (.val (.bool false))) _ (by kernel_rfl) (bval (congrArg Value.bool (by exact (simB_1 (by assumption)).symm)))
end Cl
end Go.Proofs.Ytmbodpmhokbapaa
