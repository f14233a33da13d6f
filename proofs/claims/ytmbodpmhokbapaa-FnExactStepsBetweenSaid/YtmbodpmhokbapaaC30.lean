/- Walks over clean states, printed by wg.py. No statement is proved here. -/
import Derived.Test.YtmbodpmhokbapaaCl18
import Derived.Test.YtmbodpmhokbapaaC29
namespace Go.Proofs.Ytmbodpmhokbapaa
namespace Cl
open Go.ChangeShapes Go.WideShapes Go.ChangeAt Go.RowKit

theorem HeightsOf_no (l : List Int) (ds : List Dom) (hl : l.length ≤ 4194304) (hd : ds.length ≤ 2097152) (hg : (simB l && isTil l ds) = false) : Fn Try.prog 14 [.agg [(.slv l.length 1 (isl l) : A)], .a (.slv ds.length 3 (dsl ds))] [.val (.slice none 0 0)] := by
  rcases Bool.eq_false_or_eq_true (simB l) with h1 | h1
  · rw [h1, Bool.true_and] at hg
    exact HeightsOf_no2 l ds hl hd h1 hg
  · exact HeightsOf_no1 l ds hl hd h1
theorem posM_or {ds : List Dom} {p q : Cel} (h : nbr p q = false ∨ decide (0 ≤ posM ds (dOv p q)) = false) : nbr p q = false ∨ decide (dOv p q ∈ ds) = false := by rw [posM_nn] at h; exact h
theorem hasC_or {l : List Int} (hr : regOk l = true) {p q : Cel} (h : (!(hasC l p)) = false ∨ (!(hasC l q)) = false) : hasS (regSet l) p = true ∨ hasS (regSet l) q = true := by
  have e : ∀ c, hasC l c = hasS (regSet l) c := fun c => by unfold hasC hasS; rw [hr]; rfl
  rw [e, e] at h; simpa using h
theorem sim_cells {l : List Int} (h : simB l = true) : ¬ (((cellsOf l).length : Nat) : Int) = 0 := by
  have hr := (simB_ok h).1
  have := cells_pos (regSet_lt hr) (sim_ne h)
  unfold cellsOf; rw [if_pos hr]; omega
theorem hts_bad {l : List Int} {ds : List Dom} (h : (!(simB l)) = true ∨ ((!(isTil l ds)) || decide (((cellsOf l).length : Int) = 0)) = true) : hts l ds = [] := by
  rcases Bool.eq_false_or_eq_true (simB l) with h1 | h1
  · rcases Bool.eq_false_or_eq_true (isTil l ds) with h2 | h2
    · have := sim_cells h1
      rw [h1, h2, decide_eq_false this] at h; simp at h
    · exact hts_no (by rw [h2]; exact Bool.and_false _)
  · exact hts_no (by rw [h1]; rfl)
/-- the first corner of the reference -/
def tchK (l : List Int) (k i : Nat) : Bool := (List.range i).any fun j => hasC l ⟨((k % 9 : Nat) : Int) - ((j % 2 : Nat) : Int), ((k / 9 : Nat) : Int) - ((j / 2 : Nat) : Int)⟩
theorem tchK_snoc {l : List Int} {k i : Nat} {b : Bool} (h : hasC l ⟨((k % 9 : Nat) : Int) - ((i % 2 : Nat) : Int), ((k / 9 : Nat) : Int) - ((i / 2 : Nat) : Int)⟩ = b) : tchK l k (i + 1) = (tchK l k i || b) := by
  unfold tchK; rw [List.range_succ, List.any_append]; simp only [List.any_cons, List.any_nil, Bool.or_false, h]
theorem has_first {s : Nat} {c : Cel} (h : hasS s c = true) : firstI s ≤ idx c := by
  rcases Nat.lt_or_ge (idx c) (firstI s) with h1 | h1
  · have := firstI_min h1
    unfold hasS at h; rw [this] at h; simp at h
  · exact h1
theorem tchK_first {l : List Int} (hr : regOk l = true) (hne : regSet l ≠ 0) {k : Nat} (hk : k ≤ stU (regSet l)) : tchK l k 4 = decide (k = stU (regSet l)) := by
  have hs := regSet_lt hr
  obtain ⟨hf, hfb⟩ := firstI_lt hs hne
  rw [Bool.eq_iff_iff, decide_eq_true_eq]
  constructor
  · intro h
    unfold tchK at h
    rw [List.any_eq_true] at h
    obtain ⟨j, hj, hc⟩ := h
    rw [List.mem_range] at hj
    obtain ⟨_, h1⟩ := hasC_S hc
    have h2 := has_first h1
    have h3 := okc_true.1 (hasS_ok h1)
    have hcc := hasS_ok h1
    simp only at h3
    unfold idx at h2
    simp only at h2
    unfold stU at hk ⊢
    omega
  · rintro rfl
    unfold tchK
    rw [List.any_eq_true]
    refine ⟨0, by simp, ?_⟩
    have e1 : stU (regSet l) % 9 = firstI (regSet l) % 8 := by unfold stU; omega
    have e2 : stU (regSet l) / 9 = firstI (regSet l) / 8 := by unfold stU; omega
    rw [e1, e2]
    have : hasS (regSet l) (cN (firstI (regSet l))) = true := by unfold hasS; rw [cN_ok hf, idx_cN hf, hfb]; rfl
    unfold hasC; unfold hasS at this; rw [hr]
    have e3 : (⟨((firstI (regSet l) % 8 : Nat) : Int) - ((0 % 2 : Nat) : Int), ((firstI (regSet l) / 8 : Nat) : Int) - ((0 / 2 : Nat) : Int)⟩ : Cel) = cN (firstI (regSet l)) := by unfold cN; simp
    rw [e3]
    rw [Bool.and_eq_true] at this
    simp [this.1, this.2]
theorem hasC_hs {l : List Int} (hr : regOk l = true) (c : Cel) : hasC l c = hasS (regSet l) c := by unfold hasC hasS; rw [hr]; rfl
theorem HIn.ow {dir : Nat → Int × Int} {l : List Int} {ds : List Dom} {L M : List Nat} {u t k : Nat} (h : HIn dir l ds L u t M) (hk : k < L.length) : gI (nI M) k = ((gN L k : Nat) : Int) := by
  obtain ⟨e, he⟩ := foldl_pre (opE (regSet l) ds) u (hnbT dir u t) L
  have : M = L ++ e := by rw [h.eq]; exact he
  rw [gI_nI (by rw [this, List.length_append]; omega), this, gN_eq hk, gN_eq (by rw [List.length_append]; omega), List.getElem_append_left hk]
theorem dirS_X {t : Nat} (h : t < 4) : gI [1, 0, (-1), 0] t = (dirS t).1 := by
  have : t = 0 ∨ t = 1 ∨ t = 2 ∨ t = 3 := by omega
  rcases this with rfl | rfl | rfl | rfl <;> rfl
theorem dirS_Y {t : Nat} (h : t < 4) : gI [0, 1, 0, (-1)] t = (dirS t).2 := by
  have : t = 0 ∨ t = 1 ∨ t = 2 ∨ t = 3 := by omega
  rcases this with rfl | rfl | rfl | rfl <;> rfl
theorem addS_X {u t : Nat} (hu : u < 81) (ht : t < 4) : IntKind.i64.wrap (cX u + gI [1, 0, (-1), 0] t) = bX dirS u t := by
  rw [dirS_X ht]; exact w_small (z := bX dirS u t) (by have := (bXY_bd dirS_is hu t).1; omega)
theorem addS_Y {u t : Nat} (hu : u < 81) (ht : t < 4) : IntKind.i64.wrap (cY u + gI [0, 1, 0, (-1)] t) = bY dirS u t := by
  rw [dirS_Y ht]; exact w_small (z := bY dirS u t) (by have := (bXY_bd dirS_is hu t).2; omega)

theorem qC30_sz_3 : (Try.prog.info? 3).map (·.size) = some 1 := by kernel_rfl
theorem qC30_ti_29 : TI Try.prog 29 true 1 := ⟨⟨_, Try.underlying29, rfl⟩, by kernel_rfl⟩
theorem qC30_ti_3 : TI Try.prog 3 false 1 := ⟨⟨_, Try.underlying3, rfl⟩, by kernel_rfl⟩
theorem qC30_ti_53 : TI Try.prog 53 true 2 := ⟨⟨_, Try.underlying53, rfl⟩, by kernel_rfl⟩
theorem qC30_ti_58 : TI Try.prog 58 true 3 := ⟨⟨_, Try.underlying58, rfl⟩, by kernel_rfl⟩
theorem qC30_un_22 : Try.prog.underlying 22 = some (.slice 3) := Try.underlying22
theorem qC30_zi_3 : ZI Try.prog 3 (.int .i64 0) 1 8 := by unfold ZI; kernel_rfl
theorem qC30_zi_53 : ZI Try.prog 53 (.agg #[.int .i64 0, .int .i64 0]) 2 16 := by unfold ZI; kernel_rfl
theorem qC30_zi_58 : ZI Try.prog 58 (.agg #[.int .i64 0, .int .i64 0, .bool false]) 3 24 := by unfold ZI; kernel_rfl
set_option maxHeartbeats 4000000 in
set_option maxRecDepth 100000 in
theorem spec_HeightsOf_fn (l : List Int) (ds : List Dom) (hl : l.length ≤ 4194304) (hd : ds.length ≤ 2097152) : Fn Try.prog 11 [.agg [(.slv l.length 1 (isl l) : A)], .a (.slv ds.length 3 (dsl ds))] [.row 3 1 (hts l ds).length (isl (hts l ds))] := by
 refine fn_intro (N := 193) Try.func11 rfl (by kernel_rfl) rfl (Nat.le_of_ble_eq_true rfl) [2, 19, 20, 21, 24, 29, 34, 37, 38, 47, 48, 78, 84, 87, 108, 114, 123, 142, 147, 152, 158, 165, 190, 191] (ret1 rfl) (fun W => ?_)
 show Wp _ _ _ [(.s 0, some (.s (V.b (.agg [(.slv l.length 1 (isl l) : A)])))), (.s 1, some (.s (V.b (.a (.slv ds.length 3 (dsl ds)))))), (.o 2, some .free), (.o 19, some .free), (.o 20, some .free), (.o 21, some .free), (.o 24, some .free), (.o 29, some .free), (.o 34, some .free), (.o 37, some .free), (.o 38, some .free), (.o 47, some .free), (.o 48, some .free), (.o 78, some .free), (.o 84, some .free), (.o 87, some .free), (.o 108, some .free), (.o 114, some .free), (.o 123, some .free), (.o 142, some .free), (.o 147, some .free), (.o 152, some .free), (.o 158, some .free), (.o 165, some .free), (.o 190, some .free), (.o 191, some .free)]
 refine wp_seq' ?_
 refine wp_region_t ?_
 refine w1 (acts_box (d := 2) (h := 2) (b := .agg [(.slv l.length 1 (isl l) : A)]) (ltN rfl) (OpX.tmp 0 (V.b (.agg [(.slv l.length 1 (isl l) : A)]))) (by intro y hy; simp [B.cs] at hy; subst hy; rfl)) ?_
 refine w1 (acts_assign (d := 4) (ltN rfl) (OpX.const (.slice none 0 0))) ?_
 refine wpl_nil ?_
 refine wp_seq' ?_
 refine wp_seq' ?_
 refine wp_join [(.s 36, some (.s (V.v (.bool ((!(simB l)) || ((!(isTil l ds)) || (decide ((((cellsOf l).length : Nat) : Int) = 0)))))))), (.s 1, some (.s (V.b (.a (.slv ds.length 3 (dsl ds)))))), (.s 2, some (.s (V.p 2 0))), (.o 2, some (.o ⟨29, 1, true, [(.slv l.length 1 (isl l) : A)]⟩)), (.o 19, some .free), (.o 20, some .free), (.o 21, some .free), (.o 24, some .free), (.o 29, some .free), (.o 34, some .free), (.o 37, some .free), (.o 38, some .free), (.o 47, some .free), (.o 48, some .free), (.o 78, some .free), (.o 84, some .free), (.o 87, some .free), (.o 108, some .free), (.o 114, some .free), (.o 123, some .free), (.o 142, some .free), (.o 147, some .free), (.o 152, some .free), (.o 158, some .free), (.o 165, some .free), (.o 190, some .free), (.o 191, some .free)] ?_ ?_
 ·skip
  rcases Bool.eq_false_or_eq_true ((simB l)) with c1 | c1
  ·skip
   have hsi := c1
   have hro := (simB_ok hsi).1
   have hne := sim_ne hsi
   have hsl := regSet_lt hro
   have hstu := stU_lt hsl hne
   have hsl0 := hsL_len l ds [stU (regSet l)]
   have hcn := sim_cells hsi
   rcases Bool.eq_false_or_eq_true ((isTil l ds)) with c2 | c2
   ·skip
    have hti := c2
    refine wp_region_t ?_
    refine w1 (acts_load_owns (d := 23) (t := 2) (h := 2) (off := 0) (o := ⟨29, 1, true, [(.slv l.length 1 (isl l) : A)]⟩)  (xs := [(.slv l.length 1 (isl l) : A)]) (ltN rfl) qC30_ti_29 rfl (by decide) rfl) ?_
    refine w1 (acts_call1 (d := 24) (ltN rfl) (spec_IsSimple_fn l (by omega)) (ArgVs.cons (ArgV.regv 23 l.length 1 (isl l)) (ArgVs.nil)) ((resval (congrArg Value.bool c1)))) ?_
    refine w1 (acts_un (d := 25) (ltN rfl) (OpV.tmp 24 (.bool true)) (r_not (c := false) rfl)) ?_
    refine w1 (mv 26 25 (V.v (.bool false))) ?_
    refine w2 (step_on (dj := 26) rfl rfl (acts_load_owns (d := 27) (t := 2) (h := 2) (off := 0) (o := ⟨29, 1, true, [(.slv l.length 1 (isl l) : A)]⟩)  (xs := [(.slv l.length 1 (isl l) : A)]) (ltN rfl) qC30_ti_29 rfl (by decide) rfl)) ?_
    refine w2 (step_on (dj := 26) rfl rfl (mv 28 1 (V.b (.a (.slv ds.length 3 (dsl ds)))))) ?_
    refine w2 (step_on (dj := 26) rfl rfl (acts_call1 (d := 29) (ltN rfl) (spec_IsTiling_fn l ds (by omega) (by omega)) (ArgVs.cons (ArgV.regv 27 l.length 1 (isl l)) (ArgVs.cons (ArgV.slv 28 ds.length 3 (dsl ds)) (ArgVs.nil))) ((resval (congrArg Value.bool c2))))) ?_
    refine w2 (step_on (dj := 26) rfl rfl (acts_un (d := 30) (ltN rfl) (OpV.tmp 29 (.bool true)) (r_not (c := false) rfl))) ?_
    refine w1 (acts_pick_f (d := 31) (ltN rfl) (OpV.tmp 26 (.bool false)) (OpX.tmp 30 (V.v (.bool false)))) ?_
    refine w1 (mv 32 31 (V.v (.bool false))) ?_
    refine w2 (step_on (dj := 32) rfl rfl (acts_load_owns (d := 33) (t := 2) (h := 2) (off := 0) (o := ⟨29, 1, true, [(.slv l.length 1 (isl l) : A)]⟩)  (xs := [(.slv l.length 1 (isl l) : A)]) (ltN rfl) qC30_ti_29 rfl (by decide) rfl)) ?_
    refine w2 (step_on (dj := 32) rfl rfl (acts_call1 (d := 34) (ltN rfl) (spec_CountCells_fn l (by omega)) (ArgVs.cons (ArgV.regv 33 l.length 1 (isl l)) (ArgVs.nil)) (ResV.val _))) ?_
    refine w2 (step_on (dj := 32) rfl rfl (bn 35 (OpV.tmp 34 (.int .i64 (((cellsOf l).length : Nat) : Int))) (OpV.const (.int .i64 0)) (r_eql (c := (decide ((((cellsOf l).length : Nat) : Int) = 0))) rfl))) ?_
    refine w1 (acts_pick_f (d := 36) (ltN rfl) (OpV.tmp 32 (.bool false)) (OpX.tmp 35 (V.v (.bool (decide ((((cellsOf l).length : Nat) : Int) = 0)))))) ?_
    refine wpl_nil ?_
    exact ⟨rfl, weak_reads ⟨(by simp only [c1, c2]; first | done | kernel_rfl), (by repeat (first | exact trivial | refine ⟨by kernel_rfl, ?_⟩))⟩⟩
   ·skip
    have hno1 : hts l ds = [] := hts_no (by rw [c2]; exact Bool.and_false _)
    refine wp_region_t ?_
    refine w1 (acts_load_owns (d := 23) (t := 2) (h := 2) (off := 0) (o := ⟨29, 1, true, [(.slv l.length 1 (isl l) : A)]⟩)  (xs := [(.slv l.length 1 (isl l) : A)]) (ltN rfl) qC30_ti_29 rfl (by decide) rfl) ?_
    refine w1 (acts_call1 (d := 24) (ltN rfl) (spec_IsSimple_fn l (by omega)) (ArgVs.cons (ArgV.regv 23 l.length 1 (isl l)) (ArgVs.nil)) ((resval (congrArg Value.bool c1)))) ?_
    refine w1 (acts_un (d := 25) (ltN rfl) (OpV.tmp 24 (.bool true)) (r_not (c := false) rfl)) ?_
    refine w1 (mv 26 25 (V.v (.bool false))) ?_
    refine w2 (step_on (dj := 26) rfl rfl (acts_load_owns (d := 27) (t := 2) (h := 2) (off := 0) (o := ⟨29, 1, true, [(.slv l.length 1 (isl l) : A)]⟩)  (xs := [(.slv l.length 1 (isl l) : A)]) (ltN rfl) qC30_ti_29 rfl (by decide) rfl)) ?_
    refine w2 (step_on (dj := 26) rfl rfl (mv 28 1 (V.b (.a (.slv ds.length 3 (dsl ds)))))) ?_
    refine w2 (step_on (dj := 26) rfl rfl (acts_call1 (d := 29) (ltN rfl) (spec_IsTiling_fn l ds (by omega) (by omega)) (ArgVs.cons (ArgV.regv 27 l.length 1 (isl l)) (ArgVs.cons (ArgV.slv 28 ds.length 3 (dsl ds)) (ArgVs.nil))) ((resval (congrArg Value.bool c2))))) ?_
    refine w2 (step_on (dj := 26) rfl rfl (acts_un (d := 30) (ltN rfl) (OpV.tmp 29 (.bool false)) (r_not (c := true) rfl))) ?_
    refine w1 (acts_pick_f (d := 31) (ltN rfl) (OpV.tmp 26 (.bool false)) (OpX.tmp 30 (V.v (.bool true)))) ?_
    refine w1 (mv 32 31 (V.v (.bool true))) ?_
    refine w2 (step_off (dj := 32) (b' := true) rfl rfl (by decide) rfl (ltN rfl)) ?_
    refine w2 (step_off (dj := 32) (b' := true) rfl rfl (by decide) rfl (ltN rfl)) ?_
    refine w2 (step_off (dj := 32) (b' := true) rfl rfl (by decide) rfl (ltN rfl)) ?_
    refine w1 (acts_pick_t (d := 36) (ltN rfl) (OpV.tmp 32 (.bool true)) (OpX.const (.bool true))) ?_
    refine wpl_nil ?_
    exact ⟨rfl, weak_reads ⟨(by simp only [c1, c2]; first | done | kernel_rfl), (by repeat (first | exact trivial | refine ⟨by kernel_rfl, ?_⟩))⟩⟩
  ·skip
   have hno1 : hts l ds = [] := hts_no (by rw [c1]; rfl)
   refine wp_region_t ?_
   refine w1 (acts_load_owns (d := 23) (t := 2) (h := 2) (off := 0) (o := ⟨29, 1, true, [(.slv l.length 1 (isl l) : A)]⟩)  (xs := [(.slv l.length 1 (isl l) : A)]) (ltN rfl) qC30_ti_29 rfl (by decide) rfl) ?_
   refine w1 (acts_call1 (d := 24) (ltN rfl) (spec_IsSimple_fn l (by omega)) (ArgVs.cons (ArgV.regv 23 l.length 1 (isl l)) (ArgVs.nil)) ((resval (congrArg Value.bool c1)))) ?_
   refine w1 (acts_un (d := 25) (ltN rfl) (OpV.tmp 24 (.bool false)) (r_not (c := true) rfl)) ?_
   refine w1 (mv 26 25 (V.v (.bool true))) ?_
   refine w2 (step_off (dj := 26) (b' := true) rfl rfl (by decide) rfl (ltN rfl)) ?_
   refine w2 (step_off (dj := 26) (b' := true) rfl rfl (by decide) rfl (ltN rfl)) ?_
   refine w2 (step_off (dj := 26) (b' := true) rfl rfl (by decide) rfl (ltN rfl)) ?_
   refine w2 (step_off (dj := 26) (b' := true) rfl rfl (by decide) rfl (ltN rfl)) ?_
   refine w1 (acts_pick_t (d := 31) (ltN rfl) (OpV.tmp 26 (.bool true)) (OpX.const (.bool true))) ?_
   refine w1 (mv 32 31 (V.v (.bool true))) ?_
   refine w2 (step_off (dj := 32) (b' := true) rfl rfl (by decide) rfl (ltN rfl)) ?_
   refine w2 (step_off (dj := 32) (b' := true) rfl rfl (by decide) rfl (ltN rfl)) ?_
   refine w2 (step_off (dj := 32) (b' := true) rfl rfl (by decide) rfl (ltN rfl)) ?_
   refine w1 (acts_pick_t (d := 36) (ltN rfl) (OpV.tmp 32 (.bool true)) (OpX.const (.bool true))) ?_
   refine wpl_nil ?_
   exact ⟨rfl, weak_reads ⟨(by simp only [c1]; first | done | kernel_rfl), (by repeat (first | exact trivial | refine ⟨by kernel_rfl, ?_⟩))⟩⟩
 refine wp_if (t := 36) (((!(simB l)) || ((!(isTil l ds)) || (decide ((((cellsOf l).length : Nat) : Int) = 0))))) (by kernel_rfl) (fun c3 => ?_) (fun c3 => ?_)
 ·skip
  have c4 := or_tt c3
  have hno1 := hts_bad c4
  refine wp_seq' ?_
  refine wp_region_t ?_
  refine w1 (acts_buildSlice0' (d := 37) (h := 37) (s := 1) (ltN rfl) qC30_un_22 qC30_zi_3) ?_
  refine w1 (asg 4 37 (V.b (.a (.sl 37 0 0)))) ?_
  refine wpl_nil ?_
  refine wp_ret' ?_
  exact VRes.tmp 4 (.a (.sl 37 0 0)) _ (by kernel_rfl) (brow_ints (h := 37) (L := []) (by kernel_rfl) (by exact hno1.symm) (by rfl))
 ·skip
  obtain ⟨c5, c6⟩ := or_ff c3
  have c7 : (simB l) = true := by first | simpa using c5 | (rw [← Bool.not_eq_false']; exact c5)
  have hsi := c7
  have hro := (simB_ok hsi).1
  have hne := sim_ne hsi
  have hsl := regSet_lt hro
  have hstu := stU_lt hsl hne
  have hsl0 := hsL_len l ds [stU (regSet l)]
  have hcn := sim_cells hsi
  obtain ⟨c8, c9⟩ := or_ff c6
  have c10 : (isTil l ds) = true := by first | simpa using c8 | (rw [← Bool.not_eq_false']; exact c8)
  have hti := c10
  have c9P := of_decide_eq_false c9
  refine wp_skip' ?_
  refine wp_seq' ?_
  refine wp_region_t ?_
  refine w1 (acts_assign (d := 5) (ltN rfl) (OpX.const (.int .i64 9))) ?_
  refine wpl_nil ?_
  refine wp_seq' ?_
  refine wp_region_t ?_
  refine w1 (acts_buildSlice0' (d := 38) (h := 38) (s := 1) (ltN rfl) qC30_un_22 qC30_zi_3) ?_
  refine w1 (asg 6 38 (V.b (.a (.sl 38 0 0)))) ?_
  refine wpl_nil ?_
  refine wp_seq' ?_
  refine wp_seq' ?_
  refine wp_region_t ?_
  refine w1 (acts_assign (d := 7) (ltN rfl) (OpX.const (.int .i64 0))) ?_
  refine wpl_nil ?_
  refine wp_block' ?_
  refine wp_loop' (fun (i : Nat) => i ≤ 81) (fun (i : Nat) => [(.s 1, some (.s (V.b (.a (.slv ds.length 3 (dsl ds)))))), (.s 2, some (.s (V.p 2 0))), (.s 5, some (.s (V.v (.int .i64 9)))), (.s 6, some (.s (V.b (.a (.sl 38 0 ((List.replicate i (-1000)).length)))))), (.s 7, some (.s (V.v (.int .i64 ((i : Nat) : Int))))), (.o 2, some (.o ⟨29, 1, true, [(.slv l.length 1 (isl l) : A)]⟩)), (.o 38, some (.o ⟨3, 1, true, pl (isl (List.replicate i (-1000)))⟩)), (.o 19, some .free), (.o 20, some .free), (.o 21, some .free), (.o 24, some .free), (.o 29, some .free), (.o 34, some .free), (.o 37, some .free), (.o 47, some .free), (.o 48, some .free), (.o 78, some .free), (.o 84, some .free), (.o 87, some .free), (.o 108, some .free), (.o 114, some .free), (.o 123, some .free), (.o 142, some .free), (.o 147, some .free), (.o 152, some .free), (.o 158, some .free), (.o 165, some .free), (.o 190, some .free), (.o 191, some .free)]) (fun (i : Nat) => 81 - i) ((0 : Nat)) (by exact (Nat.zero_le _ : 0 ≤ _)) (weak_of id [19, 20, 21, 24, 29, 34, 37, 47, 48, 78, 84, 87, 108, 114, 123, 142, 147, 152, 158, 165, 190, 191] (by kernel_rfl) (wk_s (v' := V.b (.a (.slv ds.length 3 (dsl ds)))) (by kernel_rfl) rfl rfl (wk_s (v' := V.p 2 0) (by kernel_rfl) rfl rfl (wk_s (v' := V.v (.int .i64 9)) (by kernel_rfl) rfl rfl (wk_s (v' := V.b (.a (.sl 38 0 0))) (by kernel_rfl) (vsl (by rfl) rfl) rfl (wk_s (v' := V.v (.int .i64 0)) (by kernel_rfl) (vint (by rfl)) rfl (wk_o (o' := ⟨29, 1, true, [(.slv l.length 1 (isl l) : A)]⟩) (by kernel_rfl) (renob_l (fun h => h) rfl rfl) rfl (wk_o (o' := ⟨3, 1, true, pl (isl [])⟩) (by kernel_rfl) (renob_eq (fun h => h) (congrArg isl (by rfl))) rfl (wk_f rfl (wk_f rfl (wk_f rfl (wk_f rfl (wk_f rfl (wk_f rfl (wk_f rfl (wk_f rfl (wk_f rfl (wk_f rfl (wk_f rfl (wk_f rfl (wk_f rfl (wk_f rfl (wk_f rfl (wk_f rfl (wk_f rfl (wk_f rfl (wk_f rfl (wk_f rfl (wk_f rfl (wk_f rfl (wk_nil))))))))))))))))))))))))))))))) ?_
  rintro i inv11
  replace inv11 : i ≤ 81 := inv11
  have inv1 := inv11
  show Wp _ _ _ [(.s 1, some (.s (V.b (.a (.slv ds.length 3 (dsl ds)))))), (.s 2, some (.s (V.p 2 0))), (.s 5, some (.s (V.v (.int .i64 9)))), (.s 6, some (.s (V.b (.a (.sl 38 0 ((List.replicate i (-1000)).length)))))), (.s 7, some (.s (V.v (.int .i64 ((i : Nat) : Int))))), (.o 2, some (.o ⟨29, 1, true, [(.slv l.length 1 (isl l) : A)]⟩)), (.o 38, some (.o ⟨3, 1, true, pl (isl (List.replicate i (-1000)))⟩)), (.o 19, some .free), (.o 20, some .free), (.o 21, some .free), (.o 24, some .free), (.o 29, some .free), (.o 34, some .free), (.o 37, some .free), (.o 47, some .free), (.o 48, some .free), (.o 78, some .free), (.o 84, some .free), (.o 87, some .free), (.o 108, some .free), (.o 114, some .free), (.o 123, some .free), (.o 142, some .free), (.o 147, some .free), (.o 152, some .free), (.o 158, some .free), (.o 165, some .free), (.o 190, some .free), (.o 191, some .free)]
  have hrl : (List.replicate i (-1000 : Int)).length = i := List.length_replicate
  refine wp_seq' ?_
  refine wp_seq' ?_
  refine wp_region_t ?_
  refine w1 (mv 39 7 (V.v (.int .i64 ((i : Nat) : Int)))) ?_
  refine w1 (mv 40 5 (V.v (.int .i64 9))) ?_
  refine w1 (mv 41 5 (V.v (.int .i64 9))) ?_
  refine w1 (bn 42 (OpV.tmp 40 (.int .i64 9)) (OpV.tmp 41 (.int .i64 9)) (r_mul (c := 81) rfl)) ?_
  refine w1 (bn 43 (OpV.tmp 39 (.int .i64 ((i : Nat) : Int))) (OpV.tmp 42 (.int .i64 81)) (r_lss (c := (decide (((i : Nat) : Int) < 81))) rfl)) ?_
  refine wpl_nil ?_
  refine wp_if (t := 43) (decide (((i : Nat) : Int) < 81)) (by kernel_rfl) (fun c12 => ?_) (fun c12 => ?_)
  ·skip
   have c12P := of_decide_eq_true c12
   refine wp_skip' ?_
   refine wp_seq' ?_
   refine wp_block' ?_
   refine wp_region_t ?_
   refine w1 (mv 46 6 (V.b (.a (.sl 38 0 ((List.replicate i (-1000)).length))))) ?_
   refine w1 (acts_buildSlice' (d := 47) (h := 47) (n := 1) (s := 1) (xs := isl ([(-1000)] : List Int)) (ltN rfl) qC30_un_22 qC30_zi_3 (OpVs.cons (i := 0) (OpV.const (.int .i64 (-1000))) (OpVs.nil)) (by decide) (by decide) (by kernel_rfl) rfl) ?_
   refine w1 (acts_app (d := 48) (x := 46) (h := 38) (h2 := 48) (n := ((List.replicate i (-1000)).length)) (m := 1) (nm := (((List.replicate i (-1000)) ++ [(-1000)]).length)) (X := .sl 47 0 1) (xs := isl (List.replicate i (-1000))) (ys := isl [(-1000)]) (zs := isl ((List.replicate i (-1000)) ++ [(-1000)])) (ltN rfl) qC30_un_22 qC30_zi_3 rfl (by decide) (by decide) (by exact isl_len _) (OpX.tmp 47 (V.b (.a (.sl 47 0 1)))) (src_own (h := 47) (T := 3) (s := 1) (ex := true) (n := 1) (by exact isl_len _)) (isl_one' _) (by omega) (by exact (isl_append _ _).symm) (by (simp; done))) ?_
   refine w1 (asg 6 48 (V.b (.a (.sl 48 0 (((List.replicate i (-1000)) ++ [(-1000)]).length))))) ?_
   refine wpl_nil ?_
   refine wp_region_t ?_
   refine w1 (mv 44 7 (V.v (.int .i64 ((i : Nat) : Int)))) ?_
   refine w1 (bn 45 (OpV.tmp 44 (.int .i64 ((i : Nat) : Int))) (OpV.const (.int .i64 1)) (r_add (c := (((i : Nat) : Int) + 1)) (w64 (by omega) (by omega)))) ?_
   refine w1 (asg 7 45 (V.v (.int .i64 (((i : Nat) : Int) + 1)))) ?_
   refine wpl_nil ?_
   exact loop_back ((i + 1)) (by show _ ≤ _; omega) (by show 81 - (i + 1) < 81 - i; omega) (weak_of (subst1 [(38, 48)]) [19, 20, 21, 24, 29, 34, 37, 47, 48, 78, 84, 87, 108, 114, 123, 142, 147, 152, 158, 165, 190, 191] (by kernel_rfl) (wk_s (v' := V.b (.a (.slv ds.length 3 (dsl ds)))) (by kernel_rfl) rfl rfl (wk_s (v' := V.p 2 0) (by kernel_rfl) rfl rfl (wk_s (v' := V.v (.int .i64 9)) (by kernel_rfl) rfl rfl (wk_s (v' := V.b (.a (.sl 48 0 (((List.replicate i (-1000)) ++ [(-1000)]).length)))) (by kernel_rfl) (vsl (by (simp; done)) rfl) rfl (wk_s (v' := V.v (.int .i64 (((i : Nat) : Int) + 1))) (by kernel_rfl) (vint (by rfl)) rfl (wk_o (o' := ⟨29, 1, true, [(.slv l.length 1 (isl l) : A)]⟩) (by kernel_rfl) (renob_l (fun h => h) rfl rfl) rfl (wk_o (o' := ⟨3, 1, true, pl (isl ((List.replicate i (-1000)) ++ [(-1000)]))⟩) (by kernel_rfl) (renob_eq (fun h => h) (congrArg isl (by exact (rep_snoc _ _).symm))) rfl (wk_f rfl (wk_f rfl (wk_f rfl (wk_f rfl (wk_f rfl (wk_f rfl (wk_f rfl (wk_f rfl (wk_f rfl (wk_f rfl (wk_f rfl (wk_f rfl (wk_f rfl (wk_f rfl (wk_f rfl (wk_f rfl (wk_f rfl (wk_f rfl (wk_f rfl (wk_f rfl (wk_f rfl (wk_f rfl (wk_nil)))))))))))))))))))))))))))))))
  ·skip
   have c12P := of_decide_eq_false c12
   refine wp_exit' ?_
   refine wp_seq' ?_
   refine wp_region_t ?_
   refine w1 (acts_assign (d := 8) (ltN rfl) (OpX.const (.int .i64 (-1)))) ?_
   refine wpl_nil ?_
   refine wp_seq' ?_
   refine wp_seq' ?_
   refine wp_region_t ?_
   refine w1 (acts_assign (d := 9) (ltN rfl) (OpX.const (.int .i64 0))) ?_
   refine wpl_nil ?_
   refine wp_block' ?_
   refine wp_loop' (fun (x : Nat × Int) => match x with | (k2, f) => k2 ≤ 81 ∧ ((f = -1 ∧ k2 ≤ stU (regSet l)) ∨ (f = (stU (regSet l) : Int) ∧ k2 = stU (regSet l) + 1))) (fun (x : Nat × Int) => match x with | (k2, f) => [(.s 1, some (.s (V.b (.a (.slv ds.length 3 (dsl ds)))))), (.s 2, some (.s (V.p 2 0))), (.s 5, some (.s (V.v (.int .i64 9)))), (.s 6, some (.s (V.b (.a (.sl 38 0 ((List.replicate i (-1000)).length)))))), (.s 8, some (.s (V.v (.int .i64 f)))), (.s 9, some (.s (V.v (.int .i64 ((k2 : Nat) : Int))))), (.o 2, some (.o ⟨29, 1, true, [(.slv l.length 1 (isl l) : A)]⟩)), (.o 38, some (.o ⟨3, 1, true, pl (isl (List.replicate i (-1000)))⟩)), (.o 19, some .free), (.o 20, some .free), (.o 21, some .free), (.o 24, some .free), (.o 29, some .free), (.o 34, some .free), (.o 37, some .free), (.o 47, some .free), (.o 48, some .free), (.o 78, some .free), (.o 84, some .free), (.o 87, some .free), (.o 108, some .free), (.o 114, some .free), (.o 123, some .free), (.o 142, some .free), (.o 147, some .free), (.o 152, some .free), (.o 158, some .free), (.o 165, some .free), (.o 190, some .free), (.o 191, some .free)]) (fun (x : Nat × Int) => match x with | (k2, f) => 81 - k2) ((0 : Nat), (-1 : Int)) (by exact ⟨by omega, .inl ⟨rfl, Nat.zero_le _⟩⟩) (weak_of id [19, 20, 21, 24, 29, 34, 37, 47, 48, 78, 84, 87, 108, 114, 123, 142, 147, 152, 158, 165, 190, 191] (by kernel_rfl) (wk_s (v' := V.b (.a (.slv ds.length 3 (dsl ds)))) (by kernel_rfl) rfl rfl (wk_s (v' := V.p 2 0) (by kernel_rfl) rfl rfl (wk_s (v' := V.v (.int .i64 9)) (by kernel_rfl) rfl rfl (wk_s (v' := V.b (.a (.sl 38 0 ((List.replicate i (-1000)).length)))) (by kernel_rfl) rfl rfl (wk_s (v' := V.v (.int .i64 (-1))) (by kernel_rfl) rfl rfl (wk_s (v' := V.v (.int .i64 0)) (by kernel_rfl) (vint (by rfl)) rfl (wk_o (o' := ⟨29, 1, true, [(.slv l.length 1 (isl l) : A)]⟩) (by kernel_rfl) (renob_l (fun h => h) rfl rfl) rfl (wk_o (o' := ⟨3, 1, true, pl (isl (List.replicate i (-1000)))⟩) (by kernel_rfl) (renob_pl (fun h => h)) rfl (wk_f rfl (wk_f rfl (wk_f rfl (wk_f rfl (wk_f rfl (wk_f rfl (wk_f rfl (wk_f rfl (wk_f rfl (wk_f rfl (wk_f rfl (wk_f rfl (wk_f rfl (wk_f rfl (wk_f rfl (wk_f rfl (wk_f rfl (wk_f rfl (wk_f rfl (wk_f rfl (wk_f rfl (wk_f rfl (wk_nil)))))))))))))))))))))))))))))))) ?_
   rintro ⟨k2, f⟩ inv13
   replace inv13 : k2 ≤ 81 ∧ ((f = -1 ∧ k2 ≤ stU (regSet l)) ∨ (f = (stU (regSet l) : Int) ∧ k2 = stU (regSet l) + 1)) := inv13
   obtain ⟨hk81, hfk⟩ := inv13
   show Wp _ _ _ [(.s 1, some (.s (V.b (.a (.slv ds.length 3 (dsl ds)))))), (.s 2, some (.s (V.p 2 0))), (.s 5, some (.s (V.v (.int .i64 9)))), (.s 6, some (.s (V.b (.a (.sl 38 0 ((List.replicate i (-1000)).length)))))), (.s 8, some (.s (V.v (.int .i64 f)))), (.s 9, some (.s (V.v (.int .i64 ((k2 : Nat) : Int))))), (.o 2, some (.o ⟨29, 1, true, [(.slv l.length 1 (isl l) : A)]⟩)), (.o 38, some (.o ⟨3, 1, true, pl (isl (List.replicate i (-1000)))⟩)), (.o 19, some .free), (.o 20, some .free), (.o 21, some .free), (.o 24, some .free), (.o 29, some .free), (.o 34, some .free), (.o 37, some .free), (.o 47, some .free), (.o 48, some .free), (.o 78, some .free), (.o 84, some .free), (.o 87, some .free), (.o 108, some .free), (.o 114, some .free), (.o 123, some .free), (.o 142, some .free), (.o 147, some .free), (.o 152, some .free), (.o 158, some .free), (.o 165, some .free), (.o 190, some .free), (.o 191, some .free)]
   refine wp_seq' ?_
   refine wp_seq' ?_
   refine wp_join [(.s 57, some (.s (V.v (.bool ((decide (((k2 : Nat) : Int) < 81)) && (decide (f < 0))))))), (.s 1, some (.s (V.b (.a (.slv ds.length 3 (dsl ds)))))), (.s 2, some (.s (V.p 2 0))), (.s 5, some (.s (V.v (.int .i64 9)))), (.s 6, some (.s (V.b (.a (.sl 38 0 ((List.replicate i (-1000)).length)))))), (.s 8, some (.s (V.v (.int .i64 f)))), (.s 9, some (.s (V.v (.int .i64 ((k2 : Nat) : Int))))), (.o 2, some (.o ⟨29, 1, true, [(.slv l.length 1 (isl l) : A)]⟩)), (.o 38, some (.o ⟨3, 1, true, pl (isl (List.replicate i (-1000)))⟩)), (.o 19, some .free), (.o 20, some .free), (.o 21, some .free), (.o 24, some .free), (.o 29, some .free), (.o 34, some .free), (.o 37, some .free), (.o 47, some .free), (.o 48, some .free), (.o 78, some .free), (.o 84, some .free), (.o 87, some .free), (.o 108, some .free), (.o 114, some .free), (.o 123, some .free), (.o 142, some .free), (.o 147, some .free), (.o 152, some .free), (.o 158, some .free), (.o 165, some .free), (.o 190, some .free), (.o 191, some .free)] ?_ ?_
   ·skip
    rcases Bool.eq_false_or_eq_true (decide (((k2 : Nat) : Int) < 81)) with c14 | c14
    ·skip
     have c14P := of_decide_eq_true c14
     refine wp_region_t ?_
     refine w1 (mv 49 9 (V.v (.int .i64 ((k2 : Nat) : Int)))) ?_
     refine w1 (mv 50 5 (V.v (.int .i64 9))) ?_
     refine w1 (mv 51 5 (V.v (.int .i64 9))) ?_
     refine w1 (bn 52 (OpV.tmp 50 (.int .i64 9)) (OpV.tmp 51 (.int .i64 9)) (r_mul (c := 81) rfl)) ?_
     refine w1 (bn 53 (OpV.tmp 49 (.int .i64 ((k2 : Nat) : Int))) (OpV.tmp 52 (.int .i64 81)) (r_lss (c := true) c14)) ?_
     refine w1 (mv 54 53 (V.v (.bool true))) ?_
     refine w2 (step_on (dj := 54) rfl rfl (mv 55 8 (V.v (.int .i64 f)))) ?_
     refine w2 (step_on (dj := 54) rfl rfl (bn 56 (OpV.tmp 55 (.int .i64 f)) (OpV.const (.int .i64 0)) (r_lss (c := (decide (f < 0))) rfl))) ?_
     refine w1 (acts_pick_t (d := 57) (ltN rfl) (OpV.tmp 54 (.bool true)) (OpX.tmp 56 (V.v (.bool (decide (f < 0)))))) ?_
     refine wpl_nil ?_
     exact ⟨rfl, weak_reads ⟨(by simp only [c14]; first | done | kernel_rfl), (by repeat (first | exact trivial | refine ⟨by kernel_rfl, ?_⟩))⟩⟩
    ·skip
     have c14P := of_decide_eq_false c14
     refine wp_region_t ?_
     refine w1 (mv 49 9 (V.v (.int .i64 ((k2 : Nat) : Int)))) ?_
     refine w1 (mv 50 5 (V.v (.int .i64 9))) ?_
     refine w1 (mv 51 5 (V.v (.int .i64 9))) ?_
     refine w1 (bn 52 (OpV.tmp 50 (.int .i64 9)) (OpV.tmp 51 (.int .i64 9)) (r_mul (c := 81) rfl)) ?_
     refine w1 (bn 53 (OpV.tmp 49 (.int .i64 ((k2 : Nat) : Int))) (OpV.tmp 52 (.int .i64 81)) (r_lss (c := false) c14)) ?_
     refine w1 (mv 54 53 (V.v (.bool false))) ?_
     refine w2 (step_off (dj := 54) (b' := false) rfl rfl (by decide) rfl (ltN rfl)) ?_
     refine w2 (step_off (dj := 54) (b' := false) rfl rfl (by decide) rfl (ltN rfl)) ?_
     refine w1 (acts_pick_f (d := 57) (ltN rfl) (OpV.tmp 54 (.bool false)) (OpX.const (.bool false))) ?_
     refine wpl_nil ?_
     exact ⟨rfl, weak_reads ⟨(by simp only [c14]; first | done | kernel_rfl), (by repeat (first | exact trivial | refine ⟨by kernel_rfl, ?_⟩))⟩⟩
   refine wp_if (t := 57) (((decide (((k2 : Nat) : Int) < 81)) && (decide (f < 0)))) (by kernel_rfl) (fun c15 => ?_) (fun c15 => ?_)
   ·skip
    obtain ⟨c16, c17⟩ := and_tt c15
    have c16P := of_decide_eq_true c16
    have c17P := of_decide_eq_true c17
    refine wp_skip' ?_
    refine wp_seq' ?_
    refine wp_block' ?_
    refine wp_seq' ?_
    refine wp_region_t ?_
    refine w1 (acts_assign (d := 10) (ltN rfl) (OpX.const (.int .i64 0))) ?_
    refine wpl_nil ?_
    refine wp_block' ?_
    refine wp_loop' (fun (x : Nat × Int) => match x with | (j, f2) => j ≤ 4 ∧ f2 = (if tchK l k2 j = true then (k2 : Int) else -1)) (fun (x : Nat × Int) => match x with | (j, f2) => [(.s 1, some (.s (V.b (.a (.slv ds.length 3 (dsl ds)))))), (.s 2, some (.s (V.p 2 0))), (.s 5, some (.s (V.v (.int .i64 9)))), (.s 6, some (.s (V.b (.a (.sl 38 0 ((List.replicate i (-1000)).length)))))), (.s 8, some (.s (V.v (.int .i64 f2)))), (.s 9, some (.s (V.v (.int .i64 ((k2 : Nat) : Int))))), (.s 10, some (.s (V.v (.int .i64 ((j : Nat) : Int))))), (.o 2, some (.o ⟨29, 1, true, [(.slv l.length 1 (isl l) : A)]⟩)), (.o 38, some (.o ⟨3, 1, true, pl (isl (List.replicate i (-1000)))⟩)), (.o 19, some .free), (.o 20, some .free), (.o 21, some .free), (.o 24, some .free), (.o 29, some .free), (.o 34, some .free), (.o 37, some .free), (.o 47, some .free), (.o 48, some .free), (.o 78, some .free), (.o 84, some .free), (.o 87, some .free), (.o 108, some .free), (.o 114, some .free), (.o 123, some .free), (.o 142, some .free), (.o 147, some .free), (.o 152, some .free), (.o 158, some .free), (.o 165, some .free), (.o 190, some .free), (.o 191, some .free)]) (fun (x : Nat × Int) => match x with | (j, f2) => 4 - j) ((0 : Nat), (f : Int)) (by exact ⟨by omega, by have : tchK l k2 0 = false := rfl; rw [this]; simp; omega⟩) (weak_of id [19, 20, 21, 24, 29, 34, 37, 47, 48, 78, 84, 87, 108, 114, 123, 142, 147, 152, 158, 165, 190, 191] (by kernel_rfl) (wk_s (v' := V.b (.a (.slv ds.length 3 (dsl ds)))) (by kernel_rfl) rfl rfl (wk_s (v' := V.p 2 0) (by kernel_rfl) rfl rfl (wk_s (v' := V.v (.int .i64 9)) (by kernel_rfl) rfl rfl (wk_s (v' := V.b (.a (.sl 38 0 ((List.replicate i (-1000)).length)))) (by kernel_rfl) rfl rfl (wk_s (v' := V.v (.int .i64 f)) (by kernel_rfl) rfl rfl (wk_s (v' := V.v (.int .i64 ((k2 : Nat) : Int))) (by kernel_rfl) rfl rfl (wk_s (v' := V.v (.int .i64 0)) (by kernel_rfl) (vint (by rfl)) rfl (wk_o (o' := ⟨29, 1, true, [(.slv l.length 1 (isl l) : A)]⟩) (by kernel_rfl) (renob_l (fun h => h) rfl rfl) rfl (wk_o (o' := ⟨3, 1, true, pl (isl (List.replicate i (-1000)))⟩) (by kernel_rfl) (renob_pl (fun h => h)) rfl (wk_f rfl (wk_f rfl (wk_f rfl (wk_f rfl (wk_f rfl (wk_f rfl (wk_f rfl (wk_f rfl (wk_f rfl (wk_f rfl (wk_f rfl (wk_f rfl (wk_f rfl (wk_f rfl (wk_f rfl (wk_f rfl (wk_f rfl (wk_f rfl (wk_f rfl (wk_f rfl (wk_f rfl (wk_f rfl (wk_nil))))))))))))))))))))))))))))))))) ?_
    rintro ⟨j, f2⟩ inv18
    replace inv18 : j ≤ 4 ∧ f2 = (if tchK l k2 j = true then (k2 : Int) else -1) := inv18
    obtain ⟨hj4, hf2⟩ := inv18
    show Wp _ _ _ [(.s 1, some (.s (V.b (.a (.slv ds.length 3 (dsl ds)))))), (.s 2, some (.s (V.p 2 0))), (.s 5, some (.s (V.v (.int .i64 9)))), (.s 6, some (.s (V.b (.a (.sl 38 0 ((List.replicate i (-1000)).length)))))), (.s 8, some (.s (V.v (.int .i64 f2)))), (.s 9, some (.s (V.v (.int .i64 ((k2 : Nat) : Int))))), (.s 10, some (.s (V.v (.int .i64 ((j : Nat) : Int))))), (.o 2, some (.o ⟨29, 1, true, [(.slv l.length 1 (isl l) : A)]⟩)), (.o 38, some (.o ⟨3, 1, true, pl (isl (List.replicate i (-1000)))⟩)), (.o 19, some .free), (.o 20, some .free), (.o 21, some .free), (.o 24, some .free), (.o 29, some .free), (.o 34, some .free), (.o 37, some .free), (.o 47, some .free), (.o 48, some .free), (.o 78, some .free), (.o 84, some .free), (.o 87, some .free), (.o 108, some .free), (.o 114, some .free), (.o 123, some .free), (.o 142, some .free), (.o 147, some .free), (.o 152, some .free), (.o 158, some .free), (.o 165, some .free), (.o 190, some .free), (.o 191, some .free)]
    refine wp_seq' ?_
    refine wp_seq' ?_
    refine wp_region_t ?_
    refine w1 (mv 60 10 (V.v (.int .i64 ((j : Nat) : Int)))) ?_
    refine w1 (bn 61 (OpV.tmp 60 (.int .i64 ((j : Nat) : Int))) (OpV.const (.int .i64 4)) (r_lss (c := (decide (((j : Nat) : Int) < 4))) rfl)) ?_
    refine wpl_nil ?_
    refine wp_if (t := 61) (decide (((j : Nat) : Int) < 4)) (by kernel_rfl) (fun c19 => ?_) (fun c19 => ?_)
    ·skip
     have c19P := of_decide_eq_true c19
     refine wp_skip' ?_
     refine wp_seq' ?_
     refine wp_block' ?_
     refine wp_seq' ?_
     refine wp_drawn' (by kernel_rfl) (AllSteps.cons (step_plain rfl (acts_load_owns (d := 64) (t := 2) (h := 2) (off := 0) (o := ⟨29, 1, true, [(.slv l.length 1 (isl l) : A)]⟩)  (xs := [(.slv l.length 1 (isl l) : A)]) (ltN rfl) qC30_ti_29 rfl (by decide) rfl)) (AllSteps.cons (step_plain rfl (mv 65 9 (V.v (.int .i64 ((k2 : Nat) : Int))))) (AllSteps.cons (step_plain rfl (mv 66 5 (V.v (.int .i64 9)))) (AllSteps.cons (step_plain rfl (bn 67 (OpV.tmp 65 (.int .i64 ((k2 : Nat) : Int))) (OpV.tmp 66 (.int .i64 9)) (r_rem (c := (((k2 % 9) : Nat) : Int)) (by decide) (remN (a := ((k2 : Nat) : Int)) (b := k2) (c := 9) rfl)))) (AllSteps.cons (step_plain rfl (mv 68 10 (V.v (.int .i64 ((j : Nat) : Int))))) (AllSteps.cons (step_plain rfl (bn 69 (OpV.tmp 68 (.int .i64 ((j : Nat) : Int))) (OpV.const (.int .i64 2)) (r_rem (c := (((j % 2) : Nat) : Int)) (by decide) (remN (a := ((j : Nat) : Int)) (b := j) (c := 2) rfl)))) (AllSteps.cons (step_plain rfl (bn 70 (OpV.tmp 67 (.int .i64 (((k2 % 9) : Nat) : Int))) (OpV.tmp 69 (.int .i64 (((j % 2) : Nat) : Int))) (r_sub (c := ((((k2 % 9) : Nat) : Int) - (((j % 2) : Nat) : Int))) (w64 (by omega) (by omega))))) (AllSteps.cons (step_plain rfl (mv 71 9 (V.v (.int .i64 ((k2 : Nat) : Int))))) (AllSteps.cons (step_plain rfl (mv 72 5 (V.v (.int .i64 9)))) (AllSteps.cons (step_plain rfl (bn 73 (OpV.tmp 71 (.int .i64 ((k2 : Nat) : Int))) (OpV.tmp 72 (.int .i64 9)) (r_quo (c := (((k2 / 9) : Nat) : Int)) (by decide) (quoN (a := ((k2 : Nat) : Int)) (b := k2) (c := 9) rfl (by decide) (by omega))))) (AllSteps.cons (step_plain rfl (mv 74 10 (V.v (.int .i64 ((j : Nat) : Int))))) (AllSteps.cons (step_plain rfl (bn 75 (OpV.tmp 74 (.int .i64 ((j : Nat) : Int))) (OpV.const (.int .i64 2)) (r_quo (c := (((j / 2) : Nat) : Int)) (by decide) (quoN (a := ((j : Nat) : Int)) (b := j) (c := 2) rfl (by decide) (by omega))))) (AllSteps.cons (step_plain rfl (bn 76 (OpV.tmp 73 (.int .i64 (((k2 / 9) : Nat) : Int))) (OpV.tmp 75 (.int .i64 (((j / 2) : Nat) : Int))) (r_sub (c := ((((k2 / 9) : Nat) : Int) - (((j / 2) : Nat) : Int))) (w64 (by omega) (by omega))))) (AllSteps.cons (step_plain rfl (acts_build (d := 77) (t := 53) (cells := [(.int .i64 ((((k2 % 9) : Nat) : Int) - (((j % 2) : Nat) : Int)) : Value), .int .i64 ((((k2 / 9) : Nat) : Int) - (((j / 2) : Nat) : Int))]) (ltN rfl) (OpVs.cons (i := 0) (OpV.tmp 70 (.int .i64 ((((k2 % 9) : Nat) : Int) - (((j % 2) : Nat) : Int)))) (OpVs.cons (i := 1) (OpV.tmp 76 (.int .i64 ((((k2 / 9) : Nat) : Int) - (((j / 2) : Nat) : Int)))) (OpVs.nil))) rfl)) (AllSteps.cons (step_plain rfl (acts_call1 (d := 78) (ltN rfl) (spec_HasCell_fn l (⟨((((k2 % 9) : Nat) : Int) - (((j % 2) : Nat) : Int)), ((((k2 / 9) : Nat) : Int) - (((j / 2) : Nat) : Int))⟩ : Cel) (by omega)) (ArgVs.cons (ArgV.regv 64 l.length 1 (isl l)) (ArgVs.cons (ArgV.va (vs := [(.int .i64 ((((k2 % 9) : Nat) : Int) - (((j % 2) : Nat) : Int)) : Value), .int .i64 ((((k2 / 9) : Nat) : Int) - (((j / 2) : Nat) : Int))]) (OpV.agg 77 [(.int .i64 ((((k2 % 9) : Nat) : Int) - (((j % 2) : Nat) : Int)) : Value), .int .i64 ((((k2 / 9) : Nat) : Int) - (((j / 2) : Nat) : Int))])) (ArgVs.nil))) (ResV.val _))) (AllSteps.nil)))))))))))))))) (by kernel_rfl) (by kernel_rfl) (by kernel_rfl) ?_
     refine wp_if (t := 78) ((hasC l (⟨((((k2 % 9) : Nat) : Int) - (((j % 2) : Nat) : Int)), ((((k2 / 9) : Nat) : Int) - (((j / 2) : Nat) : Int))⟩ : Cel))) (by kernel_rfl) (fun c20 => ?_) (fun c20 => ?_)
     ·skip
      have htc := tchK_snoc c20
      refine wp_region_t ?_
      refine w1 (mv 79 9 (V.v (.int .i64 ((k2 : Nat) : Int)))) ?_
      refine w1 (asg 8 79 (V.v (.int .i64 ((k2 : Nat) : Int)))) ?_
      refine wpl_nil ?_
      refine wp_region_t ?_
      refine w1 (mv 62 10 (V.v (.int .i64 ((j : Nat) : Int)))) ?_
      refine w1 (bn 63 (OpV.tmp 62 (.int .i64 ((j : Nat) : Int))) (OpV.const (.int .i64 1)) (r_add (c := (((j : Nat) : Int) + 1)) (w64 (by omega) (by omega)))) ?_
      refine w1 (asg 10 63 (V.v (.int .i64 (((j : Nat) : Int) + 1)))) ?_
      refine wpl_nil ?_
      exact loop_back ((j + 1), ((k2 : Nat) : Int)) (by refine ⟨by omega, ?_⟩; rw [htc]; first | (rw [Bool.or_true, if_pos rfl]; done) | (rw [Bool.or_false]; exact hf2)) (by show 4 - (j + 1) < 4 - j; omega) (weak_of id [19, 20, 21, 24, 29, 34, 37, 47, 48, 78, 84, 87, 108, 114, 123, 142, 147, 152, 158, 165, 190, 191] (by kernel_rfl) (wk_s (v' := V.b (.a (.slv ds.length 3 (dsl ds)))) (by kernel_rfl) rfl rfl (wk_s (v' := V.p 2 0) (by kernel_rfl) rfl rfl (wk_s (v' := V.v (.int .i64 9)) (by kernel_rfl) rfl rfl (wk_s (v' := V.b (.a (.sl 38 0 ((List.replicate i (-1000)).length)))) (by kernel_rfl) rfl rfl (wk_s (v' := V.v (.int .i64 ((k2 : Nat) : Int))) (by kernel_rfl) rfl rfl (wk_s (v' := V.v (.int .i64 ((k2 : Nat) : Int))) (by kernel_rfl) rfl rfl (wk_s (v' := V.v (.int .i64 (((j : Nat) : Int) + 1))) (by kernel_rfl) (vint (by rfl)) rfl (wk_o (o' := ⟨29, 1, true, [(.slv l.length 1 (isl l) : A)]⟩) (by kernel_rfl) (renob_l (fun h => h) rfl rfl) rfl (wk_o (o' := ⟨3, 1, true, pl (isl (List.replicate i (-1000)))⟩) (by kernel_rfl) (renob_pl (fun h => h)) rfl (wk_f rfl (wk_f rfl (wk_f rfl (wk_f rfl (wk_f rfl (wk_f rfl (wk_f rfl (wk_f rfl (wk_f rfl (wk_f rfl (wk_f rfl (wk_f rfl (wk_f rfl (wk_f rfl (wk_f rfl (wk_f rfl (wk_f rfl (wk_f rfl (wk_f rfl (wk_f rfl (wk_f rfl (wk_f rfl (wk_nil)))))))))))))))))))))))))))))))))
     ·skip
      have htc := tchK_snoc c20
      refine wp_skip' ?_
      refine wp_region_t ?_
      refine w1 (mv 62 10 (V.v (.int .i64 ((j : Nat) : Int)))) ?_
      refine w1 (bn 63 (OpV.tmp 62 (.int .i64 ((j : Nat) : Int))) (OpV.const (.int .i64 1)) (r_add (c := (((j : Nat) : Int) + 1)) (w64 (by omega) (by omega)))) ?_
      refine w1 (asg 10 63 (V.v (.int .i64 (((j : Nat) : Int) + 1)))) ?_
      refine wpl_nil ?_
      exact loop_back ((j + 1), f2) (by refine ⟨by omega, ?_⟩; rw [htc]; first | (rw [Bool.or_true, if_pos rfl]; done) | (rw [Bool.or_false]; exact hf2)) (by show 4 - (j + 1) < 4 - j; omega) (weak_of id [19, 20, 21, 24, 29, 34, 37, 47, 48, 78, 84, 87, 108, 114, 123, 142, 147, 152, 158, 165, 190, 191] (by kernel_rfl) (wk_s (v' := V.b (.a (.slv ds.length 3 (dsl ds)))) (by kernel_rfl) rfl rfl (wk_s (v' := V.p 2 0) (by kernel_rfl) rfl rfl (wk_s (v' := V.v (.int .i64 9)) (by kernel_rfl) rfl rfl (wk_s (v' := V.b (.a (.sl 38 0 ((List.replicate i (-1000)).length)))) (by kernel_rfl) rfl rfl (wk_s (v' := V.v (.int .i64 f2)) (by kernel_rfl) rfl rfl (wk_s (v' := V.v (.int .i64 ((k2 : Nat) : Int))) (by kernel_rfl) rfl rfl (wk_s (v' := V.v (.int .i64 (((j : Nat) : Int) + 1))) (by kernel_rfl) (vint (by rfl)) rfl (wk_o (o' := ⟨29, 1, true, [(.slv l.length 1 (isl l) : A)]⟩) (by kernel_rfl) (renob_l (fun h => h) rfl rfl) rfl (wk_o (o' := ⟨3, 1, true, pl (isl (List.replicate i (-1000)))⟩) (by kernel_rfl) (renob_pl (fun h => h)) rfl (wk_f rfl (wk_f rfl (wk_f rfl (wk_f rfl (wk_f rfl (wk_f rfl (wk_f rfl (wk_f rfl (wk_f rfl (wk_f rfl (wk_f rfl (wk_f rfl (wk_f rfl (wk_f rfl (wk_f rfl (wk_f rfl (wk_f rfl (wk_f rfl (wk_f rfl (wk_f rfl (wk_f rfl (wk_f rfl (wk_nil)))))))))))))))))))))))))))))))))
    ·skip
     have c19P := of_decide_eq_false c19
     refine wp_exit' ?_
     refine wp_region_t ?_
     refine w1 (mv 58 9 (V.v (.int .i64 ((k2 : Nat) : Int)))) ?_
     refine w1 (bn 59 (OpV.tmp 58 (.int .i64 ((k2 : Nat) : Int))) (OpV.const (.int .i64 1)) (r_add (c := (((k2 : Nat) : Int) + 1)) (w64 (by omega) (by omega)))) ?_
     refine w1 (asg 9 59 (V.v (.int .i64 (((k2 : Nat) : Int) + 1)))) ?_
     refine wpl_nil ?_
     exact loop_back ((k2 + 1), f2) (by refine ⟨by omega, ?_⟩; (have e : j = 4 := by omega); subst e; rw [tchK_first hro hne (by omega)] at hf2; simp only [decide_eq_true_eq] at hf2; split at hf2 <;> omega) (by show 81 - (k2 + 1) < 81 - k2; omega) (weak_of id [19, 20, 21, 24, 29, 34, 37, 47, 48, 78, 84, 87, 108, 114, 123, 142, 147, 152, 158, 165, 190, 191] (by kernel_rfl) (wk_s (v' := V.b (.a (.slv ds.length 3 (dsl ds)))) (by kernel_rfl) rfl rfl (wk_s (v' := V.p 2 0) (by kernel_rfl) rfl rfl (wk_s (v' := V.v (.int .i64 9)) (by kernel_rfl) rfl rfl (wk_s (v' := V.b (.a (.sl 38 0 ((List.replicate i (-1000)).length)))) (by kernel_rfl) rfl rfl (wk_s (v' := V.v (.int .i64 f2)) (by kernel_rfl) rfl rfl (wk_s (v' := V.v (.int .i64 (((k2 : Nat) : Int) + 1))) (by kernel_rfl) (vint (by rfl)) rfl (wk_o (o' := ⟨29, 1, true, [(.slv l.length 1 (isl l) : A)]⟩) (by kernel_rfl) (renob_l (fun h => h) rfl rfl) rfl (wk_o (o' := ⟨3, 1, true, pl (isl (List.replicate i (-1000)))⟩) (by kernel_rfl) (renob_pl (fun h => h)) rfl (wk_f rfl (wk_f rfl (wk_f rfl (wk_f rfl (wk_f rfl (wk_f rfl (wk_f rfl (wk_f rfl (wk_f rfl (wk_f rfl (wk_f rfl (wk_f rfl (wk_f rfl (wk_f rfl (wk_f rfl (wk_f rfl (wk_f rfl (wk_f rfl (wk_f rfl (wk_f rfl (wk_f rfl (wk_f rfl (wk_nil))))))))))))))))))))))))))))))))
   ·skip
    have c21 := and_ff c15
    have hfe : f = (stU (regSet l) : Int) := by
     rcases c21 with q | q <;> (have q2 := of_decide_eq_false q; omega)
    refine wp_exit' ?_
    refine wp_seq' ?_
    refine wp_region_t ?_
    refine w1 (mv 80 6 (V.b (.a (.sl 38 0 ((List.replicate i (-1000)).length))))) ?_
    refine w1 (mv 81 8 (V.v (.int .i64 f))) ?_
    refine w1 (acts_index_sl (d := 82) (x := 80) (h := 38) (off := 0) (n := ((List.replicate i (-1000)).length)) (k := f.toNat) (off' := (f.toNat * 1)) (o := ⟨3, 1, true, pl (isl (List.replicate i (-1000)))⟩) (ltN rfl) qC30_un_22 qC30_sz_3 (OpV.tmp 81 (.int .i64 f)) (Int.toNat_of_nonneg (by omega)).symm (by omega) (by (simp; done))) ?_
    refine w1 (acts_store (t := 82) (h := 38) (off := (f.toNat * 1)) (o := ⟨3, 1, true, pl (isl (List.replicate i (-1000)))⟩) (b := .a (.val (.int .i64 0))) (cells := pl (isl ((List.replicate i (-1000)).set f.toNat 0))) qC30_ti_3 (OpX.const (.int .i64 0)) rfl (by decide) (by intro y hy; simp [B.cs] at hy; subst hy; rfl) (by simp only [pl_len, isl_len]; first | omega | assumption | exact regSet_lt (by assumption) | (rw [hownN]; omega) | (rw [hsL_len]; omega) | (simp only [List.length_cons, List.length_nil]; omega) | (rw [List.length_replicate]; omega)) (isl_put (k := f.toNat) (by omega))) ?_
    refine wpl_nil ?_
    refine wp_seq' ?_
    refine wp_region_t ?_
    refine w1 (mv 83 8 (V.v (.int .i64 f))) ?_
    refine w1 (acts_buildSlice' (d := 84) (h := 84) (n := 1) (s := 1) (xs := isl ([f] : List Int)) (ltN rfl) qC30_un_22 qC30_zi_3 (OpVs.cons (i := 0) (OpV.tmp 83 (.int .i64 f)) (OpVs.nil)) (by decide) (by decide) (by kernel_rfl) rfl) ?_
    refine w1 (asg 11 84 (V.b (.a (.sl 84 0 1)))) ?_
    refine wpl_nil ?_
    refine wp_seq' ?_
    refine wp_seq' ?_
    refine wp_region_t ?_
    refine w1 (acts_assign (d := 12) (ltN rfl) (OpX.const (.int .i64 0))) ?_
    refine wpl_nil ?_
    refine wp_block' ?_
    refine wp_loop' (fun (x : Nat × (List Nat)) => match x with | (k, L) => HInv dirS l ds L k) (fun (x : Nat × (List Nat)) => match x with | (k, L) => [(.s 1, some (.s (V.b (.a (.slv ds.length 3 (dsl ds)))))), (.s 2, some (.s (V.p 2 0))), (.s 5, some (.s (V.v (.int .i64 9)))), (.s 6, some (.s (V.b (.a (.sl 38 0 ((hsL l ds L).length)))))), (.s 11, some (.s (V.b (.a (.sl 84 0 ((nI L).length)))))), (.s 12, some (.s (V.v (.int .i64 ((k : Nat) : Int))))), (.o 2, some (.o ⟨29, 1, true, [(.slv l.length 1 (isl l) : A)]⟩)), (.o 38, some (.o ⟨3, 1, true, pl (isl (hsL l ds L))⟩)), (.o 84, some (.o ⟨3, 1, true, pl (isl (nI L))⟩)), (.o 19, some .free), (.o 20, some .free), (.o 21, some .free), (.o 24, some .free), (.o 29, some .free), (.o 34, some .free), (.o 37, some .free), (.o 47, some .free), (.o 48, some .free), (.o 78, some .free), (.o 87, some .free), (.o 108, some .free), (.o 114, some .free), (.o 123, some .free), (.o 142, some .free), (.o 147, some .free), (.o 152, some .free), (.o 158, some .free), (.o 165, some .free), (.o 190, some .free), (.o 191, some .free)]) (fun (x : Nat × (List Nat)) => match x with | (k, L) => 81 - k) ((0 : Nat), ([stU (regSet l)] : List Nat)) (by exact HInv.init dirS l ds hstu) (weak_of id [19, 20, 21, 24, 29, 34, 37, 47, 48, 78, 87, 108, 114, 123, 142, 147, 152, 158, 165, 190, 191] (by kernel_rfl) (wk_s (v' := V.b (.a (.slv ds.length 3 (dsl ds)))) (by kernel_rfl) rfl rfl (wk_s (v' := V.p 2 0) (by kernel_rfl) rfl rfl (wk_s (v' := V.v (.int .i64 9)) (by kernel_rfl) rfl rfl (wk_s (v' := V.b (.a (.sl 38 0 ((List.replicate i (-1000)).length)))) (by kernel_rfl) (vsl (by (simp; omega)) rfl) rfl (wk_s (v' := V.b (.a (.sl 84 0 1))) (by kernel_rfl) (vsl (by rfl) rfl) rfl (wk_s (v' := V.v (.int .i64 0)) (by kernel_rfl) (vint (by rfl)) rfl (wk_o (o' := ⟨29, 1, true, [(.slv l.length 1 (isl l) : A)]⟩) (by kernel_rfl) (renob_l (fun h => h) rfl rfl) rfl (wk_o (o' := ⟨3, 1, true, pl (isl ((List.replicate i (-1000)).set f.toNat 0))⟩) (by kernel_rfl) (renob_eq (fun h => h) (congrArg isl (by ((have e : i = 81 := by omega); (have ef : f = (stU (regSet l) : Int) := by omega); subst e; subst ef; first | exact hsL_init l ds hstu | exact (hsL_init l ds hstu).symm | rfl)))) rfl (wk_o (o' := ⟨3, 1, true, pl (isl [f])⟩) (by kernel_rfl) (renob_eq (fun h => h) (congrArg isl (by ((have e : i = 81 := by omega); (have ef : f = (stU (regSet l) : Int) := by omega); subst e; subst ef; first | exact hsL_init l ds hstu | exact (hsL_init l ds hstu).symm | rfl)))) rfl (wk_f rfl (wk_f rfl (wk_f rfl (wk_f rfl (wk_f rfl (wk_f rfl (wk_f rfl (wk_f rfl (wk_f rfl (wk_f rfl (wk_f rfl (wk_f rfl (wk_f rfl (wk_f rfl (wk_f rfl (wk_f rfl (wk_f rfl (wk_f rfl (wk_f rfl (wk_f rfl (wk_f rfl (wk_nil)))))))))))))))))))))))))))))))) ?_
    rintro ⟨k, L⟩ inv22
    replace inv22 : HInv dirS l ds L k := inv22
    have hH := inv22
    show Wp _ _ _ [(.s 1, some (.s (V.b (.a (.slv ds.length 3 (dsl ds)))))), (.s 2, some (.s (V.p 2 0))), (.s 5, some (.s (V.v (.int .i64 9)))), (.s 6, some (.s (V.b (.a (.sl 38 0 ((hsL l ds L).length)))))), (.s 11, some (.s (V.b (.a (.sl 84 0 ((nI L).length)))))), (.s 12, some (.s (V.v (.int .i64 ((k : Nat) : Int))))), (.o 2, some (.o ⟨29, 1, true, [(.slv l.length 1 (isl l) : A)]⟩)), (.o 38, some (.o ⟨3, 1, true, pl (isl (hsL l ds L))⟩)), (.o 84, some (.o ⟨3, 1, true, pl (isl (nI L))⟩)), (.o 19, some .free), (.o 20, some .free), (.o 21, some .free), (.o 24, some .free), (.o 29, some .free), (.o 34, some .free), (.o 37, some .free), (.o 47, some .free), (.o 48, some .free), (.o 78, some .free), (.o 87, some .free), (.o 108, some .free), (.o 114, some .free), (.o 123, some .free), (.o 142, some .free), (.o 147, some .free), (.o 152, some .free), (.o 158, some .free), (.o 165, some .free), (.o 190, some .free), (.o 191, some .free)]
    have hHl := hH.len
    have hnl0 := nI_len L
    refine wp_seq' ?_
    refine wp_seq' ?_
    refine wp_region_t ?_
    refine w1 (mv 85 12 (V.v (.int .i64 ((k : Nat) : Int)))) ?_
    refine w1 (mv 86 11 (V.b (.a (.sl 84 0 ((nI L).length))))) ?_
    refine w1 (acts_len (d := 87) (X := .sl 84 0 ((nI L).length)) (n := ((nI L).length)) (iv := (((nI L).length : Nat) : Int)) (ltN rfl) qC30_un_22 (OpX.tmp 86 (V.b (.a (.sl 84 0 ((nI L).length))))) (LenOf.sl _ _ _) rfl) ?_
    refine w1 (bn 88 (OpV.tmp 85 (.int .i64 ((k : Nat) : Int))) (OpV.tmp 87 (.int .i64 (((nI L).length : Nat) : Int))) (r_lss (c := (decide (((k : Nat) : Int) < (((nI L).length : Nat) : Int)))) rfl)) ?_
    refine wpl_nil ?_
    refine wp_if (t := 88) (decide (((k : Nat) : Int) < (((nI L).length : Nat) : Int))) (by kernel_rfl) (fun c23 => ?_) (fun c23 => ?_)
    ·skip
     have c23P := of_decide_eq_true c23
     have hnl := nI_len L
     have hk2 : k < L.length := by omega
     have hown0 : gI (nI L) k = ((gN L k : Nat) : Int) := gI_nI hk2
     obtain ⟨huL, hu81⟩ := hH.at hk2
     obtain ⟨hcx, hcy⟩ := cXY hu81
     refine wp_skip' ?_
     refine wp_seq' ?_
     refine wp_block' ?_
     refine wp_seq' ?_
     refine wp_region_t ?_
     refine w1 (mv 91 11 (V.b (.a (.sl 84 0 ((nI L).length))))) ?_
     refine w1 (mv 92 12 (V.v (.int .i64 ((k : Nat) : Int)))) ?_
     refine w1 (acts_index_sl (d := 93) (x := 91) (h := 84) (off := 0) (n := ((nI L).length)) (k := k) (off' := (k * 1)) (o := ⟨3, 1, true, pl (isl (nI L))⟩) (ltN rfl) qC30_un_22 qC30_sz_3 (OpV.tmp 92 (.int .i64 ((k : Nat) : Int))) rfl (by omega) (by (simp; done))) ?_
     refine w1 (acts_load_own (d := 94) (t := 93) (h := 84) (off := (k * 1)) (o := ⟨3, 1, true, pl (isl (nI L))⟩)  (x := .val (.int .i64 (gI (nI L) k))) (ltN rfl) qC30_ti_3 (pl_get (isl_get1 (k := k) (by omega)))) ?_
     refine w1 (mv 95 5 (V.v (.int .i64 9))) ?_
     refine w1 (bn 96 (OpV.tmp 94 (.int .i64 (gI (nI L) k))) (OpV.tmp 95 (.int .i64 9)) (r_rem (c := (cX (gN L k))) (by omega) (remN hown0))) ?_
     refine w1 (asg 13 96 (V.v (.int .i64 (cX (gN L k))))) ?_
     refine wpl_nil ?_
     refine wp_seq' ?_
     refine wp_region_t ?_
     refine w1 (mv 97 11 (V.b (.a (.sl 84 0 ((nI L).length))))) ?_
     refine w1 (mv 98 12 (V.v (.int .i64 ((k : Nat) : Int)))) ?_
     refine w1 (acts_index_sl (d := 99) (x := 97) (h := 84) (off := 0) (n := ((nI L).length)) (k := k) (off' := (k * 1)) (o := ⟨3, 1, true, pl (isl (nI L))⟩) (ltN rfl) qC30_un_22 qC30_sz_3 (OpV.tmp 98 (.int .i64 ((k : Nat) : Int))) rfl (by omega) (by (simp; done))) ?_
     refine w1 (acts_load_own (d := 100) (t := 99) (h := 84) (off := (k * 1)) (o := ⟨3, 1, true, pl (isl (nI L))⟩)  (x := .val (.int .i64 (gI (nI L) k))) (ltN rfl) qC30_ti_3 (pl_get (isl_get1 (k := k) (by omega)))) ?_
     refine w1 (mv 101 5 (V.v (.int .i64 9))) ?_
     refine w1 (bn 102 (OpV.tmp 100 (.int .i64 (gI (nI L) k))) (OpV.tmp 101 (.int .i64 9)) (r_quo (c := (cY (gN L k))) (by omega) (quoN hown0 (by decide) (by omega)))) ?_
     refine w1 (asg 14 102 (V.v (.int .i64 (cY (gN L k))))) ?_
     refine wpl_nil ?_
     refine wp_seq' ?_
     refine wp_region_t ?_
     refine w1 (acts_assign (d := 15) (ltN rfl) (OpX.const (.int .i64 0))) ?_
     refine wpl_nil ?_
     refine wp_block' ?_
     refine wp_loop' (fun (x : Nat × (List Nat)) => match x with | (t, M) => t ≤ 4 ∧ HIn dirS l ds L (gN L k) t M) (fun (x : Nat × (List Nat)) => match x with | (t, M) => [(.s 1, some (.s (V.b (.a (.slv ds.length 3 (dsl ds)))))), (.s 2, some (.s (V.p 2 0))), (.s 5, some (.s (V.v (.int .i64 9)))), (.s 6, some (.s (V.b (.a (.sl 38 0 ((hsL l ds M).length)))))), (.s 11, some (.s (V.b (.a (.sl 84 0 ((nI M).length)))))), (.s 12, some (.s (V.v (.int .i64 ((k : Nat) : Int))))), (.s 13, some (.s (V.v (.int .i64 (cX (gN L k)))))), (.s 14, some (.s (V.v (.int .i64 (cY (gN L k)))))), (.s 15, some (.s (V.v (.int .i64 ((t : Nat) : Int))))), (.o 2, some (.o ⟨29, 1, true, [(.slv l.length 1 (isl l) : A)]⟩)), (.o 38, some (.o ⟨3, 1, true, pl (isl (hsL l ds M))⟩)), (.o 84, some (.o ⟨3, 1, true, pl (isl (nI M))⟩)), (.o 19, some .free), (.o 20, some .free), (.o 21, some .free), (.o 24, some .free), (.o 29, some .free), (.o 34, some .free), (.o 37, some .free), (.o 47, some .free), (.o 48, some .free), (.o 78, some .free), (.o 87, some .free), (.o 108, some .free), (.o 114, some .free), (.o 123, some .free), (.o 142, some .free), (.o 147, some .free), (.o 152, some .free), (.o 158, some .free), (.o 165, some .free), (.o 190, some .free), (.o 191, some .free)]) (fun (x : Nat × (List Nat)) => match x with | (t, M) => 4 - t) ((0 : Nat), (L : List Nat)) (by exact ⟨by omega, hH.into _⟩) (weak_of id [19, 20, 21, 24, 29, 34, 37, 47, 48, 78, 87, 108, 114, 123, 142, 147, 152, 158, 165, 190, 191] (by kernel_rfl) (wk_s (v' := V.b (.a (.slv ds.length 3 (dsl ds)))) (by kernel_rfl) rfl rfl (wk_s (v' := V.p 2 0) (by kernel_rfl) rfl rfl (wk_s (v' := V.v (.int .i64 9)) (by kernel_rfl) rfl rfl (wk_s (v' := V.b (.a (.sl 38 0 ((hsL l ds L).length)))) (by kernel_rfl) rfl rfl (wk_s (v' := V.b (.a (.sl 84 0 ((nI L).length)))) (by kernel_rfl) rfl rfl (wk_s (v' := V.v (.int .i64 ((k : Nat) : Int))) (by kernel_rfl) rfl rfl (wk_s (v' := V.v (.int .i64 (cX (gN L k)))) (by kernel_rfl) rfl rfl (wk_s (v' := V.v (.int .i64 (cY (gN L k)))) (by kernel_rfl) rfl rfl (wk_s (v' := V.v (.int .i64 0)) (by kernel_rfl) (vint (by rfl)) rfl (wk_o (o' := ⟨29, 1, true, [(.slv l.length 1 (isl l) : A)]⟩) (by kernel_rfl) (renob_l (fun h => h) rfl rfl) rfl (wk_o (o' := ⟨3, 1, true, pl (isl (hsL l ds L))⟩) (by kernel_rfl) (renob_pl (fun h => h)) rfl (wk_o (o' := ⟨3, 1, true, pl (isl (nI L))⟩) (by kernel_rfl) (renob_pl (fun h => h)) rfl (wk_f rfl (wk_f rfl (wk_f rfl (wk_f rfl (wk_f rfl (wk_f rfl (wk_f rfl (wk_f rfl (wk_f rfl (wk_f rfl (wk_f rfl (wk_f rfl (wk_f rfl (wk_f rfl (wk_f rfl (wk_f rfl (wk_f rfl (wk_f rfl (wk_f rfl (wk_f rfl (wk_f rfl (wk_nil))))))))))))))))))))))))))))))))))) ?_
     rintro ⟨t, M⟩ inv24
     replace inv24 : t ≤ 4 ∧ HIn dirS l ds L (gN L k) t M := inv24
     obtain ⟨inv24_0, inv24_1⟩ := inv24
     show Wp _ _ _ [(.s 1, some (.s (V.b (.a (.slv ds.length 3 (dsl ds)))))), (.s 2, some (.s (V.p 2 0))), (.s 5, some (.s (V.v (.int .i64 9)))), (.s 6, some (.s (V.b (.a (.sl 38 0 ((hsL l ds M).length)))))), (.s 11, some (.s (V.b (.a (.sl 84 0 ((nI M).length)))))), (.s 12, some (.s (V.v (.int .i64 ((k : Nat) : Int))))), (.s 13, some (.s (V.v (.int .i64 (cX (gN L k)))))), (.s 14, some (.s (V.v (.int .i64 (cY (gN L k)))))), (.s 15, some (.s (V.v (.int .i64 ((t : Nat) : Int))))), (.o 2, some (.o ⟨29, 1, true, [(.slv l.length 1 (isl l) : A)]⟩)), (.o 38, some (.o ⟨3, 1, true, pl (isl (hsL l ds M))⟩)), (.o 84, some (.o ⟨3, 1, true, pl (isl (nI M))⟩)), (.o 19, some .free), (.o 20, some .free), (.o 21, some .free), (.o 24, some .free), (.o 29, some .free), (.o 34, some .free), (.o 37, some .free), (.o 47, some .free), (.o 48, some .free), (.o 78, some .free), (.o 87, some .free), (.o 108, some .free), (.o 114, some .free), (.o 123, some .free), (.o 142, some .free), (.o 147, some .free), (.o 152, some .free), (.o 158, some .free), (.o 165, some .free), (.o 190, some .free), (.o 191, some .free)]
     have hM : HIn dirS l ds L (gN L k) t M := by assumption
     have hMl := hM.len
     have hMe := hM.le
     have hnl2 := nI_len M
     have hown := hM.ow hk2
     have hownN : (gI (nI M) k).toNat = gN L k := by rw [hown]; rfl
     have hbu := hM.bd2 hu81
     obtain ⟨hbx0, hby0⟩ := bXY_bd dirS_is hu81 t
     have hsll := hsL_len l ds M
     refine wp_seq' ?_
     refine wp_seq' ?_
     refine wp_region_t ?_
     refine w1 (mv 103 15 (V.v (.int .i64 ((t : Nat) : Int)))) ?_
     refine w1 (bn 104 (OpV.tmp 103 (.int .i64 ((t : Nat) : Int))) (OpV.const (.int .i64 4)) (r_lss (c := (decide (((t : Nat) : Int) < 4))) rfl)) ?_
     refine wpl_nil ?_
     refine wp_if (t := 104) (decide (((t : Nat) : Int) < 4)) (by kernel_rfl) (fun c25 => ?_) (fun c25 => ?_)
     ·skip
      have c25P := of_decide_eq_true c25
      refine wp_skip' ?_
      refine wp_seq' ?_
      refine wp_block' ?_
      refine wp_seq' ?_
      refine wp_region_t ?_
      refine w1 (mv 107 13 (V.v (.int .i64 (cX (gN L k))))) ?_
      refine w1 (acts_buildSlice' (d := 108) (h := 108) (n := 4) (s := 1) (xs := isl ([1, 0, (-1), 0] : List Int)) (ltN rfl) qC30_un_22 qC30_zi_3 (OpVs.cons (i := 0) (OpV.const (.int .i64 1)) (OpVs.cons (i := 1) (OpV.const (.int .i64 0)) (OpVs.cons (i := 2) (OpV.const (.int .i64 (-1))) (OpVs.cons (i := 3) (OpV.const (.int .i64 0)) (OpVs.nil))))) (by decide) (by decide) (by kernel_rfl) rfl) ?_
      refine w1 (mv 109 15 (V.v (.int .i64 ((t : Nat) : Int)))) ?_
      refine w1 (acts_index_sl (d := 110) (x := 108) (h := 108) (off := 0) (n := 4) (k := t) (off' := (t * 1)) (o := ⟨3, 1, true, pl (isl [1, 0, (-1), 0])⟩) (ltN rfl) qC30_un_22 qC30_sz_3 (OpV.tmp 109 (.int .i64 ((t : Nat) : Int))) rfl (by omega) (by (simp; done))) ?_
      refine w1 (acts_load_own (d := 111) (t := 110) (h := 108) (off := (t * 1)) (o := ⟨3, 1, true, pl (isl [1, 0, (-1), 0])⟩)  (x := .val (.int .i64 (gI [1, 0, (-1), 0] t))) (ltN rfl) qC30_ti_3 (pl_get (isl_get1 (k := t) (by (simp only [List.length_cons, List.length_nil]; omega))))) ?_
      refine w1 (bn 112 (OpV.tmp 107 (.int .i64 (cX (gN L k)))) (OpV.tmp 111 (.int .i64 (gI [1, 0, (-1), 0] t))) (r_add (c := (bX dirS (gN L k) t)) (addS_X hu81 (by omega)))) ?_
      refine w1 (asg 16 112 (V.v (.int .i64 (bX dirS (gN L k) t)))) ?_
      refine wpl_nil ?_
      refine wp_seq' ?_
      refine wp_region_t ?_
      refine w1 (mv 113 14 (V.v (.int .i64 (cY (gN L k))))) ?_
      refine w1 (acts_buildSlice' (d := 114) (h := 114) (n := 4) (s := 1) (xs := isl ([0, 1, 0, (-1)] : List Int)) (ltN rfl) qC30_un_22 qC30_zi_3 (OpVs.cons (i := 0) (OpV.const (.int .i64 0)) (OpVs.cons (i := 1) (OpV.const (.int .i64 1)) (OpVs.cons (i := 2) (OpV.const (.int .i64 0)) (OpVs.cons (i := 3) (OpV.const (.int .i64 (-1))) (OpVs.nil))))) (by decide) (by decide) (by kernel_rfl) rfl) ?_
      refine w1 (mv 115 15 (V.v (.int .i64 ((t : Nat) : Int)))) ?_
      refine w1 (acts_index_sl (d := 116) (x := 114) (h := 114) (off := 0) (n := 4) (k := t) (off' := (t * 1)) (o := ⟨3, 1, true, pl (isl [0, 1, 0, (-1)])⟩) (ltN rfl) qC30_un_22 qC30_sz_3 (OpV.tmp 115 (.int .i64 ((t : Nat) : Int))) rfl (by omega) (by (simp; done))) ?_
      refine w1 (acts_load_own (d := 117) (t := 116) (h := 114) (off := (t * 1)) (o := ⟨3, 1, true, pl (isl [0, 1, 0, (-1)])⟩)  (x := .val (.int .i64 (gI [0, 1, 0, (-1)] t))) (ltN rfl) qC30_ti_3 (pl_get (isl_get1 (k := t) (by (simp only [List.length_cons, List.length_nil]; omega))))) ?_
      refine w1 (bn 118 (OpV.tmp 113 (.int .i64 (cY (gN L k)))) (OpV.tmp 117 (.int .i64 (gI [0, 1, 0, (-1)] t))) (r_add (c := (bY dirS (gN L k) t)) (addS_Y hu81 (by omega)))) ?_
      refine w1 (asg 17 118 (V.v (.int .i64 (bY dirS (gN L k) t)))) ?_
      refine wpl_nil ?_
      refine wp_seq' ?_
      refine wp_region_t ?_
      refine w1 (mv 119 13 (V.v (.int .i64 (cX (gN L k))))) ?_
      refine w1 (mv 120 14 (V.v (.int .i64 (cY (gN L k))))) ?_
      refine w1 (mv 121 16 (V.v (.int .i64 (bX dirS (gN L k) t)))) ?_
      refine w1 (mv 122 17 (V.v (.int .i64 (bY dirS (gN L k) t)))) ?_
      refine w1 (acts_call1 (d := 123) (ltN rfl) (spec_EdgeStep_fn (cX (gN L k)) (cY (gN L k)) (bX dirS (gN L k) t) (bY dirS (gN L k) t) ) (ArgVs.cons (ArgV.v (OpV.tmp 119 (.int .i64 (cX (gN L k))))) (ArgVs.cons (ArgV.v (OpV.tmp 120 (.int .i64 (cY (gN L k))))) (ArgVs.cons (ArgV.v (OpV.tmp 121 (.int .i64 (bX dirS (gN L k) t)))) (ArgVs.cons (ArgV.v (OpV.tmp 122 (.int .i64 (bY dirS (gN L k) t)))) (ArgVs.nil))))) (ResV.val _)) ?_
      refine w1 (asg 18 123 (V.v (.int .i64 (estep (cX (gN L k)) (cY (gN L k)) (bX dirS (gN L k) t) (bY dirS (gN L k) t))))) ?_
      refine wpl_nil ?_
      refine wp_seq' ?_
      refine wp_seq' ?_
      refine wp_join [(.s 136, some (.s (V.v (.bool ((decide ((estep (cX (gN L k)) (cY (gN L k)) (bX dirS (gN L k) t) (bY dirS (gN L k) t)) = 0)) || (decide ((gI (hsL l ds M) ((((bY dirS (gN L k) t) * 9) + (bX dirS (gN L k) t)).toNat)) ≠ (-1000)))))))), (.s 1, some (.s (V.b (.a (.slv ds.length 3 (dsl ds)))))), (.s 2, some (.s (V.p 2 0))), (.s 5, some (.s (V.v (.int .i64 9)))), (.s 6, some (.s (V.b (.a (.sl 38 0 ((hsL l ds M).length)))))), (.s 11, some (.s (V.b (.a (.sl 84 0 ((nI M).length)))))), (.s 12, some (.s (V.v (.int .i64 ((k : Nat) : Int))))), (.s 13, some (.s (V.v (.int .i64 (cX (gN L k)))))), (.s 14, some (.s (V.v (.int .i64 (cY (gN L k)))))), (.s 15, some (.s (V.v (.int .i64 ((t : Nat) : Int))))), (.s 16, some (.s (V.v (.int .i64 (bX dirS (gN L k) t))))), (.s 17, some (.s (V.v (.int .i64 (bY dirS (gN L k) t))))), (.s 18, some (.s (V.v (.int .i64 (estep (cX (gN L k)) (cY (gN L k)) (bX dirS (gN L k) t) (bY dirS (gN L k) t)))))), (.o 2, some (.o ⟨29, 1, true, [(.slv l.length 1 (isl l) : A)]⟩)), (.o 38, some (.o ⟨3, 1, true, pl (isl (hsL l ds M))⟩)), (.o 84, some (.o ⟨3, 1, true, pl (isl (nI M))⟩)), (.o 108, some (.o ⟨3, 1, true, pl (isl [1, 0, (-1), 0])⟩)), (.o 114, some (.o ⟨3, 1, true, pl (isl [0, 1, 0, (-1)])⟩)), (.o 19, some .free), (.o 20, some .free), (.o 21, some .free), (.o 24, some .free), (.o 29, some .free), (.o 34, some .free), (.o 37, some .free), (.o 47, some .free), (.o 48, some .free), (.o 78, some .free), (.o 87, some .free), (.o 123, some .free), (.o 142, some .free), (.o 147, some .free), (.o 152, some .free), (.o 158, some .free), (.o 165, some .free), (.o 190, some .free), (.o 191, some .free)] ?_ ?_
      ·skip
       rcases Bool.eq_false_or_eq_true (decide ((estep (cX (gN L k)) (cY (gN L k)) (bX dirS (gN L k) t) (bY dirS (gN L k) t)) = 0)) with c26 | c26
       ·skip
        have c26P := of_decide_eq_true c26
        have hno := st_no dirS_is hu81 (of_decide_eq_true c26)
        refine wp_region_t ?_
        refine w1 (mv 124 18 (V.v (.int .i64 (estep (cX (gN L k)) (cY (gN L k)) (bX dirS (gN L k) t) (bY dirS (gN L k) t))))) ?_
        refine w1 (bn 125 (OpV.tmp 124 (.int .i64 (estep (cX (gN L k)) (cY (gN L k)) (bX dirS (gN L k) t) (bY dirS (gN L k) t)))) (OpV.const (.int .i64 0)) (r_eql (c := true) c26)) ?_
        refine w1 (mv 126 125 (V.v (.bool true))) ?_
        refine w2 (step_off (dj := 126) (b' := true) rfl rfl (by decide) rfl (ltN rfl)) ?_
        refine w2 (step_off (dj := 126) (b' := true) rfl rfl (by decide) rfl (ltN rfl)) ?_
        refine w2 (step_off (dj := 126) (b' := true) rfl rfl (by decide) rfl (ltN rfl)) ?_
        refine w2 (step_off (dj := 126) (b' := true) rfl rfl (by decide) rfl (ltN rfl)) ?_
        refine w2 (step_off (dj := 126) (b' := true) rfl rfl (by decide) rfl (ltN rfl)) ?_
        refine w2 (step_off (dj := 126) (b' := true) rfl rfl (by decide) rfl (ltN rfl)) ?_
        refine w2 (step_off (dj := 126) (b' := true) rfl rfl (by decide) rfl (ltN rfl)) ?_
        refine w2 (step_off (dj := 126) (b' := true) rfl rfl (by decide) rfl (ltN rfl)) ?_
        refine w2 (step_off (dj := 126) (b' := true) rfl rfl (by decide) rfl (ltN rfl)) ?_
        refine w1 (acts_pick_t (d := 136) (ltN rfl) (OpV.tmp 126 (.bool true)) (OpX.const (.bool true))) ?_
        refine wpl_nil ?_
        exact ⟨rfl, weak_reads ⟨(by simp only [c26]; first | done | kernel_rfl), (by repeat (first | exact trivial | refine ⟨by kernel_rfl, ?_⟩))⟩⟩
       ·skip
        have c26P := of_decide_eq_false c26
        obtain ⟨hin, hst⟩ := st_yes dirS_is hu81 (of_decide_eq_false c26)
        obtain ⟨hbx, hby⟩ := in_b hin
        have hw81 := (atU_lt hin).1
        have hst1 := stE_one (gN L k) (atU (gN L k) (dirS t))
        have hxw : ((bY dirS (gN L k) t) * 9 + (bX dirS (gN L k) t)) = (((atU (gN L k) (dirS t)) : Nat) : Int) := (Int.toNat_of_nonneg (by omega)).symm
        have hop := op_sd (s := regSet l) (til_okd hti) hu81 (dirS_is t) hin
        refine wp_region_t ?_
        refine w1 (mv 124 18 (V.v (.int .i64 (estep (cX (gN L k)) (cY (gN L k)) (bX dirS (gN L k) t) (bY dirS (gN L k) t))))) ?_
        refine w1 (bn 125 (OpV.tmp 124 (.int .i64 (estep (cX (gN L k)) (cY (gN L k)) (bX dirS (gN L k) t) (bY dirS (gN L k) t)))) (OpV.const (.int .i64 0)) (r_eql (c := false) c26)) ?_
        refine w1 (mv 126 125 (V.v (.bool false))) ?_
        refine w2 (step_on (dj := 126) rfl rfl (mv 127 6 (V.b (.a (.sl 38 0 ((hsL l ds M).length)))))) ?_
        refine w2 (step_on (dj := 126) rfl rfl (mv 128 17 (V.v (.int .i64 (bY dirS (gN L k) t))))) ?_
        refine w2 (step_on (dj := 126) rfl rfl (mv 129 5 (V.v (.int .i64 9)))) ?_
        refine w2 (step_on (dj := 126) rfl rfl (bn 130 (OpV.tmp 128 (.int .i64 (bY dirS (gN L k) t))) (OpV.tmp 129 (.int .i64 9)) (r_mul (c := ((bY dirS (gN L k) t) * 9)) (w64 (by omega) (by omega))))) ?_
        refine w2 (step_on (dj := 126) rfl rfl (mv 131 16 (V.v (.int .i64 (bX dirS (gN L k) t))))) ?_
        refine w2 (step_on (dj := 126) rfl rfl (bn 132 (OpV.tmp 130 (.int .i64 ((bY dirS (gN L k) t) * 9))) (OpV.tmp 131 (.int .i64 (bX dirS (gN L k) t))) (r_add (c := (((bY dirS (gN L k) t) * 9) + (bX dirS (gN L k) t))) (w64 (by omega) (by omega))))) ?_
        refine w2 (step_on (dj := 126) rfl rfl (acts_index_sl (d := 133) (x := 127) (h := 38) (off := 0) (n := ((hsL l ds M).length)) (k := ((((bY dirS (gN L k) t) * 9) + (bX dirS (gN L k) t)).toNat)) (off' := (((((bY dirS (gN L k) t) * 9) + (bX dirS (gN L k) t)).toNat) * 1)) (o := ⟨3, 1, true, pl (isl (hsL l ds M))⟩) (ltN rfl) qC30_un_22 qC30_sz_3 (OpV.tmp 132 (.int .i64 (((bY dirS (gN L k) t) * 9) + (bX dirS (gN L k) t)))) (Int.toNat_of_nonneg (by omega)).symm (by omega) (by (simp; done)))) ?_
        refine w2 (step_on (dj := 126) rfl rfl (acts_load_own (d := 134) (t := 133) (h := 38) (off := (((((bY dirS (gN L k) t) * 9) + (bX dirS (gN L k) t)).toNat) * 1)) (o := ⟨3, 1, true, pl (isl (hsL l ds M))⟩)  (x := .val (.int .i64 (gI (hsL l ds M) ((((bY dirS (gN L k) t) * 9) + (bX dirS (gN L k) t)).toNat)))) (ltN rfl) qC30_ti_3 (pl_get (isl_get1 (k := ((((bY dirS (gN L k) t) * 9) + (bX dirS (gN L k) t)).toNat)) (by omega))))) ?_
        refine w2 (step_on (dj := 126) rfl rfl (bn 135 (OpV.tmp 134 (.int .i64 (gI (hsL l ds M) ((((bY dirS (gN L k) t) * 9) + (bX dirS (gN L k) t)).toNat)))) (OpV.const (.int .i64 (-1000))) (r_neq (c := (decide ((gI (hsL l ds M) ((((bY dirS (gN L k) t) * 9) + (bX dirS (gN L k) t)).toNat)) ≠ (-1000)))) rfl))) ?_
        refine w1 (acts_pick_f (d := 136) (ltN rfl) (OpV.tmp 126 (.bool false)) (OpX.tmp 135 (V.v (.bool (decide ((gI (hsL l ds M) ((((bY dirS (gN L k) t) * 9) + (bX dirS (gN L k) t)).toNat)) ≠ (-1000))))))) ?_
        refine wpl_nil ?_
        exact ⟨rfl, weak_reads ⟨(by simp only [c26]; first | done | kernel_rfl), (by repeat (first | exact trivial | refine ⟨by kernel_rfl, ?_⟩))⟩⟩
      refine wp_if (t := 136) (((decide ((estep (cX (gN L k)) (cY (gN L k)) (bX dirS (gN L k) t) (bY dirS (gN L k) t)) = 0)) || (decide ((gI (hsL l ds M) ((((bY dirS (gN L k) t) * 9) + (bX dirS (gN L k) t)).toNat)) ≠ (-1000))))) (by kernel_rfl) (fun c27 => ?_) (fun c27 => ?_)
      ·skip
       have c28 := or_tt c27
       have hsk := skip_or dirS_is hM hu81 c28
       refine wp_exit' ?_
       refine wp_region_t ?_
       refine w1 (mv 105 15 (V.v (.int .i64 ((t : Nat) : Int)))) ?_
       refine w1 (bn 106 (OpV.tmp 105 (.int .i64 ((t : Nat) : Int))) (OpV.const (.int .i64 1)) (r_add (c := (((t : Nat) : Int) + 1)) (w64 (by omega) (by omega)))) ?_
       refine w1 (asg 15 106 (V.v (.int .i64 (((t : Nat) : Int) + 1)))) ?_
       refine wpl_nil ?_
       exact loop_back ((t + 1), M) (by exact ⟨by omega, hsk⟩) (by show 4 - (t + 1) < 4 - t; omega) (weak_of id [19, 20, 21, 24, 29, 34, 37, 47, 48, 78, 87, 108, 114, 123, 142, 147, 152, 158, 165, 190, 191] (by kernel_rfl) (wk_s (v' := V.b (.a (.slv ds.length 3 (dsl ds)))) (by kernel_rfl) rfl rfl (wk_s (v' := V.p 2 0) (by kernel_rfl) rfl rfl (wk_s (v' := V.v (.int .i64 9)) (by kernel_rfl) rfl rfl (wk_s (v' := V.b (.a (.sl 38 0 ((hsL l ds M).length)))) (by kernel_rfl) rfl rfl (wk_s (v' := V.b (.a (.sl 84 0 ((nI M).length)))) (by kernel_rfl) rfl rfl (wk_s (v' := V.v (.int .i64 ((k : Nat) : Int))) (by kernel_rfl) rfl rfl (wk_s (v' := V.v (.int .i64 (cX (gN L k)))) (by kernel_rfl) rfl rfl (wk_s (v' := V.v (.int .i64 (cY (gN L k)))) (by kernel_rfl) rfl rfl (wk_s (v' := V.v (.int .i64 (((t : Nat) : Int) + 1))) (by kernel_rfl) (vint (by rfl)) rfl (wk_o (o' := ⟨29, 1, true, [(.slv l.length 1 (isl l) : A)]⟩) (by kernel_rfl) (renob_l (fun h => h) rfl rfl) rfl (wk_o (o' := ⟨3, 1, true, pl (isl (hsL l ds M))⟩) (by kernel_rfl) (renob_pl (fun h => h)) rfl (wk_o (o' := ⟨3, 1, true, pl (isl (nI M))⟩) (by kernel_rfl) (renob_pl (fun h => h)) rfl (wk_f rfl (wk_f rfl (wk_f rfl (wk_f rfl (wk_f rfl (wk_f rfl (wk_f rfl (wk_f rfl (wk_f rfl (wk_f rfl (wk_f rfl (wk_f rfl (wk_f rfl (wk_f rfl (wk_f rfl (wk_f rfl (wk_f rfl (wk_f rfl (wk_f rfl (wk_f rfl (wk_f rfl (wk_nil)))))))))))))))))))))))))))))))))))
      ·skip
       obtain ⟨c29, c30⟩ := or_ff c27
       have c29P := of_decide_eq_false c29
       obtain ⟨hin, hst⟩ := st_yes dirS_is hu81 (of_decide_eq_false c29)
       obtain ⟨hbx, hby⟩ := in_b hin
       have hw81 := (atU_lt hin).1
       have hst1 := stE_one (gN L k) (atU (gN L k) (dirS t))
       have hxw : ((bY dirS (gN L k) t) * 9 + (bX dirS (gN L k) t)) = (((atU (gN L k) (dirS t)) : Nat) : Int) := (Int.toNat_of_nonneg (by omega)).symm
       have hop := op_sd (s := regSet l) (til_okd hti) hu81 (dirS_is t) hin
       have c30P := of_decide_eq_false c30
       have hmem : (atU (gN L k) (dirS t)) ∉ M := (hM.val hw81).1 (Decidable.not_not.1 (of_decide_eq_false c30))
       refine wp_skip' ?_
       refine wp_seq' ?_
       refine wp_region_t ?_
       refine w1 (mv 138 13 (V.v (.int .i64 (cX (gN L k))))) ?_
       refine w1 (mv 139 14 (V.v (.int .i64 (cY (gN L k))))) ?_
       refine w1 (mv 140 16 (V.v (.int .i64 (bX dirS (gN L k) t)))) ?_
       refine w1 (mv 141 17 (V.v (.int .i64 (bY dirS (gN L k) t)))) ?_
       refine w1 (acts_call2 (d := 142) (ltN rfl) (spec_l13Sides_fn (cX (gN L k)) (cY (gN L k)) (bX dirS (gN L k) t) (bY dirS (gN L k) t) (by omega) (by omega) (by omega) (by omega) (by omega) (by omega) (by omega) (by omega)) (ArgVs.cons (ArgV.v (OpV.tmp 138 (.int .i64 (cX (gN L k))))) (ArgVs.cons (ArgV.v (OpV.tmp 139 (.int .i64 (cY (gN L k))))) (ArgVs.cons (ArgV.v (OpV.tmp 140 (.int .i64 (bX dirS (gN L k) t)))) (ArgVs.cons (ArgV.v (OpV.tmp 141 (.int .i64 (bY dirS (gN L k) t)))) (ArgVs.nil))))) (ResV.agg [(.int .i64 ((sdA (cX (gN L k)) (cY (gN L k)) (bX dirS (gN L k) t) (bY dirS (gN L k) t)).x) : Value), .int .i64 ((sdA (cX (gN L k)) (cY (gN L k)) (bX dirS (gN L k) t) (bY dirS (gN L k) t)).y)]) (ResV.agg [(.int .i64 ((sdB (cX (gN L k)) (cY (gN L k)) (bX dirS (gN L k) t) (bY dirS (gN L k) t)).x) : Value), .int .i64 ((sdB (cX (gN L k)) (cY (gN L k)) (bX dirS (gN L k) t) (bY dirS (gN L k) t)).y)])) ?_
       refine w1 (mv 137 142 (V.tup [.agg ([(.int .i64 ((sdA (cX (gN L k)) (cY (gN L k)) (bX dirS (gN L k) t) (bY dirS (gN L k) t)).x) : Value), .int .i64 ((sdA (cX (gN L k)) (cY (gN L k)) (bX dirS (gN L k) t) (bY dirS (gN L k) t)).y)].map A.val), .agg ([(.int .i64 ((sdB (cX (gN L k)) (cY (gN L k)) (bX dirS (gN L k) t) (bY dirS (gN L k) t)).x) : Value), .int .i64 ((sdB (cX (gN L k)) (cY (gN L k)) (bX dirS (gN L k) t) (bY dirS (gN L k) t)).y)].map A.val)])) ?_
       refine w1 (acts_extract (d := 143) (t := 137) (ix := 0) (xs := [.agg ([(.int .i64 ((sdA (cX (gN L k)) (cY (gN L k)) (bX dirS (gN L k) t) (bY dirS (gN L k) t)).x) : Value), .int .i64 ((sdA (cX (gN L k)) (cY (gN L k)) (bX dirS (gN L k) t) (bY dirS (gN L k) t)).y)].map A.val), .agg ([(.int .i64 ((sdB (cX (gN L k)) (cY (gN L k)) (bX dirS (gN L k) t) (bY dirS (gN L k) t)).x) : Value), .int .i64 ((sdB (cX (gN L k)) (cY (gN L k)) (bX dirS (gN L k) t) (bY dirS (gN L k) t)).y)].map A.val)]) (X := .agg ([(.int .i64 ((sdA (cX (gN L k)) (cY (gN L k)) (bX dirS (gN L k) t) (bY dirS (gN L k) t)).x) : Value), .int .i64 ((sdA (cX (gN L k)) (cY (gN L k)) (bX dirS (gN L k) t) (bY dirS (gN L k) t)).y)].map A.val)) (ltN rfl) rfl) ?_
       refine w1 (acts_extract (d := 144) (t := 137) (ix := 1) (xs := [.agg ([(.int .i64 ((sdA (cX (gN L k)) (cY (gN L k)) (bX dirS (gN L k) t) (bY dirS (gN L k) t)).x) : Value), .int .i64 ((sdA (cX (gN L k)) (cY (gN L k)) (bX dirS (gN L k) t) (bY dirS (gN L k) t)).y)].map A.val), .agg ([(.int .i64 ((sdB (cX (gN L k)) (cY (gN L k)) (bX dirS (gN L k) t) (bY dirS (gN L k) t)).x) : Value), .int .i64 ((sdB (cX (gN L k)) (cY (gN L k)) (bX dirS (gN L k) t) (bY dirS (gN L k) t)).y)].map A.val)]) (X := .agg ([(.int .i64 ((sdB (cX (gN L k)) (cY (gN L k)) (bX dirS (gN L k) t) (bY dirS (gN L k) t)).x) : Value), .int .i64 ((sdB (cX (gN L k)) (cY (gN L k)) (bX dirS (gN L k) t) (bY dirS (gN L k) t)).y)].map A.val)) (ltN rfl) rfl) ?_
       refine w1 (acts_alloc' (d := 19) (h := 19) (cap := 1) (s := 2) (cells := [(.val (.int .i64 0) : A), .val (.int .i64 0)]) (ltN rfl) qC30_zi_53 rfl rfl (by decide)) ?_
       refine w1 (acts_alloc' (d := 20) (h := 20) (cap := 1) (s := 2) (cells := [(.val (.int .i64 0) : A), .val (.int .i64 0)]) (ltN rfl) qC30_zi_53 rfl rfl (by decide)) ?_
       refine w1 (acts_store (t := 19) (h := 19) (off := 0) (o := ⟨53, 2, true, [(.val (.int .i64 0) : A), .val (.int .i64 0)]⟩) (b := .agg ([(.int .i64 ((sdA (cX (gN L k)) (cY (gN L k)) (bX dirS (gN L k) t) (bY dirS (gN L k) t)).x) : Value), .int .i64 ((sdA (cX (gN L k)) (cY (gN L k)) (bX dirS (gN L k) t) (bY dirS (gN L k) t)).y)].map A.val)) (cells := [(.val (.int .i64 ((sdA (cX (gN L k)) (cY (gN L k)) (bX dirS (gN L k) t) (bY dirS (gN L k) t)).x)) : A), .val (.int .i64 ((sdA (cX (gN L k)) (cY (gN L k)) (bX dirS (gN L k) t) (bY dirS (gN L k) t)).y))]) qC30_ti_53 (OpX.tmp 143 (V.av [(.int .i64 ((sdA (cX (gN L k)) (cY (gN L k)) (bX dirS (gN L k) t) (bY dirS (gN L k) t)).x) : Value), .int .i64 ((sdA (cX (gN L k)) (cY (gN L k)) (bX dirS (gN L k) t) (bY dirS (gN L k) t)).y)])) rfl (by decide) (by intro y hy; simp [B.cs] at hy; rcases hy with rfl | rfl <;> rfl) (Nat.le_of_ble_eq_true rfl) rfl) ?_
       refine w1 (acts_store (t := 20) (h := 20) (off := 0) (o := ⟨53, 2, true, [(.val (.int .i64 0) : A), .val (.int .i64 0)]⟩) (b := .agg ([(.int .i64 ((sdB (cX (gN L k)) (cY (gN L k)) (bX dirS (gN L k) t) (bY dirS (gN L k) t)).x) : Value), .int .i64 ((sdB (cX (gN L k)) (cY (gN L k)) (bX dirS (gN L k) t) (bY dirS (gN L k) t)).y)].map A.val)) (cells := [(.val (.int .i64 ((sdB (cX (gN L k)) (cY (gN L k)) (bX dirS (gN L k) t) (bY dirS (gN L k) t)).x)) : A), .val (.int .i64 ((sdB (cX (gN L k)) (cY (gN L k)) (bX dirS (gN L k) t) (bY dirS (gN L k) t)).y))]) qC30_ti_53 (OpX.tmp 144 (V.av [(.int .i64 ((sdB (cX (gN L k)) (cY (gN L k)) (bX dirS (gN L k) t) (bY dirS (gN L k) t)).x) : Value), .int .i64 ((sdB (cX (gN L k)) (cY (gN L k)) (bX dirS (gN L k) t) (bY dirS (gN L k) t)).y)])) rfl (by decide) (by intro y hy; simp [B.cs] at hy; rcases hy with rfl | rfl <;> rfl) (Nat.le_of_ble_eq_true rfl) rfl) ?_
       refine wpl_nil ?_
       refine wp_seq' ?_
       refine wp_seq' ?_
       refine wp_join [(.s 154, some (.s (V.v (.bool ((!(hasC l (sdA (cX (gN L k)) (cY (gN L k)) (bX dirS (gN L k) t) (bY dirS (gN L k) t)))) && (!(hasC l (sdB (cX (gN L k)) (cY (gN L k)) (bX dirS (gN L k) t) (bY dirS (gN L k) t))))))))), (.s 1, some (.s (V.b (.a (.slv ds.length 3 (dsl ds)))))), (.s 2, some (.s (V.p 2 0))), (.s 5, some (.s (V.v (.int .i64 9)))), (.s 6, some (.s (V.b (.a (.sl 38 0 ((hsL l ds M).length)))))), (.s 11, some (.s (V.b (.a (.sl 84 0 ((nI M).length)))))), (.s 12, some (.s (V.v (.int .i64 ((k : Nat) : Int))))), (.s 13, some (.s (V.v (.int .i64 (cX (gN L k)))))), (.s 14, some (.s (V.v (.int .i64 (cY (gN L k)))))), (.s 15, some (.s (V.v (.int .i64 ((t : Nat) : Int))))), (.s 16, some (.s (V.v (.int .i64 (bX dirS (gN L k) t))))), (.s 17, some (.s (V.v (.int .i64 (bY dirS (gN L k) t))))), (.s 18, some (.s (V.v (.int .i64 (estep (cX (gN L k)) (cY (gN L k)) (bX dirS (gN L k) t) (bY dirS (gN L k) t)))))), (.s 19, some (.s (V.p 19 0))), (.s 20, some (.s (V.p 20 0))), (.o 2, some (.o ⟨29, 1, true, [(.slv l.length 1 (isl l) : A)]⟩)), (.o 19, some (.o ⟨53, 2, true, [(.val (.int .i64 ((sdA (cX (gN L k)) (cY (gN L k)) (bX dirS (gN L k) t) (bY dirS (gN L k) t)).x)) : A), .val (.int .i64 ((sdA (cX (gN L k)) (cY (gN L k)) (bX dirS (gN L k) t) (bY dirS (gN L k) t)).y))]⟩)), (.o 20, some (.o ⟨53, 2, true, [(.val (.int .i64 ((sdB (cX (gN L k)) (cY (gN L k)) (bX dirS (gN L k) t) (bY dirS (gN L k) t)).x)) : A), .val (.int .i64 ((sdB (cX (gN L k)) (cY (gN L k)) (bX dirS (gN L k) t) (bY dirS (gN L k) t)).y))]⟩)), (.o 38, some (.o ⟨3, 1, true, pl (isl (hsL l ds M))⟩)), (.o 84, some (.o ⟨3, 1, true, pl (isl (nI M))⟩)), (.o 108, some (.o ⟨3, 1, true, pl (isl [1, 0, (-1), 0])⟩)), (.o 114, some (.o ⟨3, 1, true, pl (isl [0, 1, 0, (-1)])⟩)), (.o 21, some .free), (.o 24, some .free), (.o 29, some .free), (.o 34, some .free), (.o 37, some .free), (.o 47, some .free), (.o 48, some .free), (.o 78, some .free), (.o 87, some .free), (.o 123, some .free), (.o 142, some .free), (.o 147, some .free), (.o 152, some .free), (.o 158, some .free), (.o 165, some .free), (.o 190, some .free), (.o 191, some .free)] ?_ ?_
       ·skip
        rcases Bool.eq_false_or_eq_true ((hasC l (sdA (cX (gN L k)) (cY (gN L k)) (bX dirS (gN L k) t) (bY dirS (gN L k) t)))) with c31 | c31
        ·skip
         have hSp : hasS (regSet l) (sdA (cX (gN L k)) (cY (gN L k)) (bX dirS (gN L k) t) (bY dirS (gN L k) t)) = true := (hasC_hs hro _).symm.trans c31
         refine wp_region_t ?_
         refine w1 (acts_load_owns (d := 145) (t := 2) (h := 2) (off := 0) (o := ⟨29, 1, true, [(.slv l.length 1 (isl l) : A)]⟩)  (xs := [(.slv l.length 1 (isl l) : A)]) (ltN rfl) qC30_ti_29 rfl (by decide) rfl) ?_
         refine w1 (acts_load_owns (d := 146) (t := 19) (h := 19) (off := 0) (o := ⟨53, 2, true, [(.val (.int .i64 ((sdA (cX (gN L k)) (cY (gN L k)) (bX dirS (gN L k) t) (bY dirS (gN L k) t)).x)) : A), .val (.int .i64 ((sdA (cX (gN L k)) (cY (gN L k)) (bX dirS (gN L k) t) (bY dirS (gN L k) t)).y))]⟩)  (xs := [(.int .i64 ((sdA (cX (gN L k)) (cY (gN L k)) (bX dirS (gN L k) t) (bY dirS (gN L k) t)).x) : Value), .int .i64 ((sdA (cX (gN L k)) (cY (gN L k)) (bX dirS (gN L k) t) (bY dirS (gN L k) t)).y)].map A.val) (ltN rfl) qC30_ti_53 rfl (by decide) rfl) ?_
         refine w1 (acts_call1 (d := 147) (ltN rfl) (spec_HasCell_fn l (sdA (cX (gN L k)) (cY (gN L k)) (bX dirS (gN L k) t) (bY dirS (gN L k) t)) (by omega)) (ArgVs.cons (ArgV.regv 145 l.length 1 (isl l)) (ArgVs.cons (ArgV.va (vs := [(.int .i64 ((sdA (cX (gN L k)) (cY (gN L k)) (bX dirS (gN L k) t) (bY dirS (gN L k) t)).x) : Value), .int .i64 ((sdA (cX (gN L k)) (cY (gN L k)) (bX dirS (gN L k) t) (bY dirS (gN L k) t)).y)]) (OpV.agg 146 [(.int .i64 ((sdA (cX (gN L k)) (cY (gN L k)) (bX dirS (gN L k) t) (bY dirS (gN L k) t)).x) : Value), .int .i64 ((sdA (cX (gN L k)) (cY (gN L k)) (bX dirS (gN L k) t) (bY dirS (gN L k) t)).y)])) (ArgVs.nil))) ((resval (congrArg Value.bool c31)))) ?_
         refine w1 (acts_un (d := 148) (ltN rfl) (OpV.tmp 147 (.bool true)) (r_not (c := false) rfl)) ?_
         refine w1 (mv 149 148 (V.v (.bool false))) ?_
         refine w2 (step_off (dj := 149) (b' := false) rfl rfl (by decide) rfl (ltN rfl)) ?_
         refine w2 (step_off (dj := 149) (b' := false) rfl rfl (by decide) rfl (ltN rfl)) ?_
         refine w2 (step_off (dj := 149) (b' := false) rfl rfl (by decide) rfl (ltN rfl)) ?_
         refine w2 (step_off (dj := 149) (b' := false) rfl rfl (by decide) rfl (ltN rfl)) ?_
         refine w1 (acts_pick_f (d := 154) (ltN rfl) (OpV.tmp 149 (.bool false)) (OpX.const (.bool false))) ?_
         refine wpl_nil ?_
         exact ⟨rfl, weak_reads ⟨(by simp only [c31]; first | done | kernel_rfl), (by repeat (first | exact trivial | refine ⟨by kernel_rfl, ?_⟩))⟩⟩
        ·skip
         have hSp : hasS (regSet l) (sdA (cX (gN L k)) (cY (gN L k)) (bX dirS (gN L k) t) (bY dirS (gN L k) t)) = false := (hasC_hs hro _).symm.trans c31
         refine wp_region_t ?_
         refine w1 (acts_load_owns (d := 145) (t := 2) (h := 2) (off := 0) (o := ⟨29, 1, true, [(.slv l.length 1 (isl l) : A)]⟩)  (xs := [(.slv l.length 1 (isl l) : A)]) (ltN rfl) qC30_ti_29 rfl (by decide) rfl) ?_
         refine w1 (acts_load_owns (d := 146) (t := 19) (h := 19) (off := 0) (o := ⟨53, 2, true, [(.val (.int .i64 ((sdA (cX (gN L k)) (cY (gN L k)) (bX dirS (gN L k) t) (bY dirS (gN L k) t)).x)) : A), .val (.int .i64 ((sdA (cX (gN L k)) (cY (gN L k)) (bX dirS (gN L k) t) (bY dirS (gN L k) t)).y))]⟩)  (xs := [(.int .i64 ((sdA (cX (gN L k)) (cY (gN L k)) (bX dirS (gN L k) t) (bY dirS (gN L k) t)).x) : Value), .int .i64 ((sdA (cX (gN L k)) (cY (gN L k)) (bX dirS (gN L k) t) (bY dirS (gN L k) t)).y)].map A.val) (ltN rfl) qC30_ti_53 rfl (by decide) rfl) ?_
         refine w1 (acts_call1 (d := 147) (ltN rfl) (spec_HasCell_fn l (sdA (cX (gN L k)) (cY (gN L k)) (bX dirS (gN L k) t) (bY dirS (gN L k) t)) (by omega)) (ArgVs.cons (ArgV.regv 145 l.length 1 (isl l)) (ArgVs.cons (ArgV.va (vs := [(.int .i64 ((sdA (cX (gN L k)) (cY (gN L k)) (bX dirS (gN L k) t) (bY dirS (gN L k) t)).x) : Value), .int .i64 ((sdA (cX (gN L k)) (cY (gN L k)) (bX dirS (gN L k) t) (bY dirS (gN L k) t)).y)]) (OpV.agg 146 [(.int .i64 ((sdA (cX (gN L k)) (cY (gN L k)) (bX dirS (gN L k) t) (bY dirS (gN L k) t)).x) : Value), .int .i64 ((sdA (cX (gN L k)) (cY (gN L k)) (bX dirS (gN L k) t) (bY dirS (gN L k) t)).y)])) (ArgVs.nil))) ((resval (congrArg Value.bool c31)))) ?_
         refine w1 (acts_un (d := 148) (ltN rfl) (OpV.tmp 147 (.bool false)) (r_not (c := true) rfl)) ?_
         refine w1 (mv 149 148 (V.v (.bool true))) ?_
         refine w2 (step_on (dj := 149) rfl rfl (acts_load_owns (d := 150) (t := 2) (h := 2) (off := 0) (o := ⟨29, 1, true, [(.slv l.length 1 (isl l) : A)]⟩)  (xs := [(.slv l.length 1 (isl l) : A)]) (ltN rfl) qC30_ti_29 rfl (by decide) rfl)) ?_
         refine w2 (step_on (dj := 149) rfl rfl (acts_load_owns (d := 151) (t := 20) (h := 20) (off := 0) (o := ⟨53, 2, true, [(.val (.int .i64 ((sdB (cX (gN L k)) (cY (gN L k)) (bX dirS (gN L k) t) (bY dirS (gN L k) t)).x)) : A), .val (.int .i64 ((sdB (cX (gN L k)) (cY (gN L k)) (bX dirS (gN L k) t) (bY dirS (gN L k) t)).y))]⟩)  (xs := [(.int .i64 ((sdB (cX (gN L k)) (cY (gN L k)) (bX dirS (gN L k) t) (bY dirS (gN L k) t)).x) : Value), .int .i64 ((sdB (cX (gN L k)) (cY (gN L k)) (bX dirS (gN L k) t) (bY dirS (gN L k) t)).y)].map A.val) (ltN rfl) qC30_ti_53 rfl (by decide) rfl)) ?_
         refine w2 (step_on (dj := 149) rfl rfl (acts_call1 (d := 152) (ltN rfl) (spec_HasCell_fn l (sdB (cX (gN L k)) (cY (gN L k)) (bX dirS (gN L k) t) (bY dirS (gN L k) t)) (by omega)) (ArgVs.cons (ArgV.regv 150 l.length 1 (isl l)) (ArgVs.cons (ArgV.va (vs := [(.int .i64 ((sdB (cX (gN L k)) (cY (gN L k)) (bX dirS (gN L k) t) (bY dirS (gN L k) t)).x) : Value), .int .i64 ((sdB (cX (gN L k)) (cY (gN L k)) (bX dirS (gN L k) t) (bY dirS (gN L k) t)).y)]) (OpV.agg 151 [(.int .i64 ((sdB (cX (gN L k)) (cY (gN L k)) (bX dirS (gN L k) t) (bY dirS (gN L k) t)).x) : Value), .int .i64 ((sdB (cX (gN L k)) (cY (gN L k)) (bX dirS (gN L k) t) (bY dirS (gN L k) t)).y)])) (ArgVs.nil))) (ResV.val _))) ?_
         refine w2 (step_on (dj := 149) rfl rfl (acts_un (d := 153) (ltN rfl) (OpV.tmp 152 (.bool (hasC l (sdB (cX (gN L k)) (cY (gN L k)) (bX dirS (gN L k) t) (bY dirS (gN L k) t))))) (r_not (c := (!(hasC l (sdB (cX (gN L k)) (cY (gN L k)) (bX dirS (gN L k) t) (bY dirS (gN L k) t))))) rfl))) ?_
         refine w1 (acts_pick_t (d := 154) (ltN rfl) (OpV.tmp 149 (.bool true)) (OpX.tmp 153 (V.v (.bool (!(hasC l (sdB (cX (gN L k)) (cY (gN L k)) (bX dirS (gN L k) t) (bY dirS (gN L k) t)))))))) ?_
         refine wpl_nil ?_
         exact ⟨rfl, weak_reads ⟨(by simp only [c31]; first | done | kernel_rfl), (by repeat (first | exact trivial | refine ⟨by kernel_rfl, ?_⟩))⟩⟩
       refine wp_if (t := 154) (((!(hasC l (sdA (cX (gN L k)) (cY (gN L k)) (bX dirS (gN L k) t) (bY dirS (gN L k) t)))) && (!(hasC l (sdB (cX (gN L k)) (cY (gN L k)) (bX dirS (gN L k) t) (bY dirS (gN L k) t)))))) (by kernel_rfl) (fun c32 => ?_) (fun c32 => ?_)
       ·skip
        obtain ⟨c33, c34⟩ := and_tt c32
        have c35 : (hasC l (sdA (cX (gN L k)) (cY (gN L k)) (bX dirS (gN L k) t) (bY dirS (gN L k) t))) = false := by first | simpa using c33 | (rw [← Bool.not_eq_true']; exact c33)
        have hSp : hasS (regSet l) (sdA (cX (gN L k)) (cY (gN L k)) (bX dirS (gN L k) t) (bY dirS (gN L k) t)) = false := (hasC_hs hro _).symm.trans c35
        have c36 : (hasC l (sdB (cX (gN L k)) (cY (gN L k)) (bX dirS (gN L k) t) (bY dirS (gN L k) t))) = false := by first | simpa using c34 | (rw [← Bool.not_eq_true']; exact c34)
        have hSq : hasS (regSet l) (sdB (cX (gN L k)) (cY (gN L k)) (bX dirS (gN L k) t) (bY dirS (gN L k) t)) = false := (hasC_hs hro _).symm.trans c36
        refine wp_exit' ?_
        refine wp_region_t ?_
        refine w1 (mv 105 15 (V.v (.int .i64 ((t : Nat) : Int)))) ?_
        refine w1 (bn 106 (OpV.tmp 105 (.int .i64 ((t : Nat) : Int))) (OpV.const (.int .i64 1)) (r_add (c := (((t : Nat) : Int) + 1)) (w64 (by omega) (by omega)))) ?_
        refine w1 (asg 15 106 (V.v (.int .i64 (((t : Nat) : Int) + 1)))) ?_
        refine wpl_nil ?_
        exact loop_back ((t + 1), M) (by exact ⟨by omega, hM.skip (.inr (.inr (hop.trans (side_f (.inl ⟨hSp, hSq⟩)))))⟩) (by show 4 - (t + 1) < 4 - t; omega) (weak_of id [19, 20, 21, 24, 29, 34, 37, 47, 48, 78, 87, 108, 114, 123, 142, 147, 152, 158, 165, 190, 191] (by kernel_rfl) (wk_s (v' := V.b (.a (.slv ds.length 3 (dsl ds)))) (by kernel_rfl) rfl rfl (wk_s (v' := V.p 2 0) (by kernel_rfl) rfl rfl (wk_s (v' := V.v (.int .i64 9)) (by kernel_rfl) rfl rfl (wk_s (v' := V.b (.a (.sl 38 0 ((hsL l ds M).length)))) (by kernel_rfl) rfl rfl (wk_s (v' := V.b (.a (.sl 84 0 ((nI M).length)))) (by kernel_rfl) rfl rfl (wk_s (v' := V.v (.int .i64 ((k : Nat) : Int))) (by kernel_rfl) rfl rfl (wk_s (v' := V.v (.int .i64 (cX (gN L k)))) (by kernel_rfl) rfl rfl (wk_s (v' := V.v (.int .i64 (cY (gN L k)))) (by kernel_rfl) rfl rfl (wk_s (v' := V.v (.int .i64 (((t : Nat) : Int) + 1))) (by kernel_rfl) (vint (by rfl)) rfl (wk_o (o' := ⟨29, 1, true, [(.slv l.length 1 (isl l) : A)]⟩) (by kernel_rfl) (renob_l (fun h => h) rfl rfl) rfl (wk_o (o' := ⟨3, 1, true, pl (isl (hsL l ds M))⟩) (by kernel_rfl) (renob_pl (fun h => h)) rfl (wk_o (o' := ⟨3, 1, true, pl (isl (nI M))⟩) (by kernel_rfl) (renob_pl (fun h => h)) rfl (wk_f rfl (wk_f rfl (wk_f rfl (wk_f rfl (wk_f rfl (wk_f rfl (wk_f rfl (wk_f rfl (wk_f rfl (wk_f rfl (wk_f rfl (wk_f rfl (wk_f rfl (wk_f rfl (wk_f rfl (wk_f rfl (wk_f rfl (wk_f rfl (wk_f rfl (wk_f rfl (wk_f rfl (wk_nil)))))))))))))))))))))))))))))))))))
       ·skip
        have c37 := and_ff c32
        have hor := hasC_or hro c37
        refine wp_skip' ?_
        refine wp_seq' ?_
        refine wp_region_t ?_
        refine w1 (acts_load_owns (d := 156) (t := 19) (h := 19) (off := 0) (o := ⟨53, 2, true, [(.val (.int .i64 ((sdA (cX (gN L k)) (cY (gN L k)) (bX dirS (gN L k) t) (bY dirS (gN L k) t)).x)) : A), .val (.int .i64 ((sdA (cX (gN L k)) (cY (gN L k)) (bX dirS (gN L k) t) (bY dirS (gN L k) t)).y))]⟩)  (xs := [(.int .i64 ((sdA (cX (gN L k)) (cY (gN L k)) (bX dirS (gN L k) t) (bY dirS (gN L k) t)).x) : Value), .int .i64 ((sdA (cX (gN L k)) (cY (gN L k)) (bX dirS (gN L k) t) (bY dirS (gN L k) t)).y)].map A.val) (ltN rfl) qC30_ti_53 rfl (by decide) rfl) ?_
        refine w1 (acts_load_owns (d := 157) (t := 20) (h := 20) (off := 0) (o := ⟨53, 2, true, [(.val (.int .i64 ((sdB (cX (gN L k)) (cY (gN L k)) (bX dirS (gN L k) t) (bY dirS (gN L k) t)).x)) : A), .val (.int .i64 ((sdB (cX (gN L k)) (cY (gN L k)) (bX dirS (gN L k) t) (bY dirS (gN L k) t)).y))]⟩)  (xs := [(.int .i64 ((sdB (cX (gN L k)) (cY (gN L k)) (bX dirS (gN L k) t) (bY dirS (gN L k) t)).x) : Value), .int .i64 ((sdB (cX (gN L k)) (cY (gN L k)) (bX dirS (gN L k) t) (bY dirS (gN L k) t)).y)].map A.val) (ltN rfl) qC30_ti_53 rfl (by decide) rfl) ?_
        refine w1 (acts_call2 (d := 158) (ltN rfl) (spec_DominoOver_fn (sdA (cX (gN L k)) (cY (gN L k)) (bX dirS (gN L k) t) (bY dirS (gN L k) t)) (sdB (cX (gN L k)) (cY (gN L k)) (bX dirS (gN L k) t) (bY dirS (gN L k) t)) ) (ArgVs.cons (ArgV.va (vs := [(.int .i64 ((sdA (cX (gN L k)) (cY (gN L k)) (bX dirS (gN L k) t) (bY dirS (gN L k) t)).x) : Value), .int .i64 ((sdA (cX (gN L k)) (cY (gN L k)) (bX dirS (gN L k) t) (bY dirS (gN L k) t)).y)]) (OpV.agg 156 [(.int .i64 ((sdA (cX (gN L k)) (cY (gN L k)) (bX dirS (gN L k) t) (bY dirS (gN L k) t)).x) : Value), .int .i64 ((sdA (cX (gN L k)) (cY (gN L k)) (bX dirS (gN L k) t) (bY dirS (gN L k) t)).y)])) (ArgVs.cons (ArgV.va (vs := [(.int .i64 ((sdB (cX (gN L k)) (cY (gN L k)) (bX dirS (gN L k) t) (bY dirS (gN L k) t)).x) : Value), .int .i64 ((sdB (cX (gN L k)) (cY (gN L k)) (bX dirS (gN L k) t) (bY dirS (gN L k) t)).y)]) (OpV.agg 157 [(.int .i64 ((sdB (cX (gN L k)) (cY (gN L k)) (bX dirS (gN L k) t) (bY dirS (gN L k) t)).x) : Value), .int .i64 ((sdB (cX (gN L k)) (cY (gN L k)) (bX dirS (gN L k) t) (bY dirS (gN L k) t)).y)])) (ArgVs.nil))) (ResV.agg [(.int .i64 ((dOv (sdA (cX (gN L k)) (cY (gN L k)) (bX dirS (gN L k) t) (bY dirS (gN L k) t)) (sdB (cX (gN L k)) (cY (gN L k)) (bX dirS (gN L k) t) (bY dirS (gN L k) t))).x) : Value), .int .i64 ((dOv (sdA (cX (gN L k)) (cY (gN L k)) (bX dirS (gN L k) t) (bY dirS (gN L k) t)) (sdB (cX (gN L k)) (cY (gN L k)) (bX dirS (gN L k) t) (bY dirS (gN L k) t))).y), .bool ((dOv (sdA (cX (gN L k)) (cY (gN L k)) (bX dirS (gN L k) t) (bY dirS (gN L k) t)) (sdB (cX (gN L k)) (cY (gN L k)) (bX dirS (gN L k) t) (bY dirS (gN L k) t))).d)]) (ResV.val _)) ?_
        refine w1 (mv 155 158 (V.tup [.agg ([(.int .i64 ((dOv (sdA (cX (gN L k)) (cY (gN L k)) (bX dirS (gN L k) t) (bY dirS (gN L k) t)) (sdB (cX (gN L k)) (cY (gN L k)) (bX dirS (gN L k) t) (bY dirS (gN L k) t))).x) : Value), .int .i64 ((dOv (sdA (cX (gN L k)) (cY (gN L k)) (bX dirS (gN L k) t) (bY dirS (gN L k) t)) (sdB (cX (gN L k)) (cY (gN L k)) (bX dirS (gN L k) t) (bY dirS (gN L k) t))).y), .bool ((dOv (sdA (cX (gN L k)) (cY (gN L k)) (bX dirS (gN L k) t) (bY dirS (gN L k) t)) (sdB (cX (gN L k)) (cY (gN L k)) (bX dirS (gN L k) t) (bY dirS (gN L k) t))).d)].map A.val), .a (.val (.bool (nbr (sdA (cX (gN L k)) (cY (gN L k)) (bX dirS (gN L k) t) (bY dirS (gN L k) t)) (sdB (cX (gN L k)) (cY (gN L k)) (bX dirS (gN L k) t) (bY dirS (gN L k) t)))))])) ?_
        refine w1 (acts_extract (d := 159) (t := 155) (ix := 0) (xs := [.agg ([(.int .i64 ((dOv (sdA (cX (gN L k)) (cY (gN L k)) (bX dirS (gN L k) t) (bY dirS (gN L k) t)) (sdB (cX (gN L k)) (cY (gN L k)) (bX dirS (gN L k) t) (bY dirS (gN L k) t))).x) : Value), .int .i64 ((dOv (sdA (cX (gN L k)) (cY (gN L k)) (bX dirS (gN L k) t) (bY dirS (gN L k) t)) (sdB (cX (gN L k)) (cY (gN L k)) (bX dirS (gN L k) t) (bY dirS (gN L k) t))).y), .bool ((dOv (sdA (cX (gN L k)) (cY (gN L k)) (bX dirS (gN L k) t) (bY dirS (gN L k) t)) (sdB (cX (gN L k)) (cY (gN L k)) (bX dirS (gN L k) t) (bY dirS (gN L k) t))).d)].map A.val), .a (.val (.bool (nbr (sdA (cX (gN L k)) (cY (gN L k)) (bX dirS (gN L k) t) (bY dirS (gN L k) t)) (sdB (cX (gN L k)) (cY (gN L k)) (bX dirS (gN L k) t) (bY dirS (gN L k) t)))))]) (X := .agg ([(.int .i64 ((dOv (sdA (cX (gN L k)) (cY (gN L k)) (bX dirS (gN L k) t) (bY dirS (gN L k) t)) (sdB (cX (gN L k)) (cY (gN L k)) (bX dirS (gN L k) t) (bY dirS (gN L k) t))).x) : Value), .int .i64 ((dOv (sdA (cX (gN L k)) (cY (gN L k)) (bX dirS (gN L k) t) (bY dirS (gN L k) t)) (sdB (cX (gN L k)) (cY (gN L k)) (bX dirS (gN L k) t) (bY dirS (gN L k) t))).y), .bool ((dOv (sdA (cX (gN L k)) (cY (gN L k)) (bX dirS (gN L k) t) (bY dirS (gN L k) t)) (sdB (cX (gN L k)) (cY (gN L k)) (bX dirS (gN L k) t) (bY dirS (gN L k) t))).d)].map A.val)) (ltN rfl) rfl) ?_
        refine w1 (acts_extract (d := 160) (t := 155) (ix := 1) (xs := [.agg ([(.int .i64 ((dOv (sdA (cX (gN L k)) (cY (gN L k)) (bX dirS (gN L k) t) (bY dirS (gN L k) t)) (sdB (cX (gN L k)) (cY (gN L k)) (bX dirS (gN L k) t) (bY dirS (gN L k) t))).x) : Value), .int .i64 ((dOv (sdA (cX (gN L k)) (cY (gN L k)) (bX dirS (gN L k) t) (bY dirS (gN L k) t)) (sdB (cX (gN L k)) (cY (gN L k)) (bX dirS (gN L k) t) (bY dirS (gN L k) t))).y), .bool ((dOv (sdA (cX (gN L k)) (cY (gN L k)) (bX dirS (gN L k) t) (bY dirS (gN L k) t)) (sdB (cX (gN L k)) (cY (gN L k)) (bX dirS (gN L k) t) (bY dirS (gN L k) t))).d)].map A.val), .a (.val (.bool (nbr (sdA (cX (gN L k)) (cY (gN L k)) (bX dirS (gN L k) t) (bY dirS (gN L k) t)) (sdB (cX (gN L k)) (cY (gN L k)) (bX dirS (gN L k) t) (bY dirS (gN L k) t)))))]) (X := .a (.val (.bool (nbr (sdA (cX (gN L k)) (cY (gN L k)) (bX dirS (gN L k) t) (bY dirS (gN L k) t)) (sdB (cX (gN L k)) (cY (gN L k)) (bX dirS (gN L k) t) (bY dirS (gN L k) t)))))) (ltN rfl) rfl) ?_
        refine w1 (acts_alloc' (d := 21) (h := 21) (cap := 1) (s := 3) (cells := [(.val (.int .i64 0) : A), .val (.int .i64 0), .val (.bool false)]) (ltN rfl) qC30_zi_58 rfl rfl (by decide)) ?_
        refine w1 (acts_store (t := 21) (h := 21) (off := 0) (o := ⟨58, 3, true, [(.val (.int .i64 0) : A), .val (.int .i64 0), .val (.bool false)]⟩) (b := .agg ([(.int .i64 ((dOv (sdA (cX (gN L k)) (cY (gN L k)) (bX dirS (gN L k) t) (bY dirS (gN L k) t)) (sdB (cX (gN L k)) (cY (gN L k)) (bX dirS (gN L k) t) (bY dirS (gN L k) t))).x) : Value), .int .i64 ((dOv (sdA (cX (gN L k)) (cY (gN L k)) (bX dirS (gN L k) t) (bY dirS (gN L k) t)) (sdB (cX (gN L k)) (cY (gN L k)) (bX dirS (gN L k) t) (bY dirS (gN L k) t))).y), .bool ((dOv (sdA (cX (gN L k)) (cY (gN L k)) (bX dirS (gN L k) t) (bY dirS (gN L k) t)) (sdB (cX (gN L k)) (cY (gN L k)) (bX dirS (gN L k) t) (bY dirS (gN L k) t))).d)].map A.val)) (cells := [(.val (.int .i64 ((dOv (sdA (cX (gN L k)) (cY (gN L k)) (bX dirS (gN L k) t) (bY dirS (gN L k) t)) (sdB (cX (gN L k)) (cY (gN L k)) (bX dirS (gN L k) t) (bY dirS (gN L k) t))).x)) : A), .val (.int .i64 ((dOv (sdA (cX (gN L k)) (cY (gN L k)) (bX dirS (gN L k) t) (bY dirS (gN L k) t)) (sdB (cX (gN L k)) (cY (gN L k)) (bX dirS (gN L k) t) (bY dirS (gN L k) t))).y)), .val (.bool ((dOv (sdA (cX (gN L k)) (cY (gN L k)) (bX dirS (gN L k) t) (bY dirS (gN L k) t)) (sdB (cX (gN L k)) (cY (gN L k)) (bX dirS (gN L k) t) (bY dirS (gN L k) t))).d))]) qC30_ti_58 (OpX.tmp 159 (V.av [(.int .i64 ((dOv (sdA (cX (gN L k)) (cY (gN L k)) (bX dirS (gN L k) t) (bY dirS (gN L k) t)) (sdB (cX (gN L k)) (cY (gN L k)) (bX dirS (gN L k) t) (bY dirS (gN L k) t))).x) : Value), .int .i64 ((dOv (sdA (cX (gN L k)) (cY (gN L k)) (bX dirS (gN L k) t) (bY dirS (gN L k) t)) (sdB (cX (gN L k)) (cY (gN L k)) (bX dirS (gN L k) t) (bY dirS (gN L k) t))).y), .bool ((dOv (sdA (cX (gN L k)) (cY (gN L k)) (bX dirS (gN L k) t) (bY dirS (gN L k) t)) (sdB (cX (gN L k)) (cY (gN L k)) (bX dirS (gN L k) t) (bY dirS (gN L k) t))).d)])) rfl (by decide) (by intro y hy; simp [B.cs] at hy; rcases hy with rfl | rfl | rfl <;> rfl) (Nat.le_of_ble_eq_true rfl) rfl) ?_
        refine w1 (asg 22 160 (V.v (.bool (nbr (sdA (cX (gN L k)) (cY (gN L k)) (bX dirS (gN L k) t) (bY dirS (gN L k) t)) (sdB (cX (gN L k)) (cY (gN L k)) (bX dirS (gN L k) t) (bY dirS (gN L k) t)))))) ?_
        refine wpl_nil ?_
        refine wp_seq' ?_
        refine wp_seq' ?_
        refine wp_join [(.s 167, some (.s (V.v (.bool ((nbr (sdA (cX (gN L k)) (cY (gN L k)) (bX dirS (gN L k) t) (bY dirS (gN L k) t)) (sdB (cX (gN L k)) (cY (gN L k)) (bX dirS (gN L k) t) (bY dirS (gN L k) t))) && (decide (0 ≤ (posM ds (dOv (sdA (cX (gN L k)) (cY (gN L k)) (bX dirS (gN L k) t) (bY dirS (gN L k) t)) (sdB (cX (gN L k)) (cY (gN L k)) (bX dirS (gN L k) t) (bY dirS (gN L k) t))))))))))), (.s 1, some (.s (V.b (.a (.slv ds.length 3 (dsl ds)))))), (.s 2, some (.s (V.p 2 0))), (.s 5, some (.s (V.v (.int .i64 9)))), (.s 6, some (.s (V.b (.a (.sl 38 0 ((hsL l ds M).length)))))), (.s 11, some (.s (V.b (.a (.sl 84 0 ((nI M).length)))))), (.s 12, some (.s (V.v (.int .i64 ((k : Nat) : Int))))), (.s 13, some (.s (V.v (.int .i64 (cX (gN L k)))))), (.s 14, some (.s (V.v (.int .i64 (cY (gN L k)))))), (.s 15, some (.s (V.v (.int .i64 ((t : Nat) : Int))))), (.s 16, some (.s (V.v (.int .i64 (bX dirS (gN L k) t))))), (.s 17, some (.s (V.v (.int .i64 (bY dirS (gN L k) t))))), (.s 18, some (.s (V.v (.int .i64 (estep (cX (gN L k)) (cY (gN L k)) (bX dirS (gN L k) t) (bY dirS (gN L k) t)))))), (.o 2, some (.o ⟨29, 1, true, [(.slv l.length 1 (isl l) : A)]⟩)), (.o 19, some (.o ⟨53, 2, true, [(.val (.int .i64 ((sdA (cX (gN L k)) (cY (gN L k)) (bX dirS (gN L k) t) (bY dirS (gN L k) t)).x)) : A), .val (.int .i64 ((sdA (cX (gN L k)) (cY (gN L k)) (bX dirS (gN L k) t) (bY dirS (gN L k) t)).y))]⟩)), (.o 20, some (.o ⟨53, 2, true, [(.val (.int .i64 ((sdB (cX (gN L k)) (cY (gN L k)) (bX dirS (gN L k) t) (bY dirS (gN L k) t)).x)) : A), .val (.int .i64 ((sdB (cX (gN L k)) (cY (gN L k)) (bX dirS (gN L k) t) (bY dirS (gN L k) t)).y))]⟩)), (.o 21, some (.o ⟨58, 3, true, [(.val (.int .i64 ((dOv (sdA (cX (gN L k)) (cY (gN L k)) (bX dirS (gN L k) t) (bY dirS (gN L k) t)) (sdB (cX (gN L k)) (cY (gN L k)) (bX dirS (gN L k) t) (bY dirS (gN L k) t))).x)) : A), .val (.int .i64 ((dOv (sdA (cX (gN L k)) (cY (gN L k)) (bX dirS (gN L k) t) (bY dirS (gN L k) t)) (sdB (cX (gN L k)) (cY (gN L k)) (bX dirS (gN L k) t) (bY dirS (gN L k) t))).y)), .val (.bool ((dOv (sdA (cX (gN L k)) (cY (gN L k)) (bX dirS (gN L k) t) (bY dirS (gN L k) t)) (sdB (cX (gN L k)) (cY (gN L k)) (bX dirS (gN L k) t) (bY dirS (gN L k) t))).d))]⟩)), (.o 38, some (.o ⟨3, 1, true, pl (isl (hsL l ds M))⟩)), (.o 84, some (.o ⟨3, 1, true, pl (isl (nI M))⟩)), (.o 108, some (.o ⟨3, 1, true, pl (isl [1, 0, (-1), 0])⟩)), (.o 114, some (.o ⟨3, 1, true, pl (isl [0, 1, 0, (-1)])⟩)), (.o 24, some .free), (.o 29, some .free), (.o 34, some .free), (.o 37, some .free), (.o 47, some .free), (.o 48, some .free), (.o 78, some .free), (.o 87, some .free), (.o 123, some .free), (.o 142, some .free), (.o 147, some .free), (.o 152, some .free), (.o 158, some .free), (.o 165, some .free), (.o 190, some .free), (.o 191, some .free)] ?_ ?_
        ·skip
         rcases Bool.eq_false_or_eq_true ((nbr (sdA (cX (gN L k)) (cY (gN L k)) (bX dirS (gN L k) t) (bY dirS (gN L k) t)) (sdB (cX (gN L k)) (cY (gN L k)) (bX dirS (gN L k) t) (bY dirS (gN L k) t)))) with c38 | c38
         ·skip
          rw [c38]
          refine wp_region_t ?_
          refine w1 (mv 161 22 (V.v (.bool true))) ?_
          refine w1 (mv 162 161 (V.v (.bool true))) ?_
          refine w2 (step_on (dj := 162) rfl rfl (mv 163 1 (V.b (.a (.slv ds.length 3 (dsl ds)))))) ?_
          refine w2 (step_on (dj := 162) rfl rfl (acts_load_owns (d := 164) (t := 21) (h := 21) (off := 0) (o := ⟨58, 3, true, [(.val (.int .i64 ((dOv (sdA (cX (gN L k)) (cY (gN L k)) (bX dirS (gN L k) t) (bY dirS (gN L k) t)) (sdB (cX (gN L k)) (cY (gN L k)) (bX dirS (gN L k) t) (bY dirS (gN L k) t))).x)) : A), .val (.int .i64 ((dOv (sdA (cX (gN L k)) (cY (gN L k)) (bX dirS (gN L k) t) (bY dirS (gN L k) t)) (sdB (cX (gN L k)) (cY (gN L k)) (bX dirS (gN L k) t) (bY dirS (gN L k) t))).y)), .val (.bool ((dOv (sdA (cX (gN L k)) (cY (gN L k)) (bX dirS (gN L k) t) (bY dirS (gN L k) t)) (sdB (cX (gN L k)) (cY (gN L k)) (bX dirS (gN L k) t) (bY dirS (gN L k) t))).d))]⟩)  (xs := [(.int .i64 ((dOv (sdA (cX (gN L k)) (cY (gN L k)) (bX dirS (gN L k) t) (bY dirS (gN L k) t)) (sdB (cX (gN L k)) (cY (gN L k)) (bX dirS (gN L k) t) (bY dirS (gN L k) t))).x) : Value), .int .i64 ((dOv (sdA (cX (gN L k)) (cY (gN L k)) (bX dirS (gN L k) t) (bY dirS (gN L k) t)) (sdB (cX (gN L k)) (cY (gN L k)) (bX dirS (gN L k) t) (bY dirS (gN L k) t))).y), .bool ((dOv (sdA (cX (gN L k)) (cY (gN L k)) (bX dirS (gN L k) t) (bY dirS (gN L k) t)) (sdB (cX (gN L k)) (cY (gN L k)) (bX dirS (gN L k) t) (bY dirS (gN L k) t))).d)].map A.val) (ltN rfl) qC30_ti_58 rfl (by decide) rfl)) ?_
          refine w2 (step_on (dj := 162) rfl rfl (acts_call1 (d := 165) (ltN rfl) (spec_l11Has_fn ds (dOv (sdA (cX (gN L k)) (cY (gN L k)) (bX dirS (gN L k) t) (bY dirS (gN L k) t)) (sdB (cX (gN L k)) (cY (gN L k)) (bX dirS (gN L k) t) (bY dirS (gN L k) t))) (by omega)) (ArgVs.cons (ArgV.slv 163 ds.length 3 (dsl ds)) (ArgVs.cons (ArgV.va (vs := [(.int .i64 ((dOv (sdA (cX (gN L k)) (cY (gN L k)) (bX dirS (gN L k) t) (bY dirS (gN L k) t)) (sdB (cX (gN L k)) (cY (gN L k)) (bX dirS (gN L k) t) (bY dirS (gN L k) t))).x) : Value), .int .i64 ((dOv (sdA (cX (gN L k)) (cY (gN L k)) (bX dirS (gN L k) t) (bY dirS (gN L k) t)) (sdB (cX (gN L k)) (cY (gN L k)) (bX dirS (gN L k) t) (bY dirS (gN L k) t))).y), .bool ((dOv (sdA (cX (gN L k)) (cY (gN L k)) (bX dirS (gN L k) t) (bY dirS (gN L k) t)) (sdB (cX (gN L k)) (cY (gN L k)) (bX dirS (gN L k) t) (bY dirS (gN L k) t))).d)]) (OpV.agg 164 [(.int .i64 ((dOv (sdA (cX (gN L k)) (cY (gN L k)) (bX dirS (gN L k) t) (bY dirS (gN L k) t)) (sdB (cX (gN L k)) (cY (gN L k)) (bX dirS (gN L k) t) (bY dirS (gN L k) t))).x) : Value), .int .i64 ((dOv (sdA (cX (gN L k)) (cY (gN L k)) (bX dirS (gN L k) t) (bY dirS (gN L k) t)) (sdB (cX (gN L k)) (cY (gN L k)) (bX dirS (gN L k) t) (bY dirS (gN L k) t))).y), .bool ((dOv (sdA (cX (gN L k)) (cY (gN L k)) (bX dirS (gN L k) t) (bY dirS (gN L k) t)) (sdB (cX (gN L k)) (cY (gN L k)) (bX dirS (gN L k) t) (bY dirS (gN L k) t))).d)])) (ArgVs.nil))) (ResV.val _))) ?_
          refine w2 (step_on (dj := 162) rfl rfl (bn 166 (OpV.tmp 165 (.int .i64 (posM ds (dOv (sdA (cX (gN L k)) (cY (gN L k)) (bX dirS (gN L k) t) (bY dirS (gN L k) t)) (sdB (cX (gN L k)) (cY (gN L k)) (bX dirS (gN L k) t) (bY dirS (gN L k) t)))))) (OpV.const (.int .i64 0)) (r_geq (c := (decide (0 ≤ (posM ds (dOv (sdA (cX (gN L k)) (cY (gN L k)) (bX dirS (gN L k) t) (bY dirS (gN L k) t)) (sdB (cX (gN L k)) (cY (gN L k)) (bX dirS (gN L k) t) (bY dirS (gN L k) t))))))) rfl))) ?_
          refine w1 (acts_pick_t (d := 167) (ltN rfl) (OpV.tmp 162 (.bool true)) (OpX.tmp 166 (V.v (.bool (decide (0 ≤ (posM ds (dOv (sdA (cX (gN L k)) (cY (gN L k)) (bX dirS (gN L k) t) (bY dirS (gN L k) t)) (sdB (cX (gN L k)) (cY (gN L k)) (bX dirS (gN L k) t) (bY dirS (gN L k) t)))))))))) ?_
          refine wpl_nil ?_
          exact ⟨rfl, weak_reads ⟨(by simp only [c38]; first | done | kernel_rfl), (by repeat (first | exact trivial | refine ⟨by kernel_rfl, ?_⟩))⟩⟩
         ·skip
          rw [c38]
          refine wp_region_t ?_
          refine w1 (mv 161 22 (V.v (.bool false))) ?_
          refine w1 (mv 162 161 (V.v (.bool false))) ?_
          refine w2 (step_off (dj := 162) (b' := false) rfl rfl (by decide) rfl (ltN rfl)) ?_
          refine w2 (step_off (dj := 162) (b' := false) rfl rfl (by decide) rfl (ltN rfl)) ?_
          refine w2 (step_off (dj := 162) (b' := false) rfl rfl (by decide) rfl (ltN rfl)) ?_
          refine w2 (step_off (dj := 162) (b' := false) rfl rfl (by decide) rfl (ltN rfl)) ?_
          refine w1 (acts_pick_f (d := 167) (ltN rfl) (OpV.tmp 162 (.bool false)) (OpX.const (.bool false))) ?_
          refine wpl_nil ?_
          exact ⟨rfl, weak_reads ⟨(by simp only [c38]; first | done | kernel_rfl), (by repeat (first | exact trivial | refine ⟨by kernel_rfl, ?_⟩))⟩⟩
        refine wp_if (t := 167) (((nbr (sdA (cX (gN L k)) (cY (gN L k)) (bX dirS (gN L k) t) (bY dirS (gN L k) t)) (sdB (cX (gN L k)) (cY (gN L k)) (bX dirS (gN L k) t) (bY dirS (gN L k) t))) && (decide (0 ≤ (posM ds (dOv (sdA (cX (gN L k)) (cY (gN L k)) (bX dirS (gN L k) t) (bY dirS (gN L k) t)) (sdB (cX (gN L k)) (cY (gN L k)) (bX dirS (gN L k) t) (bY dirS (gN L k) t)))))))) (by kernel_rfl) (fun c39 => ?_) (fun c39 => ?_)
        ·skip
         obtain ⟨c40, c41⟩ := and_tt c39
         have c41P := of_decide_eq_true c41
         have hpm : decide (dOv (sdA (cX (gN L k)) (cY (gN L k)) (bX dirS (gN L k) t) (bY dirS (gN L k) t)) (sdB (cX (gN L k)) (cY (gN L k)) (bX dirS (gN L k) t) (bY dirS (gN L k) t)) ∈ ds) = true := (posM_nn _ _).symm.trans c41
         refine wp_exit' ?_
         refine wp_region_t ?_
         refine w1 (mv 105 15 (V.v (.int .i64 ((t : Nat) : Int)))) ?_
         refine w1 (bn 106 (OpV.tmp 105 (.int .i64 ((t : Nat) : Int))) (OpV.const (.int .i64 1)) (r_add (c := (((t : Nat) : Int) + 1)) (w64 (by omega) (by omega)))) ?_
         refine w1 (asg 15 106 (V.v (.int .i64 (((t : Nat) : Int) + 1)))) ?_
         refine wpl_nil ?_
         exact loop_back ((t + 1), M) (by exact ⟨by omega, hM.skip (.inr (.inr (hop.trans (side_f (.inr ⟨by assumption, hpm⟩)))))⟩) (by show 4 - (t + 1) < 4 - t; omega) (weak_of id [19, 20, 21, 24, 29, 34, 37, 47, 48, 78, 87, 108, 114, 123, 142, 147, 152, 158, 165, 190, 191] (by kernel_rfl) (wk_s (v' := V.b (.a (.slv ds.length 3 (dsl ds)))) (by kernel_rfl) rfl rfl (wk_s (v' := V.p 2 0) (by kernel_rfl) rfl rfl (wk_s (v' := V.v (.int .i64 9)) (by kernel_rfl) rfl rfl (wk_s (v' := V.b (.a (.sl 38 0 ((hsL l ds M).length)))) (by kernel_rfl) rfl rfl (wk_s (v' := V.b (.a (.sl 84 0 ((nI M).length)))) (by kernel_rfl) rfl rfl (wk_s (v' := V.v (.int .i64 ((k : Nat) : Int))) (by kernel_rfl) rfl rfl (wk_s (v' := V.v (.int .i64 (cX (gN L k)))) (by kernel_rfl) rfl rfl (wk_s (v' := V.v (.int .i64 (cY (gN L k)))) (by kernel_rfl) rfl rfl (wk_s (v' := V.v (.int .i64 (((t : Nat) : Int) + 1))) (by kernel_rfl) (vint (by rfl)) rfl (wk_o (o' := ⟨29, 1, true, [(.slv l.length 1 (isl l) : A)]⟩) (by kernel_rfl) (renob_l (fun h => h) rfl rfl) rfl (wk_o (o' := ⟨3, 1, true, pl (isl (hsL l ds M))⟩) (by kernel_rfl) (renob_pl (fun h => h)) rfl (wk_o (o' := ⟨3, 1, true, pl (isl (nI M))⟩) (by kernel_rfl) (renob_pl (fun h => h)) rfl (wk_f rfl (wk_f rfl (wk_f rfl (wk_f rfl (wk_f rfl (wk_f rfl (wk_f rfl (wk_f rfl (wk_f rfl (wk_f rfl (wk_f rfl (wk_f rfl (wk_f rfl (wk_f rfl (wk_f rfl (wk_f rfl (wk_f rfl (wk_f rfl (wk_f rfl (wk_f rfl (wk_f rfl (wk_nil)))))))))))))))))))))))))))))))))))
        ·skip
         have c42 := and_ff c39
         have hslw := hsL_len l ds (M ++ [(atU (gN L k) (dirS t))])
         have hgo := hM.go hti hsi huL hin hmem (hop.trans (side_t hor (posM_or c42)))
         refine wp_skip' ?_
         refine wp_seq' ?_
         refine wp_region_t ?_
         refine w1 (mv 168 6 (V.b (.a (.sl 38 0 ((hsL l ds M).length))))) ?_
         refine w1 (mv 169 17 (V.v (.int .i64 (bY dirS (gN L k) t)))) ?_
         refine w1 (mv 170 5 (V.v (.int .i64 9))) ?_
         refine w1 (bn 171 (OpV.tmp 169 (.int .i64 (bY dirS (gN L k) t))) (OpV.tmp 170 (.int .i64 9)) (r_mul (c := ((bY dirS (gN L k) t) * 9)) (w64 (by omega) (by omega)))) ?_
         refine w1 (mv 172 16 (V.v (.int .i64 (bX dirS (gN L k) t)))) ?_
         refine w1 (bn 173 (OpV.tmp 171 (.int .i64 ((bY dirS (gN L k) t) * 9))) (OpV.tmp 172 (.int .i64 (bX dirS (gN L k) t))) (r_add (c := (((bY dirS (gN L k) t) * 9) + (bX dirS (gN L k) t))) (w64 (by omega) (by omega)))) ?_
         refine w1 (mv 174 6 (V.b (.a (.sl 38 0 ((hsL l ds M).length))))) ?_
         refine w1 (mv 175 11 (V.b (.a (.sl 84 0 ((nI M).length))))) ?_
         refine w1 (mv 176 12 (V.v (.int .i64 ((k : Nat) : Int)))) ?_
         refine w1 (acts_index_sl (d := 177) (x := 175) (h := 84) (off := 0) (n := ((nI M).length)) (k := k) (off' := (k * 1)) (o := ⟨3, 1, true, pl (isl (nI M))⟩) (ltN rfl) qC30_un_22 qC30_sz_3 (OpV.tmp 176 (.int .i64 ((k : Nat) : Int))) rfl (by omega) (by (simp; done))) ?_
         refine w1 (acts_load_own (d := 178) (t := 177) (h := 84) (off := (k * 1)) (o := ⟨3, 1, true, pl (isl (nI M))⟩)  (x := .val (.int .i64 (gI (nI M) k))) (ltN rfl) qC30_ti_3 (pl_get (isl_get1 (k := k) (by omega)))) ?_
         refine w1 (acts_index_sl (d := 179) (x := 174) (h := 38) (off := 0) (n := ((hsL l ds M).length)) (k := ((gI (nI M) k).toNat)) (off' := (((gI (nI M) k).toNat) * 1)) (o := ⟨3, 1, true, pl (isl (hsL l ds M))⟩) (ltN rfl) qC30_un_22 qC30_sz_3 (OpV.tmp 178 (.int .i64 (gI (nI M) k))) (Int.toNat_of_nonneg (by omega)).symm (by omega) (by (simp; done))) ?_
         refine w1 (acts_load_own (d := 180) (t := 179) (h := 38) (off := (((gI (nI M) k).toNat) * 1)) (o := ⟨3, 1, true, pl (isl (hsL l ds M))⟩)  (x := .val (.int .i64 (gI (hsL l ds M) ((gI (nI M) k).toNat)))) (ltN rfl) qC30_ti_3 (pl_get (isl_get1 (k := ((gI (nI M) k).toNat)) (by omega)))) ?_
         refine w1 (mv 181 18 (V.v (.int .i64 (estep (cX (gN L k)) (cY (gN L k)) (bX dirS (gN L k) t) (bY dirS (gN L k) t))))) ?_
         refine w1 (bn 182 (OpV.tmp 180 (.int .i64 (gI (hsL l ds M) ((gI (nI M) k).toNat)))) (OpV.tmp 181 (.int .i64 (estep (cX (gN L k)) (cY (gN L k)) (bX dirS (gN L k) t) (bY dirS (gN L k) t)))) (r_add (c := ((gI (hsL l ds M) ((gI (nI M) k).toNat)) + (estep (cX (gN L k)) (cY (gN L k)) (bX dirS (gN L k) t) (bY dirS (gN L k) t)))) (w64 (by (rw [hownN]; omega)) (by (rw [hownN]; omega))))) ?_
         refine w1 (acts_index_sl (d := 183) (x := 168) (h := 38) (off := 0) (n := ((hsL l ds M).length)) (k := ((((bY dirS (gN L k) t) * 9) + (bX dirS (gN L k) t)).toNat)) (off' := (((((bY dirS (gN L k) t) * 9) + (bX dirS (gN L k) t)).toNat) * 1)) (o := ⟨3, 1, true, pl (isl (hsL l ds M))⟩) (ltN rfl) qC30_un_22 qC30_sz_3 (OpV.tmp 173 (.int .i64 (((bY dirS (gN L k) t) * 9) + (bX dirS (gN L k) t)))) (Int.toNat_of_nonneg (by omega)).symm (by omega) (by (simp; done))) ?_
         refine w1 (acts_store (t := 183) (h := 38) (off := (((((bY dirS (gN L k) t) * 9) + (bX dirS (gN L k) t)).toNat) * 1)) (o := ⟨3, 1, true, pl (isl (hsL l ds M))⟩) (b := .a (.val (.int .i64 ((gI (hsL l ds M) ((gI (nI M) k).toNat)) + (estep (cX (gN L k)) (cY (gN L k)) (bX dirS (gN L k) t) (bY dirS (gN L k) t)))))) (cells := pl (isl ((hsL l ds M).set ((((bY dirS (gN L k) t) * 9) + (bX dirS (gN L k) t)).toNat) ((gI (hsL l ds M) ((gI (nI M) k).toNat)) + (estep (cX (gN L k)) (cY (gN L k)) (bX dirS (gN L k) t) (bY dirS (gN L k) t)))))) qC30_ti_3 (OpX.tmp 182 (V.v (.int .i64 ((gI (hsL l ds M) ((gI (nI M) k).toNat)) + (estep (cX (gN L k)) (cY (gN L k)) (bX dirS (gN L k) t) (bY dirS (gN L k) t)))))) rfl (by decide) (by intro y hy; simp [B.cs] at hy; subst hy; rfl) (by simp only [pl_len, isl_len]; first | omega | assumption | exact regSet_lt (by assumption) | (rw [hownN]; omega) | (rw [hsL_len]; omega) | (simp only [List.length_cons, List.length_nil]; omega) | (rw [List.length_replicate]; omega)) (isl_put (k := ((((bY dirS (gN L k) t) * 9) + (bX dirS (gN L k) t)).toNat)) (by omega))) ?_
         refine wpl_nil ?_
         refine wp_region_t ?_
         refine w1 (mv 184 11 (V.b (.a (.sl 84 0 ((nI M).length))))) ?_
         refine w1 (mv 185 17 (V.v (.int .i64 (bY dirS (gN L k) t)))) ?_
         refine w1 (mv 186 5 (V.v (.int .i64 9))) ?_
         refine w1 (bn 187 (OpV.tmp 185 (.int .i64 (bY dirS (gN L k) t))) (OpV.tmp 186 (.int .i64 9)) (r_mul (c := ((bY dirS (gN L k) t) * 9)) (w64 (by omega) (by omega)))) ?_
         refine w1 (mv 188 16 (V.v (.int .i64 (bX dirS (gN L k) t)))) ?_
         refine w1 (bn 189 (OpV.tmp 187 (.int .i64 ((bY dirS (gN L k) t) * 9))) (OpV.tmp 188 (.int .i64 (bX dirS (gN L k) t))) (r_add (c := (((bY dirS (gN L k) t) * 9) + (bX dirS (gN L k) t))) (w64 (by omega) (by omega)))) ?_
         refine w1 (acts_buildSlice' (d := 190) (h := 190) (n := 1) (s := 1) (xs := isl ([(((bY dirS (gN L k) t) * 9) + (bX dirS (gN L k) t))] : List Int)) (ltN rfl) qC30_un_22 qC30_zi_3 (OpVs.cons (i := 0) (OpV.tmp 189 (.int .i64 (((bY dirS (gN L k) t) * 9) + (bX dirS (gN L k) t)))) (OpVs.nil)) (by decide) (by decide) (by kernel_rfl) rfl) ?_
         refine w1 (acts_app (d := 191) (x := 184) (h := 84) (h2 := 191) (n := ((nI M).length)) (m := 1) (nm := (((nI M) ++ [(((bY dirS (gN L k) t) * 9) + (bX dirS (gN L k) t))]).length)) (X := .sl 190 0 1) (xs := isl (nI M)) (ys := isl [(((bY dirS (gN L k) t) * 9) + (bX dirS (gN L k) t))]) (zs := isl ((nI M) ++ [(((bY dirS (gN L k) t) * 9) + (bX dirS (gN L k) t))])) (ltN rfl) qC30_un_22 qC30_zi_3 rfl (by decide) (by decide) (by exact isl_len _) (OpX.tmp 190 (V.b (.a (.sl 190 0 1)))) (src_own (h := 190) (T := 3) (s := 1) (ex := true) (n := 1) (by exact isl_len _)) (isl_one' _) (by omega) (by exact (isl_append _ _).symm) (by (simp; done))) ?_
         refine w1 (asg 11 191 (V.b (.a (.sl 191 0 (((nI M) ++ [(((bY dirS (gN L k) t) * 9) + (bX dirS (gN L k) t))]).length))))) ?_
         refine wpl_nil ?_
         refine wp_region_t ?_
         refine w1 (mv 105 15 (V.v (.int .i64 ((t : Nat) : Int)))) ?_
         refine w1 (bn 106 (OpV.tmp 105 (.int .i64 ((t : Nat) : Int))) (OpV.const (.int .i64 1)) (r_add (c := (((t : Nat) : Int) + 1)) (w64 (by omega) (by omega)))) ?_
         refine w1 (asg 15 106 (V.v (.int .i64 (((t : Nat) : Int) + 1)))) ?_
         refine wpl_nil ?_
         exact loop_back ((t + 1), (M ++ [(atU (gN L k) (dirS t))])) (by exact ⟨by omega, hgo.1⟩) (by show 4 - (t + 1) < 4 - t; omega) (weak_of (subst1 [(84, 191)]) [19, 20, 21, 24, 29, 34, 37, 47, 48, 78, 87, 108, 114, 123, 142, 147, 152, 158, 165, 190, 191] (by kernel_rfl) (wk_s (v' := V.b (.a (.slv ds.length 3 (dsl ds)))) (by kernel_rfl) rfl rfl (wk_s (v' := V.p 2 0) (by kernel_rfl) rfl rfl (wk_s (v' := V.v (.int .i64 9)) (by kernel_rfl) rfl rfl (wk_s (v' := V.b (.a (.sl 38 0 ((hsL l ds M).length)))) (by kernel_rfl) (vsl (by rfl) rfl) rfl (wk_s (v' := V.b (.a (.sl 191 0 (((nI M) ++ [(((bY dirS (gN L k) t) * 9) + (bX dirS (gN L k) t))]).length)))) (by kernel_rfl) (vsl (by (exact congrArg List.length (by first | rfl | omega | (rw [hst, hownN]; exact hgo.2) | (rw [← nI_app, ← hxw]; done) | (rw [← nI_app, ← hxw]; rfl) | (simp; done) | (simp [nI_len]; done) | (simp; omega)))) rfl) rfl (wk_s (v' := V.v (.int .i64 ((k : Nat) : Int))) (by kernel_rfl) rfl rfl (wk_s (v' := V.v (.int .i64 (cX (gN L k)))) (by kernel_rfl) rfl rfl (wk_s (v' := V.v (.int .i64 (cY (gN L k)))) (by kernel_rfl) rfl rfl (wk_s (v' := V.v (.int .i64 (((t : Nat) : Int) + 1))) (by kernel_rfl) (vint (by rfl)) rfl (wk_o (o' := ⟨29, 1, true, [(.slv l.length 1 (isl l) : A)]⟩) (by kernel_rfl) (renob_l (fun h => h) rfl rfl) rfl (wk_o (o' := ⟨3, 1, true, pl (isl ((hsL l ds M).set ((((bY dirS (gN L k) t) * 9) + (bX dirS (gN L k) t)).toNat) ((gI (hsL l ds M) ((gI (nI M) k).toNat)) + (estep (cX (gN L k)) (cY (gN L k)) (bX dirS (gN L k) t) (bY dirS (gN L k) t)))))⟩) (by kernel_rfl) (renob_eq (fun h => h) (congrArg isl (by (rw [hst, hownN]; exact hgo.2)))) rfl (wk_o (o' := ⟨3, 1, true, pl (isl ((nI M) ++ [(((bY dirS (gN L k) t) * 9) + (bX dirS (gN L k) t))]))⟩) (by kernel_rfl) (renob_eq (fun h => h) (congrArg isl (by (rw [← nI_app, ← hxw]; done)))) rfl (wk_f rfl (wk_f rfl (wk_f rfl (wk_f rfl (wk_f rfl (wk_f rfl (wk_f rfl (wk_f rfl (wk_f rfl (wk_f rfl (wk_f rfl (wk_f rfl (wk_f rfl (wk_f rfl (wk_f rfl (wk_f rfl (wk_f rfl (wk_f rfl (wk_f rfl (wk_f rfl (wk_f rfl (wk_nil)))))))))))))))))))))))))))))))))))
     ·skip
      have c25P := of_decide_eq_false c25
      refine wp_exit' ?_
      refine wp_region_t ?_
      refine w1 (mv 89 12 (V.v (.int .i64 ((k : Nat) : Int)))) ?_
      refine w1 (bn 90 (OpV.tmp 89 (.int .i64 ((k : Nat) : Int))) (OpV.const (.int .i64 1)) (r_add (c := (((k : Nat) : Int) + 1)) (w64 (by omega) (by omega)))) ?_
      refine w1 (asg 12 90 (V.v (.int .i64 (((k : Nat) : Int) + 1)))) ?_
      refine wpl_nil ?_
      exact loop_back ((k + 1), M) (by exact hM.fin hH hk2 (by omega)) (by show 81 - (k + 1) < 81 - k; omega) (weak_of id [19, 20, 21, 24, 29, 34, 37, 47, 48, 78, 87, 108, 114, 123, 142, 147, 152, 158, 165, 190, 191] (by kernel_rfl) (wk_s (v' := V.b (.a (.slv ds.length 3 (dsl ds)))) (by kernel_rfl) rfl rfl (wk_s (v' := V.p 2 0) (by kernel_rfl) rfl rfl (wk_s (v' := V.v (.int .i64 9)) (by kernel_rfl) rfl rfl (wk_s (v' := V.b (.a (.sl 38 0 ((hsL l ds M).length)))) (by kernel_rfl) rfl rfl (wk_s (v' := V.b (.a (.sl 84 0 ((nI M).length)))) (by kernel_rfl) rfl rfl (wk_s (v' := V.v (.int .i64 (((k : Nat) : Int) + 1))) (by kernel_rfl) (vint (by rfl)) rfl (wk_o (o' := ⟨29, 1, true, [(.slv l.length 1 (isl l) : A)]⟩) (by kernel_rfl) (renob_l (fun h => h) rfl rfl) rfl (wk_o (o' := ⟨3, 1, true, pl (isl (hsL l ds M))⟩) (by kernel_rfl) (renob_pl (fun h => h)) rfl (wk_o (o' := ⟨3, 1, true, pl (isl (nI M))⟩) (by kernel_rfl) (renob_pl (fun h => h)) rfl (wk_f rfl (wk_f rfl (wk_f rfl (wk_f rfl (wk_f rfl (wk_f rfl (wk_f rfl (wk_f rfl (wk_f rfl (wk_f rfl (wk_f rfl (wk_f rfl (wk_f rfl (wk_f rfl (wk_f rfl (wk_f rfl (wk_f rfl (wk_f rfl (wk_f rfl (wk_f rfl (wk_f rfl (wk_nil))))))))))))))))))))))))))))))))
    ·skip
     have c23P := of_decide_eq_false c23
     refine wp_exit' ?_
     refine wp_seq' ?_
     refine wp_region_t ?_
     refine w1 (mv 192 6 (V.b (.a (.sl 38 0 ((hsL l ds L).length))))) ?_
     refine w1 (asg 4 192 (V.b (.a (.sl 38 0 ((hsL l ds L).length))))) ?_
     refine wpl_nil ?_
     refine wp_ret' ?_
     exact VRes.tmp 4 (.a (.sl 38 0 ((hsL l ds L).length))) _ (by kernel_rfl) (brow_ints (h := 38) (L := (hsL l ds L)) (by kernel_rfl) (by (rw [hts_yes (by rw [hsi, hti]; rfl)]; exact hts_fin (.inr rfl) hH (by omega))) (by rfl))
end Cl
end Go.Proofs.Ytmbodpmhokbapaa
