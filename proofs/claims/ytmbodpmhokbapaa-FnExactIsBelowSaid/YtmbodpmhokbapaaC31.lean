/- Walks over clean states, printed by wg.py. No statement is proved here. -/
import Derived.Test.YtmbodpmhokbapaaCl18
import Derived.Test.YtmbodpmhokbapaaC30
namespace Go.Proofs.Ytmbodpmhokbapaa
namespace Cl
open Go.ChangeShapes Go.WideShapes Go.ChangeAt Go.RowKit

noncomputable def okH (l : List Int) (ds : List Dom) : Bool := simB l && isTil l ds
theorem hts_cases (l : List Int) (ds : List Dom) : ((hts l ds).length = 81 ∧ okH l ds = true) ∨ ((hts l ds).length = 0 ∧ okH l ds = false) := by
  unfold okH
  rcases Bool.eq_false_or_eq_true (simB l && isTil l ds) with h | h
  · left; rw [hts_yes h, htsF_len]; exact ⟨rfl, h⟩
  · right; rw [hts_no h]; exact ⟨rfl, h⟩
theorem okH_len {l : List Int} {ds : List Dom} (h : okH l ds = true) : (hts l ds).length = 81 := by
  rcases hts_cases l ds with h1 | h1
  · exact h1.1
  · rw [h] at h1; simp at h1
theorem len_okH {l : List Int} {ds : List Dom} (h : 0 < (hts l ds).length) : okH l ds = true ∧ (hts l ds).length = 81 := by
  rcases hts_cases l ds with h1 | h1
  · exact ⟨h1.2, h1.1⟩
  · omega
theorem nlen_okH {l : List Int} {ds : List Dom} (h : ¬ 0 < (hts l ds).length) : okH l ds = false := by
  rcases hts_cases l ds with h1 | h1
  · omega
  · exact h1.2
theorem hts_len (l : List Int) (ds : List Dom) : (hts l ds).length ≤ 81 := by rcases hts_cases l ds with h1 | h1 <;> omega
def leT (x y : List Int) (k : Nat) : Bool := (List.range k).all fun i => decide (gI x i ≤ gI y i)
theorem leT_snoc {x y : List Int} {k : Nat} (h : leT x y k = true) (h2 : ¬ gI y k < gI x k) : leT x y (k + 1) = true := by
  unfold leT at *; rw [List.range_succ, List.all_append, h]; simp; omega
theorem leT_no {x y : List Int} {k n : Nat} (hk : k < n) (h : gI y k < gI x k) : leT x y n = false := by
  unfold leT; rw [List.all_eq_false]
  exact ⟨k, by simpa using hk, by simp; omega⟩
noncomputable def belB (l : List Int) (a b : List Dom) : Bool := (okH l a && okH l b) && leT (hts l a) (hts l b) 81
theorem bel_f0 {l : List Int} {a b : List Dom} (h : (okH l a && okH l b) = false) : belB l a b = false := by unfold belB; rw [h]; rfl
theorem bel_f1 {l : List Int} {a b : List Dom} (h : ¬ 0 < (hts l a).length) : belB l a b = false := by unfold belB; rw [nlen_okH h]; rfl
theorem bel_f2 {l : List Int} {a b : List Dom} (h : ¬ 0 < (hts l b).length) : belB l a b = false := by unfold belB; rw [nlen_okH h, Bool.and_false, Bool.false_and]
theorem bel_f3 {l : List Int} {a b : List Dom} {k : Nat} (hk : k < 81) (h : gI (hts l b) k < gI (hts l a) k) : belB l a b = false := by unfold belB; rw [leT_no hk h, Bool.and_false]
theorem bel_t {l : List Int} {a b : List Dom} {k : Nat} (hx : 0 < (hts l a).length) (hy : 0 < (hts l b).length) (hk : k ≤ (hts l a).length) (hk2 : ¬ k < 81) (h : leT (hts l a) (hts l b) k = true) : belB l a b = true := by
  have e : k = 81 := by have := hts_len l a; omega
  subst e
  unfold belB; rw [(len_okH hx).1, (len_okH hy).1, h]; rfl
theorem bel_dec {l : List Int} {a b : List Dom} {k : Nat} (hx : 0 < (hts l a).length) (h : ¬ (((hts l a).length : Nat) : Int) = (((hts l b).length : Nat) : Int) ∨ (¬ k < (hts l a).length ∧ k ≤ (hts l a).length ∧ leT (hts l a) (hts l b) k = true)) : decide (0 < (((hts l b).length : Nat) : Int)) = belB l a b := by
  have h1 := (len_okH hx).2
  rcases Nat.eq_zero_or_pos (hts l b).length with h2 | h2
  · rw [bel_f2 (by omega), decide_eq_false (by omega)]
  · have h3 := (len_okH h2).2
    rcases h with h | ⟨h, h4, h5⟩
    · omega
    · rw [bel_t hx h2 h4 (by omega) h5, decide_eq_true (by omega)]
/-- steps -/
def stT (x y : List Int) (k : Nat) : Int := (List.range k).foldl (fun s i => s + iabs (gI x i - gI y i)) 0
theorem stT_snoc (x y : List Int) (k : Nat) : stT x y (k + 1) = stT x y k + iabs (gI x k - gI y k) := by unfold stT; rw [List.range_succ, List.foldl_append]; rfl
theorem stT_bd (l : List Int) (a b : List Dom) (k : Nat) : 0 ≤ stT (hts l a) (hts l b) k ∧ stT (hts l a) (hts l b) k ≤ 1080 * k := by
  induction k with
  | zero => simp [stT]
  | succ k ih =>
    rw [stT_snoc]
    have h1 := hts_val (l := l) (ds := a) k
    have h2 := hts_val (l := l) (ds := b) k
    have := iabs_or (gI (hts l a) k - gI (hts l b) k)
    omega
theorem iabs_max (u v : Int) : max (u - v) (v - u) = iabs (u - v) := by unfold iabs; split <;> omega
noncomputable def stepB (l : List Int) (a b : List Dom) : Int := if (okH l a && okH l b) = true then stT (hts l a) (hts l b) 81 / 4 else -1
theorem step_no {l : List Int} {a b : List Dom} (h : (okH l a && okH l b) = false) : stepB l a b = -1 := by unfold stepB; rw [h]; rfl
theorem step_yes {l : List Int} {a b : List Dom} {k : Nat} (h : (okH l a && okH l b) = true) (hk : k = 81) : stT (hts l a) (hts l b) k / 4 = stepB l a b := by subst hk; unfold stepB; rw [if_pos h]

theorem qC31_sz_3 : (Try.prog.info? 3).map (·.size) = some 1 := by kernel_rfl
theorem qC31_ti_29 : TI Try.prog 29 true 1 := ⟨⟨_, Try.underlying29, rfl⟩, by kernel_rfl⟩
theorem qC31_ti_3 : TI Try.prog 3 false 1 := ⟨⟨_, Try.underlying3, rfl⟩, by kernel_rfl⟩
theorem qC31_un_22 : Try.prog.underlying 22 = some (.slice 3) := Try.underlying22
set_option maxHeartbeats 4000000 in
set_option maxRecDepth 100000 in
theorem impl_bothHeights_fn (l : List Int) (a b : List Dom) (hl : l.length ≤ 4194304) (ha : a.length ≤ 2097152) (hb : b.length ≤ 2097152) : FnO Try.prog 55 [.agg [(.slv l.length 1 (isl l) : A)], .a (.slv a.length 3 (dsl a)), .a (.slv b.length 3 (dsl b))] [] (V.tup [.a (.sl 7 0 ((hts l a).length)), .a (.sl 9 0 ((hts l b).length)), .a (.val (.bool (okH l a && okH l b)))]) [(.o 7, some (.o ⟨3, 1, true, pl (isl (hts l a))⟩)), (.o 9, some (.o ⟨3, 1, true, pl (isl (hts l b))⟩))] [] := by
 refine fn_introO (N := 25) Try.func55 rfl (by kernel_rfl) rfl (Nat.le_of_ble_eq_true rfl) rfl rfl (by kernel_rfl) (by kernel_rfl) trivial [3, 13, 16] (retO3 rfl) (fun W own kp im0 => ?_)
 refine wp_seq' ?_
 refine wp_region_t ?_
 refine w1 (acts_box (d := 3) (h := 3) (b := .agg [(.slv l.length 1 (isl l) : A)]) (ltN rfl) (OpX.tmp 0 (V.b (.agg [(.slv l.length 1 (isl l) : A)]))) (by intro y hy; simp [B.cs] at hy; subst hy; rfl)) ?_
 refine w1 (acts_assign (d := 6) (ltN rfl) (OpX.const (.slice none 0 0))) ?_
 refine w1 (acts_assign (d := 7) (ltN rfl) (OpX.const (.slice none 0 0))) ?_
 refine w1 (acts_assign (d := 8) (ltN rfl) (OpX.const (.bool false))) ?_
 refine wpl_nil ?_
 refine wp_seq' ?_
 rcases Bool.eq_false_or_eq_true ((simB l && isTil l a)) with c1 | c1
 ·skip
  rcases Bool.eq_false_or_eq_true ((simB l && isTil l b)) with c2 | c2
  ·skip
   refine wp_drawn' (by kernel_rfl) (AllSteps.cons (step_plain rfl (acts_load_owns (d := 11) (t := 3) (h := 3) (off := 0) (o := ⟨29, 1, true, [(.slv l.length 1 (isl l) : A)]⟩)  (xs := [(.slv l.length 1 (isl l) : A)]) (ltN rfl) qC31_ti_29 rfl (by decide) rfl)) (AllSteps.cons (step_plain rfl (mv 12 1 (V.b (.a (.slv a.length 3 (dsl a)))))) (AllSteps.cons (step_plain rfl (acts_call1 (d := 13) (ltN rfl) (HeightsOf_yes l a (by omega) (by omega) (by omega)) (ArgVs.cons (ArgV.regv 11 l.length 1 (isl l)) (ArgVs.cons (ArgV.slv 12 a.length 3 (dsl a)) (ArgVs.nil))) (ResV.row 3 1 ((htsF l a).length) (isl (htsF l a)) 13))) (AllSteps.cons (step_plain rfl (acts_load_owns (d := 14) (t := 3) (h := 3) (off := 0) (o := ⟨29, 1, true, [(.slv l.length 1 (isl l) : A)]⟩)  (xs := [(.slv l.length 1 (isl l) : A)]) (ltN rfl) qC31_ti_29 rfl (by decide) rfl)) (AllSteps.cons (step_plain rfl (mv 15 2 (V.b (.a (.slv b.length 3 (dsl b)))))) (AllSteps.cons (step_plain rfl (acts_call1 (d := 16) (ltN rfl) (HeightsOf_yes l b (by omega) (by omega) (by omega)) (ArgVs.cons (ArgV.regv 14 l.length 1 (isl l)) (ArgVs.cons (ArgV.slv 15 b.length 3 (dsl b)) (ArgVs.nil))) (ResV.row 3 1 ((htsF l b).length) (isl (htsF l b)) 16))) (AllSteps.cons (step_plain rfl (asg 9 13 (V.b (.a (.sl 13 0 ((htsF l a).length)))))) (AllSteps.cons (step_plain rfl (asg 10 16 (V.b (.a (.sl 16 0 ((htsF l b).length)))))) (AllSteps.nil))))))))) (by kernel_rfl) (by kernel_rfl) (by kernel_rfl) ?_
   refine wp_seq' ?_
   refine wp_region_t ?_
   refine w1 (mv 17 9 (V.b (.a (.sl 13 0 ((htsF l a).length))))) ?_
   refine w1 (mv 18 10 (V.b (.a (.sl 16 0 ((htsF l b).length))))) ?_
   refine w1 (mv 19 9 (V.b (.a (.sl 13 0 ((htsF l a).length))))) ?_
   refine w1 (acts_sneq (d := 20) (x := 19) (h := 13) (off := 0) (n := ((htsF l a).length)) (o := ⟨3, 1, true, pl (isl (htsF l a))⟩) (ltN rfl) qC31_un_22 (by (rw [htsF_len]; omega))) ?_
   refine w1 (mv 21 20 (V.v (.bool true))) ?_
   refine w2 (step_on (dj := 21) rfl rfl (mv 22 10 (V.b (.a (.sl 16 0 ((htsF l b).length)))))) ?_
   refine w2 (step_on (dj := 21) rfl rfl (acts_sneq (d := 23) (x := 22) (h := 16) (off := 0) (n := ((htsF l b).length)) (o := ⟨3, 1, true, pl (isl (htsF l b))⟩) (ltN rfl) qC31_un_22 (by (rw [htsF_len]; omega)))) ?_
   refine w1 (acts_pick_t (d := 24) (ltN rfl) (OpV.tmp 21 (.bool true)) (OpX.tmp 23 (V.v (.bool true)))) ?_
   refine w1 (asg 6 17 (V.b (.a (.sl 13 0 ((htsF l a).length))))) ?_
   refine w1 (asg 7 18 (V.b (.a (.sl 16 0 ((htsF l b).length))))) ?_
   refine w1 (asg 8 24 (V.v (.bool true))) ?_
   refine wpl_nil ?_
   refine wp_ret' ?_
   exact ⟨[(.s 6, some (.s (V.b (.a (.sl 7 0 ((htsF l a).length)))))), (.s 7, some (.s (V.b (.a (.sl 9 0 ((htsF l b).length)))))), (.s 8, some (.s (V.v (.bool true)))), (.o 7, some (.o ⟨3, 1, true, pl (isl (htsF l a))⟩)), (.o 9, some (.o ⟨3, 1, true, pl (isl (htsF l b))⟩)), (.o 3, some .free), (.o 13, some .free), (.o 16, some .free)], weak_of (subst1 [(7, 13), (9, 16)]) [3, 13, 16] (by kernel_rfl) (wk_s (v' := V.b (.a (.sl 13 0 ((htsF l a).length)))) (by kernel_rfl) rfl rfl (wk_s (v' := V.b (.a (.sl 16 0 ((htsF l b).length)))) (by kernel_rfl) rfl rfl (wk_s (v' := V.v (.bool true)) (by kernel_rfl) rfl rfl (wk_o (o' := ⟨3, 1, true, pl (isl (htsF l a))⟩) (by kernel_rfl) (renob_pl (fun h => h)) rfl (wk_o (o' := ⟨3, 1, true, pl (isl (htsF l b))⟩) (by kernel_rfl) (renob_pl (fun h => h)) rfl (wk_f rfl (wk_f rfl (wk_f rfl (wk_nil))))))))), ⟨obj_eq (c := pl (isl (htsF l a))) (by kernel_rfl) (congrArg (fun z => pl (isl z)) (by exact (hts_yes (by assumption)).symm)), obj_eq (c := pl (isl (htsF l b))) (by kernel_rfl) (congrArg (fun z => pl (isl z)) (by exact (hts_yes (by assumption)).symm)), trivial⟩, ⟨vo_eq 6 (.a (.sl 7 0 ((htsF l a).length))) (.a (.sl 7 0 ((hts l a).length))) (by kernel_rfl) (congrArg (fun z : Nat => B.a (.sl 7 0 z)) (by (rw [hts_yes (by assumption)]; done))), vo_eq 7 (.a (.sl 9 0 ((htsF l b).length))) (.a (.sl 9 0 ((hts l b).length))) (by kernel_rfl) (congrArg (fun z : Nat => B.a (.sl 9 0 z)) (by (rw [hts_yes (by assumption)]; done))), vo_eq 8 (.a (.val (.bool true))) (.a (.val (.bool (okH l a && okH l b)))) (by kernel_rfl) (congrArg (fun z : Bool => B.a (.val (.bool z))) (by (unfold okH; simp_all; done)))⟩⟩
  ·skip
   refine wp_drawn' (by kernel_rfl) (AllSteps.cons (step_plain rfl (acts_load_owns (d := 11) (t := 3) (h := 3) (off := 0) (o := ⟨29, 1, true, [(.slv l.length 1 (isl l) : A)]⟩)  (xs := [(.slv l.length 1 (isl l) : A)]) (ltN rfl) qC31_ti_29 rfl (by decide) rfl)) (AllSteps.cons (step_plain rfl (mv 12 1 (V.b (.a (.slv a.length 3 (dsl a)))))) (AllSteps.cons (step_plain rfl (acts_call1 (d := 13) (ltN rfl) (HeightsOf_yes l a (by omega) (by omega) (by omega)) (ArgVs.cons (ArgV.regv 11 l.length 1 (isl l)) (ArgVs.cons (ArgV.slv 12 a.length 3 (dsl a)) (ArgVs.nil))) (ResV.row 3 1 ((htsF l a).length) (isl (htsF l a)) 13))) (AllSteps.cons (step_plain rfl (acts_load_owns (d := 14) (t := 3) (h := 3) (off := 0) (o := ⟨29, 1, true, [(.slv l.length 1 (isl l) : A)]⟩)  (xs := [(.slv l.length 1 (isl l) : A)]) (ltN rfl) qC31_ti_29 rfl (by decide) rfl)) (AllSteps.cons (step_plain rfl (mv 15 2 (V.b (.a (.slv b.length 3 (dsl b)))))) (AllSteps.cons (step_plain rfl (acts_call1 (d := 16) (ltN rfl) (HeightsOf_no l b (by omega) (by omega) (by omega)) (ArgVs.cons (ArgV.regv 14 l.length 1 (isl l)) (ArgVs.cons (ArgV.slv 15 b.length 3 (dsl b)) (ArgVs.nil))) (ResV.val _))) (AllSteps.cons (step_plain rfl (asg 9 13 (V.b (.a (.sl 13 0 ((htsF l a).length)))))) (AllSteps.cons (step_plain rfl (asg 10 16 (V.v (.slice none 0 0)))) (AllSteps.nil))))))))) (by kernel_rfl) (by kernel_rfl) (by kernel_rfl) ?_
   refine wp_seq' ?_
   refine wp_region_t ?_
   refine w1 (mv 17 9 (V.b (.a (.sl 13 0 ((htsF l a).length))))) ?_
   refine w1 (mv 18 10 (V.v (.slice none 0 0))) ?_
   refine w1 (mv 19 9 (V.b (.a (.sl 13 0 ((htsF l a).length))))) ?_
   refine w1 (acts_sneq (d := 20) (x := 19) (h := 13) (off := 0) (n := ((htsF l a).length)) (o := ⟨3, 1, true, pl (isl (htsF l a))⟩) (ltN rfl) qC31_un_22 (by (rw [htsF_len]; omega))) ?_
   refine w1 (mv 21 20 (V.v (.bool true))) ?_
   refine w2 (step_on (dj := 21) rfl rfl (mv 22 10 (V.v (.slice none 0 0)))) ?_
   refine w2 (step_on (dj := 21) rfl rfl (bn 23 (OpV.tmp 22 (.slice none 0 0)) (OpV.const (.slice none 0 0)) (r_sneq0 qC31_un_22 rfl))) ?_
   refine w1 (acts_pick_t (d := 24) (ltN rfl) (OpV.tmp 21 (.bool true)) (OpX.tmp 23 (V.v (.bool false)))) ?_
   refine w1 (asg 6 17 (V.b (.a (.sl 13 0 ((htsF l a).length))))) ?_
   refine w1 (asg 7 18 (V.v (.slice none 0 0))) ?_
   refine w1 (asg 8 24 (V.v (.bool false))) ?_
   refine wpl_nil ?_
   refine wp_weak (weak_nil (k := 7) (h := 16) (T := 3) (s := 1) (by kernel_rfl) (by kernel_rfl)) ?_
   refine wp_ret' ?_
   exact ⟨[(.s 6, some (.s (V.b (.a (.sl 7 0 ((htsF l a).length)))))), (.s 7, some (.s (V.b (.a (.sl 9 0 0))))), (.s 8, some (.s (V.v (.bool false)))), (.o 7, some (.o ⟨3, 1, true, pl (isl (htsF l a))⟩)), (.o 9, some (.o ⟨3, 1, true, pl (isl [])⟩)), (.o 3, some .free), (.o 13, some .free), (.o 16, some .free)], weak_of (subst1 [(7, 13), (9, 16)]) [3, 13, 16] (by kernel_rfl) (wk_s (v' := V.b (.a (.sl 13 0 ((htsF l a).length)))) (by kernel_rfl) rfl rfl (wk_s (v' := V.b (.a (.sl 16 0 0))) (by kernel_rfl) rfl rfl (wk_s (v' := V.v (.bool false)) (by kernel_rfl) rfl rfl (wk_o (o' := ⟨3, 1, true, pl (isl (htsF l a))⟩) (by kernel_rfl) (renob_pl (fun h => h)) rfl (wk_o (o' := ⟨3, 1, true, pl (isl [])⟩) (by kernel_rfl) (renob_pl (fun h => h)) rfl (wk_f rfl (wk_f rfl (wk_f rfl (wk_nil))))))))), ⟨obj_eq (c := pl (isl (htsF l a))) (by kernel_rfl) (congrArg (fun z => pl (isl z)) (by exact (hts_yes (by assumption)).symm)), obj_eq (c := pl (isl [])) (by kernel_rfl) (congrArg (fun z => pl (isl z)) (by exact (hts_no (by assumption)).symm)), trivial⟩, ⟨vo_eq 6 (.a (.sl 7 0 ((htsF l a).length))) (.a (.sl 7 0 ((hts l a).length))) (by kernel_rfl) (congrArg (fun z : Nat => B.a (.sl 7 0 z)) (by (rw [hts_yes (by assumption)]; done))), vo_eq 7 (.a (.sl 9 0 0)) (.a (.sl 9 0 ((hts l b).length))) (by kernel_rfl) (congrArg (fun z : Nat => B.a (.sl 9 0 z)) (by (rw [hts_no (by assumption)]; first | done | rfl))), vo_eq 8 (.a (.val (.bool false))) (.a (.val (.bool (okH l a && okH l b)))) (by kernel_rfl) (congrArg (fun z : Bool => B.a (.val (.bool z))) (by (unfold okH; simp_all; done)))⟩⟩
 ·skip
  rcases Bool.eq_false_or_eq_true ((simB l && isTil l b)) with c3 | c3
  ·skip
   refine wp_drawn' (by kernel_rfl) (AllSteps.cons (step_plain rfl (acts_load_owns (d := 11) (t := 3) (h := 3) (off := 0) (o := ⟨29, 1, true, [(.slv l.length 1 (isl l) : A)]⟩)  (xs := [(.slv l.length 1 (isl l) : A)]) (ltN rfl) qC31_ti_29 rfl (by decide) rfl)) (AllSteps.cons (step_plain rfl (mv 12 1 (V.b (.a (.slv a.length 3 (dsl a)))))) (AllSteps.cons (step_plain rfl (acts_call1 (d := 13) (ltN rfl) (HeightsOf_no l a (by omega) (by omega) (by omega)) (ArgVs.cons (ArgV.regv 11 l.length 1 (isl l)) (ArgVs.cons (ArgV.slv 12 a.length 3 (dsl a)) (ArgVs.nil))) (ResV.val _))) (AllSteps.cons (step_plain rfl (acts_load_owns (d := 14) (t := 3) (h := 3) (off := 0) (o := ⟨29, 1, true, [(.slv l.length 1 (isl l) : A)]⟩)  (xs := [(.slv l.length 1 (isl l) : A)]) (ltN rfl) qC31_ti_29 rfl (by decide) rfl)) (AllSteps.cons (step_plain rfl (mv 15 2 (V.b (.a (.slv b.length 3 (dsl b)))))) (AllSteps.cons (step_plain rfl (acts_call1 (d := 16) (ltN rfl) (HeightsOf_yes l b (by omega) (by omega) (by omega)) (ArgVs.cons (ArgV.regv 14 l.length 1 (isl l)) (ArgVs.cons (ArgV.slv 15 b.length 3 (dsl b)) (ArgVs.nil))) (ResV.row 3 1 ((htsF l b).length) (isl (htsF l b)) 16))) (AllSteps.cons (step_plain rfl (asg 9 13 (V.v (.slice none 0 0)))) (AllSteps.cons (step_plain rfl (asg 10 16 (V.b (.a (.sl 16 0 ((htsF l b).length)))))) (AllSteps.nil))))))))) (by kernel_rfl) (by kernel_rfl) (by kernel_rfl) ?_
   refine wp_seq' ?_
   refine wp_region_t ?_
   refine w1 (mv 17 9 (V.v (.slice none 0 0))) ?_
   refine w1 (mv 18 10 (V.b (.a (.sl 16 0 ((htsF l b).length))))) ?_
   refine w1 (mv 19 9 (V.v (.slice none 0 0))) ?_
   refine w1 (bn 20 (OpV.tmp 19 (.slice none 0 0)) (OpV.const (.slice none 0 0)) (r_sneq0 qC31_un_22 rfl)) ?_
   refine w1 (mv 21 20 (V.v (.bool false))) ?_
   refine w2 (step_off (dj := 21) (b' := false) rfl rfl (by decide) rfl (ltN rfl)) ?_
   refine w2 (step_off (dj := 21) (b' := false) rfl rfl (by decide) rfl (ltN rfl)) ?_
   refine w1 (acts_pick_f (d := 24) (ltN rfl) (OpV.tmp 21 (.bool false)) (OpX.const (.bool false))) ?_
   refine w1 (asg 6 17 (V.v (.slice none 0 0))) ?_
   refine w1 (asg 7 18 (V.b (.a (.sl 16 0 ((htsF l b).length))))) ?_
   refine w1 (asg 8 24 (V.v (.bool false))) ?_
   refine wpl_nil ?_
   refine wp_weak (weak_nil (k := 6) (h := 13) (T := 3) (s := 1) (by kernel_rfl) (by kernel_rfl)) ?_
   refine wp_ret' ?_
   exact ⟨[(.s 6, some (.s (V.b (.a (.sl 7 0 0))))), (.s 7, some (.s (V.b (.a (.sl 9 0 ((htsF l b).length)))))), (.s 8, some (.s (V.v (.bool false)))), (.o 7, some (.o ⟨3, 1, true, pl (isl [])⟩)), (.o 9, some (.o ⟨3, 1, true, pl (isl (htsF l b))⟩)), (.o 3, some .free), (.o 13, some .free), (.o 16, some .free)], weak_of (subst1 [(7, 13), (9, 16)]) [3, 13, 16] (by kernel_rfl) (wk_s (v' := V.b (.a (.sl 13 0 0))) (by kernel_rfl) rfl rfl (wk_s (v' := V.b (.a (.sl 16 0 ((htsF l b).length)))) (by kernel_rfl) rfl rfl (wk_s (v' := V.v (.bool false)) (by kernel_rfl) rfl rfl (wk_o (o' := ⟨3, 1, true, pl (isl [])⟩) (by kernel_rfl) (renob_pl (fun h => h)) rfl (wk_o (o' := ⟨3, 1, true, pl (isl (htsF l b))⟩) (by kernel_rfl) (renob_pl (fun h => h)) rfl (wk_f rfl (wk_f rfl (wk_f rfl (wk_nil))))))))), ⟨obj_eq (c := pl (isl [])) (by kernel_rfl) (congrArg (fun z => pl (isl z)) (by exact (hts_no (by assumption)).symm)), obj_eq (c := pl (isl (htsF l b))) (by kernel_rfl) (congrArg (fun z => pl (isl z)) (by exact (hts_yes (by assumption)).symm)), trivial⟩, ⟨vo_eq 6 (.a (.sl 7 0 0)) (.a (.sl 7 0 ((hts l a).length))) (by kernel_rfl) (congrArg (fun z : Nat => B.a (.sl 7 0 z)) (by (rw [hts_no (by assumption)]; first | done | rfl))), vo_eq 7 (.a (.sl 9 0 ((htsF l b).length))) (.a (.sl 9 0 ((hts l b).length))) (by kernel_rfl) (congrArg (fun z : Nat => B.a (.sl 9 0 z)) (by (rw [hts_yes (by assumption)]; done))), vo_eq 8 (.a (.val (.bool false))) (.a (.val (.bool (okH l a && okH l b)))) (by kernel_rfl) (congrArg (fun z : Bool => B.a (.val (.bool z))) (by (unfold okH; simp_all; done)))⟩⟩
  ·skip
   refine wp_drawn' (by kernel_rfl) (AllSteps.cons (step_plain rfl (acts_load_owns (d := 11) (t := 3) (h := 3) (off := 0) (o := ⟨29, 1, true, [(.slv l.length 1 (isl l) : A)]⟩)  (xs := [(.slv l.length 1 (isl l) : A)]) (ltN rfl) qC31_ti_29 rfl (by decide) rfl)) (AllSteps.cons (step_plain rfl (mv 12 1 (V.b (.a (.slv a.length 3 (dsl a)))))) (AllSteps.cons (step_plain rfl (acts_call1 (d := 13) (ltN rfl) (HeightsOf_no l a (by omega) (by omega) (by omega)) (ArgVs.cons (ArgV.regv 11 l.length 1 (isl l)) (ArgVs.cons (ArgV.slv 12 a.length 3 (dsl a)) (ArgVs.nil))) (ResV.val _))) (AllSteps.cons (step_plain rfl (acts_load_owns (d := 14) (t := 3) (h := 3) (off := 0) (o := ⟨29, 1, true, [(.slv l.length 1 (isl l) : A)]⟩)  (xs := [(.slv l.length 1 (isl l) : A)]) (ltN rfl) qC31_ti_29 rfl (by decide) rfl)) (AllSteps.cons (step_plain rfl (mv 15 2 (V.b (.a (.slv b.length 3 (dsl b)))))) (AllSteps.cons (step_plain rfl (acts_call1 (d := 16) (ltN rfl) (HeightsOf_no l b (by omega) (by omega) (by omega)) (ArgVs.cons (ArgV.regv 14 l.length 1 (isl l)) (ArgVs.cons (ArgV.slv 15 b.length 3 (dsl b)) (ArgVs.nil))) (ResV.val _))) (AllSteps.cons (step_plain rfl (asg 9 13 (V.v (.slice none 0 0)))) (AllSteps.cons (step_plain rfl (asg 10 16 (V.v (.slice none 0 0)))) (AllSteps.nil))))))))) (by kernel_rfl) (by kernel_rfl) (by kernel_rfl) ?_
   refine wp_seq' ?_
   refine wp_region_t ?_
   refine w1 (mv 17 9 (V.v (.slice none 0 0))) ?_
   refine w1 (mv 18 10 (V.v (.slice none 0 0))) ?_
   refine w1 (mv 19 9 (V.v (.slice none 0 0))) ?_
   refine w1 (bn 20 (OpV.tmp 19 (.slice none 0 0)) (OpV.const (.slice none 0 0)) (r_sneq0 qC31_un_22 rfl)) ?_
   refine w1 (mv 21 20 (V.v (.bool false))) ?_
   refine w2 (step_off (dj := 21) (b' := false) rfl rfl (by decide) rfl (ltN rfl)) ?_
   refine w2 (step_off (dj := 21) (b' := false) rfl rfl (by decide) rfl (ltN rfl)) ?_
   refine w1 (acts_pick_f (d := 24) (ltN rfl) (OpV.tmp 21 (.bool false)) (OpX.const (.bool false))) ?_
   refine w1 (asg 6 17 (V.v (.slice none 0 0))) ?_
   refine w1 (asg 7 18 (V.v (.slice none 0 0))) ?_
   refine w1 (asg 8 24 (V.v (.bool false))) ?_
   refine wpl_nil ?_
   refine wp_weak (weak_nil (k := 6) (h := 13) (T := 3) (s := 1) (by kernel_rfl) (by kernel_rfl)) ?_
   refine wp_weak (weak_nil (k := 7) (h := 16) (T := 3) (s := 1) (by kernel_rfl) (by kernel_rfl)) ?_
   refine wp_ret' ?_
   exact ⟨[(.s 6, some (.s (V.b (.a (.sl 7 0 0))))), (.s 7, some (.s (V.b (.a (.sl 9 0 0))))), (.s 8, some (.s (V.v (.bool false)))), (.o 7, some (.o ⟨3, 1, true, pl (isl [])⟩)), (.o 9, some (.o ⟨3, 1, true, pl (isl [])⟩)), (.o 3, some .free), (.o 13, some .free), (.o 16, some .free)], weak_of (subst1 [(7, 13), (9, 16)]) [3, 13, 16] (by kernel_rfl) (wk_s (v' := V.b (.a (.sl 13 0 0))) (by kernel_rfl) rfl rfl (wk_s (v' := V.b (.a (.sl 16 0 0))) (by kernel_rfl) rfl rfl (wk_s (v' := V.v (.bool false)) (by kernel_rfl) rfl rfl (wk_o (o' := ⟨3, 1, true, pl (isl [])⟩) (by kernel_rfl) (renob_pl (fun h => h)) rfl (wk_o (o' := ⟨3, 1, true, pl (isl [])⟩) (by kernel_rfl) (renob_pl (fun h => h)) rfl (wk_f rfl (wk_f rfl (wk_f rfl (wk_nil))))))))), ⟨obj_eq (c := pl (isl [])) (by kernel_rfl) (congrArg (fun z => pl (isl z)) (by exact (hts_no (by assumption)).symm)), obj_eq (c := pl (isl [])) (by kernel_rfl) (congrArg (fun z => pl (isl z)) (by exact (hts_no (by assumption)).symm)), trivial⟩, ⟨vo_eq 6 (.a (.sl 7 0 0)) (.a (.sl 7 0 ((hts l a).length))) (by kernel_rfl) (congrArg (fun z : Nat => B.a (.sl 7 0 z)) (by (rw [hts_no (by assumption)]; first | done | rfl))), vo_eq 7 (.a (.sl 9 0 0)) (.a (.sl 9 0 ((hts l b).length))) (by kernel_rfl) (congrArg (fun z : Nat => B.a (.sl 9 0 z)) (by (rw [hts_no (by assumption)]; first | done | rfl))), vo_eq 8 (.a (.val (.bool false))) (.a (.val (.bool (okH l a && okH l b)))) (by kernel_rfl) (congrArg (fun z : Bool => B.a (.val (.bool z))) (by (unfold okH; simp_all; done)))⟩⟩

set_option maxHeartbeats 4000000 in
set_option maxRecDepth 100000 in
theorem impl_IsBelow_fn (l : List Int) (a b : List Dom) (hl : l.length ≤ 4194304) (ha : a.length ≤ 2097152) (hb : b.length ≤ 2097152) : Fn Try.prog 23 [.agg [(.slv l.length 1 (isl l) : A)], .a (.slv a.length 3 (dsl a)), .a (.slv b.length 3 (dsl b))] [.val (.bool (belB l a b))] := by
 refine fn_intro (N := 36) Try.func23 rfl (by kernel_rfl) rfl (Nat.le_of_ble_eq_true rfl) [3, 15, 22] (ret1 rfl) (fun W => ?_)
 refine wp_seq' ?_
 refine wp_region_t ?_
 refine w1 (acts_box (d := 3) (h := 3) (b := .agg [(.slv l.length 1 (isl l) : A)]) (ltN rfl) (OpX.tmp 0 (V.b (.agg [(.slv l.length 1 (isl l) : A)]))) (by intro y hy; simp [B.cs] at hy; subst hy; rfl)) ?_
 refine w1 (acts_assign (d := 6) (ltN rfl) (OpX.const (.bool false))) ?_
 refine wpl_nil ?_
 refine wp_seq' ?_
 refine wp_region_t ?_
 refine w1 (acts_load_owns (d := 12) (t := 3) (h := 3) (off := 0) (o := ⟨29, 1, true, [(.slv l.length 1 (isl l) : A)]⟩)  (xs := [(.slv l.length 1 (isl l) : A)]) (ltN rfl) qC31_ti_29 rfl (by decide) rfl) ?_
 refine w1 (mv 13 1 (V.b (.a (.slv a.length 3 (dsl a))))) ?_
 refine w1 (mv 14 2 (V.b (.a (.slv b.length 3 (dsl b))))) ?_
 refine w1 (acts_callO (d := 15) (f := 55) (os := []) (os' := [(.o 15, some (.o ⟨3, 1, true, pl (isl (hts l a))⟩)), (.o 22, some (.o ⟨3, 1, true, pl (isl (hts l b))⟩))]) (r := V.tup [.a (.sl 15 0 ((hts l a).length)), .a (.sl 22 0 ((hts l b).length)), .a (.val (.bool (okH l a && okH l b)))]) (bs := [.agg [(.slv l.length 1 (isl l) : A)], .a (.slv a.length 3 (dsl a)), .a (.slv b.length 3 (dsl b))]) (keep := []) (new := [15, 22]) (dead := []) (ltN rfl) (FnO.ren' (impl_bothHeights_fn l a b (by omega) (by omega) (by omega)) (subst1 [(7, 15), (9, 22)]) rfl rfl (by kernel_rfl) (by kernel_rfl) ⟨oc_pl (fun _ => rfl), oc_pl (fun _ => rfl), trivial⟩ (by kernel_rfl) rfl (by simp only [renS, Ob.ren, pl_ren, rws_ren_doms, rws_ren_ints, rws_ren_cels]; first | done | rfl) (by simp only [renS, Ob.ren, pl_ren, rws_ren_doms, rws_ren_ints, rws_ren_cels]; first | done | rfl) rfl rfl) (by kernel_rfl) ⟨oc_pl (fun _ => rfl), oc_pl (fun _ => rfl), trivial⟩ (by kernel_rfl) (ArgOs.cons (ArgO.slot 12 (.agg [(.slv l.length 1 (isl l) : A)])) (ArgOs.cons (ArgO.slot 13 (.a (.slv a.length 3 (dsl a)))) (ArgOs.cons (ArgO.slot 14 (.a (.slv b.length 3 (dsl b)))) (ArgOs.nil))))) ?_
 refine w1 (mv 11 15 (V.tup [.a (.sl 15 0 ((hts l a).length)), .a (.sl 22 0 ((hts l b).length)), .a (.val (.bool (okH l a && okH l b)))])) ?_
 refine w1 (acts_extract (d := 16) (t := 11) (ix := 0) (xs := [.a (.sl 15 0 ((hts l a).length)), .a (.sl 22 0 ((hts l b).length)), .a (.val (.bool (okH l a && okH l b)))]) (X := .a (.sl 15 0 ((hts l a).length))) (ltN rfl) rfl) ?_
 refine w1 (acts_extract (d := 17) (t := 11) (ix := 1) (xs := [.a (.sl 15 0 ((hts l a).length)), .a (.sl 22 0 ((hts l b).length)), .a (.val (.bool (okH l a && okH l b)))]) (X := .a (.sl 22 0 ((hts l b).length))) (ltN rfl) rfl) ?_
 refine w1 (acts_extract (d := 18) (t := 11) (ix := 2) (xs := [.a (.sl 15 0 ((hts l a).length)), .a (.sl 22 0 ((hts l b).length)), .a (.val (.bool (okH l a && okH l b)))]) (X := .a (.val (.bool (okH l a && okH l b)))) (ltN rfl) rfl) ?_
 refine w1 (asg 7 16 (V.b (.a (.sl 15 0 ((hts l a).length))))) ?_
 refine w1 (asg 8 17 (V.b (.a (.sl 22 0 ((hts l b).length))))) ?_
 refine w1 (asg 9 18 (V.v (.bool (okH l a && okH l b)))) ?_
 refine wpl_nil ?_
 refine wp_seq' ?_
 refine wp_seq' ?_
 refine wp_region_t ?_
 refine w1 (mv 19 9 (V.v (.bool (okH l a && okH l b)))) ?_
 refine w1 (acts_un (d := 20) (ltN rfl) (OpV.tmp 19 (.bool (okH l a && okH l b))) (r_not (c := (!(okH l a && okH l b))) rfl)) ?_
 refine wpl_nil ?_
 refine wp_if (t := 20) ((!(okH l a && okH l b))) (by kernel_rfl) (fun c1 => ?_) (fun c1 => ?_)
 ·skip
  have c2 : (okH l a && okH l b) = false := by first | simpa using c1 | (rw [← Bool.not_eq_true']; exact c1)
  refine wp_seq' ?_
  refine wp_region_t ?_
  refine w1 (acts_assign (d := 6) (ltN rfl) (OpX.const (.bool false))) ?_
  refine wpl_nil ?_
  refine wp_ret' ?_
  exact VRes.tmp 6 (.a (.val (.bool false))) _ (by kernel_rfl) (bval (congrArg Value.bool (by exact (bel_f0 (by assumption)).symm)))
 ·skip
  have c3 : (okH l a && okH l b) = true := by first | simpa using c1 | (rw [← Bool.not_eq_false']; exact c1)
  have hoa : okH l a = true := (and_tt c3).1
  have hob : okH l b = true := (and_tt c3).2
  have hla := okH_len hoa
  have hlb := okH_len hob
  refine wp_skip' ?_
  refine wp_seq' ?_
  refine wp_seq' ?_
  refine wp_region_t ?_
  refine w1 (mv 21 7 (V.b (.a (.sl 15 0 ((hts l a).length))))) ?_
  refine w1 (acts_len (d := 22) (X := .sl 15 0 ((hts l a).length)) (n := ((hts l a).length)) (iv := (((hts l a).length : Nat) : Int)) (ltN rfl) qC31_un_22 (OpX.tmp 21 (V.b (.a (.sl 15 0 ((hts l a).length))))) (LenOf.sl _ _ _) rfl) ?_
  refine w1 (acts_move (d := 23) (ltN rfl) (OpX.const (.int .i64 0))) ?_
  refine wpl_nil ?_
  refine wp_block' ?_
  refine wp_loop' (fun (k : Nat) => k ≤ (hts l a).length ∧ leT (hts l a) (hts l b) k = true) (fun (k : Nat) => [(.s 7, some (.s (V.b (.a (.sl 15 0 ((hts l a).length)))))), (.s 8, some (.s (V.b (.a (.sl 22 0 ((hts l b).length)))))), (.s 22, some (.s (V.v (.int .i64 (((hts l a).length : Nat) : Int))))), (.s 23, some (.s (V.v (.int .i64 ((k : Nat) : Int))))), (.o 15, some (.o ⟨3, 1, true, pl (isl (hts l a))⟩)), (.o 22, some (.o ⟨3, 1, true, pl (isl (hts l b))⟩)), (.o 3, some .free)]) (fun (k : Nat) => (hts l a).length - k) ((0 : Nat)) (by exact ⟨Nat.zero_le _, rfl⟩) (weak_of id [3] (by kernel_rfl) (wk_s (v' := V.b (.a (.sl 15 0 ((hts l a).length)))) (by kernel_rfl) rfl rfl (wk_s (v' := V.b (.a (.sl 22 0 ((hts l b).length)))) (by kernel_rfl) rfl rfl (wk_s (v' := V.v (.int .i64 (((hts l a).length : Nat) : Int))) (by kernel_rfl) rfl rfl (wk_s (v' := V.v (.int .i64 0)) (by kernel_rfl) (vint (by rfl)) rfl (wk_o (o' := ⟨3, 1, true, pl (isl (hts l a))⟩) (by kernel_rfl) (renob_pl (fun h => h)) rfl (wk_o (o' := ⟨3, 1, true, pl (isl (hts l b))⟩) (by kernel_rfl) (renob_pl (fun h => h)) rfl (wk_f rfl (wk_nil))))))))) ?_
  rintro k inv4
  replace inv4 : k ≤ (hts l a).length ∧ leT (hts l a) (hts l b) k = true := inv4
  obtain ⟨inv4_0, inv4_1⟩ := inv4
  refine wp_seq' ?_
  refine wp_region_t ?_
  refine w1 (bn 24 (OpV.tmp 23 (.int .i64 ((k : Nat) : Int))) (OpV.tmp 22 (.int .i64 (((hts l a).length : Nat) : Int))) (r_lss (c := (decide (((k : Nat) : Int) < (((hts l a).length : Nat) : Int)))) rfl)) ?_
  refine wpl_nil ?_
  refine wp_seq' ?_
  refine wp_if (t := 24) (decide (((k : Nat) : Int) < (((hts l a).length : Nat) : Int))) (by kernel_rfl) (fun c5 => ?_) (fun c5 => ?_)
  ·skip
   have c5P := of_decide_eq_true c5
   refine wp_skip' ?_
   refine wp_seq' ?_
   refine wp_block' ?_
   refine wp_seq' ?_
   refine wp_region_t ?_
   refine w1 (mv 25 23 (V.v (.int .i64 ((k : Nat) : Int)))) ?_
   refine w1 (asg 10 25 (V.v (.int .i64 ((k : Nat) : Int)))) ?_
   refine wpl_nil ?_
   refine wp_seq' ?_
   refine wp_drawn' (by kernel_rfl) (AllSteps.cons (step_plain rfl (mv 26 7 (V.b (.a (.sl 15 0 ((hts l a).length)))))) (AllSteps.cons (step_plain rfl (mv 27 10 (V.v (.int .i64 ((k : Nat) : Int))))) (AllSteps.cons (step_plain rfl (acts_index_sl (d := 28) (x := 26) (h := 15) (off := 0) (n := ((hts l a).length)) (k := k) (off' := (k * 1)) (o := ⟨3, 1, true, pl (isl (hts l a))⟩) (ltN rfl) qC31_un_22 qC31_sz_3 (OpV.tmp 27 (.int .i64 ((k : Nat) : Int))) rfl (by omega) (by (simp; done)))) (AllSteps.cons (step_plain rfl (acts_load_own (d := 29) (t := 28) (h := 15) (off := (k * 1)) (o := ⟨3, 1, true, pl (isl (hts l a))⟩)  (x := .val (.int .i64 (gI (hts l a) k))) (ltN rfl) qC31_ti_3 (pl_get (isl_get1 (k := k) (by omega))))) (AllSteps.cons (step_plain rfl (mv 30 8 (V.b (.a (.sl 22 0 ((hts l b).length)))))) (AllSteps.cons (step_plain rfl (mv 31 10 (V.v (.int .i64 ((k : Nat) : Int))))) (AllSteps.cons (step_plain rfl (acts_index_sl (d := 32) (x := 30) (h := 22) (off := 0) (n := ((hts l b).length)) (k := k) (off' := (k * 1)) (o := ⟨3, 1, true, pl (isl (hts l b))⟩) (ltN rfl) qC31_un_22 qC31_sz_3 (OpV.tmp 31 (.int .i64 ((k : Nat) : Int))) rfl (by omega) (by (simp; done)))) (AllSteps.cons (step_plain rfl (acts_load_own (d := 33) (t := 32) (h := 22) (off := (k * 1)) (o := ⟨3, 1, true, pl (isl (hts l b))⟩)  (x := .val (.int .i64 (gI (hts l b) k))) (ltN rfl) qC31_ti_3 (pl_get (isl_get1 (k := k) (by omega))))) (AllSteps.cons (step_plain rfl (bn 34 (OpV.tmp 29 (.int .i64 (gI (hts l a) k))) (OpV.tmp 33 (.int .i64 (gI (hts l b) k))) (r_gtr (c := (decide ((gI (hts l b) k) < (gI (hts l a) k)))) rfl))) (AllSteps.nil)))))))))) (by kernel_rfl) (by kernel_rfl) (by kernel_rfl) ?_
   refine wp_if (t := 34) (decide ((gI (hts l b) k) < (gI (hts l a) k))) (by kernel_rfl) (fun c6 => ?_) (fun c6 => ?_)
   ·skip
    have c6P := of_decide_eq_true c6
    refine wp_seq' ?_
    refine wp_region_t ?_
    refine w1 (acts_assign (d := 6) (ltN rfl) (OpX.const (.bool false))) ?_
    refine wpl_nil ?_
    refine wp_ret' ?_
    exact VRes.tmp 6 (.a (.val (.bool false))) _ (by kernel_rfl) (bval (congrArg Value.bool (by exact (bel_f3 (k := k) (by omega) (by omega)).symm)))
   ·skip
    have c6P := of_decide_eq_false c6
    refine wp_skip' ?_
    refine wp_region_t ?_
    refine w1 (bn 35 (OpV.tmp 23 (.int .i64 ((k : Nat) : Int))) (OpV.const (.int .i64 1)) (r_add (c := (((k : Nat) : Int) + 1)) (w64 (by omega) (by omega)))) ?_
    refine w1 (mv 23 35 (V.v (.int .i64 (((k : Nat) : Int) + 1)))) ?_
    refine wpl_nil ?_
    exact loop_back ((k + 1)) (by exact ⟨by omega, leT_snoc (by assumption) (by omega)⟩) (by show (hts l a).length - (k + 1) < (hts l a).length - k; omega) (weak_of id [3] (by kernel_rfl) (wk_s (v' := V.b (.a (.sl 15 0 ((hts l a).length)))) (by kernel_rfl) rfl rfl (wk_s (v' := V.b (.a (.sl 22 0 ((hts l b).length)))) (by kernel_rfl) rfl rfl (wk_s (v' := V.v (.int .i64 (((hts l a).length : Nat) : Int))) (by kernel_rfl) rfl rfl (wk_s (v' := V.v (.int .i64 (((k : Nat) : Int) + 1))) (by kernel_rfl) (vint (by rfl)) rfl (wk_o (o' := ⟨3, 1, true, pl (isl (hts l a))⟩) (by kernel_rfl) (renob_pl (fun h => h)) rfl (wk_o (o' := ⟨3, 1, true, pl (isl (hts l b))⟩) (by kernel_rfl) (renob_pl (fun h => h)) rfl (wk_f rfl (wk_nil)))))))))
  ·skip
   have c5P := of_decide_eq_false c5
   refine wp_exit' ?_
   refine wp_seq' ?_
   refine wp_region_t ?_
   refine w1 (acts_assign (d := 6) (ltN rfl) (OpX.const (.bool true))) ?_
   refine wpl_nil ?_
   refine wp_ret' ?_
   exact VRes.tmp 6 (.a (.val (.bool true))) _ (by kernel_rfl) (bval (congrArg Value.bool (by exact (bel_t (k := k) (by omega) (by omega) (by omega) (by omega) (by assumption)).symm)))

set_option maxHeartbeats 4000000 in
set_option maxRecDepth 100000 in
theorem spec_IsBelow_fn (l : List Int) (a b : List Dom) (hl : l.length ≤ 4194304) (ha : a.length ≤ 2097152) (hb : b.length ≤ 2097152) : Fn Try.prog 22 [.agg [(.slv l.length 1 (isl l) : A)], .a (.slv a.length 3 (dsl a)), .a (.slv b.length 3 (dsl b))] [.val (.bool (belB l a b))] := by
 have hma := hts_len l a
 have hmb := hts_len l b
 have hca := hts_cases l a
 have hcb := hts_cases l b
 refine fn_intro (N := 46) Try.func22 rfl (by kernel_rfl) rfl (Nat.le_of_ble_eq_true rfl) [3, 12, 15, 18, 22, 24, 39, 43] (ret1 rfl) (fun W => ?_)
 refine wp_seq' ?_
 refine wp_region_t ?_
 refine w1 (acts_box (d := 3) (h := 3) (b := .agg [(.slv l.length 1 (isl l) : A)]) (ltN rfl) (OpX.tmp 0 (V.b (.agg [(.slv l.length 1 (isl l) : A)]))) (by intro y hy; simp [B.cs] at hy; subst hy; rfl)) ?_
 refine w1 (acts_assign (d := 6) (ltN rfl) (OpX.const (.bool false))) ?_
 refine wpl_nil ?_
 refine wp_seq' ?_
 refine wp_region_t ?_
 refine w1 (acts_load_owns (d := 10) (t := 3) (h := 3) (off := 0) (o := ⟨29, 1, true, [(.slv l.length 1 (isl l) : A)]⟩)  (xs := [(.slv l.length 1 (isl l) : A)]) (ltN rfl) qC31_ti_29 rfl (by decide) rfl) ?_
 refine w1 (mv 11 1 (V.b (.a (.slv a.length 3 (dsl a))))) ?_
 refine w1 (acts_call1 (d := 12) (ltN rfl) (spec_HeightsOf_fn l a (by omega) (by omega)) (ArgVs.cons (ArgV.regv 10 l.length 1 (isl l)) (ArgVs.cons (ArgV.slv 11 a.length 3 (dsl a)) (ArgVs.nil))) (ResV.row 3 1 ((hts l a).length) (isl (hts l a)) 12)) ?_
 refine w1 (asg 7 12 (V.b (.a (.sl 12 0 ((hts l a).length))))) ?_
 refine wpl_nil ?_
 refine wp_seq' ?_
 refine wp_region_t ?_
 refine w1 (acts_load_owns (d := 13) (t := 3) (h := 3) (off := 0) (o := ⟨29, 1, true, [(.slv l.length 1 (isl l) : A)]⟩)  (xs := [(.slv l.length 1 (isl l) : A)]) (ltN rfl) qC31_ti_29 rfl (by decide) rfl) ?_
 refine w1 (mv 14 2 (V.b (.a (.slv b.length 3 (dsl b))))) ?_
 refine w1 (acts_call1 (d := 15) (ltN rfl) (spec_HeightsOf_fn l b (by omega) (by omega)) (ArgVs.cons (ArgV.regv 13 l.length 1 (isl l)) (ArgVs.cons (ArgV.slv 14 b.length 3 (dsl b)) (ArgVs.nil))) (ResV.row 3 1 ((hts l b).length) (isl (hts l b)) 15)) ?_
 refine w1 (asg 8 15 (V.b (.a (.sl 15 0 ((hts l b).length))))) ?_
 refine wpl_nil ?_
 refine wp_seq' ?_
 refine wp_seq' ?_
 refine wp_region_t ?_
 refine w1 (acts_assign (d := 9) (ltN rfl) (OpX.const (.int .i64 0))) ?_
 refine wpl_nil ?_
 refine wp_block' ?_
 refine wp_loop' (fun (k : Nat) => k ≤ (hts l a).length ∧ leT (hts l a) (hts l b) k = true) (fun (k : Nat) => [(.s 7, some (.s (V.b (.a (.sl 12 0 ((hts l a).length)))))), (.s 8, some (.s (V.b (.a (.sl 15 0 ((hts l b).length)))))), (.s 9, some (.s (V.v (.int .i64 ((k : Nat) : Int))))), (.o 12, some (.o ⟨3, 1, true, pl (isl (hts l a))⟩)), (.o 15, some (.o ⟨3, 1, true, pl (isl (hts l b))⟩)), (.o 3, some .free), (.o 18, some .free), (.o 22, some .free), (.o 24, some .free), (.o 39, some .free), (.o 43, some .free)]) (fun (k : Nat) => (hts l a).length - k) ((0 : Nat)) (by exact ⟨Nat.zero_le _, rfl⟩) (weak_of id [3, 18, 22, 24, 39, 43] (by kernel_rfl) (wk_s (v' := V.b (.a (.sl 12 0 ((hts l a).length)))) (by kernel_rfl) rfl rfl (wk_s (v' := V.b (.a (.sl 15 0 ((hts l b).length)))) (by kernel_rfl) rfl rfl (wk_s (v' := V.v (.int .i64 0)) (by kernel_rfl) (vint (by rfl)) rfl (wk_o (o' := ⟨3, 1, true, pl (isl (hts l a))⟩) (by kernel_rfl) (renob_pl (fun h => h)) rfl (wk_o (o' := ⟨3, 1, true, pl (isl (hts l b))⟩) (by kernel_rfl) (renob_pl (fun h => h)) rfl (wk_f rfl (wk_f rfl (wk_f rfl (wk_f rfl (wk_f rfl (wk_f rfl (wk_nil))))))))))))) ?_
 rintro k inv1
 replace inv1 : k ≤ (hts l a).length ∧ leT (hts l a) (hts l b) k = true := inv1
 obtain ⟨inv1_0, inv1_1⟩ := inv1
 refine wp_seq' ?_
 refine wp_seq' ?_
 rcases Bool.eq_false_or_eq_true (decide (((k : Nat) : Int) < (((hts l a).length : Nat) : Int))) with c2 | c2
 ·skip
  have c2P := of_decide_eq_true c2
  refine wp_region_t ?_
  refine w1 (mv 16 9 (V.v (.int .i64 ((k : Nat) : Int)))) ?_
  refine w1 (mv 17 7 (V.b (.a (.sl 12 0 ((hts l a).length))))) ?_
  refine w1 (acts_len (d := 18) (X := .sl 12 0 ((hts l a).length)) (n := ((hts l a).length)) (iv := (((hts l a).length : Nat) : Int)) (ltN rfl) qC31_un_22 (OpX.tmp 17 (V.b (.a (.sl 12 0 ((hts l a).length))))) (LenOf.sl _ _ _) rfl) ?_
  refine w1 (bn 19 (OpV.tmp 16 (.int .i64 ((k : Nat) : Int))) (OpV.tmp 18 (.int .i64 (((hts l a).length : Nat) : Int))) (r_lss (c := true) c2)) ?_
  refine w1 (mv 20 19 (V.v (.bool true))) ?_
  refine w2 (step_on (dj := 20) rfl rfl (mv 21 7 (V.b (.a (.sl 12 0 ((hts l a).length)))))) ?_
  refine w2 (step_on (dj := 20) rfl rfl (acts_len (d := 22) (X := .sl 12 0 ((hts l a).length)) (n := ((hts l a).length)) (iv := (((hts l a).length : Nat) : Int)) (ltN rfl) qC31_un_22 (OpX.tmp 21 (V.b (.a (.sl 12 0 ((hts l a).length))))) (LenOf.sl _ _ _) rfl)) ?_
  refine w2 (step_on (dj := 20) rfl rfl (mv 23 8 (V.b (.a (.sl 15 0 ((hts l b).length)))))) ?_
  refine w2 (step_on (dj := 20) rfl rfl (acts_len (d := 24) (X := .sl 15 0 ((hts l b).length)) (n := ((hts l b).length)) (iv := (((hts l b).length : Nat) : Int)) (ltN rfl) qC31_un_22 (OpX.tmp 23 (V.b (.a (.sl 15 0 ((hts l b).length))))) (LenOf.sl _ _ _) rfl)) ?_
  refine w2 (step_on (dj := 20) rfl rfl (bn 25 (OpV.tmp 22 (.int .i64 (((hts l a).length : Nat) : Int))) (OpV.tmp 24 (.int .i64 (((hts l b).length : Nat) : Int))) (r_eql (c := (decide ((((hts l a).length : Nat) : Int) = (((hts l b).length : Nat) : Int)))) rfl))) ?_
  refine w1 (acts_pick_t (d := 26) (ltN rfl) (OpV.tmp 20 (.bool true)) (OpX.tmp 25 (V.v (.bool (decide ((((hts l a).length : Nat) : Int) = (((hts l b).length : Nat) : Int))))))) ?_
  refine wpl_nil ?_
  refine wp_if (t := 26) (decide ((((hts l a).length : Nat) : Int) = (((hts l b).length : Nat) : Int))) (by kernel_rfl) (fun c3 => ?_) (fun c3 => ?_)
  ·skip
   have c3P := of_decide_eq_true c3
   refine wp_skip' ?_
   refine wp_seq' ?_
   refine wp_block' ?_
   refine wp_seq' ?_
   refine wp_drawn' (by kernel_rfl) (AllSteps.cons (step_plain rfl (mv 29 7 (V.b (.a (.sl 12 0 ((hts l a).length)))))) (AllSteps.cons (step_plain rfl (mv 30 9 (V.v (.int .i64 ((k : Nat) : Int))))) (AllSteps.cons (step_plain rfl (acts_index_sl (d := 31) (x := 29) (h := 12) (off := 0) (n := ((hts l a).length)) (k := k) (off' := (k * 1)) (o := ⟨3, 1, true, pl (isl (hts l a))⟩) (ltN rfl) qC31_un_22 qC31_sz_3 (OpV.tmp 30 (.int .i64 ((k : Nat) : Int))) rfl (by omega) (by (simp; done)))) (AllSteps.cons (step_plain rfl (acts_load_own (d := 32) (t := 31) (h := 12) (off := (k * 1)) (o := ⟨3, 1, true, pl (isl (hts l a))⟩)  (x := .val (.int .i64 (gI (hts l a) k))) (ltN rfl) qC31_ti_3 (pl_get (isl_get1 (k := k) (by omega))))) (AllSteps.cons (step_plain rfl (mv 33 8 (V.b (.a (.sl 15 0 ((hts l b).length)))))) (AllSteps.cons (step_plain rfl (mv 34 9 (V.v (.int .i64 ((k : Nat) : Int))))) (AllSteps.cons (step_plain rfl (acts_index_sl (d := 35) (x := 33) (h := 15) (off := 0) (n := ((hts l b).length)) (k := k) (off' := (k * 1)) (o := ⟨3, 1, true, pl (isl (hts l b))⟩) (ltN rfl) qC31_un_22 qC31_sz_3 (OpV.tmp 34 (.int .i64 ((k : Nat) : Int))) rfl (by omega) (by (simp; done)))) (AllSteps.cons (step_plain rfl (acts_load_own (d := 36) (t := 35) (h := 15) (off := (k * 1)) (o := ⟨3, 1, true, pl (isl (hts l b))⟩)  (x := .val (.int .i64 (gI (hts l b) k))) (ltN rfl) qC31_ti_3 (pl_get (isl_get1 (k := k) (by omega))))) (AllSteps.cons (step_plain rfl (bn 37 (OpV.tmp 32 (.int .i64 (gI (hts l a) k))) (OpV.tmp 36 (.int .i64 (gI (hts l b) k))) (r_gtr (c := (decide ((gI (hts l b) k) < (gI (hts l a) k)))) rfl))) (AllSteps.nil)))))))))) (by kernel_rfl) (by kernel_rfl) (by kernel_rfl) ?_
   refine wp_if (t := 37) (decide ((gI (hts l b) k) < (gI (hts l a) k))) (by kernel_rfl) (fun c4 => ?_) (fun c4 => ?_)
   ·skip
    have c4P := of_decide_eq_true c4
    refine wp_seq' ?_
    refine wp_region_t ?_
    refine w1 (acts_assign (d := 6) (ltN rfl) (OpX.const (.bool false))) ?_
    refine wpl_nil ?_
    refine wp_ret' ?_
    exact VRes.tmp 6 (.a (.val (.bool false))) _ (by kernel_rfl) (bval (congrArg Value.bool (by exact (bel_f3 (k := k) (by omega) (by omega)).symm)))
   ·skip
    have c4P := of_decide_eq_false c4
    refine wp_skip' ?_
    refine wp_region_t ?_
    refine w1 (mv 27 9 (V.v (.int .i64 ((k : Nat) : Int)))) ?_
    refine w1 (bn 28 (OpV.tmp 27 (.int .i64 ((k : Nat) : Int))) (OpV.const (.int .i64 1)) (r_add (c := (((k : Nat) : Int) + 1)) (w64 (by omega) (by omega)))) ?_
    refine w1 (asg 9 28 (V.v (.int .i64 (((k : Nat) : Int) + 1)))) ?_
    refine wpl_nil ?_
    exact loop_back ((k + 1)) (by exact ⟨by omega, leT_snoc (by assumption) (by omega)⟩) (by show (hts l a).length - (k + 1) < (hts l a).length - k; omega) (weak_of id [3, 18, 22, 24, 39, 43] (by kernel_rfl) (wk_s (v' := V.b (.a (.sl 12 0 ((hts l a).length)))) (by kernel_rfl) rfl rfl (wk_s (v' := V.b (.a (.sl 15 0 ((hts l b).length)))) (by kernel_rfl) rfl rfl (wk_s (v' := V.v (.int .i64 (((k : Nat) : Int) + 1))) (by kernel_rfl) (vint (by rfl)) rfl (wk_o (o' := ⟨3, 1, true, pl (isl (hts l a))⟩) (by kernel_rfl) (renob_pl (fun h => h)) rfl (wk_o (o' := ⟨3, 1, true, pl (isl (hts l b))⟩) (by kernel_rfl) (renob_pl (fun h => h)) rfl (wk_f rfl (wk_f rfl (wk_f rfl (wk_f rfl (wk_f rfl (wk_f rfl (wk_nil)))))))))))))
  ·skip
   have c3P := of_decide_eq_false c3
   refine wp_exit' ?_
   refine wp_seq' ?_
   rcases Bool.eq_false_or_eq_true (decide (0 < (((hts l a).length : Nat) : Int))) with c5 | c5
   ·skip
    have c5P := of_decide_eq_true c5
    refine wp_region_t ?_
    refine w1 (mv 38 7 (V.b (.a (.sl 12 0 ((hts l a).length))))) ?_
    refine w1 (acts_len (d := 39) (X := .sl 12 0 ((hts l a).length)) (n := ((hts l a).length)) (iv := (((hts l a).length : Nat) : Int)) (ltN rfl) qC31_un_22 (OpX.tmp 38 (V.b (.a (.sl 12 0 ((hts l a).length))))) (LenOf.sl _ _ _) rfl) ?_
    refine w1 (bn 40 (OpV.tmp 39 (.int .i64 (((hts l a).length : Nat) : Int))) (OpV.const (.int .i64 0)) (r_gtr (c := true) c5)) ?_
    refine w1 (mv 41 40 (V.v (.bool true))) ?_
    refine w2 (step_on (dj := 41) rfl rfl (mv 42 8 (V.b (.a (.sl 15 0 ((hts l b).length)))))) ?_
    refine w2 (step_on (dj := 41) rfl rfl (acts_len (d := 43) (X := .sl 15 0 ((hts l b).length)) (n := ((hts l b).length)) (iv := (((hts l b).length : Nat) : Int)) (ltN rfl) qC31_un_22 (OpX.tmp 42 (V.b (.a (.sl 15 0 ((hts l b).length))))) (LenOf.sl _ _ _) rfl)) ?_
    refine w2 (step_on (dj := 41) rfl rfl (bn 44 (OpV.tmp 43 (.int .i64 (((hts l b).length : Nat) : Int))) (OpV.const (.int .i64 0)) (r_gtr (c := (decide (0 < (((hts l b).length : Nat) : Int)))) rfl))) ?_
    refine w1 (acts_pick_t (d := 45) (ltN rfl) (OpV.tmp 41 (.bool true)) (OpX.tmp 44 (V.v (.bool (decide (0 < (((hts l b).length : Nat) : Int))))))) ?_
    refine w1 (asg 6 45 (V.v (.bool (decide (0 < (((hts l b).length : Nat) : Int)))))) ?_
    refine wpl_nil ?_
    refine wp_ret' ?_
    exact VRes.tmp 6 (.a (.val (.bool (decide (0 < (((hts l b).length : Nat) : Int)))))) _ (by kernel_rfl) (bval (congrArg Value.bool (by exact bel_dec (k := k) (by omega) (.inl (by assumption)))))
   ·skip
    have c5P := of_decide_eq_false c5
    refine wp_region_t ?_
    refine w1 (mv 38 7 (V.b (.a (.sl 12 0 ((hts l a).length))))) ?_
    refine w1 (acts_len (d := 39) (X := .sl 12 0 ((hts l a).length)) (n := ((hts l a).length)) (iv := (((hts l a).length : Nat) : Int)) (ltN rfl) qC31_un_22 (OpX.tmp 38 (V.b (.a (.sl 12 0 ((hts l a).length))))) (LenOf.sl _ _ _) rfl) ?_
    refine w1 (bn 40 (OpV.tmp 39 (.int .i64 (((hts l a).length : Nat) : Int))) (OpV.const (.int .i64 0)) (r_gtr (c := false) c5)) ?_
    refine w1 (mv 41 40 (V.v (.bool false))) ?_
    refine w2 (step_off (dj := 41) (b' := false) rfl rfl (by decide) rfl (ltN rfl)) ?_
    refine w2 (step_off (dj := 41) (b' := false) rfl rfl (by decide) rfl (ltN rfl)) ?_
    refine w2 (step_off (dj := 41) (b' := false) rfl rfl (by decide) rfl (ltN rfl)) ?_
    refine w1 (acts_pick_f (d := 45) (ltN rfl) (OpV.tmp 41 (.bool false)) (OpX.const (.bool false))) ?_
    refine w1 (asg 6 45 (V.v (.bool false))) ?_
    refine wpl_nil ?_
    refine wp_ret' ?_
    exact VRes.tmp 6 (.a (.val (.bool false))) _ (by kernel_rfl) (bval (congrArg Value.bool (by exact (bel_f1 (by omega)).symm)))
 ·skip
  have c2P := of_decide_eq_false c2
  refine wp_region_t ?_
  refine w1 (mv 16 9 (V.v (.int .i64 ((k : Nat) : Int)))) ?_
  refine w1 (mv 17 7 (V.b (.a (.sl 12 0 ((hts l a).length))))) ?_
  refine w1 (acts_len (d := 18) (X := .sl 12 0 ((hts l a).length)) (n := ((hts l a).length)) (iv := (((hts l a).length : Nat) : Int)) (ltN rfl) qC31_un_22 (OpX.tmp 17 (V.b (.a (.sl 12 0 ((hts l a).length))))) (LenOf.sl _ _ _) rfl) ?_
  refine w1 (bn 19 (OpV.tmp 16 (.int .i64 ((k : Nat) : Int))) (OpV.tmp 18 (.int .i64 (((hts l a).length : Nat) : Int))) (r_lss (c := false) c2)) ?_
  refine w1 (mv 20 19 (V.v (.bool false))) ?_
  refine w2 (step_off (dj := 20) (b' := false) rfl rfl (by decide) rfl (ltN rfl)) ?_
  refine w2 (step_off (dj := 20) (b' := false) rfl rfl (by decide) rfl (ltN rfl)) ?_
  refine w2 (step_off (dj := 20) (b' := false) rfl rfl (by decide) rfl (ltN rfl)) ?_
  refine w2 (step_off (dj := 20) (b' := false) rfl rfl (by decide) rfl (ltN rfl)) ?_
  refine w2 (step_off (dj := 20) (b' := false) rfl rfl (by decide) rfl (ltN rfl)) ?_
  refine w1 (acts_pick_f (d := 26) (ltN rfl) (OpV.tmp 20 (.bool false)) (OpX.const (.bool false))) ?_
  refine wpl_nil ?_
  refine wp_if_f (t := 26) (by kernel_rfl) ?_
  refine wp_exit' ?_
  refine wp_seq' ?_
  rcases Bool.eq_false_or_eq_true (decide (0 < (((hts l a).length : Nat) : Int))) with c6 | c6
  ·skip
   have c6P := of_decide_eq_true c6
   refine wp_region_t ?_
   refine w1 (mv 38 7 (V.b (.a (.sl 12 0 ((hts l a).length))))) ?_
   refine w1 (acts_len (d := 39) (X := .sl 12 0 ((hts l a).length)) (n := ((hts l a).length)) (iv := (((hts l a).length : Nat) : Int)) (ltN rfl) qC31_un_22 (OpX.tmp 38 (V.b (.a (.sl 12 0 ((hts l a).length))))) (LenOf.sl _ _ _) rfl) ?_
   refine w1 (bn 40 (OpV.tmp 39 (.int .i64 (((hts l a).length : Nat) : Int))) (OpV.const (.int .i64 0)) (r_gtr (c := true) c6)) ?_
   refine w1 (mv 41 40 (V.v (.bool true))) ?_
   refine w2 (step_on (dj := 41) rfl rfl (mv 42 8 (V.b (.a (.sl 15 0 ((hts l b).length)))))) ?_
   refine w2 (step_on (dj := 41) rfl rfl (acts_len (d := 43) (X := .sl 15 0 ((hts l b).length)) (n := ((hts l b).length)) (iv := (((hts l b).length : Nat) : Int)) (ltN rfl) qC31_un_22 (OpX.tmp 42 (V.b (.a (.sl 15 0 ((hts l b).length))))) (LenOf.sl _ _ _) rfl)) ?_
   refine w2 (step_on (dj := 41) rfl rfl (bn 44 (OpV.tmp 43 (.int .i64 (((hts l b).length : Nat) : Int))) (OpV.const (.int .i64 0)) (r_gtr (c := (decide (0 < (((hts l b).length : Nat) : Int)))) rfl))) ?_
   refine w1 (acts_pick_t (d := 45) (ltN rfl) (OpV.tmp 41 (.bool true)) (OpX.tmp 44 (V.v (.bool (decide (0 < (((hts l b).length : Nat) : Int))))))) ?_
   refine w1 (asg 6 45 (V.v (.bool (decide (0 < (((hts l b).length : Nat) : Int)))))) ?_
   refine wpl_nil ?_
   refine wp_ret' ?_
   exact VRes.tmp 6 (.a (.val (.bool (decide (0 < (((hts l b).length : Nat) : Int)))))) _ (by kernel_rfl) (bval (congrArg Value.bool (by exact bel_dec (k := k) (by omega) (.inr ⟨by omega, by omega, by assumption⟩))))
  ·skip
   have c6P := of_decide_eq_false c6
   refine wp_region_t ?_
   refine w1 (mv 38 7 (V.b (.a (.sl 12 0 ((hts l a).length))))) ?_
   refine w1 (acts_len (d := 39) (X := .sl 12 0 ((hts l a).length)) (n := ((hts l a).length)) (iv := (((hts l a).length : Nat) : Int)) (ltN rfl) qC31_un_22 (OpX.tmp 38 (V.b (.a (.sl 12 0 ((hts l a).length))))) (LenOf.sl _ _ _) rfl) ?_
   refine w1 (bn 40 (OpV.tmp 39 (.int .i64 (((hts l a).length : Nat) : Int))) (OpV.const (.int .i64 0)) (r_gtr (c := false) c6)) ?_
   refine w1 (mv 41 40 (V.v (.bool false))) ?_
   refine w2 (step_off (dj := 41) (b' := false) rfl rfl (by decide) rfl (ltN rfl)) ?_
   refine w2 (step_off (dj := 41) (b' := false) rfl rfl (by decide) rfl (ltN rfl)) ?_
   refine w2 (step_off (dj := 41) (b' := false) rfl rfl (by decide) rfl (ltN rfl)) ?_
   refine w1 (acts_pick_f (d := 45) (ltN rfl) (OpV.tmp 41 (.bool false)) (OpX.const (.bool false))) ?_
   refine w1 (asg 6 45 (V.v (.bool false))) ?_
   refine wpl_nil ?_
   refine wp_ret' ?_
   exact VRes.tmp 6 (.a (.val (.bool false))) _ (by kernel_rfl) (bval (congrArg Value.bool (by exact (bel_f1 (by omega)).symm)))

set_option maxHeartbeats 4000000 in
set_option maxRecDepth 100000 in
theorem impl_StepsBetween_fn (l : List Int) (a b : List Dom) (hl : l.length ≤ 4194304) (ha : a.length ≤ 2097152) (hb : b.length ≤ 2097152) : Fn Try.prog 25 [.agg [(.slv l.length 1 (isl l) : A)], .a (.slv a.length 3 (dsl a)), .a (.slv b.length 3 (dsl b))] [.val (.int .i64 (stepB l a b))] := by
 refine fn_intro (N := 42) Try.func25 rfl (by kernel_rfl) rfl (Nat.le_of_ble_eq_true rfl) [3, 16, 23, 37] (ret1 rfl) (fun W => ?_)
 refine wp_seq' ?_
 refine wp_region_t ?_
 refine w1 (acts_box (d := 3) (h := 3) (b := .agg [(.slv l.length 1 (isl l) : A)]) (ltN rfl) (OpX.tmp 0 (V.b (.agg [(.slv l.length 1 (isl l) : A)]))) (by intro y hy; simp [B.cs] at hy; subst hy; rfl)) ?_
 refine w1 (acts_assign (d := 6) (ltN rfl) (OpX.const (.int .i64 0))) ?_
 refine wpl_nil ?_
 refine wp_seq' ?_
 refine wp_region_t ?_
 refine w1 (acts_load_owns (d := 13) (t := 3) (h := 3) (off := 0) (o := ⟨29, 1, true, [(.slv l.length 1 (isl l) : A)]⟩)  (xs := [(.slv l.length 1 (isl l) : A)]) (ltN rfl) qC31_ti_29 rfl (by decide) rfl) ?_
 refine w1 (mv 14 1 (V.b (.a (.slv a.length 3 (dsl a))))) ?_
 refine w1 (mv 15 2 (V.b (.a (.slv b.length 3 (dsl b))))) ?_
 refine w1 (acts_callO (d := 16) (f := 55) (os := []) (os' := [(.o 16, some (.o ⟨3, 1, true, pl (isl (hts l a))⟩)), (.o 23, some (.o ⟨3, 1, true, pl (isl (hts l b))⟩))]) (r := V.tup [.a (.sl 16 0 ((hts l a).length)), .a (.sl 23 0 ((hts l b).length)), .a (.val (.bool (okH l a && okH l b)))]) (bs := [.agg [(.slv l.length 1 (isl l) : A)], .a (.slv a.length 3 (dsl a)), .a (.slv b.length 3 (dsl b))]) (keep := []) (new := [16, 23]) (dead := []) (ltN rfl) (FnO.ren' (impl_bothHeights_fn l a b (by omega) (by omega) (by omega)) (subst1 [(7, 16), (9, 23)]) rfl rfl (by kernel_rfl) (by kernel_rfl) ⟨oc_pl (fun _ => rfl), oc_pl (fun _ => rfl), trivial⟩ (by kernel_rfl) rfl (by simp only [renS, Ob.ren, pl_ren, rws_ren_doms, rws_ren_ints, rws_ren_cels]; first | done | rfl) (by simp only [renS, Ob.ren, pl_ren, rws_ren_doms, rws_ren_ints, rws_ren_cels]; first | done | rfl) rfl rfl) (by kernel_rfl) ⟨oc_pl (fun _ => rfl), oc_pl (fun _ => rfl), trivial⟩ (by kernel_rfl) (ArgOs.cons (ArgO.slot 13 (.agg [(.slv l.length 1 (isl l) : A)])) (ArgOs.cons (ArgO.slot 14 (.a (.slv a.length 3 (dsl a)))) (ArgOs.cons (ArgO.slot 15 (.a (.slv b.length 3 (dsl b)))) (ArgOs.nil))))) ?_
 refine w1 (mv 12 16 (V.tup [.a (.sl 16 0 ((hts l a).length)), .a (.sl 23 0 ((hts l b).length)), .a (.val (.bool (okH l a && okH l b)))])) ?_
 refine w1 (acts_extract (d := 17) (t := 12) (ix := 0) (xs := [.a (.sl 16 0 ((hts l a).length)), .a (.sl 23 0 ((hts l b).length)), .a (.val (.bool (okH l a && okH l b)))]) (X := .a (.sl 16 0 ((hts l a).length))) (ltN rfl) rfl) ?_
 refine w1 (acts_extract (d := 18) (t := 12) (ix := 1) (xs := [.a (.sl 16 0 ((hts l a).length)), .a (.sl 23 0 ((hts l b).length)), .a (.val (.bool (okH l a && okH l b)))]) (X := .a (.sl 23 0 ((hts l b).length))) (ltN rfl) rfl) ?_
 refine w1 (acts_extract (d := 19) (t := 12) (ix := 2) (xs := [.a (.sl 16 0 ((hts l a).length)), .a (.sl 23 0 ((hts l b).length)), .a (.val (.bool (okH l a && okH l b)))]) (X := .a (.val (.bool (okH l a && okH l b)))) (ltN rfl) rfl) ?_
 refine w1 (asg 7 17 (V.b (.a (.sl 16 0 ((hts l a).length))))) ?_
 refine w1 (asg 8 18 (V.b (.a (.sl 23 0 ((hts l b).length))))) ?_
 refine w1 (asg 9 19 (V.v (.bool (okH l a && okH l b)))) ?_
 refine wpl_nil ?_
 refine wp_seq' ?_
 refine wp_seq' ?_
 refine wp_region_t ?_
 refine w1 (mv 20 9 (V.v (.bool (okH l a && okH l b)))) ?_
 refine w1 (acts_un (d := 21) (ltN rfl) (OpV.tmp 20 (.bool (okH l a && okH l b))) (r_not (c := (!(okH l a && okH l b))) rfl)) ?_
 refine wpl_nil ?_
 refine wp_if (t := 21) ((!(okH l a && okH l b))) (by kernel_rfl) (fun c1 => ?_) (fun c1 => ?_)
 ·skip
  have c2 : (okH l a && okH l b) = false := by first | simpa using c1 | (rw [← Bool.not_eq_true']; exact c1)
  refine wp_seq' ?_
  refine wp_region_t ?_
  refine w1 (acts_assign (d := 6) (ltN rfl) (OpX.const (.int .i64 (-1)))) ?_
  refine wpl_nil ?_
  refine wp_ret' ?_
  exact VRes.tmp 6 (.a (.val (.int .i64 (-1)))) _ (by kernel_rfl) (bval (congrArg (Value.int .i64) (by exact (step_no (by assumption)).symm)))
 ·skip
  have c3 : (okH l a && okH l b) = true := by first | simpa using c1 | (rw [← Bool.not_eq_false']; exact c1)
  have hoa : okH l a = true := (and_tt c3).1
  have hob : okH l b = true := (and_tt c3).2
  have hla := okH_len hoa
  have hlb := okH_len hob
  refine wp_skip' ?_
  refine wp_seq' ?_
  refine wp_region_t ?_
  refine w1 (acts_assign (d := 10) (ltN rfl) (OpX.const (.int .i64 0))) ?_
  refine wpl_nil ?_
  refine wp_seq' ?_
  refine wp_seq' ?_
  refine wp_region_t ?_
  refine w1 (mv 22 7 (V.b (.a (.sl 16 0 ((hts l a).length))))) ?_
  refine w1 (acts_len (d := 23) (X := .sl 16 0 ((hts l a).length)) (n := ((hts l a).length)) (iv := (((hts l a).length : Nat) : Int)) (ltN rfl) qC31_un_22 (OpX.tmp 22 (V.b (.a (.sl 16 0 ((hts l a).length))))) (LenOf.sl _ _ _) rfl) ?_
  refine w1 (acts_move (d := 24) (ltN rfl) (OpX.const (.int .i64 0))) ?_
  refine wpl_nil ?_
  refine wp_block' ?_
  refine wp_loop' (fun (k : Nat) => k ≤ (hts l a).length) (fun (k : Nat) => [(.s 7, some (.s (V.b (.a (.sl 16 0 ((hts l a).length)))))), (.s 8, some (.s (V.b (.a (.sl 23 0 ((hts l b).length)))))), (.s 10, some (.s (V.v (.int .i64 (stT (hts l a) (hts l b) k))))), (.s 23, some (.s (V.v (.int .i64 (((hts l a).length : Nat) : Int))))), (.s 24, some (.s (V.v (.int .i64 ((k : Nat) : Int))))), (.o 16, some (.o ⟨3, 1, true, pl (isl (hts l a))⟩)), (.o 23, some (.o ⟨3, 1, true, pl (isl (hts l b))⟩)), (.o 3, some .free), (.o 37, some .free)]) (fun (k : Nat) => (hts l a).length - k) ((0 : Nat)) (by exact (Nat.zero_le _ : 0 ≤ _)) (weak_of id [3, 37] (by kernel_rfl) (wk_s (v' := V.b (.a (.sl 16 0 ((hts l a).length)))) (by kernel_rfl) rfl rfl (wk_s (v' := V.b (.a (.sl 23 0 ((hts l b).length)))) (by kernel_rfl) rfl rfl (wk_s (v' := V.v (.int .i64 0)) (by kernel_rfl) (vint (by rfl)) rfl (wk_s (v' := V.v (.int .i64 (((hts l a).length : Nat) : Int))) (by kernel_rfl) rfl rfl (wk_s (v' := V.v (.int .i64 0)) (by kernel_rfl) (vint (by rfl)) rfl (wk_o (o' := ⟨3, 1, true, pl (isl (hts l a))⟩) (by kernel_rfl) (renob_pl (fun h => h)) rfl (wk_o (o' := ⟨3, 1, true, pl (isl (hts l b))⟩) (by kernel_rfl) (renob_pl (fun h => h)) rfl (wk_f rfl (wk_f rfl (wk_nil))))))))))) ?_
  rintro k inv4
  replace inv4 : k ≤ (hts l a).length := inv4
  have inv := inv4
  have hva := hts_val (l := l) (ds := a) k
  have hvb := hts_val (l := l) (ds := b) k
  have hst := stT_bd l a b k
  refine wp_seq' ?_
  refine wp_region_t ?_
  refine w1 (bn 25 (OpV.tmp 24 (.int .i64 ((k : Nat) : Int))) (OpV.tmp 23 (.int .i64 (((hts l a).length : Nat) : Int))) (r_lss (c := (decide (((k : Nat) : Int) < (((hts l a).length : Nat) : Int)))) rfl)) ?_
  refine wpl_nil ?_
  refine wp_seq' ?_
  refine wp_if (t := 25) (decide (((k : Nat) : Int) < (((hts l a).length : Nat) : Int))) (by kernel_rfl) (fun c5 => ?_) (fun c5 => ?_)
  ·skip
   have c5P := of_decide_eq_true c5
   refine wp_skip' ?_
   refine wp_seq' ?_
   refine wp_block' ?_
   refine wp_seq' ?_
   refine wp_region_t ?_
   refine w1 (mv 26 24 (V.v (.int .i64 ((k : Nat) : Int)))) ?_
   refine w1 (asg 11 26 (V.v (.int .i64 ((k : Nat) : Int)))) ?_
   refine wpl_nil ?_
   refine wp_drawn' (by kernel_rfl) (AllSteps.cons (step_plain rfl (mv 27 10 (V.v (.int .i64 (stT (hts l a) (hts l b) k))))) (AllSteps.cons (step_plain rfl (mv 28 7 (V.b (.a (.sl 16 0 ((hts l a).length)))))) (AllSteps.cons (step_plain rfl (mv 29 11 (V.v (.int .i64 ((k : Nat) : Int))))) (AllSteps.cons (step_plain rfl (acts_index_sl (d := 30) (x := 28) (h := 16) (off := 0) (n := ((hts l a).length)) (k := k) (off' := (k * 1)) (o := ⟨3, 1, true, pl (isl (hts l a))⟩) (ltN rfl) qC31_un_22 qC31_sz_3 (OpV.tmp 29 (.int .i64 ((k : Nat) : Int))) rfl (by omega) (by (simp; done)))) (AllSteps.cons (step_plain rfl (acts_load_own (d := 31) (t := 30) (h := 16) (off := (k * 1)) (o := ⟨3, 1, true, pl (isl (hts l a))⟩)  (x := .val (.int .i64 (gI (hts l a) k))) (ltN rfl) qC31_ti_3 (pl_get (isl_get1 (k := k) (by omega))))) (AllSteps.cons (step_plain rfl (mv 32 8 (V.b (.a (.sl 23 0 ((hts l b).length)))))) (AllSteps.cons (step_plain rfl (mv 33 11 (V.v (.int .i64 ((k : Nat) : Int))))) (AllSteps.cons (step_plain rfl (acts_index_sl (d := 34) (x := 32) (h := 23) (off := 0) (n := ((hts l b).length)) (k := k) (off' := (k * 1)) (o := ⟨3, 1, true, pl (isl (hts l b))⟩) (ltN rfl) qC31_un_22 qC31_sz_3 (OpV.tmp 33 (.int .i64 ((k : Nat) : Int))) rfl (by omega) (by (simp; done)))) (AllSteps.cons (step_plain rfl (acts_load_own (d := 35) (t := 34) (h := 23) (off := (k * 1)) (o := ⟨3, 1, true, pl (isl (hts l b))⟩)  (x := .val (.int .i64 (gI (hts l b) k))) (ltN rfl) qC31_ti_3 (pl_get (isl_get1 (k := k) (by omega))))) (AllSteps.cons (step_plain rfl (bn 36 (OpV.tmp 31 (.int .i64 (gI (hts l a) k))) (OpV.tmp 35 (.int .i64 (gI (hts l b) k))) (r_sub (c := ((gI (hts l a) k) - (gI (hts l b) k))) (w64 (by omega) (by omega))))) (AllSteps.cons (step_plain rfl (acts_call1 (d := 37) (ltN rfl) (impl_size_fn ((gI (hts l a) k) - (gI (hts l b) k)) (by omega) (by omega)) (ArgVs.cons (ArgV.v (OpV.tmp 36 (.int .i64 ((gI (hts l a) k) - (gI (hts l b) k))))) (ArgVs.nil)) (ResV.val _))) (AllSteps.cons (step_plain rfl (bn 38 (OpV.tmp 27 (.int .i64 (stT (hts l a) (hts l b) k))) (OpV.tmp 37 (.int .i64 (iabs ((gI (hts l a) k) - (gI (hts l b) k))))) (r_add (c := ((stT (hts l a) (hts l b) k) + (iabs ((gI (hts l a) k) - (gI (hts l b) k))))) (w64 (by (have := iabs_or (gI (hts l a) k - gI (hts l b) k); omega)) (by (have := iabs_or (gI (hts l a) k - gI (hts l b) k); omega)))))) (AllSteps.cons (step_plain rfl (asg 10 38 (V.v (.int .i64 ((stT (hts l a) (hts l b) k) + (iabs ((gI (hts l a) k) - (gI (hts l b) k)))))))) (AllSteps.nil)))))))))))))) (by kernel_rfl) (by kernel_rfl) (by kernel_rfl) ?_
   refine wp_region_t ?_
   refine w1 (bn 39 (OpV.tmp 24 (.int .i64 ((k : Nat) : Int))) (OpV.const (.int .i64 1)) (r_add (c := (((k : Nat) : Int) + 1)) (w64 (by omega) (by omega)))) ?_
   refine w1 (mv 24 39 (V.v (.int .i64 (((k : Nat) : Int) + 1)))) ?_
   refine wpl_nil ?_
   exact loop_back ((k + 1)) (by show _ ≤ _; omega) (by show (hts l a).length - (k + 1) < (hts l a).length - k; omega) (weak_of id [3, 37] (by kernel_rfl) (wk_s (v' := V.b (.a (.sl 16 0 ((hts l a).length)))) (by kernel_rfl) rfl rfl (wk_s (v' := V.b (.a (.sl 23 0 ((hts l b).length)))) (by kernel_rfl) rfl rfl (wk_s (v' := V.v (.int .i64 ((stT (hts l a) (hts l b) k) + (iabs ((gI (hts l a) k) - (gI (hts l b) k)))))) (by kernel_rfl) (vint (by exact stT_snoc _ _ _)) rfl (wk_s (v' := V.v (.int .i64 (((hts l a).length : Nat) : Int))) (by kernel_rfl) rfl rfl (wk_s (v' := V.v (.int .i64 (((k : Nat) : Int) + 1))) (by kernel_rfl) (vint (by rfl)) rfl (wk_o (o' := ⟨3, 1, true, pl (isl (hts l a))⟩) (by kernel_rfl) (renob_pl (fun h => h)) rfl (wk_o (o' := ⟨3, 1, true, pl (isl (hts l b))⟩) (by kernel_rfl) (renob_pl (fun h => h)) rfl (wk_f rfl (wk_f rfl (wk_nil)))))))))))
  ·skip
   have c5P := of_decide_eq_false c5
   refine wp_exit' ?_
   refine wp_seq' ?_
   refine wp_region_t ?_
   refine w1 (mv 40 10 (V.v (.int .i64 (stT (hts l a) (hts l b) k)))) ?_
   refine w1 (bn 41 (OpV.tmp 40 (.int .i64 (stT (hts l a) (hts l b) k))) (OpV.const (.int .i64 4)) (r_quo (c := ((stT (hts l a) (hts l b) k) / 4)) (by omega) (quoI (by omega) (by omega) (by omega)))) ?_
   refine w1 (asg 6 41 (V.v (.int .i64 ((stT (hts l a) (hts l b) k) / 4)))) ?_
   refine wpl_nil ?_
   refine wp_ret' ?_
   exact VRes.tmp 6 (.a (.val (.int .i64 ((stT (hts l a) (hts l b) k) / 4)))) _ (by kernel_rfl) (bval (congrArg (Value.int .i64) (by exact step_yes (by assumption) (by omega))))

set_option maxHeartbeats 4000000 in
set_option maxRecDepth 100000 in
theorem spec_StepsBetween_fn (l : List Int) (a b : List Dom) (hl : l.length ≤ 4194304) (ha : a.length ≤ 2097152) (hb : b.length ≤ 2097152) : Fn Try.prog 24 [.agg [(.slv l.length 1 (isl l) : A)], .a (.slv a.length 3 (dsl a)), .a (.slv b.length 3 (dsl b))] [.val (.int .i64 (stepB l a b))] := by
 have hma := hts_len l a
 have hmb := hts_len l b
 have hca := hts_cases l a
 have hcb := hts_cases l b
 refine fn_intro (N := 54) Try.func24 rfl (by kernel_rfl) rfl (Nat.le_of_ble_eq_true rfl) [3, 13, 16, 18, 22, 27, 50] (ret1 rfl) (fun W => ?_)
 refine wp_seq' ?_
 refine wp_region_t ?_
 refine w1 (acts_box (d := 3) (h := 3) (b := .agg [(.slv l.length 1 (isl l) : A)]) (ltN rfl) (OpX.tmp 0 (V.b (.agg [(.slv l.length 1 (isl l) : A)]))) (by intro y hy; simp [B.cs] at hy; subst hy; rfl)) ?_
 refine w1 (acts_assign (d := 6) (ltN rfl) (OpX.const (.int .i64 0))) ?_
 refine wpl_nil ?_
 refine wp_seq' ?_
 refine wp_region_t ?_
 refine w1 (acts_load_owns (d := 11) (t := 3) (h := 3) (off := 0) (o := ⟨29, 1, true, [(.slv l.length 1 (isl l) : A)]⟩)  (xs := [(.slv l.length 1 (isl l) : A)]) (ltN rfl) qC31_ti_29 rfl (by decide) rfl) ?_
 refine w1 (mv 12 1 (V.b (.a (.slv a.length 3 (dsl a))))) ?_
 refine w1 (acts_call1 (d := 13) (ltN rfl) (spec_HeightsOf_fn l a (by omega) (by omega)) (ArgVs.cons (ArgV.regv 11 l.length 1 (isl l)) (ArgVs.cons (ArgV.slv 12 a.length 3 (dsl a)) (ArgVs.nil))) (ResV.row 3 1 ((hts l a).length) (isl (hts l a)) 13)) ?_
 refine w1 (asg 7 13 (V.b (.a (.sl 13 0 ((hts l a).length))))) ?_
 refine wpl_nil ?_
 refine wp_seq' ?_
 refine wp_region_t ?_
 refine w1 (acts_load_owns (d := 14) (t := 3) (h := 3) (off := 0) (o := ⟨29, 1, true, [(.slv l.length 1 (isl l) : A)]⟩)  (xs := [(.slv l.length 1 (isl l) : A)]) (ltN rfl) qC31_ti_29 rfl (by decide) rfl) ?_
 refine w1 (mv 15 2 (V.b (.a (.slv b.length 3 (dsl b))))) ?_
 refine w1 (acts_call1 (d := 16) (ltN rfl) (spec_HeightsOf_fn l b (by omega) (by omega)) (ArgVs.cons (ArgV.regv 14 l.length 1 (isl l)) (ArgVs.cons (ArgV.slv 15 b.length 3 (dsl b)) (ArgVs.nil))) (ResV.row 3 1 ((hts l b).length) (isl (hts l b)) 16)) ?_
 refine w1 (asg 8 16 (V.b (.a (.sl 16 0 ((hts l b).length))))) ?_
 refine wpl_nil ?_
 refine wp_seq' ?_
 refine wp_seq' ?_
 rcases Bool.eq_false_or_eq_true (decide ((((hts l a).length : Nat) : Int) = 0)) with c1 | c1
 ·skip
  have c1P := of_decide_eq_true c1
  refine wp_region_t ?_
  refine w1 (mv 17 7 (V.b (.a (.sl 13 0 ((hts l a).length))))) ?_
  refine w1 (acts_len (d := 18) (X := .sl 13 0 ((hts l a).length)) (n := ((hts l a).length)) (iv := (((hts l a).length : Nat) : Int)) (ltN rfl) qC31_un_22 (OpX.tmp 17 (V.b (.a (.sl 13 0 ((hts l a).length))))) (LenOf.sl _ _ _) rfl) ?_
  refine w1 (bn 19 (OpV.tmp 18 (.int .i64 (((hts l a).length : Nat) : Int))) (OpV.const (.int .i64 0)) (r_eql (c := true) c1)) ?_
  refine w1 (mv 20 19 (V.v (.bool true))) ?_
  refine w2 (step_off (dj := 20) (b' := true) rfl rfl (by decide) rfl (ltN rfl)) ?_
  refine w2 (step_off (dj := 20) (b' := true) rfl rfl (by decide) rfl (ltN rfl)) ?_
  refine w2 (step_off (dj := 20) (b' := true) rfl rfl (by decide) rfl (ltN rfl)) ?_
  refine w1 (acts_pick_t (d := 24) (ltN rfl) (OpV.tmp 20 (.bool true)) (OpX.const (.bool true))) ?_
  refine wpl_nil ?_
  refine wp_if_t (t := 24) (by kernel_rfl) ?_
  refine wp_seq' ?_
  refine wp_region_t ?_
  refine w1 (acts_assign (d := 6) (ltN rfl) (OpX.const (.int .i64 (-1)))) ?_
  refine wpl_nil ?_
  refine wp_ret' ?_
  exact VRes.tmp 6 (.a (.val (.int .i64 (-1)))) _ (by kernel_rfl) (bval (congrArg (Value.int .i64) (by exact (step_no (by rw [nlen_okH (l := l) (ds := a) (by omega)]; rfl)).symm)))
 ·skip
  have c1P := of_decide_eq_false c1
  refine wp_region_t ?_
  refine w1 (mv 17 7 (V.b (.a (.sl 13 0 ((hts l a).length))))) ?_
  refine w1 (acts_len (d := 18) (X := .sl 13 0 ((hts l a).length)) (n := ((hts l a).length)) (iv := (((hts l a).length : Nat) : Int)) (ltN rfl) qC31_un_22 (OpX.tmp 17 (V.b (.a (.sl 13 0 ((hts l a).length))))) (LenOf.sl _ _ _) rfl) ?_
  refine w1 (bn 19 (OpV.tmp 18 (.int .i64 (((hts l a).length : Nat) : Int))) (OpV.const (.int .i64 0)) (r_eql (c := false) c1)) ?_
  refine w1 (mv 20 19 (V.v (.bool false))) ?_
  refine w2 (step_on (dj := 20) rfl rfl (mv 21 8 (V.b (.a (.sl 16 0 ((hts l b).length)))))) ?_
  refine w2 (step_on (dj := 20) rfl rfl (acts_len (d := 22) (X := .sl 16 0 ((hts l b).length)) (n := ((hts l b).length)) (iv := (((hts l b).length : Nat) : Int)) (ltN rfl) qC31_un_22 (OpX.tmp 21 (V.b (.a (.sl 16 0 ((hts l b).length))))) (LenOf.sl _ _ _) rfl)) ?_
  refine w2 (step_on (dj := 20) rfl rfl (bn 23 (OpV.tmp 22 (.int .i64 (((hts l b).length : Nat) : Int))) (OpV.const (.int .i64 0)) (r_eql (c := (decide ((((hts l b).length : Nat) : Int) = 0))) rfl))) ?_
  refine w1 (acts_pick_f (d := 24) (ltN rfl) (OpV.tmp 20 (.bool false)) (OpX.tmp 23 (V.v (.bool (decide ((((hts l b).length : Nat) : Int) = 0)))))) ?_
  refine wpl_nil ?_
  refine wp_if (t := 24) (decide ((((hts l b).length : Nat) : Int) = 0)) (by kernel_rfl) (fun c2 => ?_) (fun c2 => ?_)
  ·skip
   have c2P := of_decide_eq_true c2
   refine wp_seq' ?_
   refine wp_region_t ?_
   refine w1 (acts_assign (d := 6) (ltN rfl) (OpX.const (.int .i64 (-1)))) ?_
   refine wpl_nil ?_
   refine wp_ret' ?_
   exact VRes.tmp 6 (.a (.val (.int .i64 (-1)))) _ (by kernel_rfl) (bval (congrArg (Value.int .i64) (by exact (step_no (by rw [nlen_okH (l := l) (ds := b) (by omega)]; exact Bool.and_false _)).symm)))
  ·skip
   have c2P := of_decide_eq_false c2
   refine wp_skip' ?_
   refine wp_seq' ?_
   refine wp_region_t ?_
   refine w1 (acts_assign (d := 9) (ltN rfl) (OpX.const (.int .i64 0))) ?_
   refine wpl_nil ?_
   refine wp_seq' ?_
   refine wp_seq' ?_
   refine wp_region_t ?_
   refine w1 (acts_assign (d := 10) (ltN rfl) (OpX.const (.int .i64 0))) ?_
   refine wpl_nil ?_
   refine wp_block' ?_
   refine wp_loop' (fun (k : Nat) => k ≤ (hts l a).length) (fun (k : Nat) => [(.s 7, some (.s (V.b (.a (.sl 13 0 ((hts l a).length)))))), (.s 8, some (.s (V.b (.a (.sl 16 0 ((hts l b).length)))))), (.s 9, some (.s (V.v (.int .i64 (stT (hts l a) (hts l b) k))))), (.s 10, some (.s (V.v (.int .i64 ((k : Nat) : Int))))), (.o 13, some (.o ⟨3, 1, true, pl (isl (hts l a))⟩)), (.o 16, some (.o ⟨3, 1, true, pl (isl (hts l b))⟩)), (.o 3, some .free), (.o 18, some .free), (.o 22, some .free), (.o 27, some .free), (.o 50, some .free)]) (fun (k : Nat) => (hts l a).length - k) ((0 : Nat)) (by exact (Nat.zero_le _ : 0 ≤ _)) (weak_of id [3, 18, 22, 27, 50] (by kernel_rfl) (wk_s (v' := V.b (.a (.sl 13 0 ((hts l a).length)))) (by kernel_rfl) rfl rfl (wk_s (v' := V.b (.a (.sl 16 0 ((hts l b).length)))) (by kernel_rfl) rfl rfl (wk_s (v' := V.v (.int .i64 0)) (by kernel_rfl) (vint (by rfl)) rfl (wk_s (v' := V.v (.int .i64 0)) (by kernel_rfl) (vint (by rfl)) rfl (wk_o (o' := ⟨3, 1, true, pl (isl (hts l a))⟩) (by kernel_rfl) (renob_pl (fun h => h)) rfl (wk_o (o' := ⟨3, 1, true, pl (isl (hts l b))⟩) (by kernel_rfl) (renob_pl (fun h => h)) rfl (wk_f rfl (wk_f rfl (wk_f rfl (wk_f rfl (wk_f rfl (wk_nil))))))))))))) ?_
   rintro k inv3
   replace inv3 : k ≤ (hts l a).length := inv3
   have inv := inv3
   have hva := hts_val (l := l) (ds := a) k
   have hvb := hts_val (l := l) (ds := b) k
   have hst := stT_bd l a b k
   refine wp_seq' ?_
   refine wp_seq' ?_
   refine wp_region_t ?_
   refine w1 (mv 25 10 (V.v (.int .i64 ((k : Nat) : Int)))) ?_
   refine w1 (mv 26 7 (V.b (.a (.sl 13 0 ((hts l a).length))))) ?_
   refine w1 (acts_len (d := 27) (X := .sl 13 0 ((hts l a).length)) (n := ((hts l a).length)) (iv := (((hts l a).length : Nat) : Int)) (ltN rfl) qC31_un_22 (OpX.tmp 26 (V.b (.a (.sl 13 0 ((hts l a).length))))) (LenOf.sl _ _ _) rfl) ?_
   refine w1 (bn 28 (OpV.tmp 25 (.int .i64 ((k : Nat) : Int))) (OpV.tmp 27 (.int .i64 (((hts l a).length : Nat) : Int))) (r_lss (c := (decide (((k : Nat) : Int) < (((hts l a).length : Nat) : Int)))) rfl)) ?_
   refine wpl_nil ?_
   refine wp_if (t := 28) (decide (((k : Nat) : Int) < (((hts l a).length : Nat) : Int))) (by kernel_rfl) (fun c4 => ?_) (fun c4 => ?_)
   ·skip
    have c4P := of_decide_eq_true c4
    refine wp_skip' ?_
    refine wp_seq' ?_
    refine wp_block' ?_
    refine wp_drawn' (by kernel_rfl) (AllSteps.cons (step_plain rfl (mv 31 9 (V.v (.int .i64 (stT (hts l a) (hts l b) k))))) (AllSteps.cons (step_plain rfl (mv 32 7 (V.b (.a (.sl 13 0 ((hts l a).length)))))) (AllSteps.cons (step_plain rfl (mv 33 10 (V.v (.int .i64 ((k : Nat) : Int))))) (AllSteps.cons (step_plain rfl (acts_index_sl (d := 34) (x := 32) (h := 13) (off := 0) (n := ((hts l a).length)) (k := k) (off' := (k * 1)) (o := ⟨3, 1, true, pl (isl (hts l a))⟩) (ltN rfl) qC31_un_22 qC31_sz_3 (OpV.tmp 33 (.int .i64 ((k : Nat) : Int))) rfl (by omega) (by (simp; done)))) (AllSteps.cons (step_plain rfl (acts_load_own (d := 35) (t := 34) (h := 13) (off := (k * 1)) (o := ⟨3, 1, true, pl (isl (hts l a))⟩)  (x := .val (.int .i64 (gI (hts l a) k))) (ltN rfl) qC31_ti_3 (pl_get (isl_get1 (k := k) (by omega))))) (AllSteps.cons (step_plain rfl (mv 36 8 (V.b (.a (.sl 16 0 ((hts l b).length)))))) (AllSteps.cons (step_plain rfl (mv 37 10 (V.v (.int .i64 ((k : Nat) : Int))))) (AllSteps.cons (step_plain rfl (acts_index_sl (d := 38) (x := 36) (h := 16) (off := 0) (n := ((hts l b).length)) (k := k) (off' := (k * 1)) (o := ⟨3, 1, true, pl (isl (hts l b))⟩) (ltN rfl) qC31_un_22 qC31_sz_3 (OpV.tmp 37 (.int .i64 ((k : Nat) : Int))) rfl (by omega) (by (simp; done)))) (AllSteps.cons (step_plain rfl (acts_load_own (d := 39) (t := 38) (h := 16) (off := (k * 1)) (o := ⟨3, 1, true, pl (isl (hts l b))⟩)  (x := .val (.int .i64 (gI (hts l b) k))) (ltN rfl) qC31_ti_3 (pl_get (isl_get1 (k := k) (by omega))))) (AllSteps.cons (step_plain rfl (bn 40 (OpV.tmp 35 (.int .i64 (gI (hts l a) k))) (OpV.tmp 39 (.int .i64 (gI (hts l b) k))) (r_sub (c := ((gI (hts l a) k) - (gI (hts l b) k))) (w64 (by omega) (by omega))))) (AllSteps.cons (step_plain rfl (mv 41 8 (V.b (.a (.sl 16 0 ((hts l b).length)))))) (AllSteps.cons (step_plain rfl (mv 42 10 (V.v (.int .i64 ((k : Nat) : Int))))) (AllSteps.cons (step_plain rfl (acts_index_sl (d := 43) (x := 41) (h := 16) (off := 0) (n := ((hts l b).length)) (k := k) (off' := (k * 1)) (o := ⟨3, 1, true, pl (isl (hts l b))⟩) (ltN rfl) qC31_un_22 qC31_sz_3 (OpV.tmp 42 (.int .i64 ((k : Nat) : Int))) rfl (by omega) (by (simp; done)))) (AllSteps.cons (step_plain rfl (acts_load_own (d := 44) (t := 43) (h := 16) (off := (k * 1)) (o := ⟨3, 1, true, pl (isl (hts l b))⟩)  (x := .val (.int .i64 (gI (hts l b) k))) (ltN rfl) qC31_ti_3 (pl_get (isl_get1 (k := k) (by omega))))) (AllSteps.cons (step_plain rfl (mv 45 7 (V.b (.a (.sl 13 0 ((hts l a).length)))))) (AllSteps.cons (step_plain rfl (mv 46 10 (V.v (.int .i64 ((k : Nat) : Int))))) (AllSteps.cons (step_plain rfl (acts_index_sl (d := 47) (x := 45) (h := 13) (off := 0) (n := ((hts l a).length)) (k := k) (off' := (k * 1)) (o := ⟨3, 1, true, pl (isl (hts l a))⟩) (ltN rfl) qC31_un_22 qC31_sz_3 (OpV.tmp 46 (.int .i64 ((k : Nat) : Int))) rfl (by omega) (by (simp; done)))) (AllSteps.cons (step_plain rfl (acts_load_own (d := 48) (t := 47) (h := 13) (off := (k * 1)) (o := ⟨3, 1, true, pl (isl (hts l a))⟩)  (x := .val (.int .i64 (gI (hts l a) k))) (ltN rfl) qC31_ti_3 (pl_get (isl_get1 (k := k) (by omega))))) (AllSteps.cons (step_plain rfl (bn 49 (OpV.tmp 44 (.int .i64 (gI (hts l b) k))) (OpV.tmp 48 (.int .i64 (gI (hts l a) k))) (r_sub (c := ((gI (hts l b) k) - (gI (hts l a) k))) (w64 (by omega) (by omega))))) (AllSteps.cons (step_plain rfl (acts_max (d := 50) (c := (max ((gI (hts l a) k) - (gI (hts l b) k)) ((gI (hts l b) k) - (gI (hts l a) k)))) (ltN rfl) (OpV.tmp 40 (.int .i64 ((gI (hts l a) k) - (gI (hts l b) k)))) (OpV.tmp 49 (.int .i64 ((gI (hts l b) k) - (gI (hts l a) k)))) (by omega))) (AllSteps.cons (step_plain rfl (bn 51 (OpV.tmp 31 (.int .i64 (stT (hts l a) (hts l b) k))) (OpV.tmp 50 (.int .i64 (max ((gI (hts l a) k) - (gI (hts l b) k)) ((gI (hts l b) k) - (gI (hts l a) k))))) (r_add (c := ((stT (hts l a) (hts l b) k) + (max ((gI (hts l a) k) - (gI (hts l b) k)) ((gI (hts l b) k) - (gI (hts l a) k))))) (w64 (by omega) (by omega))))) (AllSteps.cons (step_plain rfl (asg 9 51 (V.v (.int .i64 ((stT (hts l a) (hts l b) k) + (max ((gI (hts l a) k) - (gI (hts l b) k)) ((gI (hts l b) k) - (gI (hts l a) k)))))))) (AllSteps.nil))))))))))))))))))))))) (by kernel_rfl) (by kernel_rfl) (by kernel_rfl) ?_
    refine wp_region_t ?_
    refine w1 (mv 29 10 (V.v (.int .i64 ((k : Nat) : Int)))) ?_
    refine w1 (bn 30 (OpV.tmp 29 (.int .i64 ((k : Nat) : Int))) (OpV.const (.int .i64 1)) (r_add (c := (((k : Nat) : Int) + 1)) (w64 (by omega) (by omega)))) ?_
    refine w1 (asg 10 30 (V.v (.int .i64 (((k : Nat) : Int) + 1)))) ?_
    refine wpl_nil ?_
    exact loop_back ((k + 1)) (by show _ ≤ _; omega) (by show (hts l a).length - (k + 1) < (hts l a).length - k; omega) (weak_of id [3, 18, 22, 27, 50] (by kernel_rfl) (wk_s (v' := V.b (.a (.sl 13 0 ((hts l a).length)))) (by kernel_rfl) rfl rfl (wk_s (v' := V.b (.a (.sl 16 0 ((hts l b).length)))) (by kernel_rfl) rfl rfl (wk_s (v' := V.v (.int .i64 ((stT (hts l a) (hts l b) k) + (max ((gI (hts l a) k) - (gI (hts l b) k)) ((gI (hts l b) k) - (gI (hts l a) k)))))) (by kernel_rfl) (vint (by (rw [iabs_max]; exact stT_snoc _ _ _))) rfl (wk_s (v' := V.v (.int .i64 (((k : Nat) : Int) + 1))) (by kernel_rfl) (vint (by rfl)) rfl (wk_o (o' := ⟨3, 1, true, pl (isl (hts l a))⟩) (by kernel_rfl) (renob_pl (fun h => h)) rfl (wk_o (o' := ⟨3, 1, true, pl (isl (hts l b))⟩) (by kernel_rfl) (renob_pl (fun h => h)) rfl (wk_f rfl (wk_f rfl (wk_f rfl (wk_f rfl (wk_f rfl (wk_nil)))))))))))))
   ·skip
    have c4P := of_decide_eq_false c4
    refine wp_exit' ?_
    refine wp_seq' ?_
    refine wp_region_t ?_
    refine w1 (mv 52 9 (V.v (.int .i64 (stT (hts l a) (hts l b) k)))) ?_
    refine w1 (bn 53 (OpV.tmp 52 (.int .i64 (stT (hts l a) (hts l b) k))) (OpV.const (.int .i64 4)) (r_quo (c := ((stT (hts l a) (hts l b) k) / 4)) (by omega) (quoI (by omega) (by omega) (by omega)))) ?_
    refine w1 (asg 6 53 (V.v (.int .i64 ((stT (hts l a) (hts l b) k) / 4)))) ?_
    refine wpl_nil ?_
    refine wp_ret' ?_
    exact VRes.tmp 6 (.a (.val (.int .i64 ((stT (hts l a) (hts l b) k) / 4)))) _ (by kernel_rfl) (bval (congrArg (Value.int .i64) (by exact step_yes (by rw [(len_okH (l := l) (ds := a) (by omega)).1, (len_okH (l := l) (ds := b) (by omega)).1]; rfl) (by omega))))
end Cl
end Go.Proofs.Ytmbodpmhokbapaa
