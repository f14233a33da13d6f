/- Walks over clean states, printed by wg.py. No statement is proved here. -/
import Derived.Test.YtmbodpmhokbapaaCl18
import Derived.Test.YtmbodpmhokbapaaC22
namespace Go.Proofs.Ytmbodpmhokbapaa
namespace Cl
open Go.ChangeShapes Go.WideShapes Go.ChangeAt Go.RowKit

def kxy (x y : Int) : Nat := (y * 10 + x).toNat
def frB (s : Nat) (L : List Nat) (x y : Int) : Bool := (inB x 0 9 && inB y 0 9) && (!(gB (mkB L) (kxy x y)) && !(hasS s ⟨x - 1, y - 1⟩))
theorem kxy_at {x y : Int} (hx : 0 ≤ x ∧ x ≤ 9) (hy : 0 ≤ y ∧ y ≤ 9) : kxy x y % 10 = x.toNat ∧ kxy x y / 10 = y.toNat ∧ kxy x y < 100 := by unfold kxy; omega
theorem c10_kxy {x y : Int} (hx : 0 ≤ x ∧ x ≤ 9) (hy : 0 ≤ y ∧ y ≤ 9) : c10 (kxy x y) = ⟨x - 1, y - 1⟩ := by
  obtain ⟨h1, h2, _⟩ := kxy_at hx hy
  unfold c10; rw [h1, h2]
  simp only [Cel.mk.injEq]; omega
theorem free_kxy {s : Nat} {x y : Int} (hx : 0 ≤ x ∧ x ≤ 9) (hy : 0 ≤ y ∧ y ≤ 9) : free10 s (kxy x y) = !(hasS s ⟨x - 1, y - 1⟩) := by
  unfold free10; rw [c10_kxy hx hy, decide_eq_true (kxy_at hx hy).2.2, Bool.true_and]
theorem frB_in {s : Nat} {L : List Nat} {x y : Int} (hx : 0 ≤ x ∧ x ≤ 9) (hy : 0 ≤ y ∧ y ≤ 9) : frB s L x y = (free10 s (kxy x y) && !decide (kxy x y ∈ L)) := by
  unfold frB
  rw [inB_true.2 hx, inB_true.2 hy, gB_mkB (kxy_at hx hy).2.2, free_kxy hx hy, Bool.and_comm (!(decide _))]; rfl
theorem off_kxy {x y : Int} (hx : 0 ≤ x ∧ x ≤ 9) (hy : 0 ≤ y ∧ y ≤ 9) {p q : Nat} (hq : q < 3) : off10 (kxy x y) (3 * p + q) = (inB (x + ((q : Int) - 1)) 0 9 && inB (y + ((p : Int) - 1)) 0 9) := by
  obtain ⟨h1, h2, _⟩ := kxy_at hx hy
  have e1 : (3 * p + q) % 3 = q := by omega
  have e2 : (3 * p + q) / 3 = p := by omega
  unfold off10
  rw [h1, h2, e1, e2, Bool.eq_iff_iff]
  simp only [Bool.and_eq_true, decide_eq_true_eq, inB_true]
  omega
theorem at_kxy {x y : Int} (hx : 0 ≤ x ∧ x ≤ 9) (hy : 0 ≤ y ∧ y ≤ 9) {p q : Nat} (hq : q < 3) (hx2 : 0 ≤ x + ((q : Int) - 1)) (hy2 : 0 ≤ y + ((p : Int) - 1)) : at10 (kxy x y) (3 * p + q) = kxy (x + ((q : Int) - 1)) (y + ((p : Int) - 1)) := by
  obtain ⟨h1, h2, _⟩ := kxy_at hx hy
  have e1 : (3 * p + q) % 3 = q := by omega
  have e2 : (3 * p + q) / 3 = p := by omega
  unfold at10
  rw [h1, h2, e1, e2]
  unfold kxy; omega
theorem frB_out {s : Nat} {L : List Nat} {x y : Int} (h : frB s L x y = true) : (0 ≤ x ∧ x ≤ 9) ∧ (0 ≤ y ∧ y ≤ 9) := by
  unfold frB at h; simp only [Bool.and_eq_true, inB_true] at h; exact h.1
def nbT (k t : Nat) : List Nat := ((List.range t).filter (off10 k)).map (at10 k)
theorem nbT_yes {k t : Nat} (h : off10 k t = true) : nbT k (t + 1) = nbT k t ++ [at10 k t] := by
  unfold nbT; rw [List.range_succ, List.filter_append, List.map_append]; simp [h]
theorem nbT_no {k t : Nat} (h : off10 k t = false) : nbT k (t + 1) = nbT k t := by
  unfold nbT; rw [List.range_succ, List.filter_append, List.map_append]; simp [h]
/-- deep search, on its way -/
structure DT (s n : Nat) (x y : Int) (L : List Nat) (t : Nat) (M : List Nat) : Prop where
  eq : M = (nbT (kxy x y) t).foldl (dfsW (free10 s) (dfs nb10 (free10 s) n)) (L ++ [kxy x y])
  nd : M.Nodup
  lt : ∀ z, z ∈ M → z < 100
  le : L.length + 1 ≤ M.length
theorem DT.zero {s n : Nat} {x y : Int} {L : List Nat} (hx : 0 ≤ x ∧ x ≤ 9) (hy : 0 ≤ y ∧ y ≤ 9) (hn : L.Nodup) (hl : ∀ z, z ∈ L → z < 100) (hk : kxy x y ∉ L) : DT s n x y L 0 (L ++ [kxy x y]) := by
  refine ⟨rfl, ?_, fun z hz => ?_, by simp⟩
  · rw [List.nodup_append]
    refine ⟨hn, by simp, fun a ha b hb e => ?_⟩
    rw [List.mem_singleton] at hb; subst hb; subst e; exact hk ha
  · rw [List.mem_append, List.mem_singleton] at hz
    rcases hz with hz | rfl
    · exact hl z hz
    · exact (kxy_at hx hy).2.2
theorem DT.no {s n : Nat} {x y : Int} {L M : List Nat} {p q : Nat} (h : DT s n x y L (3 * p + q) M) (hx : 0 ≤ x ∧ x ≤ 9) (hy : 0 ≤ y ∧ y ≤ 9) (hq : q < 3) (hf : frB s M (x + ((q : Int) - 1)) (y + ((p : Int) - 1)) = false) : DT s n x y L (3 * p + (q + 1)) M := by
  refine ⟨?_, h.nd, h.lt, h.le⟩
  rw [show 3 * p + (q + 1) = 3 * p + q + 1 from rfl]
  rcases Bool.eq_false_or_eq_true (off10 (kxy x y) (3 * p + q)) with ho | ho
  · rw [nbT_yes ho, List.foldl_append, ← h.eq]
    rw [off_kxy hx hy hq, Bool.and_eq_true, inB_true, inB_true] at ho
    rw [frB_in ho.1 ho.2] at hf
    show M = dfsW (free10 s) (dfs nb10 (free10 s) n) M (at10 (kxy x y) (3 * p + q))
    unfold dfsW
    rw [at_kxy hx hy hq ho.1.1 ho.2.1, hf]; rfl
  · rw [nbT_no ho]; exact h.eq
theorem DT.more {s n : Nat} {x y : Int} {L M : List Nat} {p q : Nat} (h : DT s n x y L (3 * p + q) M) (hf : frB s M (x + ((q : Int) - 1)) (y + ((p : Int) - 1)) = true) (hN : 100 < n + 1 + L.length) : (0 ≤ x + ((q : Int) - 1) ∧ x + ((q : Int) - 1) ≤ 9) ∧ (0 ≤ y + ((p : Int) - 1) ∧ y + ((p : Int) - 1) ≤ 9) ∧ free10 s (kxy (x + ((q : Int) - 1)) (y + ((p : Int) - 1))) = true ∧ kxy (x + ((q : Int) - 1)) (y + ((p : Int) - 1)) ∉ M ∧ 100 < n + M.length := by
  obtain ⟨h1, h2⟩ := frB_out hf
  rw [frB_in h1 h2] at hf
  simp only [Bool.and_eq_true, Bool.not_eq_true', decide_eq_false_iff_not] at hf
  have := h.le
  exact ⟨h1, h2, hf.1, hf.2, by omega⟩
theorem DT.yes {s n : Nat} {x y : Int} {L M : List Nat} {p q : Nat} (h : DT s n x y L (3 * p + q) M) (hx : 0 ≤ x ∧ x ≤ 9) (hy : 0 ≤ y ∧ y ≤ 9) (hq : q < 3) (hf : frB s M (x + ((q : Int) - 1)) (y + ((p : Int) - 1)) = true) (hN : 100 < n + 1 + L.length) : DT s n x y L (3 * p + (q + 1)) (dfs nb10 (free10 s) n M (kxy (x + ((q : Int) - 1)) (y + ((p : Int) - 1)))) := by
  obtain ⟨h1, h2, h3, h4, h5⟩ := h.more hf hN
  obtain ⟨e, d, _⟩ := dfs_inv (ok := free10 s) nb10_lt n M _ h.nd h.lt h4 (kxy_at h1 h2).2.2 h5
  refine ⟨?_, d.nd, d.lt, ?_⟩
  · have ho : off10 (kxy x y) (3 * p + q) = true := by rw [off_kxy hx hy hq, inB_true.2 h1, inB_true.2 h2]; rfl
    rw [show 3 * p + (q + 1) = 3 * p + q + 1 from rfl, nbT_yes ho, List.foldl_append, ← h.eq]
    show _ = dfsW (free10 s) (dfs nb10 (free10 s) n) M (at10 (kxy x y) (3 * p + q))
    unfold dfsW
    rw [at_kxy hx hy hq h1.1 h2.1, if_pos (by simp [h3, h4])]
  · rw [d.eq]; have := h.le; simp only [List.length_append]; omega
theorem DT.end {s n : Nat} {x y : Int} {L M : List Nat} {p : Nat} (h : DT s n x y L (3 * p) M) (hp : p = 3) : M = dfs nb10 (free10 s) (n + 1) L (kxy x y) := by
  subst hp; exact h.eq
noncomputable def rt (s k : Nat) : Nat := roots nb10 (free10 s) k
theorem rt_le (s k : Nat) : rt s k ≤ k := roots_le _ _ _
theorem scan_no {s : Nat} {L : List Nat} {a b : Nat} (h : ScanI s (10 * a + b) L) (ha : a < 10) (hb : b < 10) (hf : frB s L (b : Int) (a : Int) = false) : ScanI s (10 * a + (b + 1)) L ∧ rt s (10 * a + (b + 1)) = rt s (10 * a + b) := by
  have e : kxy (b : Int) (a : Int) = 10 * a + b := by unfold kxy; omega
  rw [frB_in (by omega) (by omega), e] at hf
  have := h.skip (by
    rcases Bool.eq_false_or_eq_true (free10 s (10 * a + b)) with h1 | h1
    · rw [h1] at hf; simp at hf; exact .inr hf
    · exact .inl h1)
  exact ⟨this.1, roots_no this.2⟩
theorem scan_yes {s : Nat} {L : List Nat} {a b : Nat} (h : ScanI s (10 * a + b) L) (ha : a < 10) (hb : b < 10) (hf : frB s L (b : Int) (a : Int) = true) : kxy (b : Int) (a : Int) ∉ L ∧ ScanI s (10 * a + (b + 1)) (dfs nb10 (free10 s) 101 L (kxy (b : Int) (a : Int))) ∧ rt s (10 * a + (b + 1)) = rt s (10 * a + b) + 1 := by
  have e : kxy (b : Int) (a : Int) = 10 * a + b := by unfold kxy; omega
  rw [frB_in (by omega) (by omega), e] at hf
  simp only [Bool.and_eq_true, Bool.not_eq_true', decide_eq_false_iff_not] at hf
  have := h.deep (n := 101) hf.1 hf.2 (by omega)
  rw [e]
  exact ⟨hf.2, this.1, roots_yes this.2⟩
noncomputable def hol (l : List Int) : Int := if regOk l = true then (holesN (regSet l) : Int) - 1 else 0
theorem hol_no {l : List Int} (h : regOk l = false) : hol l = 0 := by unfold hol; rw [h]; rfl
theorem hol_yes {l : List Int} (h : regOk l = true) : hol l = (rt (regSet l) 100 : Int) - 1 := by unfold hol; rw [if_pos h]; rfl

theorem qC23_sz_4 : (Try.prog.info? 4).map (·.size) = some 1 := by kernel_rfl
theorem qC23_ti_4 : TI Try.prog 4 false 1 := ⟨⟨_, Try.underlying4, rfl⟩, by kernel_rfl⟩
theorem qC23_ti_65 : TI Try.prog 65 false 1 := ⟨⟨_, Try.underlying65, rfl⟩, by kernel_rfl⟩
theorem qC23_ti_84 : TI Try.prog 84 false 1 := ⟨⟨_, Try.underlying84, rfl⟩, by kernel_rfl⟩
theorem qC23_ti_98 : TI Try.prog 98 false 1 := ⟨⟨_, Try.underlying98, rfl⟩, by kernel_rfl⟩
theorem qC23_un_97 : Try.prog.underlying 97 = some (.array 100 4) := Try.underlying97
set_option maxHeartbeats 4000000 in
set_option maxRecDepth 100000 in
theorem impl_CountHoles_1_fn (s : Nat) (L : List Nat) (x y : Int) (hs : s < 18446744073709551616) (hx : -4 ≤ x ∧ x ≤ 20) (hy : -4 ≤ y ∧ y ≤ 20) : FnO Try.prog 94 [.a (.val (.int .i64 x)), .a (.val (.int .i64 y)), .a (.ptr 2 0), .a (.ptr 3 0)] [(.o 2, some (.o ⟨97, 1, true, pl (bsl (mkB L))⟩)), (.o 3, some (.o ⟨65, 1, true, [(.val (.int .u64 ((s : Nat) : Int)) : A)]⟩))] (V.v (.bool (frB s L x y))) [(.o 2, some (.o ⟨97, 1, true, pl (bsl (mkB L))⟩)), (.o 3, some (.o ⟨65, 1, true, [(.val (.int .u64 ((s : Nat) : Int)) : A)]⟩))] [2, 3] := by
 have hml := mkB_len L
 refine fn_introO (N := 32) Try.func94 rfl (by kernel_rfl) rfl (Nat.le_of_ble_eq_true rfl) rfl rfl (by kernel_rfl) (by kernel_rfl) ⟨oc_pl (fun _ => rfl), ocs (by kernel_rfl), trivial⟩ [8, 11, 29] (retO1 rfl) (fun W own kp im0 => ?_)
 show Wp _ _ _ [(.s 0, some (.s (V.v (.int .i64 x)))), (.s 1, some (.s (V.v (.int .i64 y)))), (.s 2, some (.s (V.p 2 0))), (.s 3, some (.s (V.p 3 0))), (.o 2, some (.o ⟨97, 1, true, pl (bsl (mkB L))⟩)), (.o 3, some (.o ⟨65, 1, true, [(.val (.int .u64 ((s : Nat) : Int)) : A)]⟩)), (.o 8, some .free), (.o 11, some .free), (.o 29, some .free)]
 refine wp_seq' ?_
 refine wp_region_t ?_
 refine w1 (acts_assign (d := 6) (ltN rfl) (OpX.const (.bool false))) ?_
 refine wpl_nil ?_
 refine wp_seq' ?_
 rcases Bool.eq_false_or_eq_true ((inB x 0 9)) with c1 | c1
 ·skip
  have hx1 := inB_true.1 c1
  rcases Bool.eq_false_or_eq_true ((inB y 0 9)) with c2 | c2
  ·skip
   have hy1 := inB_true.1 c2
   rcases Bool.eq_false_or_eq_true ((gB (mkB L) (((y * 10) + x).toNat))) with c3 | c3
   ·skip
    refine wp_region_t ?_
    refine w1 (mv 7 0 (V.v (.int .i64 x))) ?_
    refine w1 (acts_call1 (d := 8) (ltN rfl) (impl_within_fn x 0 9 ) (ArgVs.cons (ArgV.v (OpV.tmp 7 (.int .i64 x))) (ArgVs.cons (ArgV.v (OpV.const (.int .i64 0))) (ArgVs.cons (ArgV.v (OpV.const (.int .i64 9))) (ArgVs.nil)))) ((resval (congrArg Value.bool c1)))) ?_
    refine w1 (mv 9 8 (V.v (.bool true))) ?_
    refine w2 (step_on (dj := 9) rfl rfl (mv 10 1 (V.v (.int .i64 y)))) ?_
    refine w2 (step_on (dj := 9) rfl rfl (acts_call1 (d := 11) (ltN rfl) (impl_within_fn y 0 9 ) (ArgVs.cons (ArgV.v (OpV.tmp 10 (.int .i64 y))) (ArgVs.cons (ArgV.v (OpV.const (.int .i64 0))) (ArgVs.cons (ArgV.v (OpV.const (.int .i64 9))) (ArgVs.nil)))) ((resval (congrArg Value.bool c2))))) ?_
    refine w1 (acts_pick_t (d := 12) (ltN rfl) (OpV.tmp 9 (.bool true)) (OpX.tmp 11 (V.v (.bool true)))) ?_
    refine w1 (mv 13 12 (V.v (.bool true))) ?_
    refine w2 (step_on (dj := 13) rfl rfl (mv 14 1 (V.v (.int .i64 y)))) ?_
    refine w2 (step_on (dj := 13) rfl rfl (bn 15 (OpV.tmp 14 (.int .i64 y)) (OpV.const (.int .i64 10)) (r_mul (c := (y * 10)) (w64 (by omega) (by omega))))) ?_
    refine w2 (step_on (dj := 13) rfl rfl (mv 16 0 (V.v (.int .i64 x)))) ?_
    refine w2 (step_on (dj := 13) rfl rfl (bn 17 (OpV.tmp 15 (.int .i64 (y * 10))) (OpV.tmp 16 (.int .i64 x)) (r_add (c := ((y * 10) + x)) (w64 (by omega) (by omega))))) ?_
    refine w2 (step_on (dj := 13) rfl rfl (acts_index_arr (d := 18) (x := 2) (h := 2) (off := 0) (k := (((y * 10) + x).toNat)) (off' := ((((y * 10) + x).toNat) * 1)) (ltN rfl) qC23_un_97 qC23_sz_4 (OpV.tmp 17 (.int .i64 ((y * 10) + x))) (Int.toNat_of_nonneg (by omega)).symm (by omega) (by simp))) ?_
    refine w2 (step_on (dj := 13) rfl rfl (acts_load_own (d := 19) (t := 18) (h := 2) (off := ((((y * 10) + x).toNat) * 1)) (o := ⟨97, 1, true, pl (bsl (mkB L))⟩)  (x := .val (.bool true)) (ltN rfl) qC23_ti_4 (pl_get ((bsl_get1 (k := (((y * 10) + x).toNat)) (by omega)).trans (congrArg (fun b : Bool => some (Value.bool b)) c3))))) ?_
    refine w2 (step_on (dj := 13) rfl rfl (acts_un (d := 20) (ltN rfl) (OpV.tmp 19 (.bool true)) (r_not (c := false) rfl))) ?_
    refine w1 (acts_pick_t (d := 21) (ltN rfl) (OpV.tmp 13 (.bool true)) (OpX.tmp 20 (V.v (.bool false)))) ?_
    refine w1 (mv 22 21 (V.v (.bool false))) ?_
    refine w2 (step_off (dj := 22) (b' := false) rfl rfl (by decide) rfl (ltN rfl)) ?_
    refine w2 (step_off (dj := 22) (b' := false) rfl rfl (by decide) rfl (ltN rfl)) ?_
    refine w2 (step_off (dj := 22) (b' := false) rfl rfl (by decide) rfl (ltN rfl)) ?_
    refine w2 (step_off (dj := 22) (b' := false) rfl rfl (by decide) rfl (ltN rfl)) ?_
    refine w2 (step_off (dj := 22) (b' := false) rfl rfl (by decide) rfl (ltN rfl)) ?_
    refine w2 (step_off (dj := 22) (b' := false) rfl rfl (by decide) rfl (ltN rfl)) ?_
    refine w2 (step_off (dj := 22) (b' := false) rfl rfl (by decide) rfl (ltN rfl)) ?_
    refine w2 (step_off (dj := 22) (b' := false) rfl rfl (by decide) rfl (ltN rfl)) ?_
    refine w1 (acts_pick_f (d := 31) (ltN rfl) (OpV.tmp 22 (.bool false)) (OpX.const (.bool false))) ?_
    refine w1 (asg 6 31 (V.v (.bool false))) ?_
    refine wpl_nil ?_
    refine wp_ret' ?_
    exact ⟨_, weak_id, ⟨by kernel_rfl, by kernel_rfl, trivial⟩, vo_eq 6 (.a (.val (.bool false))) (.a (.val (.bool (frB s L x y)))) (by kernel_rfl) (congrArg (fun z : Bool => B.a (.val (.bool z))) (by (unfold frB kxy; simp_all; done)))⟩
   ·skip
    refine wp_region_t ?_
    refine w1 (mv 7 0 (V.v (.int .i64 x))) ?_
    refine w1 (acts_call1 (d := 8) (ltN rfl) (impl_within_fn x 0 9 ) (ArgVs.cons (ArgV.v (OpV.tmp 7 (.int .i64 x))) (ArgVs.cons (ArgV.v (OpV.const (.int .i64 0))) (ArgVs.cons (ArgV.v (OpV.const (.int .i64 9))) (ArgVs.nil)))) ((resval (congrArg Value.bool c1)))) ?_
    refine w1 (mv 9 8 (V.v (.bool true))) ?_
    refine w2 (step_on (dj := 9) rfl rfl (mv 10 1 (V.v (.int .i64 y)))) ?_
    refine w2 (step_on (dj := 9) rfl rfl (acts_call1 (d := 11) (ltN rfl) (impl_within_fn y 0 9 ) (ArgVs.cons (ArgV.v (OpV.tmp 10 (.int .i64 y))) (ArgVs.cons (ArgV.v (OpV.const (.int .i64 0))) (ArgVs.cons (ArgV.v (OpV.const (.int .i64 9))) (ArgVs.nil)))) ((resval (congrArg Value.bool c2))))) ?_
    refine w1 (acts_pick_t (d := 12) (ltN rfl) (OpV.tmp 9 (.bool true)) (OpX.tmp 11 (V.v (.bool true)))) ?_
    refine w1 (mv 13 12 (V.v (.bool true))) ?_
    refine w2 (step_on (dj := 13) rfl rfl (mv 14 1 (V.v (.int .i64 y)))) ?_
    refine w2 (step_on (dj := 13) rfl rfl (bn 15 (OpV.tmp 14 (.int .i64 y)) (OpV.const (.int .i64 10)) (r_mul (c := (y * 10)) (w64 (by omega) (by omega))))) ?_
    refine w2 (step_on (dj := 13) rfl rfl (mv 16 0 (V.v (.int .i64 x)))) ?_
    refine w2 (step_on (dj := 13) rfl rfl (bn 17 (OpV.tmp 15 (.int .i64 (y * 10))) (OpV.tmp 16 (.int .i64 x)) (r_add (c := ((y * 10) + x)) (w64 (by omega) (by omega))))) ?_
    refine w2 (step_on (dj := 13) rfl rfl (acts_index_arr (d := 18) (x := 2) (h := 2) (off := 0) (k := (((y * 10) + x).toNat)) (off' := ((((y * 10) + x).toNat) * 1)) (ltN rfl) qC23_un_97 qC23_sz_4 (OpV.tmp 17 (.int .i64 ((y * 10) + x))) (Int.toNat_of_nonneg (by omega)).symm (by omega) (by simp))) ?_
    refine w2 (step_on (dj := 13) rfl rfl (acts_load_own (d := 19) (t := 18) (h := 2) (off := ((((y * 10) + x).toNat) * 1)) (o := ⟨97, 1, true, pl (bsl (mkB L))⟩)  (x := .val (.bool false)) (ltN rfl) qC23_ti_4 (pl_get ((bsl_get1 (k := (((y * 10) + x).toNat)) (by omega)).trans (congrArg (fun b : Bool => some (Value.bool b)) c3))))) ?_
    refine w2 (step_on (dj := 13) rfl rfl (acts_un (d := 20) (ltN rfl) (OpV.tmp 19 (.bool false)) (r_not (c := true) rfl))) ?_
    refine w1 (acts_pick_t (d := 21) (ltN rfl) (OpV.tmp 13 (.bool true)) (OpX.tmp 20 (V.v (.bool true)))) ?_
    refine w1 (mv 22 21 (V.v (.bool true))) ?_
    refine w2 (step_on (dj := 22) rfl rfl (acts_load_own (d := 23) (t := 3) (h := 3) (off := 0) (o := ⟨65, 1, true, [(.val (.int .u64 ((s : Nat) : Int)) : A)]⟩)  (x := .val (.int .u64 ((s : Nat) : Int))) (ltN rfl) qC23_ti_65 rfl)) ?_
    refine w2 (step_on (dj := 22) rfl rfl (mv 24 0 (V.v (.int .i64 x)))) ?_
    refine w2 (step_on (dj := 22) rfl rfl (bn 25 (OpV.tmp 24 (.int .i64 x)) (OpV.const (.int .i64 1)) (r_sub (c := (x - 1)) (w64 (by omega) (by omega))))) ?_
    refine w2 (step_on (dj := 22) rfl rfl (mv 26 1 (V.v (.int .i64 y)))) ?_
    refine w2 (step_on (dj := 22) rfl rfl (bn 27 (OpV.tmp 26 (.int .i64 y)) (OpV.const (.int .i64 1)) (r_sub (c := (y - 1)) (w64 (by omega) (by omega))))) ?_
    refine w2 (step_on (dj := 22) rfl rfl (acts_build (d := 28) (t := 53) (cells := [(.int .i64 (x - 1) : Value), .int .i64 (y - 1)]) (ltN rfl) (OpVs.cons (i := 0) (OpV.tmp 25 (.int .i64 (x - 1))) (OpVs.cons (i := 1) (OpV.tmp 27 (.int .i64 (y - 1))) (OpVs.nil))) rfl)) ?_
    refine w2 (step_on (dj := 22) rfl rfl (acts_call1 (d := 29) (ltN rfl) (impl_set__has_fn s (⟨(x - 1), (y - 1)⟩ : Cel) (by omega)) (ArgVs.cons (ArgV.v (OpV.tmp 23 (.int .u64 ((s : Nat) : Int)))) (ArgVs.cons (ArgV.va (vs := [(.int .i64 (x - 1) : Value), .int .i64 (y - 1)]) (OpV.agg 28 [(.int .i64 (x - 1) : Value), .int .i64 (y - 1)])) (ArgVs.nil))) (ResV.val _))) ?_
    refine w2 (step_on (dj := 22) rfl rfl (acts_un (d := 30) (ltN rfl) (OpV.tmp 29 (.bool (hasS s (⟨(x - 1), (y - 1)⟩ : Cel)))) (r_not (c := (!(hasS s (⟨(x - 1), (y - 1)⟩ : Cel)))) rfl))) ?_
    refine w1 (acts_pick_t (d := 31) (ltN rfl) (OpV.tmp 22 (.bool true)) (OpX.tmp 30 (V.v (.bool (!(hasS s (⟨(x - 1), (y - 1)⟩ : Cel))))))) ?_
    refine w1 (asg 6 31 (V.v (.bool (!(hasS s (⟨(x - 1), (y - 1)⟩ : Cel)))))) ?_
    refine wpl_nil ?_
    refine wp_ret' ?_
    exact ⟨_, weak_id, ⟨by kernel_rfl, by kernel_rfl, trivial⟩, vo_eq 6 (.a (.val (.bool (!(hasS s (⟨(x - 1), (y - 1)⟩ : Cel)))))) (.a (.val (.bool (frB s L x y)))) (by kernel_rfl) (congrArg (fun z : Bool => B.a (.val (.bool z))) (by (unfold frB kxy; simp_all; done)))⟩
  ·skip
   have c2Q := inB_false.1 c2
   refine wp_region_t ?_
   refine w1 (mv 7 0 (V.v (.int .i64 x))) ?_
   refine w1 (acts_call1 (d := 8) (ltN rfl) (impl_within_fn x 0 9 ) (ArgVs.cons (ArgV.v (OpV.tmp 7 (.int .i64 x))) (ArgVs.cons (ArgV.v (OpV.const (.int .i64 0))) (ArgVs.cons (ArgV.v (OpV.const (.int .i64 9))) (ArgVs.nil)))) ((resval (congrArg Value.bool c1)))) ?_
   refine w1 (mv 9 8 (V.v (.bool true))) ?_
   refine w2 (step_on (dj := 9) rfl rfl (mv 10 1 (V.v (.int .i64 y)))) ?_
   refine w2 (step_on (dj := 9) rfl rfl (acts_call1 (d := 11) (ltN rfl) (impl_within_fn y 0 9 ) (ArgVs.cons (ArgV.v (OpV.tmp 10 (.int .i64 y))) (ArgVs.cons (ArgV.v (OpV.const (.int .i64 0))) (ArgVs.cons (ArgV.v (OpV.const (.int .i64 9))) (ArgVs.nil)))) ((resval (congrArg Value.bool c2))))) ?_
   refine w1 (acts_pick_t (d := 12) (ltN rfl) (OpV.tmp 9 (.bool true)) (OpX.tmp 11 (V.v (.bool false)))) ?_
   refine w1 (mv 13 12 (V.v (.bool false))) ?_
   refine w2 (step_off (dj := 13) (b' := false) rfl rfl (by decide) rfl (ltN rfl)) ?_
   refine w2 (step_off (dj := 13) (b' := false) rfl rfl (by decide) rfl (ltN rfl)) ?_
   refine w2 (step_off (dj := 13) (b' := false) rfl rfl (by decide) rfl (ltN rfl)) ?_
   refine w2 (step_off (dj := 13) (b' := false) rfl rfl (by decide) rfl (ltN rfl)) ?_
   refine w2 (step_off (dj := 13) (b' := false) rfl rfl (by decide) rfl (ltN rfl)) ?_
   refine w2 (step_off (dj := 13) (b' := false) rfl rfl (by decide) rfl (ltN rfl)) ?_
   refine w2 (step_off (dj := 13) (b' := false) rfl rfl (by decide) rfl (ltN rfl)) ?_
   refine w1 (acts_pick_f (d := 21) (ltN rfl) (OpV.tmp 13 (.bool false)) (OpX.const (.bool false))) ?_
   refine w1 (mv 22 21 (V.v (.bool false))) ?_
   refine w2 (step_off (dj := 22) (b' := false) rfl rfl (by decide) rfl (ltN rfl)) ?_
   refine w2 (step_off (dj := 22) (b' := false) rfl rfl (by decide) rfl (ltN rfl)) ?_
   refine w2 (step_off (dj := 22) (b' := false) rfl rfl (by decide) rfl (ltN rfl)) ?_
   refine w2 (step_off (dj := 22) (b' := false) rfl rfl (by decide) rfl (ltN rfl)) ?_
   refine w2 (step_off (dj := 22) (b' := false) rfl rfl (by decide) rfl (ltN rfl)) ?_
   refine w2 (step_off (dj := 22) (b' := false) rfl rfl (by decide) rfl (ltN rfl)) ?_
   refine w2 (step_off (dj := 22) (b' := false) rfl rfl (by decide) rfl (ltN rfl)) ?_
   refine w2 (step_off (dj := 22) (b' := false) rfl rfl (by decide) rfl (ltN rfl)) ?_
   refine w1 (acts_pick_f (d := 31) (ltN rfl) (OpV.tmp 22 (.bool false)) (OpX.const (.bool false))) ?_
   refine w1 (asg 6 31 (V.v (.bool false))) ?_
   refine wpl_nil ?_
   refine wp_ret' ?_
   exact ⟨_, weak_id, ⟨by kernel_rfl, by kernel_rfl, trivial⟩, vo_eq 6 (.a (.val (.bool false))) (.a (.val (.bool (frB s L x y)))) (by kernel_rfl) (congrArg (fun z : Bool => B.a (.val (.bool z))) (by (unfold frB kxy; simp_all; done)))⟩
 ·skip
  have c1Q := inB_false.1 c1
  refine wp_region_t ?_
  refine w1 (mv 7 0 (V.v (.int .i64 x))) ?_
  refine w1 (acts_call1 (d := 8) (ltN rfl) (impl_within_fn x 0 9 ) (ArgVs.cons (ArgV.v (OpV.tmp 7 (.int .i64 x))) (ArgVs.cons (ArgV.v (OpV.const (.int .i64 0))) (ArgVs.cons (ArgV.v (OpV.const (.int .i64 9))) (ArgVs.nil)))) ((resval (congrArg Value.bool c1)))) ?_
  refine w1 (mv 9 8 (V.v (.bool false))) ?_
  refine w2 (step_off (dj := 9) (b' := false) rfl rfl (by decide) rfl (ltN rfl)) ?_
  refine w2 (step_off (dj := 9) (b' := false) rfl rfl (by decide) rfl (ltN rfl)) ?_
  refine w1 (acts_pick_f (d := 12) (ltN rfl) (OpV.tmp 9 (.bool false)) (OpX.const (.bool false))) ?_
  refine w1 (mv 13 12 (V.v (.bool false))) ?_
  refine w2 (step_off (dj := 13) (b' := false) rfl rfl (by decide) rfl (ltN rfl)) ?_
  refine w2 (step_off (dj := 13) (b' := false) rfl rfl (by decide) rfl (ltN rfl)) ?_
  refine w2 (step_off (dj := 13) (b' := false) rfl rfl (by decide) rfl (ltN rfl)) ?_
  refine w2 (step_off (dj := 13) (b' := false) rfl rfl (by decide) rfl (ltN rfl)) ?_
  refine w2 (step_off (dj := 13) (b' := false) rfl rfl (by decide) rfl (ltN rfl)) ?_
  refine w2 (step_off (dj := 13) (b' := false) rfl rfl (by decide) rfl (ltN rfl)) ?_
  refine w2 (step_off (dj := 13) (b' := false) rfl rfl (by decide) rfl (ltN rfl)) ?_
  refine w1 (acts_pick_f (d := 21) (ltN rfl) (OpV.tmp 13 (.bool false)) (OpX.const (.bool false))) ?_
  refine w1 (mv 22 21 (V.v (.bool false))) ?_
  refine w2 (step_off (dj := 22) (b' := false) rfl rfl (by decide) rfl (ltN rfl)) ?_
  refine w2 (step_off (dj := 22) (b' := false) rfl rfl (by decide) rfl (ltN rfl)) ?_
  refine w2 (step_off (dj := 22) (b' := false) rfl rfl (by decide) rfl (ltN rfl)) ?_
  refine w2 (step_off (dj := 22) (b' := false) rfl rfl (by decide) rfl (ltN rfl)) ?_
  refine w2 (step_off (dj := 22) (b' := false) rfl rfl (by decide) rfl (ltN rfl)) ?_
  refine w2 (step_off (dj := 22) (b' := false) rfl rfl (by decide) rfl (ltN rfl)) ?_
  refine w2 (step_off (dj := 22) (b' := false) rfl rfl (by decide) rfl (ltN rfl)) ?_
  refine w2 (step_off (dj := 22) (b' := false) rfl rfl (by decide) rfl (ltN rfl)) ?_
  refine w1 (acts_pick_f (d := 31) (ltN rfl) (OpV.tmp 22 (.bool false)) (OpX.const (.bool false))) ?_
  refine w1 (asg 6 31 (V.v (.bool false))) ?_
  refine wpl_nil ?_
  refine wp_ret' ?_
  exact ⟨_, weak_id, ⟨by kernel_rfl, by kernel_rfl, trivial⟩, vo_eq 6 (.a (.val (.bool false))) (.a (.val (.bool (frB s L x y)))) (by kernel_rfl) (congrArg (fun z : Bool => B.a (.val (.bool z))) (by (unfold frB kxy; simp_all; done)))⟩

set_option maxHeartbeats 4000000 in
set_option maxRecDepth 100000 in
theorem impl_CountHoles_2_fn : ∀ (n : Nat) (s : Nat) (L : List Nat) (u v : Int) (hs : s < 18446744073709551616) (hu : 0 ≤ u ∧ u ≤ 9) (hv : 0 ≤ v ∧ v ≤ 9) (hn : L.Nodup) (hL : ∀ z, z ∈ L → z < 100) (hk : kxy u v ∉ L) (hN : 100 < n + L.length), FnO Try.prog 96 [.a (.val (.int .i64 u)), .a (.val (.int .i64 v)), .a (.ptr 2 0), .a (.ptr 3 0), .a (.ptr 4 0)] [(.o 2, some (.o ⟨97, 1, true, pl (bsl (mkB L))⟩)), (.o 3, some (.o ⟨84, 1, true, [(.fn 94 [2, 5] : A)]⟩)), (.o 4, some (.o ⟨98, 1, true, [(.fn 96 [2, 3, 4] : A)]⟩)), (.o 5, some (.o ⟨65, 1, true, [(.val (.int .u64 ((s : Nat) : Int)) : A)]⟩))] (V.v (.tuple #[])) [(.o 2, some (.o ⟨97, 1, true, pl (bsl (mkB (dfs nb10 (free10 s) n L (kxy u v))))⟩)), (.o 3, some (.o ⟨84, 1, true, [(.fn 94 [2, 5] : A)]⟩)), (.o 4, some (.o ⟨98, 1, true, [(.fn 96 [2, 3, 4] : A)]⟩)), (.o 5, some (.o ⟨65, 1, true, [(.val (.int .u64 ((s : Nat) : Int)) : A)]⟩))] [2, 3, 4, 5] := by
 intro n
 induction n with
 | zero => intro s L u v hs hu hv hn hL hk hN; exfalso; (have := nodup_len 100 L hn hL; omega)
 | succ n ih =>
  intro s L u v hs hu hv hn hL hk hN
  have hml := mkB_len L
  refine fn_introO (N := 38) Try.func96 rfl (by kernel_rfl) rfl (Nat.le_of_ble_eq_true rfl) rfl rfl (by kernel_rfl) (by kernel_rfl) ⟨oc_pl (fun _ => rfl), ocs (by kernel_rfl), ocs (by kernel_rfl), ocs (by kernel_rfl), trivial⟩ [29, 37] (retO0 rfl) (fun W own kp im0 => ?_)
  show Wp _ _ _ [(.s 0, some (.s (V.v (.int .i64 u)))), (.s 1, some (.s (V.v (.int .i64 v)))), (.s 2, some (.s (V.p 2 0))), (.s 3, some (.s (V.p 3 0))), (.s 4, some (.s (V.p 4 0))), (.o 2, some (.o ⟨97, 1, true, pl (bsl (mkB L))⟩)), (.o 3, some (.o ⟨84, 1, true, [(.fn 94 [2, 5] : A)]⟩)), (.o 4, some (.o ⟨98, 1, true, [(.fn 96 [2, 3, 4] : A)]⟩)), (.o 5, some (.o ⟨65, 1, true, [(.val (.int .u64 ((s : Nat) : Int)) : A)]⟩)), (.o 29, some .free), (.o 37, some .free)]
  refine wp_seq' ?_
  refine wp_region_t ?_
  refine w1 (mv 9 1 (V.v (.int .i64 v))) ?_
  refine w1 (bn 10 (OpV.tmp 9 (.int .i64 v)) (OpV.const (.int .i64 10)) (r_mul (c := (v * 10)) (w64 (by omega) (by omega)))) ?_
  refine w1 (mv 11 0 (V.v (.int .i64 u))) ?_
  refine w1 (bn 12 (OpV.tmp 10 (.int .i64 (v * 10))) (OpV.tmp 11 (.int .i64 u)) (r_add (c := ((v * 10) + u)) (w64 (by omega) (by omega)))) ?_
  refine w1 (acts_index_arr (d := 13) (x := 2) (h := 2) (off := 0) (k := (((v * 10) + u).toNat)) (off' := ((((v * 10) + u).toNat) * 1)) (ltN rfl) qC23_un_97 qC23_sz_4 (OpV.tmp 12 (.int .i64 ((v * 10) + u))) (Int.toNat_of_nonneg (by omega)).symm (by omega) (by simp)) ?_
  refine w1 (acts_store (t := 13) (h := 2) (off := ((((v * 10) + u).toNat) * 1)) (o := ⟨97, 1, true, pl (bsl (mkB L))⟩) (b := .a (.val (.bool true))) (cells := pl (bsl ((mkB L).set (((v * 10) + u).toNat) true))) qC23_ti_4 (OpX.const (.bool true)) rfl (by decide) (by intro y hy; simp [B.cs] at hy; subst hy; rfl) (by simp only [pl_len, bsl_len]; first | omega | assumption | (rw [mkB_len]; omega) | exact hD2.nd | exact hD2.lt | exact hm4) (bsl_put (k := (((v * 10) + u).toNat)) (by omega))) ?_
  refine wpl_nil ?_
  refine wp_seq' ?_
  refine wp_region_t ?_
  refine w1 (acts_assign (d := 7) (ltN rfl) (OpX.const (.int .i64 (-1)))) ?_
  refine wpl_nil ?_
  refine wp_block' ?_
  refine wp_loop' (fun (x : Nat × (List Nat)) => match x with | (p, M) => p ≤ 3 ∧ DT s n u v L (3 * p) M) (fun (x : Nat × (List Nat)) => match x with | (p, M) => [(.s 0, some (.s (V.v (.int .i64 u)))), (.s 1, some (.s (V.v (.int .i64 v)))), (.s 3, some (.s (V.p 3 0))), (.s 4, some (.s (V.p 4 0))), (.s 7, some (.s (V.v (.int .i64 (((p : Nat) : Int) - 1))))), (.o 2, some (.o ⟨97, 1, true, pl (bsl (mkB M))⟩)), (.o 3, some (.o ⟨84, 1, true, [(.fn 94 [2, 5] : A)]⟩)), (.o 4, some (.o ⟨98, 1, true, [(.fn 96 [2, 3, 4] : A)]⟩)), (.o 5, some (.o ⟨65, 1, true, [(.val (.int .u64 ((s : Nat) : Int)) : A)]⟩)), (.o 29, some .free), (.o 37, some .free)]) (fun (x : Nat × (List Nat)) => match x with | (p, M) => 3 - p) ((0 : Nat), ((L ++ [kxy u v]) : List Nat)) (by exact ⟨by omega, DT.zero hu hv hn hL hk⟩) (weak_of id [29, 37] (by kernel_rfl) (wk_s (v' := V.v (.int .i64 u)) (by kernel_rfl) rfl rfl (wk_s (v' := V.v (.int .i64 v)) (by kernel_rfl) rfl rfl (wk_s (v' := V.p 3 0) (by kernel_rfl) rfl rfl (wk_s (v' := V.p 4 0) (by kernel_rfl) rfl rfl (wk_s (v' := V.v (.int .i64 (-1))) (by kernel_rfl) (vint (by rfl)) rfl (wk_o (o' := ⟨97, 1, true, pl (bsl ((mkB L).set (((v * 10) + u).toNat) true))⟩) (by kernel_rfl) (renob_eq (fun h => h) (congrArg bsl (by exact (mkB_add _ _).symm))) rfl (wk_o (o' := ⟨84, 1, true, [(.fn 94 [2, 5] : A)]⟩) (by kernel_rfl) (renob_l (fun h => h) rfl rfl) rfl (wk_o (o' := ⟨98, 1, true, [(.fn 96 [2, 3, 4] : A)]⟩) (by kernel_rfl) (renob_l (fun h => h) rfl rfl) rfl (wk_o (o' := ⟨65, 1, true, [(.val (.int .u64 ((s : Nat) : Int)) : A)]⟩) (by kernel_rfl) (renob_l (fun h => h) rfl rfl) rfl (wk_f rfl (wk_f rfl (wk_nil))))))))))))) ?_
  rintro ⟨p, M⟩ inv1
  replace inv1 : p ≤ 3 ∧ DT s n u v L (3 * p) M := inv1
  obtain ⟨inv1_0, inv1_1⟩ := inv1
  show Wp _ _ _ [(.s 0, some (.s (V.v (.int .i64 u)))), (.s 1, some (.s (V.v (.int .i64 v)))), (.s 3, some (.s (V.p 3 0))), (.s 4, some (.s (V.p 4 0))), (.s 7, some (.s (V.v (.int .i64 (((p : Nat) : Int) - 1))))), (.o 2, some (.o ⟨97, 1, true, pl (bsl (mkB M))⟩)), (.o 3, some (.o ⟨84, 1, true, [(.fn 94 [2, 5] : A)]⟩)), (.o 4, some (.o ⟨98, 1, true, [(.fn 96 [2, 3, 4] : A)]⟩)), (.o 5, some (.o ⟨65, 1, true, [(.val (.int .u64 ((s : Nat) : Int)) : A)]⟩)), (.o 29, some .free), (.o 37, some .free)]
  have hD : DT s n u v L (3 * p) M := by assumption
  refine wp_seq' ?_
  refine wp_seq' ?_
  refine wp_region_t ?_
  refine w1 (mv 14 7 (V.v (.int .i64 (((p : Nat) : Int) - 1)))) ?_
  refine w1 (bn 15 (OpV.tmp 14 (.int .i64 (((p : Nat) : Int) - 1))) (OpV.const (.int .i64 1)) (r_leq (c := (decide ((((p : Nat) : Int) - 1) ≤ 1))) rfl)) ?_
  refine wpl_nil ?_
  refine wp_if (t := 15) (decide ((((p : Nat) : Int) - 1) ≤ 1)) (by kernel_rfl) (fun c2 => ?_) (fun c2 => ?_)
  ·skip
   have c2P := of_decide_eq_true c2
   refine wp_skip' ?_
   refine wp_seq' ?_
   refine wp_block' ?_
   refine wp_seq' ?_
   refine wp_region_t ?_
   refine w1 (acts_assign (d := 8) (ltN rfl) (OpX.const (.int .i64 (-1)))) ?_
   refine wpl_nil ?_
   refine wp_block' ?_
   refine wp_loop' (fun (x : Nat × (List Nat)) => match x with | (q, M2) => q ≤ 3 ∧ DT s n u v L (3 * p + q) M2) (fun (x : Nat × (List Nat)) => match x with | (q, M2) => [(.s 0, some (.s (V.v (.int .i64 u)))), (.s 1, some (.s (V.v (.int .i64 v)))), (.s 3, some (.s (V.p 3 0))), (.s 4, some (.s (V.p 4 0))), (.s 7, some (.s (V.v (.int .i64 (((p : Nat) : Int) - 1))))), (.s 8, some (.s (V.v (.int .i64 (((q : Nat) : Int) - 1))))), (.o 2, some (.o ⟨97, 1, true, pl (bsl (mkB M2))⟩)), (.o 3, some (.o ⟨84, 1, true, [(.fn 94 [2, 5] : A)]⟩)), (.o 4, some (.o ⟨98, 1, true, [(.fn 96 [2, 3, 4] : A)]⟩)), (.o 5, some (.o ⟨65, 1, true, [(.val (.int .u64 ((s : Nat) : Int)) : A)]⟩)), (.o 29, some .free), (.o 37, some .free)]) (fun (x : Nat × (List Nat)) => match x with | (q, M2) => 3 - q) ((0 : Nat), (M : List Nat)) (by exact ⟨by omega, hD⟩) (weak_of id [29, 37] (by kernel_rfl) (wk_s (v' := V.v (.int .i64 u)) (by kernel_rfl) rfl rfl (wk_s (v' := V.v (.int .i64 v)) (by kernel_rfl) rfl rfl (wk_s (v' := V.p 3 0) (by kernel_rfl) rfl rfl (wk_s (v' := V.p 4 0) (by kernel_rfl) rfl rfl (wk_s (v' := V.v (.int .i64 (((p : Nat) : Int) - 1))) (by kernel_rfl) rfl rfl (wk_s (v' := V.v (.int .i64 (-1))) (by kernel_rfl) (vint (by rfl)) rfl (wk_o (o' := ⟨97, 1, true, pl (bsl (mkB M))⟩) (by kernel_rfl) (renob_pl (fun h => h)) rfl (wk_o (o' := ⟨84, 1, true, [(.fn 94 [2, 5] : A)]⟩) (by kernel_rfl) (renob_l (fun h => h) rfl rfl) rfl (wk_o (o' := ⟨98, 1, true, [(.fn 96 [2, 3, 4] : A)]⟩) (by kernel_rfl) (renob_l (fun h => h) rfl rfl) rfl (wk_o (o' := ⟨65, 1, true, [(.val (.int .u64 ((s : Nat) : Int)) : A)]⟩) (by kernel_rfl) (renob_l (fun h => h) rfl rfl) rfl (wk_f rfl (wk_f rfl (wk_nil)))))))))))))) ?_
   rintro ⟨q, M2⟩ inv3
   replace inv3 : q ≤ 3 ∧ DT s n u v L (3 * p + q) M2 := inv3
   obtain ⟨inv3_0, inv3_1⟩ := inv3
   show Wp _ _ _ [(.s 0, some (.s (V.v (.int .i64 u)))), (.s 1, some (.s (V.v (.int .i64 v)))), (.s 3, some (.s (V.p 3 0))), (.s 4, some (.s (V.p 4 0))), (.s 7, some (.s (V.v (.int .i64 (((p : Nat) : Int) - 1))))), (.s 8, some (.s (V.v (.int .i64 (((q : Nat) : Int) - 1))))), (.o 2, some (.o ⟨97, 1, true, pl (bsl (mkB M2))⟩)), (.o 3, some (.o ⟨84, 1, true, [(.fn 94 [2, 5] : A)]⟩)), (.o 4, some (.o ⟨98, 1, true, [(.fn 96 [2, 3, 4] : A)]⟩)), (.o 5, some (.o ⟨65, 1, true, [(.val (.int .u64 ((s : Nat) : Int)) : A)]⟩)), (.o 29, some .free), (.o 37, some .free)]
   have hD2 : DT s n u v L (3 * p + q) M2 := by assumption
   refine wp_seq' ?_
   refine wp_seq' ?_
   refine wp_region_t ?_
   refine w1 (mv 18 8 (V.v (.int .i64 (((q : Nat) : Int) - 1)))) ?_
   refine w1 (bn 19 (OpV.tmp 18 (.int .i64 (((q : Nat) : Int) - 1))) (OpV.const (.int .i64 1)) (r_leq (c := (decide ((((q : Nat) : Int) - 1) ≤ 1))) rfl)) ?_
   refine wpl_nil ?_
   refine wp_if (t := 19) (decide ((((q : Nat) : Int) - 1) ≤ 1)) (by kernel_rfl) (fun c4 => ?_) (fun c4 => ?_)
   ·skip
    have c4P := of_decide_eq_true c4
    refine wp_skip' ?_
    refine wp_seq' ?_
    refine wp_block' ?_
    refine wp_seq' ?_
    refine wp_region_t ?_
    refine w1 (acts_load_own (d := 22) (t := 3) (h := 3) (off := 0) (o := ⟨84, 1, true, [(.fn 94 [2, 5] : A)]⟩)  (x := .fn 94 [2, 5]) (ltN rfl) qC23_ti_84 rfl) ?_
    refine w1 (mv 23 0 (V.v (.int .i64 u))) ?_
    refine w1 (mv 24 8 (V.v (.int .i64 (((q : Nat) : Int) - 1)))) ?_
    refine w1 (bn 25 (OpV.tmp 23 (.int .i64 u)) (OpV.tmp 24 (.int .i64 (((q : Nat) : Int) - 1))) (r_add (c := (u + (((q : Nat) : Int) - 1))) (w64 (by omega) (by omega)))) ?_
    refine w1 (mv 26 1 (V.v (.int .i64 v))) ?_
    refine w1 (mv 27 7 (V.v (.int .i64 (((p : Nat) : Int) - 1)))) ?_
    refine w1 (bn 28 (OpV.tmp 26 (.int .i64 v)) (OpV.tmp 27 (.int .i64 (((p : Nat) : Int) - 1))) (r_add (c := (v + (((p : Nat) : Int) - 1))) (w64 (by omega) (by omega)))) ?_
    refine w1 (acts_callV (d := 29) (f := 94) (t := 22) (caps := [2, 5]) (os := [(.o 2, some (.o ⟨97, 1, true, pl (bsl (mkB M2))⟩)), (.o 5, some (.o ⟨65, 1, true, [(.val (.int .u64 ((s : Nat) : Int)) : A)]⟩))]) (os' := [(.o 2, some (.o ⟨97, 1, true, pl (bsl (mkB M2))⟩)), (.o 5, some (.o ⟨65, 1, true, [(.val (.int .u64 ((s : Nat) : Int)) : A)]⟩))]) (r := V.v (.bool (frB s M2 (u + (((q : Nat) : Int) - 1)) (v + (((p : Nat) : Int) - 1))))) (bs := [.a (.val (.int .i64 (u + (((q : Nat) : Int) - 1)))), .a (.val (.int .i64 (v + (((p : Nat) : Int) - 1))))]) (keep := [2, 5]) (new := []) (dead := []) (ltN rfl) (FnO.ren' (impl_CountHoles_1_fn s M2 (u + (((q : Nat) : Int) - 1)) (v + (((p : Nat) : Int) - 1)) (by omega) (by omega) (by omega)) (subst1 [(3, 5)]) rfl rfl (by kernel_rfl) (by kernel_rfl) ⟨oc_pl (fun _ => rfl), ocs (by kernel_rfl), trivial⟩ (by kernel_rfl) rfl (by simp only [renS, Ob.ren, pl_ren, rws_ren_doms, rws_ren_ints, rws_ren_cels]; rfl) (by simp only [renS, Ob.ren, pl_ren, rws_ren_doms, rws_ren_ints, rws_ren_cels]; rfl) rfl rfl) (by kernel_rfl) ⟨oc_pl (fun _ => rfl), ocs (by kernel_rfl), trivial⟩ (by kernel_rfl) (ArgOs.cons (ArgO.v (OpV.tmp 25 (.int .i64 (u + (((q : Nat) : Int) - 1))))) (ArgOs.cons (ArgO.v (OpV.tmp 28 (.int .i64 (v + (((p : Nat) : Int) - 1))))) (ArgOs.nil)))) ?_
    refine wpl_nil ?_
    refine wp_if (t := 29) ((frB s M2 (u + (((q : Nat) : Int) - 1)) (v + (((p : Nat) : Int) - 1)))) (by kernel_rfl) (fun c5 => ?_) (fun c5 => ?_)
    ·skip
     obtain ⟨hm1, hm2, hm3, hm4, hm5⟩ := hD2.more c5 hN
     refine wp_region_t ?_
     refine w1 (acts_load_own (d := 30) (t := 4) (h := 4) (off := 0) (o := ⟨98, 1, true, [(.fn 96 [2, 3, 4] : A)]⟩)  (x := .fn 96 [2, 3, 4]) (ltN rfl) qC23_ti_98 rfl) ?_
     refine w1 (mv 31 0 (V.v (.int .i64 u))) ?_
     refine w1 (mv 32 8 (V.v (.int .i64 (((q : Nat) : Int) - 1)))) ?_
     refine w1 (bn 33 (OpV.tmp 31 (.int .i64 u)) (OpV.tmp 32 (.int .i64 (((q : Nat) : Int) - 1))) (r_add (c := (u + (((q : Nat) : Int) - 1))) (w64 (by omega) (by omega)))) ?_
     refine w1 (mv 34 1 (V.v (.int .i64 v))) ?_
     refine w1 (mv 35 7 (V.v (.int .i64 (((p : Nat) : Int) - 1)))) ?_
     refine w1 (bn 36 (OpV.tmp 34 (.int .i64 v)) (OpV.tmp 35 (.int .i64 (((p : Nat) : Int) - 1))) (r_add (c := (v + (((p : Nat) : Int) - 1))) (w64 (by omega) (by omega)))) ?_
     refine w1 (acts_callV (d := 37) (f := 96) (t := 30) (caps := [2, 3, 4]) (os := [(.o 2, some (.o ⟨97, 1, true, pl (bsl (mkB M2))⟩)), (.o 3, some (.o ⟨84, 1, true, [(.fn 94 [2, 5] : A)]⟩)), (.o 4, some (.o ⟨98, 1, true, [(.fn 96 [2, 3, 4] : A)]⟩)), (.o 5, some (.o ⟨65, 1, true, [(.val (.int .u64 ((s : Nat) : Int)) : A)]⟩))]) (os' := [(.o 2, some (.o ⟨97, 1, true, pl (bsl (mkB (dfs nb10 (free10 s) n M2 (kxy (u + (((q : Nat) : Int) - 1)) (v + (((p : Nat) : Int) - 1))))))⟩)), (.o 3, some (.o ⟨84, 1, true, [(.fn 94 [2, 5] : A)]⟩)), (.o 4, some (.o ⟨98, 1, true, [(.fn 96 [2, 3, 4] : A)]⟩)), (.o 5, some (.o ⟨65, 1, true, [(.val (.int .u64 ((s : Nat) : Int)) : A)]⟩))]) (r := V.v (.tuple #[])) (bs := [.a (.val (.int .i64 (u + (((q : Nat) : Int) - 1)))), .a (.val (.int .i64 (v + (((p : Nat) : Int) - 1))))]) (keep := [2, 3, 4, 5]) (new := []) (dead := []) (ltN rfl) ((ih s M2 (u + (((q : Nat) : Int) - 1)) (v + (((p : Nat) : Int) - 1)) (by omega) (by omega) (by omega) (by exact hD2.nd) (by exact hD2.lt) (by omega) (by omega))) (by kernel_rfl) ⟨oc_pl (fun _ => rfl), ocs (by kernel_rfl), ocs (by kernel_rfl), ocs (by kernel_rfl), trivial⟩ (by kernel_rfl) (ArgOs.cons (ArgO.v (OpV.tmp 33 (.int .i64 (u + (((q : Nat) : Int) - 1))))) (ArgOs.cons (ArgO.v (OpV.tmp 36 (.int .i64 (v + (((p : Nat) : Int) - 1))))) (ArgOs.nil)))) ?_
     refine wpl_nil ?_
     refine wp_region_t ?_
     refine w1 (mv 20 8 (V.v (.int .i64 (((q : Nat) : Int) - 1)))) ?_
     refine w1 (bn 21 (OpV.tmp 20 (.int .i64 (((q : Nat) : Int) - 1))) (OpV.const (.int .i64 1)) (r_add (c := ((((q : Nat) : Int) - 1) + 1)) (w64 (by omega) (by omega)))) ?_
     refine w1 (asg 8 21 (V.v (.int .i64 ((((q : Nat) : Int) - 1) + 1)))) ?_
     refine wpl_nil ?_
     exact loop_back ((q + 1), (dfs nb10 (free10 s) n M2 (kxy (u + ((q : Int) - 1)) (v + ((p : Int) - 1))))) (by refine ⟨by omega, ?_⟩; first | exact hD2.yes hu hv (by omega) (by assumption) hN | exact hD2.no hu hv (by omega) (by assumption)) (by show 3 - (q + 1) < 3 - q; omega) (weak_of id [29, 37] (by kernel_rfl) (wk_s (v' := V.v (.int .i64 u)) (by kernel_rfl) rfl rfl (wk_s (v' := V.v (.int .i64 v)) (by kernel_rfl) rfl rfl (wk_s (v' := V.p 3 0) (by kernel_rfl) rfl rfl (wk_s (v' := V.p 4 0) (by kernel_rfl) rfl rfl (wk_s (v' := V.v (.int .i64 (((p : Nat) : Int) - 1))) (by kernel_rfl) rfl rfl (wk_s (v' := V.v (.int .i64 ((((q : Nat) : Int) - 1) + 1))) (by kernel_rfl) (vint (by omega)) rfl (wk_o (o' := ⟨97, 1, true, pl (bsl (mkB (dfs nb10 (free10 s) n M2 (kxy (u + (((q : Nat) : Int) - 1)) (v + (((p : Nat) : Int) - 1))))))⟩) (by kernel_rfl) (renob_eq (fun h => h) (congrArg bsl (by rfl))) rfl (wk_o (o' := ⟨84, 1, true, [(.fn 94 [2, 5] : A)]⟩) (by kernel_rfl) (renob_l (fun h => h) rfl rfl) rfl (wk_o (o' := ⟨98, 1, true, [(.fn 96 [2, 3, 4] : A)]⟩) (by kernel_rfl) (renob_l (fun h => h) rfl rfl) rfl (wk_o (o' := ⟨65, 1, true, [(.val (.int .u64 ((s : Nat) : Int)) : A)]⟩) (by kernel_rfl) (renob_l (fun h => h) rfl rfl) rfl (wk_f rfl (wk_f rfl (wk_nil))))))))))))))
    ·skip
     refine wp_skip' ?_
     refine wp_region_t ?_
     refine w1 (mv 20 8 (V.v (.int .i64 (((q : Nat) : Int) - 1)))) ?_
     refine w1 (bn 21 (OpV.tmp 20 (.int .i64 (((q : Nat) : Int) - 1))) (OpV.const (.int .i64 1)) (r_add (c := ((((q : Nat) : Int) - 1) + 1)) (w64 (by omega) (by omega)))) ?_
     refine w1 (asg 8 21 (V.v (.int .i64 ((((q : Nat) : Int) - 1) + 1)))) ?_
     refine wpl_nil ?_
     exact loop_back ((q + 1), M2) (by refine ⟨by omega, ?_⟩; first | exact hD2.yes hu hv (by omega) (by assumption) hN | exact hD2.no hu hv (by omega) (by assumption)) (by show 3 - (q + 1) < 3 - q; omega) (weak_of id [29, 37] (by kernel_rfl) (wk_s (v' := V.v (.int .i64 u)) (by kernel_rfl) rfl rfl (wk_s (v' := V.v (.int .i64 v)) (by kernel_rfl) rfl rfl (wk_s (v' := V.p 3 0) (by kernel_rfl) rfl rfl (wk_s (v' := V.p 4 0) (by kernel_rfl) rfl rfl (wk_s (v' := V.v (.int .i64 (((p : Nat) : Int) - 1))) (by kernel_rfl) rfl rfl (wk_s (v' := V.v (.int .i64 ((((q : Nat) : Int) - 1) + 1))) (by kernel_rfl) (vint (by omega)) rfl (wk_o (o' := ⟨97, 1, true, pl (bsl (mkB M2))⟩) (by kernel_rfl) (renob_pl (fun h => h)) rfl (wk_o (o' := ⟨84, 1, true, [(.fn 94 [2, 5] : A)]⟩) (by kernel_rfl) (renob_l (fun h => h) rfl rfl) rfl (wk_o (o' := ⟨98, 1, true, [(.fn 96 [2, 3, 4] : A)]⟩) (by kernel_rfl) (renob_l (fun h => h) rfl rfl) rfl (wk_o (o' := ⟨65, 1, true, [(.val (.int .u64 ((s : Nat) : Int)) : A)]⟩) (by kernel_rfl) (renob_l (fun h => h) rfl rfl) rfl (wk_f rfl (wk_f rfl (wk_nil))))))))))))))
   ·skip
    have c4P := of_decide_eq_false c4
    refine wp_exit' ?_
    refine wp_region_t ?_
    refine w1 (mv 16 7 (V.v (.int .i64 (((p : Nat) : Int) - 1)))) ?_
    refine w1 (bn 17 (OpV.tmp 16 (.int .i64 (((p : Nat) : Int) - 1))) (OpV.const (.int .i64 1)) (r_add (c := ((((p : Nat) : Int) - 1) + 1)) (w64 (by omega) (by omega)))) ?_
    refine w1 (asg 7 17 (V.v (.int .i64 ((((p : Nat) : Int) - 1) + 1)))) ?_
    refine wpl_nil ?_
    exact loop_back ((p + 1), M2) (by refine ⟨by omega, ?_⟩; (have e : q = 3 := by omega); subst e; exact hD2) (by show 3 - (p + 1) < 3 - p; omega) (weak_of id [29, 37] (by kernel_rfl) (wk_s (v' := V.v (.int .i64 u)) (by kernel_rfl) rfl rfl (wk_s (v' := V.v (.int .i64 v)) (by kernel_rfl) rfl rfl (wk_s (v' := V.p 3 0) (by kernel_rfl) rfl rfl (wk_s (v' := V.p 4 0) (by kernel_rfl) rfl rfl (wk_s (v' := V.v (.int .i64 ((((p : Nat) : Int) - 1) + 1))) (by kernel_rfl) (vint (by omega)) rfl (wk_o (o' := ⟨97, 1, true, pl (bsl (mkB M2))⟩) (by kernel_rfl) (renob_pl (fun h => h)) rfl (wk_o (o' := ⟨84, 1, true, [(.fn 94 [2, 5] : A)]⟩) (by kernel_rfl) (renob_l (fun h => h) rfl rfl) rfl (wk_o (o' := ⟨98, 1, true, [(.fn 96 [2, 3, 4] : A)]⟩) (by kernel_rfl) (renob_l (fun h => h) rfl rfl) rfl (wk_o (o' := ⟨65, 1, true, [(.val (.int .u64 ((s : Nat) : Int)) : A)]⟩) (by kernel_rfl) (renob_l (fun h => h) rfl rfl) rfl (wk_f rfl (wk_f rfl (wk_nil)))))))))))))
  ·skip
   have c2P := of_decide_eq_false c2
   refine wp_exit' ?_
   exact ⟨_, weak_id, ⟨obj_eq (c := pl (bsl (mkB M))) (by kernel_rfl) (congrArg (fun z => pl (bsl z)) (by rw [← hD.end (by omega)])), by kernel_rfl, by kernel_rfl, by kernel_rfl, trivial⟩, trivial⟩
end Cl
end Go.Proofs.Ytmbodpmhokbapaa
