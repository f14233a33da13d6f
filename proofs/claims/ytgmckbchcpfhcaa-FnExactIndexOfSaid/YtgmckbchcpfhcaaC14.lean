/- Walks over clean states, printed by wg.py. No statement is proved here. -/
import Derived.Test.YtgmckbchcpfhcaaC13
import Derived.Test.YtgmckbchcpfhcaaCl24
namespace Go.Proofs.Ytgmckbchcpfhcaa
namespace Cl
open Go.ChangeShapes Go.WideShapes Go.ChangeAt Go.RowKit
set_option maxRecDepth 20000

theorem dfilt_yes {p : Dom → Bool} {l : List Dom} {k : Nat} (h : k < l.length) (hp : p (gD l k) = true) : (l.take (k+1)).filter p = (l.take k).filter p ++ [gD l k] := by
  rw [List.take_succ_eq_append_getElem h, List.filter_append, ← gD_eq h]; simp [hp]
theorem dfilt_no {p : Dom → Bool} {l : List Dom} {k : Nat} (h : k < l.length) (hp : p (gD l k) = false) : (l.take (k+1)).filter p = (l.take k).filter p := by
  rw [List.take_succ_eq_append_getElem h, List.filter_append, ← gD_eq h]; simp [hp]
theorem dfilt_len (p : Dom → Bool) (l : List Dom) (k : Nat) : ((l.take k).filter p).length ≤ k := by
  refine Nat.le_trans (List.length_filter_le _ _) ?_; rw [List.length_take]; omega
theorem dfilt_all (p : Dom → Bool) {l : List Dom} {k : Nat} (h : ¬ (k : Int) < (l.length : Int)) : (l.take k).filter p = l.filter p := by rw [List.take_of_length_le (by omega)]
/-- the two dominoes of each of the first cells -/
def dmT (g : Nat → Cel) (p : Dom → Bool) (k : Nat) : List Dom := ((List.range k).flatMap (fun i => [⟨(g i).x, (g i).y, false⟩, ⟨(g i).x, (g i).y, true⟩])).filter p
def dmJ (g : Nat → Cel) (f : Nat → Bool) (p : Dom → Bool) (k j : Nat) : List Dom := dmT g p k ++ ((List.range j).map (fun t => (⟨(g k).x, (g k).y, f t⟩ : Dom))).filter p
theorem dmJ_zero (g : Nat → Cel) (f : Nat → Bool) (p : Dom → Bool) (k : Nat) : dmJ g f p k 0 = dmT g p k := by unfold dmJ; simp
theorem dmJ_yes {g : Nat → Cel} {f : Nat → Bool} {p : Dom → Bool} {k j : Nat} (h : p ⟨(g k).x, (g k).y, f j⟩ = true) : dmJ g f p k (j + 1) = dmJ g f p k j ++ [⟨(g k).x, (g k).y, f j⟩] := by
  unfold dmJ; rw [List.range_succ, List.map_append, List.filter_append, List.append_assoc]; simp [h]
theorem dmJ_no {g : Nat → Cel} {f : Nat → Bool} {p : Dom → Bool} {k j : Nat} (h : p ⟨(g k).x, (g k).y, f j⟩ = false) : dmJ g f p k (j + 1) = dmJ g f p k j := by
  unfold dmJ; rw [List.range_succ, List.map_append, List.filter_append]; simp [h]
theorem dmJ_end {g : Nat → Cel} {f : Nat → Bool} (h0 : f 0 = false) (h1 : f 1 = true) (p : Dom → Bool) (k : Nat) : dmJ g f p k 2 = dmT g p (k + 1) := by
  unfold dmJ dmT
  rw [List.range_succ (n := k), List.flatMap_append, List.filter_append]
  simp [List.range_succ, h0, h1]
theorem dmT_len (g : Nat → Cel) (p : Dom → Bool) (k : Nat) : (dmT g p k).length ≤ 2 * k := by
  refine Nat.le_trans (List.length_filter_le _ _) ?_
  induction k with
  | zero => simp
  | succ k ih =>
    rw [List.range_succ, List.flatMap_append, List.length_append]
    have : ∀ x : List Dom, x.length ≤ 2 * k → x.length + 2 ≤ 2 * (k + 1) := fun x h => by omega
    exact this _ ih
theorem dmJ_len (g : Nat → Cel) (f : Nat → Bool) (p : Dom → Bool) (k j : Nat) : (dmJ g f p k j).length ≤ 2 * k + j := by
  unfold dmJ; rw [List.length_append]
  have := dmT_len g p k
  have h2 := List.length_filter_le p ((List.range j).map (fun t => (⟨(g k).x, (g k).y, f t⟩ : Dom)))
  rw [List.length_map, List.length_range] at h2
  omega
theorem cellsOf_no {l : List Int} (h : ¬ regOk l = true) : cellsOf l = [] := by unfold cellsOf; rw [if_neg h]
theorem cells_reg {l : List Int} {k : Nat} (h : k < (cellsOf l).length) : regOk l = true := by
  rcases Bool.eq_false_or_eq_true (regOk l) with h1 | h1
  · exact h1
  · rw [cellsOf_no (by rw [h1]; simp)] at h; simp at h
theorem cells_okc {l : List Int} {k : Nat} (h : k < (cellsOf l).length) : okc (gC (cellsOf l) k).x (gC (cellsOf l) k).y = true := by
  have h1 := gC_mem h
  unfold cellsOf at h1 ⊢
  rw [if_pos (cells_reg h)] at h1 ⊢
  exact hasS_ok (set_mem.1 h1)
/-- the dominoes that the counting tells -/
def cwD (l : List Int) (p : Nat → Bool) : List Dom := dmT cN (fun d => okD d && p (cntW l d)) 64
def allD (l : List Int) : List Dom := dmT (gC (cellsOf l)) (fun d => okD d && hasR l (cb d)) (cellsOf l).length
theorem dmT_map (C : List Cel) (p : Dom → Bool) : dmT (gC C) p C.length = (C.flatMap (fun c => [⟨c.x, c.y, false⟩, ⟨c.x, c.y, true⟩])).filter p := by
  unfold dmT
  congr 1
  have : (List.range C.length).map (gC C) = C := by
    apply List.ext_getElem
    · simp
    · intro i h1 h2; simp only [List.getElem_map, List.getElem_range]; exact gC_eq h2
  have h2 : C.flatMap (fun c => [(⟨c.x, c.y, false⟩ : Dom), ⟨c.x, c.y, true⟩]) = ((List.range C.length).map (gC C)).flatMap (fun c => [(⟨c.x, c.y, false⟩ : Dom), ⟨c.x, c.y, true⟩]) := by rw [this]
  rw [h2, List.flatMap_map]
theorem flat_filter {α β : Type} (f : α → List β) (p : β → Bool) (q : α → Bool) : ∀ L : List α, (∀ a ∈ L, q a = false → (f a).filter p = []) → (L.flatMap f).filter p = ((L.filter q).flatMap f).filter p := by
  intro L
  induction L with
  | nil => intro _; rfl
  | cons a L ih =>
    intro h
    have ih' := ih (fun b hb => h b (by simp [hb]))
    cases hq : q a
    · rw [List.filter_cons_of_neg (by simp [hq]), List.flatMap_cons, List.filter_append, h a (by simp) hq, List.nil_append, ih']
    · rw [List.filter_cons_of_pos hq, List.flatMap_cons, List.flatMap_cons, List.filter_append, List.filter_append, ih']
theorem cw_has {l : List Int} {d : Dom} (h : 0 < cntW l d) : regOk l = true ∧ fitD (regSet l) d = true := by
  unfold cntW at h
  split at h
  · rename_i h1; rwa [Bool.and_eq_true] at h1
  · omega
theorem cw_all {l : List Int} {p : Nat → Bool} (h0 : p 0 = false) : cwD l p = (allD l).filter (fun d => p (cntW l d)) := by
  have key : ∀ d, p (cntW l d) = true → regOk l = true ∧ fitD (regSet l) d = true := by
    intro d hd
    refine cw_has (Nat.pos_of_ne_zero fun e => ?_)
    rw [e, h0] at hd; cases hd
  unfold cwD allD
  rw [dmT_map, List.filter_filter]
  unfold cellsOf
  rcases Bool.eq_false_or_eq_true (regOk l) with hr | hr
  · rw [if_pos hr]
    unfold dmT
    rw [flat_filter _ _ (regSet l).testBit]
    · unfold setCells
      rw [List.flatMap_map]
      refine List.filter_congr fun d _ => ?_
      cases hp : p (cntW l d)
      · simp
      · obtain ⟨_, h2⟩ := key d hp
        obtain ⟨h3, h4, h5⟩ := fit_ok h2
        have h6 : hasR l (cb d) = true := by rw [hasR_S hr (ok_cb h3)]; unfold hasS; rw [ok_cb h3, h5]; rfl
        rw [h6]; simp
    · intro i hi hb
      rw [List.mem_range] at hi
      rw [List.filter_eq_nil_iff]
      intro d hd hpd
      simp only [Bool.and_eq_true] at hpd
      obtain ⟨_, h2⟩ := key d hpd.2
      obtain ⟨h3, h4, h5⟩ := fit_ok h2
      have : idx (ca d) = i := by
        simp only [List.mem_cons, List.not_mem_nil, or_false] at hd
        rcases hd with rfl | rfl
        · exact ca_dmn false hi
        · exact ca_dmn true hi
      rw [this, hb] at h4; cases h4
  · rw [if_neg (by rw [hr]; simp)]
    rw [List.flatMap_nil, List.filter_nil]
    unfold dmT
    rw [List.filter_eq_nil_iff]
    intro d _ hpd
    simp only [Bool.and_eq_true] at hpd
    have := (key d hpd.2).1
    rw [hr] at this; cases this
theorem cw_no {l : List Int} {p : Nat → Bool} (h0 : p 0 = false) (h : ¬ regOk l = true) : cwD l p = [] := by
  rw [cw_all h0]; unfold allD; rw [cellsOf_no h]; rfl
theorem cwD_len (l : List Int) (p : Nat → Bool) : (cwD l p).length ≤ 128 := dmT_len _ _ _
theorem allD_len (l : List Int) : (allD l).length ≤ 128 := by
  have := dmT_len (gC (cellsOf l)) (fun d => okD d && hasR l (cb d)) (cellsOf l).length
  have h2 := cellsOf_len l
  unfold allD; omega
theorem cwD_ok {l : List Int} {p : Nat → Bool} {d : Dom} (h : d ∈ cwD l p) : okD d = true := by
  unfold cwD dmT at h
  have := (List.mem_filter.1 h).2
  rw [Bool.and_eq_true] at this; exact this.1
theorem and_t {a b : Bool} (h1 : a = true) (h2 : b = true) : (a && b) = true := by rw [h1, h2]; rfl
theorem and_f1 {a b : Bool} (h1 : a = false) : (a && b) = false := by rw [h1]; rfl
theorem and_f2 {a b : Bool} (h2 : b = false) : (a && b) = false := by rw [h2]; exact Bool.and_false _
def posP : Nat → Bool := fun n => decide (0 < n)


end Cl
end Go.Proofs.Ytgmckbchcpfhcaa
