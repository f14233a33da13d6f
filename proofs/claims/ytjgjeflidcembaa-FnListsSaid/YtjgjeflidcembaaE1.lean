/- Walks over clean states, printed by wg.py. No statement is proved here. -/
import Derived.Test.YtjgjeflidcembaaC16
import Derived.Test.YtjgjeflidcembaaClB
namespace Go.Proofs.Ytjgjeflidcembaa
namespace Cl
open Go.ChangeShapes Go.WideShapes Go.ChangeAt Go.RowKit
set_option maxRecDepth 20000

theorem gB_ft {k : Nat} (h : k < 2) : gB [false, true] k = decide (((k : Nat) : Int) = 1) := by
  match k, h with
  | 0, _ => rfl
  | 1, _ => rfl
def tlb (n s : Nat) (b : Bool) : List (List Dom) := if fitD s (dmn (firstI s) b) = true then (tls n (andn s (domS (dmn (firstI s) b)))).map (dmn (firstI s) b :: ·) else []
def tlk (n s : Nat) : Nat → List (List Dom)
  | 0 => []
  | k + 1 => tlk n s k ++ tlb n s (decide (((k : Nat) : Int) = 1))
theorem tls_succ {n s : Nat} (h : s ≠ 0) : tls (n + 1) s = tlk n s 2 := by rw [tls, if_neg h]; rfl
theorem tls_zero {n s : Nat} (h : s = 0) : tls (n + 1) s = [[]] := by rw [tls, if_pos h]
theorem tlk_no {n s k : Nat} {d : Dom} (hd : d = dmn (firstI s) (decide (((k : Nat) : Int) = 1))) (h : fitD s d = false) : tlk n s (k + 1) = tlk n s k := by
  show tlk n s k ++ tlb n s _ = _
  unfold tlb; rw [← hd, h]; simp
theorem tlk_yes {n s k : Nat} {d : Dom} (hd : d = dmn (firstI s) (decide (((k : Nat) : Int) = 1))) (h : fitD s d = true) : tlk n s (k + 1) = tlk n s k ++ (tls n (andn s (domS d))).map (d :: ·) := by
  show tlk n s k ++ tlb n s _ = _
  unfold tlb; rw [← hd, if_pos h]
theorem tlk_le {n s k : Nat} (h0 : s ≠ 0) (hk : k ≤ 2) : (tlk n s k).length ≤ (tls (n + 1) s).length := by
  rw [tls_succ h0]
  match k, hk with
  | 0, _ => exact Nat.zero_le _
  | 1, _ => show _ ≤ (tlk n s 1 ++ _).length; rw [List.length_append]; omega
  | 2, _ => exact Nat.le_refl _
theorem tl_round {n s k : Nat} {L : List (List Dom)} {P : List Dom} {d : Dom} (hd : d = dmn (firstI s) (decide (((k : Nat) : Int) = 1))) (h : fitD s d = true) : (L ++ (tlk n s k).map (P ++ ·)) ++ (tls n (andn s (domS d))).map ((P ++ [d]) ++ ·) = L ++ (tlk n s (k + 1)).map (P ++ ·) := by
  rw [tlk_yes hd h, List.map_append, List.map_map, List.append_assoc]
  congr 2
  apply List.map_congr_left
  intro x _; show (P ++ [d]) ++ x = P ++ (d :: x); rw [List.append_assoc]; rfl
theorem tl_skip {n s k : Nat} {L : List (List Dom)} {P : List Dom} {d : Dom} (hd : d = dmn (firstI s) (decide (((k : Nat) : Int) = 1))) (h : fitD s d = false) : L ++ (tlk n s k).map (P ++ ·) = L ++ (tlk n s (k + 1)).map (P ++ ·) := by rw [tlk_no hd h]
theorem tl_end {n s k : Nat} {L : List (List Dom)} {P : List Dom} (h0 : s ≠ 0) (hk : k ≤ 2) (hk2 : ¬ k < 2) : L ++ (tlk n s k).map (P ++ ·) = L ++ (tls (n + 1) s).map (P ++ ·) := by
  rw [tls_succ h0, show k = 2 by omega]
theorem tl_done {n s : Nat} {L : List (List Dom)} {P : List Dom} (h0 : s = 0) : L ++ [P] = L ++ (tls (n + 1) s).map (P ++ ·) := by rw [tls_zero h0]; simp
theorem tl_len {n s k : Nat} {d : Dom} (hd : d = dmn (firstI s) (decide (((k : Nat) : Int) = 1))) (h : fitD s d = true) (h0 : s ≠ 0) (hk : k < 2) : (tlk n s k).length + (tls n (andn s (domS d))).length ≤ (tls (n + 1) s).length := by
  have := tlk_le (n := n) h0 (show k + 1 ≤ 2 by omega)
  rw [tlk_yes hd h, List.length_append, List.length_map] at this; exact this
theorem fit_no1 {s : Nat} {d : Dom} (h : okD d = false) : fitD s d = false := by unfold fitD; rw [h]; rfl
theorem fit_no2 {s : Nat} {d : Dom} (h : ¬ (((s &&& domS d : Nat) : Int) = ((domS d : Nat) : Int))) : fitD s d = false := by
  unfold fitD; rw [decide_eq_false (fun e => h (by rw [e]))]; simp
theorem fit_yes {s : Nat} {d : Dom} (h1 : okD d = true) (h : ((s &&& domS d : Nat) : Int) = ((domS d : Nat) : Int)) : fitD s d = true := by
  unfold fitD; rw [h1, decide_eq_true (Int.ofNat.inj h)]; rfl
def ltR (l : List Int) : List (List Dom) := if (decide (1 ≤ cntR l) && decide (cntR l ≤ 300)) = true then tls 33 (regSet l) else []
theorem ltR_no {l : List Int} (h : inB ((cntR l : Nat) : Int) 1 300 = false) : ltR l = [] := by
  unfold ltR; rw [if_neg]; intro e
  simp only [Bool.and_eq_true, decide_eq_true_eq] at e
  have := inB_false.1 h; omega
theorem ltR_yes {l : List Int} (h : inB ((cntR l : Nat) : Int) 1 300 = true) : ltR l = tls 33 (regSet l) ∧ regOk l = true ∧ (tls 33 (regSet l)).length ≤ 300 := by
  have h1 := inB_true.1 h
  have hr : regOk l = true := cntR_reg (by omega)
  refine ⟨?_, hr, ?_⟩
  · unfold ltR; rw [if_pos]; simp only [Bool.and_eq_true, decide_eq_true_eq]; omega
  · rw [tls_len 33 _ (regSet_lt hr) (by have := popc_le (regSet l); omega)]
    have e := cntR_yes hr
    omega
theorem tls_row : ∀ n s, ∀ P ∈ tls n s, P.length ≤ n := by
  intro n
  induction n with
  | zero => intro s P h; simp [tls] at h
  | succ n ih =>
    intro s P h
    unfold tls at h
    split at h
    · simp at h; subst h; simp
    · rw [List.mem_append] at h
      rcases h with h | h
      · split at h
        · obtain ⟨Q, hQ, rfl⟩ := List.mem_map.1 h
          have := ih _ Q hQ; simp; omega
        · simp at h
      · split at h
        · obtain ⟨Q, hQ, rfl⟩ := List.mem_map.1 h
          have := ih _ Q hQ; simp; omega
        · simp at h
theorem ltR_row {l : List Int} {k : Nat} (h : k < (ltR l).length) : (gLd (ltR l) k).length ≤ 33 := by
  rw [gLd_eq h]
  have hm := List.getElem_mem h
  revert hm
  generalize (ltR l)[k] = P
  intro hm
  unfold ltR at hm
  split at hm
  · exact tls_row 33 _ P hm
  · simp at hm
theorem ltR_len (l : List Int) : (ltR l).length ≤ 300 := by
  rcases Bool.eq_false_or_eq_true (inB ((cntR l : Nat) : Int) 1 300) with h | h
  · obtain ⟨h1, _, h2⟩ := ltR_yes h
    rw [h1]; exact h2
  · rw [ltR_no h]; simp


end Cl
end Go.Proofs.Ytjgjeflidcembaa
