/- Walks over clean states, printed by wg.py. No statement is proved here. -/
import Derived.Test.YtjgjeflidcembaaC16
import Derived.Test.YtjgjeflidcembaaClB
namespace Go.Proofs.Ytjgjeflidcembaa
namespace Cl
open Go.ChangeShapes Go.WideShapes Go.ChangeAt Go.RowKit
set_option maxRecDepth 20000

def tlb (n s : Nat) (b : Bool) : List (List Dom) := if fitD s (dmn (firstI s) b) = true then (tls n (andn s (domS (dmn (firstI s) b)))).map (dmn (firstI s) b :: ·) else []
theorem tls_zero {n s : Nat} (h : s = 0) : tls (n + 1) s = [[]] := by rw [tls, if_pos h]
def ltR (l : List Int) : List (List Dom) := if (decide (1 ≤ cntR l) && decide (cntR l ≤ 300)) = true then tls 33 (regSet l) else []
theorem ltR_no {l : List Int} (h : inB ((cntR l : Nat) : Int) 1 300 = false) : ltR l = [] := by
  unfold ltR; rw [if_neg]; intro e
  simp only [Bool.and_eq_true, decide_eq_true_eq] at e
  have := inB_false.1 h; omega
theorem ltR_yes {l : List Int} (h : inB ((cntR l : Nat) : Int) 1 300 = true) : ltR l = tls 33 (regSet l) ∧ regOk l = true ∧ (tls 33 (regSet l)).length ≤ 300 := by
  have h1 := inB_true.1 h
  have hr : regOk l = true := cntR_reg (by omega)
  refine ⟨?_, hr, ?_⟩
  · unfold ltR; rw [if_pos]; simp only [Bool.and_eq_true, decide_eq_true_eq]; omega
  · rw [tls_len 33 _ (regSet_lt hr) (by have := popc_le (regSet l); omega)]
    have e := cntR_yes hr
    omega
theorem tls_row : ∀ n s, ∀ P ∈ tls n s, P.length ≤ n := by
  intro n
  induction n with
  | zero => intro s P h; simp [tls] at h
  | succ n ih =>
    intro s P h
    unfold tls at h
    split at h
    · simp at h; subst h; simp
    · rw [List.mem_append] at h
      rcases h with h | h
      · split at h
        · obtain ⟨Q, hQ, rfl⟩ := List.mem_map.1 h
          have := ih _ Q hQ; simp; omega
        · simp at h
      · split at h
        · obtain ⟨Q, hQ, rfl⟩ := List.mem_map.1 h
          have := ih _ Q hQ; simp; omega
        · simp at h
theorem ltR_row {l : List Int} {k : Nat} (h : k < (ltR l).length) : (gLd (ltR l) k).length ≤ 33 := by
  rw [gLd_eq h]
  have hm := List.getElem_mem h
  revert hm
  generalize (ltR l)[k] = P
  intro hm
  unfold ltR at hm
  split at hm
  · exact tls_row 33 _ P hm
  · simp at hm
end Cl
end Go.Proofs.Ytjgjeflidcembaa
