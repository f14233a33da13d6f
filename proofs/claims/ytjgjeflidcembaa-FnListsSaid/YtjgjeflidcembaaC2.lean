/- Walks over clean states, printed by wg.py. No statement is proved here. -/
import Derived.Test.YtjgjeflidcembaaC1
import Derived.Test.YtjgjeflidcembaaCels
import Derived.Test.YtjgjeflidcembaaClB
namespace Go.Proofs.Ytjgjeflidcembaa
namespace Cl
open Go.ChangeShapes Go.WideShapes Go.ChangeAt Go.RowKit
set_option maxRecDepth 20000

theorem idx_inj {a b : Cel} (ha : okc a.x a.y = true) (hb : okc b.x b.y = true) (h : idx a = idx b) : a = b := by
  rw [← cN_idx ha, ← cN_idx hb, h]
theorem count_add (s : Nat) (j : Nat) (n : Nat) : ((List.range n).filter (s ||| 2 ^ j).testBit).length = ((List.range n).filter s.testBit).length + (if s.testBit j = false ∧ j < n then 1 else 0) := by
  induction n with
  | zero => simp
  | succ n ih =>
    rw [List.range_succ, List.filter_append, List.filter_append, List.length_append, List.length_append, ih]
    have hb : (s ||| 2 ^ j).testBit n = (s.testBit n || decide (j = n)) := by rw [Nat.testBit_or, Nat.testBit_two_pow]
    by_cases hj : j = n
    · subst hj
      rw [List.filter_cons, List.filter_cons, hb]; simp only [decide_true, Bool.or_true, if_true, List.filter_nil]
      cases h : s.testBit j <;> simp
    · have h1 : (j < n + 1) = (j < n) := by rw [eq_iff_iff]; omega
      cases h : s.testBit n <;> simp [hb, h, hj, h1] <;> omega
end Cl
end Go.Proofs.Ytjgjeflidcembaa
