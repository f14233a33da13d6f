/- Walks over clean states, printed by wg.py. No statement is proved here. -/
import Derived.Test.YtgmkkfdnmdohlaaDoorEA
import Derived.Test.YtgmkkfdnmdohlaaDoorW8
import Derived.Test.YtgmkkfdnmdohlaaDoorClB
set_option linter.unusedSimpArgs false
set_option linter.unusedVariables false
namespace Go.Proofs.YtgmkkfdnmdohlaaDoor
namespace Cl
open Go.ChangeShapes Go.WideShapes Go.ChangeAt Go.RowKit
set_option maxRecDepth 20000

def ixT (a : List (List Dom)) (q : List Dom) : Int := if a.any (fun x => decide (x = q)) then ((a.findIdx (fun x => decide (x = q)) : Nat) : Int) else -1
theorem ixT_at {a : List (List Dom)} {q : List Dom} (h : 0 ≤ ixT a q) : (ixT a q).toNat < a.length ∧ gLd a (ixT a q).toNat = q := by
  unfold ixT at h ⊢
  split
  · rename_i h1
    have hlt : a.findIdx (fun x => decide (x = q)) < a.length := List.findIdx_lt_length_of_exists (by simpa using h1)
    refine ⟨by simpa using hlt, ?_⟩
    rw [show (((a.findIdx (fun x => decide (x = q)) : Nat) : Int)).toNat = a.findIdx (fun x => decide (x = q)) by simp, gLd_eq hlt]
    have := List.findIdx_getElem (w := hlt)
    exact of_decide_eq_true this
  · rename_i h1; rw [if_neg h1] at h; omega
theorem ixT_lt (a : List (List Dom)) (q : List Dom) : ixT a q < (a.length : Int) ∧ -1 ≤ ixT a q := by
  rcases Int.lt_or_le (ixT a q) 0 with h | h
  · refine ⟨by omega, ?_⟩
    unfold ixT; split <;> omega
  · have := (ixT_at h).1; omega
end Cl
end Go.Proofs.YtgmkkfdnmdohlaaDoor
