/- Walks over clean states, printed by wg.py. No statement is proved here. -/
import Derived.Test.YtokihekhelbijaaEA
import Derived.Test.YtokihekhelbijaaW8
import Derived.Test.YtokihekhelbijaaClB
namespace Go.Proofs.Ytokihekhelbijaa
namespace Cl
open Go.ChangeShapes Go.WideShapes Go.ChangeAt Go.RowKit
set_option maxRecDepth 20000

def ixT (a : List (List Dom)) (q : List Dom) : Int := if a.any (fun x => decide (x = q)) then ((a.findIdx (fun x => decide (x = q)) : Nat) : Int) else -1
theorem ixT_yes {a : List (List Dom)} {q : List Dom} {k : Nat} (hk : k < a.length) (h : ∀ i, i < k → gLd a i ≠ q) (he : gLd a k = q) : (k : Int) = ixT a q := by
  unfold ixT
  have h1 : a.any (fun x => decide (x = q)) = true := List.any_eq_true.2 ⟨a[k], List.getElem_mem hk, by rw [← gLd_eq hk]; exact decide_eq_true he⟩
  rw [if_pos h1]
  have : a.findIdx (fun x => decide (x = q)) = k := by
    rw [List.findIdx_eq hk]
    refine ⟨by rw [← gLd_eq hk]; exact decide_eq_true he, fun j hj => ?_⟩
    have := h j hj
    rw [gLd_eq (by omega)] at this
    exact decide_eq_false this
  rw [this]
end Cl
end Go.Proofs.Ytokihekhelbijaa
