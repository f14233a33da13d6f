/- Walks over clean states, printed by wg.py. No statement is proved here. -/
import Derived.Test.YtokihekhelbijaaE4
import Derived.Test.YtokihekhelbijaaFlip
import Derived.Test.YtokihekhelbijaaFlips
import Derived.Test.YtokihekhelbijaaSortS
import Derived.Test.YtokihekhelbijaaS0
import Derived.Test.YtokihekhelbijaaClB
namespace Go.Proofs.Ytokihekhelbijaa
namespace Cl
open Go.ChangeShapes Go.WideShapes Go.ChangeAt Go.RowKit
set_option maxRecDepth 20000

def pr0 (c : Cel) (b : Bool) : Dom := ⟨c.x, c.y, b⟩
def pr1 (c : Cel) (b : Bool) : Dom := if b then ⟨c.x + 1, c.y, true⟩ else ⟨c.x, c.y + 1, false⟩
def kp (g0 g1 z : Dom) : Bool := !(dEq z.x z.y z.d g0.x g0.y g0.d) && !(dEq z.x z.y z.d g1.x g1.y g1.d)
def flipD (l : List Dom) (c : Cel) : List Dom := sortD ([pr0 c (acB l c.x c.y), pr1 c (acB l c.x c.y)] ++ l.filter (kp (pr0 c (!(acB l c.x c.y))) (pr1 c (!(acB l c.x c.y)))))
def flipAt (l : List Dom) (c : Cel) : List Dom := if canB l c.x c.y then flipD l c else l
theorem canB_bd {l : List Dom} {x y : Int} (h : canB l x y = true) : 0 ≤ x ∧ x ≤ 6 ∧ 0 ≤ y ∧ y ≤ 6 := by
  unfold canB at h
  simp only [Bool.and_eq_true] at h
  have h1 := inB_true.1 h.1.1; have h2 := inB_true.1 h.1.2; omega
end Cl
end Go.Proofs.Ytokihekhelbijaa
