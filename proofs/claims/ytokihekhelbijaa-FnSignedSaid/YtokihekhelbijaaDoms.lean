
/- The law's own helpers over []Domino: toDomino, toDominoS, eqDomino, eqDominoS, szDominoS, markDominoS, heldDominoS, each by a contract. -/
import Derived.Test.YtokihekhelbijaaInts
import Derived.Test.YtokihekhelbijaaClA
namespace Go.Proofs.Ytokihekhelbijaa
open Go.ChangeShapes Go.WideShapes Go.ChangeAt Go.RowKit

def dEq (x y : Int) (d : Bool) (x' y' : Int) (d' : Bool) : Bool := decide (x = x' ∧ y = y' ∧ d = d')
theorem dEq_dom (a b : Dom) : dEq a.x a.y a.d b.x b.y b.d = decide (a = b) := by
  unfold dEq; cases a; cases b; simp
end Go.Proofs.Ytokihekhelbijaa
