
/- Flips: which dominoes a list has, pairs over a square, CanFlip of the program and of the reference. -/
import Derived.Test.YtonlghbbdcddoaaDoms
import Derived.Test.YtonlghbbdcddoaaCels
namespace Go.Proofs.Ytonlghbbdcddoaa
open Go.ChangeShapes Go.WideShapes Go.ChangeAt Go.RowKit
set_option maxRecDepth 20000

def hasB (l : List Dom) (x y : Int) (d : Bool) : Bool := decide ((⟨x, y, d⟩ : Dom) ∈ l)
def dnB (l : List Dom) (x y : Int) : Bool := hasB l x y true && hasB l (x+1) y true
end Go.Proofs.Ytonlghbbdcddoaa
