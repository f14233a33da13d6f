
/- Flips: which dominoes a list has, pairs over a square, CanFlip of the program and of the reference. -/
import Derived.Test.YtokihekhelbijaaDoms
import Derived.Test.YtokihekhelbijaaCels
namespace Go.Proofs.Ytokihekhelbijaa
open Go.ChangeShapes Go.WideShapes Go.ChangeAt Go.RowKit
set_option maxRecDepth 20000

def hasB (l : List Dom) (x y : Int) (d : Bool) : Bool := decide ((⟨x, y, d⟩ : Dom) ∈ l)
def acB (l : List Dom) (x y : Int) : Bool := hasB l x y false && hasB l x (y+1) false
def dnB (l : List Dom) (x y : Int) : Bool := hasB l x y true && hasB l (x+1) y true
def canB (l : List Dom) (x y : Int) : Bool := inB x 0 6 && inB y 0 6 && (acB l x y || dnB l x y)
end Go.Proofs.Ytokihekhelbijaa
