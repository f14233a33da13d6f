
/- FlipsOf of the program and of the reference. -/
import Derived.Test.YtokihekhelbijaaFlip
namespace Go.Proofs.Ytokihekhelbijaa
open Go.ChangeShapes Go.WideShapes Go.ChangeAt Go.RowKit
set_option maxRecDepth 20000

def cellN (i : Nat) : Cel := ⟨((i % 8 : Nat) : Int), ((i / 8 : Nat) : Int)⟩
def canN (l : List Dom) (i : Nat) : Bool := canB l (cellN i).x (cellN i).y
def flN (l : List Dom) (k : Nat) : List Cel := ((List.range k).filter (canN l)).map cellN
def flipsOf (l : List Dom) : List Cel := flN l 64

end Go.Proofs.Ytokihekhelbijaa
