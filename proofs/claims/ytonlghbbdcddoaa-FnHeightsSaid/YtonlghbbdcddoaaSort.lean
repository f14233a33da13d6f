
/- SortDominoes of the program and of the reference: both insert into a sorted list. -/
import Derived.Test.YtonlghbbdcddoaaDoms
import Derived.Test.YtonlghbbdcddoaaSortM
import Derived.Test.YtonlghbbdcddoaaCopy
import Derived.Deep.DeepMust
namespace Go.Proofs.Ytonlghbbdcddoaa
open Go.ChangeShapes Go.WideShapes Go.ChangeAt Go.RowKit
set_option maxRecDepth 20000

def ordI (x y : Int) (d : Bool) : Int := 2 * (y * 8 + x) + (if d then 1 else 0)
def sortD (l : List Dom) : List Dom := sortBy Dom.ok l
theorem ok_valid (d : Dom) (h : d.ok = true) : d.valid := by
  have := okd_true.1 h
  unfold Dom.valid
  cases hd : d.d <;> simp [hd] at this <;> omega
theorem ordI_eq (d : Dom) : ordI d.x d.y d.d = d.ord := by unfold ordI Dom.ord; omega

end Go.Proofs.Ytonlghbbdcddoaa
