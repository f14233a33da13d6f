
/- SortDominoes of the program and of the reference: both insert into a sorted list. -/
import Derived.Test.YtjgimiicfekcpaaDoms
import Derived.Test.YtjgimiicfekcpaaSortM
import Derived.Test.YtjgimiicfekcpaaCopy
import Derived.Deep.DeepMust
namespace Go.Proofs.Ytjgimiicfekcpaa
open Go.ChangeShapes Go.WideShapes Go.ChangeAt Go.RowKit

def ordI (x y : Int) (d : Bool) : Int := 2 * (y * 8 + x) + (if d then 1 else 0)
def sortD (l : List Dom) : List Dom := sortBy Dom.ok l
theorem ok_valid (d : Dom) (h : d.ok = true) : d.valid := by
  have := okd_true.1 h
  unfold Dom.valid
  cases hd : d.d <;> simp [hd] at this <;> omega
theorem ordI_eq (d : Dom) : ordI d.x d.y d.d = d.ord := by unfold ordI Dom.ord; omega

end Go.Proofs.Ytjgimiicfekcpaa
