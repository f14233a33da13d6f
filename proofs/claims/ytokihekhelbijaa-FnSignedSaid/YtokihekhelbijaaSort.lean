
/- SortDominoes of the program and of the reference: both insert into a sorted list. -/
import Derived.Test.YtokihekhelbijaaDoms
import Derived.Test.YtokihekhelbijaaSortM
import Derived.Test.YtokihekhelbijaaCopy
import Derived.Deep.DeepMust
namespace Go.Proofs.Ytokihekhelbijaa
open Go.ChangeShapes Go.WideShapes Go.ChangeAt Go.RowKit
set_option maxRecDepth 20000

def sortD (l : List Dom) : List Dom := sortBy Dom.ok l
end Go.Proofs.Ytokihekhelbijaa
