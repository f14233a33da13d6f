
/- SortDominoes of the reference. -/
import Derived.Test.YtokihekhelbijaaSort
namespace Go.Proofs.Ytokihekhelbijaa
open Go.ChangeShapes Go.WideShapes Go.ChangeAt Go.RowKit
set_option maxRecDepth 20000

end Go.Proofs.Ytokihekhelbijaa
