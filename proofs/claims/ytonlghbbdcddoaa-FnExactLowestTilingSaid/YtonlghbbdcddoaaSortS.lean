
/- SortDominoes of the reference. -/
import Derived.Test.YtonlghbbdcddoaaSort
namespace Go.Proofs.Ytonlghbbdcddoaa
open Go.ChangeShapes Go.WideShapes Go.ChangeAt Go.RowKit
set_option maxRecDepth 20000

end Go.Proofs.Ytonlghbbdcddoaa
