
/- SortDominoes of the program and of the reference: both insert into a sorted list. -/
import Derived.Test.YtonlghbbdcddoaaDoms
import Derived.Test.YtonlghbbdcddoaaSortM
import Derived.Test.YtonlghbbdcddoaaCopy
import Derived.Deep.DeepMust
namespace Go.Proofs.Ytonlghbbdcddoaa
open Go.ChangeShapes Go.WideShapes Go.ChangeAt Go.RowKit
set_option maxRecDepth 20000

end Go.Proofs.Ytonlghbbdcddoaa
