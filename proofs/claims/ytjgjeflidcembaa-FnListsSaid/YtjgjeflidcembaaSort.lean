
/- SortDominoes of the program and of the reference: both insert into a sorted list. -/
import Derived.Test.YtjgjeflidcembaaDoms
import Derived.Test.YtjgjeflidcembaaSortM
import Derived.Test.YtjgjeflidcembaaCopy
import Derived.Deep.DeepMust
namespace Go.Proofs.Ytjgjeflidcembaa
open Go.ChangeShapes Go.WideShapes Go.ChangeAt Go.RowKit
set_option maxRecDepth 20000

end Go.Proofs.Ytjgjeflidcembaa
