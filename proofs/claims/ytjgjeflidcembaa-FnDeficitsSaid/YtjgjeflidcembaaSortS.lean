
/- SortDominoes of the reference. -/
import Derived.Test.YtjgjeflidcembaaSort
namespace Go.Proofs.Ytjgjeflidcembaa
open Go.ChangeShapes Go.WideShapes Go.ChangeAt Go.RowKit
set_option maxRecDepth 20000

end Go.Proofs.Ytjgjeflidcembaa
