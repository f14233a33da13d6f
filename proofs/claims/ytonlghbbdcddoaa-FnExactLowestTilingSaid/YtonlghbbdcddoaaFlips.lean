
/- FlipsOf of the program and of the reference. -/
import Derived.Test.YtonlghbbdcddoaaFlip
namespace Go.Proofs.Ytonlghbbdcddoaa
open Go.ChangeShapes Go.WideShapes Go.ChangeAt Go.RowKit
set_option maxRecDepth 20000

end Go.Proofs.Ytonlghbbdcddoaa
