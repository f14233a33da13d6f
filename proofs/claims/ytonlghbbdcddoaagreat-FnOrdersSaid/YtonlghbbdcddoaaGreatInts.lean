
import Derived.Test.YtonlghbbdcddoaaGreatBase
namespace Go.Proofs.YtonlghbbdcddoaaGreat
open Go.ChangeShapes Go.WideShapes Go.ChangeAt Go.RowKit
end Go.Proofs.YtonlghbbdcddoaaGreat
