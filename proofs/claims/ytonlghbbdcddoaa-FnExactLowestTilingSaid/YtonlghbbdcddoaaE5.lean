/- Walks over clean states, printed by wg.py. No statement is proved here. -/
import Derived.Test.YtonlghbbdcddoaaE4
import Derived.Test.YtonlghbbdcddoaaFlip
import Derived.Test.YtonlghbbdcddoaaFlips
import Derived.Test.YtonlghbbdcddoaaSortS
import Derived.Test.YtonlghbbdcddoaaS0
import Derived.Test.YtonlghbbdcddoaaClB
namespace Go.Proofs.Ytonlghbbdcddoaa
namespace Cl
open Go.ChangeShapes Go.WideShapes Go.ChangeAt Go.RowKit
set_option maxRecDepth 20000

def kp (g0 g1 z : Dom) : Bool := !(dEq z.x z.y z.d g0.x g0.y g0.d) && !(dEq z.x z.y z.d g1.x g1.y g1.d)
end Cl
end Go.Proofs.Ytonlghbbdcddoaa
