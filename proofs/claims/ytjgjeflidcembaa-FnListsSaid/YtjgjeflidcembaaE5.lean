/- Walks over clean states, printed by wg.py. No statement is proved here. -/
import Derived.Test.YtjgjeflidcembaaE4
import Derived.Test.YtjgjeflidcembaaFlip
import Derived.Test.YtjgjeflidcembaaFlips
import Derived.Test.YtjgjeflidcembaaSortS
import Derived.Test.YtjgjeflidcembaaS0
import Derived.Test.YtjgjeflidcembaaClB
namespace Go.Proofs.Ytjgjeflidcembaa
namespace Cl
open Go.ChangeShapes Go.WideShapes Go.ChangeAt Go.RowKit
set_option maxRecDepth 20000

def kp (g0 g1 z : Dom) : Bool := !(dEq z.x z.y z.d g0.x g0.y g0.d) && !(dEq z.x z.y z.d g1.x g1.y g1.d)
end Cl
end Go.Proofs.Ytjgjeflidcembaa
