/- Walks over clean states, printed by wg.py. No statement is proved here. -/
import Derived.Test.YtjgjeflidcembaaC11
import Derived.Test.YtjgjeflidcembaaC12
import Derived.Test.YtjgjeflidcembaaC3w
import Derived.Test.YtjgjeflidcembaaClB
namespace Go.Proofs.Ytjgjeflidcembaa
namespace Cl
open Go.ChangeShapes Go.WideShapes Go.ChangeAt Go.RowKit
set_option maxRecDepth 20000

theorem cntR_yes {l : List Int} (h : regOk l = true) : cntR l = cnt (regSet l) := by unfold cntR; rw [if_pos h]
end Cl
end Go.Proofs.Ytjgjeflidcembaa
