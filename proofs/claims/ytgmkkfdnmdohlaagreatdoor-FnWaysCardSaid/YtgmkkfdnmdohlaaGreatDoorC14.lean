/- Walks. -/
import Derived.Test.YtgmkkfdnmdohlaaGreatDoorC13
import Derived.Test.YtgmkkfdnmdohlaaGreatDoorClB
set_option linter.unusedSimpArgs false
set_option linter.unusedVariables false
namespace Go.Proofs.YtgmkkfdnmdohlaaGreatDoor
namespace Cl
open Go.ChangeShapes Go.WideShapes Go.ChangeAt Go.RowKit
set_option maxRecDepth 20000
end Cl
end Go.Proofs.YtgmkkfdnmdohlaaGreatDoor
