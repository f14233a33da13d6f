/- Walks over clean states, printed by wg.py. No statement is proved here. -/
import Derived.Test.YtgmckbchcpfhcaaC13
import Derived.Test.YtgmckbchcpfhcaaClB
namespace Go.Proofs.Ytgmckbchcpfhcaa
namespace Cl
open Go.ChangeShapes Go.WideShapes Go.ChangeAt Go.RowKit
set_option maxRecDepth 20000

end Cl
end Go.Proofs.Ytgmckbchcpfhcaa
