/- Walks over clean states, printed by wg.py. No statement is proved here. -/
import Derived.Test.YtonlghbbdcddoaaC0
import Derived.Test.YtonlghbbdcddoaaClB
namespace Go.Proofs.Ytonlghbbdcddoaa
namespace Cl
open Go.ChangeShapes Go.WideShapes Go.ChangeAt Go.RowKit
set_option maxRecDepth 20000

theorem eq_len {α : Type} [DecidableEq α] {a b : List α} (h : a.length ≠ b.length) : decide (a = b) = false := decide_eq_false fun e => h (by rw [e])
end Cl
end Go.Proofs.Ytonlghbbdcddoaa
