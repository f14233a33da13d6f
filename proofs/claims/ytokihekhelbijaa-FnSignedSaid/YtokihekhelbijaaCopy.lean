
/- Copying cells of elements of any size into a row of the call's own; cutting a slice. No statement of the program is proved here. -/
import Derived.Test.YtokihekhelbijaaBase
import Derived.Laws.CopyOwn
namespace Go.Proofs.Ytokihekhelbijaa
open Go.ChangeShapes Go.WideShapes Go.ChangeAt Go.RowKit
set_option maxRecDepth 20000

theorem isl_one (l : List Int) : ∀ v ∈ isl l, v.oneCell' = true := by
  intro v hv
  simp only [isl, List.mem_map] at hv
  obtain ⟨d, _, rfl⟩ := hv
  simp [Value.oneCell']
end Go.Proofs.Ytokihekhelbijaa
