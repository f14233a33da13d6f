/- Walks over clean states, printed by wg.py. No statement is proved here. -/
import Derived.Test.YtonlghbbdcddoaaC30
import Derived.Test.YtonlghbbdcddoaaClB
namespace Go.Proofs.Ytonlghbbdcddoaa
namespace Cl
open Go.ChangeShapes Go.WideShapes Go.ChangeAt Go.RowKit
set_option maxRecDepth 20000

noncomputable def okH (l : List Int) (ds : List Dom) : Bool := simB l && isTil l ds
theorem hts_cases (l : List Int) (ds : List Dom) : ((hts l ds).length = 81 ∧ okH l ds = true) ∨ ((hts l ds).length = 0 ∧ okH l ds = false) := by
  unfold okH
  rcases Bool.eq_false_or_eq_true (simB l && isTil l ds) with h | h
  · left; rw [hts_yes h, htsF_len]; exact ⟨rfl, h⟩
  · right; rw [hts_no h]; exact ⟨rfl, h⟩
theorem len_okH {l : List Int} {ds : List Dom} (h : 0 < (hts l ds).length) : okH l ds = true ∧ (hts l ds).length = 81 := by
  rcases hts_cases l ds with h1 | h1
  · exact ⟨h1.2, h1.1⟩
  · omega
end Cl
end Go.Proofs.Ytonlghbbdcddoaa
