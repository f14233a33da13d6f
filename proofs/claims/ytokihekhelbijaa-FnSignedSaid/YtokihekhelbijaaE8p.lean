/- Walks over clean states, printed by wg.py. No statement is proved here. -/
import Derived.Test.YtokihekhelbijaaC0
import Derived.Test.YtokihekhelbijaaClB
namespace Go.Proofs.Ytokihekhelbijaa
namespace Cl
open Go.ChangeShapes Go.WideShapes Go.ChangeAt Go.RowKit
set_option maxRecDepth 20000
/-! numbers in order -/
def putL : List Int → Int → List Int
  | [], n => [n]
  | a :: L, n => if a < n then a :: putL L n else n :: a :: L
theorem putL_perm (L : List Int) (n : Int) : (putL L n).Perm (n :: L) := by
  induction L with
  | nil => exact List.Perm.refl _
  | cons a L ih =>
    unfold putL; split
    · exact (List.Perm.cons _ ih).trans (List.Perm.swap _ _ _)
    · exact List.Perm.refl _
theorem putL_len (L : List Int) (n : Int) : (putL L n).length = L.length + 1 := by rw [(putL_perm L n).length_eq]; rfl
theorem take_snocI {L : List Int} {k : Nat} (h : k < L.length) : L.take (k + 1) = L.take k ++ [gI L k] := by rw [List.take_succ_eq_append_getElem h, gI_eq h]
theorem putL_app {L : List Int} {n : Int} (M : List Int) (h : ∃ x ∈ L, n ≤ x) : putL (L ++ M) n = putL L n ++ M := by
  induction L with
  | nil => obtain ⟨x, hx, _⟩ := h; cases hx
  | cons a L ih =>
    rw [List.cons_append]
    unfold putL
    rcases Int.lt_or_le a n with hl | hl
    · have h2 : ∃ x ∈ L, n ≤ x := by
        obtain ⟨x, hx, hn⟩ := h
        rcases List.mem_cons.1 hx with rfl | hx
        · omega
        · exact ⟨x, hx, hn⟩
      rw [if_pos hl, if_pos hl, ih h2]; rfl
    · rw [if_neg (by omega), if_neg (by omega)]; rfl
end Cl
end Go.Proofs.Ytokihekhelbijaa
