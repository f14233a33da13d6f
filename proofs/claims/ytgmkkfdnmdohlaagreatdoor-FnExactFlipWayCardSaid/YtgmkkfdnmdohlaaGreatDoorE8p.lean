/- Walks over clean states, printed by wg.py. No statement is proved here. -/
import Derived.Test.YtgmkkfdnmdohlaaGreatDoorC0
import Derived.Test.YtgmkkfdnmdohlaaGreatDoorClB
set_option linter.unusedSimpArgs false
set_option linter.unusedVariables false
namespace Go.Proofs.YtgmkkfdnmdohlaaGreatDoor
namespace Cl
open Go.ChangeShapes Go.WideShapes Go.ChangeAt Go.RowKit
set_option maxRecDepth 20000
/-! numbers in order -/
def putL : List Int → Int → List Int
  | [], n => [n]
  | a :: L, n => if a < n then a :: putL L n else n :: a :: L
def srt (L : List Int) : List Int := L.foldl putL []
def LE (L : List Int) : Prop := L.Pairwise (· ≤ ·)
theorem putL_perm (L : List Int) (n : Int) : (putL L n).Perm (n :: L) := by
  induction L with
  | nil => exact List.Perm.refl _
  | cons a L ih =>
    unfold putL; split
    · exact (List.Perm.cons _ ih).trans (List.Perm.swap _ _ _)
    · exact List.Perm.refl _
theorem putL_len (L : List Int) (n : Int) : (putL L n).length = L.length + 1 := by rw [(putL_perm L n).length_eq]; rfl
theorem putL_LE {L : List Int} (h : LE L) (n : Int) : LE (putL L n) := by
  induction L with
  | nil => unfold putL LE; simp
  | cons a L ih =>
    obtain ⟨h1, h2⟩ := List.pairwise_cons.1 h
    unfold putL; split
    · refine List.pairwise_cons.2 ⟨fun b hb => ?_, ih h2⟩
      have := (putL_perm L n).mem_iff.1 hb
      rcases List.mem_cons.1 this with rfl | hb
      · omega
      · exact h1 b hb
    · refine List.pairwise_cons.2 ⟨fun b hb => ?_, h⟩
      rcases List.mem_cons.1 hb with rfl | hb
      · omega
      · have := h1 b hb; omega
theorem srt_all : ∀ (L out : List Int), LE out → LE (L.foldl putL out) ∧ (L.foldl putL out).Perm (L ++ out) := by
  intro L
  induction L with
  | nil => intro out h; exact ⟨h, List.Perm.refl _⟩
  | cons a L ih =>
    intro out h
    obtain ⟨h1, h2⟩ := ih (putL out a) (putL_LE h a)
    exact ⟨h1, h2.trans (((List.Perm.append_left L (putL_perm out a)).trans List.perm_middle))⟩
theorem srt_perm (L : List Int) : (srt L).Perm L := by have := (srt_all L [] List.Pairwise.nil).2; rw [List.append_nil] at this; exact this
theorem srt_snoc (L : List Int) (k : Nat) (h : k < L.length) : srt (L.take (k + 1)) = putL (srt (L.take k)) (gI L k) := by
  unfold srt; rw [List.take_succ_eq_append_getElem h, List.foldl_append, gI_eq h]; rfl
theorem srt_len (L : List Int) : (srt L).length = L.length := (srt_perm L).length_eq
/-- insertion as the program does it: before the first that is not less -/
theorem take_snocI {L : List Int} {k : Nat} (h : k < L.length) : L.take (k + 1) = L.take k ++ [gI L k] := by rw [List.take_succ_eq_append_getElem h, gI_eq h]
theorem putL_none {L : List Int} {n : Int} (h : ∀ x ∈ L, ¬ n ≤ x) : putL L n = L ++ [n] := by
  induction L with
  | nil => rfl
  | cons a L ih => unfold putL; rw [if_pos (by have := h a (by simp); omega), ih (fun x hx => h x (by simp [hx]))]; rfl
theorem putL_app {L : List Int} {n : Int} (M : List Int) (h : ∃ x ∈ L, n ≤ x) : putL (L ++ M) n = putL L n ++ M := by
  induction L with
  | nil => obtain ⟨x, hx, _⟩ := h; cases hx
  | cons a L ih =>
    rw [List.cons_append]
    unfold putL
    rcases Int.lt_or_le a n with hl | hl
    · have h2 : ∃ x ∈ L, n ≤ x := by
        obtain ⟨x, hx, hn⟩ := h
        rcases List.mem_cons.1 hx with rfl | hx
        · omega
        · exact ⟨x, hx, hn⟩
      rw [if_pos hl, if_pos hl, ih h2]; rfl
    · rw [if_neg (by omega), if_neg (by omega)]; rfl
end Cl
end Go.Proofs.YtgmkkfdnmdohlaaGreatDoor
