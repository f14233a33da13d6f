/- Walks over clean states, printed by wg.py. No statement is proved here. -/
import Derived.Test.YtjgjeflidcembaaP8
import Derived.Test.YtjgjeflidcembaaE3
import Derived.Test.YtjgjeflidcembaaClB
namespace Go.Proofs.Ytjgjeflidcembaa
namespace Cl
open Go.ChangeShapes Go.WideShapes Go.ChangeAt Go.RowKit
set_option maxRecDepth 20000

def goAll (l : List Dom) (cs : List Cel) : Option (List Dom) := cs.foldlM (fun o c => if canB o c.x c.y then some (flipAt o c) else none) l
def fAll (l : List Dom) (cs : List Cel) : List Dom := if 200 < cs.length then l else (goAll l cs).getD l
def fOk (l : List Dom) (cs : List Cel) : Bool := !(decide (200 < cs.length)) && (goAll l cs).isSome
theorem flips_can9 {P : List Dom} {c : Cel} (h : c ∈ flipsOf P) : canB P c.x c.y = true := by
  unfold flipsOf flN at h
  obtain ⟨i, hi, rfl⟩ := List.mem_map.1 h
  exact (List.mem_filter.1 hi).2
theorem fAll_two {s : Nat} {P : List Dom} {c : Cel} (h : TilS s P) (hc : canB P c.x c.y = true) : fAll P [c, c] = P ∧ fOk P [c, c] = true := by
  obtain ⟨h1, h2⟩ := flip_back h hc
  have : goAll P [c, c] = some P := by simp [goAll, List.foldlM, hc, h1, h2]
  unfold fAll fOk; rw [this]; simp
structure FL (R : List Int) (P : List Dom) (c : Cel) : Prop where
  can : canB P c.x c.y = true
  back : canB (flipAt P c) c.x c.y = true
  same : flipAt (flipAt P c) c = P
  ne : ¬ flipAt P c = P
  two : fAll P [c, c] = P
  ok : fOk P [c, c] = true
  til : isTil R (flipAt P c) = true
  dn : dwn (flipAt P c) = dwn P + 2 ∨ dwn P = dwn (flipAt P c) + 2
theorem FL.of {R : List Int} {P : List Dom} (ho : regOk R = true) (h : TilS (regSet R) P) {k : Nat} (hk : k < (flipsOf P).length) : FL R P (gC (flipsOf P) k) := by
  have hc := flips_can9 (P := P) (c := gC (flipsOf P) k) (by rw [gC_eq hk]; exact List.getElem_mem hk)
  obtain ⟨b1, b2⟩ := flip_back h hc
  obtain ⟨a1, a2⟩ := fAll_two h hc
  exact ⟨hc, b1, b2, flip_ne h hc, a1, a2, til_isTil ho (flipAt_til h hc), flip_dwn h hc⟩
end Cl
end Go.Proofs.Ytjgjeflidcembaa
