/- Walks over clean states, printed by wg.py. No statement is proved here. -/
import Derived.Test.YtonlghbbdcddoaaC27
import Derived.Test.YtonlghbbdcddoaaC16
import Derived.Test.YtonlghbbdcddoaaClB
namespace Go.Proofs.Ytonlghbbdcddoaa
namespace Cl
open Go.ChangeShapes Go.WideShapes Go.ChangeAt Go.RowKit
set_option maxRecDepth 20000

/-- numbers as ints -/
def isDir (d : Int × Int) : Prop := d = (1, 0) ∨ d = (-1, 0) ∨ d = (0, 1) ∨ d = (0, -1)
theorem dirI_is (t : Nat) : isDir (dirI t) := (dir_one t).1
theorem cXY {u : Nat} (h : u < 81) : (0 ≤ cX u ∧ cX u ≤ 8) ∧ (0 ≤ cY u ∧ cY u ≤ 8) := by unfold cX cY; omega
theorem par_sg (n : Int) : par (n - 1) = sg n ∧ par n = -(sg n) := by
  unfold par sg; constructor <;> split <;> split <;> omega
theorem in_sp {u : Nat} (hu : u < 81) (d : Int × Int) : _root_.Go.Proofs.Ytonlghbbdcddoaa.stepOk (cX u) (cY u) (cX u + d.1) (cY u + d.2) = inD u d := by
  obtain ⟨h1, h2⟩ := cXY hu
  unfold _root_.Go.Proofs.Ytonlghbbdcddoaa.stepOk inD; rw [inB_true.2 h1, inB_true.2 h2]; simp
theorem estep_dir {u : Nat} (hu : u < 81) {d : Int × Int} (hd : isDir d) : estep (cX u) (cY u) (cX u + d.1) (cY u + d.2) = if inD u d = true then stE u (atU u d) else 0 := by
  unfold estep
  rw [in_sp hu d]
  split
  · rename_i hi
    obtain ⟨_, h2, h3⟩ := atU_lt hi
    unfold stE; rw [h3]
    obtain ⟨p1, p2⟩ := par_sg (cX u + cY u)
    rcases hd with rfl | rfl | rfl | rfl
    · simp only [Int.add_zero]
      rw [if_pos ⟨trivial, trivial⟩, if_pos trivial, show cX u + (cY u - 1) = cX u + cY u - 1 by omega, p1]
    · simp only [Int.add_zero]
      rw [if_neg (by omega), if_pos ⟨by omega, trivial⟩, if_pos trivial, show cX u + -1 + cY u = cX u + cY u - 1 by omega, p1]
    · simp only [Int.add_zero]
      rw [if_neg (by omega), if_neg (by omega), if_pos ⟨trivial, trivial⟩, if_neg (by omega), p2]
    · simp only [Int.add_zero]
      rw [if_neg (by omega), if_neg (by omega), if_neg (by omega), if_pos ⟨trivial, by omega⟩, if_neg (by omega), show cX u - 1 + (cY u + -1) = (cX u + cY u) - 1 - 1 by omega, (par_sg (cX u + cY u - 1)).1]
      have := sg_succ (cX u + cY u - 1)
      rw [show cX u + cY u - 1 + 1 = cX u + cY u by omega] at this
      omega
  · rfl
theorem lf_1 (x y : Int) : lfC x y (x + 1) y = ⟨x, y - 1⟩ := by unfold lfC leftX leftY; rw [if_pos (by omega), if_pos (by omega)]
theorem lf_2 (x y : Int) : lfC (x + 1) y x y = ⟨x, y⟩ := by unfold lfC leftX leftY; rw [if_neg (by omega), if_pos (by omega), if_neg (by omega), if_pos (by omega)]
theorem lf_3 (x y : Int) : lfC x y x (y + 1) = ⟨x, y⟩ := by unfold lfC leftX leftY; rw [if_neg (by omega), if_neg (by omega), if_pos (by omega), if_neg (by omega), if_neg (by omega), if_pos (by omega)]
theorem lf_4 (x y : Int) : lfC x (y + 1) x y = ⟨x - 1, y⟩ := by unfold lfC leftX leftY; rw [if_neg (by omega), if_neg (by omega), if_neg (by omega), if_neg (by omega), if_neg (by omega), if_neg (by omega)]
theorem opE_dir {s : Nat} {ds : List Dom} {u : Nat} (hu : u < 81) {d : Int × Int} (hd : isDir d) (hi : inD u d = true) : opE s ds u (atU u d) = if d.2 = 0 then opH s ds (min (cX u) (cX u + d.1)) (cY u) else opV s ds (cX u) (min (cY u) (cY u + d.2)) := by
  obtain ⟨_, h2, h3⟩ := atU_lt hi
  unfold opE; rw [h2, h3]
  rcases hd with rfl | rfl | rfl | rfl
  · simp only [Int.add_zero]
    rw [if_pos ⟨trivial, trivial⟩, if_pos trivial, show min (cX u) (cX u + 1) = cX u by omega]
  · simp only [Int.add_zero]
    rw [if_neg (by omega), if_pos ⟨trivial, by omega⟩, if_pos trivial, show min (cX u) (cX u + -1) = cX u + -1 by omega]
  · simp only [Int.add_zero]
    rw [if_neg (by omega), if_neg (by omega), if_pos ⟨trivial, trivial⟩, if_neg (by decide), show min (cY u) (cY u + 1) = cY u by omega]
  · simp only [Int.add_zero]
    rw [if_neg (by omega), if_neg (by omega), if_neg (by omega), if_pos ⟨trivial, by omega⟩, if_neg (by decide), show min (cY u) (cY u + -1) = cY u + -1 by omega]
theorem op_lf {s : Nat} {ds : List Dom} (hk : ∀ d ∈ ds, okD d = true) {u : Nat} (hu : u < 81) {d : Int × Int} (hd : isDir d) (hi : inD u d = true) : opE s ds u (atU u d) = sideB s ds (lfC (cX u) (cY u) (cX u + d.1) (cY u + d.2)) (lfC (cX u + d.1) (cY u + d.2) (cX u) (cY u)) := by
  rw [opE_dir hu hd hi]
  rcases hd with rfl | rfl | rfl | rfl
  · simp only [Int.add_zero]
    rw [if_pos trivial, lf_1, lf_2, side_H hk, show min (cX u) (cX u + 1) = cX u by omega]
  · simp only [Int.add_zero]
    rw [if_pos trivial, sideB_sw]
    have e1 := lf_1 (cX u + -1) (cY u)
    have e2 := lf_2 (cX u + -1) (cY u)
    rw [show cX u + -1 + 1 = cX u by omega] at e1 e2
    rw [e1, e2, side_H hk, show min (cX u) (cX u + -1) = cX u + -1 by omega]
  · simp only [Int.add_zero]
    rw [if_neg (by decide), sideB_sw, lf_3, lf_4, side_V hk, show min (cY u) (cY u + 1) = cY u by omega]
  · simp only [Int.add_zero]
    rw [if_neg (by decide)]
    have e1 := lf_3 (cX u) (cY u + -1)
    have e2 := lf_4 (cX u) (cY u + -1)
    rw [show cY u + -1 + 1 = cY u by omega] at e1 e2
    rw [e1, e2, side_V hk, show min (cY u) (cY u + -1) = cY u + -1 by omega]
theorem HIn.bd2 {dir : Nat → Int × Int} {l : List Int} {ds : List Dom} {L M : List Nat} {u t : Nat} (h : HIn dir l ds L u t M) {v : Nat} (hv : v < 81) : -1000 ≤ gI (hsL l ds M) v ∧ gI (hsL l ds M) v ≤ 80 := by
  rw [gI_hsL hv]; split
  · rename_i hm
    have h1 := h.bd v hm
    have h2 := h.len
    omega
  · omega
theorem til_okd {l : List Int} {ds : List Dom} (h : isTil l ds = true) : ∀ d ∈ ds, okD d = true := by
  unfold isTil at h; simp only [Bool.and_eq_true] at h
  exact fun d hd => par_okd h.1 hd
def bX (dir : Nat → Int × Int) (u t : Nat) : Int := cX u + (dir t).1
def bY (dir : Nat → Int × Int) (u t : Nat) : Int := cY u + (dir t).2
theorem bXY_bd {dir : Nat → Int × Int} (hd : ∀ t, isDir (dir t)) {u : Nat} (hu : u < 81) (t : Nat) : (-1 ≤ bX dir u t ∧ bX dir u t ≤ 9) ∧ (-1 ≤ bY dir u t ∧ bY dir u t ≤ 9) := by
  obtain ⟨h1, h2⟩ := cXY hu
  unfold bX bY
  rcases hd t with h | h | h | h <;> rw [h] <;> simp only <;> omega
theorem in_b {dir : Nat → Int × Int} {u t : Nat} (h : inD u (dir t) = true) : (0 ≤ bX dir u t ∧ bX dir u t ≤ 8) ∧ (0 ≤ bY dir u t ∧ bY dir u t ≤ 8) := by
  unfold inD at h; rw [Bool.and_eq_true, inB_true, inB_true] at h; exact h
theorem st_no {dir : Nat → Int × Int} (hd : ∀ t, isDir (dir t)) {u : Nat} (hu : u < 81) {t : Nat} (h : estep (cX u) (cY u) (bX dir u t) (bY dir u t) = 0) : inD u (dir t) = false := by
  have := estep_dir hu (hd t)
  unfold bX bY at h
  rw [h] at this
  cases hi : inD u (dir t)
  · rfl
  · rw [hi, if_pos rfl] at this
    rcases stE_one u (atU u (dir t)) with e | e <;> omega
theorem st_yes {dir : Nat → Int × Int} (hd : ∀ t, isDir (dir t)) {u : Nat} (hu : u < 81) {t : Nat} (h : ¬ estep (cX u) (cY u) (bX dir u t) (bY dir u t) = 0) : inD u (dir t) = true ∧ estep (cX u) (cY u) (bX dir u t) (bY dir u t) = stE u (atU u (dir t)) := by
  have := estep_dir hu (hd t)
  unfold bX bY at h ⊢
  cases hi : inD u (dir t)
  · rw [hi] at this; exact absurd (by simpa using this) h
  · rw [hi, if_pos rfl] at this; exact ⟨rfl, this⟩
theorem hts_no {l : List Int} {ds : List Dom} (h : (simB l && isTil l ds) = false) : hts l ds = [] := by unfold hts; rw [h]; rfl
theorem hts_yes {l : List Int} {ds : List Dom} (h : (simB l && isTil l ds) = true) : hts l ds = htsF l ds := by unfold hts; rw [if_pos h]
theorem rep_snoc (i : Nat) (z : Int) : List.replicate i z ++ [z] = List.replicate (i + 1) z := (List.replicate_succ' ..).symm


end Cl
end Go.Proofs.Ytonlghbbdcddoaa
