/- Walks over clean states, printed by wg.py. No statement is proved here. -/
import Derived.Test.YtjgjeflidcembaaC3
import Derived.Test.YtjgjeflidcembaaClB
namespace Go.Proofs.Ytjgjeflidcembaa
namespace Cl
open Go.ChangeShapes Go.WideShapes Go.ChangeAt Go.RowKit
set_option maxRecDepth 20000
/-- tilings of what is left, cell by cell -/
def tc : Nat → Nat → (Nat → Bool) → Nat
  | 0, _, _ => 1
  | f + 1, i, p => if p i = true then (if (decide (i % 8 < 7) && p (i + 1)) = true then tc f (i + 1) (fun j => p j && !decide (j = i + 1)) else 0) + (if (decide (i + 8 < 64) && p (i + 8)) = true then tc f (i + 1) (fun j => p j && !decide (j = i + 8)) else 0) else tc f (i + 1) p
theorem tc_congr : ∀ (f i : Nat) (p q : Nat → Bool), (∀ j, i ≤ j → p j = q j) → tc f i p = tc f i q := by
  intro f
  induction f with
  | zero => intro i p q _; rfl
  | succ f ih =>
    intro i p q h
    unfold tc
    rw [h i (Nat.le_refl _), h (i+1) (by omega), h (i+8) (by omega)]
    rw [ih (i+1) (fun j => p j && !decide (j = i + 1)) (fun j => q j && !decide (j = i + 1)) (fun j hj => by simp only [h j (by omega)])]
    rw [ih (i+1) (fun j => p j && !decide (j = i + 8)) (fun j => q j && !decide (j = i + 8)) (fun j hj => by simp only [h j (by omega)])]
    rw [ih (i+1) p q (fun j hj => h j (by omega))]
/-- one step of the profile -/
def dnB (s i : Nat) : Bool := decide (i + 8 < 64) && s.testBit (i + 8)
def cnt (s : Nat) : Nat := tc 64 0 s.testBit
theorem tc_skip {p : Nat → Bool} : ∀ i, i ≤ 64 → (∀ j, j < i → p j = false) → tc 64 0 p = tc (64 - i) i p := by
  intro i
  induction i with
  | zero => intro _ _; rfl
  | succ i ih =>
    intro hi h
    rw [ih (by omega) (fun j hj => h j (by omega)), show 64 - i = (64 - (i + 1)) + 1 by omega, tc, if_neg (by rw [h i (by omega)]; simp)]
theorem bit_hi {s : Nat} (hs : s < 18446744073709551616) {j : Nat} (hj : 64 ≤ j) : s.testBit j = false :=
  Nat.testBit_lt_two_pow (Nat.lt_of_lt_of_le hs (Nat.pow_le_pow_right (n := 2) (i := 64) (by decide) hj))
def firstI (s : Nat) : Nat := (List.range 64).findIdx s.testBit
theorem firstI_lt {s : Nat} (hs : s < 18446744073709551616) (h0 : s ≠ 0) : firstI s < 64 ∧ s.testBit (firstI s) = true := by
  obtain ⟨x, hx⟩ := Nat.exists_testBit_of_ne_zero h0
  have hx64 : x < 64 := by
    rcases Nat.lt_or_ge x 64 with h | h
    · exact h
    · rw [bit_hi hs h] at hx; cases hx
  have hlt : (List.range 64).findIdx s.testBit < (List.range 64).length := List.findIdx_lt_length_of_exists ⟨x, by simpa using hx64, hx⟩
  have h2 := List.findIdx_getElem (w := hlt)
  refine ⟨by simpa [firstI] using hlt, ?_⟩
  simpa [firstI] using h2
theorem firstI_min {s j : Nat} (hj : j < firstI s) : s.testBit j = false := by
  unfold firstI at hj
  have h1 := List.not_of_lt_findIdx hj
  simpa using h1
def dmn (i : Nat) (b : Bool) : Dom := ⟨(cN i).x, (cN i).y, b⟩
theorem okD_r {i : Nat} (h : i < 64) : okD (dmn i false) = decide (i % 8 < 7) := by
  unfold okD okd dmn
  rw [Bool.eq_iff_iff, Bool.and_eq_true, decide_eq_true_eq]
  simp only [Bool.false_eq_true, if_false, okc_true]
  unfold cN; dsimp only; omega
theorem okD_d {i : Nat} (h : i < 64) : okD (dmn i true) = decide (i + 8 < 64) := by
  unfold okD okd dmn
  rw [Bool.eq_iff_iff, Bool.and_eq_true, decide_eq_true_eq]
  simp only [if_true, okc_true]
  unfold cN; dsimp only; omega
theorem ca_dmn {i : Nat} (b : Bool) (h : i < 64) : idx (ca (dmn i b)) = i := idx_cN h
theorem cb_r (i : Nat) (h : i < 64) (h2 : i % 8 < 7) : idx (cb (dmn i false)) = i + 1 := by
  unfold cb dmn idx cN; simp only [Bool.false_eq_true, if_false]; omega
theorem cb_d (i : Nat) (h : i < 64) : idx (cb (dmn i true)) = i + 8 := by
  unfold cb dmn idx cN; simp only [if_true]; omega
def fitD (s : Nat) (d : Dom) : Bool := okD d && decide (s &&& domS d = domS d)
theorem and_eq_iff (s d : Nat) : (s &&& d = d) ↔ ∀ i, d.testBit i = true → s.testBit i = true := by
  constructor
  · intro h i hi
    rw [← h, Nat.testBit_and, Bool.and_eq_true] at hi; exact hi.1
  · intro h
    apply Nat.eq_of_testBit_eq; intro i
    rw [Nat.testBit_and]
    rcases Bool.eq_false_or_eq_true (d.testBit i) with e | e
    · rw [e, h i e]; rfl
    · rw [e]; simp
theorem fit_bits (s : Nat) (d : Dom) : decide (s &&& domS d = domS d) = (s.testBit (idx (ca d)) && s.testBit (idx (cb d))) := by
  rw [Bool.eq_iff_iff, decide_eq_true_eq, and_eq_iff, Bool.and_eq_true]
  constructor
  · intro h; exact ⟨h _ (by rw [domS_bit]; simp), h _ (by rw [domS_bit]; simp)⟩
  · rintro ⟨h1, h2⟩ i hi
    rw [domS_bit, Bool.or_eq_true, decide_eq_true_eq, decide_eq_true_eq] at hi
    rcases hi with rfl | rfl
    · exact h1
    · exact h2
theorem fit_r {s i : Nat} (h : i < 64) (hb : s.testBit i = true) : fitD s (dmn i false) = (decide (i % 8 < 7) && s.testBit (i + 1)) := by
  unfold fitD
  rw [okD_r h, fit_bits, ca_dmn _ h]
  by_cases h7 : i % 8 < 7
  · rw [cb_r i h h7, hb]; simp
  · simp [h7]
theorem fit_d {s i : Nat} (h : i < 64) (hb : s.testBit i = true) : fitD s (dmn i true) = (decide (i + 8 < 64) && s.testBit (i + 8)) := by
  unfold fitD
  rw [okD_d h, fit_bits, ca_dmn _ h, cb_d i h, hb]; simp
theorem cnt_sub {s i : Nat} {d : Dom} {b : Nat} (hi : i < 64) (hmin : ∀ j, j < i → s.testBit j = false) (h1 : idx (ca d) = i) (h2 : idx (cb d) = b) (hb : i < b) :
    tc (64 - (i + 1)) (i + 1) (fun j => s.testBit j && !decide (j = b)) = cnt (andn s (domS d)) := by
  unfold cnt
  rw [tc_skip (i + 1) (by omega)]
  · apply tc_congr
    intro j hj
    rw [andn_bit, domS_bit, h1, h2]
    have e1 : decide (i = j) = false := by simp; omega
    have e2 : decide (b = j) = decide (j = b) := by rw [decide_eq_decide]; omega
    rw [e1, e2]; simp
  · intro j hj
    rw [andn_bit, domS_bit, h1]
    rcases Nat.lt_or_ge j i with h3 | h3
    · rw [hmin j h3]; rfl
    · have e1 : decide (i = j) = true := by simp; omega
      rw [e1]; simp
theorem cnt_rec {s : Nat} (hs : s < 18446744073709551616) (h0 : s ≠ 0) :
    cnt s = (if fitD s (dmn (firstI s) false) = true then cnt (andn s (domS (dmn (firstI s) false))) else 0) + (if fitD s (dmn (firstI s) true) = true then cnt (andn s (domS (dmn (firstI s) true))) else 0) := by
  obtain ⟨hi, hb⟩ := firstI_lt hs h0
  have hmin : ∀ j, j < firstI s → s.testBit j = false := fun j hj => firstI_min hj
  rw [fit_r hi hb, fit_d hi hb]
  rw [show cnt s = tc 64 0 s.testBit from rfl, tc_skip (firstI s) (by omega) hmin, show 64 - firstI s = (64 - (firstI s + 1)) + 1 by omega, tc, if_pos hb]
  congr 1
  · by_cases h : (decide (firstI s % 8 < 7) && s.testBit (firstI s + 1)) = true
    · rw [if_pos h, if_pos h]
      exact cnt_sub hi hmin (ca_dmn _ hi) (cb_r _ hi (by simp only [Bool.and_eq_true, decide_eq_true_eq] at h; exact h.1)) (by omega)
    · rw [if_neg h, if_neg h]
  · by_cases h : (decide (firstI s + 8 < 64) && s.testBit (firstI s + 8)) = true
    · rw [if_pos h, if_pos h]
      exact cnt_sub hi hmin (ca_dmn _ hi) (cb_d _ hi) (by omega)
    · rw [if_neg h, if_neg h]
theorem cnt_zero : cnt 0 = 1 := by
  unfold cnt
  rw [tc_skip 64 (Nat.le_refl _) (fun j _ => Nat.zero_testBit j)]; rfl
theorem fit_ok {s : Nat} {d : Dom} (h : fitD s d = true) : okD d = true ∧ s.testBit (idx (ca d)) = true ∧ s.testBit (idx (cb d)) = true := by
  unfold fitD at h
  rw [fit_bits] at h
  simp only [Bool.and_eq_true] at h
  exact ⟨h.1, h.2.1, h.2.2⟩
theorem popc_sub {s : Nat} {d : Dom} (h : fitD s d = true) : popc (andn s (domS d)) + 2 = popc s := by
  obtain ⟨h1, h2, h3⟩ := fit_ok h
  have e : andn s (domS d) ||| domS d = s := by
    apply Nat.eq_of_testBit_eq; intro i
    rw [Nat.testBit_or, andn_bit, domS_bit]
    by_cases ha : idx (ca d) = i
    · subst ha; simp [h2]
    · by_cases hb : idx (cb d) = i
      · subst hb; simp [h3]
      · simp [ha, hb]
  have := popc_dom (s := andn s (domS d)) h1 (by rw [andn_bit, domS_bit]; simp) (by rw [andn_bit, domS_bit]; simp)
  rw [e] at this; exact this.symm
/-- the first tiling -/
def pick (s : Nat) : Dom := if (fitD s (dmn (firstI s) false) && !decide (cnt (andn s (domS (dmn (firstI s) false))) = 0)) = true then dmn (firstI s) false else dmn (firstI s) true
theorem pick_ok {s : Nat} (hs : s < 18446744073709551616) (h0 : s ≠ 0) (hc : 0 < cnt s) : fitD s (pick s) = true ∧ 0 < cnt (andn s (domS (pick s))) := by
  rw [cnt_rec hs h0] at hc
  unfold pick
  by_cases h : (fitD s (dmn (firstI s) false) && !decide (cnt (andn s (domS (dmn (firstI s) false))) = 0)) = true
  · rw [if_pos h]
    simp only [Bool.and_eq_true, Bool.not_eq_true', decide_eq_false_iff_not] at h
    exact ⟨h.1, by omega⟩
  · rw [if_neg h]
    have e : (if fitD s (dmn (firstI s) false) = true then cnt (andn s (domS (dmn (firstI s) false))) else 0) = 0 := by
      split
      · rename_i h1
        rw [h1] at h
        simpa using h
      · rfl
    rw [e, Nat.zero_add] at hc
    split at hc
    · rename_i h1; exact ⟨h1, hc⟩
    · omega
def ftl : Nat → Nat → List Dom
  | 0, _ => []
  | n + 1, s => if s = 0 then [] else pick s :: ftl n (andn s (domS (pick s)))
/-- all tilings in order -/
def tls : Nat → Nat → List (List Dom)
  | 0, _ => []
  | n + 1, s => if s = 0 then [[]] else
      (if fitD s (dmn (firstI s) false) = true then (tls n (andn s (domS (dmn (firstI s) false)))).map (dmn (firstI s) false :: ·) else []) ++
      (if fitD s (dmn (firstI s) true) = true then (tls n (andn s (domS (dmn (firstI s) true)))).map (dmn (firstI s) true :: ·) else [])
theorem tls_len : ∀ n s, s < 18446744073709551616 → popc s < 2 * n → (tls n s).length = cnt s := by
  intro n
  induction n with
  | zero => intro s _ h; omega
  | succ n ih =>
    intro s hs hp
    unfold tls
    by_cases h0 : s = 0
    · rw [if_pos h0, h0, cnt_zero]; rfl
    · rw [if_neg h0, cnt_rec hs h0, List.length_append]
      congr 1
      · split
        · rename_i h
          rw [List.length_map, ih _ (andn_lt hs) (by have := popc_sub h; omega)]
        · rfl
      · split
        · rename_i h
          rw [List.length_map, ih _ (andn_lt hs) (by have := popc_sub h; omega)]
        · rfl
/-- counting with a domino -/
def cntR (l : List Int) : Nat := if regOk l = true then cnt (regSet l) else 0
theorem shlI {a b : Int} {m n : Nat} (ha : a = (m : Int)) (hb : b = (n : Int)) (hn : n ≤ 64) (hm : m <<< n < 9223372036854775808) : IntKind.i64.wrap (a * 2 ^ (min b.toNat IntKind.i64.bits)) = ((m <<< n : Nat) : Int) := by
  subst ha; subst hb
  have e : min ((n : Int)).toNat IntKind.i64.bits = n := by
    simp only [Int.toNat_natCast, IntKind.bits]; omega
  rw [e]
  have e2 : ((m : Int) * 2 ^ n) = ((m <<< n : Nat) : Int) := by rw [Nat.shiftLeft_eq]; push_cast; rfl
  rw [e2]; exact wrap_i hm
end Cl
end Go.Proofs.Ytjgjeflidcembaa
