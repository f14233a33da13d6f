/- Walks over clean states, printed by wg.py. No statement is proved here. -/
import Derived.Test.YtgmkkfdnmdohlaaGreatDoorC3
import Derived.Test.YtgmkkfdnmdohlaaGreatDoorClB
set_option linter.unusedSimpArgs false
set_option linter.unusedVariables false
namespace Go.Proofs.YtgmkkfdnmdohlaaGreatDoor
namespace Cl
open Go.ChangeShapes Go.WideShapes Go.ChangeAt Go.RowKit
set_option maxRecDepth 20000
/-- tilings of what is left, cell by cell -/
def tc : Nat → Nat → (Nat → Bool) → Nat
  | 0, _, _ => 1
  | f + 1, i, p => if p i = true then (if (decide (i % 8 < 7) && p (i + 1)) = true then tc f (i + 1) (fun j => p j && !decide (j = i + 1)) else 0) + (if (decide (i + 8 < 64) && p (i + 8)) = true then tc f (i + 1) (fun j => p j && !decide (j = i + 8)) else 0) else tc f (i + 1) p
theorem tc_congr : ∀ (f i : Nat) (p q : Nat → Bool), (∀ j, i ≤ j → p j = q j) → tc f i p = tc f i q := by
  intro f
  induction f with
  | zero => intro i p q _; rfl
  | succ f ih =>
    intro i p q h
    unfold tc
    rw [h i (Nat.le_refl _), h (i+1) (by omega), h (i+8) (by omega)]
    rw [ih (i+1) (fun j => p j && !decide (j = i + 1)) (fun j => q j && !decide (j = i + 1)) (fun j hj => by simp only [h j (by omega)])]
    rw [ih (i+1) (fun j => p j && !decide (j = i + 8)) (fun j => q j && !decide (j = i + 8)) (fun j hj => by simp only [h j (by omega)])]
    rw [ih (i+1) p q (fun j hj => h j (by omega))]
/-- one step of the profile -/
def putI (L : List Int) (k : Nat) (n : Int) : List Int := L.set k (gI L k + n)
def dnB (s i : Nat) : Bool := decide (i + 8 < 64) && s.testBit (i + 8)
def rtB (s i : Nat) : Bool := decide (i % 8 < 7) && s.testBit (i + 1)
def stepK (s i : Nat) (L : List Int) (k : Nat) (n : Int) : List Int :=
  if n = 0 then L
  else if s.testBit i = true then
    (if k.testBit (i % 8) = true then putI L (andn k (2 ^ (i % 8))) n
     else if (rtB s i && !k.testBit (i % 8 + 1)) = true then putI (if dnB s i = true then putI L (k ||| 2 ^ (i % 8)) n else L) (k ||| 2 ^ (i % 8 + 1)) n
     else if dnB s i = true then putI L (k ||| 2 ^ (i % 8)) n else L)
  else if k.testBit (i % 8) = true then L else putI L k n
def stepT (s i : Nat) (now : List Int) (m : Nat) : List Int := (List.range m).foldl (fun L k => stepK s i L k (gI now k)) (List.replicate 256 0)
def prof (s : Nat) : Nat → List Int
  | 0 => (List.replicate 256 0).set 0 1
  | i + 1 => stepT s i (prof s i) 256
def dotN (L : List Int) (W : Nat → Int) : Nat → Int
  | 0 => 0
  | n + 1 => dotN L W n + gI L n * W n
theorem dot_set {L : List Int} (hL : L.length = 256) (W : Nat → Int) {k : Nat} (v : Int) : ∀ n, n ≤ 256 → dotN (putI L k v) W n = dotN L W n + (if k < n then v * W k else 0) := by
  intro n
  induction n with
  | zero => intro _; simp [dotN]
  | succ n ih =>
    intro hn
    unfold dotN
    rw [ih (by omega), putI, gI_set (by omega)]
    by_cases h : k = n
    · subst h
      rw [if_pos rfl, if_neg (by omega), if_pos (by omega), Int.add_mul]; omega
    · rw [if_neg h]
      by_cases h2 : k < n
      · rw [if_pos h2, if_pos (by omega)]; omega
      · rw [if_neg h2, if_neg (by omega)]; omega
theorem gI_rep0 (k : Nat) : gI (List.replicate 256 0) k = 0 := by unfold gI; rw [List.getD_eq_getElem?_getD, List.getElem?_replicate]; split <;> rfl
theorem dot_zero (W : Nat → Int) : ∀ n, dotN (List.replicate 256 0) W n = 0 := by
  intro n
  induction n with
  | zero => rfl
  | succ n ih =>
    unfold dotN
    rw [ih]
    have : gI (List.replicate 256 0) n = 0 := by
      unfold gI; rw [List.getD_eq_getElem?_getD, List.getElem?_replicate]; split <;> rfl
    rw [this]; simp
theorem putI_len (L : List Int) (k : Nat) (n : Int) : (putI L k n).length = L.length := by unfold putI; simp
theorem stepK_len (s i : Nat) (L : List Int) (k : Nat) (n : Int) : (stepK s i L k n).length = L.length := by
  unfold stepK; (repeat' split) <;> simp only [putI_len]
theorem stepT_len (s i : Nat) (now : List Int) : ∀ m, (stepT s i now m).length = 256 := by
  intro m
  induction m with
  | zero => exact List.length_replicate
  | succ m ih => unfold stepT at *; rw [List.range_succ, List.foldl_append]; simp only [List.foldl_cons, List.foldl_nil]; rw [stepK_len, ih]
theorem stepT_snoc (s i : Nat) (now : List Int) (m : Nat) : stepT s i now (m+1) = stepK s i (stepT s i now m) m (gI now m) := by
  unfold stepT; rw [List.range_succ, List.foldl_append]; rfl
theorem prof_len (s : Nat) : ∀ i, (prof s i).length = 256 := by
  intro i
  cases i with
  | zero => rw [prof, List.length_set, List.length_replicate]
  | succ i => exact stepT_len _ _ _ _
def succW (s i k : Nat) (W : Nat → Int) : Int :=
  if s.testBit i = true then
    (if k.testBit (i % 8) = true then W (andn k (2 ^ (i % 8)))
     else (if dnB s i = true then W (k ||| 2 ^ (i % 8)) else 0) + (if (rtB s i && !k.testBit (i % 8 + 1)) = true then W (k ||| 2 ^ (i % 8 + 1)) else 0))
  else if k.testBit (i % 8) = true then 0 else W k
theorem or_lt {k x : Nat} (hk : k < 256) (hx : x < 8) : k ||| 2 ^ x < 256 := Nat.or_lt_two_pow (n := 8) hk (Nat.pow_lt_pow_right (by decide) hx)
theorem andn_lt8 {k m : Nat} (hk : k < 256) : andn k m < 256 := by
  unfold andn; exact Nat.xor_lt_two_pow (n := 8) hk (Nat.lt_of_le_of_lt Nat.and_le_left hk)
theorem rt_lt {s i : Nat} (h : rtB s i = true) : i % 8 + 1 < 8 := by
  unfold rtB at h; simp only [Bool.and_eq_true, decide_eq_true_eq] at h; omega
theorem dot_stepK {L : List Int} (hL : L.length = 256) (s i : Nat) {k : Nat} (hk : k < 256) (n : Int) (W : Nat → Int) : dotN (stepK s i L k n) W 256 = dotN L W 256 + n * succW s i k W := by
  have hx : i % 8 < 8 := Nat.mod_lt _ (by decide)
  unfold stepK succW
  by_cases hn : n = 0
  · rw [if_pos hn, hn]; simp
  rw [if_neg hn]
  by_cases hs : s.testBit i = true
  · rw [if_pos hs, if_pos hs]
    by_cases hb : k.testBit (i % 8) = true
    · rw [if_pos hb, if_pos hb, dot_set hL W n 256 (Nat.le_refl _), if_pos (andn_lt8 hk)]
    · rw [if_neg hb, if_neg hb]
      by_cases hr : (rtB s i && !k.testBit (i % 8 + 1)) = true
      · have hr1 : i % 8 + 1 < 8 := rt_lt (by simp only [Bool.and_eq_true] at hr; exact hr.1)
        rw [if_pos hr, if_pos hr]
        by_cases hd : dnB s i = true
        · rw [if_pos hd, if_pos hd, dot_set (by rw [putI_len]; exact hL) W n 256 (Nat.le_refl _), if_pos (or_lt hk hr1), dot_set hL W n 256 (Nat.le_refl _), if_pos (or_lt hk hx), Int.mul_add]; omega
        · rw [if_neg hd, if_neg hd, dot_set hL W n 256 (Nat.le_refl _), if_pos (or_lt hk hr1)]; simp
      · rw [if_neg hr, if_neg hr]
        by_cases hd : dnB s i = true
        · rw [if_pos hd, if_pos hd, dot_set hL W n 256 (Nat.le_refl _), if_pos (or_lt hk hx)]; simp
        · rw [if_neg hd, if_neg hd]; simp
  · rw [if_neg hs, if_neg hs]
    by_cases hb : k.testBit (i % 8) = true
    · rw [if_pos hb, if_pos hb]; simp
    · rw [if_neg hb, if_neg hb, dot_set hL W n 256 (Nat.le_refl _), if_pos hk]
theorem dot_stepT (s i : Nat) (now : List Int) (W : Nat → Int) : ∀ m, m ≤ 256 → dotN (stepT s i now m) W 256 = dotN now (fun k => succW s i k W) m := by
  intro m
  induction m with
  | zero => intro _; exact dot_zero W 256
  | succ m ih =>
    intro hm
    rw [stepT_snoc, dot_stepK (stepT_len _ _ _ _) s i (by omega), ih (by omega)]
    rfl
/-- the numbers stay small -/
def pc8 (k : Nat) : Nat := ((List.range 8).filter k.testBit).length
theorem pc8_le (k : Nat) : pc8 k ≤ 8 := by unfold pc8; exact Nat.le_trans (List.length_filter_le _ _) (by simp)
theorem pc8_or {k x : Nat} (hx : x < 8) (h : k.testBit x = false) : pc8 (k ||| 2 ^ x) = pc8 k + 1 := by
  unfold pc8; rw [count_add, if_pos ⟨h, hx⟩]
theorem pc8_andn {k x : Nat} (hx : x < 8) (h : k.testBit x = true) : pc8 (andn k (2 ^ x)) + 1 = pc8 k := by
  have h1 : (andn k (2 ^ x)).testBit x = false := by rw [andn_bit, Nat.testBit_two_pow]; simp
  have := pc8_or hx h1
  have e : andn k (2 ^ x) ||| 2 ^ x = k := by
    apply Nat.eq_of_testBit_eq; intro i
    rw [Nat.testBit_or, andn_bit, Nat.testBit_two_pow]
    by_cases hi : x = i
    · subst hi; simp [h]
    · simp [hi]
  rw [e] at this; exact this.symm
def uW (i k : Nat) : Int := ((2 ^ ((72 - i - pc8 k) / 2) : Nat) : Int)
theorem uW_pos (i k : Nat) : 1 ≤ uW i k := by
  have : 0 < 2 ^ ((72 - i - pc8 k) / 2) := Nat.two_pow_pos _
  unfold uW; omega
theorem pw {a b : Nat} (h : a ≤ b) : ((2 ^ a : Nat) : Int) ≤ ((2 ^ b : Nat) : Int) := by
  have := Nat.pow_le_pow_right (n := 2) (by decide) h
  omega
theorem pc8_lt {k x : Nat} (hx : x < 8) (h : k.testBit x = false) : pc8 k ≤ 7 := by
  have h1 := pc8_or hx h
  have h2 := pc8_le (k ||| 2 ^ x)
  omega
theorem uW_half {i k : Nat} {x : Nat} (hi : i < 64) (hx : x < 8) (h : k.testBit x = false) : uW (i+1) (k ||| 2 ^ x) + uW (i+1) (k ||| 2 ^ x) = uW i k := by
  have h7 := pc8_lt hx h
  unfold uW
  rw [pc8_or hx h]
  have e : (72 - i - pc8 k) / 2 = (72 - (i + 1) - (pc8 k + 1)) / 2 + 1 := by omega
  rw [e, Nat.pow_succ]; omega
theorem succ_uW (s : Nat) {i k : Nat} (hi : i < 64) : succW s i k (uW (i+1)) ≤ uW i k := by
  have hx : i % 8 < 8 := Nat.mod_lt _ (by decide)
  have h0 := uW_pos i k
  unfold succW
  by_cases hs : s.testBit i = true
  · rw [if_pos hs]
    by_cases hb : k.testBit (i % 8) = true
    · rw [if_pos hb]
      have := pc8_andn hx hb
      unfold uW; exact pw (by omega)
    · rw [if_neg hb]
      simp only [Bool.not_eq_true] at hb
      have e1 := uW_half hi hx hb
      have p1 := uW_pos (i+1) (k ||| 2 ^ (i % 8))
      by_cases hr : (rtB s i && !k.testBit (i % 8 + 1)) = true
      · rw [if_pos hr]
        simp only [Bool.and_eq_true, Bool.not_eq_true'] at hr
        have hr1 := rt_lt hr.1
        have e2 := uW_half hi hr1 hr.2
        split <;> omega
      · rw [if_neg hr]
        split <;> omega
  · rw [if_neg hs]
    by_cases hb : k.testBit (i % 8) = true
    · rw [if_pos hb]; omega
    · rw [if_neg hb]; unfold uW; exact pw (by omega)
def nonneg (L : List Int) : Prop := ∀ k, 0 ≤ gI L k
theorem nonneg_put {L : List Int} (h : nonneg L) (k : Nat) {n : Int} (hn : 0 ≤ n) : nonneg (putI L k n) := by
  intro j
  have hk := h k
  have hj := h j
  unfold putI
  generalize gI L k = g at *
  unfold gI at *
  rw [List.getD_eq_getElem?_getD, List.getElem?_set]
  split
  · split
    · simp only [Option.getD_some]; omega
    · exact Int.le_refl _
  · rwa [List.getD_eq_getElem?_getD] at hj
theorem nonneg_zero : nonneg (List.replicate 256 0) := by
  intro k; unfold gI; rw [List.getD_eq_getElem?_getD, List.getElem?_replicate]; split <;> exact Int.le_refl _
theorem nonneg_stepK {L : List Int} (h : nonneg L) (s i k : Nat) {n : Int} (hn : 0 ≤ n) : nonneg (stepK s i L k n) := by
  unfold stepK
  (repeat' split) <;> first | exact h | exact nonneg_put h _ hn | exact nonneg_put (nonneg_put h _ hn) _ hn
theorem nonneg_stepT {now : List Int} (h : nonneg now) (s i : Nat) : ∀ m, nonneg (stepT s i now m) := by
  intro m
  induction m with
  | zero => exact nonneg_zero
  | succ m ih => rw [stepT_snoc]; exact nonneg_stepK ih _ _ _ (h m)
theorem nonneg_prof (s : Nat) : ∀ i, nonneg (prof s i) := by
  intro i
  induction i with
  | zero =>
    have e : (List.replicate 256 (0 : Int)).set 0 1 = putI (List.replicate 256 0) 0 1 := by
      unfold putI; rw [gI_rep0]; rfl
    rw [prof, e]; exact nonneg_put nonneg_zero 0 (by decide)
  | succ i ih => exact nonneg_stepT ih _ _ _
theorem dot_le {L : List Int} (h : nonneg L) {W V : Nat → Int} (hw : ∀ k, W k ≤ V k) : ∀ n, dotN L W n ≤ dotN L V n := by
  intro n
  induction n with
  | zero => exact Int.le_refl _
  | succ n ih => rw [show dotN L W (n+1) = dotN L W n + gI L n * W n from rfl, show dotN L V (n+1) = dotN L V n + gI L n * V n from rfl]; have := Int.mul_le_mul_of_nonneg_left (hw n) (h n); omega
theorem dot_mono {L : List Int} (h : nonneg L) {W : Nat → Int} (hw : ∀ k, 0 ≤ W k) {m n : Nat} (hmn : m ≤ n) : dotN L W m ≤ dotN L W n := by
  induction n with
  | zero => have : m = 0 := by omega
            subst this; exact Int.le_refl _
  | succ n ih =>
    rcases Nat.lt_or_ge n m with h1 | h1
    · have : m = n + 1 := by omega
      subst this; exact Int.le_refl _
    · rw [show dotN L W (n+1) = dotN L W n + gI L n * W n from rfl]; have := Int.mul_nonneg (h n) (hw n); have := ih h1; omega
theorem dot_at {L : List Int} (h : nonneg L) {W : Nat → Int} (hw : ∀ k, 1 ≤ W k) {k : Nat} : ∀ n, k < n → gI L k ≤ dotN L W n := by
  intro n hk
  have h1 := dot_mono h (W := W) (fun k => by have := hw k; omega) (show k + 1 ≤ n by omega)
  have h2 : 0 ≤ dotN L W k := by
    have := dot_mono h (W := W) (fun k => by have := hw k; omega) (Nat.zero_le k)
    exact this
  have h3 := Int.mul_le_mul_of_nonneg_left (hw k) (h k)
  rw [show dotN L W (k+1) = dotN L W k + gI L k * W k from rfl] at h1
  omega
theorem dot_init (W : Nat → Int) : dotN ((List.replicate 256 0).set 0 1) W 256 = W 0 := by
  have e : (List.replicate 256 (0 : Int)).set 0 1 = putI (List.replicate 256 0) 0 1 := by
    unfold putI; rw [gI_rep0]; rfl
  rw [e, dot_set List.length_replicate W 1 256 (Nat.le_refl _), dot_zero]; simp
theorem dot_prof (s : Nat) : ∀ i, i ≤ 64 → dotN (prof s i) (uW i) 256 ≤ 68719476736 := by
  intro i
  induction i with
  | zero => intro _; rw [prof, dot_init]; decide
  | succ i ih =>
    intro hi
    rw [prof, dot_stepT _ _ _ _ 256 (Nat.le_refl _)]
    exact Int.le_trans (dot_le (nonneg_prof s i) (fun k => succ_uW s (by omega)) 256) (ih (by omega))
theorem prof_bd {s i : Nat} (hi : i ≤ 64) {k : Nat} (hk : k < 256) : 0 ≤ gI (prof s i) k ∧ gI (prof s i) k ≤ 68719476736 :=
  ⟨nonneg_prof s i k, Int.le_trans (dot_at (nonneg_prof s i) (uW_pos i) 256 hk) (dot_prof s i hi)⟩
theorem part_bd {s i : Nat} (hi : i < 64) {m k : Nat} (hm : m ≤ 256) (hk : k < 256) : 0 ≤ gI (stepT s i (prof s i) m) k ∧ gI (stepT s i (prof s i) m) k ≤ 68719476736 := by
  have hn := nonneg_stepT (nonneg_prof s i) s i m
  refine ⟨hn k, Int.le_trans (dot_at hn (uW_pos (i+1)) 256 hk) ?_⟩
  rw [dot_stepT _ _ _ _ m hm]
  refine Int.le_trans (dot_le (nonneg_prof s i) (fun k => succ_uW s hi) m) ?_
  exact Int.le_trans (dot_mono (nonneg_prof s i) (fun k => by have := uW_pos i k; omega) hm) (dot_prof s i (by omega))
/-- the numbers count -/
def remB (s i k j : Nat) : Bool := s.testBit j && !(decide (j < i + 8) && k.testBit (j % 8))
def valB (s i k : Nat) : Bool := (List.range 8).all fun t => !k.testBit ((i + t) % 8) || s.testBit (i + t)
theorem valB_iff {s i k : Nat} : valB s i k = true ↔ ∀ j, i ≤ j → j < i + 8 → k.testBit (j % 8) = true → s.testBit j = true := by
  unfold valB
  simp only [List.all_eq_true, List.mem_range, Bool.or_eq_true, Bool.not_eq_true']
  constructor
  · intro h j h1 h2 h3
    have := h (j - i) (by omega)
    rw [show i + (j - i) = j by omega] at this
    rcases this with h4 | h4
    · rw [h4] at h3; cases h3
    · exact h4
  · intro h t ht
    rcases Bool.eq_false_or_eq_true (k.testBit ((i + t) % 8)) with h1 | h1
    · exact .inr (h (i + t) (by omega) (by omega) h1)
    · exact .inl h1
def tW (s i k : Nat) : Int := if valB s i k = true then ((tc (64 - i) i (remB s i k) : Nat) : Int) else 0
theorem bit_or (k x y : Nat) : (k ||| 2 ^ x).testBit y = (k.testBit y || decide (x = y)) := by rw [Nat.testBit_or, Nat.testBit_two_pow]
theorem bit_an (k x y : Nat) : (andn k (2 ^ x)).testBit y = (k.testBit y && !decide (x = y)) := by rw [andn_bit, Nat.testBit_two_pow]
theorem valB_or {s i k x : Nat} (hi : s.testBit i = true) (hb : k.testBit (i % 8) = false) (j : Nat) (hj1 : i + 1 ≤ j) (hj2 : j < i + 9) (hjx : j % 8 = x) (hj : s.testBit j = true) : valB s (i+1) (k ||| 2 ^ x) = valB s i k := by
  rw [Bool.eq_iff_iff, valB_iff, valB_iff]
  constructor
  · intro h m h1 h2 h3
    rcases Nat.eq_or_lt_of_le h1 with rfl | h4
    · exact hi
    · exact h m h4 (by omega) (by rw [bit_or, h3]; rfl)
  · intro h m h1 h2 h3
    rw [bit_or, Bool.or_eq_true, decide_eq_true_eq] at h3
    rcases h3 with h3 | h3
    · rcases Nat.lt_or_ge m (i + 8) with h4 | h4
      · exact h m (by omega) h4 h3
      · have : m % 8 = i % 8 := by omega
        rw [this, hb] at h3; cases h3
    · have : m = j := by omega
      subst this; exact hj
theorem rem_or {s i k x : Nat} (hb : k.testBit (i % 8) = false) (j : Nat) (hj1 : i + 1 ≤ j) (hj2 : j < i + 9) (hjx : j % 8 = x) (m : Nat) (hm : i + 1 ≤ m) : remB s (i+1) (k ||| 2 ^ x) m = (remB s i k m && !decide (m = j)) := by
  unfold remB
  rw [bit_or]
  by_cases h1 : m < i + 8
  · have e1 : decide (m < i + 1 + 8) = true := by simp; omega
    have e2 : decide (m < i + 8) = true := by simp; omega
    have e3 : decide (x = m % 8) = decide (m = j) := by rw [decide_eq_decide]; omega
    rw [e1, e2, e3]; cases s.testBit m <;> cases k.testBit (m % 8) <;> cases decide (m = j) <;> rfl
  · have e2 : decide (m < i + 8) = false := by simp; omega
    rw [e2]
    by_cases h2 : m < i + 9
    · have e1 : decide (m < i + 1 + 8) = true := by simp; omega
      have e4 : m % 8 = i % 8 := by omega
      have e3 : decide (x = i % 8) = decide (m = j) := by rw [decide_eq_decide]; omega
      rw [e1, e4, e3, hb]; cases s.testBit m <;> cases decide (m = j) <;> rfl
    · have e1 : decide (m < i + 1 + 8) = false := by simp; omega
      have e3 : decide (m = j) = false := by simp; omega
      rw [e1, e3]; simp
theorem succ_tW {s : Nat} (hs64 : s < 18446744073709551616) {i k : Nat} (hi : i < 64) : succW s i k (tW s (i+1)) = tW s i k := by
  have hx : i % 8 < 8 := Nat.mod_lt _ (by decide)
  have ef : 64 - i = (64 - (i + 1)) + 1 := by omega
  have hov : ∀ j, 64 ≤ j → s.testBit j = false := fun j hj => Nat.testBit_lt_two_pow (Nat.lt_of_lt_of_le hs64 (Nat.pow_le_pow_right (n := 2) (i := 64) (by decide) hj))
  unfold succW
  by_cases hs : s.testBit i = true
  · rw [if_pos hs]
    by_cases hb : k.testBit (i % 8) = true
    · rw [if_pos hb]
      have hv : valB s (i+1) (andn k (2 ^ (i % 8))) = valB s i k := by
        rw [Bool.eq_iff_iff, valB_iff, valB_iff]
        constructor
        · intro h m h1 h2 h3
          rcases Nat.eq_or_lt_of_le h1 with rfl | h4
          · exact hs
          · exact h m h4 (by omega) (by rw [bit_an, h3]; simp; omega)
        · intro h m h1 h2 h3
          rw [bit_an, Bool.and_eq_true, Bool.not_eq_true', decide_eq_false_iff_not] at h3
          rcases Nat.lt_or_ge m (i + 8) with h4 | h4
          · exact h m (by omega) h4 h3.1
          · exact absurd (by omega) h3.2
      unfold tW
      rw [hv]
      split
      · have hr : remB s i k i = false := by unfold remB; rw [hb]; simp
        rw [ef, tc, if_neg (by rw [hr]; simp)]
        congr 1
        apply tc_congr
        intro m hm
        unfold remB
        rw [bit_an]
        by_cases h1 : m < i + 8
        · have e1 : decide (m < i + 1 + 8) = true := by simp; omega
          have e2 : decide (m < i + 8) = true := by simp; omega
          have e3 : decide (i % 8 = m % 8) = false := by simp; omega
          rw [e1, e2, e3]; simp
        · have e2 : decide (m < i + 8) = false := by simp; omega
          rw [e2]
          by_cases h2 : m < i + 9
          · have e3 : decide (i % 8 = m % 8) = true := by simp; omega
            rw [e3]; simp
          · have e1 : decide (m < i + 1 + 8) = false := by simp; omega
            rw [e1]; rfl
      · rfl
    · rw [if_neg hb]
      simp only [Bool.not_eq_true] at hb
      have hr : remB s i k i = true := by unfold remB; rw [hb, hs]; simp
      have rd : remB s i k (i + 8) = s.testBit (i + 8) := by unfold remB; simp
      have rr : (decide (i % 8 < 7) && remB s i k (i + 1)) = (rtB s i && !k.testBit (i % 8 + 1)) := by
        unfold remB rtB
        by_cases h7 : i % 8 < 7
        · have : (i + 1) % 8 = i % 8 + 1 := by omega
          rw [this]; simp [Bool.and_assoc]
        · simp [h7]
      have rd2 : (decide (i + 8 < 64) && remB s i k (i + 8)) = dnB s i := by rw [rd]; rfl
      have key : tW s i k = if valB s i k = true then (((if (rtB s i && !k.testBit (i % 8 + 1)) = true then tc (64 - (i + 1)) (i + 1) (fun j => remB s i k j && !decide (j = i + 1)) else 0) + (if dnB s i = true then tc (64 - (i + 1)) (i + 1) (fun j => remB s i k j && !decide (j = i + 8)) else 0) : Nat) : Int) else 0 := by
        unfold tW
        rw [ef, tc, if_pos hr, rr, rd2]
      rw [key]
      have hd : dnB s i = true → tW s (i+1) (k ||| 2 ^ (i % 8)) = if valB s i k = true then ((tc (64 - (i + 1)) (i + 1) (fun j => remB s i k j && !decide (j = i + 8)) : Nat) : Int) else 0 := by
        intro h
        unfold dnB at h; simp only [Bool.and_eq_true, decide_eq_true_eq] at h
        unfold tW
        rw [valB_or hs hb (i + 8) (by omega) (by omega) (by omega) h.2]
        rw [tc_congr _ _ _ _ (fun m hm => rem_or (s := s) hb (i + 8) (by omega) (by omega) (by omega) m hm)]
      have hr' : (rtB s i && !k.testBit (i % 8 + 1)) = true → tW s (i+1) (k ||| 2 ^ (i % 8 + 1)) = if valB s i k = true then ((tc (64 - (i + 1)) (i + 1) (fun j => remB s i k j && !decide (j = i + 1)) : Nat) : Int) else 0 := by
        intro h
        unfold rtB at h; simp only [Bool.and_eq_true, decide_eq_true_eq] at h
        unfold tW
        rw [valB_or hs hb (i + 1) (by omega) (by omega) (by omega) h.1.2]
        rw [tc_congr _ _ _ _ (fun m hm => rem_or (s := s) hb (i + 1) (by omega) (by omega) (by omega) m hm)]
      by_cases h1 : (rtB s i && !k.testBit (i % 8 + 1)) = true
      · rw [if_pos h1, if_pos h1, hr' h1]
        by_cases h2 : dnB s i = true
        · rw [if_pos h2, if_pos h2, hd h2]; split <;> omega
        · rw [if_neg h2, if_neg h2]; split <;> omega
      · rw [if_neg h1, if_neg h1]
        by_cases h2 : dnB s i = true
        · rw [if_pos h2, if_pos h2, hd h2]; split <;> omega
        · rw [if_neg h2, if_neg h2]; split <;> omega
  · rw [if_neg hs]
    by_cases hb : k.testBit (i % 8) = true
    · rw [if_pos hb]
      unfold tW
      rw [if_neg]
      rw [valB_iff]
      intro h
      exact hs (h i (Nat.le_refl _) (by omega) hb)
    · rw [if_neg hb]
      simp only [Bool.not_eq_true] at hb hs
      have hv : valB s (i+1) k = valB s i k := by
        rw [Bool.eq_iff_iff, valB_iff, valB_iff]
        constructor
        · intro h m h1 h2 h3
          rcases Nat.eq_or_lt_of_le h1 with rfl | h4
          · rw [hb] at h3; cases h3
          · exact h m h4 (by omega) h3
        · intro h m h1 h2 h3
          rcases Nat.lt_or_ge m (i + 8) with h4 | h4
          · exact h m (by omega) h4 h3
          · rw [show m % 8 = i % 8 by omega, hb] at h3; cases h3
      unfold tW
      rw [hv]
      split
      · have hr : remB s i k i = false := by unfold remB; rw [hs]; simp
        rw [ef, tc, if_neg (by rw [hr]; simp)]
        congr 1
        apply tc_congr
        intro m hm
        unfold remB
        by_cases h1 : m < i + 8
        · have e1 : decide (m < i + 1 + 8) = true := by simp; omega
          have e2 : decide (m < i + 8) = true := by simp; omega
          rw [e1, e2]
        · have e2 : decide (m < i + 8) = false := by simp; omega
          rw [e2]
          by_cases h2 : m < i + 9
          · rw [show m % 8 = i % 8 by omega, hb]; simp
          · have e1 : decide (m < i + 1 + 8) = false := by simp; omega
            rw [e1]
      · rfl
theorem dot_eq {L : List Int} {W V : Nat → Int} (hw : ∀ k, W k = V k) (n : Nat) : dotN L W n = dotN L V n := by
  have : W = V := funext hw
  rw [this]
theorem dot_tW {s : Nat} (hs : s < 18446744073709551616) : ∀ i, i ≤ 64 → dotN (prof s i) (tW s i) 256 = tW s 0 0 := by
  intro i
  induction i with
  | zero => intro _; rw [prof, dot_init]
  | succ i ih =>
    intro hi
    rw [prof, dot_stepT _ _ _ _ 256 (Nat.le_refl _), dot_eq (fun k => succ_tW hs (k := k) (by omega)) 256, ih (by omega)]
theorem dot_one {L : List Int} {W : Nat → Int} (h : ∀ k, 0 < k → k < 256 → W k = 0) : ∀ n, 0 < n → n ≤ 256 → dotN L W n = gI L 0 * W 0 := by
  intro n
  induction n with
  | zero => intro h; omega
  | succ n ih =>
    intro _ hn
    unfold dotN
    rcases Nat.eq_zero_or_pos n with rfl | hp
    · simp [dotN]
    · rw [ih hp (by omega), h n hp (by omega)]; simp
def cnt (s : Nat) : Nat := tc 64 0 s.testBit
theorem prof_cnt {s : Nat} (hs : s < 18446744073709551616) : gI (prof s 64) 0 = ((cnt s : Nat) : Int) := by
  have h := dot_tW hs 64 (Nat.le_refl _)
  have hov : ∀ j, 64 ≤ j → s.testBit j = false := fun j hj => Nat.testBit_lt_two_pow (Nat.lt_of_lt_of_le hs (Nat.pow_le_pow_right (n := 2) (i := 64) (by decide) hj))
  rw [dot_one (fun k h1 h2 => ?_) 256 (by decide) (Nat.le_refl _)] at h
  · have e0 : tW s 64 0 = 1 := by
      unfold tW
      rw [if_pos]
      · rfl
      · rw [valB_iff]; intro j _ _ h3; rw [Nat.zero_testBit] at h3; cases h3
    have e1 : tW s 0 0 = ((cnt s : Nat) : Int) := by
      unfold tW
      rw [if_pos]
      · unfold cnt
        rw [Nat.sub_zero, tc_congr 64 0 (remB s 0 0) s.testBit (fun j _ => by unfold remB; rw [Nat.zero_testBit]; simp)]
      · rw [valB_iff]; intro j _ _ h3; rw [Nat.zero_testBit] at h3; cases h3
    rw [e0, e1] at h
    generalize gI (prof s 64) 0 = z at *
    omega
  · unfold tW
    rw [if_neg]
    rw [valB_iff]
    intro h3
    obtain ⟨x, hx⟩ := Nat.exists_testBit_of_ne_zero (show k ≠ 0 by omega)
    have hx8 : x < 8 := by
      rcases Nat.lt_or_ge x 8 with h4 | h4
      · exact h4
      · rw [Nat.testBit_lt_two_pow (Nat.lt_of_lt_of_le h2 (Nat.pow_le_pow_right (n := 2) (i := 8) (by decide) h4))] at hx; cases hx
    have := h3 (64 + x) (by omega) (by omega) (by rw [show (64 + x) % 8 = x by omega]; exact hx)
    rw [hov _ (by omega)] at this; cases this
theorem tc_skip {p : Nat → Bool} : ∀ i, i ≤ 64 → (∀ j, j < i → p j = false) → tc 64 0 p = tc (64 - i) i p := by
  intro i
  induction i with
  | zero => intro _ _; rfl
  | succ i ih =>
    intro hi h
    rw [ih (by omega) (fun j hj => h j (by omega)), show 64 - i = (64 - (i + 1)) + 1 by omega, tc, if_neg (by rw [h i (by omega)]; simp)]
theorem bit_hi {s : Nat} (hs : s < 18446744073709551616) {j : Nat} (hj : 64 ≤ j) : s.testBit j = false :=
  Nat.testBit_lt_two_pow (Nat.lt_of_lt_of_le hs (Nat.pow_le_pow_right (n := 2) (i := 64) (by decide) hj))
def firstI (s : Nat) : Nat := (List.range 64).findIdx s.testBit
theorem firstI_lt {s : Nat} (hs : s < 18446744073709551616) (h0 : s ≠ 0) : firstI s < 64 ∧ s.testBit (firstI s) = true := by
  obtain ⟨x, hx⟩ := Nat.exists_testBit_of_ne_zero h0
  have hx64 : x < 64 := by
    rcases Nat.lt_or_ge x 64 with h | h
    · exact h
    · rw [bit_hi hs h] at hx; cases hx
  have hlt : (List.range 64).findIdx s.testBit < (List.range 64).length := List.findIdx_lt_length_of_exists ⟨x, by simpa using hx64, hx⟩
  have h2 := List.findIdx_getElem (w := hlt)
  refine ⟨by simpa [firstI] using hlt, ?_⟩
  simpa [firstI] using h2
theorem firstI_min {s j : Nat} (hj : j < firstI s) : s.testBit j = false := by
  unfold firstI at hj
  have h1 := List.not_of_lt_findIdx hj
  simpa using h1
def dmn (i : Nat) (b : Bool) : Dom := ⟨(cN i).x, (cN i).y, b⟩
theorem okD_r {i : Nat} (h : i < 64) : okD (dmn i false) = decide (i % 8 < 7) := by
  unfold okD okd dmn
  rw [Bool.eq_iff_iff, Bool.and_eq_true, decide_eq_true_eq]
  simp only [Bool.false_eq_true, if_false, okc_true]
  unfold cN; dsimp only; omega
theorem okD_d {i : Nat} (h : i < 64) : okD (dmn i true) = decide (i + 8 < 64) := by
  unfold okD okd dmn
  rw [Bool.eq_iff_iff, Bool.and_eq_true, decide_eq_true_eq]
  simp only [if_true, okc_true]
  unfold cN; dsimp only; omega
theorem ca_dmn {i : Nat} (b : Bool) (h : i < 64) : idx (ca (dmn i b)) = i := idx_cN h
theorem cb_r (i : Nat) (h : i < 64) (h2 : i % 8 < 7) : idx (cb (dmn i false)) = i + 1 := by
  unfold cb dmn idx cN; simp only [Bool.false_eq_true, if_false]; omega
theorem cb_d (i : Nat) (h : i < 64) : idx (cb (dmn i true)) = i + 8 := by
  unfold cb dmn idx cN; simp only [if_true]; omega
def fitD (s : Nat) (d : Dom) : Bool := okD d && decide (s &&& domS d = domS d)
theorem and_eq_iff (s d : Nat) : (s &&& d = d) ↔ ∀ i, d.testBit i = true → s.testBit i = true := by
  constructor
  · intro h i hi
    rw [← h, Nat.testBit_and, Bool.and_eq_true] at hi; exact hi.1
  · intro h
    apply Nat.eq_of_testBit_eq; intro i
    rw [Nat.testBit_and]
    rcases Bool.eq_false_or_eq_true (d.testBit i) with e | e
    · rw [e, h i e]; rfl
    · rw [e]; simp
theorem fit_bits (s : Nat) (d : Dom) : decide (s &&& domS d = domS d) = (s.testBit (idx (ca d)) && s.testBit (idx (cb d))) := by
  rw [Bool.eq_iff_iff, decide_eq_true_eq, and_eq_iff, Bool.and_eq_true]
  constructor
  · intro h; exact ⟨h _ (by rw [domS_bit]; simp), h _ (by rw [domS_bit]; simp)⟩
  · rintro ⟨h1, h2⟩ i hi
    rw [domS_bit, Bool.or_eq_true, decide_eq_true_eq, decide_eq_true_eq] at hi
    rcases hi with rfl | rfl
    · exact h1
    · exact h2
theorem fit_r {s i : Nat} (h : i < 64) (hb : s.testBit i = true) : fitD s (dmn i false) = (decide (i % 8 < 7) && s.testBit (i + 1)) := by
  unfold fitD
  rw [okD_r h, fit_bits, ca_dmn _ h]
  by_cases h7 : i % 8 < 7
  · rw [cb_r i h h7, hb]; simp
  · simp [h7]
theorem fit_d {s i : Nat} (h : i < 64) (hb : s.testBit i = true) : fitD s (dmn i true) = (decide (i + 8 < 64) && s.testBit (i + 8)) := by
  unfold fitD
  rw [okD_d h, fit_bits, ca_dmn _ h, cb_d i h, hb]; simp
theorem cnt_sub {s i : Nat} {d : Dom} {b : Nat} (hi : i < 64) (hmin : ∀ j, j < i → s.testBit j = false) (h1 : idx (ca d) = i) (h2 : idx (cb d) = b) (hb : i < b) :
    tc (64 - (i + 1)) (i + 1) (fun j => s.testBit j && !decide (j = b)) = cnt (andn s (domS d)) := by
  unfold cnt
  rw [tc_skip (i + 1) (by omega)]
  · apply tc_congr
    intro j hj
    rw [andn_bit, domS_bit, h1, h2]
    have e1 : decide (i = j) = false := by simp; omega
    have e2 : decide (b = j) = decide (j = b) := by rw [decide_eq_decide]; omega
    rw [e1, e2]; simp
  · intro j hj
    rw [andn_bit, domS_bit, h1]
    rcases Nat.lt_or_ge j i with h3 | h3
    · rw [hmin j h3]; rfl
    · have e1 : decide (i = j) = true := by simp; omega
      rw [e1]; simp
theorem cnt_rec {s : Nat} (hs : s < 18446744073709551616) (h0 : s ≠ 0) :
    cnt s = (if fitD s (dmn (firstI s) false) = true then cnt (andn s (domS (dmn (firstI s) false))) else 0) + (if fitD s (dmn (firstI s) true) = true then cnt (andn s (domS (dmn (firstI s) true))) else 0) := by
  obtain ⟨hi, hb⟩ := firstI_lt hs h0
  have hmin : ∀ j, j < firstI s → s.testBit j = false := fun j hj => firstI_min hj
  rw [fit_r hi hb, fit_d hi hb]
  rw [show cnt s = tc 64 0 s.testBit from rfl, tc_skip (firstI s) (by omega) hmin, show 64 - firstI s = (64 - (firstI s + 1)) + 1 by omega, tc, if_pos hb]
  congr 1
  · by_cases h : (decide (firstI s % 8 < 7) && s.testBit (firstI s + 1)) = true
    · rw [if_pos h, if_pos h]
      exact cnt_sub hi hmin (ca_dmn _ hi) (cb_r _ hi (by simp only [Bool.and_eq_true, decide_eq_true_eq] at h; exact h.1)) (by omega)
    · rw [if_neg h, if_neg h]
  · by_cases h : (decide (firstI s + 8 < 64) && s.testBit (firstI s + 8)) = true
    · rw [if_pos h, if_pos h]
      exact cnt_sub hi hmin (ca_dmn _ hi) (cb_d _ hi) (by omega)
    · rw [if_neg h, if_neg h]
theorem cnt_zero : cnt 0 = 1 := by
  unfold cnt
  rw [tc_skip 64 (Nat.le_refl _) (fun j _ => Nat.zero_testBit j)]; rfl
theorem fit_ok {s : Nat} {d : Dom} (h : fitD s d = true) : okD d = true ∧ s.testBit (idx (ca d)) = true ∧ s.testBit (idx (cb d)) = true := by
  unfold fitD at h
  rw [fit_bits] at h
  simp only [Bool.and_eq_true] at h
  exact ⟨h.1, h.2.1, h.2.2⟩
theorem popc_sub {s : Nat} {d : Dom} (h : fitD s d = true) : popc (andn s (domS d)) + 2 = popc s := by
  obtain ⟨h1, h2, h3⟩ := fit_ok h
  have e : andn s (domS d) ||| domS d = s := by
    apply Nat.eq_of_testBit_eq; intro i
    rw [Nat.testBit_or, andn_bit, domS_bit]
    by_cases ha : idx (ca d) = i
    · subst ha; simp [h2]
    · by_cases hb : idx (cb d) = i
      · subst hb; simp [h3]
      · simp [ha, hb]
  have := popc_dom (s := andn s (domS d)) h1 (by rw [andn_bit, domS_bit]; simp) (by rw [andn_bit, domS_bit]; simp)
  rw [e] at this; exact this.symm
/-- the first tiling -/
def pick (s : Nat) : Dom := if (fitD s (dmn (firstI s) false) && !decide (cnt (andn s (domS (dmn (firstI s) false))) = 0)) = true then dmn (firstI s) false else dmn (firstI s) true
theorem pick_ok {s : Nat} (hs : s < 18446744073709551616) (h0 : s ≠ 0) (hc : 0 < cnt s) : fitD s (pick s) = true ∧ 0 < cnt (andn s (domS (pick s))) := by
  rw [cnt_rec hs h0] at hc
  unfold pick
  by_cases h : (fitD s (dmn (firstI s) false) && !decide (cnt (andn s (domS (dmn (firstI s) false))) = 0)) = true
  · rw [if_pos h]
    simp only [Bool.and_eq_true, Bool.not_eq_true', decide_eq_false_iff_not] at h
    exact ⟨h.1, by omega⟩
  · rw [if_neg h]
    have e : (if fitD s (dmn (firstI s) false) = true then cnt (andn s (domS (dmn (firstI s) false))) else 0) = 0 := by
      split
      · rename_i h1
        rw [h1] at h
        simpa using h
      · rfl
    rw [e, Nat.zero_add] at hc
    split at hc
    · rename_i h1; exact ⟨h1, hc⟩
    · omega
def ftl : Nat → Nat → List Dom
  | 0, _ => []
  | n + 1, s => if s = 0 then [] else pick s :: ftl n (andn s (domS (pick s)))
/-- all tilings in order -/
def tls : Nat → Nat → List (List Dom)
  | 0, _ => []
  | n + 1, s => if s = 0 then [[]] else
      (if fitD s (dmn (firstI s) false) = true then (tls n (andn s (domS (dmn (firstI s) false)))).map (dmn (firstI s) false :: ·) else []) ++
      (if fitD s (dmn (firstI s) true) = true then (tls n (andn s (domS (dmn (firstI s) true)))).map (dmn (firstI s) true :: ·) else [])
theorem tls_len : ∀ n s, s < 18446744073709551616 → popc s < 2 * n → (tls n s).length = cnt s := by
  intro n
  induction n with
  | zero => intro s _ h; omega
  | succ n ih =>
    intro s hs hp
    unfold tls
    by_cases h0 : s = 0
    · rw [if_pos h0, h0, cnt_zero]; rfl
    · rw [if_neg h0, cnt_rec hs h0, List.length_append]
      congr 1
      · split
        · rename_i h
          rw [List.length_map, ih _ (andn_lt hs) (by have := popc_sub h; omega)]
        · rfl
      · split
        · rename_i h
          rw [List.length_map, ih _ (andn_lt hs) (by have := popc_sub h; omega)]
        · rfl
/-- counting with a domino -/
def cntR (l : List Int) : Nat := if regOk l = true then cnt (regSet l) else 0
theorem delC_two (s : Nat) (d : Dom) : delC (delC s (ca d)) (cb d) = andn s (domS d) := by
  apply Nat.eq_of_testBit_eq; intro i
  rw [delC_bit, delC_bit, andn_bit, domS_bit]
  cases s.testBit i <;> simp
/-- a region without a cell -/
def padR (l : List Int) : List Int := l ++ List.replicate (8 - l.length) 0
def delL (l : List Int) (c : Cel) : List Int := (padR l).set c.y.toNat ((((gI (padR l) c.y.toNat).toNat ||| 2 ^ c.x.toNat : Nat) : Int) - ((2 ^ c.x.toNat : Nat) : Int))
theorem or_sub : ∀ a, a < 256 → ∀ x, x < 8 → (a ||| 2 ^ x) = andn a (2 ^ x) + 2 ^ x := by decide +kernel
theorem padR_len {l : List Int} (h : l.length ≤ 8) : (padR l).length = 8 := by unfold padR; rw [List.length_append, List.length_replicate]; omega
theorem gI_pad {l : List Int} (k : Nat) : gI (padR l) k = gI l k := by
  unfold padR gI
  rw [List.getD_eq_getElem?_getD, List.getD_eq_getElem?_getD, List.getElem?_append]
  split
  · rfl
  · rename_i h
    rw [List.getElem?_replicate, List.getElem?_eq_none (by omega)]
    split <;> rfl
theorem gI_bd {l : List Int} (ho : regOk l = true) (k : Nat) : 0 ≤ gI l k ∧ gI l k ≤ 255 := by
  rcases Nat.lt_or_ge k l.length with h | h
  · exact (regOk_true ho).2 k h
  · have : gI l k = 0 := by unfold gI; rw [List.getD_eq_getElem?_getD, List.getElem?_eq_none h]; rfl
    omega
theorem delL_val {l : List Int} (ho : regOk l = true) {c : Cel} (hc : okc c.x c.y = true) : (((gI (padR l) c.y.toNat).toNat ||| 2 ^ c.x.toNat : Nat) : Int) - ((2 ^ c.x.toNat : Nat) : Int) = ((andn (gI l c.y.toNat).toNat (2 ^ c.x.toNat) : Nat) : Int) := by
  have hq := okc_true.1 hc
  rw [gI_pad]
  have hb := gI_bd ho c.y.toNat
  rw [or_sub _ (by omega) _ (by omega)]; omega
theorem gI_del {l : List Int} (ho : regOk l = true) {c : Cel} (hc : okc c.x c.y = true) {k : Nat} (hk : k < 8) : gI (delL l c) k = if c.y.toNat = k then ((andn (gI l c.y.toNat).toNat (2 ^ c.x.toNat) : Nat) : Int) else gI l k := by
  have h8 := (regOk_true ho).1
  unfold delL
  rw [gI_set (by rw [padR_len h8]; exact hk), delL_val ho hc, gI_pad]
theorem delL_ok {l : List Int} (ho : regOk l = true) {c : Cel} (hc : okc c.x c.y = true) : regOk (delL l c) = true := by
  have h8 := (regOk_true ho).1
  have hlen : (delL l c).length = 8 := by unfold delL; rw [List.length_set, padR_len h8]
  unfold regOk allIn
  rw [Bool.and_eq_true, decide_eq_true_eq, List.all_eq_true]
  refine ⟨by omega, fun z hz => ?_⟩
  obtain ⟨k, hk, rfl⟩ := List.getElem_of_mem hz
  rw [← gI_eq hk, gI_del ho hc (by omega)]
  have hb := gI_bd ho c.y.toNat
  have hb2 := gI_bd ho k
  split
  · have : andn (gI l c.y.toNat).toNat (2 ^ c.x.toNat) < 256 := andn_lt8 (by omega)
    exact inB_true.2 (by omega)
  · exact inB_true.2 hb2
theorem delL_set {l : List Int} (ho : regOk l = true) {c : Cel} (hc : okc c.x c.y = true) : regSet (delL l c) = delC (regSet l) c := by
  have hq := okc_true.1 hc
  have h8 := (regOk_true ho).1
  have hlen : (delL l c).length = 8 := by unfold delL; rw [List.length_set, padR_len h8]
  have hlt := regSet_lt ho
  have hlt2 := regSet_lt (delL_ok ho hc)
  apply Nat.eq_of_testBit_eq; intro i
  rw [delC_bit]
  rcases Nat.lt_or_ge i 64 with hi | hi
  · have h1 := regSet_has (delL_ok ho hc) (cN_ok hi)
    have h2 := regSet_has ho (cN_ok hi)
    rw [idx_cN hi] at h1 h2
    rw [h1, h2]
    unfold hasR
    have ey : (cN i).y.toNat = i / 8 := rfl
    have ex : (cN i).x.toNat = i % 8 := rfl
    have ey2 : (cN i).y = ((i / 8 : Nat) : Int) := rfl
    rw [ey, ex, ey2, gI_del ho hc (by omega), hlen]
    have e1 : decide (((i / 8 : Nat) : Int) < ((8 : Nat) : Int)) = true := by simp; omega
    rw [e1, Bool.true_and]
    by_cases hy : c.y.toNat = i / 8
    · rw [if_pos hy, Int.toNat_natCast, bit_an, hy]
      have e2 : decide (c.x.toNat = i % 8) = decide (idx c = i) := by rw [decide_eq_decide]; unfold idx; omega
      rw [e2]
      rcases Nat.lt_or_ge (i / 8) l.length with h3 | h3
      · have e3 : decide (((i / 8 : Nat) : Int) < (l.length : Int)) = true := by simp; omega
        rw [e3, Bool.true_and]
      · have : gI l (i / 8) = 0 := by unfold gI; rw [List.getD_eq_getElem?_getD, List.getElem?_eq_none h3]; rfl
        rw [this]; simp
    · rw [if_neg hy]
      have e2 : decide (idx c = i) = false := by simp only [decide_eq_false_iff_not]; unfold idx; omega
      rw [e2]
      rcases Nat.lt_or_ge (i / 8) l.length with h3 | h3
      · have e3 : decide (((i / 8 : Nat) : Int) < (l.length : Int)) = true := by simp; omega
        rw [e3]; simp
      · have : gI l (i / 8) = 0 := by unfold gI; rw [List.getD_eq_getElem?_getD, List.getElem?_eq_none h3]; rfl
        rw [this]; simp
  · rw [bit_hi hlt hi, bit_hi hlt2 hi]; rfl


theorem shlI {a b : Int} {m n : Nat} (ha : a = (m : Int)) (hb : b = (n : Int)) (hn : n ≤ 64) (hm : m <<< n < 9223372036854775808) : IntKind.i64.wrap (a * 2 ^ (min b.toNat IntKind.i64.bits)) = ((m <<< n : Nat) : Int) := by
  subst ha; subst hb
  have e : min ((n : Int)).toNat IntKind.i64.bits = n := by
    simp only [Int.toNat_natCast, IntKind.bits]; omega
  rw [e]
  have e2 : ((m : Int) * 2 ^ n) = ((m <<< n : Nat) : Int) := by rw [Nat.shiftLeft_eq]; push_cast; rfl
  rw [e2]; exact wrap_i hm
theorem andnI {a b : Int} {m n : Nat} (ha : a = (m : Int)) (hb : b = (n : Int)) (hm : m < 9223372036854775808) (hn : n < 9223372036854775808) : IntKind.i64.wrap ((BitVec.ofInt IntKind.i64.bits a) &&& ~~~(BitVec.ofInt IntKind.i64.bits b)).toNat = ((andn m n : Nat) : Int) := by
  have e1 : (BitVec.ofInt IntKind.i64.bits a).toNat = m := bv64 ha (by omega)
  have e2 : (BitVec.ofInt IntKind.i64.bits b).toNat = n := bv64 hb (by omega)
  have e : ((BitVec.ofInt IntKind.i64.bits a) &&& ~~~(BitVec.ofInt IntKind.i64.bits b)).toNat = andn m n := by
    apply Nat.eq_of_testBit_eq
    intro i
    rw [andn_bit, BitVec.testBit_toNat, BitVec.getLsbD_and, BitVec.getLsbD_not, ← BitVec.testBit_toNat, ← BitVec.testBit_toNat, e1, e2]
    by_cases hi : i < 64
    · have : i < IntKind.i64.bits := hi
      simp [this]
    · have : m.testBit i = false := Nat.testBit_lt_two_pow (Nat.lt_of_lt_of_le hm (Nat.pow_le_pow_right (n := 2) (i := 63) (by decide) (by omega)))
      simp [this]
  rw [e]
  exact wrap_i (by unfold andn; exact Nat.xor_lt_two_pow (n := 63) hm (Nat.lt_of_le_of_lt Nat.and_le_left hm))
def wth (x n : Int) : Int := if x < 0 then 1 else n
theorem wth_n {x n : Int} (h : 0 ≤ x) : wth x n = n := by unfold wth; rw [if_neg (by omega)]
theorem rep_set0 (k : Nat) : (List.replicate 256 (0 : Int)).set k 0 = List.replicate 256 0 := by
  apply List.ext_getElem
  · simp only [List.length_set]
  · intro i h1 h2; rw [List.getElem_set, List.getElem_replicate]; split <;> rfl
theorem has_dn {s i : Nat} (hi : i < 64) : hasS s ⟨(cN i).x, (cN i).y + 1⟩ = dnB s i := by
  unfold hasS dnB
  by_cases h : i + 8 < 64
  · have e : (⟨(cN i).x, (cN i).y + 1⟩ : Cel) = cN (i + 8) := by unfold cN; simp only [Cel.mk.injEq]; omega
    rw [e, cN_ok h, idx_cN h]; simp [h]
  · have e : okc (cN i).x ((cN i).y + 1) = false := by
      rcases Bool.eq_false_or_eq_true (okc (cN i).x ((cN i).y + 1)) with q | q
      · have := okc_true.1 q; unfold cN at this; dsimp only at this; omega
      · exact q
    simp only [e]; simp [h]
theorem has_rt {s i : Nat} (hi : i < 64) : hasS s ⟨(cN i).x + 1, (cN i).y⟩ = rtB s i := by
  unfold hasS rtB
  by_cases h : i % 8 < 7
  · have e : (⟨(cN i).x + 1, (cN i).y⟩ : Cel) = cN (i + 1) := by unfold cN; simp only [Cel.mk.injEq]; omega
    rw [e, cN_ok (by omega), idx_cN (by omega)]; simp [h]
  · have e : okc ((cN i).x + 1) (cN i).y = false := by
      rcases Bool.eq_false_or_eq_true (okc ((cN i).x + 1) (cN i).y) with q | q
      · have := okc_true.1 q; unfold cN at this; dsimp only at this; omega
      · exact q
    simp only [e]; simp [h]
theorem has_i {s i : Nat} (hi : i < 64) : hasS s (cN i) = s.testBit i := by unfold hasS; rw [cN_ok hi, idx_cN hi]; rfl
theorem and_pow (k x : Nat) : k &&& 2 ^ x = if k.testBit x = true then 2 ^ x else 0 := by
  apply Nat.eq_of_testBit_eq; intro i
  rw [Nat.testBit_and, Nat.testBit_two_pow]
  by_cases h : x = i
  · subst h; cases e : k.testBit x <;> simp
  · cases e : k.testBit x <;> simp [h]
theorem and0 {k x : Nat} {b : Bool} (h : decide (((k &&& 2 ^ x : Nat) : Int) = 0) = b) : k.testBit x = !b := by
  subst h
  rw [and_pow]
  have := Nat.two_pow_pos x
  cases e : k.testBit x
  · simp
  · simp only [if_true]
    rw [decide_eq_false (by omega)]; rfl
theorem and1 {k x : Nat} {b : Bool} (h : decide (((k &&& ((2 ^ x) <<< 1) : Nat) : Int) = 0) = b) : k.testBit (x + 1) = !b := by
  have e : (2 ^ x) <<< 1 = 2 ^ (x + 1) := by rw [Nat.shiftLeft_eq]; exact (Nat.pow_add 2 x 1).symm
  rw [e] at h; exact and0 h
theorem shl_one (x : Nat) : (2 ^ x) <<< 1 = 2 ^ (x + 1) := by rw [Nat.shiftLeft_eq]; exact (Nat.pow_add 2 x 1).symm
theorem putI_bd {L : List Int} (hL : L.length = 256) {a b : Nat} {n B C : Int} (ha : a < 256) (hb : b < 256) (h0 : ∀ j, j < 256 → 0 ≤ gI L j ∧ gI L j ≤ B) (hn : 0 ≤ n ∧ n ≤ C) (hC : 0 ≤ C) : 0 ≤ gI (putI L a n) b ∧ gI (putI L a n) b ≤ B + C := by
  have h1 := h0 a ha
  have h2 := h0 b hb
  unfold putI
  rw [gI_set (by omega)]
  split <;> omega
theorem sk_zero {s i k : Nat} {L : List Int} {n : Int} (hn : n = 0) : stepK s i L k n = L := by unfold stepK; rw [if_pos hn]
theorem sk_a {s i k : Nat} {L : List Int} {n : Int} (hn : ¬ n = 0) (hs : s.testBit i = false) (hk : k.testBit (i % 8) = false) : stepK s i L k n = putI L k n := by unfold stepK; rw [if_neg hn, hs, hk]; rfl
theorem sk_d {s i k : Nat} {L : List Int} {n : Int} (hn : ¬ n = 0) (hs : s.testBit i = false) (hk : k.testBit (i % 8) = true) : stepK s i L k n = L := by unfold stepK; rw [if_neg hn, hs, hk]; rfl
theorem sk_b {s i k : Nat} {L : List Int} {n : Int} (hn : ¬ n = 0) (hs : s.testBit i = true) (hk : k.testBit (i % 8) = true) : stepK s i L k n = putI L (andn k (2 ^ (i % 8))) n := by unfold stepK; rw [if_neg hn, if_pos hs, if_pos hk]
theorem sk_c {s i k : Nat} {L : List Int} {n : Int} (hn : ¬ n = 0) (hs : s.testBit i = true) (hk : k.testBit (i % 8) = false) : stepK s i L k n =
    if (rtB s i && !k.testBit (i % 8 + 1)) = true then putI (if dnB s i = true then putI L (k ||| 2 ^ (i % 8)) n else L) (k ||| 2 ^ (i % 8 + 1)) n else if dnB s i = true then putI L (k ||| 2 ^ (i % 8)) n else L := by
  unfold stepK; rw [if_neg hn, if_pos hs, hk]; rfl
theorem sub_bit {k x : Nat} (hk : k < 256) (h : k.testBit x = true) : IntKind.i64.wrap ((k : Int) - ((2 ^ x : Nat) : Int)) = ((andn k (2 ^ x) : Nat) : Int) := by
  have e : k = andn k (2 ^ x) + 2 ^ x := by
    have hx : x < 8 := by
      rcases Nat.lt_or_ge x 8 with h1 | h1
      · exact h1
      · rw [Nat.testBit_lt_two_pow (Nat.lt_of_lt_of_le hk (Nat.pow_le_pow_right (n := 2) (i := 8) (by decide) h1))] at h; cases h
    have h2 := or_sub k hk x hx
    have h3 : k ||| 2 ^ x = k := by
      apply Nat.eq_of_testBit_eq; intro i
      rw [bit_or]
      by_cases hi : x = i
      · subst hi; simp [h]
      · simp [hi]
    rw [h3] at h2; exact h2
  have e2 : (k : Int) - ((2 ^ x : Nat) : Int) = ((andn k (2 ^ x) : Nat) : Int) := by omega
  rw [e2]; exact wrap_i (by have : andn k (2 ^ x) < 256 := andn_lt8 hk; omega)
theorem dn_okR {l : List Int} {i : Nat} (ho : regOk l = true) (hi : i < 64) {b : Bool} (h1 : okc (cN i).x ((cN i).y + 1) = true) (h2 : hasR l ⟨(cN i).x, (cN i).y + 1⟩ = b) : dnB (regSet l) i = b := by
  rw [← has_dn hi, ← h2]; unfold hasS; rw [h1, ← regSet_has ho h1]; rfl
theorem dn_no {s i : Nat} (hi : i < 64) (h1 : okc (cN i).x ((cN i).y + 1) = false) : dnB s i = false := by rw [← has_dn hi]; unfold hasS; rw [h1]; rfl
theorem rt_okR {l : List Int} {i : Nat} (ho : regOk l = true) (hi : i < 64) {b : Bool} (h1 : okc ((cN i).x + 1) (cN i).y = true) (h2 : hasR l ⟨(cN i).x + 1, (cN i).y⟩ = b) : rtB (regSet l) i = b := by
  rw [← has_rt hi, ← h2]; unfold hasS; rw [h1, ← regSet_has ho h1]; rfl
theorem rt_no {s i : Nat} (hi : i < 64) (h1 : okc ((cN i).x + 1) (cN i).y = false) : rtB s i = false := by rw [← has_rt hi]; unfold hasS; rw [h1]; rfl
theorem hasR_i {l : List Int} {i : Nat} (ho : regOk l = true) (hi : i < 64) {b : Bool} (h : hasR l (cN i) = b) : (regSet l).testBit i = b := by
  rw [← h, ← regSet_has ho (cN_ok hi), idx_cN hi]
theorem rt_bd {s i k : Nat} (hi : i < 64) (hk : k < 256) (hr : rtB s i = true) : 0 ≤ gI (putI (stepT s i (prof s i) k) (k ||| 2 ^ (cN i).x.toNat) (wth (cN i).x (gI (prof s i) k))) (k ||| 2 ^ (cN i).x.toNat <<< 1) ∧ gI (putI (stepT s i (prof s i) k) (k ||| 2 ^ (cN i).x.toNat) (wth (cN i).x (gI (prof s i) k))) (k ||| 2 ^ (cN i).x.toNat <<< 1) ≤ 1099511627776 := by
  have hx : (cN i).x = ((i % 8 : Nat) : Int) := rfl
  have h7 := rt_lt hr
  have hn := prof_bd (s := s) (i := i) (by omega) (k := k) hk
  have q := putI_bd (L := stepT s i (prof s i) k) (stepT_len _ _ _ _) (a := k ||| 2 ^ (cN i).x.toNat) (b := k ||| 2 ^ (cN i).x.toNat <<< 1) (n := wth (cN i).x (gI (prof s i) k)) (B := 68719476736) (C := 68719476736) (or_lt hk (by omega)) (by rw [shl_one]; exact or_lt hk (by omega)) (fun j hj => part_bd hi (by omega) hj) (by rw [wth_n (by omega)]; omega) (by decide)
  exact ⟨q.1, Int.le_trans q.2 (by decide)⟩
theorem rt_bd2 {s i k : Nat} (hi : i < 64) (hk : k < 256) (hr : rtB s i = true) : 0 ≤ gI (putI (stepT s i (prof s i) k) (k ||| 2 ^ (i % 8)) (gI (prof s i) k)) (k ||| 2 ^ (i % 8 + 1)) ∧ gI (putI (stepT s i (prof s i) k) (k ||| 2 ^ (i % 8)) (gI (prof s i) k)) (k ||| 2 ^ (i % 8 + 1)) ≤ 1099511627776 := by
  have h7 := rt_lt hr
  have hn := prof_bd (s := s) (i := i) (by omega) (k := k) hk
  have q := putI_bd (L := stepT s i (prof s i) k) (stepT_len _ _ _ _) (a := k ||| 2 ^ (i % 8)) (b := k ||| 2 ^ (i % 8 + 1)) (n := gI (prof s i) k) (B := 68719476736) (C := 68719476736) (or_lt hk (by omega)) (or_lt hk h7) (fun j hj => part_bd hi (by omega) hj) (by omega) (by decide)
  exact ⟨q.1, Int.le_trans q.2 (by decide)⟩


end Cl
end Go.Proofs.YtgmkkfdnmdohlaaGreatDoor
