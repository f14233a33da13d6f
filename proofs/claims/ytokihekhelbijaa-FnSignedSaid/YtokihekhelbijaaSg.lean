/- Walks over clean states, printed by wg.py. No statement is proved here. -/
import Derived.Test.YtokihekhelbijaaDf
import Derived.Test.YtokihekhelbijaaDA
import Derived.Test.YtokihekhelbijaaC13
import Derived.Test.YtokihekhelbijaaC25
import Derived.Test.YtokihekhelbijaaP7
import Derived.Test.YtokihekhelbijaaP8
import Derived.Test.YtokihekhelbijaaClB
set_option linter.unusedSimpArgs false
set_option linter.unusedVariables false
namespace Go.Proofs.Ytokihekhelbijaa
namespace Cl
open Go.ChangeShapes Go.WideShapes Go.ChangeAt Go.RowKit
set_option maxRecDepth 20000
/-! determinants of whole numbers: by the first row -/
def dsm (f : Nat → Int) : Nat → Int
  | 0 => 0
  | n + 1 => dsm f n + f n
theorem dsm_congr {f g : Nat → Int} : ∀ {n : Nat}, (∀ k, k < n → f k = g k) → dsm f n = dsm g n := by
  intro n
  induction n with
  | zero => intro _; rfl
  | succ n ih => intro h; rw [dsm, dsm, ih (fun k hk => h k (by omega)), h n (by omega)]
theorem dsm_add (f g : Nat → Int) : ∀ n, dsm (fun k => f k + g k) n = dsm f n + dsm g n := by
  intro n
  induction n with
  | zero => rfl
  | succ n ih => simp only [dsm, ih]; omega
theorem dsm_mul (c : Int) (f : Nat → Int) : ∀ n, dsm (fun k => c * f k) n = c * dsm f n := by
  intro n
  induction n with
  | zero => simp [dsm]
  | succ n ih => simp only [dsm, ih, Int.mul_add]
theorem dsm_zero {f : Nat → Int} {n : Nat} (h : ∀ k, k < n → f k = 0) : dsm f n = 0 := by
  rw [dsm_congr (g := fun _ => 0) h]
  clear h
  induction n with
  | zero => rfl
  | succ n ih => rw [dsm, ih]; rfl
theorem dsm_one {f : Nat → Int} {a : Nat} : ∀ {n : Nat}, a < n → (∀ k, k < n → k ≠ a → f k = 0) → dsm f n = f a := by
  intro n
  induction n with
  | zero => intro h; omega
  | succ n ih =>
    intro ha h
    rw [dsm]
    by_cases e : a = n
    · subst e; rw [dsm_zero (fun k hk => h k (by omega) (by omega))]; omega
    · rw [ih (by omega) (fun k hk => h k (by omega)), h n (by omega) (fun e' => e e'.symm)]; omega
theorem dsm_swap (F : Nat → Nat → Int) (n : Nat) : ∀ m, dsm (fun i => dsm (fun j => F i j) n) m = dsm (fun j => dsm (fun i => F i j) m) n := by
  intro m
  induction m with
  | zero => exact (dsm_zero (fun k _ => rfl)).symm
  | succ m ih => simp only [dsm]; rw [ih, ← dsm_add]
theorem dsm_le {f g : Nat → Int} : ∀ {n : Nat}, (∀ k, k < n → f k ≤ g k) → dsm f n ≤ dsm g n := by
  intro n
  induction n with
  | zero => intro _; exact Int.le_refl _
  | succ n ih => intro h; rw [dsm, dsm]; have := ih (fun k hk => h k (by omega)); have := h n (by omega); omega
def sP (j : Nat) : Int := if j % 2 = 0 then 1 else -1
def skp (j b : Nat) : Nat := if b < j then b else b + 1
def usk (j k : Nat) : Nat := if k < j then k else k - 1
theorem dsm_skip (h : Nat → Int) (j : Nat) : ∀ n, j ≤ n → dsm (fun b => h (skp j b)) n = dsm (fun k => if k = j then 0 else h k) (n + 1) := by
  intro n
  induction n with
  | zero => intro hj; obtain rfl : j = 0 := by omega
            rfl
  | succ n ih =>
    intro hj
    show dsm (fun b => h (skp j b)) n + h (skp j n) = dsm (fun k => if k = j then 0 else h k) (n + 1) + (if n + 1 = j then 0 else h (n + 1))
    by_cases e : j = n + 1
    · subst e
      rw [if_pos rfl]
      rw [dsm_congr (f := fun b => h (skp (n + 1) b)) (g := h) (fun k hk => by unfold skp; rw [if_pos (by omega)]), dsm_congr (f := fun k => if k = n + 1 then 0 else h k) (g := h) (fun k hk => if_neg (by omega))]
      rw [show skp (n + 1) n = n by unfold skp; rw [if_pos (by omega)]]
      show dsm h n + h n = dsm h n + h n + 0; omega
    · rw [ih (by omega), if_neg (by omega), show skp j n = n + 1 by unfold skp; rw [if_neg (by omega)]]
def mnr (f : Nat → Nat → Int) (j : Nat) : Nat → Nat → Int := fun a b => f (a + 1) (skp j b)
def dtn : Nat → (Nat → Nat → Int) → Int
  | 0, _ => 1
  | n + 1, f => dsm (fun j => sP j * f 0 j * dtn n (mnr f j)) (n + 1)
theorem skp_lt {j b n : Nat} (hb : b < n) : skp j b < n + 1 := by unfold skp; split <;> omega
theorem dtn_congr : ∀ {n : Nat} {f g : Nat → Nat → Int}, (∀ a b, a < n → b < n → f a b = g a b) → dtn n f = dtn n g := by
  intro n
  induction n with
  | zero => intro f g _; rfl
  | succ n ih =>
    intro f g h
    rw [dtn, dtn]
    refine dsm_congr fun j hj => ?_
    rw [h 0 j (by omega) hj, ih (f := mnr f j) (g := mnr g j) (fun a b ha hb => h _ _ (by omega) (skp_lt hb))]
def upR (f : Nat → Nat → Int) (i : Nat) (r : Nat → Int) : Nat → Nat → Int := fun a b => if a = i then r b else f a b
theorem mnr_up0 (f : Nat → Nat → Int) (r : Nat → Int) (j : Nat) : mnr (upR f 0 r) j = mnr f j := by
  funext a b; unfold mnr upR; rw [if_neg (by omega)]
theorem mnr_upS (f : Nat → Nat → Int) (i : Nat) (r : Nat → Int) (j : Nat) : mnr (upR f (i + 1) r) j = upR (mnr f j) i (fun b => r (skp j b)) := by
  funext a b; unfold mnr upR
  by_cases h : a = i
  · rw [if_pos h, if_pos (by omega)]
  · rw [if_neg h, if_neg (by omega)]
theorem dtn_lin (c d : Int) : ∀ (n : Nat) (f : Nat → Nat → Int) (i : Nat) (u v : Nat → Int), i < n → dtn n (upR f i (fun b => c * u b + d * v b)) = c * dtn n (upR f i u) + d * dtn n (upR f i v) := by
  intro n
  induction n with
  | zero => intro f i u v h; omega
  | succ n ih =>
    intro f i u v hi
    rw [dtn, dtn, dtn, ← dsm_mul, ← dsm_mul, ← dsm_add]
    refine dsm_congr fun j hj => ?_
    cases i with
    | zero =>
      rw [mnr_up0, mnr_up0, mnr_up0]
      unfold upR
      rw [if_pos rfl, if_pos rfl, if_pos rfl]
      grind
    | succ i =>
      rw [mnr_upS, mnr_upS, mnr_upS, ih (mnr f j) i (fun b => u (skp j b)) (fun b => v (skp j b)) (by omega)]
      unfold upR
      rw [if_neg (by omega), if_neg (by omega), if_neg (by omega)]
      grind
theorem skp_skp {j k : Nat} (h : j ≠ k) (c : Nat) : skp j (skp (usk j k) c) = skp k (skp (usk k j) c) := by
  unfold skp usk; repeat' split
  all_goals omega
theorem usk_skp (j b : Nat) : usk j (skp j b) = b := by
  unfold usk skp
  by_cases h : b < j
  · rw [if_pos h, if_pos h]
  · rw [if_neg h, if_neg (by omega)]; omega
theorem sP_pred {k : Nat} (h : 0 < k) : sP (k - 1) = -(sP k) := by
  unfold sP
  by_cases e : k % 2 = 0
  · rw [if_pos e, if_neg (by omega)]
  · rw [if_neg e, if_pos (by omega)]; rfl
theorem sP_usk {j k : Nat} (h : j ≠ k) : sP j * sP (usk j k) = -(sP k * sP (usk k j)) := by
  unfold usk
  rcases Nat.lt_or_gt_of_ne h with h1 | h1
  · rw [if_neg (by omega), if_pos h1, sP_pred (by omega), Int.mul_neg, Int.mul_comm]
  · rw [if_pos h1, if_neg (by omega), sP_pred (by omega), Int.mul_neg, Int.mul_comm, Int.neg_neg]
theorem dtn_eq01 {n : Nat} {f : Nat → Nat → Int} (h : ∀ b, f 0 b = f 1 b) : dtn (n + 2) f = 0 := by
  have e : dtn (n + 2) f = dsm (fun j => dsm (fun k => if k = j then 0 else (sP j * sP (usk j k)) * (f 0 j * f 0 k) * dtn n (fun a c => f (a + 2) (skp j (skp (usk j k) c)))) (n + 2)) (n + 2) := by
    rw [dtn]
    refine dsm_congr fun j hj => ?_
    rw [dtn, ← dsm_mul]
    have := dsm_skip (fun k => (sP j * sP (usk j k)) * (f 0 j * f 0 k) * dtn n (fun a c => f (a + 2) (skp j (skp (usk j k) c)))) j (n + 1) (by omega)
    rw [← this]
    refine dsm_congr fun b hb => ?_
    rw [usk_skp]
    have e1 : mnr f j 0 b = f 0 (skp j b) := by rw [h]; rfl
    have e2 : mnr (mnr f j) b = fun a c => f (a + 2) (skp j (skp b c)) := rfl
    rw [e1, e2]
    grind
  have sw := dsm_swap (fun j k => if k = j then 0 else (sP j * sP (usk j k)) * (f 0 j * f 0 k) * dtn n (fun a c => f (a + 2) (skp j (skp (usk j k) c)))) (n + 2) (n + 2)
  have ng : dsm (fun k => dsm (fun j => if k = j then 0 else (sP j * sP (usk j k)) * (f 0 j * f 0 k) * dtn n (fun a c => f (a + 2) (skp j (skp (usk j k) c)))) (n + 2)) (n + 2) = (-1) * dsm (fun j => dsm (fun k => if k = j then 0 else (sP j * sP (usk j k)) * (f 0 j * f 0 k) * dtn n (fun a c => f (a + 2) (skp j (skp (usk j k) c)))) (n + 2)) (n + 2) := by
    rw [← dsm_mul]
    refine dsm_congr fun k hk => ?_
    rw [← dsm_mul]
    refine dsm_congr fun j hj => ?_
    by_cases e : k = j
    · rw [if_pos e, if_pos e.symm]; rfl
    · rw [if_neg e, if_neg (fun h => e h.symm), sP_usk (j := j) (k := k) (fun h => e h.symm)]
      have : (fun a c => f (a + 2) (skp j (skp (usk j k) c))) = (fun a c => f (a + 2) (skp k (skp (usk k j) c))) := by
        funext a c; rw [skp_skp (fun h => e h.symm)]
      rw [this]
      grind
  rw [e]
  omega
theorem dtn_adj : ∀ (i n : Nat) (f : Nat → Nat → Int), i + 1 < n → (∀ b, f i b = f (i + 1) b) → dtn n f = 0 := by
  intro i
  induction i with
  | zero =>
    intro n f hn h
    obtain ⟨m, rfl⟩ : ∃ m, n = m + 2 := ⟨n - 2, by omega⟩
    exact dtn_eq01 h
  | succ i ih =>
    intro n f hn h
    obtain ⟨m, rfl⟩ : ∃ m, n = m + 1 := ⟨n - 1, by omega⟩
    rw [dtn]
    refine dsm_zero fun j _ => ?_
    rw [ih m (mnr f j) (by omega) (fun b => h _), Int.mul_zero]
def Alt (n i k : Nat) : Prop := ∀ f : Nat → Nat → Int, (∀ b, f i b = f k b) → dtn n f = 0
theorem upR_self (f : Nat → Nat → Int) (i : Nat) : upR f i (f i) = f := by
  funext a b; unfold upR; split
  · rename_i h; rw [h]
  · rfl
theorem upR_comm {f : Nat → Nat → Int} {i k : Nat} (h : i ≠ k) (u v : Nat → Int) : upR (upR f i u) k v = upR (upR f k v) i u := by
  funext a b; unfold upR
  by_cases e : a = k
  · rw [if_pos e, if_neg (by omega), if_pos e]
  · rw [if_neg e]
    by_cases e2 : a = i
    · rw [if_pos e2, if_pos e2]
    · rw [if_neg e2, if_neg e2, if_neg e]
theorem alt_swap {n i k : Nat} (hik : i ≠ k) (hi : i < n) (hk : k < n) (h : Alt n i k) (f : Nat → Nat → Int) (u v : Nat → Int) : dtn n (upR (upR f i u) k v) = -(dtn n (upR (upR f i v) k u)) := by
  have z : ∀ w : Nat → Int, dtn n (upR (upR f i w) k w) = 0 := fun w => h _ (fun b => by
    unfold upR; rw [if_neg hik, if_pos rfl, if_pos rfl])
  have e1 := z (fun b => 1 * u b + 1 * v b)
  rw [dtn_lin 1 1 n _ k u v hk, upR_comm hik, upR_comm hik, dtn_lin 1 1 n _ i u v hi, dtn_lin 1 1 n _ i u v hi, ← upR_comm hik, ← upR_comm hik, ← upR_comm hik, ← upR_comm hik, z, z] at e1
  omega
theorem alt_all : ∀ (m i n : Nat), i + 1 + m < n → Alt n i (i + 1 + m) := by
  intro m
  induction m with
  | zero => intro i n hn f h; exact dtn_adj i n f hn h
  | succ m ih =>
    intro i n hn f h
    have ha : Alt n (i + 1 + m) (i + 1 + (m + 1)) := fun f h => dtn_adj _ n f (by omega) h
    have e : f = upR (upR f (i + 1 + m) (f (i + 1 + m))) (i + 1 + (m + 1)) (f (i + 1 + (m + 1))) := by rw [upR_self, upR_self]
    rw [e, alt_swap (by omega) (by omega) hn ha]
    have : dtn n (upR (upR f (i + 1 + m) (f (i + 1 + (m + 1)))) (i + 1 + (m + 1)) (f (i + 1 + m))) = 0 := ih i n (by omega) _ (fun b => by
      unfold upR
      rw [if_neg (by omega), if_neg (by omega), if_neg (by omega), if_pos rfl]; exact h b)
    omega
theorem alt_any {n i k : Nat} (hik : i ≠ k) (hi : i < n) (hk : k < n) : Alt n i k := by
  rcases Nat.lt_or_gt_of_ne hik with h | h
  · have := alt_all (k - i - 1) i n (by omega)
    rwa [show i + 1 + (k - i - 1) = k by omega] at this
  · have := alt_all (i - k - 1) k n (by omega)
    rw [show k + 1 + (i - k - 1) = i by omega] at this
    exact fun f hf => this f (fun b => (hf b).symm)
def swR (f : Nat → Nat → Int) (k p : Nat) : Nat → Nat → Int := fun i => if i = k then f p else if i = p then f k else f i
theorem swR_up {f : Nat → Nat → Int} {k p : Nat} (h : k ≠ p) : swR f k p = upR (upR f k (f p)) p (f k) := by
  funext a b; unfold swR upR
  by_cases e : a = k
  · rw [if_pos e, if_neg (by omega), if_pos e]
  · rw [if_neg e]
    by_cases e2 : a = p
    · rw [if_pos e2, if_pos e2]
    · rw [if_neg e2, if_neg e2, if_neg e]
theorem dtn_swap {n : Nat} {f : Nat → Nat → Int} {k p : Nat} (h : k ≠ p) (hk : k < n) (hp : p < n) : dtn n (swR f k p) = -(dtn n f) := by
  rw [swR_up h, alt_swap h hk hp (alt_any h hk hp), upR_self, upR_self]
/-- a multiple of another row is added -/
theorem dtn_row {n : Nat} {f : Nat → Nat → Int} {i k : Nat} (h : i ≠ k) (hi : i < n) (hk : k < n) (a c : Int) : dtn n (upR f i (fun b => a * f i b + c * f k b)) = a * dtn n f := by
  rw [dtn_lin a c n f i (f i) (f k) hi, upR_self, alt_any h hi hk (upR f i (f k)) (fun b => by unfold upR; rw [if_pos rfl, if_neg (fun e => h e.symm)])]
  omega
theorem dtn_col0 : ∀ {n : Nat} {f : Nat → Nat → Int}, 0 < n → (∀ a, a < n → f a 0 = 0) → dtn n f = 0 := by
  intro n
  induction n with
  | zero => intro f h; omega
  | succ n ih =>
    intro f _ h
    rw [dtn]
    refine dsm_zero fun j hj => ?_
    cases j with
    | zero => rw [h 0 (by omega)]; simp
    | succ j => rw [ih (f := mnr f (j + 1)) (by omega) (fun a ha => h (a + 1) (by omega)), Int.mul_zero]
theorem dtn_head {n : Nat} {f : Nat → Nat → Int} (h : ∀ a, 0 < a → a < n + 1 → f a 0 = 0) : dtn (n + 1) f = f 0 0 * dtn n (fun a b => f (a + 1) (b + 1)) := by
  rw [dtn, dsm_one (a := 0) (by omega)]
  · have : mnr f 0 = fun a b => f (a + 1) (b + 1) := rfl
    rw [this]; unfold sP; simp
  · intro j hj h0
    rw [dtn_col0 (f := mnr f j) (by omega) (fun a ha => by
      show f (a + 1) (skp j 0) = 0
      rw [show skp j 0 = 0 by unfold skp; rw [if_pos (by omega)]]; exact h (a + 1) (by omega) (by omega)), Int.mul_zero]
theorem dtn_scale (c : Int) : ∀ (n : Nat) (f : Nat → Nat → Int), dtn n (fun a b => c * f a b) = c ^ n * dtn n f := by
  intro n
  induction n with
  | zero => intro f; simp [dtn]
  | succ n ih =>
    intro f
    rw [dtn, dtn, ← dsm_mul]
    refine dsm_congr fun j _ => ?_
    have : mnr (fun a b => c * f a b) j = fun a b => c * mnr f j a b := rfl
    rw [this, ih, Int.pow_succ]
    grind
/-- one step of elimination without fractions -/
def chi (f : Nat → Nat → Int) : Nat → Nat → Int := fun a b => f 0 0 * f (a + 1) (b + 1) - f (a + 1) 0 * f 0 (b + 1)
def chC (f : Nat → Nat → Int) (m : Nat) : Nat → Nat → Int := fun a b => if 0 < a ∧ a ≤ m then f 0 0 * f a b - f a 0 * f 0 b else f a b
theorem chC_step (f : Nat → Nat → Int) (m : Nat) : chC f (m + 1) = upR (chC f m) (m + 1) (fun b => f 0 0 * chC f m (m + 1) b + (-(f (m + 1) 0)) * chC f m 0 b) := by
  funext a b
  unfold upR chC
  by_cases e : a = m + 1
  · subst e
    dsimp only
    rw [if_pos (by omega), if_pos rfl, if_neg (by omega), if_neg (by omega)]
    grind
  · rw [if_neg e]
    by_cases e2 : 0 < a ∧ a ≤ m
    · rw [if_pos (by omega), if_pos e2]
    · rw [if_neg (by omega), if_neg e2]
theorem dtn_chC (f : Nat → Nat → Int) (n : Nat) : ∀ m, m ≤ n → dtn (n + 1) (chC f m) = f 0 0 ^ m * dtn (n + 1) f := by
  intro m
  induction m with
  | zero =>
    intro _
    rw [Int.pow_zero, Int.one_mul]
    exact dtn_congr fun a b _ _ => by unfold chC; rw [if_neg (by omega)]
  | succ m ih =>
    intro hm
    rw [chC_step, dtn_row (k := 0) (by omega) (by omega) (by omega), ih (by omega), Int.pow_succ]
    grind
theorem chio (n : Nat) (f : Nat → Nat → Int) : f 0 0 * dtn n (chi f) = f 0 0 ^ n * dtn (n + 1) f := by
  rw [← dtn_chC f n n (Nat.le_refl _), dtn_head]
  · have e : chC f n 0 0 = f 0 0 := by unfold chC; rw [if_neg (by omega)]
    rw [e]
    congr 1
    exact dtn_congr fun a b ha hb => by unfold chi chC; rw [if_pos (by omega)]
  · intro a h0 h1
    unfold chC; rw [if_pos (by omega)]
    grind
/-- sizes -/
def iab (x : Int) : Int := (x.natAbs : Int)
theorem iab_mul (a b : Int) : iab (a * b) = iab a * iab b := by unfold iab; rw [Int.natAbs_mul]; simp
theorem iab_nn (a : Int) : 0 ≤ iab a := by unfold iab; omega
theorem dsm_abs (f : Nat → Int) : ∀ n, iab (dsm f n) ≤ dsm (fun k => iab (f k)) n := by
  intro n
  induction n with
  | zero => exact Int.le_refl _
  | succ n ih => simp only [dsm]; unfold iab at *; omega
theorem dsm_nn {f : Nat → Int} {n : Nat} (h : ∀ k, k < n → 0 ≤ f k) : 0 ≤ dsm f n := by
  rw [← dsm_zero (f := fun _ => 0) (n := n) (fun _ _ => rfl)]; exact dsm_le h
theorem sP_abs (j : Nat) : iab (sP j) = 1 := by unfold sP iab; split <;> rfl
theorem dtn_bd (c : Int) (hc : 0 ≤ c) : ∀ (n : Nat) (f : Nat → Nat → Int), (∀ a, a < n → dsm (fun b => iab (f a b)) n ≤ c) → iab (dtn n f) ≤ c ^ n := by
  intro n
  induction n with
  | zero => intro f _; rw [Int.pow_zero]; exact Int.le_refl 1
  | succ n ih =>
    intro f h
    rw [dtn]
    refine Int.le_trans (dsm_abs _ _) ?_
    have h1 : ∀ j, j < n + 1 → iab (sP j * f 0 j * dtn n (mnr f j)) ≤ c ^ n * iab (f 0 j) := by
      intro j hj
      rw [iab_mul, iab_mul, sP_abs, Int.one_mul, Int.mul_comm]
      refine Int.mul_le_mul_of_nonneg_right (ih _ fun a ha => ?_) (iab_nn _)
      refine Int.le_trans ?_ (h (a + 1) (by omega))
      have := dsm_skip (fun k => iab (f (a + 1) k)) j n (by omega)
      have e : dsm (fun b => iab (mnr f j a b)) n = dsm (fun b => (fun k => iab (f (a + 1) k)) (skp j b)) n := rfl
      rw [e, this]
      refine dsm_le fun k _ => ?_
      split
      · exact iab_nn _
      · exact Int.le_refl _
    refine Int.le_trans (dsm_le h1) ?_
    rw [dsm_mul, Int.pow_succ]
    exact Int.mul_le_mul_of_nonneg_left (h 0 (by omega)) (Int.pow_nonneg hc)
theorem dsm_inj {g : Nat → Int} (n : Nat) : ∀ (m : Nat) (g : Nat → Int) (J : Nat → Nat), (∀ k, 0 ≤ g k) → (∀ b, b < m → J b < n) → (∀ b b', b < m → b' < m → J b = J b' → b = b') → dsm (fun b => g (J b)) m ≤ dsm g n := by
  intro m
  induction m with
  | zero => intro g J hg _ _; exact dsm_nn fun k _ => hg k
  | succ m ih =>
    intro g J hg hJ hi
    have hm := hJ m (by omega)
    have h1 : dsm (fun b => if J b = J m then 0 else g (J b)) m ≤ dsm (fun k => if k = J m then 0 else g k) n := ih (fun k => if k = J m then 0 else g k) J (fun k => by show 0 ≤ if k = J m then 0 else g k; split; exact Int.le_refl _; exact hg k) (fun b hb => hJ b (by omega)) (fun b b' hb hb' => hi b b' (by omega) (by omega))
    have h2 : dsm (fun b => if J b = J m then 0 else g (J b)) m = dsm (fun b => g (J b)) m := dsm_congr fun b hb => if_neg (fun e => by have := hi b m (by omega) (by omega) e; omega)
    have h3 : dsm (fun k => (if k = J m then 0 else g k) + (if k = J m then g k else 0)) n = dsm g n := dsm_congr fun k _ => by split <;> omega
    rw [dsm_add] at h3
    have h4 : dsm (fun k => if k = J m then g k else 0) n = g (J m) := by
      rw [dsm_one (a := J m) hm (fun k _ hk => if_neg hk), if_pos rfl]
    rw [dsm]
    omega

/-! elimination without fractions gives the determinant -/
def pre (k : Nat) (I : Nat → Nat) : Nat → Nat := fun a => if a < k then a else I (a - k)
def cns (k : Nat) (I : Nat → Nat) : Nat → Nat := fun a => if a = 0 then k else I (a - 1)
theorem pre_cns (k : Nat) (I : Nat → Nat) : pre k (cns k I) = pre (k + 1) I := by
  funext a
  unfold pre cns
  by_cases h : a < k
  · rw [if_pos h, if_pos (by omega)]
  · rw [if_neg h]
    by_cases e : a = k
    · subst e; rw [if_pos (by omega), if_pos (by omega)]
    · rw [if_neg (by omega), if_neg (by omega), show a - k - 1 = a - (k + 1) by omega]
structure Syl (k : Nat) (d : Int) (E A : Nat → Nat → Int) : Prop where
  nz : d ≠ 0
  eq : ∀ (r : Nat) (I J : Nat → Nat), (∀ a, a < r → k ≤ I a) → (∀ a, a < r → k ≤ J a) → dtn r (fun a b => E (I a) (J b)) * d = d ^ r * dtn (k + r) (fun a b => A (pre k I a) (pre k J b))
theorem Syl.zero (A : Nat → Nat → Int) : Syl 0 1 A A := ⟨by decide, fun r I J _ _ => by
  rw [Int.mul_one, Int.one_pow, Int.one_mul, Nat.zero_add]
  exact dtn_congr fun a b _ _ => by unfold pre; rw [if_neg (by omega), if_neg (by omega)]; rfl⟩
theorem dtn_1 (f : Nat → Nat → Int) : dtn 1 f = f 0 0 := by
  show dsm _ 1 = _
  unfold dsm dsm sP dtn; simp
theorem dtn_2 (f : Nat → Nat → Int) : dtn 2 f = f 0 0 * f 1 1 - f 0 1 * f 1 0 := by
  show dsm (fun j => sP j * f 0 j * dtn 1 (mnr f j)) 2 = _
  simp only [dsm, dtn_1]
  unfold sP mnr skp
  simp
  grind
/-- one entry -/
theorem Syl.entry {k : Nat} {d : Int} {E A : Nat → Nat → Int} (h : Syl k d E A) {i j : Nat} (hi : k ≤ i) (hj : k ≤ j) : E i j = dtn (k + 1) (fun a b => A (pre k (fun _ => i) a) (pre k (fun _ => j) b)) := by
  have := h.eq 1 (fun _ => i) (fun _ => j) (fun _ _ => hi) (fun _ _ => hj)
  rw [dtn_1, Int.pow_succ, Int.pow_zero, Int.one_mul, Int.mul_comm] at this
  exact Int.eq_of_mul_eq_mul_left h.nz this
def two (i j : Nat) : Nat → Nat := fun a => if a = 0 then i else j
theorem Syl.exact {k : Nat} {d : Int} {E A : Nat → Nat → Int} (h : Syl k d E A) {i j : Nat} (hi : k ≤ i) (hj : k ≤ j) : E i j * E k k - E i k * E k j = d * dtn (k + 2) (fun a b => A (pre k (two k i) a) (pre k (two k j) b)) := by
  have := h.eq 2 (two k i) (two k j) (fun a _ => by unfold two; split <;> omega) (fun a _ => by unfold two; split <;> omega)
  rw [dtn_2] at this
  have e1 : two k i 0 = k := rfl
  have e2 : two k i 1 = i := rfl
  have e3 : two k j 0 = k := rfl
  have e4 : two k j 1 = j := rfl
  rw [e1, e2, e3, e4] at this
  refine Int.eq_of_mul_eq_mul_left h.nz ?_
  grind
theorem Syl.step {k : Nat} {d : Int} {E E' A : Nat → Nat → Int} (h : Syl k d E A) (hp : E k k ≠ 0) (hE : ∀ i j, k < i → k < j → E' i j * d = E i j * E k k - E i k * E k j) : Syl (k + 1) (E k k) E' A := by
  refine ⟨hp, fun r I J hI hJ => ?_⟩
  have c1 := chio r (fun a b => E (cns k I a) (cns k J b))
  have c0 : E (cns k I 0) (cns k J 0) = E k k := rfl
  rw [c0] at c1
  have e1 : dtn r (chi (fun a b => E (cns k I a) (cns k J b))) = d ^ r * dtn r (fun a b => E' (I a) (J b)) := by
    rw [← dtn_scale]
    refine dtn_congr fun a b ha hb => ?_
    have u : ∀ (I : Nat → Nat) a, cns k I (a + 1) = I a := fun I a => by unfold cns; rw [if_neg (by omega), Nat.add_sub_cancel]
    show E (cns k I 0) (cns k J 0) * E (cns k I (a + 1)) (cns k J (b + 1)) - E (cns k I (a + 1)) (cns k J 0) * E (cns k I 0) (cns k J (b + 1)) = d * E' (I a) (J b)
    rw [u, u, c0, show cns k I 0 = k from rfl, show cns k J 0 = k from rfl]
    have := hE (I a) (J b) (hI a ha) (hJ b hb)
    grind
  rw [e1] at c1
  have s1 := h.eq (r + 1) (cns k I) (cns k J) (fun a ha => by unfold cns; split; omega; have := hI (a - 1) (by omega); omega) (fun a ha => by unfold cns; split; omega; have := hJ (a - 1) (by omega); omega)
  rw [pre_cns, pre_cns, show k + (r + 1) = k + 1 + r by omega] at s1
  have hd : d ^ (r + 1) ≠ 0 := Int.pow_ne_zero h.nz
  refine Int.eq_of_mul_eq_mul_left hd ?_
  generalize dtn (r + 1) (fun a b => E (cns k I a) (cns k J b)) = x at *
  generalize dtn (k + 1 + r) (fun a b => A (pre (k + 1) I a) (pre (k + 1) J b)) = y at *
  generalize dtn r (fun a b => E' (I a) (J b)) = z at *
  rw [Int.pow_succ] at s1 ⊢
  generalize d ^ r = dr at *
  generalize E k k ^ r = pr at *
  generalize E k k = p at *
  grind
def swI (k p : Nat) : Nat → Nat := fun i => if i = k then p else if i = p then k else i
theorem swE_I (E : Nat → Nat → Int) (k p : Nat) : swE E k p = fun i => E (swI k p i) := by
  funext i; unfold swE swI
  split
  · rfl
  · split <;> rfl
theorem Syl.swap {k p : Nat} {d : Int} {E A : Nat → Nat → Int} (h : Syl k d E A) (hp : k ≤ p) : Syl k d (swE E k p) (swE A k p) := by
  refine ⟨h.nz, fun r I J hI hJ => ?_⟩
  rw [swE_I, swE_I]
  have := h.eq r (fun a => swI k p (I a)) J (fun a ha => by have := hI a ha; unfold swI; split; omega; split <;> omega) hJ
  rw [this]
  congr 1
  refine dtn_congr fun a b _ _ => ?_
  congr 1
  unfold pre
  by_cases e : a < k
  · rw [if_pos e, if_pos e]; unfold swI; rw [if_neg (by omega), if_neg (by omega)]
  · rw [if_neg e, if_neg e]
theorem dtn_swE {n : Nat} {f : Nat → Nat → Int} {k p : Nat} (hk : k < n) (hp : p < n) : dtn n (swE f k p) = (if p = k then 1 else -1) * dtn n f := by
  by_cases e : p = k
  · subst e; rw [swE_self, if_pos rfl]; omega
  · have : swE f k p = swR f k p := rfl
    rw [this, dtn_swap (fun h => e h.symm) hk hp, if_neg e]; omega
/-- rows of small sums -/
def RowS (c : Int) (n : Nat) (A : Nat → Nat → Int) : Prop := ∀ a, a < n → dsm (fun b => iab (A a b)) n ≤ c
theorem RowS.swap {c : Int} {n k p : Nat} {A : Nat → Nat → Int} (h : RowS c n A) (hk : k < n) (hp : p < n) : RowS c n (swE A k p) := by
  intro a ha
  rw [swE_I]
  refine h _ ?_
  unfold swI; split; exact hp; split; exact hk; exact ha
theorem minor_bd {c : Int} (hc : 0 ≤ c) {n : Nat} {A : Nat → Nat → Int} (h : RowS c n A) {m : Nat} {I J : Nat → Nat} (hI : ∀ a, a < m → I a < n) (hJ : ∀ a, a < m → J a < n) (hinj : ∀ b b', b < m → b' < m → J b = J b' → b = b') : iab (dtn m (fun a b => A (I a) (J b))) ≤ c ^ m := by
  refine dtn_bd c hc m _ fun a ha => ?_
  refine Int.le_trans ?_ (h (I a) (hI a ha))
  exact dsm_inj (g := fun b => iab (A (I a) b)) n m (fun b => iab (A (I a) b)) J (fun _ => iab_nn _) hJ hinj
theorem pre_one {k j n : Nat} (hk : k < n) (hj : k ≤ j) (hjn : j < n) : (∀ a, a < k + 1 → pre k (fun _ => j) a < n) ∧ ∀ b b', b < k + 1 → b' < k + 1 → pre k (fun _ => j) b = pre k (fun _ => j) b' → b = b' := by
  unfold pre
  constructor
  · intro a ha; split <;> omega
  · intro b b' hb hb' h
    dsimp only at h
    split at h <;> split at h <;> omega
theorem pow4 {m : Nat} (h : m ≤ 16) : (4 : Int) ^ m ≤ 4294967296 := by
  have : m = 0 ∨ m = 1 ∨ m = 2 ∨ m = 3 ∨ m = 4 ∨ m = 5 ∨ m = 6 ∨ m = 7 ∨ m = 8 ∨ m = 9 ∨ m = 10 ∨ m = 11 ∨ m = 12 ∨ m = 13 ∨ m = 14 ∨ m = 15 ∨ m = 16 := by omega
  rcases this with rfl | rfl | rfl | rfl | rfl | rfl | rfl | rfl | rfl | rfl | rfl | rfl | rfl | rfl | rfl | rfl | rfl <;> decide
theorem pow4' {m : Nat} (h : m ≤ 15) : (4 : Int) ^ m ≤ 1073741824 := by
  have : m = 0 ∨ m = 1 ∨ m = 2 ∨ m = 3 ∨ m = 4 ∨ m = 5 ∨ m = 6 ∨ m = 7 ∨ m = 8 ∨ m = 9 ∨ m = 10 ∨ m = 11 ∨ m = 12 ∨ m = 13 ∨ m = 14 ∨ m = 15 := by omega
  rcases this with rfl | rfl | rfl | rfl | rfl | rfl | rfl | rfl | rfl | rfl | rfl | rfl | rfl | rfl | rfl | rfl <;> decide
theorem Syl.bd {k n : Nat} {d : Int} {E A : Nat → Nat → Int} (h : Syl k d E A) (hA : RowS 4 n A) (hk : k < n) {i j : Nat} (hi : k ≤ i) (hin : i < n) (hj : k ≤ j) (hjn : j < n) : iab (E i j) ≤ 4 ^ (k + 1) := by
  rw [h.entry hi hj]
  exact minor_bd (by decide) hA (pre_one hk hi hin).1 (pre_one hk hj hjn).1 (pre_one hk hj hjn).2
theorem mul_bd {a b : Int} (ha : iab a ≤ 1073741824) (hb : iab b ≤ 1073741824) : -1152921504606846976 ≤ a * b ∧ a * b ≤ 1152921504606846976 := by
  have h1 : iab (a * b) ≤ 1073741824 * 1073741824 := by
    rw [iab_mul]
    exact Int.le_trans (Int.mul_le_mul_of_nonneg_left hb (iab_nn a)) (Int.mul_le_mul_of_nonneg_right ha (by decide))
  unfold iab at h1
  omega
theorem quo_ex {d q : Int} (hd : d ≠ 0) (hq : iab q ≤ 4294967296) : qW (d * q) d = q := by
  unfold qW
  rw [Int.mul_tdiv_cancel_left _ hd]
  unfold iab at hq
  exact w64 (by omega) (by omega)
theorem piv_no {E : Nat → Nat → Int} {k : Nat} : ∀ {f p : Nat}, pivE E k f p = none → ∀ i, p ≤ i → i < p + f → E i k = 0 := by
  intro f
  induction f with
  | zero => intro p _ i h1 h2; omega
  | succ f ih =>
    intro p h i h1 h2
    unfold pivE at h
    split at h
    · rename_i h0
      by_cases e : i = p
      · subst e; exact h0
      · exact ih h i (by omega) (by omega)
    · cases h
theorem piv_nz {E : Nat → Nat → Int} {k : Nat} : ∀ {f p q : Nat}, pivE E k f p = some q → E q k ≠ 0 := by
  intro f
  induction f with
  | zero => intro p q h; cases h
  | succ f ih =>
    intro p q h
    unfold pivE at h
    split at h
    · exact ih h
    · rename_i h0
      injection h with h; subst h; exact h0
theorem det_all {n : Nat} (hn : n ≤ 16) : ∀ (f k : Nat) (d s : Int) (E A : Nat → Nat → Int), k + f = n → Syl k d E A → RowS 4 n A → (s = 1 ∨ s = -1) → detE f k E s d = s * dtn n A := by
  intro f
  induction f with
  | zero =>
    intro k d s E A hk h hA hs
    have e := h.eq 0 id id (fun a ha => by omega) (fun a ha => by omega)
    obtain rfl : k = n := by omega
    have e2 : dtn k (fun a b => A (pre k id a) (pre k id b)) = dtn k A := dtn_congr fun a b ha hb => by unfold pre; rw [if_pos ha, if_pos hb]
    rw [Nat.add_zero, e2, Int.pow_zero, Int.one_mul] at e
    have e3 : dtn 0 (fun a b => E (id a) (id b)) = 1 := rfl
    rw [e3, Int.one_mul] at e
    have hb : iab (dtn k A) ≤ 4 ^ k := minor_bd (I := id) (J := id) (by decide) hA (fun a ha => ha) (fun a ha => ha) (fun _ _ _ _ h => h)
    have := pow4 hn
    show mW s d = _
    rw [← e] at hb ⊢
    unfold iab at hb
    rcases hs with rfl | rfl
    · exact w64 (by omega) (by omega)
    · exact w64 (by omega) (by omega)
  | succ f ih =>
    intro k d s E A hk h hA hs
    unfold detE
    cases hp : pivE E k (f + 1) k with
    | none =>
      dsimp only
      have hz := piv_no hp
      have e := h.eq (f + 1) (fun a => k + a) (fun a => k + a) (fun a _ => by omega) (fun a _ => by omega)
      rw [dtn_col0 (by omega) (fun a ha => hz (k + a) (by omega) (by omega)), Int.zero_mul, hk] at e
      have e2 : dtn n (fun a b => A (pre k (fun a => k + a) a) (pre k (fun a => k + a) b)) = dtn n A := dtn_congr fun a b ha hb => by
        have : ∀ a, pre k (fun a => k + a) a = a := fun a => by unfold pre; dsimp only; split <;> omega
        rw [this, this]
      rw [e2] at e
      have hd : d ^ (f + 1) ≠ 0 := Int.pow_ne_zero h.nz
      have : dtn n A = 0 := by
        rcases Int.mul_eq_zero.1 e.symm with h1 | h1
        · exact absurd h1 hd
        · exact h1
      rw [this, Int.mul_zero]
    | some p =>
      dsimp only
      have hin := piv_in hp
      have hnz := piv_nz hp
      have h1 := h.swap hin.1
      have hA1 := hA.swap (k := k) (p := p) (by omega) (by omega)
      have e00 : swE E k p k k = E p k := by unfold swE; rw [if_pos rfl]
      have hEE : ∀ i j, k < i → i < n → k < j → j < n → elE (swE E k p) k d i j * d = swE E k p i j * swE E k p k k - swE E k p i k * swE E k p k j ∧ elE (swE E k p) k d i j = dtn (k + 2) (fun a b => swE A k p (pre k (two k i) a) (pre k (two k j) b)) := by
        intro i j hi hin' hj hjn
        have ex := h1.exact (i := i) (j := j) (by omega) (by omega)
        have p4 := pow4' (m := k + 1) (by omega)
        have b1 := mul_bd (Int.le_trans (h1.bd hA1 (by omega) (i := i) (j := j) (by omega) hin' (by omega) hjn) p4) (Int.le_trans (h1.bd hA1 (by omega) (i := k) (j := k) (Nat.le_refl _) (by omega) (Nat.le_refl _) (by omega)) p4)
        have b2 := mul_bd (Int.le_trans (h1.bd hA1 (by omega) (i := i) (j := k) (by omega) hin' (Nat.le_refl _) (by omega)) p4) (Int.le_trans (h1.bd hA1 (by omega) (i := k) (j := j) (Nat.le_refl _) (by omega) (by omega) hjn) p4)
        have e1 : mW (swE E k p i j) (swE E k p k k) = swE E k p i j * swE E k p k k := w64 (by omega) (by omega)
        have e2 : mW (swE E k p i k) (swE E k p k j) = swE E k p i k * swE E k p k j := w64 (by omega) (by omega)
        have e3 : xW (swE E k p i j * swE E k p k k) (swE E k p i k * swE E k p k j) = swE E k p i j * swE E k p k k - swE E k p i k * swE E k p k j := w64 (by omega) (by omega)
        have eq : elE (swE E k p) k d i j = dtn (k + 2) (fun a b => swE A k p (pre k (two k i) a) (pre k (two k j) b)) := by
          unfold elE
          rw [if_pos ⟨hi, hj⟩]
          unfold el1
          rw [e1, e2, e3, ex]
          have hbq : iab (dtn (k + 2) (fun a b => swE A k p (pre k (two k i) a) (pre k (two k j) b))) ≤ 4 ^ (k + 2) := by
            refine minor_bd (by decide) hA1 (fun a ha => ?_) (fun a ha => ?_) (fun b b' hb hb' hh => ?_)
            · unfold pre two; split; omega; split <;> omega
            · unfold pre two; split; omega; split <;> omega
            · unfold pre two at hh
              split at hh <;> split at hh <;> (try split at hh) <;> (try split at hh) <;> omega
          have p5 := pow4 (m := k + 2) (by omega)
          exact quo_ex h.nz (Int.le_trans hbq p5)
        rw [eq]
        exact ⟨by rw [ex, Int.mul_comm], rfl⟩
      -- outside the board the entries do not matter
      let E' : Nat → Nat → Int := fun i j => if i < n ∧ j < n then elE (swE E k p) k d i j else dtn (k + 2) (fun a b => swE A k p (pre k (two k i) a) (pre k (two k j) b))
      have hS : Syl (k + 1) (E p k) E' (swE A k p) := by
        rw [← e00]
        refine h1.step (by rw [e00]; exact hnz) fun i j hi hj => ?_
        show (if i < n ∧ j < n then elE (swE E k p) k d i j else dtn (k + 2) (fun a b => swE A k p (pre k (two k i) a) (pre k (two k j) b))) * d = _
        split
        · rename_i hh; exact (hEE i j hi hh.1 hj hh.2).1
        · rw [h1.exact (i := i) (j := j) (by omega) (by omega), Int.mul_comm]
      have hI := ih (k + 1) (E p k) (if p = k then s else -s) E' (swE A k p) (by omega) hS hA1 (by split <;> omega)
      have hc : detE f (k + 1) (elE (swE E k p) k d) (if p = k then s else -s) (E p k) = detE f (k + 1) E' (if p = k then s else -s) (E p k) := det_congr fun i j h1 h2 h3 h4 => by
        show _ = if i < n ∧ j < n then _ else _
        rw [if_pos ⟨by omega, by omega⟩]
      rw [hc, hI, dtn_swE (by omega) (by omega)]
      split <;> grind

/-! determinants as sums over choices -/
def lsm {α : Type} (F : α → Int) : List α → Int
  | [] => 0
  | a :: L => F a + lsm F L
theorem lsm_app {α : Type} (F : α → Int) (L M : List α) : lsm F (L ++ M) = lsm F L + lsm F M := by
  induction L with
  | nil => simp [lsm]
  | cons a L ih => rw [List.cons_append, lsm, lsm, ih]; omega
theorem lsm_perm {α : Type} (F : α → Int) {L M : List α} (h : L.Perm M) : lsm F L = lsm F M := by
  induction h with
  | nil => rfl
  | cons a _ ih => rw [lsm, lsm, ih]
  | swap a b L => rw [lsm, lsm, lsm, lsm]; omega
  | trans _ _ i1 i2 => rw [i1, i2]
theorem lsm_filter {α : Type} (F : α → Int) (p : α → Bool) {L : List α} (h : ∀ a ∈ L, p a = false → F a = 0) : lsm F L = lsm F (L.filter p) := by
  induction L with
  | nil => rfl
  | cons a L ih =>
    rw [List.filter_cons, lsm, ih (fun b hb => h b (by simp [hb]))]
    cases e : p a
    · rw [h a (by simp) e]; simp
    · rw [if_pos rfl, lsm]
theorem lsm_map {α β : Type} (F : β → Int) (g : α → β) (L : List α) : lsm F (L.map g) = lsm (fun a => F (g a)) L := by
  induction L with
  | nil => rfl
  | cons a L ih => rw [List.map_cons, lsm, lsm, ih]
theorem lsm_congr {α : Type} {F G : α → Int} {L : List α} (h : ∀ a ∈ L, F a = G a) : lsm F L = lsm G L := by
  induction L with
  | nil => rfl
  | cons a L ih => rw [lsm, lsm, h a (by simp), ih (fun b hb => h b (by simp [hb]))]
theorem lsm_const {α : Type} (c : Int) (L : List α) : lsm (fun _ => c) L = c * (L.length : Int) := by
  induction L with
  | nil => simp [lsm]
  | cons a L ih =>
    rw [lsm, ih, List.length_cons]
    rw [show ((L.length + 1 : Nat) : Int) = (L.length : Int) + 1 by omega, Int.mul_add]; omega
theorem lsm_abs {α : Type} {F : α → Int} {L : List α} (h : ∀ a ∈ L, iab (F a) ≤ 1) : iab (lsm F L) ≤ (L.length : Int) := by
  induction L with
  | nil => exact Int.le_refl _
  | cons a L ih =>
    have h1 := h a (by simp)
    have h2 := ih (fun b hb => h b (by simp [hb]))
    rw [lsm, List.length_cons]
    unfold iab at *; omega
theorem lsm_flat {α β : Type} (F : β → Int) (g : α → List β) (L : List α) : lsm F (L.flatMap g) = lsm (fun a => lsm F (g a)) L := by
  induction L with
  | nil => rfl
  | cons a L ih => rw [List.flatMap_cons, lsm_app, ih, lsm]
theorem lsm_range (F : Nat → Int) : ∀ n, lsm F (List.range n) = dsm F n := by
  intro n
  induction n with
  | zero => rfl
  | succ n ih => rw [List.range_succ, lsm_app, ih, dsm]; show _ + (F n + 0) = _; omega
theorem dtn_zrow {n : Nat} {f : Nat → Nat → Int} {i : Nat} (hi : i < n) (h : ∀ b, b < n → f i b = 0) : dtn n f = 0 := by
  have h2 := dtn_lin 0 0 n f i (f i) (f i) hi
  have e : dtn n (upR f i (fun b => 0 * f i b + 0 * f i b)) = dtn n f := by
    refine dtn_congr fun a b _ hb => ?_
    unfold upR
    split
    · rename_i e; subst e; dsimp only; rw [h b hb]; rfl
    · rfl
  rw [e] at h2
  omega
/-- one row parted into its entries -/
theorem dtn_part {n : Nat} (g : Nat → Nat → Int) {m : Nat} (hm : m < n) : dtn n g = dsm (fun j => dtn n (upR g m (fun b => if b = j then g m b else 0))) n := by
  have key : ∀ k, dtn n (upR g m (fun b => if b < k then g m b else 0)) = dsm (fun j => dtn n (upR g m (fun b => if b = j then g m b else 0))) k := by
    intro k
    induction k with
    | zero => exact dtn_zrow hm (fun b _ => by unfold upR; rw [if_pos rfl]; dsimp only; rw [if_neg (by omega)])
    | succ k ih =>
      rw [dsm, ← ih]
      have := dtn_lin 1 1 n g m (fun b => if b < k then g m b else 0) (fun b => if b = k then g m b else 0) hm
      rw [Int.one_mul, Int.one_mul] at this
      rw [← this]
      congr 2
      funext b
      by_cases h1 : b < k
      · rw [if_pos (by omega), if_pos h1, if_neg (by omega)]; omega
      · by_cases h2 : b = k
        · rw [if_pos (by omega), if_neg h1, if_pos h2]; omega
        · rw [if_neg (by omega), if_neg h1, if_neg h2]; omega
  rw [← key n]
  refine dtn_congr fun a b _ hb => ?_
  unfold upR
  split
  · rename_i e; subst e; dsimp only; rw [if_pos hb]
  · rfl
def rstM (f : Nat → Nat → Int) (t : List Nat) : Nat → Nat → Int := fun i b => if i < t.length then (if b = gN t i then f i b else 0) else f i b
def chs (n : Nat) : Nat → List (List Nat)
  | 0 => [[]]
  | m + 1 => (chs n m).flatMap fun t => (List.range n).map fun j => t ++ [j]
theorem chs_len {n : Nat} : ∀ {m : Nat} {t : List Nat}, t ∈ chs n m → t.length = m := by
  intro m
  induction m with
  | zero => intro t h; simp [chs] at h; subst h; rfl
  | succ m ih =>
    intro t h
    unfold chs at h
    rw [List.mem_flatMap] at h
    obtain ⟨u, hu, h⟩ := h
    obtain ⟨j, _, rfl⟩ := List.mem_map.1 h
    rw [List.length_append, ih hu]; rfl
theorem gN_app {t : List Nat} {j i : Nat} : gN (t ++ [j]) i = if i < t.length then gN t i else if i = t.length then j else 0 := by
  unfold gN
  rw [List.getD_eq_getElem?_getD, List.getD_eq_getElem?_getD, List.getElem?_append]
  split
  · rfl
  · split
    · rename_i h; subst h; simp
    · rw [List.getElem?_eq_none (by simp; omega)]; rfl
theorem rstM_snoc (f : Nat → Nat → Int) (t : List Nat) (j : Nat) : rstM f (t ++ [j]) = upR (rstM f t) t.length (fun b => if b = j then rstM f t t.length b else 0) := by
  funext i b
  unfold upR rstM
  rw [List.length_append, List.length_singleton]
  by_cases h : i = t.length
  · subst h
    have e1 : gN (t ++ [j]) t.length = j := by rw [gN_app, if_neg (Nat.lt_irrefl _), if_pos rfl]
    rw [if_pos (by omega), if_pos rfl, e1]
    dsimp only
    rw [if_neg (Nat.lt_irrefl _)]
  · rw [if_neg h]
    by_cases h2 : i < t.length
    · rw [if_pos (by omega), if_pos h2, gN_app, if_pos h2]
    · rw [if_neg (by omega), if_neg h2]
theorem dtn_chs {n : Nat} (f : Nat → Nat → Int) : ∀ m, m ≤ n → lsm (fun t => dtn n (rstM f t)) (chs n m) = dtn n f := by
  intro m
  induction m with
  | zero =>
    intro _
    show dtn n (rstM f []) + 0 = _
    have : rstM f [] = f := by funext i b; unfold rstM; rw [if_neg (by simp)]
    rw [this]; omega
  | succ m ih =>
    intro hm
    rw [← ih (by omega), chs, lsm_flat]
    refine lsm_congr fun t ht => ?_
    have hl := chs_len ht
    rw [lsm_map, lsm_range, dtn_part (rstM f t) (m := m) (by omega)]
    refine dsm_congr fun j _ => ?_
    rw [rstM_snoc, hl]
theorem upR_scale {n : Nat} (f : Nat → Nat → Int) {i : Nat} (hi : i < n) (c : Int) (u : Nat → Int) : dtn n (upR f i (fun b => c * u b)) = c * dtn n (upR f i u) := by
  have := dtn_lin c 0 n f i u u hi
  rw [Int.zero_mul, Int.add_zero] at this
  rw [← this]
  congr 2; funext b; omega
/-- two rows with their entries in one column -/
theorem dtn_two0 {n : Nat} {f : Nat → Nat → Int} {i k j : Nat} (hik : i ≠ k) (hi : i < n) (hk : k < n) {u v : Int} (h1 : ∀ b, b < n → f i b = if b = j then u else 0) (h2 : ∀ b, b < n → f k b = if b = j then v else 0) : dtn n f = 0 := by
  have e : dtn n f = dtn n (upR (upR f i (fun b => u * (if b = j then 1 else 0))) k (fun b => v * (if b = j then 1 else 0))) := by
    refine dtn_congr fun a b _ hb => ?_
    unfold upR
    by_cases e1 : a = k
    · subst e1; rw [if_pos rfl, h2 b hb]; dsimp only; split <;> omega
    · rw [if_neg e1]
      by_cases e2 : a = i
      · subst e2; rw [if_pos rfl, h1 b hb]; dsimp only; split <;> omega
      · rw [if_neg e2]
  rw [e, upR_scale _ hk, upR_comm hik, upR_scale _ hi, alt_any hik hi hk _ (fun b => by unfold upR; rw [if_pos rfl, if_neg (fun e => hik e.symm), if_pos rfl])]
  simp
def gdB (f : Nat → Nat → Int) (n : Nat) (t : List Nat) : Bool := (List.range n).all (fun i => decide (f i (gN t i) ≠ 0)) && decide t.Nodup
theorem gN_eq' {t : List Nat} {i : Nat} (h : i < t.length) : gN t i = t[i] := by unfold gN; rw [List.getD_eq_getElem?_getD, List.getElem?_eq_getElem h]; rfl
theorem chs_bad {n : Nat} {f : Nat → Nat → Int} {t : List Nat} (ht : t ∈ chs n n) (h : gdB f n t = false) : dtn n (rstM f t) = 0 := by
  have hl := chs_len ht
  unfold gdB at h
  rw [Bool.and_eq_false_iff] at h
  rcases h with h | h
  · rw [List.all_eq_false] at h
    obtain ⟨i, hi, h⟩ := h
    rw [List.mem_range] at hi
    simp only [decide_eq_true_eq, Classical.not_not] at h
    refine dtn_zrow hi fun b _ => ?_
    unfold rstM
    rw [if_pos (by omega)]
    split
    · rename_i e; rw [e]; exact h
    · rfl
  · have h := of_decide_eq_false h
    have : ∃ i k, ∃ (hi : i < t.length) (hk : k < t.length), i < k ∧ t[i] = t[k] := by
      refine Classical.byContradiction fun hc => h ?_
      rw [List.Nodup, List.pairwise_iff_getElem]
      intro i k hi hk hlt e
      exact hc ⟨i, k, hi, hk, hlt, e⟩
    obtain ⟨i, k, hi, hk, hlt, e⟩ := this
    rw [← gN_eq' hi, ← gN_eq' hk] at e
    refine dtn_two0 (i := i) (k := k) (j := gN t i) (by omega) (by omega) (by omega) (u := f i (gN t i)) (v := f k (gN t i)) (fun b _ => ?_) (fun b _ => ?_)
    · unfold rstM; rw [if_pos hi]
      split
      · rename_i e; rw [e]
      · rfl
    · unfold rstM; rw [if_pos hk, ← e]
      split
      · rename_i e; rw [e]
      · rfl
theorem dtn_good {n : Nat} (f : Nat → Nat → Int) : dtn n f = lsm (fun t => dtn n (rstM f t)) ((chs n n).filter (gdB f n)) := by
  rw [← lsm_filter _ _ (fun t ht h => chs_bad ht h), dtn_chs f n (Nat.le_refl _)]
/-- a matrix with one entry in each row and column, of size one -/
theorem dtn_one : ∀ (n : Nat) (f : Nat → Nat → Int) (J : Nat → Nat), (∀ i, i < n → J i < n) → (∀ i k, i < n → k < n → J i = J k → i = k) → (∀ i b, i < n → b < n → b ≠ J i → f i b = 0) → (∀ i, i < n → iab (f i (J i)) = 1) → iab (dtn n f) = 1 := by
  intro n
  induction n with
  | zero => intro f J _ _ _ _; rfl
  | succ n ih =>
    intro f J hJ hi h0 h1
    rw [dtn, dsm_one (a := J 0) (hJ 0 (by omega)) (fun k hk hne => by rw [h0 0 k (by omega) hk hne]; simp), iab_mul, iab_mul, sP_abs, h1 0 (by omega)]
    rw [ih (mnr f (J 0)) (fun i => usk (J 0) (J (i + 1))) (fun i hin => ?_) (fun i k hin hkn e => ?_) (fun i b hin hb hne => ?_) (fun i hin => ?_)]
    · rfl
    · have := hJ (i + 1) (by omega); have := hJ 0 (by omega)
      have hne : J (i + 1) ≠ J 0 := fun e => by have := hi (i + 1) 0 (by omega) (by omega) e; omega
      unfold usk; split <;> omega
    · have n1 : J (i + 1) ≠ J 0 := fun e => by have := hi (i + 1) 0 (by omega) (by omega) e; omega
      have n2 : J (k + 1) ≠ J 0 := fun e => by have := hi (k + 1) 0 (by omega) (by omega) e; omega
      have := hi (i + 1) (k + 1) (by omega) (by omega) (by
        unfold usk at e
        split at e <;> split at e <;> omega)
      omega
    · have n1 : J (i + 1) ≠ J 0 := fun e => by have := hi (i + 1) 0 (by omega) (by omega) e; omega
      show f (i + 1) (skp (J 0) b) = 0
      refine h0 (i + 1) _ (by omega) (skp_lt hb) (fun e => hne ?_)
      rw [← e, usk_skp]
    · have n1 : J (i + 1) ≠ J 0 := fun e => by have := hi (i + 1) 0 (by omega) (by omega) e; omega
      show iab (f (i + 1) (skp (J 0) (usk (J 0) (J (i + 1))))) = 1
      have : skp (J 0) (usk (J 0) (J (i + 1))) = J (i + 1) := by
        unfold skp usk
        by_cases h : J (i + 1) < J 0
        · rw [if_pos h, if_pos h]
        · rw [if_neg h, if_neg (by omega)]; omega
      rw [this]; exact h1 (i + 1) (by omega)
theorem chs_mem {n : Nat} : ∀ {m : Nat} {t : List Nat}, t ∈ chs n m ↔ t.length = m ∧ ∀ x ∈ t, x < n := by
  intro m
  induction m with
  | zero =>
    intro t; simp only [chs, List.mem_singleton]
    constructor
    · rintro rfl; simp
    · rintro ⟨h, _⟩; exact List.eq_nil_of_length_eq_zero h
  | succ m ih =>
    intro t
    unfold chs
    rw [List.mem_flatMap]
    constructor
    · rintro ⟨u, hu, h⟩
      obtain ⟨j, hj, rfl⟩ := List.mem_map.1 h
      obtain ⟨h1, h2⟩ := ih.1 hu
      refine ⟨by rw [List.length_append, h1]; rfl, fun x hx => ?_⟩
      rw [List.mem_append, List.mem_singleton] at hx
      rcases hx with hx | rfl
      · exact h2 x hx
      · exact List.mem_range.1 hj
    · rintro ⟨h1, h2⟩
      have hne : t ≠ [] := fun e => by subst e; simp at h1
      have e := List.dropLast_concat_getLast hne
      refine ⟨t.dropLast, ih.2 ⟨by rw [List.length_dropLast, h1]; omega, fun x hx => h2 x (List.dropLast_subset t hx)⟩, List.mem_map.2 ⟨t.getLast hne, List.mem_range.2 (h2 _ (List.getLast_mem hne)), e⟩⟩
theorem chs_nodup (n : Nat) : ∀ m, (chs n m).Nodup := by
  intro m
  induction m with
  | zero => simp [chs]
  | succ m ih =>
    unfold chs
    unfold List.Nodup
    rw [List.pairwise_flatMap]
    refine ⟨fun t _ => ?_, ?_⟩
    · refine List.Pairwise.map _ (fun a b (h : a ≠ b) e => h ?_) List.nodup_range
      have := List.append_cancel_left e
      simpa using this
    · refine ih.imp_of_mem fun {t u} ht hu hne a ha b hb e => ?_
      obtain ⟨i, _, rfl⟩ := List.mem_map.1 ha
      obtain ⟨j, _, rfl⟩ := List.mem_map.1 hb
      exact hne (List.append_inj e (by rw [chs_len ht, chs_len hu])).1
theorem good_mem {f : Nat → Nat → Int} {n : Nat} {t : List Nat} : t ∈ (chs n n).filter (gdB f n) ↔ (t.length = n ∧ ∀ x ∈ t, x < n) ∧ (∀ i, i < n → f i (gN t i) ≠ 0) ∧ t.Nodup := by
  rw [List.mem_filter, chs_mem]
  refine and_congr Iff.rfl ?_
  unfold gdB
  rw [Bool.and_eq_true, List.all_eq_true, decide_eq_true_eq]
  simp only [List.mem_range, decide_eq_true_eq]
theorem good_one {f : Nat → Nat → Int} {n : Nat} (hf : ∀ i b, i < n → b < n → f i b ≠ 0 → iab (f i b) = 1) {t : List Nat} (ht : t ∈ (chs n n).filter (gdB f n)) : iab (dtn n (rstM f t)) = 1 := by
  obtain ⟨⟨h1, h2⟩, h3, h4⟩ := good_mem.1 ht
  have hJ : ∀ i, i < n → gN t i < n := fun i hi => by rw [gN_eq' (by omega)]; exact h2 _ (List.getElem_mem _)
  refine dtn_one n _ (gN t) hJ (fun i k hi hk e => ?_) (fun i b hi hb hne => ?_) (fun i hi => ?_)
  · rw [gN_eq' (by omega), gN_eq' (by omega)] at e
    exact (List.getElem_inj h4).1 e
  · unfold rstM; rw [if_pos (by omega), if_neg hne]
  · unfold rstM; rw [if_pos (by omega), if_pos rfl]; exact hf i _ hi (hJ i hi) (h3 i hi)
/-- two rows change their places, with signs -/
theorem dtn_turn {n : Nat} {f g : Nat → Nat → Int} {i k : Nat} (hik : i ≠ k) (hi : i < n) (hk : k < n) {c d : Int} (hcd : c * d = -1) (h0 : ∀ a b, a < n → b < n → a ≠ i → a ≠ k → g a b = f a b) (h1 : ∀ b, b < n → g i b = c * f k b) (h2 : ∀ b, b < n → g k b = d * f i b) : dtn n g = dtn n f := by
  have e : dtn n g = dtn n (upR (upR (swR f i k) i (fun b => c * f k b)) k (fun b => d * f i b)) := by
    refine dtn_congr fun a b ha hb => ?_
    unfold upR swR
    by_cases e1 : a = k
    · subst e1; rw [if_pos rfl, h2 b hb]
    · rw [if_neg e1]
      by_cases e2 : a = i
      · subst e2; rw [if_pos rfl, h1 b hb]
      · rw [if_neg e2, if_neg e2, if_neg e1, h0 a b ha hb e2 e1]
  have e2 : upR (upR (swR f i k) i (f k)) k (f i) = swR f i k := by
    funext a b; unfold upR swR
    by_cases e1 : a = k
    · subst e1; rw [if_pos rfl, if_neg (fun h => hik h.symm), if_pos rfl]
    · rw [if_neg e1]
      by_cases e2 : a = i
      · rw [if_pos e2, if_pos e2]
      · rw [if_neg e2]
  rw [e, upR_scale _ hk, upR_comm hik, upR_scale _ hi, ← upR_comm hik, e2, dtn_swap hik hi hk]
  have : d * (c * -(dtn n f)) = (c * d) * -(dtn n f) := by grind
  rw [this, hcd]; omega
/-! the permanent counts the same choices -/
def exL (a : Nat → Nat → Bool) (n : Nat) : Nat → Nat → Nat → List (List Nat)
  | 0, _, _ => [[]]
  | f + 1, row, t => (List.range n).flatMap fun k => if a row k = true ∧ t.testBit k = false then (exL a n f (row + 1) (nxM t k)).map (k :: ·) else []
theorem exL_len (a : Nat → Nat → Bool) (n : Nat) : ∀ f row t, (exL a n f row t).length = permF a n f row t := by
  intro f
  induction f with
  | zero => intro row t; rfl
  | succ f ih =>
    intro row t
    rw [exL, permF]
    have : ∀ m, ((List.range m).flatMap fun k => if a row k = true ∧ t.testBit k = false then (exL a n f (row + 1) (nxM t k)).map (k :: ·) else []).length = sumK (fun k => if a row k = true ∧ t.testBit k = false then permF a n f (row + 1) (nxM t k) else 0) m := by
      intro m
      induction m with
      | zero => rfl
      | succ m ihm =>
        rw [List.range_succ, List.flatMap_append, List.length_append, ihm, sumK]
        congr 1
        rw [List.flatMap_cons, List.flatMap_nil, List.append_nil]
        split
        · rw [List.length_map, ih]
        · rfl
    exact this n
theorem exL_mem (a : Nat → Nat → Bool) (n : Nat) : ∀ f row t u, u ∈ exL a n f row t ↔ u.length = f ∧ (∀ i, i < f → gN u i < n ∧ a (row + i) (gN u i) = true) ∧ u.Nodup ∧ ∀ x ∈ u, t.testBit x = false := by
  intro f
  induction f with
  | zero =>
    intro row t u
    simp only [exL, List.mem_singleton]
    constructor
    · rintro rfl; simp
    · rintro ⟨h, _⟩; exact List.eq_nil_of_length_eq_zero h
  | succ f ih =>
    intro row t u
    rw [exL, List.mem_flatMap]
    constructor
    · rintro ⟨k, hk, h⟩
      rw [List.mem_range] at hk
      split at h
      · rename_i hc
        obtain ⟨v, hv, rfl⟩ := List.mem_map.1 h
        obtain ⟨h1, h2, h3, h4⟩ := (ih _ _ v).1 hv
        refine ⟨by simp [h1], fun i hi => ?_, List.nodup_cons.2 ⟨fun hm => ?_, h3⟩, fun x hx => ?_⟩
        · cases i with
          | zero => exact ⟨hk, hc.1⟩
          | succ i =>
            have := h2 i (by omega)
            rw [show row + (i + 1) = row + 1 + i by omega]; exact this
        · have := h4 k hm
          rw [nxt_bit, decide_eq_true rfl, Bool.or_true] at this; cases this
        · rcases List.mem_cons.1 hx with rfl | hx
          · exact hc.2
          · have := h4 x hx
            rw [nxt_bit, Bool.or_eq_false_iff] at this; exact this.1
      · cases h
    · rintro ⟨h1, h2, h3, h4⟩
      cases u with
      | nil => simp at h1
      | cons k v =>
        have h20 := h2 0 (by omega)
        have e0 : gN (k :: v) 0 = k := rfl
        rw [e0, Nat.add_zero] at h20
        obtain ⟨n1, n2⟩ := List.nodup_cons.1 h3
        refine ⟨k, List.mem_range.2 h20.1, ?_⟩
        rw [if_pos ⟨h20.2, h4 k (by simp)⟩]
        refine List.mem_map.2 ⟨v, (ih _ _ v).2 ⟨by simpa using h1, fun i hi => ?_, n2, fun x hx => ?_⟩, rfl⟩
        · have := h2 (i + 1) (by omega)
          rw [show row + (i + 1) = row + 1 + i by omega] at this; exact this
        · rw [nxt_bit, h4 x (by simp [hx]), Bool.false_or]
          exact decide_eq_false fun e => n1 (e ▸ hx)
theorem exL_nodup (a : Nat → Nat → Bool) (n : Nat) : ∀ f row t, (exL a n f row t).Nodup := by
  intro f
  induction f with
  | zero => intro row t; simp [exL]
  | succ f ih =>
    intro row t
    rw [exL]
    unfold List.Nodup
    rw [List.pairwise_flatMap]
    refine ⟨fun k _ => ?_, ?_⟩
    · split
      · exact List.Pairwise.map _ (fun a b (h : a ≠ b) e => h (by injection e)) (ih _ _)
      · exact List.Pairwise.nil
    · refine (List.nodup_range (n := n)).imp_of_mem fun {k j} _ _ hne u hu v hv e => ?_
      split at hu
      · split at hv
        · obtain ⟨_, _, rfl⟩ := List.mem_map.1 hu
          obtain ⟨_, _, rfl⟩ := List.mem_map.1 hv
          injection e with e1 _
          exact hne e1
        · cases hv
      · cases hu
theorem perm_good {f : Nat → Nat → Int} {n : Nat} : permF (fun i k => decide (f i k ≠ 0)) n n 0 0 = ((chs n n).filter (gdB f n)).length := by
  rw [← exL_len]
  refine List.Perm.length_eq ((List.perm_ext_iff_of_nodup (exL_nodup _ _ _ _ _) ((chs_nodup n n).filter _)).2 fun u => ?_)
  rw [exL_mem, good_mem]
  constructor
  · rintro ⟨h1, h2, h3, _⟩
    refine ⟨⟨h1, fun x hx => ?_⟩, fun i hi => ?_, h3⟩
    · obtain ⟨i, hi, rfl⟩ := List.getElem_of_mem hx
      rw [← gN_eq' hi]; exact (h2 i (by omega)).1
    · have := (h2 i hi).2
      rw [Nat.zero_add] at this
      exact of_decide_eq_true this
  · rintro ⟨⟨h1, h2⟩, h3, h4⟩
    refine ⟨h1, fun i hi => ⟨?_, ?_⟩, h4, fun x _ => Nat.zero_testBit x⟩
    · rw [gN_eq' (by omega)]; exact h2 _ (List.getElem_mem _)
    · rw [Nat.zero_add]; exact decide_eq_true (h3 i hi)

/-! tilings and choices -/
structure BW (s : Nat) (B W : List Cel) : Prop where
  nb : B.Nodup
  nw : W.Nodup
  hb : ∀ c, c ∈ B ↔ hasS s c = true ∧ black c = true
  hw : ∀ c, c ∈ W ↔ hasS s c = true ∧ black c = false
  len : W.length = B.length
def prt (P : List Dom) (b : Cel) : Cel := match P.find? (fun d => cin d (idx b)) with
  | some d => if ca d = b then cb d else ca d
  | none => b
theorem prt_spec {s : Nat} {P : List Dom} (h : TilS s P) {b : Cel} (hb : hasS s b = true) : ∃ d ∈ P, (ca d = b ∧ prt P b = cb d) ∨ (cb d = b ∧ prt P b = ca d ∧ ca d ≠ b) := by
  have ho := hasS_ok hb
  have hbit : s.testBit (idx b) = true := by unfold hasS at hb; rw [Bool.and_eq_true] at hb; exact hb.2
  have hp : 0 < cvN P (idx b) := by rw [h.cv, if_pos hbit]; omega
  obtain ⟨e, he, hce⟩ := cvN_ex hp
  unfold prt
  cases hf : P.find? (fun d => cin d (idx b)) with
  | none =>
    rw [List.find?_eq_none] at hf
    exact absurd hce (hf e he)
  | some d =>
    have hd := List.mem_of_find?_eq_some hf
    have hc := List.find?_some hf
    have hok := h.ok d hd
    dsimp only at hc ⊢
    refine ⟨d, hd, ?_⟩
    unfold cin at hc
    rw [Bool.or_eq_true, decide_eq_true_eq, decide_eq_true_eq] at hc
    by_cases e1 : ca d = b
    · left; rw [if_pos e1]; exact ⟨e1, rfl⟩
    · right
      rw [if_neg e1]
      rcases hc with hc | hc
      · exact absurd (idx_inj (ok_ca hok) ho hc) e1
      · exact ⟨idx_inj (ok_cb hok) ho hc, rfl, e1⟩
theorem dom_nbr {d : Dom} (h : okD d = true) : nbr (ca d) (cb d) = true ∧ nbr (cb d) (ca d) = true ∧ black (ca d) = !(black (cb d)) ∧ idx (ca d) < idx (cb d) := by
  have h1 := ok_ca h
  have h2 := ok_cb h
  obtain ⟨n1, n2⟩ := nbr_dom h1 h2
  refine ⟨n1, ?_, ?_, n2⟩
  · unfold nbr at n1 ⊢
    simp only [Bool.and_eq_true, decide_eq_true_eq] at n1 ⊢
    refine ⟨⟨n1.1.2, n1.1.1⟩, ?_⟩
    have := n1.2
    rw [← this]
    have e1 : iabs ((cb d).x - (ca d).x) = iabs ((ca d).x - (cb d).x) := by unfold iabs; split <;> split <;> omega
    have e2 : iabs ((cb d).y - (ca d).y) = iabs ((ca d).y - (cb d).y) := by unfold iabs; split <;> split <;> omega
    rw [e1, e2]
  · unfold black
    rw [h1, h2, Bool.true_and, Bool.true_and, Bool.eq_iff_iff]
    simp only [decide_eq_true_eq, Bool.not_eq_true', decide_eq_false_iff_not]
    unfold ca cb
    cases d.d <;> simp <;> omega
theorem prt_of {s : Nat} {P : List Dom} (h : TilS s P) {d : Dom} (hd : d ∈ P) {b w : Cel} (hc : (ca d = b ∧ cb d = w) ∨ (ca d = w ∧ cb d = b)) : prt P b = w := by
  obtain ⟨h1, h2⟩ := til_has h hd
  have hb : hasS s b = true := by rcases hc with ⟨e, _⟩ | ⟨_, e⟩ <;> rw [← e] <;> assumption
  obtain ⟨e, he, hs⟩ := prt_spec h hb
  have hce : cin e (idx b) = true := by rcases hs with ⟨q, _⟩ | ⟨q, _⟩ <;> rw [← q]; exact cin_a e; exact cin_b e
  have hcd : cin d (idx b) = true := by rcases hc with ⟨q, _⟩ | ⟨_, q⟩ <;> rw [← q]; exact cin_a d; exact cin_b d
  have := til_uniq h hd he hcd hce
  subst this
  have hlt := (dom_nbr (h.ok d hd)).2.2.2
  rcases hc with ⟨q1, q2⟩ | ⟨q1, q2⟩
  · rcases hs with ⟨r1, r2⟩ | ⟨r1, r2, r3⟩
    · rw [r2, q2]
    · exact absurd q1 r3
  · rcases hs with ⟨r1, r2⟩ | ⟨r1, r2, r3⟩
    · rw [r1, ← q2] at hlt; omega
    · rw [r2, q1]
theorem prt_w {s : Nat} {P : List Dom} (h : TilS s P) {b : Cel} (hb : hasS s b = true) (hk : black b = true) : hasS s (prt P b) = true ∧ black (prt P b) = false ∧ nbr b (prt P b) = true := by
  obtain ⟨d, hd, hs⟩ := prt_spec h hb
  obtain ⟨h1, h2⟩ := til_has h hd
  obtain ⟨n1, n2, n3, _⟩ := dom_nbr (h.ok d hd)
  rcases hs with ⟨q1, q2⟩ | ⟨q1, q2, _⟩
  · rw [q2, ← q1]
    rw [← q1, n3, Bool.not_eq_true'] at hk
    exact ⟨h2, hk, n1⟩
  · rw [q2, ← q1]
    rw [← q1] at hk
    rw [n3, hk]
    exact ⟨h1, rfl, n2⟩
def idW (W : List Cel) (c : Cel) : Nat := W.findIdx (fun z => decide (z = c))
theorem idW_spec {W : List Cel} {c : Cel} (h : c ∈ W) : idW W c < W.length ∧ gC W (idW W c) = c := by
  have hlt : idW W c < W.length := List.findIdx_lt_length_of_exists ⟨c, h, decide_eq_true rfl⟩
  refine ⟨hlt, ?_⟩
  rw [gC_eq hlt]
  have := List.findIdx_getElem (w := hlt)
  exact of_decide_eq_true this
theorem idW_at {W : List Cel} (hn : W.Nodup) {j : Nat} (h : j < W.length) : idW W (gC W j) = j := by
  obtain ⟨h1, h2⟩ := idW_spec (W := W) (c := gC W j) (gC_mem h)
  generalize idW W (gC W j) = i at h1 h2
  rw [gC_eq h1, gC_eq h] at h2
  exact (List.getElem_inj hn).1 h2
def psi (B W : List Cel) (P : List Dom) : List Nat := B.map fun b => idW W (prt P b)
theorem psi_len (B W : List Cel) (P : List Dom) : (psi B W P).length = B.length := by simp [psi]
theorem psi_at {B W : List Cel} {P : List Dom} {i : Nat} (h : i < B.length) : gN (psi B W P) i = idW W (prt P (gC B i)) := by
  rw [gN_eq' (by rw [psi_len]; exact h), gC_eq h]; simp [psi]
def kM (B W : List Cel) : Nat → Nat → Int := fun i j => sgE (gC B i) (gC W j)
theorem kM_one (B W : List Cel) (i j : Nat) (h : kM B W i j ≠ 0) : iab (kM B W i j) = 1 := by
  unfold kM sgE at *
  split at h
  · rename_i h1
    rw [if_pos h1]; split <;> rfl
  · exact absurd rfl h
theorem sgE_ne {b w : Cel} (h : nbr b w = true) : sgE b w ≠ 0 := by unfold sgE; rw [if_pos h]; split <;> decide
theorem sgE_nbr {b w : Cel} (h : sgE b w ≠ 0) : nbr b w = true := by
  cases e : nbr b w
  · exact absurd (sgE_n e) h
  · rfl
section
variable {s : Nat} {B W : List Cel}
theorem BW.b (h : BW s B W) {i : Nat} (hi : i < B.length) : hasS s (gC B i) = true ∧ black (gC B i) = true := (h.hb _).1 (gC_mem hi)
theorem BW.w (h : BW s B W) {i : Nat} (hi : i < W.length) : hasS s (gC W i) = true ∧ black (gC W i) = false := (h.hw _).1 (gC_mem hi)
theorem BW.pw (h : BW s B W) {P : List Dom} (hP : TilS s P) {b : Cel} (hb : b ∈ B) : prt P b ∈ W := by
  obtain ⟨h1, h2⟩ := (h.hb b).1 hb
  obtain ⟨a1, a2, _⟩ := prt_w hP h1 h2
  exact (h.hw _).2 ⟨a1, a2⟩
theorem prt_inj {P : List Dom} (hP : TilS s P) {b b' : Cel} (h1 : hasS s b = true) (h2 : black b = true) (h1' : hasS s b' = true) (h2' : black b' = true) (e : prt P b = prt P b') : b = b' := by
  obtain ⟨d, hd, hs⟩ := prt_spec hP h1
  obtain ⟨d', hd', hs'⟩ := prt_spec hP h1'
  have k1 : cin d (idx (prt P b)) = true := by rcases hs with ⟨_, q⟩ | ⟨_, q, _⟩ <;> rw [q]; exact cin_b d; exact cin_a d
  have k2 : cin d' (idx (prt P b)) = true := by rw [e]; rcases hs' with ⟨_, q⟩ | ⟨_, q, _⟩ <;> rw [q]; exact cin_b d'; exact cin_a d'
  have := til_uniq hP hd hd' k1 k2
  subst this
  have n3 := (dom_nbr (hP.ok d hd)).2.2.1
  rcases hs with ⟨q1, _⟩ | ⟨q1, _⟩ <;> rcases hs' with ⟨r1, _⟩ | ⟨r1, _⟩
  · rw [← q1, ← r1]
  · rw [← q1] at h2; rw [← r1] at h2'; rw [h2, h2'] at n3; cases n3
  · rw [← q1] at h2; rw [← r1] at h2'; rw [h2, h2'] at n3; cases n3
  · rw [← q1, ← r1]
theorem psi_good (h : BW s B W) {P : List Dom} (hP : TilS s P) : psi B W P ∈ (chs B.length B.length).filter (gdB (kM B W) B.length) := by
  refine good_mem.2 ⟨⟨psi_len _ _ _, fun x hx => ?_⟩, fun i hi => ?_, ?_⟩
  · obtain ⟨b, hb, rfl⟩ := List.mem_map.1 hx
    rw [← h.len]; exact (idW_spec (h.pw hP hb)).1
  · rw [psi_at hi]
    unfold kM
    rw [(idW_spec (h.pw hP (gC_mem hi))).2]
    obtain ⟨a1, a2⟩ := h.b hi
    exact sgE_ne (prt_w hP a1 a2).2.2
  · unfold psi
    refine List.pairwise_map.2 (h.nb.imp_of_mem fun {b b'} hb hb' hne e => hne ?_)
    obtain ⟨a1, a2⟩ := (h.hb b).1 hb
    obtain ⟨a1', a2'⟩ := (h.hb b').1 hb'
    refine prt_inj hP a1 a2 a1' a2' ?_
    rw [← (idW_spec (h.pw hP hb)).2, ← (idW_spec (h.pw hP hb')).2, e]
theorem psi_prt (h : BW s B W) {P Q : List Dom} (hP : TilS s P) (hQ : TilS s Q) (e : psi B W P = psi B W Q) {b : Cel} (hb : b ∈ B) : prt P b = prt Q b := by
  obtain ⟨i, hi, rfl⟩ := List.getElem_of_mem hb
  rw [← gC_eq hi] at hb ⊢
  have h1 := psi_at (W := W) (P := P) hi
  have h2 := psi_at (W := W) (P := Q) hi
  rw [e, h2] at h1
  rw [← (idW_spec (h.pw hP hb)).2, ← (idW_spec (h.pw hQ hb)).2, h1]
theorem psi_sub (h : BW s B W) {P Q : List Dom} (hP : TilS s P) (hQ : TilS s Q) (e : psi B W P = psi B W Q) {d : Dom} (hd : d ∈ P) : d ∈ Q := by
  obtain ⟨h1, h2⟩ := til_has hP hd
  have n3 := (dom_nbr (hP.ok d hd)).2.2
  have key : ∀ b w, black b = true → hasS s b = true → ((ca d = b ∧ cb d = w) ∨ (ca d = w ∧ cb d = b)) → d ∈ Q := by
    intro b w hk hb hc
    have e1 := prt_of hP hd hc
    have e2 := psi_prt h hP hQ e ((h.hb b).2 ⟨hb, hk⟩)
    obtain ⟨d', hd', hs⟩ := prt_spec hQ hb
    rw [← e2, e1] at hs
    have lt' := (dom_nbr (hQ.ok d' hd')).2.2.2
    rcases hs with ⟨q1, q2⟩ | ⟨q1, q2, _⟩ <;> rcases hc with ⟨r1, r2⟩ | ⟨r1, r2⟩
    · have : d = d' := dom_of (by rw [r1, q1]) (by rw [r2, q2])
      rw [this]; exact hd'
    · rw [r1, r2] at n3; rw [q1, ← q2] at lt'; have := n3.2; omega
    · rw [r1, r2] at n3; rw [q1, ← q2] at lt'; have := n3.2; omega
    · have : d = d' := dom_of (by rw [r1, q2]) (by rw [r2, q1])
      rw [this]; exact hd'
  cases hk : black (ca d)
  · have hk2 : black (cb d) = true := by
      have := n3.1; rw [hk] at this
      cases e : black (cb d)
      · rw [e] at this; cases this
      · rfl
    exact key (cb d) (ca d) hk2 h2 (.inr ⟨rfl, rfl⟩)
  · exact key (ca d) (cb d) hk h1 (.inl ⟨rfl, rfl⟩)
theorem psi_inj (h : BW s B W) {P Q : List Dom} (hP : TilS s P) (hQ : TilS s Q) (e : psi B W P = psi B W Q) : P = Q :=
  SS_ext _ _ (til_SS hP) (til_SS hQ) fun _ => ⟨psi_sub h hP hQ e, psi_sub h hQ hP e.symm⟩
theorem dOv_two {b w : Cel} (h : nbr b w = true) : ((ca (dOv b w) = b ∧ cb (dOv b w) = w) ∨ (ca (dOv b w) = w ∧ cb (dOv b w) = b)) ∧ okD (dOv b w) = true := by
  have hq := h
  unfold nbr at h
  simp only [Bool.and_eq_true, decide_eq_true_eq] at h
  obtain ⟨⟨h1, h2⟩, h3⟩ := h
  have q1 := okc_true.1 h1
  have q2 := okc_true.1 h2
  have key : ((ca (dOv b w) = b ∧ cb (dOv b w) = w) ∨ (ca (dOv b w) = w ∧ cb (dOv b w) = b)) := by
    unfold dOv
    rw [if_pos hq]
    obtain ⟨bx, b_y⟩ := b
    obtain ⟨wx, wy⟩ := w
    dsimp only at q1 q2 h3
    have e : (bx = wx ∧ (wy = b_y + 1 ∨ b_y = wy + 1)) ∨ (b_y = wy ∧ (wx = bx + 1 ∨ bx = wx + 1)) := by
      unfold iabs at h3; split at h3 <;> split at h3 <;> omega
    unfold ca cb
    rcases e with ⟨rfl, rfl | rfl⟩ | ⟨rfl, rfl | rfl⟩
    · left; simp only [decide_true, if_true, Cel.mk.injEq]; omega
    · right; simp only [decide_true, if_true, Cel.mk.injEq]; omega
    · left
      have : ¬ bx = bx + 1 := by omega
      simp only [this, decide_false, Bool.false_eq_true, if_false, Cel.mk.injEq]; omega
    · right
      have : ¬ wx + 1 = wx := by omega
      simp only [this, decide_false, Bool.false_eq_true, if_false, Cel.mk.injEq]; omega
  refine ⟨key, ?_⟩
  have := okD_iff (dOv b w)
  show okd (dOv b w).x (dOv b w).y (dOv b w).d = true
  rcases key with ⟨e1, e2⟩ | ⟨e1, e2⟩
  · rw [e1, e2, h1, h2] at this; exact this
  · rw [e1, e2, h1, h2] at this; exact this
theorem countP_le1 {α : Type} {p : α → Bool} : ∀ {L : List α}, L.Nodup → (∀ a ∈ L, ∀ b ∈ L, p a = true → p b = true → a = b) → L.countP p ≤ 1 := by
  intro L
  induction L with
  | nil => intro _ _; simp
  | cons a L ih =>
    intro hn h
    obtain ⟨n1, n2⟩ := List.nodup_cons.1 hn
    rw [List.countP_cons]
    by_cases hp : p a = true
    · rw [if_pos hp]
      have : L.countP p = 0 := by
        rw [List.countP_eq_zero]
        intro b hb hpb
        exact n1 (h a (by simp) b (by simp [hb]) hp hpb ▸ hb)
      omega
    · rw [if_neg hp]
      have := ih n2 (fun x hx y hy => h x (by simp [hx]) y (by simp [hy])); omega
theorem psi_surj (h : BW s B W) (hlt : s < 18446744073709551616) {t : List Nat} (ht : t ∈ (chs B.length B.length).filter (gdB (kM B W) B.length)) : ∃ P, TilS s P ∧ psi B W P = t := by
  obtain ⟨⟨h1, h2⟩, h3, h4⟩ := good_mem.1 ht
  have hj : ∀ i, i < B.length → gN t i < W.length := fun i hi => by rw [h.len, gN_eq' (by omega)]; exact h2 _ (List.getElem_mem _)
  have hnb : ∀ i, i < B.length → nbr (gC B i) (gC W (gN t i)) = true := fun i hi => sgE_nbr (h3 i hi)
  have tinj : ∀ i k, i < B.length → k < B.length → gN t i = gN t k → i = k := fun i k hi hk e => by
    rw [gN_eq' (by omega), gN_eq' (by omega)] at e
    exact (List.getElem_inj h4).1 e
  have tsur : ∀ j, j < B.length → ∃ i, i < B.length ∧ gN t i = j := fun j hj => by
    have : j ∈ t := by
      refine Classical.byContradiction fun hn => ?_
      have := nodup_len B.length (j :: t) (List.nodup_cons.2 ⟨hn, h4⟩) (fun x hx => by
        rcases List.mem_cons.1 hx with rfl | hx
        · exact hj
        · exact h2 x hx)
      rw [List.length_cons] at this; omega
    obtain ⟨i, hi, rfl⟩ := List.getElem_of_mem this
    exact ⟨i, by omega, gN_eq' hi⟩
  let D := (List.range B.length).map (fun i => dOv (gC B i) (gC W (gN t i)))
  have hD : ∀ d, d ∈ D ↔ ∃ i, i < B.length ∧ d = dOv (gC B i) (gC W (gN t i)) := fun d => by
    show d ∈ List.map _ _ ↔ _
    rw [List.mem_map]
    constructor
    · rintro ⟨i, hi, rfl⟩; exact ⟨i, List.mem_range.1 hi, rfl⟩
    · rintro ⟨i, hi, rfl⟩; exact ⟨i, List.mem_range.2 hi, rfl⟩
  have hok : ∀ d ∈ D, okD d = true := fun d hd => by
    obtain ⟨i, hi, rfl⟩ := (hD d).1 hd
    exact (dOv_two (hnb i hi)).2
  have cov : ∀ i, i < B.length → ∀ m, cin (dOv (gC B i) (gC W (gN t i))) m = true → m = idx (gC B i) ∨ m = idx (gC W (gN t i)) := fun i hi m hm => by
    unfold cin at hm
    rw [Bool.or_eq_true, decide_eq_true_eq, decide_eq_true_eq] at hm
    rcases (dOv_two (hnb i hi)).1 with ⟨e1, e2⟩ | ⟨e1, e2⟩ <;> rw [e1, e2] at hm <;> omega
  have covb : ∀ i, i < B.length → cin (dOv (gC B i) (gC W (gN t i))) (idx (gC B i)) = true ∧ cin (dOv (gC B i) (gC W (gN t i))) (idx (gC W (gN t i))) = true := fun i hi => by
    have a := cin_a (dOv (gC B i) (gC W (gN t i)))
    have b := cin_b (dOv (gC B i) (gC W (gN t i)))
    rcases (dOv_two (hnb i hi)).1 with ⟨e1, e2⟩ | ⟨e1, e2⟩ <;> rw [e1] at a <;> rw [e2] at b
    · exact ⟨a, b⟩
    · exact ⟨b, a⟩
  have uniq : ∀ i k, i < B.length → k < B.length → ∀ m, cin (dOv (gC B i) (gC W (gN t i))) m = true → cin (dOv (gC B k) (gC W (gN t k))) m = true → i = k := by
    intro i k hi hk m hm1 hm2
    have bi := h.b hi
    have bk := h.b hk
    have wi := h.w (hj i hi)
    have wk := h.w (hj k hk)
    rcases cov i hi m hm1 with e1 | e1 <;> rcases cov k hk m hm2 with e2 | e2
    · have := idx_inj (hasS_ok bi.1) (hasS_ok bk.1) (e1.symm.trans e2)
      rw [gC_eq hi, gC_eq hk] at this
      exact (List.getElem_inj h.nb).1 this
    · have := idx_inj (hasS_ok bi.1) (hasS_ok wk.1) (e1.symm.trans e2)
      rw [this, wk.2] at bi; cases bi.2
    · have := idx_inj (hasS_ok wi.1) (hasS_ok bk.1) (e1.symm.trans e2)
      rw [this, bk.2] at wi; cases wi.2
    · have := idx_inj (hasS_ok wi.1) (hasS_ok wk.1) (e1.symm.trans e2)
      rw [gC_eq (hj i hi), gC_eq (hj k hk)] at this
      exact tinj i k hi hk ((List.getElem_inj h.nw).1 this)
  have hnd : D.Nodup := by
    refine List.Pairwise.map _ (fun i k (hq : i ≠ k ∧ i < B.length ∧ k < B.length) e => hq.1 ?_) ((List.nodup_range (n := B.length)).imp_of_mem fun {i k} hi hk hne => ⟨hne, List.mem_range.1 hi, List.mem_range.1 hk⟩)
    exact uniq i k hq.2.1 hq.2.2 _ (covb i hq.2.1).1 (e ▸ (covb i hq.2.1).1)
  have hperm := sortD_perm hok hnd
  have hT : TilS s (sortD D) := by
    refine ⟨fun d hd => hok d (hperm.mem_iff.1 hd), fun m => ?_, sortD_SO _⟩
    rw [cvN_perm hperm]
    have hle : cvN D m ≤ 1 := countP_le1 hnd fun a ha b hb hpa hpb => by
      obtain ⟨i, hi, rfl⟩ := (hD a).1 ha
      obtain ⟨k, hk, rfl⟩ := (hD b).1 hb
      rw [uniq i k hi hk m hpa hpb]
    by_cases hb : s.testBit m = true
    · rw [if_pos hb]
      have hm : m < 64 := by
        refine Classical.byContradiction fun hn => ?_
        rw [Nat.testBit_lt_two_pow (Nat.lt_of_lt_of_le hlt (by rw [show (18446744073709551616 : Nat) = 2 ^ 64 by decide]; exact Nat.pow_le_pow_right (by decide) (by omega)))] at hb
        cases hb
      have hc : hasS s (cN m) = true := by
        unfold hasS
        rw [show okc (cN m).x (cN m).y = true from cN_ok hm, idx_cN hm, hb]; rfl
      have : 0 < cvN D m := by
        cases hk : black (cN m)
        · have hw := (h.hw _).2 ⟨hc, hk⟩
          obtain ⟨j, hj', e⟩ := List.getElem_of_mem hw
          rw [← gC_eq hj'] at e
          obtain ⟨i, hi, hij⟩ := tsur j (by rw [← h.len]; exact hj')
          refine cvN_pos ((hD _).2 ⟨i, hi, rfl⟩) ?_
          have := (covb i hi).2
          rw [hij, e, idx_cN hm] at this
          rw [hij, e]; exact this
        · have hw := (h.hb _).2 ⟨hc, hk⟩
          obtain ⟨i, hi, e⟩ := List.getElem_of_mem hw
          rw [← gC_eq hi] at e
          refine cvN_pos ((hD _).2 ⟨i, hi, rfl⟩) ?_
          have := (covb i hi).1
          rw [e, idx_cN hm] at this
          rw [e]; exact this
      omega
    · rw [if_neg hb]
      refine Nat.eq_zero_of_not_pos fun hp => ?_
      obtain ⟨d, hd, hc⟩ := cvN_ex hp
      obtain ⟨i, hi, rfl⟩ := (hD d).1 hd
      have key : ∀ c, hasS s c = true → m = idx c → False := fun c hc e => by
        unfold hasS at hc; rw [Bool.and_eq_true, ← e] at hc; exact hb hc.2
      rcases cov i hi m hc with e | e
      · exact key _ (h.b hi).1 e
      · exact key _ (h.w (hj i hi)).1 e
  refine ⟨sortD D, hT, List.ext_getElem (by rw [psi_len, h1]) fun i hi1 hi2 => ?_⟩
  have hi : i < B.length := by rwa [psi_len] at hi1
  rw [← gN_eq' hi1, ← gN_eq' hi2, psi_at hi, prt_of hT (hperm.mem_iff.2 ((hD _).2 ⟨i, hi, rfl⟩)) (dOv_two (hnb i hi)).1, idW_at h.nw (hj i hi)]
/-- as many choices as tilings -/
theorem psi_perm (h : BW s B W) (hlt : s < 18446744073709551616) (hpc : popc s < 66) : ((tls 33 s).map (psi B W)).Perm ((chs B.length B.length).filter (gdB (kM B W) B.length)) := by
  have hm : ∀ P, P ∈ tls 33 s ↔ TilS s P := fun P => (tls_mem 33 s P hlt (by omega)).trans (til_iff hlt)
  refine (List.perm_ext_iff_of_nodup ?_ ((chs_nodup _ _).filter _)).2 fun t => ?_
  · exact List.pairwise_map.2 ((tls_nodup 33 s).imp_of_mem fun {P Q} hP hQ hne e => hne (psi_inj h ((hm P).1 hP) ((hm Q).1 hQ) e))
  · rw [List.mem_map]
    constructor
    · rintro ⟨P, hP, rfl⟩; exact psi_good h ((hm P).1 hP)
    · intro ht
      obtain ⟨P, hP, e⟩ := psi_surj h hlt ht
      exact ⟨P, (hm P).2 hP, e⟩
theorem kas_perm (h : BW s B W) (hlt : s < 18446744073709551616) (hpc : popc s < 66) : permF (fun i k => decide (kM B W i k ≠ 0)) B.length B.length 0 0 = cnt s := by
  rw [perm_good, ← (psi_perm h hlt hpc).length_eq, List.length_map, tls_len 33 s hlt (by omega)]
theorem kas_sum (h : BW s B W) (hlt : s < 18446744073709551616) (hpc : popc s < 66) : dtn B.length (kM B W) = lsm (fun P => dtn B.length (rstM (kM B W) (psi B W P))) (tls 33 s) := by
  rw [dtn_good, ← lsm_perm _ (psi_perm h hlt hpc), lsm_map]
theorem kas_le (h : BW s B W) (hlt : s < 18446744073709551616) (hpc : popc s < 66) : iab (dtn B.length (kM B W)) ≤ (cnt s : Int) := by
  have hm : ∀ P, P ∈ tls 33 s ↔ TilS s P := fun P => (tls_mem 33 s P hlt (by omega)).trans (til_iff hlt)
  rw [kas_sum h hlt hpc, ← tls_len 33 s hlt (by omega)]
  refine lsm_abs fun P hP => ?_
  rw [good_one (fun i b _ _ hne => kM_one B W i b hne) (psi_good h ((hm P).1 hP))]; decide
/-- two tilings that differ in a block -/
theorem blk_sign (h : BW s B W) {P Q : List Dom} (hP : TilS s P) (hQ : TilS s Q) {b1 b2 w1 w2 : Cel} (hb1 : b1 ∈ B) (hb2 : b2 ∈ B) (hne : b1 ≠ b2)
    (p1 : prt P b1 = w1) (p2 : prt P b2 = w2) (q1 : prt Q b1 = w2) (q2 : prt Q b2 = w1) (ho : ∀ b ∈ B, b ≠ b1 → b ≠ b2 → prt P b = prt Q b) (hs : sgE b1 w1 * sgE b2 w2 * (sgE b1 w2 * sgE b2 w1) = -1) :
    dtn B.length (rstM (kM B W) (psi B W Q)) = dtn B.length (rstM (kM B W) (psi B W P)) := by
  obtain ⟨i, hi, e1⟩ := List.getElem_of_mem hb1
  obtain ⟨k, hk, e2⟩ := List.getElem_of_mem hb2
  rw [← gC_eq hi] at e1
  rw [← gC_eq hk] at e2
  have hik : i ≠ k := fun e => hne (by rw [← e1, ← e2, e])
  have w1W : w1 ∈ W := p1 ▸ h.pw hP hb1
  have w2W : w2 ∈ W := p2 ▸ h.pw hP hb2
  have one : ∀ {b w : Cel}, sgE b w = 1 ∨ sgE b w = -1 ∨ sgE b w = 0 := fun {b w} => by unfold sgE; split; split <;> simp; simp
  have o1 := one (b := b1) (w := w1)
  have o2 := one (b := b2) (w := w2)
  have o3 := one (b := b1) (w := w2)
  have o4 := one (b := b2) (w := w1)
  have row : ∀ (R : List Dom) (a b : Nat), a < B.length → rstM (kM B W) (psi B W R) a b = if b = idW W (prt R (gC B a)) then sgE (gC B a) (gC W b) else 0 := by
    intro R a b ha
    unfold rstM
    rw [if_pos (by rw [psi_len]; exact ha), psi_at ha]; rfl
  refine dtn_turn (i := i) (k := k) hik hi hk (c := sgE b1 w2 * sgE b2 w2) (d := sgE b2 w1 * sgE b1 w1) ?_ (fun a b ha hb n1 n2 => ?_) (fun b hb => ?_) (fun b hb => ?_)
  · rw [← hs]; grind
  · rw [row _ _ _ ha, row _ _ _ ha]
    have g1 : gC B a ≠ b1 := fun e => n1 (by rw [← e1, gC_eq ha, gC_eq hi] at e; exact (List.getElem_inj h.nb).1 e)
    have g2 : gC B a ≠ b2 := fun e => n2 (by rw [← e2, gC_eq ha, gC_eq hk] at e; exact (List.getElem_inj h.nb).1 e)
    rw [ho _ (gC_mem ha) g1 g2]
  · rw [row _ _ _ hi, row _ _ _ hk, e1, e2, q1, p2]
    split
    · rename_i e
      rw [e, (idW_spec w2W).2]
      rcases o2 with o | o | o
      · rw [o]; omega
      · rw [o]; omega
      · rw [o] at hs; simp at hs
    · simp
  · rw [row _ _ _ hi, row _ _ _ hk, e1, e2, q2, p1]
    split
    · rename_i e
      rw [e, (idW_spec w1W).2]
      rcases o1 with o | o | o
      · rw [o]; omega
      · rw [o]; omega
      · rw [o] at hs; simp at hs
    · simp
/-- two on their backs, or two upright -/
theorem hv_sign (h : BW s B W) {P Q : List Dom} (hP : TilS s P) (hQ : TilS s Q) {x y : Int} (p0 : (⟨x, y, false⟩ : Dom) ∈ P) (p1 : (⟨x, y + 1, false⟩ : Dom) ∈ P) (q0 : (⟨x, y, true⟩ : Dom) ∈ Q) (q1 : (⟨x + 1, y, true⟩ : Dom) ∈ Q)
    (ho : ∀ d : Dom, d ∈ P → d = ⟨x, y, false⟩ ∨ d = ⟨x, y + 1, false⟩ ∨ d ∈ Q) : dtn B.length (rstM (kM B W) (psi B W Q)) = dtn B.length (rstM (kM B W) (psi B W P)) := by
  have c0 := til_has hP p0
  have c1 := til_has hP p1
  have d0 := dom_nbr (hP.ok _ p0)
  have d1 := dom_nbr (hP.ok _ p1)
  have f0 := dom_nbr (hQ.ok _ q0)
  have f1 := dom_nbr (hQ.ok _ q1)
  have k0 : ca (⟨x, y, false⟩ : Dom) = ⟨x, y⟩ ∧ cb (⟨x, y, false⟩ : Dom) = ⟨x + 1, y⟩ := ⟨rfl, rfl⟩
  have k1 : ca (⟨x, y + 1, false⟩ : Dom) = ⟨x, y + 1⟩ ∧ cb (⟨x, y + 1, false⟩ : Dom) = ⟨x + 1, y + 1⟩ := ⟨rfl, rfl⟩
  have l0 : ca (⟨x, y, true⟩ : Dom) = ⟨x, y⟩ ∧ cb (⟨x, y, true⟩ : Dom) = ⟨x, y + 1⟩ := ⟨rfl, rfl⟩
  have l1 : ca (⟨x + 1, y, true⟩ : Dom) = ⟨x + 1, y⟩ ∧ cb (⟨x + 1, y, true⟩ : Dom) = ⟨x + 1, y + 1⟩ := ⟨rfl, rfl⟩
  rw [k0.1, k0.2] at c0 d0
  rw [k1.1, k1.2] at c1 d1
  rw [l0.1, l0.2] at f0
  rw [l1.1, l1.2] at f1
  have hoth : ∀ b ∈ B, b ≠ ⟨x, y⟩ → b ≠ ⟨x + 1, y⟩ → b ≠ ⟨x, y + 1⟩ → b ≠ ⟨x + 1, y + 1⟩ → prt P b = prt Q b := by
    intro b hb n1 n2 n3 n4
    obtain ⟨d, hd, hs⟩ := prt_spec hP ((h.hb b).1 hb).1
    have hc : (ca d = b ∧ cb d = prt P b) ∨ (ca d = prt P b ∧ cb d = b) := by
      rcases hs with ⟨a1, a2⟩ | ⟨a1, a2, _⟩
      · exact .inl ⟨a1, a2.symm⟩
      · exact .inr ⟨a2.symm, a1⟩
    have hq : d ∈ Q := by
      rcases ho d hd with rfl | rfl | hq
      · rw [k0.1, k0.2] at hc
        rcases hc with ⟨e, _⟩ | ⟨_, e⟩
        · exact absurd e.symm n1
        · exact absurd e.symm n2
      · rw [k1.1, k1.2] at hc
        rcases hc with ⟨e, _⟩ | ⟨_, e⟩
        · exact absurd e.symm n3
        · exact absurd e.symm n4
      · exact hq
    exact (prt_of hQ hq hc).symm
  have pr1 := prt_of hP p0 (.inl k0)
  have pr2 := prt_of hP p0 (.inr k0)
  have pr3 := prt_of hP p1 (.inl k1)
  have pr4 := prt_of hP p1 (.inr k1)
  have qr1 := prt_of hQ q0 (.inl l0)
  have qr2 := prt_of hQ q0 (.inr l0)
  have qr3 := prt_of hQ q1 (.inl l1)
  have qr4 := prt_of hQ q1 (.inr l1)
  have sg1 : ∀ b w : Cel, nbr b w = true → b.y = w.y → sgE b w = 1 := fun b w h1 h2 => sgE_p h1 (.inl h2)
  have hx : x % 2 = 0 ∨ x % 2 = 1 := by omega
  cases hk : black (⟨x, y⟩ : Cel)
  · have b10 : black (⟨x + 1, y⟩ : Cel) = true := by
      have := d0.2.2.1; rw [hk] at this
      cases e : black (⟨x + 1, y⟩ : Cel)
      · rw [e] at this; cases this
      · rfl
    have b01 : black (⟨x, y + 1⟩ : Cel) = true := by
      have := f0.2.2.1; rw [hk] at this
      cases e : black (⟨x, y + 1⟩ : Cel)
      · rw [e] at this; cases this
      · rfl
    have m1 := (h.hb _).2 ⟨c0.2, b10⟩
    have m2 := (h.hb _).2 ⟨c1.1, b01⟩
    refine blk_sign h hP hQ m1 m2 (fun e => by simp at e; omega) pr2 pr3 qr3 qr2 (fun b hb n1 n2 => ?_) ?_
    · have hbb := ((h.hb b).1 hb).2
      refine hoth b hb (fun e => by rw [e, hk] at hbb; cases hbb) n1 n2 (fun e => ?_)
      rw [e] at hbb
      have := f1.2.2.1; rw [b10, hbb] at this; cases this
    · rw [sg1 _ _ d0.2.1 rfl, sg1 _ _ d1.1 rfl]
      rcases hx with hx | hx
      · rw [sgE_m (a := ⟨x + 1, y⟩) f1.1 (by dsimp only; omega), sgE_p (a := ⟨x, y + 1⟩) f0.2.1 (by dsimp only; omega)]; rfl
      · rw [sgE_p (a := ⟨x + 1, y⟩) f1.1 (by dsimp only; omega), sgE_m (a := ⟨x, y + 1⟩) f0.2.1 (by dsimp only; omega)]; rfl
  · have b10 : black (⟨x + 1, y⟩ : Cel) = false := by
      have := d0.2.2.1; rw [hk] at this
      cases e : black (⟨x + 1, y⟩ : Cel)
      · rfl
      · rw [e] at this; cases this
    have b01 : black (⟨x, y + 1⟩ : Cel) = false := by
      have := f0.2.2.1; rw [hk] at this
      cases e : black (⟨x, y + 1⟩ : Cel)
      · rfl
      · rw [e] at this; cases this
    have b11 : black (⟨x + 1, y + 1⟩ : Cel) = true := by
      have := d1.2.2.1; rw [b01] at this
      cases e : black (⟨x + 1, y + 1⟩ : Cel)
      · rw [e] at this; cases this
      · rfl
    have m1 := (h.hb _).2 ⟨c0.1, hk⟩
    have m2 := (h.hb _).2 ⟨c1.2, b11⟩
    refine blk_sign h hP hQ m1 m2 (fun e => by simp at e; omega) pr1 pr4 qr1 qr4 (fun b hb n1 n2 => ?_) ?_
    · have hbb := ((h.hb b).1 hb).2
      exact hoth b hb n1 (fun e => by rw [e, b10] at hbb; cases hbb) (fun e => by rw [e, b01] at hbb; cases hbb) n2
    · rw [sg1 _ _ d0.1 rfl, sg1 _ _ d1.2.1 rfl]
      rcases hx with hx | hx
      · rw [sgE_p (a := ⟨x, y⟩) f0.1 (by dsimp only; omega), sgE_m (a := ⟨x + 1, y + 1⟩) f1.2.1 (by dsimp only; omega)]; rfl
      · rw [sgE_m (a := ⟨x, y⟩) f0.1 (by dsimp only; omega), sgE_p (a := ⟨x + 1, y + 1⟩) f1.2.1 (by dsimp only; omega)]; rfl
/-- a flip keeps the sign -/
theorem flip_sign (h : BW s B W) {P : List Dom} (hP : TilS s P) {c : Cel} (hc : canB P c.x c.y = true) : dtn B.length (rstM (kM B W) (psi B W (flipAt P c))) = dtn B.length (rstM (kM B W) (psi B W P)) := by
  have hQ := flipAt_til hP hc
  obtain ⟨g0, g1⟩ := can_gone hc
  have hm := flip_mem hP hc
  have n0 := (hm (pr0 c (acB P c.x c.y))).2 (.inl rfl)
  have n1 := (hm (pr1 c (acB P c.x c.y))).2 (.inr (.inl rfl))
  cases e : acB P c.x c.y
  · rw [e] at g0 g1 n0 n1 hm
    refine (hv_sign h hQ hP (x := c.x) (y := c.y) n0 n1 g0 g1 (fun d hd => ?_)).symm
    rcases (hm d).1 hd with q | q | q
    · exact .inl q
    · exact .inr (.inl q)
    · exact .inr (.inr q.1)
  · rw [e] at g0 g1 n0 n1 hm
    refine hv_sign h hP hQ (x := c.x) (y := c.y) g0 g1 n0 n1 (fun d hd => ?_)
    by_cases e1 : d = ⟨c.x, c.y, false⟩
    · exact .inl e1
    · by_cases e2 : d = ⟨c.x, c.y + 1, false⟩
      · exact .inr (.inl e2)
      · exact .inr (.inr ((hm d).2 (.inr (.inr ⟨hd, e1, e2⟩))))
theorem way_sign (h : BW s B W) {n : Nat} {P Q : List Dom} (hw : FW n P Q) : TilS s P → dtn B.length (rstM (kM B W) (psi B W Q)) = dtn B.length (rstM (kM B W) (psi B W P)) := by
  induction hw with
  | nil P => intro _; rfl
  | step n P Q c hc _ ih => intro hP; rw [ih (flipAt_til hP hc), flip_sign h hP hc]
end
/-- without holes the determinant counts -/
theorem kas_eq {l : List Int} {B W : List Cel} (h : BW (regSet l) B W) (ho : regOk l = true) (hh : holesN (regSet l) = 1) : iab (dtn B.length (kM B W)) = (cnt (regSet l) : Int) := by
  have hlt := regSet_lt ho
  have hpc : popc (regSet l) < 66 := by have := popc_le (regSet l); omega
  have hm : ∀ P, P ∈ tls 33 (regSet l) ↔ TilS (regSet l) P := fun P => (tls_mem 33 _ P hlt (by omega)).trans (til_iff hlt)
  rw [kas_sum h hlt hpc, ← tls_len 33 _ hlt (by omega)]
  cases e : tls 33 (regSet l) with
  | nil => rfl
  | cons P L =>
    have hP : TilS (regSet l) P := (hm P).1 (by rw [e]; simp)
    rw [← e, lsm_congr (G := fun _ => dtn B.length (rstM (kM B W) (psi B W P))) (fun Q hQ => by
      obtain ⟨k, _, hw⟩ := way_ex ho hh _ P Q (Nat.le_refl _) hP ((hm Q).1 hQ)
      exact way_sign h hw hP), lsm_const, iab_mul, good_one (fun i b _ _ hne => kM_one B W i b hne) (psi_good h hP)]
    unfold iab; omega

/-! what the law of signs asks -/
theorem filt_parts {α : Type} (p : α → Bool) (L : List α) : (L.filter p).length + (L.filter (fun a => !(p a))).length = L.length := by
  induction L with
  | nil => rfl
  | cons a L ih =>
    rw [List.filter_cons, List.filter_cons]
    cases e : p a <;> simp <;> omega
theorem bw_of {l : List Int} (hb : balB l = true) : BW (regSet l) (blk l) (whi l) := by
  unfold balB at hb
  rw [Bool.and_eq_true, decide_eq_true_eq] at hb
  obtain ⟨ho, hx⟩ := hb
  have hc : cellsOf l = setCells (regSet l) := by unfold cellsOf; rw [if_pos ho]
  have hn := setCells_nodup (regSet l)
  refine ⟨?_, ?_, fun c => ?_, fun c => ?_, ?_⟩
  · unfold blk; rw [hc]; exact hn.filter _
  · unfold whi; rw [hc]; exact hn.filter _
  · unfold blk; rw [hc, List.mem_filter, set_mem]
  · unfold whi whiB; rw [hc, List.mem_filter, set_mem, Bool.not_eq_true']
  · have := filt_parts black (cellsOf l)
    unfold bexc at hx
    unfold blk whi
    have e : (cellsOf l).filter whiB = (cellsOf l).filter (fun a => !(black a)) := rfl
    rw [e]; omega
theorem signM_gM {l : List Int} {i j : Nat} (hi : i < (blk l).length) (hj : j < (whi l).length) : gM (signM l) i j = kM (blk l) (whi l) i j := by
  unfold gM kM
  have e : gLs (signM l) i = rowS l (gC (blk l) i) := by
    rw [gLs_eq (by unfold signM; rw [List.length_map]; exact hi), gC_eq hi]; simp [signM]
  rw [e, gI_eq (by unfold rowS; rw [List.length_map]; exact hj), gC_eq hj]
  simp [rowS]
/-- sums of a row -/
theorem row_sum {n : Nat} {r : List Int} (h : rowOkB n r = true) : dsm (fun b => iab (gI r b)) n ≤ 4 := by
  unfold rowOkB at h
  rw [Bool.and_eq_true, Bool.and_eq_true, decide_eq_true_eq, decide_eq_true_eq] at h
  obtain ⟨h1, h2, h3⟩ := h
  unfold allIn at h2
  rw [List.all_eq_true] at h2
  have key : ∀ k, k ≤ r.length → dsm (fun b => iab (gI r b)) k = (nzN r k : Int) := by
    intro k
    induction k with
    | zero => intro _; rw [nzN_zero]; rfl
    | succ k ih =>
      intro hk
      rw [dsm, ih (by omega)]
      have hb := inB_true.1 (h2 (gI r k) (by rw [gI_eq (by omega)]; exact List.getElem_mem _))
      by_cases e : gI r k = 0
      · rw [nzN_no (by omega) e, e]; show _ + (0 : Int) = _; omega
      · rw [nzN_yes (by omega) e]
        have : iab (gI r k) = 1 := by unfold iab; omega
        rw [this]; omega
  rw [← h1, key _ (Nat.le_refl _)]; omega
/-- the determinant as the program reckons it -/
theorem detR_dtn {m : List (List Int)} (h : sqB m = true) : detR m = dtn m.length (gM m) := by
  rw [detR_yes h]
  have h16 := sq_16 h
  have hr : RowS 4 m.length (gM m) := fun a ha => by
    unfold sqB at h
    rw [Bool.and_eq_true, List.all_eq_true] at h
    exact row_sum (h.1 (gLs m a) (by rw [gLs_eq ha]; exact List.getElem_mem ha))
  unfold detV
  rw [det_all h16 m.length 0 1 1 (gM m) (gM m) (by omega) (Syl.zero _) hr (.inl rfl)]; omega
def dirC (b w : Cel) : Nat := if w.x = b.x + 1 then 0 else if w.x + 1 = b.x then 1 else if w.y = b.y + 1 then 2 else 3
theorem nbr_four {b : Cel} {L : List Cel} (hn : L.Nodup) (h : ∀ w ∈ L, nbr b w = true) : L.length ≤ 4 := by
  have hnd : (L.map (dirC b)).Nodup := by
    refine List.pairwise_map.2 (hn.imp_of_mem fun {u v} hu hv hne e => hne ?_)
    have h1 := h u hu
    have h2 := h v hv
    unfold nbr at h1 h2
    simp only [Bool.and_eq_true, decide_eq_true_eq] at h1 h2
    have q1 := h1.2
    have q2 := h2.2
    obtain ⟨ux, uy⟩ := u
    obtain ⟨vx', vy⟩ := v
    unfold dirC at e
    unfold iabs at q1 q2
    dsimp only at e q1 q2
    simp only [Cel.mk.injEq]
    split at q1 <;> split at q1 <;> split at q2 <;> split at q2 <;> (repeat' split at e) <;> omega
  have := nodup_len 4 (L.map (dirC b)) hnd (fun x hx => by
    obtain ⟨w, _, rfl⟩ := List.mem_map.1 hx
    unfold dirC; split; omega; split; omega; split <;> omega)
  rwa [List.length_map] at this
theorem nzN_filter (r : List Int) : nzN r r.length = (r.filter (fun x => decide (x ≠ 0))).length := by unfold nzN; rw [List.take_length]
theorem signM_sq {l : List Int} (h : signOk l = true) : sqB (signM l) = true := by
  have hb : balB l = true := by unfold signOk at h; rw [Bool.and_eq_true] at h; exact h.1
  have hc : inB ((cellsOf l).length : Int) 1 32 = true := by unfold signOk at h; rw [Bool.and_eq_true] at h; exact h.2
  have B := bw_of hb
  have hlen : (signM l).length = (blk l).length := by unfold signM; rw [List.length_map]
  have h32 := inB_true.1 hc
  have hparts := filt_parts black (cellsOf l)
  unfold sqB
  rw [Bool.and_eq_true, List.all_eq_true, decide_eq_true_eq]
  constructor
  · intro r hr
    obtain ⟨b, hb', rfl⟩ := List.mem_map.1 hr
    unfold rowOkB
    rw [Bool.and_eq_true, Bool.and_eq_true, decide_eq_true_eq, decide_eq_true_eq]
    refine ⟨by unfold rowS; rw [List.length_map, B.len, hlen], ?_, ?_⟩
    · unfold allIn; rw [List.all_eq_true]
      intro x hx
      obtain ⟨w, _, rfl⟩ := List.mem_map.1 hx
      exact inB_true.2 (sgE_bd b w)
    · rw [nzN_filter]
      unfold rowS
      rw [List.filter_map, List.length_map]
      exact nbr_four (b := b) (B.nw.filter _) fun w hw => sgE_nbr (of_decide_eq_true (List.mem_filter.1 hw).2)
  · have e : (cellsOf l).filter (fun a => !(black a)) = whi l := rfl
    have := B.len
    rw [e] at hparts
    unfold blk at *
    rw [hlen]
    omega
theorem szM_iab {a : Int} (h : iab a ≤ 9223372036854775807) : szM a = iab a := by
  unfold szM nW
  unfold iab at *
  rw [w64 (by omega) (by omega)]; omega
theorem sign_blk {l : List Int} (h : signOk l = true) : (smR l).length = (blk l).length := by rw [smR_yes h]; unfold signM; rw [List.length_map]
theorem sign_dtn {l : List Int} (h : signOk l = true) : detR (smR l) = dtn (blk l).length (kM (blk l) (whi l)) := by
  have hb : balB l = true := by unfold signOk at h; rw [Bool.and_eq_true] at h; exact h.1
  rw [smR_yes h, detR_dtn (signM_sq h)]
  have hlen : (signM l).length = (blk l).length := by unfold signM; rw [List.length_map]
  rw [hlen]
  exact dtn_congr fun a b ha hb' => signM_gM ha (by rw [(bw_of hb).len]; exact hb')
theorem sign_len {l : List Int} : 0 < (smR l).length ↔ signOk l = true := by
  constructor
  · intro h
    cases e : signOk l
    · rw [smR_nl e] at h; omega
    · rfl
  · intro h
    unfold signOk at h
    rw [Bool.and_eq_true] at h
    exact smR_pos h.1 h.2
theorem cnt_small {s : Nat} (hs : s < 18446744073709551616) : cnt s ≤ 68719476736 := cnt_bd hs
theorem permF_congr {a a' : Nat → Nat → Bool} {n : Nat} (h : ∀ i k, i < n → k < n → a i k = a' i k) : ∀ f row t, row + f ≤ n → permF a n f row t = permF a' n f row t := by
  intro f
  induction f with
  | zero => intro row t _; rfl
  | succ f ih =>
    intro row t hr
    unfold permF
    refine sumK_congr fun k hk => ?_
    rw [h row k (by omega) hk, ih (row + 1) (nxM t k) (by omega)]
structure SG (l : List Int) : Prop where
  pos : 0 < (smR l).length → 0 ≤ cbs l
  neg : (smR l).length = 0 → cbs l = -1
  eq : 0 < (smR l).length → holesN (regSet l) = 1 → cbs l = (cntR l : Int)
  ex : 0 < (smR l).length → 0 ≤ cbe l → cbe l = (cntR l : Int) ∧ cbs l ≤ cbe l
theorem SG.of (l : List Int) : SG l := by
  have key : 0 < (smR l).length → regOk l = true ∧ BW (regSet l) (blk l) (whi l) ∧ cbs l = iab (dtn (blk l).length (kM (blk l) (whi l))) ∧ iab (dtn (blk l).length (kM (blk l) (whi l))) ≤ (cnt (regSet l) : Int) ∧ cntR l = cnt (regSet l) := by
    intro h
    have hs := sign_len.1 h
    have hb : balB l = true := by unfold signOk at hs; rw [Bool.and_eq_true] at hs; exact hs.1
    have ho : regOk l = true := by unfold balB at hb; rw [Bool.and_eq_true] at hb; exact hb.1
    have hlt := regSet_lt ho
    have B := bw_of hb
    have hle := kas_le B hlt (by have := popc_le (regSet l); omega)
    have := cnt_small hlt
    refine ⟨ho, B, ?_, hle, by unfold cntR; rw [if_pos ho]⟩
    rw [cbs_yes (by omega), sign_dtn hs, szM_iab (by omega)]
  refine ⟨fun h => ?_, cbs_no, fun h hh => ?_, fun h he => ?_⟩
  · rw [(key h).2.2.1]; exact iab_nn _
  · obtain ⟨ho, B, e1, _, e3⟩ := key h
    rw [e1, e3, kas_eq B ho hh]
  · obtain ⟨ho, B, e1, e2, e3⟩ := key h
    have hs := sign_len.1 h
    have h10 : (smR l).length ≤ 10 := Classical.byContradiction fun hc => by
      rw [cbe_no (.inr (by omega))] at he; omega
    have : cbe l = (cntR l : Int) := by
      rw [cbe_yes (by omega) h10, e3]
      congr 1
      rw [← kas_perm B (regSet_lt ho) (by have := popc_le (regSet l); omega)]
      unfold permR
      rw [sign_blk hs, Nat.sub_zero]
      refine permF_congr (fun i k hi hk => ?_) _ _ _ (by omega)
      unfold aE
      have := signM_gM hi (show k < (whi l).length by rw [B.len]; exact hk)
      unfold gM at this
      rw [smR_yes hs, this]
    exact ⟨this, by rw [this, e1, e3]; exact e2⟩

/-! small squares and their mirror images -/
theorem dtn_3 (f : Nat → Nat → Int) : dtn 3 f = f 0 0 * (f 1 1 * f 2 2 - f 1 2 * f 2 1) - f 0 1 * (f 1 0 * f 2 2 - f 1 2 * f 2 0) + f 0 2 * (f 1 0 * f 2 1 - f 1 1 * f 2 0) := by
  show dsm (fun j => sP j * f 0 j * dtn 2 (mnr f j)) 3 = _
  simp only [dsm, dtn_2]
  unfold sP mnr skp
  simp
  grind
theorem dtn_4 (f : Nat → Nat → Int) : dtn 4 f = f 0 0 * dtn 3 (mnr f 0) - f 0 1 * dtn 3 (mnr f 1) + f 0 2 * dtn 3 (mnr f 2) - f 0 3 * dtn 3 (mnr f 3) := by
  show dsm (fun j => sP j * f 0 j * dtn 3 (mnr f j)) 4 = _
  simp only [dsm]
  unfold sP
  simp
  grind
theorem dtn_T {n : Nat} (hn : n ≤ 4) (f : Nat → Nat → Int) : dtn n (fun i j => f j i) = dtn n f := by
  have : n = 0 ∨ n = 1 ∨ n = 2 ∨ n = 3 ∨ n = 4 := by omega
  rcases this with rfl | rfl | rfl | rfl | rfl
  · rfl
  · rw [dtn_1, dtn_1]
  · rw [dtn_2, dtn_2]; grind
  · rw [dtn_3, dtn_3]; grind
  · rw [dtn_4, dtn_4]
    simp only [dtn_3]
    unfold mnr skp
    simp
    grind
/-- rows of small entries -/
def smE (n : Nat) (m : List (List Int)) : Prop := m.length = n ∧ ∀ r ∈ m, r.length = n ∧ ∀ x ∈ r, -1 ≤ x ∧ x ≤ 1
theorem smE_sq {n : Nat} {m : List (List Int)} (hn : n ≤ 4) (h : smE n m) : sqB m = true := by
  unfold sqB
  rw [Bool.and_eq_true, List.all_eq_true, decide_eq_true_eq]
  refine ⟨fun r hr => ?_, by rw [h.1]; omega⟩
  obtain ⟨h1, h2⟩ := h.2 r hr
  unfold rowOkB
  rw [Bool.and_eq_true, Bool.and_eq_true, decide_eq_true_eq, decide_eq_true_eq]
  refine ⟨by rw [h1, h.1], ?_, ?_⟩
  · unfold allIn; rw [List.all_eq_true]; intro x hx; exact inB_true.2 (h2 x hx)
  · have := nzN_le r r.length; omega
theorem sm_bd {n : Nat} {m : List (List Int)} (hn : n ≤ 4) (h : smE n m) : iab (detR m) ≤ 256 := by
  have hs := smE_sq hn h
  rw [detR_dtn hs, h.1]
  have hr : RowS 4 n (gM m) := fun a ha => by
    unfold sqB at hs
    rw [Bool.and_eq_true, List.all_eq_true] at hs
    have := row_sum (hs.1 (gLs m a) (by rw [gLs_eq (by rw [h.1]; exact ha)]; exact List.getElem_mem _))
    rwa [h.1] at this
  have := minor_bd (I := id) (J := id) (m := n) (by decide) hr (fun a ha => ha) (fun a ha => ha) (fun _ _ _ _ h => h)
  refine Int.le_trans this ?_
  have : n = 0 ∨ n = 1 ∨ n = 2 ∨ n = 3 ∨ n = 4 := by omega
  rcases this with rfl | rfl | rfl | rfl | rfl <;> decide
/-- the mirror image, row by row -/
def trR (m : List (List Int)) (i k : Nat) : List Int := (List.range k).map fun j => gM m j i
def trM (m : List (List Int)) (k : Nat) : List (List Int) := (List.range k).map fun i => trR m i m.length
theorem trR_snoc (m : List (List Int)) (i k : Nat) : trR m i (k + 1) = trR m i k ++ [gM m k i] := by unfold trR; rw [List.range_succ, List.map_append]; rfl
theorem trM_snoc (m : List (List Int)) (k : Nat) : trM m (k + 1) = trM m k ++ [trR m k m.length] := by unfold trM; rw [List.range_succ, List.map_append]; rfl
theorem trR_len (m : List (List Int)) (i k : Nat) : (trR m i k).length = k := by simp [trR]
theorem trM_len (m : List (List Int)) (k : Nat) : (trM m k).length = k := by simp [trM]
theorem tr_sm {n : Nat} {m : List (List Int)} (h : smE n m) : smE n (trM m m.length) := by
  refine ⟨by rw [trM_len, h.1], fun r hr => ?_⟩
  obtain ⟨i, hi, rfl⟩ := List.mem_map.1 hr
  rw [List.mem_range] at hi
  refine ⟨by rw [trR_len, h.1], fun x hx => ?_⟩
  obtain ⟨j, hj, rfl⟩ := List.mem_map.1 hx
  rw [List.mem_range] at hj
  have hm : gLs m j ∈ m := by rw [gLs_eq hj]; exact List.getElem_mem hj
  obtain ⟨h1, h2⟩ := h.2 _ hm
  refine h2 _ ?_
  unfold gM
  rw [gI_eq (by rw [h1, ← h.1]; exact hi)]; exact List.getElem_mem _
theorem tr_det {n : Nat} {m : List (List Int)} (hn : n ≤ 4) (h : smE n m) : detR (trM m m.length) = detR m := by
  rw [detR_dtn (smE_sq hn h), detR_dtn (smE_sq hn (tr_sm h)), trM_len, h.1, ← dtn_T hn (gM m)]
  refine dtn_congr fun a b ha hb => ?_
  unfold gM
  rw [gLs_eq (by rw [trM_len]; exact ha)]
  have : (trM m n)[a]'(by rw [trM_len]; exact ha) = trR m a m.length := by simp [trM]
  rw [this, gI_eq (by rw [trR_len, h.1]; exact hb)]
  simp [trR, gM]

/-! draws of regions and of squares -/
def ra1 (b : List Nat) : Nat → Cu → List Int → List Int × Cu
  | 0, c, R => (R, c)
  | f + 1, c, R => if R.length < 8 + cuX b c 2 then ra1 b f (cuN b (cuN b c 2) 4) (R ++ [((cuX b (cuN b c 2) 4 : Nat) : Int)]) else (R, cuN b c 2)
theorem ra1_yes {b : List Nat} {f : Nat} {c : Cu} {R : List Int} (hf : 0 < f) (h : R.length < 8 + cuX b c 2) : ra1 b f c R = ra1 b (f - 1) (cuN b (cuN b c 2) 4) (R ++ [((cuX b (cuN b c 2) 4 : Nat) : Int)]) := by
  obtain ⟨g, rfl⟩ : ∃ g, f = g + 1 := ⟨f - 1, by omega⟩
  rw [ra1, if_pos h]; rfl
theorem ra1_no {b : List Nat} {f : Nat} {c : Cu} {R : List Int} (hf : 0 < f) (h : ¬ R.length < 8 + cuX b c 2) : ra1 b f c R = (R, cuN b c 2) := by
  obtain ⟨g, rfl⟩ : ∃ g, f = g + 1 := ⟨f - 1, by omega⟩
  rw [ra1, if_neg h]
theorem ra1_len {b : List Nat} : ∀ (f : Nat) (c : Cu) (R : List Int), R.length ≤ 9 → (ra1 b f c R).1.length ≤ 9 := by
  intro f
  induction f with
  | zero => intro c R h; exact h
  | succ f ih =>
    intro c R h
    rw [ra1]
    split
    · rename_i hc
      have : cuX b c 2 < 2 := cuX_lt (by decide)
      exact ih _ _ (by rw [List.length_append, List.length_singleton]; omega)
    · exact h
def r3A (b : List Nat) (c : Cu) : List Int × Cu :=
  if cuX b (r3 b c).2 10 = 0 then ((r3 b c).1.set 0 (gI [-1, 255, 256] (cuX b (cuN b (r3 b c).2 10) 3)), cuN b (cuN b (r3 b c).2 10) 3)
  else if cuX b (r3 b c).2 10 = 1 then ra1 b (10 - (r3 b c).1.length) (cuN b (r3 b c).2 10) (r3 b c).1
  else if cuX b (r3 b c).2 10 = 2 then ([], cuN b (r3 b c).2 10)
  else ((r3 b c).1, cuN b (r3 b c).2 10)
theorem r3A_0 {b : List Nat} {c : Cu} (h : cuX b (r3 b c).2 10 = 0) : r3A b c = ((r3 b c).1.set 0 (gI [-1, 255, 256] (cuX b (cuN b (r3 b c).2 10) 3)), cuN b (cuN b (r3 b c).2 10) 3) := by unfold r3A; rw [if_pos h]
theorem r3A_1 {b : List Nat} {c : Cu} (h : cuX b (r3 b c).2 10 = 1) : r3A b c = ra1 b (10 - (r3 b c).1.length) (cuN b (r3 b c).2 10) (r3 b c).1 := by unfold r3A; rw [if_neg (by omega), if_pos h]
theorem r3A_2 {b : List Nat} {c : Cu} (h : cuX b (r3 b c).2 10 = 2) : r3A b c = ([], cuN b (r3 b c).2 10) := by unfold r3A; rw [if_neg (by omega), if_neg (by omega), if_pos h]
theorem r3A_3 {b : List Nat} {c : Cu} (h0 : cuX b (r3 b c).2 10 ≠ 0) (h1 : cuX b (r3 b c).2 10 ≠ 1) (h2 : cuX b (r3 b c).2 10 ≠ 2) : r3A b c = ((r3 b c).1, cuN b (r3 b c).2 10) := by unfold r3A; rw [if_neg h0, if_neg h1, if_neg h2]
theorem r3A_len (b : List Nat) (c : Cu) : (r3A b c).1.length ≤ 9 := by
  have h := r3_len b c
  unfold r3A
  split
  · rw [List.length_set]; omega
  · split
    · exact ra1_len _ _ _ (by omega)
    · split
      · simp
      · exact Nat.le_trans h (by decide)
def r15 (b : List Nat) (c : Cu) : List Int × Cu := if cuX b c 2 = 0 then r8 b 6 (cuN b c 2) else r3A b (cuN b c 2)
theorem r15_0 {b : List Nat} {c : Cu} (h : cuX b c 2 = 0) : r15 b c = r8 b 6 (cuN b c 2) := by unfold r15; rw [if_pos h]
theorem r15_1 {b : List Nat} {c : Cu} (h : cuX b c 2 ≠ 0) : r15 b c = r3A b (cuN b c 2) := by unfold r15; rw [if_neg h]
theorem r15_len (b : List Nat) (c : Cu) : (r15 b c).1.length ≤ 9 := by
  unfold r15; split
  · exact Nat.le_trans (r8_len b 6 _) (by decide)
  · exact r3A_len b _
/-- rows of small numbers -/
def five : List Int := [0, 0, 1, -1, 1]
def sqR (b : List Nat) (c : Cu) : Nat → List Int × Cu
  | 0 => ([], c)
  | k + 1 => ((sqR b c k).1 ++ [gI five (cuX b (sqR b c k).2 5)], cuN b (sqR b c k).2 5)
def sqM (b : List Nat) (n : Nat) (c : Cu) : Nat → List (List Int) × Cu
  | 0 => ([], c)
  | k + 1 => ((sqM b n c k).1 ++ [(sqR b (sqM b n c k).2 n).1], (sqR b (sqM b n c k).2 n).2)
theorem five_bd (i : Nat) : -1 ≤ gI five i ∧ gI five i ≤ 1 := by
  unfold five gI
  match i with
  | 0 => decide
  | 1 => decide
  | 2 => decide
  | 3 => decide
  | 4 => decide
  | i + 5 => simp
theorem sqR_ok (b : List Nat) (c : Cu) : ∀ k, (sqR b c k).1.length = k ∧ ∀ x ∈ (sqR b c k).1, -1 ≤ x ∧ x ≤ 1 := by
  intro k
  induction k with
  | zero => exact ⟨rfl, by simp [sqR]⟩
  | succ k ih =>
    rw [sqR]
    refine ⟨by rw [List.length_append, ih.1]; rfl, fun x hx => ?_⟩
    rw [List.mem_append, List.mem_singleton] at hx
    rcases hx with hx | rfl
    · exact ih.2 x hx
    · exact five_bd _
theorem sqM_ok (b : List Nat) (n : Nat) (c : Cu) : ∀ k, (sqM b n c k).1.length = k ∧ ∀ r ∈ (sqM b n c k).1, r.length = n ∧ ∀ x ∈ r, -1 ≤ x ∧ x ≤ 1 := by
  intro k
  induction k with
  | zero => exact ⟨rfl, by simp [sqM]⟩
  | succ k ih =>
    rw [sqM]
    refine ⟨by rw [List.length_append, ih.1]; rfl, fun r hr => ?_⟩
    rw [List.mem_append, List.mem_singleton] at hr
    rcases hr with hr | rfl
    · exact ih.2 r hr
    · exact sqR_ok b _ n
theorem sqR_i {b : List Nat} {c : Cu} (h : c.i ≤ b.length) : ∀ k, (sqR b c k).2.i ≤ b.length := by
  intro k
  induction k with
  | zero => exact h
  | succ k ih => exact cuI_le ih
theorem sqM_i {b : List Nat} {n : Nat} {c : Cu} (h : c.i ≤ b.length) : ∀ k, (sqM b n c k).2.i ≤ b.length := by
  intro k
  induction k with
  | zero => exact h
  | succ k ih => exact sqR_i ih n

/-! the square of four -/
theorem sign44 : signOk (rectR 4 4) = true := by
  have h1 : regOk (rectR 4 4) = true := by decide +kernel
  have h2 : cellsOf (rectR 4 4) = setCells 252645135 := by unfold cellsOf; rw [if_pos h1, reg44]
  unfold signOk balB bexc
  rw [h1, h2]
  decide +kernel
theorem cnt44 : cntR (rectR 4 4) = 36 := by
  have h1 : regOk (rectR 4 4) = true := by decide +kernel
  unfold cntR
  rw [if_pos h1, reg44]
  decide +kernel
theorem cbs44 : cbs (rectR 4 4) = 36 := by
  have h := (SG.of (rectR 4 4)).eq (sign_len.2 sign44) (simB_ok sim44).2.2.1
  rw [h, cnt44]; rfl
/-- what the law of signs knows of a drawn square -/
structure SQ (m : List (List Int)) : Prop where
  tr : detR (trM m m.length) = detR m
  b1 : -256 ≤ detR m
  b2 : detR m ≤ 256
  len : 1 ≤ m.length ∧ m.length ≤ 4
  row : ∀ k, k < m.length → (gLs m k).length = m.length
theorem SQ.of (b : List Nat) (c : Cu) {n : Nat} (h0 : 1 ≤ n) (h4 : n ≤ 4) : SQ (sqM b n c n).1 := by
  have hs : smE n (sqM b n c n).1 := sqM_ok b n c n
  have hb := sm_bd h4 hs
  unfold iab at hb
  refine ⟨tr_det h4 hs, by omega, by omega, by rw [hs.1]; omega, fun k hk => ?_⟩
  rw [gLs_eq hk, (hs.2 _ (List.getElem_mem hk)).1, hs.1]
theorem SQ.sq {m : List (List Int)} (h : SQ m) : detR m * detR m ≤ 65536 ∧ 0 ≤ detR m * detR m := by
  have h1 := h.b1
  have h2 := h.b2
  generalize detR m = d at h1 h2
  constructor
  · have : iab (d * d) ≤ 256 * 256 := by
      rw [iab_mul]
      have hd : iab d ≤ 256 := by unfold iab; omega
      exact Int.le_trans (Int.mul_le_mul_of_nonneg_left hd (iab_nn d)) (Int.mul_le_mul_of_nonneg_right hd (by decide))
    unfold iab at this; omega
  · rw [← Int.natAbs_mul_self]; exact Int.natCast_nonneg _
theorem det_nil : detR [] = 1 := by decide +kernel


end Cl
end Go.Proofs.Ytokihekhelbijaa
