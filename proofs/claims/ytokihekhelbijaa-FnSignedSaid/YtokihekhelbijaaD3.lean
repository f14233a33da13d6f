/- Walks over clean states, printed by wg.py. No statement is proved here. -/
import Derived.Test.YtokihekhelbijaaD1
import Derived.Test.YtokihekhelbijaaClB
set_option linter.unusedSimpArgs false
set_option linter.unusedVariables false
namespace Go.Proofs.Ytokihekhelbijaa
namespace Cl
open Go.ChangeShapes Go.WideShapes Go.ChangeAt Go.RowKit
set_option maxRecDepth 20000

def xW (a b : Int) : Int := IntKind.i64.wrap (a - b)
def gM (M : List (List Int)) (i j : Nat) : Int := gI (gLs M i) j
def el1 (E : Nat → Nat → Int) (k : Nat) (b : Int) (i j : Nat) : Int := qW (xW (mW (E i j) (E k k)) (mW (E i k) (E k j))) b
def elE (E : Nat → Nat → Int) (k : Nat) (b : Int) : Nat → Nat → Int := fun i j => if k < i ∧ k < j then el1 E k b i j else E i j
def swE (E : Nat → Nat → Int) (k p : Nat) : Nat → Nat → Int := fun i => if i = k then E p else if i = p then E k else E i
def pivE (E : Nat → Nat → Int) (k : Nat) : Nat → Nat → Option Nat
  | 0, _ => none
  | f + 1, p => if E p k = 0 then pivE E k f (p + 1) else some p
def detE : Nat → Nat → (Nat → Nat → Int) → Int → Int → Int
  | 0, _, _, s, b => mW s b
  | f + 1, k, E, s, b => match pivE E k (f + 1) k with
    | none => 0
    | some p => detE f (k + 1) (elE (swE E k p) k b) (if p = k then s else -s) (E p k)
theorem piv_none {E : Nat → Nat → Int} {k f p : Nat} (h : ∀ i, p ≤ i → i < p + f → E i k = 0) : pivE E k f p = none := by
  induction f generalizing p with
  | zero => rfl
  | succ f ih =>
    unfold pivE; rw [if_pos (h p (Nat.le_refl _) (by omega))]
    exact ih fun i h1 h2 => h i (by omega) (by omega)
theorem piv_some {E : Nat → Nat → Int} {k f p q : Nat} (h : ∀ i, p ≤ i → i < q → E i k = 0) (h1 : p ≤ q) (h2 : q < p + f) (h3 : E q k ≠ 0) : pivE E k f p = some q := by
  induction f generalizing p with
  | zero => omega
  | succ f ih =>
    unfold pivE
    rcases Nat.lt_or_ge p q with h4 | h4
    · rw [if_pos (h p (Nat.le_refl _) h4)]; exact ih (fun i a b => h i (by omega) b) (by omega) (by omega)
    · have e : p = q := by omega
      subst e; rw [if_neg h3]
theorem piv_congr {E E' : Nat → Nat → Int} {k f p : Nat} (h : ∀ i, p ≤ i → i < p + f → E i k = E' i k) : pivE E k f p = pivE E' k f p := by
  induction f generalizing p with
  | zero => rfl
  | succ f ih => unfold pivE; rw [h p (Nat.le_refl _) (by omega), ih fun i h1 h2 => h i (by omega) (by omega)]
theorem piv_in {E : Nat → Nat → Int} {k f p q : Nat} (h : pivE E k f p = some q) : p ≤ q ∧ q < p + f := by
  induction f generalizing p with
  | zero => cases h
  | succ f ih =>
    unfold pivE at h
    split at h
    · have := ih h; omega
    · injection h with h; omega
theorem det_congr {f k : Nat} {E E' : Nat → Nat → Int} {s b : Int} (h : ∀ i j, k ≤ i → i < k + f → k ≤ j → j < k + f → E i j = E' i j) : detE f k E s b = detE f k E' s b := by
  induction f generalizing k E E' s b with
  | zero => rfl
  | succ f ih =>
    unfold detE
    rw [piv_congr (E' := E') (fun i h1 h2 => h i k h1 h2 (Nat.le_refl _) (by omega))]
    cases hp : pivE E' k (f + 1) k with
    | none => rfl
    | some p =>
      have hin := piv_in hp
      have sw : ∀ i j, k ≤ i → i < k + (f + 1) → k ≤ j → j < k + (f + 1) → swE E k p i j = swE E' k p i j := by
        intro i j h1 h2 h3 h4
        unfold swE
        split
        · exact h p j hin.1 hin.2 h3 h4
        · split
          · exact h k j (Nat.le_refl _) (by omega) h3 h4
          · exact h i j h1 h2 h3 h4
      show detE f (k + 1) (elE (swE E k p) k b) (if p = k then s else -s) (E p k) = detE f (k + 1) (elE (swE E' k p) k b) (if p = k then s else -s) (E' p k)
      rw [h p k hin.1 hin.2 (Nat.le_refl _) (by omega)]
      refine ih fun i j h1 h2 h3 h4 => ?_
      unfold elE
      rw [if_pos (by omega), if_pos (by omega)]
      unfold el1
      rw [sw i j (by omega) (by omega) (by omega) (by omega), sw k k (by omega) (by omega) (by omega) (by omega), sw i k (by omega) (by omega) (by omega) (by omega), sw k j (by omega) (by omega) (by omega) (by omega)]
theorem det_none {n k : Nat} {E : Nat → Nat → Int} {s b : Int} (hk : k < n) (h : ∀ i, k ≤ i → i < n → E i k = 0) : detE (n - k) k E s b = 0 := by
  rw [show n - k = (n - (k + 1)) + 1 by omega]; unfold detE
  rw [piv_none (fun i h1 h2 => h i h1 (by omega))]
theorem det_some {n k p : Nat} {E : Nat → Nat → Int} {s b : Int} (hk : k ≤ p) (hp : p < n) (h : ∀ i, k ≤ i → i < p → E i k = 0) (h2 : E p k ≠ 0) :
    detE (n - k) k E s b = detE (n - (k + 1)) (k + 1) (elE (swE E k p) k b) (if p = k then s else -s) (E p k) := by
  rw [show n - k = (n - (k + 1)) + 1 by omega, detE]
  rw [piv_some h hk (by omega) h2]
/-! the same on rows -/
def elR (z : Nat) (rk : List Int) (b : Int) (k : Nat) (r : List Int) (j : Nat) : List Int := (List.range z).map fun c => if k < c ∧ c < j then qW (xW (mW (gI r c) (gI rk k)) (mW (gI r k) (gI rk c))) b else gI r c
theorem elR_len (z : Nat) (rk : List Int) (b : Int) (k : Nat) (r : List Int) (j : Nat) : (elR z rk b k r j).length = z := by simp [elR]
theorem elR_at {z : Nat} {rk : List Int} {b : Int} {k : Nat} {r : List Int} {j c : Nat} (h : c < z) : gI (elR z rk b k r j) c = if k < c ∧ c < j then qW (xW (mW (gI r c) (gI rk k)) (mW (gI r k) (gI rk c))) b else gI r c := by
  rw [gI_eq (by rw [elR_len]; exact h)]; simp [elR]
theorem elR_set {z : Nat} {rk : List Int} {b : Int} {k : Nat} {r : List Int} {j : Nat} (h : j < z) (hk : k < j) {x : Int} (hx : x = qW (xW (mW (gI r j) (gI rk k)) (mW (gI r k) (gI rk j))) b) : (elR z rk b k r j).set j x = elR z rk b k r (j + 1) := by
  subst hx
  refine List.ext_getElem (by rw [List.length_set, elR_len, elR_len]) fun c h1 h2 => ?_
  rw [List.getElem_set]
  rw [elR_len] at h2
  split
  · rename_i e; subst e
    simp [elR, hk]
  · rename_i e
    simp only [elR, List.getElem_map, List.getElem_range]
    have : (k < c ∧ c < j) ↔ (k < c ∧ c < j + 1) := by omega
    simp only [this]
theorem elR_zero {z : Nat} {rk : List Int} {b : Int} {k : Nat} {r : List Int} (h : r.length = z) : elR z rk b k r (k + 1) = r := by
  refine List.ext_getElem (by rw [elR_len, h]) fun c h1 h2 => ?_
  simp only [elR, List.getElem_map, List.getElem_range]
  rw [if_neg (by omega), gI_eq h2]
def rowD0 (q : Bool) (k : Nat) (r : List Int) : List Int := if q = true then r.set k 0 else r
def elM (q : Bool) (n : Nat) (M : List (List Int)) (k : Nat) (b : Int) (i : Nat) : List (List Int) := (List.range n).map fun a => if k < a ∧ a < i then rowD0 q k (elR n (gLs M k) b k (gLs M a) n) else gLs M a
theorem elM_len (q : Bool) (n : Nat) (M : List (List Int)) (k : Nat) (b : Int) (i : Nat) : (elM q n M k b i).length = n := by simp [elM]
theorem elM_at {q : Bool} {n : Nat} {M : List (List Int)} {k : Nat} {b : Int} {i a : Nat} (h : a < n) : gLs (elM q n M k b i) a = if k < a ∧ a < i then rowD0 q k (elR n (gLs M k) b k (gLs M a) n) else gLs M a := by
  rw [gLs_eq (by rw [elM_len]; exact h)]; simp [elM]
theorem rowD0_len (q : Bool) (k : Nat) (r : List Int) : (rowD0 q k r).length = r.length := by unfold rowD0; split <;> simp
theorem elM_zero {q : Bool} {n : Nat} {M : List (List Int)} {k : Nat} {b : Int} (h : M.length = n) : elM q n M k b (k + 1) = M := by
  refine List.ext_getElem (by rw [elM_len, h]) fun c h1 h2 => ?_
  simp only [elM, List.getElem_map, List.getElem_range]
  rw [if_neg (by omega), gLs_eq h2]
theorem elM_row {q : Bool} {n : Nat} {M : List (List Int)} {k : Nat} {b : Int} {i : Nat} (h : i < n) (hk : k < i) {r : List Int} (hr : r = rowD0 q k (elR n (gLs M k) b k (gLs M i) n)) : (elM q n M k b i).set i r = elM q n M k b (i + 1) := by
  subst hr
  refine List.ext_getElem (by rw [List.length_set, elM_len, elM_len]) fun c h1 h2 => ?_
  rw [List.getElem_set]
  rw [elM_len] at h2
  split
  · rename_i e; subst e; simp [elM, hk]
  · rename_i e
    simp only [elM, List.getElem_map, List.getElem_range]
    have : (k < c ∧ c < i) ↔ (k < c ∧ c < i + 1) := by omega
    simp only [this]
/-- a row under work -/
def elX (q : Bool) (n : Nat) (M : List (List Int)) (k : Nat) (b : Int) (i j : Nat) : List (List Int) := (elM q n M k b i).set i (elR n (gLs M k) b k (gLs M i) j)
theorem elX_len (q : Bool) (n : Nat) (M : List (List Int)) (k : Nat) (b : Int) (i j : Nat) : (elX q n M k b i j).length = n := by unfold elX; rw [List.length_set, elM_len]
theorem elX_i {q : Bool} {n : Nat} {M : List (List Int)} {k : Nat} {b : Int} {i j : Nat} (h : i < n) : gLs (elX q n M k b i j) i = elR n (gLs M k) b k (gLs M i) j := by unfold elX; exact gLs_set_eq (by rw [elM_len]; exact h)
theorem elX_k {q : Bool} {n : Nat} {M : List (List Int)} {k : Nat} {b : Int} {i j : Nat} (h : k < i) (hi : i < n) : gLs (elX q n M k b i j) k = gLs M k := by
  unfold elX; rw [gLs_set_ne (by omega), elM_at (by omega), if_neg (by omega)]
theorem elX_zero {q : Bool} {n : Nat} {M : List (List Int)} {k : Nat} {b : Int} {i : Nat} (hi : i < n) (hr : (gLs M i).length = n) : elX q n M k b i (k + 1) = elM q n M k b i := by
  unfold elX; rw [elR_zero hr]
  have : gLs M i = gLs (elM q n M k b i) i := by rw [elM_at hi, if_neg (by omega)]
  rw [this, set_gLs (by rw [elM_len]; exact hi)]
theorem elX_set {q : Bool} {n : Nat} {M : List (List Int)} {k : Nat} {b : Int} {i j : Nat} (hk : k < i) (hi : i < n) (hj : k < j) (hjn : j < n) {x : Int}
    (hx : x = qW (xW (mW (gI (gLs (elX q n M k b i j) i) j) (gI (gLs (elX q n M k b i j) k) k)) (mW (gI (gLs (elX q n M k b i j) i) k) (gI (gLs (elX q n M k b i j) k) j))) b) :
    (elX q n M k b i j).set i ((gLs (elX q n M k b i j) i).set j x) = elX q n M k b i (j + 1) := by
  rw [elX_i hi, elX_k hk hi] at hx
  rw [elX_i hi]
  rw [elR_at hjn, elR_at (by omega), if_neg (by omega), if_neg (by omega)] at hx
  rw [elR_set hjn hj hx]
  unfold elX
  rw [List.set_set]
/-- the ends of a row -/
theorem elX_end {n : Nat} {M : List (List Int)} {k : Nat} {b : Int} {i j : Nat} (hk : k < i) (hi : i < n) (hj : ¬ j < n) (hj2 : j ≤ n) : elX false n M k b i j = elM false n M k b (i + 1) := by
  have e : j = n := by omega
  subst e; unfold elX; exact elM_row hi hk rfl
theorem elX_endz {n : Nat} {M : List (List Int)} {k : Nat} {b : Int} {i j : Nat} (hk : k < i) (hi : i < n) (hj : ¬ j < n) (hj2 : j ≤ n) : (elX true n M k b i j).set i ((gLs (elX true n M k b i j) i).set k 0) = elM true n M k b (i + 1) := by
  have e : j = n := by omega
  subst e
  rw [elX_i hi]; unfold elX; rw [List.set_set]
  exact elM_row hi hk rfl
theorem elM_el {q : Bool} {n : Nat} {M : List (List Int)} {k : Nat} {b : Int} {i j m : Nat} (hm : ¬ m < n) (hi : k < i) (hin : i < n) (hj : k < j) (hjn : j < n) : gM (elM q n M k b m) i j = elE (gM M) k b i j := by
  unfold gM
  rw [elM_at hin, if_pos (by omega)]
  unfold elE el1
  rw [if_pos ⟨hi, hj⟩]
  have : gI (rowD0 q k (elR n (gLs M k) b k (gLs M i) n)) j = gI (elR n (gLs M k) b k (gLs M i) n) j := by
    unfold rowD0; split
    · unfold gI; rw [List.getD_eq_getElem?_getD, List.getD_eq_getElem?_getD, List.getElem?_set_ne (by omega)]
    · rfl
  rw [this, elR_at hjn, if_pos (by omega)]
theorem elM_k {q : Bool} {n : Nat} {M : List (List Int)} {k : Nat} {b : Int} {m : Nat} (hk : k < n) : gLs (elM q n M k b m) k = gLs M k := by rw [elM_at hk, if_neg (by omega)]
/-- dimensions -/
def sqD (n : Nat) (M : List (List Int)) : Prop := M.length = n ∧ ∀ a, a < n → (gLs M a).length = n
theorem sqD_el {q : Bool} {n : Nat} {M : List (List Int)} {k : Nat} {b : Int} {m : Nat} (h : sqD n M) : sqD n (elM q n M k b m) := by
  refine ⟨elM_len _ _ _ _ _ _, fun a ha => ?_⟩
  rw [elM_at ha]
  split
  · rw [rowD0_len, elR_len]
  · exact h.2 a ha
def swp (M : List (List Int)) (k p : Nat) : List (List Int) := (M.set p (gLs M k)).set k (gLs M p)
theorem swp_at {M : List (List Int)} {k p : Nat} (hk : k < M.length) (hp : p < M.length) (i : Nat) : gLs (swp M k p) i = if i = k then gLs M p else if i = p then gLs M k else gLs M i := by
  unfold swp
  split
  · rename_i e; subst e; exact gLs_set_eq (by rw [List.length_set]; exact hk)
  · rename_i e; rw [gLs_set_ne (Ne.symm e)]
    split
    · rename_i e; subst e; exact gLs_set_eq hp
    · rename_i e; exact gLs_set_ne (Ne.symm e)
theorem swp_len (M : List (List Int)) (k p : Nat) : (swp M k p).length = M.length := by unfold swp; rw [List.length_set, List.length_set]
theorem sqD_sw {n : Nat} {M : List (List Int)} {k p : Nat} (h : sqD n M) (hk : k < n) (hp : p < n) : sqD n (swp M k p) := by
  refine ⟨by rw [swp_len, h.1], fun a ha => ?_⟩
  rw [swp_at (by rw [h.1]; exact hk) (by rw [h.1]; exact hp)]
  split
  · exact h.2 p hp
  · split
    · exact h.2 k hk
    · exact h.2 a ha
theorem swp_gM {M : List (List Int)} {k p : Nat} (hk : k < M.length) (hp : p < M.length) : gM (swp M k p) = swE (gM M) k p := by
  funext i j
  unfold gM swE
  rw [swp_at hk hp]
  split
  · rfl
  · split <;> rfl
theorem swE_self (E : Nat → Nat → Int) (k : Nat) : swE E k k = E := by
  funext i j; unfold swE
  split
  · rename_i e; rw [e]
  · rfl
/-- one step -/
theorem det_sw {q : Bool} {n k p m : Nat} {M : List (List Int)} {s b : Int} (hd : sqD n M) (hk : k ≤ p) (hp : p < n) (hne : p ≠ k) (h : ∀ i, k ≤ i → i < p → gM M i k = 0) (h2 : gM M p k ≠ 0) (hm : ¬ m < n) :
    detE (n - (k + 1)) (k + 1) (gM (elM q n (swp M k p) k b m)) (-s) (gM M p k) = detE (n - k) k (gM M) s b := by
  rw [det_some (n := n) hk hp h h2, if_neg hne]
  refine det_congr fun i j h3 h4 h5 h6 => ?_
  rw [elM_el hm (by omega) (by omega) (by omega) (by omega), swp_gM (by rw [hd.1]; omega) (by rw [hd.1]; exact hp)]
theorem det_ns {q : Bool} {n k m : Nat} {M : List (List Int)} {s b : Int} (hp : k < n) (h2 : gM M k k ≠ 0) (hm : ¬ m < n) :
    detE (n - (k + 1)) (k + 1) (gM (elM q n M k b m)) s (gM M k k) = detE (n - k) k (gM M) s b := by
  rw [det_some (n := n) (p := k) (Nat.le_refl _) hp (fun i a b => absurd b (by omega)) h2, if_pos rfl, swE_self]
  refine det_congr fun i j h3 h4 h5 h6 => ?_
  rw [elM_el hm (by omega) (by omega) (by omega) (by omega)]
theorem mW_zero (s : Int) : mW s 0 = 0 := by unfold mW; rw [Int.mul_zero]; rfl
theorem det_last {n k : Nat} {E : Nat → Nat → Int} {s b : Int} (hk : k + 1 = n) : detE (n - k) k E s b = mW s (E k k) := by
  by_cases h : E k k = 0
  · rw [det_none (by omega) (fun i h1 h2 => by rw [show i = k by omega]; exact h), h, mW_zero]
  · rw [det_some (n := n) (p := k) (Nat.le_refl _) (by omega) (fun i a b => absurd b (by omega)) h, show n - (k + 1) = 0 by omega, if_pos rfl]; rfl
def detV (m : List (List Int)) : Int := detE m.length 0 (gM m) 1 1
def detR (m : List (List Int)) : Int := if sqB m = true then detV m else 0
theorem sq_dims {m : List (List Int)} (h : sqB m = true) : sqD m.length m := by
  refine ⟨rfl, fun a ha => ?_⟩
  unfold sqB at h
  rw [Bool.and_eq_true, List.all_eq_true] at h
  have := h.1 (gLs m a) (by rw [gLs_eq ha]; exact List.getElem_mem ha)
  unfold rowOkB at this
  rw [Bool.and_eq_true, decide_eq_true_eq] at this
  exact this.1

theorem det_b1 {n k p m : Nat} {q : Bool} {M : List (List Int)} {s b : Int} (hd : sqD n M) (hk : k ≤ p) (hp : p < n) (hne : p ≠ k) (h : ∀ i, k ≤ i → i < p → gM M i k = 0) (h2 : gI (gLs M p) k ≠ 0) (hm : ¬ m < n) :
    gI (gLs (elM q n (swp M k p) k b m) k) k ≠ 0 ∧ detE (n - (k + 1)) (k + 1) (gM (elM q n (swp M k p) k b m)) (-s) (gI (gLs (elM q n (swp M k p) k b m) k) k) = detE (n - k) k (gM M) s b := by
  have e : gI (gLs (elM q n (swp M k p) k b m) k) k = gM M p k := by
    rw [elM_k (by omega), swp_at (by rw [hd.1]; omega) (by rw [hd.1]; exact hp), if_pos rfl]; rfl
  rw [e]
  exact ⟨h2, det_sw hd hk hp hne h h2 hm⟩
theorem det_b2 {n k p m : Nat} {q : Bool} {M : List (List Int)} {s b : Int} (hp : p < n) (he : p = k) (h2 : gI (gLs M p) k ≠ 0) (hm : ¬ m < n) :
    gI (gLs (elM q n M k b m) k) k ≠ 0 ∧ detE (n - (k + 1)) (k + 1) (gM (elM q n M k b m)) s (gI (gLs (elM q n M k b m) k) k) = detE (n - k) k (gM M) s b := by
  subst he
  have e : gI (gLs (elM q n M p b m) p) p = gM M p p := by rw [elM_k (by omega)]; rfl
  rw [e]
  exact ⟨h2, det_ns hp h2 hm⟩
theorem piv_s {M : List (List Int)} {k p : Nat} (h : ∀ a, k ≤ a → a < p → gM M a k = 0) (h2 : gI (gLs M p) k = 0) : ∀ a, k ≤ a → a < p + 1 → gM M a k = 0 := by
  intro a h3 h4
  rcases Nat.lt_or_ge a p with h5 | h5
  · exact h a h3 h5
  · rw [show a = p by omega]; exact h2
theorem nand3 {p q : Prop} [Decidable p] [Decidable q] (h : (decide p && decide q) = false) : ¬ (p ∧ q) := fun ⟨h1, h2⟩ => by rw [decide_eq_true h1, decide_eq_true h2] at h; cases h
theorem subk {n k : Nat} (h : k + 1 = n) (hb : n ≤ 16) : IntKind.i64.wrap ((n : Int) - 1) = (k : Int) := by
  rw [show (n : Int) - 1 = (k : Int) by omega]
  exact w64 (by omega) (by omega)
theorem detV_0 {m : List (List Int)} (h : m.length = 0) : detV m = 1 := by unfold detV; rw [h]; rfl
theorem detR_no {m : List (List Int)} (h : sqB m = false) : detR m = 0 := by unfold detR; rw [h]; rfl
theorem detR_yes {m : List (List Int)} (h : sqB m = true) : detR m = detV m := by unfold detR; rw [if_pos h]
theorem sq_16 {m : List (List Int)} (h : sqB m = true) : m.length ≤ 16 := by
  unfold sqB at h
  rw [Bool.and_eq_true, decide_eq_true_eq] at h
  exact h.2
theorem take_rows {m : List (List Int)} {k : Nat} (h : k < m.length) : m.take (k + 1) = m.take k ++ [gLs m k] := by rw [List.take_succ_eq_append_getElem h, gLs_eq h]

theorem qD3_sz_24 : (Try.prog.info? 24).map (·.size) = some 1 := by kernel_rfl
theorem qD3_sz_3 : (Try.prog.info? 3).map (·.size) = some 1 := by kernel_rfl
theorem qD3_ti_24 : TI Try.prog 24 false 1 := ⟨⟨_, Try.underlying24, rfl⟩, by kernel_rfl⟩
theorem qD3_ti_3 : TI Try.prog 3 false 1 := ⟨⟨_, Try.underlying3, rfl⟩, by kernel_rfl⟩
theorem qD3_un_24 : Try.prog.underlying 24 = some (.slice 3) := Try.underlying24
theorem qD3_un_29 : Try.prog.underlying 29 = some (.slice 24) := Try.underlying29
theorem qD3_zi_24 : ZI Try.prog 24 (.slice none 0 0) 1 24 := by unfold ZI; kernel_rfl
theorem qD3_zi_3 : ZI Try.prog 3 (.int .i64 0) 1 8 := by unfold ZI; kernel_rfl
set_option maxHeartbeats 4000000 in
set_option maxRecDepth 100000 in
theorem impl_copyOf_fn (l : List Int) (hl : l.length ≤ 4194304) : Fn Try.prog 50 [.a (.slv l.length 1 (isl l))] [.row 3 1 l.length (isl l)] := by
 refine fn_intro (N := 6) Try.func50 rfl (by kernel_rfl) rfl (Nat.le_of_ble_eq_true rfl) [3, 5] (ret1 rfl) (fun W => ?_)
 show Wp _ _ _ [kV 0 (V.b (.a (.slv l.length 1 (isl l)))), kF 3, kF 5]
 refine sq (rg (zk (nl (sq (rg ?_)))))
 refine z ?_ (h := fun ν => b0I (h := 3) ν qD3_un_24 qD3_zi_3)
 refine zm ?_
 refine z ?_ (h := fun ν => acts_app (h2 := 5) (m := l.length) (nm := l.length) (X := .slv l.length 1 (isl l)) (xs := isl []) (ys := isl l) (zs := isl l) ν qD3_un_24 qD3_zi_3 rfl (by decide) (by decide) (by first | exact isl_len _ | (simp [isl_len, bsl_len, dsl_len, csl_len]; done) | (simp [isl_len, bsl_len, dsl_len, csl_len]; omega)) xt (Src.slv _ _ _) (isl_one' _) (by first | omega | (simp; omega) | (simp at *; omega)) (by first | exact (isl_append _ _).symm | rfl | simp [isl_append]) (by first | rfl | (simp; done) | (simp; omega) | omega))
 refine za (nl (wp_ret' ?_))
 exact VRes.tmp _ _ _ (by exact rfl) (BRes.row 5 l.length _ 1 _ (by kernel_rfl) (by first | exact isl_len _ | (simp [isl_len, bsl_len, dsl_len, csl_len]; done) | (simp [isl_len, bsl_len, dsl_len, csl_len]; omega)))

set_option maxHeartbeats 4000000 in
set_option maxRecDepth 100000 in
theorem impl_copyRows_fn (m : List (List Int)) (hm : m.length ≤ 4194304) (hr : ∀ k, k < m.length → (gLs m k).length ≤ 4194304) : FnO Try.prog 39 [.a (.slvv 1 (vwI m))] [] (V.b (.a (.sl 900 0 m.length))) [(.o 900, some (.o ⟨24, 1, true, rwI 3 m⟩))] [] := by
 refine fn_introO (N := 20) Try.func39 rfl (by kernel_rfl) rfl (Nat.le_of_ble_eq_true rfl) rfl rfl (by kernel_rfl) (by kernel_rfl) trivial [6, 8, 15, 16, 17] (retO1 rfl) (fun W own kp im0 => ?_)
 show Wp _ _ _ [kV 0 (V.b (.a (.slvv 1 (vwI m)))), kF 6, kF 8, kF 15, kF 16, kF 17]
 refine sq (rg (zk (nl (sq (rg ?_)))))
 refine z ?_ (h := fun ν => b0Q (h := 6) (T := 3) ν qD3_un_29 qD3_zi_24)
 refine za (nl (sq (sq (rg (zm ?_)))))
 refine z ?_ (h := fun ν => lnI ν qD3_un_29)
 refine z ?_ (h := fun ν => mc ν)
 refine nl (bkk ?_)
 refine wp_loop' (fun (k : Nat) => k ≤ m.length) (fun (k : Nat) => [kS 3 6 0 ((m.take k).length), kV 7 (V.b (.a (.slvv 1 (vwI m)))), kI 8 ((m.length : Nat) : Int), kI 9 ((k : Nat) : Int), kO 6 24 1 true (rwI 3 (m.take k)), kF 8, kF 15, kF 16, kF 17]) (fun (k : Nat) => m.length - k) ((0 : Nat)) (by exact (Nat.zero_le _ : 0 ≤ _)) (wkf id (wE (e := (vsl (by first | rfl | (simp; done) | (simp; omega) | omega | (exact congrArg List.length (by first | rfl | omega | (simp; done) | exact take_rows (by omega) | exact Eq.symm (take_rows (by omega))))) rfl)) <| wS <| wS <| wE (e := (vint (by first | rfl | omega | (simp; done) | exact take_rows (by omega) | exact Eq.symm (take_rows (by omega))))) <| wQI (e := (by first | rfl | omega | (simp; done) | exact take_rows (by omega) | exact Eq.symm (take_rows (by omega)))) <| wF <| wF <| wF <| wF <| wN)) ?_
 rintro k inv1
 replace inv1 : k ≤ m.length := inv1
 have invk := inv1
 have htl := List.length_take_of_le (l := m) invk
 refine sq (rg ?_)
 refine z ?_ (h := fun ν => acts_bin ν vt vt (r_lss rfl))
 refine nl (sq ?_)
 refine wi (fun c2 => ?_) (fun c2 => ?_)
 ·skip
  have c2P := of_decide_eq_true c2
  refine sk (sq (bkk (sq (rg ?_))))
  refine z ?_ (h := fun ν => xvv ν qD3_un_29 qD3_sz_24 vt (hlt := (by simp only [vwI_len, vwD_len]; first | omega | assumption | exact hr k (by omega))))
  refine z ?_ (h := fun ν => lvI ν qD3_ti_24 (by first | omega | assumption | exact hr k (by omega)))
  refine za (nl (rg (zm (zm ?_))))
  refine z ?_ (h := fun ν => acts_call1 ν (impl_copyOf_fn (gLs m k) (by first | omega | assumption | exact hr k (by omega))) (ac (ArgV.slv _ _ _ _) an) (ResV.row _ _ _ _ 15))
  refine z ?_ (h := fun ν => bs1 (h := 16) ν qD3_un_29 qD3_zi_24 (by exact ⟨_, _, _, .inl rfl⟩))
  refine z ?_ (h := fun ν => aQ (h2 := 17) (nm := ((m.take k) ++ [(gLs m k)]).length) ν qD3_un_29 qD3_zi_24 (by exact ⟨_, _, _, .inl rfl⟩) (by simp [rwI_len, rwD_len]) (by first | omega | (simp; omega) | (first | omega | assumption | exact hr k (by omega))) (by simp))
  refine za (nl ?_)
  refine wp_weak (pkI (h := 17) (h1 := 15) (T := 3) (T0 := 24) (s0 := 1) (ex0 := true) (n := ((gLs m k).length)) (L := (m.take k)) (r := (gLs m k))) ?_
  refine rg ?_
  refine z ?_ (h := fun ν => acts_bin ν vt vc (rA (by first | omega | assumption | exact hr k (by omega)) (by first | omega | assumption | exact hr k (by omega))))
  refine zm (nl ?_)
  exact loop_back ((k + 1)) (by show _ ≤ _; omega) (by show m.length - (k + 1) < m.length - k; omega) (wkf (subst1 [(6, 17)]) (wE (e := (vsl (by first | rfl | (simp; done) | (simp; omega) | omega | (exact congrArg List.length (by first | rfl | omega | (simp; done) | exact take_rows (by omega) | exact Eq.symm (take_rows (by omega))))) rfl)) <| wS <| wS <| wE (e := (vint (by first | rfl | omega | (simp; done) | exact take_rows (by omega) | exact Eq.symm (take_rows (by omega))))) <| wQI (e := (by first | rfl | omega | (simp; done) | exact take_rows (by omega) | exact Eq.symm (take_rows (by omega)))) <| wF <| wF <| wF <| wF <| wN))
 ·skip
  have c2P := of_decide_eq_false c2
  refine wp_exit' (sq (rg (zm (za (nl (wp_ret' ?_))))))
  exact ⟨[kS 2 900 0 ((m.take k).length), kO 900 24 1 true (rwI 3 (m.take k)), kF 6, kF 8, kF 15, kF 16, kF 17], wkf (subst1 [(900, 6)]) (wS <| wQI <| wF <| wF <| wF <| wF <| wF <| wN), ⟨obj_eq (c := rwI 3 (m.take k)) (by kernel_rfl) (congrArg (fun z => rwI 3 z) (by exact List.take_of_length_le (by omega))), trivial⟩, vo_eq 2 (.a (.sl 900 0 ((m.take k).length))) (.a (.sl 900 0 m.length)) (by kernel_rfl) (congrArg (fun z : Nat => B.a (.sl 900 0 z)) (by omega))⟩

set_option maxHeartbeats 4000000 in
set_option maxRecDepth 100000 in
theorem impl_determinant_fn (m : List (List Int)) (hd : sqD m.length m) (hm : m.length ≤ 16) : Fn Try.prog 21 [.a (.slvv 1 (vwI m))] [.val (.int .i64 (detV m))] := by
 have hrows : ∀ k, k < m.length → (gLs m k).length ≤ 4194304 := fun k hk => by rw [hd.2 k hk]; omega
 refine fn_intro (N := 131) Try.func21 rfl (by kernel_rfl) rfl (Nat.le_of_ble_eq_true rfl) [11, 13, 131, 132, 133, 134, 1000, 1001, 1002, 1003] (ret1 rfl) (fun W => ?_)
 show Wp _ _ _ [kV 0 (V.b (.a (.slvv 1 (vwI m)))), kF 11, kF 13, kF 131, kF 132, kF 133, kF 134, kF 1000, kF 1001, kF 1002, kF 1003]
 refine sq (rg (zk (nl (sq (rg (zm ?_))))))
 refine z ?_ (h := fun ν => acts_callO (d := 11) (f := 39) (os := []) (os' := [(.o 11, some (.o ⟨24, 1, true, rwI 3 m⟩))]) (r := V.b (.a (.sl 11 0 m.length))) (bs := [.a (.slvv 1 (vwI m))]) (keep := []) (new := [11]) (dead := []) ν (FnO.ren' (impl_copyRows_fn m (by first | omega | assumption) (by first | omega | assumption)) (subst1 [(900, 11)]) rfl rfl (by kernel_rfl) (by kernel_rfl) ⟨oc_rwI, trivial⟩ (by kernel_rfl) rfl (by simp only [renS, Ob.ren, pl_ren, rws_ren_doms, rws_ren_ints, rws_ren_cels, rwI_ren, rwD_ren]; first | done | rfl) (by simp only [renS, Ob.ren, pl_ren, rws_ren_doms, rws_ren_ints, rws_ren_cels, rwI_ren, rwD_ren]; first | done | rfl) rfl rfl) (by kernel_rfl) ⟨oc_rwI, trivial⟩ (by kernel_rfl) (ArgOs.cons (ArgO.slot 10 (.a (.slvv 1 (vwI m)))) (ArgOs.nil)))
 refine za (nl (sq (rg (zm ?_))))
 refine z ?_ (h := fun ν => lnS ν qD3_un_29)
 refine za (zk (zk (nl (sq (sq (rg (zk (nl (bkk ?_)))))))))
 refine wp_loop' (fun ((k, M, sg, bf) : Nat × (List (List Int)) × Int × Int) => k ≤ m.length ∧ (k < m.length ∨ k = 0) ∧ sqD m.length M ∧ (sg = 1 ∨ sg = -1) ∧ bf ≠ 0 ∧ detE (m.length - k) k (gM M) sg bf = detV m) (fun ((k, M, sg, bf) : Nat × (List (List Int)) × Int × Int) => [kS 0 11 0 M.length, kI 3 ((m.length : Nat) : Int), kI 4 sg, kI 5 bf, kI 6 ((k : Nat) : Int), kO 11 24 1 true (rwI 3 M), kF 13, kF 131, kF 132, kF 133, kF 134, kF 1000, kF 1001, kF 1002, kF 1003]) (fun ((k, M, sg, bf) : Nat × (List (List Int)) × Int × Int) => m.length - k) ((0 : Nat), (m : List (List Int)), (1 : Int), (1 : Int)) (by exact ⟨Nat.zero_le _, .inr rfl, hd, .inl rfl, by decide, rfl⟩) (wkf id (wS <| wS <| wS <| wS <| wE (e := (vint (by first | rfl | omega))) <| wQI <| by (iterate 9 refine wF ?_); exact wN)) ?_
 rintro ⟨k, M, sg, bf⟩ inv1
 replace inv1 : k ≤ m.length ∧ (k < m.length ∨ k = 0) ∧ sqD m.length M ∧ (sg = 1 ∨ sg = -1) ∧ bf ≠ 0 ∧ detE (m.length - k) k (gM M) sg bf = detV m := inv1
 obtain ⟨hk, hk0, hsq, hsg, hbf, hdet⟩ := inv1
 have hML := hsq.1
 have hMr := hsq.2
 have hsgb : -1 ≤ sg ∧ sg ≤ 1 := by omega
 refine sq (sq (rg (zm ?_)))
 refine z ?_ (h := fun ν => acts_bin ν vt vc (rA (by first | omega | assumption) (by first | omega | assumption)))
 refine zm ?_
 refine z ?_ (h := fun ν => acts_bin ν vt vt (r_lss rfl))
 refine nl ?_
 refine wi (fun c2 => ?_) (fun c2 => ?_)
 ·skip
  have c2P := of_decide_eq_true c2
  refine sk (sq (bkk (sq (rg (zm (za (nl (sq (bkk ?_)))))))))
  refine wp_loop' (fun (p : Nat) => k ≤ p ∧ p ≤ m.length ∧ ∀ a, k ≤ a → a < p → gM M a k = 0) (fun (p : Nat) => [kS 0 11 0 M.length, kI 3 ((m.length : Nat) : Int), kI 4 sg, kI 5 bf, kI 6 ((k : Nat) : Int), kI 7 ((p : Nat) : Int), kO 11 24 1 true (rwI 3 M), kF 13, kF 131, kF 132, kF 133, kF 134, kF 1000, kF 1001, kF 1002, kF 1003]) (fun (p : Nat) => m.length - p) ((k : Nat)) (by exact ⟨Nat.le_refl _, by omega, fun a h1 h2 => absurd h1 (by omega)⟩) (wkf id (wS <| wS <| wS <| wS <| wS <| wS <| wQI <| by (iterate 9 refine wF ?_); exact wN)) ?_
  rintro p inv3
  replace inv3 : k ≤ p ∧ p ≤ m.length ∧ ∀ a, k ≤ a → a < p → gM M a k = 0 := inv3
  obtain ⟨hp1, hp2, hz⟩ := inv3
  refine sq (sq ?_)
  refine wp_join [kB 33 ((decide (((p : Nat) : Int) < ((m.length : Nat) : Int))) && (decide ((gI (gLs M p) k) = 0))), kS 0 11 0 M.length, kI 3 ((m.length : Nat) : Int), kI 4 sg, kI 5 bf, kI 6 ((k : Nat) : Int), kI 7 ((p : Nat) : Int), kO 11 24 1 true (rwI 3 M), kF 131, kF 132, kF 133, kF 134, kF 1000, kF 1001, kF 1002, kF 1003] ?_ ?_
  ·skip
   rcases Bool.eq_false_or_eq_true (decide (((p : Nat) : Int) < ((m.length : Nat) : Int))) with c4 | c4
   ·skip
    have c4P := of_decide_eq_true c4
    have hrp := hMr p (by omega)
    refine wp_weak (up1 (h := 11) (h1 := 13) (T := 3) (T0 := 24) (s0 := 1) (ex0 := true) (L := M) p (by first | omega | assumption)) ?_
    refine rg (zm (zm ?_))
    refine z ?_ (h := fun ν => acts_bin ν vt vt (r_lss (c := true) c4))
    refine zm ?_
    refine zg ?_ (h := fun ν => step_on rfl rfl (mt ν))
    refine zg ?_ (h := fun ν => step_on rfl rfl (mt ν))
    refine zg ?_ (h := fun ν => step_on rfl rfl (ix0 ν qD3_un_29 qD3_sz_24 vt (hlt := (by first | omega | assumption))))
    refine zg ?_ (h := fun ν => step_on rfl rfl (lu1 (i := p) ν qD3_ti_24 (by simp only [rwI_len, rwD_len]; first | omega | assumption)))
    refine zg ?_ (h := fun ν => step_on rfl rfl (mt ν))
    refine zg ?_ (h := fun ν => step_on rfl rfl (ix0 ν qD3_un_24 qD3_sz_3 vt (hlt := (by first | omega | assumption))))
    refine zg ?_ (h := fun ν => step_on rfl rfl (lI ν qD3_ti_3 (by first | omega | assumption)))
    refine zg ?_ (h := fun ν => step_on rfl rfl (acts_bin ν vt vc (r_eql rfl)))
    refine z ?_ (h := fun ν => acts_pick_t ν vt xt)
    refine nl ?_
    exact ⟨rfl, weak_trans (qk1 (h := 11) (T := 3) (T0 := 24) (s0 := 1) (ex0 := true) (h1 := 13) (n := ((gLs M p).length)) (L := M) (L2 := M) (r := (gLs M p)) p (by first | (first | omega | assumption) | (rw [List.length_set]; first | omega | assumption)) (by first | rfl | (first | omega | assumption) | (simp; done)) (set_gLs (by first | omega | assumption))) <| weak_reads ⟨(by simp only [c4]; first | done | kernel_rfl), (by repeat (first | exact trivial | refine ⟨by kernel_rfl, ?_⟩))⟩⟩
   ·skip
    have c4P := of_decide_eq_false c4
    refine rg (zm (zm ?_))
    refine z ?_ (h := fun ν => acts_bin ν vt vt (r_lss (c := false) c4))
    refine zm (zo (zo (zo (zo (zo (zo (zo (zo ?_))))))))
    refine z ?_ (h := fun ν => acts_pick_f ν vt xc)
    refine nl ?_
    exact ⟨rfl, weak_reads ⟨(by simp only [c4]; first | done | kernel_rfl), (by repeat (first | exact trivial | refine ⟨by kernel_rfl, ?_⟩))⟩⟩
  refine wi (b := ((decide (((p : Nat) : Int) < ((m.length : Nat) : Int))) && (decide ((gI (gLs M p) k) = 0)))) (fun c5 => ?_) (fun c5 => ?_)
  ·skip
   obtain ⟨c6, c7⟩ := and_tt c5
   have c6P := of_decide_eq_true c6
   have hrp := hMr p (by omega)
   have c7P := of_decide_eq_true c7
   refine sk (bkk (rg (zm ?_)))
   refine z ?_ (h := fun ν => acts_bin ν vt vc (rA (by first | omega | assumption) (by first | omega | assumption)))
   refine za (nl ?_)
   exact Exists.intro ((p + 1)) (And.intro (by exact ⟨by omega, by omega, piv_s hz (by assumption)⟩) (And.intro (by show m.length - (p + 1) < m.length - p; omega) (wkf id (wS <| wS <| wS <| wS <| wS <| wE (e := (vint (by first | rfl | omega | (simp; done) | (simp; omega)))) <| wQI <| by (iterate 9 refine wF ?_); exact wN))))
  ·skip
   have hnand := nand3 c5
   have c8 := and_ff c5
   refine wp_exit' (sq (sq (rg (zm (zm ?_)))))
   refine z ?_ (h := fun ν => acts_bin ν vt vt (r_eql rfl))
   refine nl ?_
   refine wi (fun c9 => ?_) (fun c9 => ?_)
   ·skip
    have c9P := of_decide_eq_true c9
    refine sq (rg (zk (nl (wp_ret' ?_))))
    exact VRes.tmp _ _ _ (by exact rfl) (bval (congrArg (Value.int .i64) (by (rw [← hdet, det_none (by omega) (fun i h1 h2 => hz i h1 (by omega))]))))
   ·skip
    have c9P := of_decide_eq_false c9
    have hpl : p < m.length := by omega
    have hnz : gI (gLs M p) k ≠ 0 := fun e => hnand ⟨by omega, e⟩
    have hrp := hMr p (by omega)
    have hrk := hMr k (by omega)
    refine sk (sq (sq (rg (zm (zm ?_)))))
    refine z ?_ (h := fun ν => acts_bin ν vt vt (r_neq rfl))
    refine nl ?_
    refine wi (fun c10 => ?_) (fun c10 => ?_)
    ·skip
     have c10P := of_decide_eq_true c10
     have hs1 : sqD m.length ((M.set p (gLs M k)).set k (gLs M p)) := sqD_sw hsq (by omega) hpl
     have hs1l := hs1.1
     refine sq ?_
     refine wp_weak (up1 (h := 11) (h1 := 131) (T := 3) (T0 := 24) (s0 := 1) (ex0 := true) (L := M) k (by first | omega | assumption)) ?_
     refine wp_weak (up2 (h := 11) (h1 := 132) (T := 3) (T0 := 24) (s0 := 1) (ex0 := true) (L := M) (i := k) (a := (.sl 131 0 ((gLs M k).length))) p (by first | omega | assumption) (by first | omega | assumption)) ?_
     refine wp_dr (zdm (zdm (zdm (zdm (zdm (zdm ?_))))))
     refine zd ?_ (h := fun ν => ix0 ν qD3_un_29 qD3_sz_24 vt (hlt := (by first | omega | assumption)))
     refine zd ?_ (h := fun ν => lu2 (i := k) (j := p) ν qD3_ti_24 (by simp only [rwI_len, rwD_len]; first | omega | assumption) (by first | omega | assumption))
     refine zdm (zdm ?_)
     refine zd ?_ (h := fun ν => ix0 ν qD3_un_29 qD3_sz_24 vt (hlt := (by first | omega | assumption)))
     refine zd ?_ (h := fun ν => lw2 (j := p) ν qD3_ti_24 (by simp only [rwI_len, rwD_len]; first | omega | assumption))
     refine zd ?_ (h := fun ν => ix0 ν qD3_un_29 qD3_sz_24 vt (hlt := (by first | omega | assumption)))
     refine zd ?_ (h := fun _ => sw2 (j := p) qD3_ti_24 xt (by simp only [rwI_len, rwD_len]; first | omega | assumption))
     refine zd ?_ (h := fun ν => ix0 ν qD3_un_29 qD3_sz_24 vt (hlt := (by first | omega | assumption)))
     refine zd ?_ (h := fun _ => su2 (i := k) (j := p) qD3_ti_24 xt (by simp only [rwI_len, rwD_len]; first | omega | assumption) (by first | omega | assumption))
     refine dw_nil ?_
     refine wp_weak (qk2 (h := 11) (T := 3) (T0 := 24) (s0 := 1) (ex0 := true) (h1 := 131) (n := ((gLs M k).length)) (L := M) (L2 := (M.set p (gLs M k))) (r := (gLs M k)) (i := k) (a := (.sl 132 0 ((gLs M p).length))) p (by first | omega | assumption) (by first | omega | assumption) (by first | rfl | (first | omega | assumption) | (simp; done)) rfl) ?_
     refine wp_weak (qk1 (h := 11) (T := 3) (T0 := 24) (s0 := 1) (ex0 := true) (h1 := 132) (n := ((gLs M p).length)) (L := (M.set p (gLs M k))) (L2 := ((M.set p (gLs M k)).set k (gLs M p))) (r := (gLs M p)) k (by first | (first | omega | assumption) | (rw [List.length_set]; first | omega | assumption)) (by first | rfl | (first | omega | assumption) | (simp; done)) rfl) ?_
     refine rg (zm ?_)
     refine z ?_ (h := fun ν => acts_un ν vt (r_neg (w64 (by first | omega | assumption) (by first | omega | assumption))))
     refine za (nl (sq (sq (rg (zm ?_)))))
     refine z ?_ (h := fun ν => acts_bin ν vt vc (rA (by first | omega | assumption) (by first | omega | assumption)))
     refine za (nl (bkk ?_))
     refine wp_loop' (fun ((i, X) : Nat × (List (List Int))) => k + 1 ≤ i ∧ i ≤ m.length ∧ X = elM false m.length ((M.set p (gLs M k)).set k (gLs M p)) k bf i) (fun ((i, X) : Nat × (List (List Int))) => [kS 0 11 0 X.length, kI 3 ((m.length : Nat) : Int), kI 4 (-sg), kI 5 bf, kI 6 ((k : Nat) : Int), kI 8 ((i : Nat) : Int), kO 11 24 1 true (rwI 3 X), kF 133, kF 134, kF 1000, kF 1001, kF 1002, kF 1003]) (fun ((i, X) : Nat × (List (List Int))) => m.length - i) (((k + 1) : Nat), (((M.set p (gLs M k)).set k (gLs M p)) : List (List Int))) (by exact ⟨by omega, by omega, Eq.symm (elM_zero hs1.1)⟩) (wkf id (wE (e := (vsl (by first | rfl | (simp; done) | (simp; omega) | omega | (exact congrArg List.length (by first | rfl | omega | (simp; done) | (simp; omega)))) rfl)) <| wS <| wS <| wS <| wS <| wE (e := (vint (by first | rfl | omega | (simp; done) | (simp; omega)))) <| wQI <| wF <| wF <| wF <| wF <| wF <| wF <| wN)) ?_
     rintro ⟨i, X⟩ inv11
     replace inv11 : k + 1 ≤ i ∧ i ≤ m.length ∧ X = elM false m.length ((M.set p (gLs M k)).set k (gLs M p)) k bf i := inv11
     obtain ⟨hi1, hi2, hX⟩ := inv11
     have hXl : X.length = m.length := by rw [hX]; exact elM_len _ _ _ _ _ _
     have hXr : ∀ a, a < m.length → (gLs X a).length = m.length := by rw [hX]; exact (sqD_el hs1).2
     have hXk := hXr k (by omega)
     refine sq (sq (rg (zm (zm ?_))))
     refine z ?_ (h := fun ν => acts_bin ν vt vt (r_lss rfl))
     refine nl ?_
     refine wi (fun c12 => ?_) (fun c12 => ?_)
     ·skip
      have c12P := of_decide_eq_true c12
      refine sk (sq (bkk (sq (rg (zm ?_)))))
      refine z ?_ (h := fun ν => acts_bin ν vt vc (rA (by first | omega | assumption) (by first | omega | assumption)))
      refine za (nl (bkk ?_))
      refine wp_loop' (fun ((j, Y) : Nat × (List (List Int))) => k + 1 ≤ j ∧ j ≤ m.length ∧ Y = elX false m.length ((M.set p (gLs M k)).set k (gLs M p)) k bf i j) (fun ((j, Y) : Nat × (List (List Int))) => [kS 0 11 0 Y.length, kI 3 ((m.length : Nat) : Int), kI 4 (-sg), kI 5 bf, kI 6 ((k : Nat) : Int), kI 8 ((i : Nat) : Int), kI 9 ((j : Nat) : Int), kO 11 24 1 true (rwI 3 Y), kF 133, kF 134, kF 1000, kF 1001, kF 1002, kF 1003]) (fun ((j, Y) : Nat × (List (List Int))) => m.length - j) (((k + 1) : Nat), (X : List (List Int))) (by exact ⟨by omega, by omega, by rw [hX]; exact Eq.symm (elX_zero (by omega) (hs1.2 i (by omega)))⟩) (wkf id (wS <| wS <| wS <| wS <| wS <| wS <| wE (e := (vint (by first | rfl | omega | (simp; done) | (simp; omega)))) <| wQI <| wF <| wF <| wF <| wF <| wF <| wF <| wN)) ?_
      rintro ⟨j, Y⟩ inv13
      replace inv13 : k + 1 ≤ j ∧ j ≤ m.length ∧ Y = elX false m.length ((M.set p (gLs M k)).set k (gLs M p)) k bf i j := inv13
      obtain ⟨hj1, hj2, hY⟩ := inv13
      have hYl : Y.length = m.length := by rw [hY, elX_len]
      have hYi : (gLs Y i).length = m.length := by rw [hY, elX_i (by omega), elR_len]
      have hYk : (gLs Y k).length = m.length := by rw [hY, elX_k (by omega) (by omega)]; exact hs1.2 k (by omega)
      refine sq (sq (rg (zm (zm ?_))))
      refine z ?_ (h := fun ν => acts_bin ν vt vt (r_lss rfl))
      refine nl ?_
      refine wi (fun c14 => ?_) (fun c14 => ?_)
      ·skip
       have c14P := of_decide_eq_true c14
       refine sk (sq (bkk ?_))
       refine wp_weak (up1 (h := 11) (h1 := 133) (T := 3) (T0 := 24) (s0 := 1) (ex0 := true) (L := Y) k (by first | omega | assumption)) ?_
       refine wp_weak (up2 (h := 11) (h1 := 134) (T := 3) (T0 := 24) (s0 := 1) (ex0 := true) (L := Y) (i := k) (a := (.sl 133 0 ((gLs Y k).length))) i (by first | omega | assumption) (by first | omega | assumption)) ?_
       refine wp_dr (zdm (zdm ?_))
       refine zd ?_ (h := fun ν => ix0 ν qD3_un_29 qD3_sz_24 vt (hlt := (by first | omega | assumption)))
       refine zd ?_ (h := fun ν => lw2 (j := i) ν qD3_ti_24 (by simp only [rwI_len, rwD_len]; first | omega | assumption))
       refine zdm (zdm (zdm ?_))
       refine zd ?_ (h := fun ν => ix0 ν qD3_un_29 qD3_sz_24 vt (hlt := (by first | omega | assumption)))
       refine zd ?_ (h := fun ν => lw2 (j := i) ν qD3_ti_24 (by simp only [rwI_len, rwD_len]; first | omega | assumption))
       refine zdm ?_
       refine zd ?_ (h := fun ν => ix0 ν qD3_un_24 qD3_sz_3 vt (hlt := (by first | omega | assumption)))
       refine zd ?_ (h := fun ν => lI ν qD3_ti_3 (by first | omega | assumption))
       refine zdm (zdm ?_)
       refine zd ?_ (h := fun ν => ix0 ν qD3_un_29 qD3_sz_24 vt (hlt := (by first | omega | assumption)))
       refine zd ?_ (h := fun ν => lu2 (i := k) (j := i) ν qD3_ti_24 (by simp only [rwI_len, rwD_len]; first | omega | assumption) (by first | omega | assumption))
       refine zdm ?_
       refine zd ?_ (h := fun ν => ix0 ν qD3_un_24 qD3_sz_3 vt (hlt := (by first | omega | assumption)))
       refine zd ?_ (h := fun ν => lI ν qD3_ti_3 (by first | omega | assumption))
       refine zd ?_ (h := fun ν => acts_bin ν vt vt (r_mul (c := (mW (gI (gLs Y i) j) (gI (gLs Y k) k))) rfl))
       refine zdm (zdm ?_)
       refine zd ?_ (h := fun ν => ix0 ν qD3_un_29 qD3_sz_24 vt (hlt := (by first | omega | assumption)))
       refine zd ?_ (h := fun ν => lw2 (j := i) ν qD3_ti_24 (by simp only [rwI_len, rwD_len]; first | omega | assumption))
       refine zdm ?_
       refine zd ?_ (h := fun ν => ix0 ν qD3_un_24 qD3_sz_3 vt (hlt := (by first | omega | assumption)))
       refine zd ?_ (h := fun ν => lI ν qD3_ti_3 (by first | omega | assumption))
       refine zdm (zdm ?_)
       refine zd ?_ (h := fun ν => ix0 ν qD3_un_29 qD3_sz_24 vt (hlt := (by first | omega | assumption)))
       refine zd ?_ (h := fun ν => lu2 (i := k) (j := i) ν qD3_ti_24 (by simp only [rwI_len, rwD_len]; first | omega | assumption) (by first | omega | assumption))
       refine zdm ?_
       refine zd ?_ (h := fun ν => ix0 ν qD3_un_24 qD3_sz_3 vt (hlt := (by first | omega | assumption)))
       refine zd ?_ (h := fun ν => lI ν qD3_ti_3 (by first | omega | assumption))
       refine zd ?_ (h := fun ν => acts_bin ν vt vt (r_mul (c := (mW (gI (gLs Y i) k) (gI (gLs Y k) j))) rfl))
       refine zd ?_ (h := fun ν => acts_bin ν vt vt (r_sub (c := (xW (mW (gI (gLs Y i) j) (gI (gLs Y k) k)) (mW (gI (gLs Y i) k) (gI (gLs Y k) j)))) rfl))
       refine zdm ?_
       refine zd ?_ (h := fun ν => acts_bin ν vt vt (r_quo (c := (qW (xW (mW (gI (gLs Y i) j) (gI (gLs Y k) k)) (mW (gI (gLs Y i) k) (gI (gLs Y k) j))) bf)) (by first | omega | assumption) rfl))
       refine zd ?_ (h := fun ν => ix0 ν qD3_un_24 qD3_sz_3 vt (hlt := (by first | omega | assumption)))
       refine zd ?_ (h := fun _ => sI qD3_ti_3 xt (by first | omega | assumption))
       refine dw_nil ?_
       refine wp_weak (qk2 (h := 11) (T := 3) (T0 := 24) (s0 := 1) (ex0 := true) (h1 := 134) (n := ((gLs Y i).length)) (L := Y) (L2 := (Y.set i ((gLs Y i).set j (qW (xW (mW (gI (gLs Y i) j) (gI (gLs Y k) k)) (mW (gI (gLs Y i) k) (gI (gLs Y k) j))) bf)))) (r := ((gLs Y i).set j (qW (xW (mW (gI (gLs Y i) j) (gI (gLs Y k) k)) (mW (gI (gLs Y i) k) (gI (gLs Y k) j))) bf))) (i := k) (a := (.sl 133 0 ((gLs Y k).length))) i (by first | omega | assumption) (by first | omega | assumption) (by first | rfl | (first | omega | assumption) | (simp; done)) rfl) ?_
       refine wp_weak (qk1 (h := 11) (T := 3) (T0 := 24) (s0 := 1) (ex0 := true) (h1 := 133) (n := ((gLs Y k).length)) (L := (Y.set i ((gLs Y i).set j (qW (xW (mW (gI (gLs Y i) j) (gI (gLs Y k) k)) (mW (gI (gLs Y i) k) (gI (gLs Y k) j))) bf)))) (L2 := (Y.set i ((gLs Y i).set j (qW (xW (mW (gI (gLs Y i) j) (gI (gLs Y k) k)) (mW (gI (gLs Y i) k) (gI (gLs Y k) j))) bf)))) (r := (gLs Y k)) k (by first | (first | omega | assumption) | (rw [List.length_set]; first | omega | assumption)) (by first | rfl | (first | omega | assumption) | (simp; done)) (set_gLs2 (by first | omega | assumption) (by first | omega | assumption))) ?_
       refine rg (zm ?_)
       refine z ?_ (h := fun ν => acts_bin ν vt vc (rA (by first | omega | assumption) (by first | omega | assumption)))
       refine za (nl ?_)
       exact loop_back ((j + 1), (Y.set i ((gLs Y i).set j (qW (xW (mW (gI (gLs Y i) j) (gI (gLs Y k) k)) (mW (gI (gLs Y i) k) (gI (gLs Y k) j))) bf)))) (by exact ⟨by omega, by omega, by rw [hY]; exact elX_set (by omega) (by omega) (by omega) (by omega) rfl⟩) (by show m.length - (j + 1) < m.length - j; omega) (wkf id (wE (e := (vsl (by first | rfl | (simp; done) | (simp; omega) | omega | (exact congrArg List.length (by first | rfl | omega | (simp; done) | (simp; omega)))) rfl)) <| wS <| wS <| wS <| wS <| wS <| wE (e := (vint (by first | rfl | omega | (simp; done) | (simp; omega)))) <| wQI <| wF <| wF <| wF <| wF <| wF <| wF <| wN))
      ·skip
       have c14P := of_decide_eq_false c14
       refine wp_exit' (rg (zm ?_))
       refine z ?_ (h := fun ν => acts_bin ν vt vc (rA (by first | omega | assumption) (by first | omega | assumption)))
       refine za (nl ?_)
       exact loop_back ((i + 1), Y) (by exact ⟨by omega, by omega, by rw [hY]; exact elX_end (by omega) (by omega) (by omega) (by omega)⟩) (by show m.length - (i + 1) < m.length - i; omega) (wkf id (wS <| wS <| wS <| wS <| wS <| wE (e := (vint (by first | rfl | omega | (simp; done) | (simp; omega)))) <| wQI <| wF <| wF <| wF <| wF <| wF <| wF <| wN))
     ·skip
      have c12P := of_decide_eq_false c12
      refine wp_exit' ?_
      refine wp_weak (up1 (h := 11) (h1 := 133) (T := 3) (T0 := 24) (s0 := 1) (ex0 := true) (L := X) k (by first | omega | assumption)) ?_
      refine rg (zm (zm ?_))
      refine z ?_ (h := fun ν => ix0 ν qD3_un_29 qD3_sz_24 vt (hlt := (by first | omega | assumption)))
      refine z ?_ (h := fun ν => lu1 (i := k) ν qD3_ti_24 (by simp only [rwI_len, rwD_len]; first | omega | assumption))
      refine zm ?_
      refine z ?_ (h := fun ν => ix0 ν qD3_un_24 qD3_sz_3 vt (hlt := (by first | omega | assumption)))
      refine z ?_ (h := fun ν => lI ν qD3_ti_3 (by first | omega | assumption))
      refine za (nl ?_)
      refine wp_weak (qk1 (h := 11) (T := 3) (T0 := 24) (s0 := 1) (ex0 := true) (h1 := 133) (n := ((gLs X k).length)) (L := X) (L2 := X) (r := (gLs X k)) k (by first | (first | omega | assumption) | (rw [List.length_set]; first | omega | assumption)) (by first | rfl | (first | omega | assumption) | (simp; done)) (set_gLs (by first | omega | assumption))) ?_
      refine rg (zm ?_)
      refine z ?_ (h := fun ν => acts_bin ν vt vc (rA (by first | omega | assumption) (by first | omega | assumption)))
      refine za (nl ?_)
      exact loop_back ((k + 1), X, (-sg), (gI (gLs X k) k)) (by (have hb := det_b1 (q := false) (m := i) (b := bf) (s := sg) hsq hp1 hpl (by omega) hz hnz (by omega); have hXs : X = elM false m.length (swp M k p) k bf i := hX; rw [← hXs] at hb; exact ⟨by omega, .inl (by omega), (by rw [hX]; exact sqD_el hs1), by omega, hb.1, hb.2.trans hdet⟩)) (by show m.length - (k + 1) < m.length - k; omega) (wkf id (wS <| wS <| wS <| wS <| wE (e := (vint (by first | rfl | omega))) <| wQI <| by (iterate 9 refine wF ?_); exact wN))
    ·skip
     have c10P := of_decide_eq_false c10
     have hs1 : sqD m.length M := hsq
     have hs1l := hs1.1
     refine sk (sq (sq (rg (zm ?_))))
     refine z ?_ (h := fun ν => acts_bin ν vt vc (rA (by first | omega | assumption) (by first | omega | assumption)))
     refine za (nl (bkk ?_))
     refine wp_loop' (fun ((i, X) : Nat × (List (List Int))) => k + 1 ≤ i ∧ i ≤ m.length ∧ X = elM false m.length M k bf i) (fun ((i, X) : Nat × (List (List Int))) => [kS 0 11 0 X.length, kI 3 ((m.length : Nat) : Int), kI 4 sg, kI 5 bf, kI 6 ((k : Nat) : Int), kI 8 ((i : Nat) : Int), kO 11 24 1 true (rwI 3 X), kF 131, kF 132, kF 133, kF 134, kF 1000, kF 1001, kF 1002, kF 1003]) (fun ((i, X) : Nat × (List (List Int))) => m.length - i) (((k + 1) : Nat), (M : List (List Int))) (by exact ⟨by omega, by omega, Eq.symm (elM_zero hs1.1)⟩) (wkf id (wS <| wS <| wS <| wS <| wS <| wE (e := (vint (by first | rfl | omega | (simp; done) | (simp; omega)))) <| wQI <| wF <| wF <| wF <| wF <| wF <| wF <| wF <| wF <| wN)) ?_
     rintro ⟨i, X⟩ inv15
     replace inv15 : k + 1 ≤ i ∧ i ≤ m.length ∧ X = elM false m.length M k bf i := inv15
     obtain ⟨hi1, hi2, hX⟩ := inv15
     have hXl : X.length = m.length := by rw [hX]; exact elM_len _ _ _ _ _ _
     have hXr : ∀ a, a < m.length → (gLs X a).length = m.length := by rw [hX]; exact (sqD_el hs1).2
     have hXk := hXr k (by omega)
     refine sq (sq (rg (zm (zm ?_))))
     refine z ?_ (h := fun ν => acts_bin ν vt vt (r_lss rfl))
     refine nl ?_
     refine wi (fun c16 => ?_) (fun c16 => ?_)
     ·skip
      have c16P := of_decide_eq_true c16
      refine sk (sq (bkk (sq (rg (zm ?_)))))
      refine z ?_ (h := fun ν => acts_bin ν vt vc (rA (by first | omega | assumption) (by first | omega | assumption)))
      refine za (nl (bkk ?_))
      refine wp_loop' (fun ((j, Y) : Nat × (List (List Int))) => k + 1 ≤ j ∧ j ≤ m.length ∧ Y = elX false m.length M k bf i j) (fun ((j, Y) : Nat × (List (List Int))) => [kS 0 11 0 Y.length, kI 3 ((m.length : Nat) : Int), kI 4 sg, kI 5 bf, kI 6 ((k : Nat) : Int), kI 8 ((i : Nat) : Int), kI 9 ((j : Nat) : Int), kO 11 24 1 true (rwI 3 Y), kF 131, kF 132, kF 133, kF 134, kF 1000, kF 1001, kF 1002, kF 1003]) (fun ((j, Y) : Nat × (List (List Int))) => m.length - j) (((k + 1) : Nat), (X : List (List Int))) (by exact ⟨by omega, by omega, by rw [hX]; exact Eq.symm (elX_zero (by omega) (hs1.2 i (by omega)))⟩) (wkf id (wS <| wS <| wS <| wS <| wS <| wS <| wE (e := (vint (by first | rfl | omega | (simp; done) | (simp; omega)))) <| wQI <| wF <| wF <| wF <| wF <| wF <| wF <| wF <| wF <| wN)) ?_
      rintro ⟨j, Y⟩ inv17
      replace inv17 : k + 1 ≤ j ∧ j ≤ m.length ∧ Y = elX false m.length M k bf i j := inv17
      obtain ⟨hj1, hj2, hY⟩ := inv17
      have hYl : Y.length = m.length := by rw [hY, elX_len]
      have hYi : (gLs Y i).length = m.length := by rw [hY, elX_i (by omega), elR_len]
      have hYk : (gLs Y k).length = m.length := by rw [hY, elX_k (by omega) (by omega)]; exact hs1.2 k (by omega)
      refine sq (sq (rg (zm (zm ?_))))
      refine z ?_ (h := fun ν => acts_bin ν vt vt (r_lss rfl))
      refine nl ?_
      refine wi (fun c18 => ?_) (fun c18 => ?_)
      ·skip
       have c18P := of_decide_eq_true c18
       refine sk (sq (bkk ?_))
       refine wp_weak (up1 (h := 11) (h1 := 131) (T := 3) (T0 := 24) (s0 := 1) (ex0 := true) (L := Y) k (by first | omega | assumption)) ?_
       refine wp_weak (up2 (h := 11) (h1 := 132) (T := 3) (T0 := 24) (s0 := 1) (ex0 := true) (L := Y) (i := k) (a := (.sl 131 0 ((gLs Y k).length))) i (by first | omega | assumption) (by first | omega | assumption)) ?_
       refine wp_dr (zdm (zdm ?_))
       refine zd ?_ (h := fun ν => ix0 ν qD3_un_29 qD3_sz_24 vt (hlt := (by first | omega | assumption)))
       refine zd ?_ (h := fun ν => lw2 (j := i) ν qD3_ti_24 (by simp only [rwI_len, rwD_len]; first | omega | assumption))
       refine zdm (zdm (zdm ?_))
       refine zd ?_ (h := fun ν => ix0 ν qD3_un_29 qD3_sz_24 vt (hlt := (by first | omega | assumption)))
       refine zd ?_ (h := fun ν => lw2 (j := i) ν qD3_ti_24 (by simp only [rwI_len, rwD_len]; first | omega | assumption))
       refine zdm ?_
       refine zd ?_ (h := fun ν => ix0 ν qD3_un_24 qD3_sz_3 vt (hlt := (by first | omega | assumption)))
       refine zd ?_ (h := fun ν => lI ν qD3_ti_3 (by first | omega | assumption))
       refine zdm (zdm ?_)
       refine zd ?_ (h := fun ν => ix0 ν qD3_un_29 qD3_sz_24 vt (hlt := (by first | omega | assumption)))
       refine zd ?_ (h := fun ν => lu2 (i := k) (j := i) ν qD3_ti_24 (by simp only [rwI_len, rwD_len]; first | omega | assumption) (by first | omega | assumption))
       refine zdm ?_
       refine zd ?_ (h := fun ν => ix0 ν qD3_un_24 qD3_sz_3 vt (hlt := (by first | omega | assumption)))
       refine zd ?_ (h := fun ν => lI ν qD3_ti_3 (by first | omega | assumption))
       refine zd ?_ (h := fun ν => acts_bin ν vt vt (r_mul (c := (mW (gI (gLs Y i) j) (gI (gLs Y k) k))) rfl))
       refine zdm (zdm ?_)
       refine zd ?_ (h := fun ν => ix0 ν qD3_un_29 qD3_sz_24 vt (hlt := (by first | omega | assumption)))
       refine zd ?_ (h := fun ν => lw2 (j := i) ν qD3_ti_24 (by simp only [rwI_len, rwD_len]; first | omega | assumption))
       refine zdm ?_
       refine zd ?_ (h := fun ν => ix0 ν qD3_un_24 qD3_sz_3 vt (hlt := (by first | omega | assumption)))
       refine zd ?_ (h := fun ν => lI ν qD3_ti_3 (by first | omega | assumption))
       refine zdm (zdm ?_)
       refine zd ?_ (h := fun ν => ix0 ν qD3_un_29 qD3_sz_24 vt (hlt := (by first | omega | assumption)))
       refine zd ?_ (h := fun ν => lu2 (i := k) (j := i) ν qD3_ti_24 (by simp only [rwI_len, rwD_len]; first | omega | assumption) (by first | omega | assumption))
       refine zdm ?_
       refine zd ?_ (h := fun ν => ix0 ν qD3_un_24 qD3_sz_3 vt (hlt := (by first | omega | assumption)))
       refine zd ?_ (h := fun ν => lI ν qD3_ti_3 (by first | omega | assumption))
       refine zd ?_ (h := fun ν => acts_bin ν vt vt (r_mul (c := (mW (gI (gLs Y i) k) (gI (gLs Y k) j))) rfl))
       refine zd ?_ (h := fun ν => acts_bin ν vt vt (r_sub (c := (xW (mW (gI (gLs Y i) j) (gI (gLs Y k) k)) (mW (gI (gLs Y i) k) (gI (gLs Y k) j)))) rfl))
       refine zdm ?_
       refine zd ?_ (h := fun ν => acts_bin ν vt vt (r_quo (c := (qW (xW (mW (gI (gLs Y i) j) (gI (gLs Y k) k)) (mW (gI (gLs Y i) k) (gI (gLs Y k) j))) bf)) (by first | omega | assumption) rfl))
       refine zd ?_ (h := fun ν => ix0 ν qD3_un_24 qD3_sz_3 vt (hlt := (by first | omega | assumption)))
       refine zd ?_ (h := fun _ => sI qD3_ti_3 xt (by first | omega | assumption))
       refine dw_nil ?_
       refine wp_weak (qk2 (h := 11) (T := 3) (T0 := 24) (s0 := 1) (ex0 := true) (h1 := 132) (n := ((gLs Y i).length)) (L := Y) (L2 := (Y.set i ((gLs Y i).set j (qW (xW (mW (gI (gLs Y i) j) (gI (gLs Y k) k)) (mW (gI (gLs Y i) k) (gI (gLs Y k) j))) bf)))) (r := ((gLs Y i).set j (qW (xW (mW (gI (gLs Y i) j) (gI (gLs Y k) k)) (mW (gI (gLs Y i) k) (gI (gLs Y k) j))) bf))) (i := k) (a := (.sl 131 0 ((gLs Y k).length))) i (by first | omega | assumption) (by first | omega | assumption) (by first | rfl | (first | omega | assumption) | (simp; done)) rfl) ?_
       refine wp_weak (qk1 (h := 11) (T := 3) (T0 := 24) (s0 := 1) (ex0 := true) (h1 := 131) (n := ((gLs Y k).length)) (L := (Y.set i ((gLs Y i).set j (qW (xW (mW (gI (gLs Y i) j) (gI (gLs Y k) k)) (mW (gI (gLs Y i) k) (gI (gLs Y k) j))) bf)))) (L2 := (Y.set i ((gLs Y i).set j (qW (xW (mW (gI (gLs Y i) j) (gI (gLs Y k) k)) (mW (gI (gLs Y i) k) (gI (gLs Y k) j))) bf)))) (r := (gLs Y k)) k (by first | (first | omega | assumption) | (rw [List.length_set]; first | omega | assumption)) (by first | rfl | (first | omega | assumption) | (simp; done)) (set_gLs2 (by first | omega | assumption) (by first | omega | assumption))) ?_
       refine rg (zm ?_)
       refine z ?_ (h := fun ν => acts_bin ν vt vc (rA (by first | omega | assumption) (by first | omega | assumption)))
       refine za (nl ?_)
       exact loop_back ((j + 1), (Y.set i ((gLs Y i).set j (qW (xW (mW (gI (gLs Y i) j) (gI (gLs Y k) k)) (mW (gI (gLs Y i) k) (gI (gLs Y k) j))) bf)))) (by exact ⟨by omega, by omega, by rw [hY]; exact elX_set (by omega) (by omega) (by omega) (by omega) rfl⟩) (by show m.length - (j + 1) < m.length - j; omega) (wkf id (wE (e := (vsl (by first | rfl | (simp; done) | (simp; omega) | omega | (exact congrArg List.length (by first | rfl | omega | (simp; done) | (simp; omega)))) rfl)) <| wS <| wS <| wS <| wS <| wS <| wE (e := (vint (by first | rfl | omega | (simp; done) | (simp; omega)))) <| wQI <| wF <| wF <| wF <| wF <| wF <| wF <| wF <| wF <| wN))
      ·skip
       have c18P := of_decide_eq_false c18
       refine wp_exit' (rg (zm ?_))
       refine z ?_ (h := fun ν => acts_bin ν vt vc (rA (by first | omega | assumption) (by first | omega | assumption)))
       refine za (nl ?_)
       exact loop_back ((i + 1), Y) (by exact ⟨by omega, by omega, by rw [hY]; exact elX_end (by omega) (by omega) (by omega) (by omega)⟩) (by show m.length - (i + 1) < m.length - i; omega) (wkf id (wS <| wS <| wS <| wS <| wS <| wE (e := (vint (by first | rfl | omega | (simp; done) | (simp; omega)))) <| wQI <| wF <| wF <| wF <| wF <| wF <| wF <| wF <| wF <| wN))
     ·skip
      have c16P := of_decide_eq_false c16
      refine wp_exit' ?_
      refine wp_weak (up1 (h := 11) (h1 := 131) (T := 3) (T0 := 24) (s0 := 1) (ex0 := true) (L := X) k (by first | omega | assumption)) ?_
      refine rg (zm (zm ?_))
      refine z ?_ (h := fun ν => ix0 ν qD3_un_29 qD3_sz_24 vt (hlt := (by first | omega | assumption)))
      refine z ?_ (h := fun ν => lu1 (i := k) ν qD3_ti_24 (by simp only [rwI_len, rwD_len]; first | omega | assumption))
      refine zm ?_
      refine z ?_ (h := fun ν => ix0 ν qD3_un_24 qD3_sz_3 vt (hlt := (by first | omega | assumption)))
      refine z ?_ (h := fun ν => lI ν qD3_ti_3 (by first | omega | assumption))
      refine za (nl ?_)
      refine wp_weak (qk1 (h := 11) (T := 3) (T0 := 24) (s0 := 1) (ex0 := true) (h1 := 131) (n := ((gLs X k).length)) (L := X) (L2 := X) (r := (gLs X k)) k (by first | (first | omega | assumption) | (rw [List.length_set]; first | omega | assumption)) (by first | rfl | (first | omega | assumption) | (simp; done)) (set_gLs (by first | omega | assumption))) ?_
      refine rg (zm ?_)
      refine z ?_ (h := fun ν => acts_bin ν vt vc (rA (by first | omega | assumption) (by first | omega | assumption)))
      refine za (nl ?_)
      exact loop_back ((k + 1), X, sg, (gI (gLs X k) k)) (by (have hb := det_b2 (q := false) (m := i) (b := bf) (s := sg) hpl (by omega) hnz (by omega); rw [← hX] at hb; exact ⟨by omega, .inl (by omega), (by rw [hX]; exact sqD_el hs1), by omega, hb.1, hb.2.trans hdet⟩)) (by show m.length - (k + 1) < m.length - k; omega) (wkf id (wS <| wS <| wS <| wS <| wE (e := (vint (by first | rfl | omega))) <| wQI <| by (iterate 9 refine wF ?_); exact wN))
 ·skip
  have c2P := of_decide_eq_false c2
  refine wp_exit' (sq (sq (rg (zm ?_))))
  refine z ?_ (h := fun ν => acts_bin ν vt vc (r_eql rfl))
  refine nl ?_
  refine wi (fun c19 => ?_) (fun c19 => ?_)
  ·skip
   have c19P := of_decide_eq_true c19
   refine sq (rg (zk (nl (wp_ret' ?_))))
   exact VRes.tmp _ _ _ (by exact rfl) (bval (congrArg (Value.int .i64) (by exact Eq.symm (detV_0 (by omega)))))
  ·skip
   have c19P := of_decide_eq_false c19
   have hrk := hMr k (by omega)
   refine sk (sq ?_)
   refine wp_weak (up1 (h := 11) (h1 := 13) (T := 3) (T0 := 24) (s0 := 1) (ex0 := true) (L := M) k (by first | omega | assumption)) ?_
   refine rg (zm (zm (zm ?_)))
   refine z ?_ (h := fun ν => acts_bin ν vt vc (r_sub (c := ((k : Nat) : Int)) (subk (by omega) hm)))
   refine z ?_ (h := fun ν => ix0 ν qD3_un_29 qD3_sz_24 vt (hlt := (by first | omega | assumption)))
   refine z ?_ (h := fun ν => lu1 (i := k) ν qD3_ti_24 (by simp only [rwI_len, rwD_len]; first | omega | assumption))
   refine zm ?_
   refine z ?_ (h := fun ν => acts_bin ν vt vc (r_sub (c := ((k : Nat) : Int)) (subk (by omega) hm)))
   refine z ?_ (h := fun ν => ix0 ν qD3_un_24 qD3_sz_3 vt (hlt := (by first | omega | assumption)))
   refine z ?_ (h := fun ν => lI ν qD3_ti_3 (by first | omega | assumption))
   refine z ?_ (h := fun ν => acts_bin ν vt vt (r_mul (c := (mW sg (gI (gLs M k) k))) rfl))
   refine za (nl ?_)
   refine wp_weak (qk1 (h := 11) (T := 3) (T0 := 24) (s0 := 1) (ex0 := true) (h1 := 13) (n := ((gLs M k).length)) (L := M) (L2 := M) (r := (gLs M k)) k (by first | (first | omega | assumption) | (rw [List.length_set]; first | omega | assumption)) (by first | rfl | (first | omega | assumption) | (simp; done)) (set_gLs (by first | omega | assumption))) ?_
   refine wp_ret' ?_
   exact VRes.tmp _ _ _ (by exact rfl) (bval (congrArg (Value.int .i64) (by (rw [← hdet, det_last (by omega)]; rfl))))

set_option maxHeartbeats 4000000 in
set_option maxRecDepth 100000 in
theorem impl_DeterminantOf_fn (m : List (List Int)) (hm0 : m.length ≤ 4194304) (hr : ∀ k, k < m.length → (gLs m k).length ≤ 4194304) : Fn Try.prog 9 [.a (.slvv 1 (vwI m))] [.val (.int .i64 (detR m))] := by
 refine fn_intro (N := 8) Try.func9 rfl (by kernel_rfl) rfl (Nat.le_of_ble_eq_true rfl) [4, 7] (ret1 rfl) (fun W => ?_)
 show Wp _ _ _ [kV 0 (V.b (.a (.slvv 1 (vwI m)))), kF 4, kF 7]
 refine sq (rg (zk (nl (sq (sq (rg (zm ?_)))))))
 refine z ?_ (h := fun ν => acts_call1 ν (impl_SquareOk_fn m (by first | omega | assumption) (by first | omega | assumption)) (ac (ArgV.slvv _ _ _) an) rv)
 refine z ?_ (h := fun ν => acts_un ν vt (r_not rfl))
 refine nl ?_
 refine wi (b := (!(sqB m))) (fun c1 => ?_) (fun c1 => ?_)
 ·skip
  have c2 : (sqB m) = false := by first | (rw [← Bool.not_eq_true']; exact c1) | simpa using c1
  have hsq0 := c2
  refine sq (rg (zk (nl (wp_ret' ?_))))
  exact VRes.tmp _ _ _ (by exact rfl) (bval (congrArg (Value.int .i64) (by exact (detR_no hsq0).symm)))
 ·skip
  have c3 : (sqB m) = true := by first | (rw [← Bool.not_eq_false']; exact c1) | simpa using c1
  have hsq1 := c3
  have hd := sq_dims c3
  have hm := sq_16 c3
  refine sk (sq (rg (zm ?_)))
  refine z ?_ (h := fun ν => acts_call1 ν (impl_determinant_fn m (by first | omega | assumption) (by first | omega | assumption)) (ac (ArgV.slvv _ _ _) an) rv)
  refine za (nl (wp_ret' ?_))
  exact VRes.tmp _ _ _ (by exact rfl) (bval (congrArg (Value.int .i64) (by exact (detR_yes hsq1).symm)))

set_option maxHeartbeats 4000000 in
set_option maxRecDepth 100000 in
theorem spec_DeterminantOf_fn (m : List (List Int)) (hm0 : m.length ≤ 4194304) (hr : ∀ k, k < m.length → (gLs m k).length ≤ 4194304) : Fn Try.prog 10 [.a (.slvv 1 (vwI m))] [.val (.int .i64 (detR m))] := by
 refine fn_intro (N := 146) Try.func10 rfl (by kernel_rfl) rfl (Nat.le_of_ble_eq_true rfl) [14, 17, 18, 25, 30, 31, 32, 146, 147, 148, 149, 1000, 1001, 1002, 1003] (ret1 rfl) (fun W => ?_)
 show Wp _ _ _ [kV 0 (V.b (.a (.slvv 1 (vwI m)))), kF 14, kF 17, kF 18, kF 25, kF 30, kF 31, kF 32, kF 146, kF 147, kF 148, kF 149, kF 1000, kF 1001, kF 1002, kF 1003]
 refine sq (rg (zk (nl (sq (sq (rg (zm ?_)))))))
 refine z ?_ (h := fun ν => acts_call1 ν (spec_SquareOk_fn m (by first | omega | assumption) (by first | omega | assumption)) (ac (ArgV.slvv _ _ _) an) rv)
 refine z ?_ (h := fun ν => acts_un ν vt (r_not rfl))
 refine nl ?_
 refine wi (b := (!(sqB m))) (fun c1 => ?_) (fun c1 => ?_)
 ·skip
  have c2 : (sqB m) = false := by first | (rw [← Bool.not_eq_true']; exact c1) | simpa using c1
  have hsq0 := c2
  refine sq (rg (zk (nl (wp_ret' ?_))))
  exact VRes.tmp _ _ _ (by exact rfl) (bval (congrArg (Value.int .i64) (by exact (detR_no hsq0).symm)))
 ·skip
  have c3 : (sqB m) = true := by first | (rw [← Bool.not_eq_false']; exact c1) | simpa using c1
  have hsq1 := c3
  have hd := sq_dims c3
  have hm := sq_16 c3
  refine sk (sq (rg (zm ?_)))
  refine z ?_ (h := fun ν => lnI ν qD3_un_29)
  refine za (nl (sq (rg ?_)))
  refine z ?_ (h := fun ν => b0Q (h := 18) (T := 3) ν qD3_un_29 qD3_zi_24)
  refine za (nl (sq (sq (rg (zk (nl (bkk ?_)))))))
  refine wp_loop' (fun (u : Nat) => u ≤ m.length) (fun (u : Nat) => [kV 0 (V.b (.a (.slvv 1 (vwI m)))), kI 3 ((m.length : Nat) : Int), kS 4 18 0 ((m.take u).length), kI 5 ((u : Nat) : Int), kO 18 24 1 true (rwI 3 (m.take u)), kF 14, kF 17, kF 25, kF 30, kF 31, kF 32, kF 146, kF 147, kF 148, kF 149, kF 1000, kF 1001, kF 1002, kF 1003]) (fun (u : Nat) => m.length - u) ((0 : Nat)) (by exact (Nat.zero_le _ : 0 ≤ _)) (wkf id (wS <| wS <| wE (e := (vsl (by first | rfl | (simp; done) | (simp; omega) | omega | (exact congrArg List.length (by first | rfl | omega | (simp; done) | exact take_rows (by omega) | exact Eq.symm (take_rows (by omega))))) rfl)) <| wE (e := (vint (by first | rfl | omega | (simp; done) | exact take_rows (by omega) | exact Eq.symm (take_rows (by omega))))) <| wQI (e := (by first | rfl | omega | (simp; done) | exact take_rows (by omega) | exact Eq.symm (take_rows (by omega)))) <| by (iterate 14 refine wF ?_); exact wN)) ?_
  rintro u inv4
  replace inv4 : u ≤ m.length := inv4
  have invk := inv4
  have htl := List.length_take_of_le (l := m) invk
  refine sq (sq (rg (zm (zm ?_))))
  refine z ?_ (h := fun ν => acts_bin ν vt vt (r_lss rfl))
  refine nl ?_
  refine wi (fun c5 => ?_) (fun c5 => ?_)
  ·skip
   have c5P := of_decide_eq_true c5
   have hru := hr u (by omega)
   refine sk (sq (bkk (rg (zm ?_))))
   refine z ?_ (h := fun ν => b0I (h := 25) ν qD3_un_24 qD3_zi_3)
   refine zm (zm ?_)
   refine z ?_ (h := fun ν => xvv ν qD3_un_29 qD3_sz_24 vt (hlt := (by simp only [vwI_len, vwD_len]; first | omega | assumption)))
   refine z ?_ (h := fun ν => lvI ν qD3_ti_24 (by first | omega | assumption))
   refine z ?_ (h := fun ν => acts_app (h2 := 30) (m := ((gLs m u).length)) (nm := ((gLs m u).length)) (X := .slv ((gLs m u).length) 1 (isl (gLs m u))) (xs := isl []) (ys := isl (gLs m u)) (zs := isl (gLs m u)) ν qD3_un_24 qD3_zi_3 rfl (by decide) (by decide) (by first | exact isl_len _ | (simp [isl_len, bsl_len, dsl_len, csl_len]; done) | (simp [isl_len, bsl_len, dsl_len, csl_len]; omega)) xt (Src.slv _ _ _) (isl_one' _) (by first | omega | (simp; omega) | (simp at *; omega)) (by first | exact (isl_append _ _).symm | rfl | simp [isl_append]) (by first | rfl | (simp; done) | (simp; omega) | omega))
   refine z ?_ (h := fun ν => bs1 (h := 31) ν qD3_un_29 qD3_zi_24 (by exact ⟨_, _, _, .inl rfl⟩))
   refine z ?_ (h := fun ν => aQ (h2 := 32) (nm := ((m.take u) ++ [(gLs m u)]).length) ν qD3_un_29 qD3_zi_24 (by exact ⟨_, _, _, .inl rfl⟩) (by simp [rwI_len, rwD_len]) (by first | omega | (simp; omega) | (first | omega | assumption)) (by simp))
   refine za (nl ?_)
   refine wp_weak (pkI (h := 32) (h1 := 30) (T := 3) (T0 := 24) (s0 := 1) (ex0 := true) (n := ((gLs m u).length)) (L := (m.take u)) (r := (gLs m u))) ?_
   refine rg (zm ?_)
   refine z ?_ (h := fun ν => acts_bin ν vt vc (rA (by first | omega | assumption) (by first | omega | assumption)))
   refine za (nl ?_)
   exact loop_back ((u + 1)) (by show _ ≤ _; omega) (by show m.length - (u + 1) < m.length - u; omega) (wkf (subst1 [(18, 32)]) (wS <| wS <| wE (e := (vsl (by first | rfl | (simp; done) | (simp; omega) | omega | (exact congrArg List.length (by first | rfl | omega | (simp; done) | exact take_rows (by omega) | exact Eq.symm (take_rows (by omega))))) rfl)) <| wE (e := (vint (by first | rfl | omega | (simp; done) | exact take_rows (by omega) | exact Eq.symm (take_rows (by omega))))) <| wQI (e := (by first | rfl | omega | (simp; done) | exact take_rows (by omega) | exact Eq.symm (take_rows (by omega)))) <| by (iterate 14 refine wF ?_); exact wN))
  ·skip
   have c5P := of_decide_eq_false c5
   refine wp_exit' (sq (rg (zk (nl (sq (rg (zk (nl (sq (sq (rg (zk (nl (bkk ?_))))))))))))))
   refine wp_loop' (fun ((k, M, sg, bf) : Nat × (List (List Int)) × Int × Int) => k ≤ m.length ∧ k ≤ m.length ∧ sqD m.length M ∧ (sg = 1 ∨ sg = -1) ∧ bf ≠ 0 ∧ detE (m.length - k) k (gM M) sg bf = detV m) (fun ((k, M, sg, bf) : Nat × (List (List Int)) × Int × Int) => [kI 3 ((m.length : Nat) : Int), kS 4 18 0 M.length, kI 6 sg, kI 7 bf, kI 8 ((k : Nat) : Int), kO 18 24 1 true (rwI 3 M), kF 14, kF 17, kF 25, kF 30, kF 31, kF 32, kF 146, kF 147, kF 148, kF 149, kF 1000, kF 1001, kF 1002, kF 1003]) (fun ((k, M, sg, bf) : Nat × (List (List Int)) × Int × Int) => m.length - k) ((0 : Nat), (m : List (List Int)), (1 : Int), (1 : Int)) (by exact ⟨Nat.zero_le _, Nat.zero_le _, hd, .inl rfl, by decide, rfl⟩) (wkf id (wS <| wE (e := (vsl (by first | rfl | (simp; done) | (simp; omega) | omega | (exact congrArg List.length (by first | omega | exact Eq.symm (List.take_of_length_le (by omega)) | rfl))) rfl)) <| wS <| wS <| wE (e := (vint (by first | omega | exact Eq.symm (List.take_of_length_le (by omega)) | rfl))) <| wQI (e := (by first | omega | exact Eq.symm (List.take_of_length_le (by omega)) | rfl)) <| by (iterate 14 refine wF ?_); exact wN)) ?_
   rintro ⟨k, M, sg, bf⟩ inv6
   replace inv6 : k ≤ m.length ∧ k ≤ m.length ∧ sqD m.length M ∧ (sg = 1 ∨ sg = -1) ∧ bf ≠ 0 ∧ detE (m.length - k) k (gM M) sg bf = detV m := inv6
   obtain ⟨hk, hk0, hsq, hsg, hbf, hdet⟩ := inv6
   have hML := hsq.1
   have hMr := hsq.2
   have hsgb : -1 ≤ sg ∧ sg ≤ 1 := by omega
   refine sq (sq (rg (zm (zm ?_))))
   refine z ?_ (h := fun ν => acts_bin ν vt vt (r_lss rfl))
   refine nl ?_
   refine wi (fun c7 => ?_) (fun c7 => ?_)
   ·skip
    have c7P := of_decide_eq_true c7
    refine sk (sq (bkk (sq (rg (zm (za (nl (sq (bkk ?_)))))))))
    refine wp_loop' (fun (p : Nat) => k ≤ p ∧ p ≤ m.length ∧ ∀ a, k ≤ a → a < p → gM M a k = 0) (fun (p : Nat) => [kI 3 ((m.length : Nat) : Int), kS 4 18 0 M.length, kI 6 sg, kI 7 bf, kI 8 ((k : Nat) : Int), kI 9 ((p : Nat) : Int), kO 18 24 1 true (rwI 3 M), kF 14, kF 17, kF 25, kF 30, kF 31, kF 32, kF 146, kF 147, kF 148, kF 149, kF 1000, kF 1001, kF 1002, kF 1003]) (fun (p : Nat) => m.length - p) ((k : Nat)) (by exact ⟨Nat.le_refl _, by omega, fun a h1 h2 => absurd h1 (by omega)⟩) (wkf id (wS <| wS <| wS <| wS <| wS <| wS <| wQI <| by (iterate 14 refine wF ?_); exact wN)) ?_
    rintro p inv8
    replace inv8 : k ≤ p ∧ p ≤ m.length ∧ ∀ a, k ≤ a → a < p → gM M a k = 0 := inv8
    obtain ⟨hp1, hp2, hz⟩ := inv8
    refine sq (sq ?_)
    refine wp_join [kB 51 ((decide (((p : Nat) : Int) < ((m.length : Nat) : Int))) && (decide ((gI (gLs M p) k) = 0))), kI 3 ((m.length : Nat) : Int), kS 4 18 0 M.length, kI 6 sg, kI 7 bf, kI 8 ((k : Nat) : Int), kI 9 ((p : Nat) : Int), kO 18 24 1 true (rwI 3 M), kF 17, kF 25, kF 30, kF 31, kF 32, kF 146, kF 147, kF 148, kF 149, kF 1000, kF 1001, kF 1002, kF 1003] ?_ ?_
    ·skip
     rcases Bool.eq_false_or_eq_true (decide (((p : Nat) : Int) < ((m.length : Nat) : Int))) with c9 | c9
     ·skip
      have c9P := of_decide_eq_true c9
      have hrp := hMr p (by omega)
      refine wp_weak (up1 (h := 18) (h1 := 14) (T := 3) (T0 := 24) (s0 := 1) (ex0 := true) (L := M) p (by first | omega | assumption)) ?_
      refine rg (zm (zm ?_))
      refine z ?_ (h := fun ν => acts_bin ν vt vt (r_lss (c := true) c9))
      refine zm ?_
      refine zg ?_ (h := fun ν => step_on rfl rfl (mt ν))
      refine zg ?_ (h := fun ν => step_on rfl rfl (mt ν))
      refine zg ?_ (h := fun ν => step_on rfl rfl (ix0 ν qD3_un_29 qD3_sz_24 vt (hlt := (by first | omega | assumption))))
      refine zg ?_ (h := fun ν => step_on rfl rfl (lu1 (i := p) ν qD3_ti_24 (by simp only [rwI_len, rwD_len]; first | omega | assumption)))
      refine zg ?_ (h := fun ν => step_on rfl rfl (mt ν))
      refine zg ?_ (h := fun ν => step_on rfl rfl (ix0 ν qD3_un_24 qD3_sz_3 vt (hlt := (by first | omega | assumption))))
      refine zg ?_ (h := fun ν => step_on rfl rfl (lI ν qD3_ti_3 (by first | omega | assumption)))
      refine zg ?_ (h := fun ν => step_on rfl rfl (acts_bin ν vt vc (r_eql rfl)))
      refine z ?_ (h := fun ν => acts_pick_t ν vt xt)
      refine nl ?_
      exact ⟨rfl, weak_trans (qk1 (h := 18) (T := 3) (T0 := 24) (s0 := 1) (ex0 := true) (h1 := 14) (n := ((gLs M p).length)) (L := M) (L2 := M) (r := (gLs M p)) p (by first | (first | omega | assumption) | (rw [List.length_set]; first | omega | assumption)) (by first | rfl | (first | omega | assumption) | (simp; done)) (set_gLs (by first | omega | assumption))) <| weak_reads ⟨(by simp only [c9]; first | done | kernel_rfl), (by repeat (first | exact trivial | refine ⟨by kernel_rfl, ?_⟩))⟩⟩
     ·skip
      have c9P := of_decide_eq_false c9
      refine rg (zm (zm ?_))
      refine z ?_ (h := fun ν => acts_bin ν vt vt (r_lss (c := false) c9))
      refine zm (zo (zo (zo (zo (zo (zo (zo (zo ?_))))))))
      refine z ?_ (h := fun ν => acts_pick_f ν vt xc)
      refine nl ?_
      exact ⟨rfl, weak_reads ⟨(by simp only [c9]; first | done | kernel_rfl), (by repeat (first | exact trivial | refine ⟨by kernel_rfl, ?_⟩))⟩⟩
    refine wi (b := ((decide (((p : Nat) : Int) < ((m.length : Nat) : Int))) && (decide ((gI (gLs M p) k) = 0)))) (fun c10 => ?_) (fun c10 => ?_)
    ·skip
     obtain ⟨c11, c12⟩ := and_tt c10
     have c11P := of_decide_eq_true c11
     have hrp := hMr p (by omega)
     have c12P := of_decide_eq_true c12
     refine sk (bkk (rg (zm ?_)))
     refine z ?_ (h := fun ν => acts_bin ν vt vc (rA (by first | omega | assumption) (by first | omega | assumption)))
     refine za (nl ?_)
     exact Exists.intro ((p + 1)) (And.intro (by exact ⟨by omega, by omega, piv_s hz (by assumption)⟩) (And.intro (by show m.length - (p + 1) < m.length - p; omega) (wkf id (wS <| wS <| wS <| wS <| wS <| wE (e := (vint (by first | rfl | omega | (simp; done) | (simp; omega)))) <| wQI <| by (iterate 14 refine wF ?_); exact wN))))
    ·skip
     have hnand := nand3 c10
     have c13 := and_ff c10
     refine wp_exit' (sq (sq (rg (zm (zm ?_)))))
     refine z ?_ (h := fun ν => acts_bin ν vt vt (r_eql rfl))
     refine nl ?_
     refine wi (fun c14 => ?_) (fun c14 => ?_)
     ·skip
      have c14P := of_decide_eq_true c14
      refine sq (rg (zk (nl (wp_ret' ?_))))
      exact VRes.tmp _ _ _ (by exact rfl) (bval (congrArg (Value.int .i64) (by (rw [detR_yes hsq1, ← hdet, det_none (by omega) (fun i h1 h2 => hz i h1 (by omega))]))))
     ·skip
      have c14P := of_decide_eq_false c14
      have hpl : p < m.length := by omega
      have hnz : gI (gLs M p) k ≠ 0 := fun e => hnand ⟨by omega, e⟩
      have hrp := hMr p (by omega)
      have hrk := hMr k (by omega)
      refine sk (sq (sq (rg (zm (zm ?_)))))
      refine z ?_ (h := fun ν => acts_bin ν vt vt (r_neq rfl))
      refine nl ?_
      refine wi (fun c15 => ?_) (fun c15 => ?_)
      ·skip
       have c15P := of_decide_eq_true c15
       have hs1 : sqD m.length ((M.set p (gLs M k)).set k (gLs M p)) := sqD_sw hsq (by omega) hpl
       have hs1l := hs1.1
       refine sq ?_
       refine wp_weak (up1 (h := 18) (h1 := 17) (T := 3) (T0 := 24) (s0 := 1) (ex0 := true) (L := M) k (by first | omega | assumption)) ?_
       refine wp_weak (up2 (h := 18) (h1 := 25) (T := 3) (T0 := 24) (s0 := 1) (ex0 := true) (L := M) (i := k) (a := (.sl 17 0 ((gLs M k).length))) p (by first | omega | assumption) (by first | omega | assumption)) ?_
       refine rg (zm (zm ?_))
       refine z ?_ (h := fun ν => ix0 ν qD3_un_29 qD3_sz_24 vt (hlt := (by first | omega | assumption)))
       refine z ?_ (h := fun ν => lw2 (j := p) ν qD3_ti_24 (by simp only [rwI_len, rwD_len]; first | omega | assumption))
       refine za (nl (sq (rg (zm (zm (zm (zm ?_)))))))
       refine z ?_ (h := fun ν => ix0 ν qD3_un_29 qD3_sz_24 vt (hlt := (by first | omega | assumption)))
       refine z ?_ (h := fun ν => lu2 (i := k) (j := p) ν qD3_ti_24 (by simp only [rwI_len, rwD_len]; first | omega | assumption) (by first | omega | assumption))
       refine z ?_ (h := fun ν => ix0 ν qD3_un_29 qD3_sz_24 vt (hlt := (by first | omega | assumption)))
       refine z ?_ (h := fun _ => sw2 (j := p) qD3_ti_24 xt (by simp only [rwI_len, rwD_len]; first | omega | assumption))
       refine nl (sq (rg (zm (zm (zm ?_)))))
       refine z ?_ (h := fun ν => ix0 ν qD3_un_29 qD3_sz_24 vt (hlt := (by first | omega | assumption)))
       refine z ?_ (h := fun _ => su2 (i := k) (j := p) qD3_ti_24 xt (by simp only [rwI_len, rwD_len]; first | omega | assumption) (by first | omega | assumption))
       refine nl ?_
       refine wp_weak (qk2 (h := 18) (T := 3) (T0 := 24) (s0 := 1) (ex0 := true) (h1 := 17) (n := ((gLs M k).length)) (L := M) (L2 := (M.set p (gLs M k))) (r := (gLs M k)) (i := k) (a := (.sl 25 0 ((gLs M p).length))) p (by first | omega | assumption) (by first | omega | assumption) (by first | rfl | (first | omega | assumption) | (simp; done)) rfl) ?_
       refine wp_weak (qk1 (h := 18) (T := 3) (T0 := 24) (s0 := 1) (ex0 := true) (h1 := 25) (n := ((gLs M p).length)) (L := (M.set p (gLs M k))) (L2 := ((M.set p (gLs M k)).set k (gLs M p))) (r := (gLs M p)) k (by first | (first | omega | assumption) | (rw [List.length_set]; first | omega | assumption)) (by first | rfl | (first | omega | assumption) | (simp; done)) rfl) ?_
       refine rg (zm ?_)
       refine z ?_ (h := fun ν => acts_un ν vt (r_neg (w64 (by first | omega | assumption) (by first | omega | assumption))))
       refine za (nl (sq (sq (rg (zm ?_)))))
       refine z ?_ (h := fun ν => acts_bin ν vt vc (rA (by first | omega | assumption) (by first | omega | assumption)))
       refine za (nl (bkk ?_))
       refine wp_loop' (fun ((i, X) : Nat × (List (List Int))) => k + 1 ≤ i ∧ i ≤ m.length ∧ X = elM true m.length ((M.set p (gLs M k)).set k (gLs M p)) k bf i) (fun ((i, X) : Nat × (List (List Int))) => [kI 3 ((m.length : Nat) : Int), kS 4 18 0 X.length, kI 6 (-sg), kI 7 bf, kI 8 ((k : Nat) : Int), kI 11 ((i : Nat) : Int), kO 18 24 1 true (rwI 3 X), kF 30, kF 31, kF 32, kF 146, kF 147, kF 148, kF 149, kF 1000, kF 1001, kF 1002, kF 1003]) (fun ((i, X) : Nat × (List (List Int))) => m.length - i) (((k + 1) : Nat), (((M.set p (gLs M k)).set k (gLs M p)) : List (List Int))) (by exact ⟨by omega, by omega, Eq.symm (elM_zero hs1.1)⟩) (wkf id (wS <| wE (e := (vsl (by first | rfl | (simp; done) | (simp; omega) | omega | (exact congrArg List.length (by first | rfl | omega | (simp; done) | (simp; omega)))) rfl)) <| wS <| wS <| wS <| wE (e := (vint (by first | rfl | omega | (simp; done) | (simp; omega)))) <| wQI <| by (iterate 11 refine wF ?_); exact wN)) ?_
       rintro ⟨i, X⟩ inv16
       replace inv16 : k + 1 ≤ i ∧ i ≤ m.length ∧ X = elM true m.length ((M.set p (gLs M k)).set k (gLs M p)) k bf i := inv16
       obtain ⟨hi1, hi2, hX⟩ := inv16
       have hXl : X.length = m.length := by rw [hX]; exact elM_len _ _ _ _ _ _
       have hXr : ∀ a, a < m.length → (gLs X a).length = m.length := by rw [hX]; exact (sqD_el hs1).2
       have hXk := hXr k (by omega)
       refine sq (sq (rg (zm (zm ?_))))
       refine z ?_ (h := fun ν => acts_bin ν vt vt (r_lss rfl))
       refine nl ?_
       refine wi (fun c17 => ?_) (fun c17 => ?_)
       ·skip
        have c17P := of_decide_eq_true c17
        refine sk (sq (bkk (sq (sq (rg (zm ?_))))))
        refine z ?_ (h := fun ν => acts_bin ν vt vc (rA (by first | omega | assumption) (by first | omega | assumption)))
        refine za (nl (bkk ?_))
        refine wp_loop' (fun ((j, Y) : Nat × (List (List Int))) => k + 1 ≤ j ∧ j ≤ m.length ∧ Y = elX true m.length ((M.set p (gLs M k)).set k (gLs M p)) k bf i j) (fun ((j, Y) : Nat × (List (List Int))) => [kI 3 ((m.length : Nat) : Int), kS 4 18 0 Y.length, kI 6 (-sg), kI 7 bf, kI 8 ((k : Nat) : Int), kI 11 ((i : Nat) : Int), kI 12 ((j : Nat) : Int), kO 18 24 1 true (rwI 3 Y), kF 30, kF 31, kF 32, kF 146, kF 147, kF 148, kF 149, kF 1000, kF 1001, kF 1002, kF 1003]) (fun ((j, Y) : Nat × (List (List Int))) => m.length - j) (((k + 1) : Nat), (X : List (List Int))) (by exact ⟨by omega, by omega, by rw [hX]; exact Eq.symm (elX_zero (by omega) (hs1.2 i (by omega)))⟩) (wkf id (wS <| wS <| wS <| wS <| wS <| wS <| wE (e := (vint (by first | rfl | omega | (simp; done) | (simp; omega)))) <| wQI <| by (iterate 11 refine wF ?_); exact wN)) ?_
        rintro ⟨j, Y⟩ inv18
        replace inv18 : k + 1 ≤ j ∧ j ≤ m.length ∧ Y = elX true m.length ((M.set p (gLs M k)).set k (gLs M p)) k bf i j := inv18
        obtain ⟨hj1, hj2, hY⟩ := inv18
        have hYl : Y.length = m.length := by rw [hY, elX_len]
        have hYi : (gLs Y i).length = m.length := by rw [hY, elX_i (by omega), elR_len]
        have hYk : (gLs Y k).length = m.length := by rw [hY, elX_k (by omega) (by omega)]; exact hs1.2 k (by omega)
        refine sq (sq (rg (zm (zm ?_))))
        refine z ?_ (h := fun ν => acts_bin ν vt vt (r_lss rfl))
        refine nl ?_
        refine wi (fun c19 => ?_) (fun c19 => ?_)
        ·skip
         have c19P := of_decide_eq_true c19
         refine sk (sq (bkk ?_))
         refine wp_weak (up1 (h := 18) (h1 := 30) (T := 3) (T0 := 24) (s0 := 1) (ex0 := true) (L := Y) k (by first | omega | assumption)) ?_
         refine wp_weak (up2 (h := 18) (h1 := 31) (T := 3) (T0 := 24) (s0 := 1) (ex0 := true) (L := Y) (i := k) (a := (.sl 30 0 ((gLs Y k).length))) i (by first | omega | assumption) (by first | omega | assumption)) ?_
         refine wp_dr (zdm (zdm ?_))
         refine zd ?_ (h := fun ν => ix0 ν qD3_un_29 qD3_sz_24 vt (hlt := (by first | omega | assumption)))
         refine zd ?_ (h := fun ν => lw2 (j := i) ν qD3_ti_24 (by simp only [rwI_len, rwD_len]; first | omega | assumption))
         refine zdm (zdm (zdm ?_))
         refine zd ?_ (h := fun ν => ix0 ν qD3_un_29 qD3_sz_24 vt (hlt := (by first | omega | assumption)))
         refine zd ?_ (h := fun ν => lw2 (j := i) ν qD3_ti_24 (by simp only [rwI_len, rwD_len]; first | omega | assumption))
         refine zdm ?_
         refine zd ?_ (h := fun ν => ix0 ν qD3_un_24 qD3_sz_3 vt (hlt := (by first | omega | assumption)))
         refine zd ?_ (h := fun ν => lI ν qD3_ti_3 (by first | omega | assumption))
         refine zdm (zdm ?_)
         refine zd ?_ (h := fun ν => ix0 ν qD3_un_29 qD3_sz_24 vt (hlt := (by first | omega | assumption)))
         refine zd ?_ (h := fun ν => lu2 (i := k) (j := i) ν qD3_ti_24 (by simp only [rwI_len, rwD_len]; first | omega | assumption) (by first | omega | assumption))
         refine zdm ?_
         refine zd ?_ (h := fun ν => ix0 ν qD3_un_24 qD3_sz_3 vt (hlt := (by first | omega | assumption)))
         refine zd ?_ (h := fun ν => lI ν qD3_ti_3 (by first | omega | assumption))
         refine zd ?_ (h := fun ν => acts_bin ν vt vt (r_mul (c := (mW (gI (gLs Y i) j) (gI (gLs Y k) k))) rfl))
         refine zdm (zdm ?_)
         refine zd ?_ (h := fun ν => ix0 ν qD3_un_29 qD3_sz_24 vt (hlt := (by first | omega | assumption)))
         refine zd ?_ (h := fun ν => lw2 (j := i) ν qD3_ti_24 (by simp only [rwI_len, rwD_len]; first | omega | assumption))
         refine zdm ?_
         refine zd ?_ (h := fun ν => ix0 ν qD3_un_24 qD3_sz_3 vt (hlt := (by first | omega | assumption)))
         refine zd ?_ (h := fun ν => lI ν qD3_ti_3 (by first | omega | assumption))
         refine zdm (zdm ?_)
         refine zd ?_ (h := fun ν => ix0 ν qD3_un_29 qD3_sz_24 vt (hlt := (by first | omega | assumption)))
         refine zd ?_ (h := fun ν => lu2 (i := k) (j := i) ν qD3_ti_24 (by simp only [rwI_len, rwD_len]; first | omega | assumption) (by first | omega | assumption))
         refine zdm ?_
         refine zd ?_ (h := fun ν => ix0 ν qD3_un_24 qD3_sz_3 vt (hlt := (by first | omega | assumption)))
         refine zd ?_ (h := fun ν => lI ν qD3_ti_3 (by first | omega | assumption))
         refine zd ?_ (h := fun ν => acts_bin ν vt vt (r_mul (c := (mW (gI (gLs Y i) k) (gI (gLs Y k) j))) rfl))
         refine zd ?_ (h := fun ν => acts_bin ν vt vt (r_sub (c := (xW (mW (gI (gLs Y i) j) (gI (gLs Y k) k)) (mW (gI (gLs Y i) k) (gI (gLs Y k) j)))) rfl))
         refine zdm ?_
         refine zd ?_ (h := fun ν => acts_bin ν vt vt (r_quo (c := (qW (xW (mW (gI (gLs Y i) j) (gI (gLs Y k) k)) (mW (gI (gLs Y i) k) (gI (gLs Y k) j))) bf)) (by first | omega | assumption) rfl))
         refine zd ?_ (h := fun ν => ix0 ν qD3_un_24 qD3_sz_3 vt (hlt := (by first | omega | assumption)))
         refine zd ?_ (h := fun _ => sI qD3_ti_3 xt (by first | omega | assumption))
         refine dw_nil ?_
         refine wp_weak (qk2 (h := 18) (T := 3) (T0 := 24) (s0 := 1) (ex0 := true) (h1 := 31) (n := ((gLs Y i).length)) (L := Y) (L2 := (Y.set i ((gLs Y i).set j (qW (xW (mW (gI (gLs Y i) j) (gI (gLs Y k) k)) (mW (gI (gLs Y i) k) (gI (gLs Y k) j))) bf)))) (r := ((gLs Y i).set j (qW (xW (mW (gI (gLs Y i) j) (gI (gLs Y k) k)) (mW (gI (gLs Y i) k) (gI (gLs Y k) j))) bf))) (i := k) (a := (.sl 30 0 ((gLs Y k).length))) i (by first | omega | assumption) (by first | omega | assumption) (by first | rfl | (first | omega | assumption) | (simp; done)) rfl) ?_
         refine wp_weak (qk1 (h := 18) (T := 3) (T0 := 24) (s0 := 1) (ex0 := true) (h1 := 30) (n := ((gLs Y k).length)) (L := (Y.set i ((gLs Y i).set j (qW (xW (mW (gI (gLs Y i) j) (gI (gLs Y k) k)) (mW (gI (gLs Y i) k) (gI (gLs Y k) j))) bf)))) (L2 := (Y.set i ((gLs Y i).set j (qW (xW (mW (gI (gLs Y i) j) (gI (gLs Y k) k)) (mW (gI (gLs Y i) k) (gI (gLs Y k) j))) bf)))) (r := (gLs Y k)) k (by first | (first | omega | assumption) | (rw [List.length_set]; first | omega | assumption)) (by first | rfl | (first | omega | assumption) | (simp; done)) (set_gLs2 (by first | omega | assumption) (by first | omega | assumption))) ?_
         refine rg (zm ?_)
         refine z ?_ (h := fun ν => acts_bin ν vt vc (rA (by first | omega | assumption) (by first | omega | assumption)))
         refine za (nl ?_)
         exact loop_back ((j + 1), (Y.set i ((gLs Y i).set j (qW (xW (mW (gI (gLs Y i) j) (gI (gLs Y k) k)) (mW (gI (gLs Y i) k) (gI (gLs Y k) j))) bf)))) (by exact ⟨by omega, by omega, by rw [hY]; exact elX_set (by omega) (by omega) (by omega) (by omega) rfl⟩) (by show m.length - (j + 1) < m.length - j; omega) (wkf id (wS <| wE (e := (vsl (by first | rfl | (simp; done) | (simp; omega) | omega | (exact congrArg List.length (by first | rfl | omega | (simp; done) | (simp; omega)))) rfl)) <| wS <| wS <| wS <| wS <| wE (e := (vint (by first | rfl | omega | (simp; done) | (simp; omega)))) <| wQI <| by (iterate 11 refine wF ?_); exact wN))
        ·skip
         have c19P := of_decide_eq_false c19
         refine wp_exit' ?_
         refine wp_weak (up1 (h := 18) (h1 := 30) (T := 3) (T0 := 24) (s0 := 1) (ex0 := true) (L := Y) i (by first | omega | assumption)) ?_
         refine rg (zm (zm ?_))
         refine z ?_ (h := fun ν => ix0 ν qD3_un_29 qD3_sz_24 vt (hlt := (by first | omega | assumption)))
         refine z ?_ (h := fun ν => lu1 (i := i) ν qD3_ti_24 (by simp only [rwI_len, rwD_len]; first | omega | assumption))
         refine zm ?_
         refine z ?_ (h := fun ν => ix0 ν qD3_un_24 qD3_sz_3 vt (hlt := (by first | omega | assumption)))
         refine z ?_ (h := fun _ => sI qD3_ti_3 xc (by first | omega | assumption))
         refine nl ?_
         refine wp_weak (qk1 (h := 18) (T := 3) (T0 := 24) (s0 := 1) (ex0 := true) (h1 := 30) (n := ((gLs Y i).length)) (L := Y) (L2 := (Y.set i ((gLs Y i).set k 0))) (r := ((gLs Y i).set k 0)) i (by first | (first | omega | assumption) | (rw [List.length_set]; first | omega | assumption)) (by first | rfl | (first | omega | assumption) | (simp; done)) rfl) ?_
         refine rg (zm ?_)
         refine z ?_ (h := fun ν => acts_bin ν vt vc (rA (by first | omega | assumption) (by first | omega | assumption)))
         refine za (nl ?_)
         exact loop_back ((i + 1), (Y.set i ((gLs Y i).set k 0))) (by exact ⟨by omega, by omega, by rw [hY]; exact elX_endz (by omega) (by omega) (by omega) (by omega)⟩) (by show m.length - (i + 1) < m.length - i; omega) (wkf id (wS <| wE (e := (vsl (by first | rfl | (simp; done) | (simp; omega) | omega | (exact congrArg List.length (by first | rfl | omega | (simp; done) | (simp; omega)))) rfl)) <| wS <| wS <| wS <| wE (e := (vint (by first | rfl | omega | (simp; done) | (simp; omega)))) <| wQI <| by (iterate 11 refine wF ?_); exact wN))
       ·skip
        have c17P := of_decide_eq_false c17
        refine wp_exit' ?_
        refine wp_weak (up1 (h := 18) (h1 := 30) (T := 3) (T0 := 24) (s0 := 1) (ex0 := true) (L := X) k (by first | omega | assumption)) ?_
        refine rg (zm (zm ?_))
        refine z ?_ (h := fun ν => ix0 ν qD3_un_29 qD3_sz_24 vt (hlt := (by first | omega | assumption)))
        refine z ?_ (h := fun ν => lu1 (i := k) ν qD3_ti_24 (by simp only [rwI_len, rwD_len]; first | omega | assumption))
        refine zm ?_
        refine z ?_ (h := fun ν => ix0 ν qD3_un_24 qD3_sz_3 vt (hlt := (by first | omega | assumption)))
        refine z ?_ (h := fun ν => lI ν qD3_ti_3 (by first | omega | assumption))
        refine za (nl ?_)
        refine wp_weak (qk1 (h := 18) (T := 3) (T0 := 24) (s0 := 1) (ex0 := true) (h1 := 30) (n := ((gLs X k).length)) (L := X) (L2 := X) (r := (gLs X k)) k (by first | (first | omega | assumption) | (rw [List.length_set]; first | omega | assumption)) (by first | rfl | (first | omega | assumption) | (simp; done)) (set_gLs (by first | omega | assumption))) ?_
        refine rg (zm ?_)
        refine z ?_ (h := fun ν => acts_bin ν vt vc (rA (by first | omega | assumption) (by first | omega | assumption)))
        refine za (nl ?_)
        exact loop_back ((k + 1), X, (-sg), (gI (gLs X k) k)) (by (have hb := det_b1 (q := true) (m := i) (b := bf) (s := sg) hsq hp1 hpl (by omega) hz hnz (by omega); have hXs : X = elM true m.length (swp M k p) k bf i := hX; rw [← hXs] at hb; exact ⟨by omega, by omega, (by rw [hX]; exact sqD_el hs1), by omega, hb.1, hb.2.trans hdet⟩)) (by show m.length - (k + 1) < m.length - k; omega) (wkf id (wS <| wS <| wS <| wS <| wE (e := (vint (by first | rfl | omega))) <| wQI <| by (iterate 14 refine wF ?_); exact wN))
      ·skip
       have c15P := of_decide_eq_false c15
       have hs1 : sqD m.length M := hsq
       have hs1l := hs1.1
       refine sk (sq (sq (rg (zm ?_))))
       refine z ?_ (h := fun ν => acts_bin ν vt vc (rA (by first | omega | assumption) (by first | omega | assumption)))
       refine za (nl (bkk ?_))
       refine wp_loop' (fun ((i, X) : Nat × (List (List Int))) => k + 1 ≤ i ∧ i ≤ m.length ∧ X = elM true m.length M k bf i) (fun ((i, X) : Nat × (List (List Int))) => [kI 3 ((m.length : Nat) : Int), kS 4 18 0 X.length, kI 6 sg, kI 7 bf, kI 8 ((k : Nat) : Int), kI 11 ((i : Nat) : Int), kO 18 24 1 true (rwI 3 X), kF 17, kF 25, kF 30, kF 31, kF 32, kF 146, kF 147, kF 148, kF 149, kF 1000, kF 1001, kF 1002, kF 1003]) (fun ((i, X) : Nat × (List (List Int))) => m.length - i) (((k + 1) : Nat), (M : List (List Int))) (by exact ⟨by omega, by omega, Eq.symm (elM_zero hs1.1)⟩) (wkf id (wS <| wS <| wS <| wS <| wS <| wE (e := (vint (by first | rfl | omega | (simp; done) | (simp; omega)))) <| wQI <| by (iterate 13 refine wF ?_); exact wN)) ?_
       rintro ⟨i, X⟩ inv20
       replace inv20 : k + 1 ≤ i ∧ i ≤ m.length ∧ X = elM true m.length M k bf i := inv20
       obtain ⟨hi1, hi2, hX⟩ := inv20
       have hXl : X.length = m.length := by rw [hX]; exact elM_len _ _ _ _ _ _
       have hXr : ∀ a, a < m.length → (gLs X a).length = m.length := by rw [hX]; exact (sqD_el hs1).2
       have hXk := hXr k (by omega)
       refine sq (sq (rg (zm (zm ?_))))
       refine z ?_ (h := fun ν => acts_bin ν vt vt (r_lss rfl))
       refine nl ?_
       refine wi (fun c21 => ?_) (fun c21 => ?_)
       ·skip
        have c21P := of_decide_eq_true c21
        refine sk (sq (bkk (sq (sq (rg (zm ?_))))))
        refine z ?_ (h := fun ν => acts_bin ν vt vc (rA (by first | omega | assumption) (by first | omega | assumption)))
        refine za (nl (bkk ?_))
        refine wp_loop' (fun ((j, Y) : Nat × (List (List Int))) => k + 1 ≤ j ∧ j ≤ m.length ∧ Y = elX true m.length M k bf i j) (fun ((j, Y) : Nat × (List (List Int))) => [kI 3 ((m.length : Nat) : Int), kS 4 18 0 Y.length, kI 6 sg, kI 7 bf, kI 8 ((k : Nat) : Int), kI 11 ((i : Nat) : Int), kI 12 ((j : Nat) : Int), kO 18 24 1 true (rwI 3 Y), kF 17, kF 25, kF 30, kF 31, kF 32, kF 146, kF 147, kF 148, kF 149, kF 1000, kF 1001, kF 1002, kF 1003]) (fun ((j, Y) : Nat × (List (List Int))) => m.length - j) (((k + 1) : Nat), (X : List (List Int))) (by exact ⟨by omega, by omega, by rw [hX]; exact Eq.symm (elX_zero (by omega) (hs1.2 i (by omega)))⟩) (wkf id (wS <| wS <| wS <| wS <| wS <| wS <| wE (e := (vint (by first | rfl | omega | (simp; done) | (simp; omega)))) <| wQI <| by (iterate 13 refine wF ?_); exact wN)) ?_
        rintro ⟨j, Y⟩ inv22
        replace inv22 : k + 1 ≤ j ∧ j ≤ m.length ∧ Y = elX true m.length M k bf i j := inv22
        obtain ⟨hj1, hj2, hY⟩ := inv22
        have hYl : Y.length = m.length := by rw [hY, elX_len]
        have hYi : (gLs Y i).length = m.length := by rw [hY, elX_i (by omega), elR_len]
        have hYk : (gLs Y k).length = m.length := by rw [hY, elX_k (by omega) (by omega)]; exact hs1.2 k (by omega)
        refine sq (sq (rg (zm (zm ?_))))
        refine z ?_ (h := fun ν => acts_bin ν vt vt (r_lss rfl))
        refine nl ?_
        refine wi (fun c23 => ?_) (fun c23 => ?_)
        ·skip
         have c23P := of_decide_eq_true c23
         refine sk (sq (bkk ?_))
         refine wp_weak (up1 (h := 18) (h1 := 17) (T := 3) (T0 := 24) (s0 := 1) (ex0 := true) (L := Y) k (by first | omega | assumption)) ?_
         refine wp_weak (up2 (h := 18) (h1 := 25) (T := 3) (T0 := 24) (s0 := 1) (ex0 := true) (L := Y) (i := k) (a := (.sl 17 0 ((gLs Y k).length))) i (by first | omega | assumption) (by first | omega | assumption)) ?_
         refine wp_dr (zdm (zdm ?_))
         refine zd ?_ (h := fun ν => ix0 ν qD3_un_29 qD3_sz_24 vt (hlt := (by first | omega | assumption)))
         refine zd ?_ (h := fun ν => lw2 (j := i) ν qD3_ti_24 (by simp only [rwI_len, rwD_len]; first | omega | assumption))
         refine zdm (zdm (zdm ?_))
         refine zd ?_ (h := fun ν => ix0 ν qD3_un_29 qD3_sz_24 vt (hlt := (by first | omega | assumption)))
         refine zd ?_ (h := fun ν => lw2 (j := i) ν qD3_ti_24 (by simp only [rwI_len, rwD_len]; first | omega | assumption))
         refine zdm ?_
         refine zd ?_ (h := fun ν => ix0 ν qD3_un_24 qD3_sz_3 vt (hlt := (by first | omega | assumption)))
         refine zd ?_ (h := fun ν => lI ν qD3_ti_3 (by first | omega | assumption))
         refine zdm (zdm ?_)
         refine zd ?_ (h := fun ν => ix0 ν qD3_un_29 qD3_sz_24 vt (hlt := (by first | omega | assumption)))
         refine zd ?_ (h := fun ν => lu2 (i := k) (j := i) ν qD3_ti_24 (by simp only [rwI_len, rwD_len]; first | omega | assumption) (by first | omega | assumption))
         refine zdm ?_
         refine zd ?_ (h := fun ν => ix0 ν qD3_un_24 qD3_sz_3 vt (hlt := (by first | omega | assumption)))
         refine zd ?_ (h := fun ν => lI ν qD3_ti_3 (by first | omega | assumption))
         refine zd ?_ (h := fun ν => acts_bin ν vt vt (r_mul (c := (mW (gI (gLs Y i) j) (gI (gLs Y k) k))) rfl))
         refine zdm (zdm ?_)
         refine zd ?_ (h := fun ν => ix0 ν qD3_un_29 qD3_sz_24 vt (hlt := (by first | omega | assumption)))
         refine zd ?_ (h := fun ν => lw2 (j := i) ν qD3_ti_24 (by simp only [rwI_len, rwD_len]; first | omega | assumption))
         refine zdm ?_
         refine zd ?_ (h := fun ν => ix0 ν qD3_un_24 qD3_sz_3 vt (hlt := (by first | omega | assumption)))
         refine zd ?_ (h := fun ν => lI ν qD3_ti_3 (by first | omega | assumption))
         refine zdm (zdm ?_)
         refine zd ?_ (h := fun ν => ix0 ν qD3_un_29 qD3_sz_24 vt (hlt := (by first | omega | assumption)))
         refine zd ?_ (h := fun ν => lu2 (i := k) (j := i) ν qD3_ti_24 (by simp only [rwI_len, rwD_len]; first | omega | assumption) (by first | omega | assumption))
         refine zdm ?_
         refine zd ?_ (h := fun ν => ix0 ν qD3_un_24 qD3_sz_3 vt (hlt := (by first | omega | assumption)))
         refine zd ?_ (h := fun ν => lI ν qD3_ti_3 (by first | omega | assumption))
         refine zd ?_ (h := fun ν => acts_bin ν vt vt (r_mul (c := (mW (gI (gLs Y i) k) (gI (gLs Y k) j))) rfl))
         refine zd ?_ (h := fun ν => acts_bin ν vt vt (r_sub (c := (xW (mW (gI (gLs Y i) j) (gI (gLs Y k) k)) (mW (gI (gLs Y i) k) (gI (gLs Y k) j)))) rfl))
         refine zdm ?_
         refine zd ?_ (h := fun ν => acts_bin ν vt vt (r_quo (c := (qW (xW (mW (gI (gLs Y i) j) (gI (gLs Y k) k)) (mW (gI (gLs Y i) k) (gI (gLs Y k) j))) bf)) (by first | omega | assumption) rfl))
         refine zd ?_ (h := fun ν => ix0 ν qD3_un_24 qD3_sz_3 vt (hlt := (by first | omega | assumption)))
         refine zd ?_ (h := fun _ => sI qD3_ti_3 xt (by first | omega | assumption))
         refine dw_nil ?_
         refine wp_weak (qk2 (h := 18) (T := 3) (T0 := 24) (s0 := 1) (ex0 := true) (h1 := 25) (n := ((gLs Y i).length)) (L := Y) (L2 := (Y.set i ((gLs Y i).set j (qW (xW (mW (gI (gLs Y i) j) (gI (gLs Y k) k)) (mW (gI (gLs Y i) k) (gI (gLs Y k) j))) bf)))) (r := ((gLs Y i).set j (qW (xW (mW (gI (gLs Y i) j) (gI (gLs Y k) k)) (mW (gI (gLs Y i) k) (gI (gLs Y k) j))) bf))) (i := k) (a := (.sl 17 0 ((gLs Y k).length))) i (by first | omega | assumption) (by first | omega | assumption) (by first | rfl | (first | omega | assumption) | (simp; done)) rfl) ?_
         refine wp_weak (qk1 (h := 18) (T := 3) (T0 := 24) (s0 := 1) (ex0 := true) (h1 := 17) (n := ((gLs Y k).length)) (L := (Y.set i ((gLs Y i).set j (qW (xW (mW (gI (gLs Y i) j) (gI (gLs Y k) k)) (mW (gI (gLs Y i) k) (gI (gLs Y k) j))) bf)))) (L2 := (Y.set i ((gLs Y i).set j (qW (xW (mW (gI (gLs Y i) j) (gI (gLs Y k) k)) (mW (gI (gLs Y i) k) (gI (gLs Y k) j))) bf)))) (r := (gLs Y k)) k (by first | (first | omega | assumption) | (rw [List.length_set]; first | omega | assumption)) (by first | rfl | (first | omega | assumption) | (simp; done)) (set_gLs2 (by first | omega | assumption) (by first | omega | assumption))) ?_
         refine rg (zm ?_)
         refine z ?_ (h := fun ν => acts_bin ν vt vc (rA (by first | omega | assumption) (by first | omega | assumption)))
         refine za (nl ?_)
         exact loop_back ((j + 1), (Y.set i ((gLs Y i).set j (qW (xW (mW (gI (gLs Y i) j) (gI (gLs Y k) k)) (mW (gI (gLs Y i) k) (gI (gLs Y k) j))) bf)))) (by exact ⟨by omega, by omega, by rw [hY]; exact elX_set (by omega) (by omega) (by omega) (by omega) rfl⟩) (by show m.length - (j + 1) < m.length - j; omega) (wkf id (wS <| wE (e := (vsl (by first | rfl | (simp; done) | (simp; omega) | omega | (exact congrArg List.length (by first | rfl | omega | (simp; done) | (simp; omega)))) rfl)) <| wS <| wS <| wS <| wS <| wE (e := (vint (by first | rfl | omega | (simp; done) | (simp; omega)))) <| wQI <| by (iterate 13 refine wF ?_); exact wN))
        ·skip
         have c23P := of_decide_eq_false c23
         refine wp_exit' ?_
         refine wp_weak (up1 (h := 18) (h1 := 17) (T := 3) (T0 := 24) (s0 := 1) (ex0 := true) (L := Y) i (by first | omega | assumption)) ?_
         refine rg (zm (zm ?_))
         refine z ?_ (h := fun ν => ix0 ν qD3_un_29 qD3_sz_24 vt (hlt := (by first | omega | assumption)))
         refine z ?_ (h := fun ν => lu1 (i := i) ν qD3_ti_24 (by simp only [rwI_len, rwD_len]; first | omega | assumption))
         refine zm ?_
         refine z ?_ (h := fun ν => ix0 ν qD3_un_24 qD3_sz_3 vt (hlt := (by first | omega | assumption)))
         refine z ?_ (h := fun _ => sI qD3_ti_3 xc (by first | omega | assumption))
         refine nl ?_
         refine wp_weak (qk1 (h := 18) (T := 3) (T0 := 24) (s0 := 1) (ex0 := true) (h1 := 17) (n := ((gLs Y i).length)) (L := Y) (L2 := (Y.set i ((gLs Y i).set k 0))) (r := ((gLs Y i).set k 0)) i (by first | (first | omega | assumption) | (rw [List.length_set]; first | omega | assumption)) (by first | rfl | (first | omega | assumption) | (simp; done)) rfl) ?_
         refine rg (zm ?_)
         refine z ?_ (h := fun ν => acts_bin ν vt vc (rA (by first | omega | assumption) (by first | omega | assumption)))
         refine za (nl ?_)
         exact loop_back ((i + 1), (Y.set i ((gLs Y i).set k 0))) (by exact ⟨by omega, by omega, by rw [hY]; exact elX_endz (by omega) (by omega) (by omega) (by omega)⟩) (by show m.length - (i + 1) < m.length - i; omega) (wkf id (wS <| wE (e := (vsl (by first | rfl | (simp; done) | (simp; omega) | omega | (exact congrArg List.length (by first | rfl | omega | (simp; done) | (simp; omega)))) rfl)) <| wS <| wS <| wS <| wE (e := (vint (by first | rfl | omega | (simp; done) | (simp; omega)))) <| wQI <| by (iterate 13 refine wF ?_); exact wN))
       ·skip
        have c21P := of_decide_eq_false c21
        refine wp_exit' ?_
        refine wp_weak (up1 (h := 18) (h1 := 17) (T := 3) (T0 := 24) (s0 := 1) (ex0 := true) (L := X) k (by first | omega | assumption)) ?_
        refine rg (zm (zm ?_))
        refine z ?_ (h := fun ν => ix0 ν qD3_un_29 qD3_sz_24 vt (hlt := (by first | omega | assumption)))
        refine z ?_ (h := fun ν => lu1 (i := k) ν qD3_ti_24 (by simp only [rwI_len, rwD_len]; first | omega | assumption))
        refine zm ?_
        refine z ?_ (h := fun ν => ix0 ν qD3_un_24 qD3_sz_3 vt (hlt := (by first | omega | assumption)))
        refine z ?_ (h := fun ν => lI ν qD3_ti_3 (by first | omega | assumption))
        refine za (nl ?_)
        refine wp_weak (qk1 (h := 18) (T := 3) (T0 := 24) (s0 := 1) (ex0 := true) (h1 := 17) (n := ((gLs X k).length)) (L := X) (L2 := X) (r := (gLs X k)) k (by first | (first | omega | assumption) | (rw [List.length_set]; first | omega | assumption)) (by first | rfl | (first | omega | assumption) | (simp; done)) (set_gLs (by first | omega | assumption))) ?_
        refine rg (zm ?_)
        refine z ?_ (h := fun ν => acts_bin ν vt vc (rA (by first | omega | assumption) (by first | omega | assumption)))
        refine za (nl ?_)
        exact loop_back ((k + 1), X, sg, (gI (gLs X k) k)) (by (have hb := det_b2 (q := true) (m := i) (b := bf) (s := sg) hpl (by omega) hnz (by omega); rw [← hX] at hb; exact ⟨by omega, by omega, (by rw [hX]; exact sqD_el hs1), by omega, hb.1, hb.2.trans hdet⟩)) (by show m.length - (k + 1) < m.length - k; omega) (wkf id (wS <| wS <| wS <| wS <| wE (e := (vint (by first | rfl | omega))) <| wQI <| by (iterate 14 refine wF ?_); exact wN))
   ·skip
    have c7P := of_decide_eq_false c7
    refine wp_exit' (sq (rg (zm (zm ?_))))
    refine z ?_ (h := fun ν => acts_bin ν vt vt (r_mul (c := (mW sg bf)) rfl))
    refine za (nl (wp_ret' ?_))
    exact VRes.tmp _ _ _ (by exact rfl) (bval (congrArg (Value.int .i64) (by (rw [detR_yes hsq1, ← hdet, show m.length - k = 0 by omega]; rfl))))
end Cl
end Go.Proofs.Ytokihekhelbijaa
