/- Walks over clean states, printed by wg.py. No statement is proved here. -/
import Derived.Test.YtokihekhelbijaaC13
import Derived.Test.YtokihekhelbijaaClB
namespace Go.Proofs.Ytokihekhelbijaa
namespace Cl
open Go.ChangeShapes Go.WideShapes Go.ChangeAt Go.RowKit
set_option maxRecDepth 20000
/-! the cursor of a draw -/
def newF (b : List Nat) : Nat → Nat
  | 0 => 33007 + b.length
  | i + 1 => (newF b i * 131 + gY b i + 7) &&& 1073741823
def newH (b : List Nat) : Nat := newF b (min b.length 4000)
theorem newF_bd (b : List Nat) (i : Nat) : newF b i ≤ 1073741823 + (33007 + b.length) := by
  cases i with
  | zero => unfold newF; omega
  | succ i => unfold newF; exact Nat.le_trans Nat.and_le_right (by omega)
def hN (h : Int) : Int := aW (mW h 6364136223846793005) 1442695040888963407
def shrA (h : Int) : Int := h.fdiv (2 ^ 33)
def shrB (h : Int) : Int := h.fdiv (2 ^ 45)
def xrA (h : Int) : Int := IntKind.i64.wrap ((BitVec.ofInt 64 (shrA h)) ^^^ (BitVec.ofInt 64 (shrB h))).toNat
def mix (h : Int) : Nat := ((BitVec.ofInt 64 (xrA h)) &&& (BitVec.ofInt 64 255)).toNat
theorem mix_lt (h : Int) : mix h < 256 := by
  unfold mix
  rw [BitVec.toNat_and]
  exact Nat.lt_of_le_of_lt Nat.and_le_right (by decide)
theorem mix_eq (h : Int) : IntKind.i64.wrap ((BitVec.ofInt IntKind.i64.bits (xrA h)) &&& (BitVec.ofInt IntKind.i64.bits 255)).toNat = ((mix h : Nat) : Int) := wrap_i (n := mix h) (by have := mix_lt h; omega)
def byX (b : List Nat) (i : Nat) (h : Int) : Nat := if i < b.length then (mix (hN h) + gY b i) &&& 255 else mix (hN h)
def bI (b : List Nat) (i : Nat) : Nat := if i < b.length then i + 1 else i
theorem bX_lt (b : List Nat) (i : Nat) (h : Int) : byX b i h < 256 := by
  unfold byX; split
  · exact Nat.lt_of_le_of_lt Nat.and_le_right (by decide)
  · exact mix_lt _
theorem bI_le {b : List Nat} {i : Nat} (h : i ≤ b.length) : bI b i ≤ b.length := by unfold bI; split <;> omega
def big4 (b : List Nat) (i : Nat) (h : Int) : Nat := byX b i h * 16777216 + byX b (bI b i) (hN h) * 65536 + byX b (bI b (bI b i)) (hN (hN h)) * 256 + byX b (bI b (bI b (bI b i))) (hN (hN (hN h)))
def beX (b : List Nat) (i : Nat) (h : Int) (n : Nat) : Nat := if n ≤ 256 then byX b i h % n else big4 b i h % n
def beI (b : List Nat) (i n : Nat) : Nat := if n ≤ 256 then bI b i else bI b (bI b (bI b (bI b i)))
def beH (h : Int) (n : Nat) : Int := if n ≤ 256 then hN h else hN (hN (hN (hN h)))
theorem beX_lt {b : List Nat} {i : Nat} {h : Int} {n : Nat} (hn : 0 < n) : beX b i h n < n := by unfold beX; split <;> exact Nat.mod_lt _ hn
theorem beI_le {b : List Nat} {i n : Nat} (h : i ≤ b.length) : beI b i n ≤ b.length := by
  unfold beI; split
  · exact bI_le h
  · exact bI_le (bI_le (bI_le (bI_le h)))
theorem be_1 {b : List Nat} {i : Nat} {h : Int} {n : Nat} (hn : n ≤ 256) : beX b i h n = byX b i h % n ∧ beI b i n = bI b i ∧ beH h n = hN h := by unfold beX beI beH; rw [if_pos hn, if_pos hn, if_pos hn]; exact ⟨rfl, rfl, rfl⟩
theorem be_4 {b : List Nat} {i : Nat} {h : Int} {n : Nat} (hn : ¬ n ≤ 256) : beX b i h n = big4 b i h % n ∧ beI b i n = bI b (bI b (bI b (bI b i))) ∧ beH h n = hN (hN (hN (hN h))) := by unfold beX beI beH; rw [if_neg hn, if_neg hn, if_neg hn]; exact ⟨rfl, rfl, rfl⟩
def rc (w : Nat) : Int := ((2 ^ w : Nat) : Int) - 1
def rectR (w h : Nat) : List Int := List.replicate h (rc w)
structure Cu where
  i : Nat
  h : Int
def cuN (b : List Nat) (c : Cu) (n : Nat) : Cu := ⟨beI b c.i n, beH c.h n⟩
def cuX (b : List Nat) (c : Cu) (n : Nat) : Nat := beX b c.i c.h n
def bitR (R : List Int) (y x : Nat) : Bool := (gI R y).toNat.testBit x
/-- some cells are taken out -/
def r3L (b : List Nat) (w hh : Nat) : Nat → Cu → List Int → List Int × Cu
  | 0, c, R => (R, c)
  | k + 1, c, R =>
    r3L b w hh k (cuN b (cuN b c hh) w) (if bitR R (cuX b c hh) (cuX b (cuN b c hh) w) = true then R.set (cuX b c hh) (gI R (cuX b c hh) - ((2 ^ (cuX b (cuN b c hh) w) : Nat) : Int)) else R)
/-- two cells may come to a row -/
def r3E (b : List Nat) (w hh : Nat) (R : List Int) (c : Cu) : List Int × Cu :=
  if w < 6 then (if cuX b c 3 = 0 then (R.set (cuX b (cuN b c 3) hh) ((((gI R (cuX b (cuN b c 3) hh)).toNat ||| (3 <<< w) : Nat)) : Int), cuN b (cuN b c 3) hh) else (R, cuN b c 3)) else (R, c)
def r3W (b : List Nat) (c : Cu) : Nat := 1 + cuX b c 6
def r3H (b : List Nat) (c : Cu) : Nat := 1 + cuX b (cuN b c 6) 5
def r3M (b : List Nat) (c : Cu) : List Int × Cu := r3L b (r3W b c) (r3H b c) (cuX b (cuN b (cuN b c 6) 5) 5) (cuN b (cuN b (cuN b c 6) 5) 5) (rectR (r3W b c) (r3H b c))
def r3 (b : List Nat) (c : Cu) : List Int × Cu := r3E b (r3W b c) (r3H b c) (r3M b c).1 (r3M b c).2
structure RP (n : Nat) (R : List Int) : Prop where
  ln : R.length = n
  bd : ∀ k, k < n → 0 ≤ gI R k ∧ gI R k < 256
theorem gI_setI {R : List Int} {k j : Nat} {x : Int} (h : k < R.length) : gI (R.set k x) j = if k = j then x else gI R j := by
  unfold gI; rw [List.getD_eq_getElem?_getD, List.getD_eq_getElem?_getD, List.getElem?_set]
  split
  · rename_i e; subst e; first | rfl | (rw [if_pos h]; rfl)
  · rfl
theorem RP.set {n : Nat} {R : List Int} (h : RP n R) {k : Nat} (hk : k < n) {x : Int} (hx : 0 ≤ x ∧ x < 256) : RP n (R.set k x) :=
  ⟨by rw [List.length_set]; exact h.ln, fun j hj => by
    rw [gI_setI (by rw [h.ln]; exact hk)]
    split
    · exact hx
    · exact h.bd j hj⟩
theorem RP.rect {w h : Nat} (hw : w ≤ 8) : RP h (rectR w h) := by
  have hp : (2 : Nat) ^ w ≤ 2 ^ 8 := Nat.pow_le_pow_right (by decide) hw
  have hp0 : 0 < 2 ^ w := Nat.two_pow_pos w
  refine ⟨by simp [rectR], fun k hk => ?_⟩
  have e : gI (rectR w h) k = rc w := by
    rw [gI_eq (by simpa [rectR] using hk)]; simp [rectR]
  rw [e]; unfold rc; omega
theorem bit_pow {a x : Nat} (h : a.testBit x = true) : 2 ^ x ≤ a := Nat.ge_two_pow_of_testBit h
theorem RP.take {n : Nat} {R : List Int} (h : RP n R) {y x : Nat} (hy : y < n) (hb : bitR R y x = true) : RP n (R.set y (gI R y - ((2 ^ x : Nat) : Int))) := by
  have h1 := h.bd y hy
  have h2 : 2 ^ x ≤ (gI R y).toNat := bit_pow hb
  have h3 : 0 < 2 ^ x := Nat.two_pow_pos x
  exact h.set hy (by omega)
theorem RP.r3L {b : List Nat} {w hh : Nat} (hh0 : 0 < hh) : ∀ (k : Nat) (c : Cu) (R : List Int), RP hh R → RP hh (r3L b w hh k c R).1 := by
  intro k
  induction k with
  | zero => intro c R h; exact h
  | succ k ih =>
    intro c R h
    unfold Cl.r3L
    refine ih _ _ ?_
    split
    · rename_i hb; exact h.take (beX_lt hh0) hb
    · exact h
theorem RP.or {n : Nat} {R : List Int} (h : RP n R) {y : Nat} (hy : y < n) {w : Nat} (hw : w < 6) : RP n (R.set y ((((gI R y).toNat ||| (3 <<< w) : Nat)) : Int)) := by
  have h1 := h.bd y hy
  have h3 : 3 <<< w < 2 ^ 8 := by
    rw [Nat.shiftLeft_eq]
    have : (2 : Nat) ^ w ≤ 2 ^ 5 := Nat.pow_le_pow_right (by decide) (by omega)
    omega
  have := Nat.or_lt_two_pow (n := 8) (x := (gI R y).toNat) (y := 3 <<< w) (by omega) h3
  exact h.set hy (by omega)
theorem RP.r3E {b : List Nat} {w hh : Nat} (hh0 : 0 < hh) {R : List Int} {c : Cu} (h : RP hh R) : RP hh (r3E b w hh R c).1 := by
  unfold Cl.r3E
  split
  · rename_i hw
    split
    · exact h.or (beX_lt hh0) hw
    · exact h
  · exact h
theorem r3_wh (b : List Nat) (c : Cu) : (1 ≤ r3W b c ∧ r3W b c ≤ 6) ∧ (1 ≤ r3H b c ∧ r3H b c ≤ 5) := by
  have h1 : cuX b c 6 < 6 := beX_lt (by decide)
  have h2 : cuX b (cuN b c 6) 5 < 5 := beX_lt (by decide)
  unfold r3W r3H; omega
theorem r3_RP (b : List Nat) (c : Cu) : RP (r3H b c) (r3 b c).1 := by
  have hw := r3_wh b c
  unfold r3 r3M
  exact RP.r3E (by omega) (RP.r3L (by omega) _ _ _ (RP.rect (by omega)))
theorem RP.ok {n : Nat} {R : List Int} (h : RP n R) (hn : n ≤ 8) : regOk R = true := by
  unfold regOk allIn
  rw [decide_eq_true (by rw [h.ln]; exact hn), Bool.true_and]
  rw [List.all_eq_true]
  intro x hx
  obtain ⟨k, hk, rfl⟩ := List.getElem_of_mem hx
  have := h.bd k (by rw [← h.ln]; exact hk)
  rw [gI_eq hk] at this
  exact inB_true.2 (by omega)
theorem r3_ok (b : List Nat) (c : Cu) : regOk (r3 b c).1 = true := (r3_RP b c).ok (by have := r3_wh b c; omega)
/-- a region with few tilings -/
def r8 (b : List Nat) : Nat → Cu → List Int × Cu
  | 0, c => (rectR (2 + 2 * cuX b c 2) (2 + cuX b (cuN b c 2) 3), cuN b (cuN b c 2) 3)
  | k + 1, c => if inB ((cnt (regSet (r3 b c).1) : Nat) : Int) 1 300 = true then r3 b c else r8 b k (r3 b c).2
theorem rect_cnt : ∀ x, x < 2 → ∀ y, y < 3 → (regOk (rectR (2 + 2 * x) (2 + y)) = true ∧ 1 ≤ cnt (regSet (rectR (2 + 2 * x) (2 + y))) ∧ cnt (regSet (rectR (2 + 2 * x) (2 + y))) ≤ 300) := by decide +kernel
theorem r8_cnt (b : List Nat) : ∀ k c, regOk (r8 b k c).1 = true ∧ 1 ≤ cnt (regSet (r8 b k c).1) ∧ cnt (regSet (r8 b k c).1) ≤ 300 := by
  intro k
  induction k with
  | zero => intro c; exact rect_cnt _ (beX_lt (by decide)) _ (beX_lt (by decide))
  | succ k ih =>
    intro c; unfold r8; split
    · rename_i h
      have := inB_true.1 h
      exact ⟨r3_ok b c, by omega, by omega⟩
    · exact ih _
theorem r8_len (b : List Nat) (k : Nat) (c : Cu) : (r8 b k c).1.length ≤ 8 := (regOk_true (r8_cnt b k c).1).1
theorem r3_len (b : List Nat) (c : Cu) : (r3 b c).1.length ≤ 8 := (regOk_true (r3_ok b c)).1
theorem cuI_le {b : List Nat} {c : Cu} {n : Nat} (h : c.i ≤ b.length) : (cuN b c n).i ≤ b.length := beI_le h
theorem r3L_i {b : List Nat} {w hh : Nat} : ∀ (k : Nat) (c : Cu) (R : List Int), c.i ≤ b.length → (r3L b w hh k c R).2.i ≤ b.length := by
  intro k
  induction k with
  | zero => intro c R h; exact h
  | succ k ih => intro c R h; unfold r3L; exact ih _ _ (cuI_le (cuI_le h))
theorem r3_i {b : List Nat} {c : Cu} (h : c.i ≤ b.length) : (r3 b c).2.i ≤ b.length := by
  have h1 : (r3M b c).2.i ≤ b.length := r3L_i _ _ _ (cuI_le (cuI_le (cuI_le h)))
  unfold r3 r3E
  split
  · split
    · exact cuI_le (cuI_le h1)
    · exact cuI_le h1
  · exact h1
def cu0 (b : List Nat) : Cu := ⟨0, ((newH b : Nat) : Int)⟩
def cuB (b : List Nat) (c : Cu) : Cu := ⟨bI b c.i, hN c.h⟩
def cuV (b : List Nat) (c : Cu) : Nat := byX b c.i c.h
def cuV4 (b : List Nat) (c : Cu) : Nat := cuV b c * 16777216 + cuV b (cuB b c) * 65536 + cuV b (cuB b (cuB b c)) * 256 + cuV b (cuB b (cuB b (cuB b c)))
theorem cuV_lt (b : List Nat) (c : Cu) : cuV b c < 256 := bX_lt _ _ _
theorem cuB_le {b : List Nat} {c : Cu} (h : c.i ≤ b.length) : (cuB b c).i ≤ b.length := bI_le h
theorem cuX_lt {b : List Nat} {c : Cu} {n : Nat} (hn : 0 < n) : cuX b c n < n := beX_lt hn
theorem cuN_1 {b : List Nat} {c : Cu} {n : Nat} (hn : n ≤ 256) : cuN b c n = cuB b c ∧ cuX b c n = cuV b c % n := by
  obtain ⟨h1, h2, h3⟩ := be_1 (b := b) (i := c.i) (h := c.h) hn
  unfold cuN cuX cuB cuV; rw [h1, h2, h3]; exact ⟨rfl, rfl⟩
theorem cuN_4 {b : List Nat} {c : Cu} {n : Nat} (hn : ¬ n ≤ 256) : cuN b c n = cuB b (cuB b (cuB b (cuB b c))) ∧ cuX b c n = cuV4 b c % n := by
  obtain ⟨h1, h2, h3⟩ := be_4 (b := b) (i := c.i) (h := c.h) hn
  unfold cuN cuX; rw [h1, h2, h3]; exact ⟨rfl, rfl⟩
theorem cu_cells {c d : Cu} (h : c = d) (n : Nat) (xs : List Value) : [A.slv n 1 xs, .val (.int .i64 ((c.i : Nat) : Int)), .val (.int .i64 c.h)] = [A.slv n 1 xs, .val (.int .i64 ((d.i : Nat) : Int)), .val (.int .i64 d.h)] := by rw [h]
theorem r3L_on {b : List Nat} {w hh k : Nat} {c : Cu} {R : List Int} (hk : 0 < k) (hb : bitR R (cuX b c hh) (cuX b (cuN b c hh) w) = true) : r3L b w hh k c R = r3L b w hh (k - 1) (cuN b (cuN b c hh) w) (R.set (cuX b c hh) (gI R (cuX b c hh) - ((2 ^ (cuX b (cuN b c hh) w) : Nat) : Int))) := by
  obtain ⟨m, rfl⟩ : ∃ m, k = m + 1 := ⟨k - 1, by omega⟩
  rw [r3L, if_pos hb]; rfl
theorem r3L_off {b : List Nat} {w hh k : Nat} {c : Cu} {R : List Int} (hk : 0 < k) (hb : bitR R (cuX b c hh) (cuX b (cuN b c hh) w) = false) : r3L b w hh k c R = r3L b w hh (k - 1) (cuN b (cuN b c hh) w) R := by
  obtain ⟨m, rfl⟩ : ∃ m, k = m + 1 := ⟨k - 1, by omega⟩
  rw [r3L, if_neg (by rw [hb]; simp)]; rfl
theorem r3_end {b : List Nat} {c c2 : Cu} {w hh k : Nat} {R : List Int} (h : r3L b w hh k c2 R = r3M b c) (hk : k = 0) : r3M b c = (R, c2) := by subst hk; exact h.symm
theorem r3_a {b : List Nat} {c c2 : Cu} {R : List Int} (h : r3M b c = (R, c2)) (hw : ¬ 1 + cuX b c 6 < 6) : r3 b c = (R, c2) := by
  unfold r3; rw [h]; unfold r3E; rw [if_neg (show ¬ r3W b c < 6 from hw)]
theorem r3_b {b : List Nat} {c c2 : Cu} {R : List Int} (h : r3M b c = (R, c2)) (hw : 1 + cuX b c 6 < 6) (h3 : ¬ cuX b c2 3 = 0) : r3 b c = (R, cuN b c2 3) := by
  unfold r3; rw [h]; unfold r3E; rw [if_pos (show r3W b c < 6 from hw), if_neg (show ¬ cuX b (R, c2).2 3 = 0 from h3)]
theorem r3_c {b : List Nat} {c c2 : Cu} {R : List Int} (h : r3M b c = (R, c2)) (hw : 1 + cuX b c 6 < 6) (h3 : cuX b c2 3 = 0) : r3 b c = (R.set (cuX b (cuN b c2 3) (1 + cuX b (cuN b c 6) 5)) ((((gI R (cuX b (cuN b c2 3) (1 + cuX b (cuN b c 6) 5))).toNat ||| (3 <<< (1 + cuX b c 6)) : Nat)) : Int), cuN b (cuN b c2 3) (1 + cuX b (cuN b c 6) 5)) := by
  unfold r3; rw [h]; unfold r3E; rw [if_pos (show r3W b c < 6 from hw), if_pos (show cuX b (R, c2).2 3 = 0 from h3)]; rfl
theorem r8_yes {b : List Nat} {k : Nat} {c2 : Cu} (hk : 0 < k) (h : inB ((cnt (regSet (r3 b c2).1) : Nat) : Int) 1 300 = true) : r8 b k c2 = r3 b c2 := by
  obtain ⟨m, rfl⟩ : ∃ m, k = m + 1 := ⟨k - 1, by omega⟩
  rw [r8, if_pos h]
theorem r8_no {b : List Nat} {k : Nat} {c2 : Cu} (hk : 0 < k) (h : inB ((cnt (regSet (r3 b c2).1) : Nat) : Int) 1 300 = false) : r8 b k c2 = r8 b (k - 1) (r3 b c2).2 := by
  obtain ⟨m, rfl⟩ : ∃ m, k = m + 1 := ⟨k - 1, by omega⟩
  rw [r8, if_neg (by rw [h]; simp)]; rfl
theorem r8_end {b : List Nat} {k : Nat} {c2 : Cu} (hk : k = 0) : r8 b k c2 = (rectR (2 + 2 * cuX b c2 2) (2 + cuX b (cuN b c2 2) 3), cuN b (cuN b c2 2) 3) := by subst hk; rfl


end Cl
end Go.Proofs.Ytokihekhelbijaa
