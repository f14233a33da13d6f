/- Walks over clean states, printed by wg.py. No statement is proved here. -/
import Derived.Test.YthnaalmoedjjkaaD4
import Derived.Test.YthnaalmoedjjkaaCl24
namespace Go.Proofs.Ythnaalmoedjjkaa
namespace Cl
open Go.ChangeShapes Go.WideShapes Go.ChangeAt Go.RowKit
set_option maxRecDepth 20000
/-! sums and the bitmask sum of permanents -/
def sumK (g : Nat → Nat) : Nat → Nat
  | 0 => 0
  | n + 1 => sumK g n + g n
theorem sumK_congr {g g' : Nat → Nat} {n : Nat} (h : ∀ k, k < n → g k = g' k) : sumK g n = sumK g' n := by
  induction n with
  | zero => rfl
  | succ n ih => unfold sumK; rw [ih fun k hk => h k (by omega), h n (by omega)]
theorem sumK_le {g g' : Nat → Nat} {n : Nat} (h : ∀ k, k < n → g k ≤ g' k) : sumK g n ≤ sumK g' n := by
  induction n with
  | zero => exact Nat.le_refl _
  | succ n ih => unfold sumK; have := ih fun k hk => h k (by omega); have := h n (by omega); omega
theorem sumK_one {g : Nat → Nat} {n i : Nat} (h : i < n) : g i ≤ sumK g n := by
  induction n with
  | zero => omega
  | succ n ih =>
    unfold sumK
    rcases Nat.lt_or_ge i n with h1 | h1
    · have := ih h1; omega
    · rw [show i = n by omega]; omega
theorem sumK_upd {g g' : Nat → Nat} {n i d : Nat} (h : i < n) (h1 : ∀ k, k ≠ i → g' k = g k) (h2 : g' i = g i + d) : sumK g' n = sumK g n + d := by
  induction n with
  | zero => omega
  | succ n ih =>
    unfold sumK
    rcases Nat.lt_or_ge i n with h3 | h3
    · rw [ih h3, h1 n (by omega)]; omega
    · have e : i = n := by omega
      subst e
      rw [h2, sumK_congr (g := g') (g' := g) fun k hk => h1 k (by omega)]; omega
theorem sumK_zero {g : Nat → Nat} {n : Nat} (h : ∀ k, k < n → g k = 0) : sumK g n = 0 := by
  induction n with
  | zero => rfl
  | succ n ih => unfold sumK; rw [ih fun k hk => h k (by omega), h n (by omega)]
/-- the weight of what lies at t and behind it -/
def tailW (w G : Nat → Nat) (N t : Nat) : Nat := sumK (fun u => if t ≤ u then w u * G u else 0) N
theorem tailW_cut {w G : Nat → Nat} {N t : Nat} (h : t < N) : tailW w G N t = w t * G t + tailW w G N (t + 1) := by
  unfold tailW
  rw [sumK_upd (g := fun u => if t + 1 ≤ u then w u * G u else 0) (g' := fun u => if t ≤ u then w u * G u else 0) (i := t) (d := w t * G t) h (fun k hk => by
    show (if t ≤ k then w k * G k else 0) = if t + 1 ≤ k then w k * G k else 0
    by_cases h1 : t + 1 ≤ k
    · rw [if_pos h1, if_pos (by omega)]
    · rw [if_neg h1, if_neg (by omega)]) (by
    show (if t ≤ t then w t * G t else 0) = (if t + 1 ≤ t then w t * G t else 0) + w t * G t
    rw [if_pos (Nat.le_refl _), if_neg (by omega)]; omega)]
  omega
theorem tailW_add {w w' G : Nat → Nat} {N t v d : Nat} (hv : v < N) (ht : t ≤ v) (h1 : ∀ k, k ≠ v → w' k = w k) (h2 : w' v = w v + d) : tailW w' G N t = tailW w G N t + d * G v := by
  unfold tailW
  refine sumK_upd hv (fun k hk => by show (if t ≤ k then w' k * G k else 0) = _; rw [h1 k hk]) ?_
  show (if t ≤ v then w' v * G v else 0) = (if t ≤ v then w v * G v else 0) + d * G v
  rw [if_pos ht, if_pos ht, h2, Nat.add_mul]
theorem tailW_get {w G : Nat → Nat} {N t u : Nat} (hu : u < N) (ht : t ≤ u) : w u * G u ≤ tailW w G N t := by
  have := sumK_one (g := fun u => if t ≤ u then w u * G u else 0) hu
  simp only [if_pos ht] at this
  exact this
theorem tailW_last {w G : Nat → Nat} {N t : Nat} (h : t + 1 = N) : tailW w G N t = w t * G t := by
  rw [tailW_cut (by omega)]
  have : tailW w G N (t + 1) = 0 := sumK_zero fun k hk => if_neg (by omega)
  omega
/-- the steps of one mask: those from k on -/
def restW (ok : Nat → Bool) (G : Nat → Nat) (nx : Nat → Nat) (n k : Nat) : Nat := sumK (fun i => if k ≤ i ∧ ok i = true then G (nx i) else 0) n
theorem restW_yes {ok : Nat → Bool} {G nx : Nat → Nat} {n k : Nat} (h : k < n) (ho : ok k = true) : restW ok G nx n k = G (nx k) + restW ok G nx n (k + 1) := by
  unfold restW
  rw [sumK_upd (g := fun i => if k + 1 ≤ i ∧ ok i = true then G (nx i) else 0) (g' := fun i => if k ≤ i ∧ ok i = true then G (nx i) else 0) (i := k) (d := G (nx k)) h (fun i hi => by
    show (if k ≤ i ∧ ok i = true then G (nx i) else 0) = if k + 1 ≤ i ∧ ok i = true then G (nx i) else 0
    have : (k ≤ i ∧ ok i = true) ↔ (k + 1 ≤ i ∧ ok i = true) := by constructor <;> intro ⟨a, b⟩ <;> exact ⟨by omega, b⟩
    simp only [this]) (by
    show (if k ≤ k ∧ ok k = true then G (nx k) else 0) = (if k + 1 ≤ k ∧ ok k = true then G (nx k) else 0) + G (nx k)
    rw [if_pos ⟨Nat.le_refl _, ho⟩, if_neg (by omega)]; omega)]
  omega
theorem restW_no {ok : Nat → Bool} {G nx : Nat → Nat} {n k : Nat} (ho : ok k = false) : restW ok G nx n k = restW ok G nx n (k + 1) := by
  unfold restW
  refine sumK_congr fun i hi => ?_
  have : (k ≤ i ∧ ok i = true) ↔ (k + 1 ≤ i ∧ ok i = true) := by
    constructor
    · intro ⟨a, b⟩
      refine ⟨?_, b⟩
      rcases Nat.lt_or_ge k i with h | h
      · exact h
      · rw [show i = k by omega, ho] at b; cases b
    · intro ⟨a, b⟩; exact ⟨by omega, b⟩
  simp only [this]
theorem restW_end {ok : Nat → Bool} {G nx : Nat → Nat} {n k : Nat} (h : n ≤ k) : restW ok G nx n k = 0 := sumK_zero fun i hi => if_neg (by omega)
/-- one step of a mask keeps the weight -/
theorem step_keep {w w' G : Nat → Nat} {N n t k : Nat} {ok : Nat → Bool} {nx : Nat → Nat} (hk : k < n) (ho : ok k = true) (hv : nx k < N) (ht : t < nx k) (h1 : ∀ u, u ≠ nx k → w' u = w u) (h2 : w' (nx k) = w (nx k) + w t) :
    tailW w' G N (t + 1) + w' t * restW ok G nx n (k + 1) = tailW w G N (t + 1) + w t * restW ok G nx n k := by
  rw [tailW_add (d := w t) hv (by omega) h1 h2, h1 t (by omega), restW_yes hk ho, Nat.mul_add]; omega
/-- the number of ones below n -/
def pcN (n t : Nat) : Nat := sumK (fun i => if t.testBit i = true then 1 else 0) n
theorem pcN_le (n t : Nat) : pcN n t ≤ n := by
  unfold pcN
  induction n with
  | zero => exact Nat.le_refl _
  | succ n ih => unfold sumK; split <;> omega
def nxt (t k : Nat) : Nat := t ||| 2 ^ k
theorem nxt_bit (t k i : Nat) : (nxt t k).testBit i = (t.testBit i || decide (k = i)) := by
  unfold nxt
  rw [Nat.testBit_or, Nat.testBit_two_pow]
theorem pcN_nxt {n t k : Nat} (hk : k < n) (h : t.testBit k = false) : pcN n (nxt t k) = pcN n t + 1 := by
  unfold pcN
  refine sumK_upd hk (fun i hi => ?_) ?_
  · show (if (nxt t k).testBit i = true then 1 else 0) = if t.testBit i = true then 1 else 0
    rw [nxt_bit, decide_eq_false (fun e => hi e.symm), Bool.or_false]
  · show (if (nxt t k).testBit k = true then 1 else 0) = (if t.testBit k = true then 1 else 0) + 1
    rw [nxt_bit, h, decide_eq_true rfl]; rfl
theorem nxt_lt {n t k : Nat} (hk : k < n) (ht : t < 2 ^ n) : nxt t k < 2 ^ n := by
  unfold nxt
  refine Nat.or_lt_two_pow ht ?_
  exact Nat.pow_lt_pow_right (by decide) hk
theorem nxt_gt {t k : Nat} (h : t.testBit k = false) : t < nxt t k := by
  have h1 : t ≤ nxt t k := Nat.left_le_or
  rcases Nat.lt_or_ge t (nxt t k) with h2 | h2
  · exact h2
  · have e : nxt t k = t := by omega
    have := nxt_bit t k k
    rw [e, h, decide_eq_true rfl] at this; cases this
theorem pcN_full {n t : Nat} (h : t + 1 = 2 ^ n) : pcN n t = n := by
  have e : t = 2 ^ n - 1 := by omega
  subst e
  unfold pcN
  rw [sumK_congr (g' := fun _ => 1) fun i hi => by rw [Nat.testBit_two_pow_sub_one, decide_eq_true hi]; rfl]
  clear h
  induction n with
  | zero => rfl
  | succ n ih => unfold sumK; omega
theorem full_of {n t : Nat} (ht : t < 2 ^ n) (h : ¬ pcN n t < n) : t + 1 = 2 ^ n := by
  have key : ∀ m, ¬ pcN m t < m → ∀ i, i < m → t.testBit i = true := by
    intro m
    induction m with
    | zero => intro _ i hi; omega
    | succ m ih =>
      intro h i hi
      have hle := pcN_le m t
      have e : pcN (m + 1) t = pcN m t + if t.testBit m = true then 1 else 0 := rfl
      rw [e] at h
      cases hb : t.testBit m with
      | false => rw [hb] at h; simp at h; omega
      | true =>
        rw [hb] at h; simp at h
        rcases Nat.lt_or_ge i m with h1 | h1
        · exact ih (by omega) i h1
        · rw [show i = m by omega]; exact hb
  have hb := key n h
  have e : t = 2 ^ n - 1 := by
    refine Nat.eq_of_testBit_eq fun i => ?_
    rw [Nat.testBit_two_pow_sub_one]
    rcases Nat.lt_or_ge i n with h1 | h1
    · rw [hb i h1, decide_eq_true h1]
    · rw [Nat.testBit_lt_two_pow (Nat.lt_of_lt_of_le ht (Nat.pow_le_pow_right (by decide) h1)), decide_eq_false (by omega)]
  have := Nat.two_pow_pos n
  omega
/-- the permanent by rows -/
def permF (a : Nat → Nat → Bool) (n : Nat) : Nat → Nat → Nat → Nat
  | 0, _, _ => 1
  | f + 1, row, t => sumK (fun k => if a row k = true ∧ t.testBit k = false then permF a n f (row + 1) (nxt t k) else 0) n
def gP (a : Nat → Nat → Bool) (n t : Nat) : Nat := permF a n (n - pcN n t) (pcN n t) t
def okP (a : Nat → Nat → Bool) (n t k : Nat) : Bool := a (pcN n t) k && !(t.testBit k)
theorem okP_true {a : Nat → Nat → Bool} {n t k : Nat} : okP a n t k = true ↔ a (pcN n t) k = true ∧ t.testBit k = false := by
  unfold okP; rw [Bool.and_eq_true, Bool.not_eq_true']
theorem gP_step {a : Nat → Nat → Bool} {n t : Nat} (h : pcN n t < n) : restW (okP a n t) (gP a n) (nxt t) n 0 = gP a n t := by
  unfold restW
  conv => rhs; unfold gP
  rw [show n - pcN n t = (n - (pcN n t + 1)) + 1 by omega]; unfold permF
  refine sumK_congr fun k hk => ?_
  by_cases ho : a (pcN n t) k = true ∧ t.testBit k = false
  · rw [if_pos ⟨Nat.zero_le _, okP_true.2 ho⟩, if_pos ho]
    unfold gP; rw [pcN_nxt hk ho.2]
  · rw [if_neg (fun h => ho (okP_true.1 h.2)), if_neg ho]
def facN : Nat → Nat
  | 0 => 1
  | n + 1 => (n + 1) * facN n
theorem facN_pos (n : Nat) : 0 < facN n := by
  induction n with
  | zero => decide
  | succ n ih => unfold facN; exact Nat.mul_pos (by omega) ih
def gQ (n t : Nat) : Nat := facN (n - pcN n t)
theorem free_sum (n t c : Nat) : sumK (fun i => if t.testBit i = false then c else 0) n = (n - pcN n t) * c := by
  induction n with
  | zero => simp [sumK]
  | succ n ih =>
    have hle := pcN_le n t
    have e : pcN (n + 1) t = pcN n t + if t.testBit n = true then 1 else 0 := rfl
    unfold sumK; rw [ih, e]
    cases t.testBit n with
    | false =>
      simp only [if_true, Bool.false_eq_true, if_false, Nat.add_zero]
      rw [show n + 1 - pcN n t = (n - pcN n t) + 1 by omega, Nat.add_mul, Nat.one_mul]
    | true => simp
theorem gQ_step {a : Nat → Nat → Bool} {n t : Nat} (h : pcN n t < n) : restW (okP a n t) (gQ n) (nxt t) n 0 ≤ gQ n t := by
  unfold restW
  have h1 : sumK (fun i => if 0 ≤ i ∧ okP a n t i = true then gQ n (nxt t i) else 0) n ≤ sumK (fun i => if t.testBit i = false then facN (n - (pcN n t + 1)) else 0) n := by
    refine sumK_le fun k hk => ?_
    by_cases ho : a (pcN n t) k = true ∧ t.testBit k = false
    · rw [if_pos ⟨Nat.zero_le _, okP_true.2 ho⟩, if_pos ho.2]
      unfold gQ; rw [pcN_nxt hk ho.2]; exact Nat.le_refl _
    · rw [if_neg (fun h => ho (okP_true.1 h.2))]; exact Nat.zero_le _
  refine Nat.le_trans h1 ?_
  rw [free_sum]
  unfold gQ
  rw [show n - pcN n t = (n - (pcN n t + 1)) + 1 by omega]
  exact Nat.le_refl _
theorem sumK_mono {g : Nat → Nat} {k n : Nat} (h : k ≤ n) : sumK g k ≤ sumK g n := by
  induction n with
  | zero => rw [show k = 0 by omega]; exact Nat.le_refl _
  | succ n ih =>
    rcases Nat.lt_or_ge n k with h1 | h1
    · rw [show k = n + 1 by omega]; exact Nat.le_refl _
    · have := ih h1
      show sumK g k ≤ sumK g n + g n
      omega
theorem sumK_bd {g : Nat → Nat} {c n : Nat} (h : ∀ k, k < n → g k ≤ c) : sumK g n ≤ n * c := by
  induction n with
  | zero => simp [sumK]
  | succ n ih =>
    have h1 := ih fun k hk => h k (by omega)
    have h2 := h n (by omega)
    unfold sumK; rw [Nat.add_mul, Nat.one_mul]; omega
theorem permF_bd (a : Nat → Nat → Bool) (n f row t : Nat) : permF a n f row t ≤ n ^ f := by
  induction f generalizing row t with
  | zero => exact Nat.le_refl _
  | succ f ih =>
    unfold permF
    refine Nat.le_trans (sumK_bd (c := n ^ f) fun k _ => ?_) (by rw [Nat.pow_succ, Nat.mul_comm]; exact Nat.le_refl _)
    split
    · exact ih _ _
    · exact Nat.zero_le _
theorem pow_10 {n f : Nat} (hn : n ≤ 10) (hf : f ≤ 10) : n ^ f ≤ 10000000000 :=
  Nat.le_trans (Nat.pow_le_pow_left hn f) (Nat.le_trans (Nat.pow_le_pow_right (by decide) hf) (by decide))
theorem facN_10 {n : Nat} (h : n ≤ 10) : facN n ≤ 3628800 := by
  have : n = 0 ∨ n = 1 ∨ n = 2 ∨ n = 3 ∨ n = 4 ∨ n = 5 ∨ n = 6 ∨ n = 7 ∨ n = 8 ∨ n = 9 ∨ n = 10 := by omega
  rcases this with rfl | rfl | rfl | rfl | rfl | rfl | rfl | rfl | rfl | rfl | rfl <;> decide


def aE (m : List (List Int)) (r k : Nat) : Bool := decide (gI (gLs m r) k ≠ 0)
def permR (m : List (List Int)) (row used : Nat) : Nat := permF (aE m) m.length (m.length - row) row used
def pG (m : List (List Int)) (row used k : Nat) : Nat := if aE m row k = true ∧ used.testBit k = false then permR m (row + 1) (nxt used k) else 0
theorem permR_end {m : List (List Int)} {row used : Nat} (h : row = m.length) : permR m row used = 1 := by unfold permR; rw [h, Nat.sub_self]; rfl
theorem permR_step {m : List (List Int)} {row used k : Nat} (h : row < m.length) (hk : ¬ k < m.length) (hk2 : k ≤ m.length) : permR m row used = sumK (pG m row used) k := by
  rw [show k = m.length by omega]
  unfold permR
  rw [show m.length - row = (m.length - (row + 1)) + 1 by omega]; unfold permF
  rfl
theorem permR_bd {m : List (List Int)} {row used : Nat} (h : m.length ≤ 10) : permR m row used ≤ 10000000000 := Nat.le_trans (permF_bd _ _ _ _ _) (pow_10 h (by omega))
theorem pG_bd {m : List (List Int)} {row used k : Nat} (hm : m.length ≤ 10) (h : row < m.length) (hk : k ≤ m.length) : sumK (pG m row used) k ≤ 10000000000 := by
  refine Nat.le_trans (sumK_mono hk) ?_
  rw [← permR_step h (by omega) (Nat.le_refl _)]; exact permR_bd hm
theorem pG_yes {m : List (List Int)} {row used k : Nat} (h1 : gI (gLs m row) k ≠ 0) (h2 : used.testBit k = false) : sumK (pG m row used) (k + 1) = sumK (pG m row used) k + permR m (row + 1) (used ||| 2 ^ k) := by
  show sumK (pG m row used) k + pG m row used k = _
  unfold pG
  rw [if_pos ⟨decide_eq_true h1, h2⟩]; rfl
theorem pG_no {m : List (List Int)} {row used k : Nat} (h : (decide (gI (gLs m row) k ≠ 0) && !(used.testBit k)) = false) : sumK (pG m row used) (k + 1) = sumK (pG m row used) k := by
  show sumK (pG m row used) k + pG m row used k = _
  have : pG m row used k = 0 := by
    unfold pG
    refine if_neg fun ⟨h1, h2⟩ => ?_
    unfold aE at h1
    rw [h1, h2] at h; cases h
  rw [this]; rfl
theorem u10 {u n : Nat} (hu : u < 2 ^ n) (hn : n ≤ 10) : u < 1024 := Nat.lt_of_lt_of_le hu (Nat.le_trans (Nat.pow_le_pow_right (by decide) hn) (by decide))

theorem qD5_sz_28 : (Try.prog.info? 28).map (·.size) = some 1 := by kernel_rfl
theorem qD5_sz_3 : (Try.prog.info? 3).map (·.size) = some 1 := by kernel_rfl
theorem qD5_ti_28 : TI Try.prog 28 false 1 := ⟨⟨_, Try.underlying28, rfl⟩, by kernel_rfl⟩
theorem qD5_ti_3 : TI Try.prog 3 false 1 := ⟨⟨_, Try.underlying3, rfl⟩, by kernel_rfl⟩
theorem qD5_un_22 : Try.prog.underlying 22 = some (.slice 28) := Try.underlying22
theorem qD5_un_28 : Try.prog.underlying 28 = some (.slice 3) := Try.underlying28
set_option maxHeartbeats 4000000 in
set_option maxRecDepth 100000 in
theorem spec_l16Permanent_fn : ∀ (q : Nat) (m : List (List Int)) (row used : Nat) (hq : m.length - row < q) (hd : m.length ≤ 10) (hr : ∀ a, a < m.length → (gLs m a).length = m.length) (hrow : row ≤ m.length) (hu : used < 2 ^ m.length), FnO Try.prog 46 [.a (.slvv 1 (vwI m)), .a (.val (.int .i64 ((row : Nat) : Int))), .a (.val (.int .i64 ((used : Nat) : Int)))] [] (V.v (.int .i64 (((permR m row used) : Nat) : Int))) [] [] := by
 intro q
 induction q with
 | zero => intro m row used hq hd hr hrow hu; exfalso; omega
 | succ q ih =>
  intro m row used hq hd hr hrow hu
  have hu2 := u10 hu hd
  refine fn_introO (N := 45) Try.func46 rfl (by kernel_rfl) rfl (Nat.le_of_ble_eq_true rfl) rfl rfl (by kernel_rfl) (by kernel_rfl) trivial [11, 15, 42] (retO1 rfl) (fun W own kp im0 => ?_)
  show Wp _ _ _ [kV 0 (V.b (.a (.slvv 1 (vwI m)))), kI 1 ((row : Nat) : Int), kI 2 ((used : Nat) : Int), kF 11, kF 15, kF 42]
  refine sq (rg (zk (nl (sq (sq (rg (zm (zm ?_))))))))
  refine z ?_ (h := fun ν => lnI ν qD5_un_22)
  refine z ?_ (h := fun ν => acts_bin ν vt vt (r_eql rfl))
  refine nl ?_
  refine wi (fun c1 => ?_) (fun c1 => ?_)
  ·skip
   have c1P := of_decide_eq_true c1
   refine sq (rg (zk (nl (wp_ret' ?_))))
   exact ⟨_, weak_id, trivial, vo_eq 6 (.a (.val (.int .i64 1))) (.a (.val (.int .i64 (((permR m row used) : Nat) : Int)))) (by kernel_rfl) (congrArg (fun z : Nat => B.a (.val (.int .i64 (z : Int)))) (by exact Eq.symm (permR_end (by omega))))⟩
  ·skip
   have c1P := of_decide_eq_false c1
   have hrl : row < m.length := by omega
   have hrr := hr row (by omega)
   refine sk (sq (rg (zk (nl (sq (sq (rg (zk (nl (bkk ?_))))))))))
   refine wp_loop' (fun (k : Nat) => k ≤ m.length) (fun (k : Nat) => [kV 0 (V.b (.a (.slvv 1 (vwI m)))), kI 1 ((row : Nat) : Int), kI 2 ((used : Nat) : Int), kI 7 (((sumK (pG m row used) k) : Nat) : Int), kI 8 ((k : Nat) : Int), kF 11, kF 15, kF 42]) (fun (k : Nat) => m.length - k) ((0 : Nat)) (by exact (Nat.zero_le _ : 0 ≤ _)) (wkf id (wS <| wS <| wS <| wE (e := (vint (by first | omega | (rw [pG_yes (by assumption) (by assumption)]; simp; done) | (rw [hpn]; done) | rfl))) <| wE (e := (vint (by first | omega | (rw [pG_yes (by assumption) (by assumption)]; simp; done) | (rw [hpn]; done) | rfl))) <| wF <| wF <| wF <| wN)) ?_
   rintro k inv2
   replace inv2 : k ≤ m.length := inv2
   have invk := inv2
   have hb0 := pG_bd (used := used) (k := k) hd hrl invk
   refine sq (sq (rg (zm (zm ?_))))
   refine z ?_ (h := fun ν => lnI ν qD5_un_22)
   refine z ?_ (h := fun ν => acts_bin ν vt vt (r_lss rfl))
   refine nl ?_
   refine wi (fun c3 => ?_) (fun c3 => ?_)
   ·skip
    have c3P := of_decide_eq_true c3
    have hb1 := pG_bd (used := used) (k := k + 1) hd hrl (by omega)
    have hnx := nxt_lt (k := k) (by omega) hu
    have hnx2 := u10 hnx hd
    have hpb := permR_bd (row := row + 1) (used := used ||| 2 ^ k) hd
    have hk2 : (2 : Nat) ^ k < 1024 := u10 (Nat.pow_lt_pow_right (by decide) (by omega)) hd
    refine sk (sq (bkk (sq ?_)))
    refine wp_join [kB 33 ((decide ((gI (gLs m row) k) ≠ 0)) && (!(used.testBit k))), kV 0 (V.b (.a (.slvv 1 (vwI m)))), kI 1 ((row : Nat) : Int), kI 2 ((used : Nat) : Int), kI 7 (((sumK (pG m row used) k) : Nat) : Int), kI 8 ((k : Nat) : Int), kF 11, kF 15, kF 42] ?_ ?_
    ·skip
     rcases Bool.eq_false_or_eq_true (decide ((gI (gLs m row) k) ≠ 0)) with c4 | c4
     ·skip
      have c4P := of_decide_eq_true c4
      refine rg (zm (zm ?_))
      refine z ?_ (h := fun ν => xvv ν qD5_un_22 qD5_sz_28 vt (hlt := (by simp only [vwI_len, vwD_len]; first | omega | assumption | exact nxt_lt (by omega) (by assumption))))
      refine z ?_ (h := fun ν => lvI ν qD5_ti_28 (by first | omega | assumption | exact nxt_lt (by omega) (by assumption)))
      refine zm ?_
      refine z ?_ (h := fun ν => ixv ν qD5_un_28 qD5_sz_3 vt (hlt := (by first | omega | assumption | exact nxt_lt (by omega) (by assumption))))
      refine z ?_ (h := fun ν => uI ν qD5_ti_3 (by first | omega | assumption | exact nxt_lt (by omega) (by assumption)))
      refine z ?_ (h := fun ν => acts_bin ν vt vc (r_neq (c := true) c4))
      refine zm ?_
      refine zg ?_ (h := fun ν => step_on rfl rfl (mt ν))
      refine zg ?_ (h := fun ν => step_on rfl rfl (mt ν))
      refine zg ?_ (h := fun ν => step_on rfl rfl (acts_bin ν vt vt (r_shr (c := (((used >>> k) : Nat) : Int)) (by first | omega | exact Int.natCast_nonneg _) (shrU (m := used) (n := k) rfl rfl (by first | omega | assumption | exact Nat.lt_of_le_of_lt (shr_le _ _) (by first | omega | assumption | (first | omega | assumption | exact nxt_lt (by omega) (by assumption))) | (first | omega | assumption | exact nxt_lt (by omega) (by assumption))) rfl))))
      refine zg ?_ (h := fun ν => step_on rfl rfl (acts_bin ν vt vc (r_and (c := ((((used >>> k) &&& 1) : Nat) : Int)) (andI (m := (used >>> k)) (n := 1) rfl rfl (by first | omega | assumption | exact Nat.lt_of_le_of_lt (shr_le _ _) (by first | omega | assumption | (first | omega | assumption | exact nxt_lt (by omega) (by assumption))) | (first | omega | assumption | exact nxt_lt (by omega) (by assumption))) (by first | omega | assumption | exact Nat.lt_of_le_of_lt (shr_le _ _) (by first | omega | assumption | (first | omega | assumption | exact nxt_lt (by omega) (by assumption))) | (first | omega | assumption | exact nxt_lt (by omega) (by assumption)))))))
      refine zg ?_ (h := fun ν => step_on rfl rfl (acts_bin ν vt vc (r_eql (c := (!(used.testBit k))) (bit_zero _ _))))
      refine z ?_ (h := fun ν => acts_pick_t ν vt xt)
      refine nl ?_
      exact ⟨rfl, weak_reads ⟨(by simp only [c4]; first | done | kernel_rfl), (by repeat (first | exact trivial | refine ⟨by kernel_rfl, ?_⟩))⟩⟩
     ·skip
      have c4P := of_decide_eq_false c4
      refine rg (zm (zm ?_))
      refine z ?_ (h := fun ν => xvv ν qD5_un_22 qD5_sz_28 vt (hlt := (by simp only [vwI_len, vwD_len]; first | omega | assumption | exact nxt_lt (by omega) (by assumption))))
      refine z ?_ (h := fun ν => lvI ν qD5_ti_28 (by first | omega | assumption | exact nxt_lt (by omega) (by assumption)))
      refine zm ?_
      refine z ?_ (h := fun ν => ixv ν qD5_un_28 qD5_sz_3 vt (hlt := (by first | omega | assumption | exact nxt_lt (by omega) (by assumption))))
      refine z ?_ (h := fun ν => uI ν qD5_ti_3 (by first | omega | assumption | exact nxt_lt (by omega) (by assumption)))
      refine z ?_ (h := fun ν => acts_bin ν vt vc (r_neq (c := false) c4))
      refine zm (zo (zo (zo (zo (zo ?_)))))
      refine z ?_ (h := fun ν => acts_pick_f ν vt xc)
      refine nl ?_
      exact ⟨rfl, weak_reads ⟨(by simp only [c4]; first | done | kernel_rfl), (by repeat (first | exact trivial | refine ⟨by kernel_rfl, ?_⟩))⟩⟩
    refine wi (b := ((decide ((gI (gLs m row) k) ≠ 0)) && (!(used.testBit k)))) (fun c5 => ?_) (fun c5 => ?_)
    ·skip
     obtain ⟨c6, c7⟩ := and_tt c5
     have c6P := of_decide_eq_true c6
     have c8 : (used.testBit k) = false := by first | (rw [← Bool.not_eq_true']; exact c7) | simpa using c7
     refine rg (zm (zm (zm ?_)))
     refine z ?_ (h := fun ν => acts_bin ν vt vc (rA (by first | omega | assumption | exact nxt_lt (by omega) (by assumption)) (by first | omega | assumption | exact nxt_lt (by omega) (by assumption))))
     refine zm (zm ?_)
     refine z ?_ (h := fun ν => acts_bin ν vc vt (r_shl (c := (((2 ^ k) : Nat) : Int)) (by first | omega | exact Int.natCast_nonneg _) (shl1I (n := k) rfl (by first | omega | assumption | exact Nat.lt_of_le_of_lt (shr_le _ _) (by first | omega | assumption | (first | omega | assumption | exact nxt_lt (by omega) (by assumption))) | (first | omega | assumption | exact nxt_lt (by omega) (by assumption))))))
     refine z ?_ (h := fun ν => acts_bin ν vt vt (r_or (c := (((used ||| (2 ^ k)) : Nat) : Int)) (orI (m := used) (n := (2 ^ k)) rfl rfl (by first | omega | assumption | exact Nat.lt_of_le_of_lt (shr_le _ _) (by first | omega | assumption | (first | omega | assumption | exact nxt_lt (by omega) (by assumption))) | (first | omega | assumption | exact nxt_lt (by omega) (by assumption))) (by first | omega | assumption | exact Nat.lt_of_le_of_lt (shr_le _ _) (by first | omega | assumption | (first | omega | assumption | exact nxt_lt (by omega) (by assumption))) | (first | omega | assumption | exact nxt_lt (by omega) (by assumption))))))
     refine z ?_ (h := fun ν => acts_callO (d := 42) (f := 46) (os := []) (os' := []) (r := V.v (.int .i64 (((permR m (row + 1) (used ||| (2 ^ k))) : Nat) : Int))) (bs := [.a (.slvv 1 (vwI m)), .a (.val (.int .i64 (((row : Nat) : Int) + 1))), .a (.val (.int .i64 (((used ||| (2 ^ k)) : Nat) : Int)))]) (keep := []) (new := []) (dead := []) ν ((ih m (row + 1) (used ||| (2 ^ k)) (by first | omega | assumption | exact nxt_lt (by omega) (by assumption)) (by first | omega | assumption | exact nxt_lt (by omega) (by assumption)) (by first | omega | assumption | exact nxt_lt (by omega) (by assumption)) (by first | omega | assumption | exact nxt_lt (by omega) (by assumption)) (by first | omega | assumption | exact nxt_lt (by omega) (by assumption)))) (by kernel_rfl) trivial (by kernel_rfl) (ArgOs.cons (ArgO.slot 35 (.a (.slvv 1 (vwI m)))) (ArgOs.cons ((ArgO.v vt)) (ArgOs.cons ((ArgO.v vt)) (ArgOs.nil)))))
     refine z ?_ (h := fun ν => acts_bin ν vt vt (rA (by first | omega | assumption | exact nxt_lt (by omega) (by assumption)) (by first | omega | assumption | exact nxt_lt (by omega) (by assumption))))
     refine za (nl (rg (zm ?_)))
     refine z ?_ (h := fun ν => acts_bin ν vt vc (rA (by first | omega | assumption | exact nxt_lt (by omega) (by assumption)) (by first | omega | assumption | exact nxt_lt (by omega) (by assumption))))
     refine za (nl ?_)
     exact loop_back ((k + 1)) (by show _ ≤ _; omega) (by show m.length - (k + 1) < m.length - k; omega) (wkf id (wS <| wS <| wS <| wE (e := (vint (by first | omega | (rw [pG_yes (by assumption) (by assumption)]; simp; done) | (rw [hpn]; done) | rfl))) <| wE (e := (vint (by first | omega | (rw [pG_yes (by assumption) (by assumption)]; simp; done) | (rw [hpn]; done) | rfl))) <| wF <| wF <| wF <| wN))
    ·skip
     have hpn := pG_no c5
     have c9 := and_ff c5
     refine sk (rg (zm ?_))
     refine z ?_ (h := fun ν => acts_bin ν vt vc (rA (by first | omega | assumption | exact nxt_lt (by omega) (by assumption)) (by first | omega | assumption | exact nxt_lt (by omega) (by assumption))))
     refine za (nl ?_)
     exact loop_back ((k + 1)) (by show _ ≤ _; omega) (by show m.length - (k + 1) < m.length - k; omega) (wkf id (wS <| wS <| wS <| wE (e := (vint (by first | omega | (rw [pG_yes (by assumption) (by assumption)]; simp; done) | (rw [hpn]; done) | rfl))) <| wE (e := (vint (by first | omega | (rw [pG_yes (by assumption) (by assumption)]; simp; done) | (rw [hpn]; done) | rfl))) <| wF <| wF <| wF <| wN))
   ·skip
    have c3P := of_decide_eq_false c3
    refine wp_exit' (sq (rg (zm (za (nl (wp_ret' ?_))))))
    exact ⟨_, weak_id, trivial, vo_eq 6 (.a (.val (.int .i64 (((sumK (pG m row used) k) : Nat) : Int)))) (.a (.val (.int .i64 (((permR m row used) : Nat) : Int)))) (by kernel_rfl) (congrArg (fun z : Nat => B.a (.val (.int .i64 (z : Int)))) (by exact Eq.symm (permR_step hrl (by omega) (by omega))))⟩
end Cl
end Go.Proofs.Ythnaalmoedjjkaa
