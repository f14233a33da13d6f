/- Walks over clean states, printed by wg.py. No statement is proved here. -/
import Derived.Test.YtmbodpmhokbapaaCl18
import Derived.Test.YtmbodpmhokbapaaCl13
import Derived.Test.YtmbodpmhokbapaaEdge
import Derived.Test.YtmbodpmhokbapaaCells
namespace Go.Proofs.Ytmbodpmhokbapaa
namespace Cl
open Go.ChangeShapes Go.WideShapes Go.ChangeAt Go.RowKit

def cN (i : Nat) : Cel := ⟨((i % 8 : Nat) : Int), ((i / 8 : Nat) : Int)⟩
def idx (c : Cel) : Nat := (c.y * 8 + c.x).toNat
theorem idx_lt {c : Cel} (h : okc c.x c.y = true) : idx c < 64 := by have := okc_true.1 h; unfold idx; omega
theorem idx_eq {c : Cel} (h : okc c.x c.y = true) : c.y * 8 + c.x = ((idx c : Nat) : Int) := by have := okc_true.1 h; unfold idx; omega
theorem cN_ok {i : Nat} (h : i < 64) : okc (cN i).x (cN i).y = true := okc_true.2 (by unfold cN; dsimp only; omega)
theorem cN_idx {c : Cel} (h : okc c.x c.y = true) : cN (idx c) = c := by
  have := okc_true.1 h
  unfold cN idx; cases c; simp only [Cel.mk.injEq] at *; omega
theorem idx_cN {i : Nat} (h : i < 64) : idx (cN i) = i := by unfold idx cN; dsimp only; omega
theorem range_yes {p : Nat → Bool} {k : Nat} (h : p k = true) : ((List.range (k+1)).filter p).map cN = ((List.range k).filter p).map cN ++ [cN k] := by
  rw [List.range_succ, List.filter_append, List.map_append]; simp [h]
theorem range_no {p : Nat → Bool} {k : Nat} (h : p k = false) : ((List.range (k+1)).filter p).map cN = ((List.range k).filter p).map cN := by
  rw [List.range_succ, List.filter_append, List.map_append]; simp [h]
theorem range_len (p : Nat → Bool) (k : Nat) : (((List.range k).filter p).map cN).length ≤ k := by
  rw [List.length_map]; exact Nat.le_trans (List.length_filter_le _ _) (by simp)
def nbr (a b : Cel) : Bool := okc a.x a.y && okc b.x b.y && decide (iabs (a.x - b.x) + iabs (a.y - b.y) = 1)
theorem iabs_or (z : Int) : (iabs z = z ∨ iabs z = -z) ∧ 0 ≤ iabs z := by unfold iabs; split <;> omega
theorem iabs_sq {a b : Int} : decide (a * a + b * b = 1) = decide (iabs a + iabs b = 1) := by
  have key : ∀ z : Int, z * z = iabs z * iabs z := fun z => by
    rcases (iabs_or z).1 with h | h
    · rw [h]
    · rw [h, Int.neg_mul_neg]
  rw [key a, key b, Bool.eq_iff_iff, decide_eq_true_eq, decide_eq_true_eq]
  have h1 := (iabs_or a).2
  have h2 := (iabs_or b).2
  generalize iabs a = p at *
  generalize iabs b = q at *
  constructor
  · intro h
    have hp : p ≤ 1 := by
      rcases Int.lt_or_le 1 p with h3 | h3
      · have : p * 2 ≤ p * p := Int.mul_le_mul_of_nonneg_left (by omega) h1
        have : 0 ≤ q * q := Int.mul_nonneg h2 h2
        omega
      · exact h3
    have hq : q ≤ 1 := by
      rcases Int.lt_or_le 1 q with h3 | h3
      · have : q * 2 ≤ q * q := Int.mul_le_mul_of_nonneg_left (by omega) h2
        have : 0 ≤ p * p := Int.mul_nonneg h1 h1
        omega
      · exact h3
    have e1 : p = 0 ∨ p = 1 := by omega
    have e2 : q = 0 ∨ q = 1 := by omega
    rcases e1 with rfl | rfl <;> rcases e2 with rfl | rfl <;> omega
  · intro h
    have e1 : p = 0 ∨ p = 1 := by omega
    rcases e1 with rfl | rfl
    · have : q = 1 := by omega
      subst this; rfl
    · have : q = 0 := by omega
      subst this; rfl
theorem sq_bd {d : Int} (h1 : -7 ≤ d) (h2 : d ≤ 7) : 0 ≤ d * d ∧ d * d ≤ 49 := by
  have : d = -7 ∨ d = -6 ∨ d = -5 ∨ d = -4 ∨ d = -3 ∨ d = -2 ∨ d = -1 ∨ d = 0 ∨ d = 1 ∨ d = 2 ∨ d = 3 ∨ d = 4 ∨ d = 5 ∨ d = 6 ∨ d = 7 := by omega
  rcases this with rfl | rfl | rfl | rfl | rfl | rfl | rfl | rfl | rfl | rfl | rfl | rfl | rfl | rfl | rfl <;> omega
def four (c : Cel) : List Cel := [⟨c.x, c.y - 1⟩, ⟨c.x - 1, c.y⟩, ⟨c.x + 1, c.y⟩, ⟨c.x, c.y + 1⟩]
def nbs (c : Cel) : List Cel := if okc c.x c.y then (four c).filter (fun z => okc z.x z.y) else []
theorem nbs_scan_dec : ∀ i, i < 64 → ((List.range 64).filter (fun k => nbr (cN i) (cN k))).map cN = nbs (cN i) := by decide +kernel
theorem nbs_scan (c : Cel) : ((List.range 64).filter (fun k => nbr c (cN k))).map cN = nbs c := by
  by_cases h : okc c.x c.y = true
  · have := nbs_scan_dec (idx c) (idx_lt h)
    rwa [cN_idx h] at this
  · simp only [Bool.not_eq_true] at h
    have e : (fun k => nbr c (cN k)) = fun _ => false := by funext k; unfold nbr; rw [h]; rfl
    rw [e]; unfold nbs; rw [h]; simp
theorem cfilt_yes {p : Cel → Bool} {l : List Cel} {k : Nat} (h : k < l.length) (hp : p (gC l k) = true) : (l.take (k+1)).filter p = (l.take k).filter p ++ [gC l k] := by
  rw [List.take_succ_eq_append_getElem h, List.filter_append, ← gC_eq h]; simp [hp]
theorem cfilt_no {p : Cel → Bool} {l : List Cel} {k : Nat} (h : k < l.length) (hp : p (gC l k) = false) : (l.take (k+1)).filter p = (l.take k).filter p := by
  rw [List.take_succ_eq_append_getElem h, List.filter_append, ← gC_eq h]; simp [hp]
theorem cfilt_len (p : Cel → Bool) (l : List Cel) (k : Nat) : ((l.take k).filter p).length ≤ k := by
  have := List.length_filter_le p (l.take k); simp at this ⊢; omega
theorem nbs_len (c : Cel) : (nbs c).length ≤ 4 := by
  unfold nbs; split
  · exact Nat.le_trans (List.length_filter_le _ _) (by simp [four])
  · simp
/-- the cells of a set -/
def setCells (s : Nat) : List Cel := ((List.range 64).filter s.testBit).map cN
theorem setCells_len (s : Nat) : (setCells s).length ≤ 64 := range_len _ 64
def addC (s : Nat) (c : Cel) : Nat := s ||| 2 ^ (idx c)
def delC (s : Nat) (c : Cel) : Nat := andn s (2 ^ (idx c))
theorem addC_lt {s : Nat} (hs : s < 18446744073709551616) {c : Cel} (h : okc c.x c.y = true) : addC s c < 18446744073709551616 := nat_or_lt 64 hs (two_pow_u (idx_lt h))
theorem delC_lt {s : Nat} (hs : s < 18446744073709551616) (c : Cel) : delC s c < 18446744073709551616 := andn_lt hs
theorem addC_bit (s : Nat) (c : Cel) (i : Nat) : (addC s c).testBit i = (s.testBit i || decide (idx c = i)) := by
  unfold addC; rw [Nat.testBit_or, Nat.testBit_two_pow]
def hasS (s : Nat) (c : Cel) : Bool := okc c.x c.y && s.testBit (idx c)
def setL (l : List Cel) : Nat := l.foldl addC 0
theorem foldl_addC_lt {l : List Cel} (h : ∀ c ∈ l, okc c.x c.y = true) : ∀ s, s < 18446744073709551616 → l.foldl addC s < 18446744073709551616 := by
  induction l with
  | nil => intro s hs; exact hs
  | cons c l ih => intro s hs; exact ih (fun c hc => h c (by simp [hc])) _ (addC_lt hs (h c (by simp)))
theorem setL_lt {l : List Cel} (h : ∀ c ∈ l, okc c.x c.y = true) : setL l < 18446744073709551616 := foldl_addC_lt h 0 (by decide)
theorem foldl_addC_bit (l : List Cel) : ∀ s i, (l.foldl addC s).testBit i = (s.testBit i || decide (∃ c ∈ l, idx c = i)) := by
  induction l with
  | nil => intro s i; simp
  | cons c l ih =>
    intro s i
    rw [List.foldl_cons, ih, addC_bit, Bool.or_assoc]
    congr 1
    rw [Bool.eq_iff_iff]; simp
theorem setL_bit (l : List Cel) (i : Nat) : (setL l).testBit i = decide (∃ c ∈ l, idx c = i) := by
  unfold setL; rw [foldl_addC_bit]; simp
/-- regions -/
def regOk (l : List Int) : Bool := decide (l.length ≤ 8) && allIn l 0 255
theorem regOk_true {l : List Int} (h : regOk l = true) : l.length ≤ 8 ∧ ∀ k, k < l.length → 0 ≤ gI l k ∧ gI l k ≤ 255 := by
  unfold regOk allIn at h
  simp only [Bool.and_eq_true, decide_eq_true_eq, List.all_eq_true] at h
  exact ⟨h.1, fun k hk => by rw [gI_eq hk]; exact inB_true.1 (h.2 _ (List.getElem_mem hk))⟩
def rs (l : List Int) : Nat → Nat
  | 0 => 0
  | k + 1 => rs l k ||| ((gI l k).toNat <<< (8 * k))
def regSet (l : List Int) : Nat := rs l l.length
theorem shl_row {a k : Nat} (ha : a ≤ 255) (hk : k < 8) : a <<< (8 * k) < 2 ^ (8 * (k + 1)) := by
  rw [Nat.shiftLeft_eq]
  have e : 8 * (k + 1) = 8 * k + 8 := by omega
  rw [e, Nat.pow_add, Nat.mul_comm]
  exact Nat.mul_lt_mul_of_pos_left (by omega) (Nat.two_pow_pos _)
theorem rs_lt' {l : List Int} (h : regOk l = true) {k : Nat} (hk : k ≤ l.length) : rs l k < 2 ^ (8 * k) := by
  obtain ⟨h8, hr⟩ := regOk_true h
  induction k with
  | zero => simp [rs]
  | succ k ih =>
    have := hr k (by omega)
    unfold rs
    refine Nat.or_lt_two_pow ?_ (shl_row (by omega) (by omega))
    exact Nat.lt_of_lt_of_le (ih (by omega)) (Nat.pow_le_pow_right (by decide) (by omega))
theorem rs_lt {l : List Int} (h : regOk l = true) {k : Nat} (hk : k ≤ l.length) : rs l k < 18446744073709551616 := by
  obtain ⟨h8, _⟩ := regOk_true h
  exact Nat.lt_of_lt_of_le (rs_lt' h hk) (Nat.pow_le_pow_right (n := 2) (by decide) (by omega : 8 * k ≤ 64))
theorem shl_u {a k : Nat} (ha : a ≤ 255) (hk : k < 8) : a <<< (8 * k) < 18446744073709551616 :=
  Nat.lt_of_lt_of_le (shl_row ha hk) (Nat.pow_le_pow_right (n := 2) (by decide) (by omega : 8 * (k + 1) ≤ 64))
theorem regSet_lt {l : List Int} (h : regOk l = true) : regSet l < 18446744073709551616 := rs_lt h (Nat.le_refl _)
theorem row_bit {a : Nat} (ha : a ≤ 255) {x : Nat} (hx : 8 ≤ x) : a.testBit x = false :=
  Nat.testBit_lt_two_pow (Nat.lt_of_lt_of_le (show a < 2 ^ 8 by omega) (Nat.pow_le_pow_right (by decide) hx))
theorem rs_bit {l : List Int} (h : regOk l = true) {k : Nat} (hk : k ≤ l.length) (x y : Nat) (hx : x < 8) : (rs l k).testBit (8 * y + x) = (decide (y < k) && (gI l y).toNat.testBit x) := by
  obtain ⟨h8, hr⟩ := regOk_true h
  induction k with
  | zero => simp [rs]
  | succ k ih =>
    have hb := hr k (by omega)
    unfold rs
    rw [Nat.testBit_or, ih (by omega), Nat.testBit_shiftLeft]
    rcases Nat.lt_trichotomy y k with hlt | rfl | hgt
    · have e1 : decide (8 * y + x ≥ 8 * k) = false := by simp; omega
      rw [e1]; simp [hlt, show y < k + 1 by omega]
    · have e1 : 8 * y + x - 8 * y = x := by omega
      rw [e1]; simp
    · have e1 : (gI l k).toNat.testBit (8 * y + x - 8 * k) = false := row_bit (by omega) (by omega)
      rw [e1]
      have n1 : ¬ y < k := by omega
      have n2 : ¬ y < k + 1 := by omega
      simp [n1, n2]
def hasR (l : List Int) (c : Cel) : Bool := decide (c.y < l.length) && (gI l c.y.toNat).toNat.testBit c.x.toNat
theorem regSet_has {l : List Int} (h : regOk l = true) {c : Cel} (hc : okc c.x c.y = true) : (regSet l).testBit (idx c) = hasR l c := by
  have hq := okc_true.1 hc
  have e : idx c = 8 * c.y.toNat + c.x.toNat := by unfold idx; omega
  unfold regSet
  rw [e, rs_bit h (Nat.le_refl _) _ _ (by omega)]
  unfold hasR
  congr 1
  rw [Bool.eq_iff_iff]; simp; omega
def hasC (l : List Int) (c : Cel) : Bool := regOk l && (okc c.x c.y && (regSet l).testBit (idx c))
theorem hasC_spec {l : List Int} {c : Cel} (h : regOk l = true) (hc : okc c.x c.y = true) : hasR l c = hasC l c := by unfold hasC; rw [h, hc, regSet_has h hc]; rfl
def cellsOf (l : List Int) : List Cel := if regOk l then setCells (regSet l) else []
theorem cellsOf_len (l : List Int) : (cellsOf l).length ≤ 64 := by unfold cellsOf; split; exact setCells_len _; simp
theorem cellsOf_scan {l : List Int} (h : regOk l = true) : ((List.range 64).filter (fun k => hasR l (cN k))).map cN = cellsOf l := by
  unfold cellsOf setCells; rw [h, if_pos rfl]
  congr 1
  refine List.filter_congr fun k hk => ?_
  have hk : k < 64 := by simpa using hk
  rw [← regSet_has h (cN_ok hk), idx_cN hk]
theorem gC_mem {l : List Cel} {k : Nat} (h : k < l.length) : gC l k ∈ l := by rw [gC_eq h]; exact List.getElem_mem h
theorem qC0_fo_53_0 : fieldOff Try.prog 53 0 = some 0 := by kernel_rfl
theorem qC0_fo_53_1 : fieldOff Try.prog 53 1 = some 1 := by kernel_rfl
theorem qC0_ti_3 : TI Try.prog 3 false 1 := ⟨⟨_, Try.underlying3, rfl⟩, by kernel_rfl⟩
theorem qC0_ti_53 : TI Try.prog 53 true 2 := ⟨⟨_, Try.underlying53, rfl⟩, by kernel_rfl⟩
theorem qC0_zi_53 : ZI Try.prog 53 (.agg #[.int .i64 0, .int .i64 0]) 2 16 := by unfold ZI; kernel_rfl
theorem impl_within_fn (a b c : Int) : Fn Try.prog 95 [.a (.val (.int .i64 a)), .a (.val (.int .i64 b)), .a (.val (.int .i64 c))] [.val (.bool (inB a b c))] := by
  refine ⟨⟨_, Try.func95, by kernel_rfl, by kernel_rfl⟩, fun w args h => ?_⟩
  match args, args_iff.1 h with
  | [u0, u1, u2], ⟨h0, h1, h2, _⟩ =>
    obtain rfl := argB_v h0
    obtain rfl := argB_v h1
    obtain rfl := argB_v h2
    refine Calls.mono (within_c a b c w) ?_
    rintro e w' ⟨rfl, rfl⟩
    exact ⟨_, rfl, rfl, Below.refl _ _⟩

theorem spec_l01In_fn (a b c : Int) : Fn Try.prog 75 [.a (.val (.int .i64 a)), .a (.val (.int .i64 b)), .a (.val (.int .i64 c))] [.val (.bool (inB a b c))] := by
  refine ⟨⟨_, Try.func75, by kernel_rfl, by kernel_rfl⟩, fun w args h => ?_⟩
  match args, args_iff.1 h with
  | [u0, u1, u2], ⟨h0, h1, h2, _⟩ =>
    obtain rfl := argB_v h0
    obtain rfl := argB_v h1
    obtain rfl := argB_v h2
    refine Calls.mono (l01In_c a b c w) ?_
    rintro e w' ⟨rfl, rfl⟩
    exact ⟨_, rfl, rfl, Below.refl _ _⟩

theorem impl_allWithin_fn (l : List Int) (a b : Int) (hl : l.length ≤ 4194304) : Fn Try.prog 84 [.a (.slv l.length 1 (isl l)), .a (.val (.int .i64 a)), .a (.val (.int .i64 b))] [.val (.bool (allIn l a b))] := by
  refine ⟨⟨_, Try.func84, by kernel_rfl, by kernel_rfl⟩, fun w args h => ?_⟩
  match args, args_iff.1 h with
  | [u0, u1, u2], ⟨h0, h1, h2, _⟩ =>
    obtain ⟨A0, c0, rfl, hc0, hr0⟩ := argB_slv h0
    obtain rfl := argB_v h1
    obtain rfl := argB_v h2
    refine Calls.mono (allWithin_c l A0 l.length c0 a b w hr0 hl) ?_
    rintro e w' ⟨rfl, rfl⟩
    exact ⟨_, rfl, rfl, Below.refl _ _⟩

theorem impl_CellOk_fn (c : Cel) : Fn Try.prog 82 [.agg ([(.int .i64 c.x : Value), .int .i64 c.y].map A.val)] [.val (.bool (okc c.x c.y))] := by
  refine ⟨⟨_, Try.func82, by kernel_rfl, by kernel_rfl⟩, fun w args h => ?_⟩
  match args, args_iff.1 h with
  | [u0], ⟨h0, _⟩ =>
    obtain rfl := argB_av h0
    refine Calls.mono (cellOk_impl c.x c.y w) ?_
    rintro e w' ⟨rfl, hb⟩
    exact ⟨_, rfl, rfl, hb⟩

theorem spec_CellOk_fn (c : Cel) : Fn Try.prog 73 [.agg ([(.int .i64 c.x : Value), .int .i64 c.y].map A.val)] [.val (.bool (okc c.x c.y))] := by
  refine ⟨⟨_, Try.func73, by kernel_rfl, by kernel_rfl⟩, fun w args h => ?_⟩
  match args, args_iff.1 h with
  | [u0], ⟨h0, _⟩ =>
    obtain rfl := argB_av h0
    refine Calls.mono (cellOk_spec c.x c.y w) ?_
    rintro e w' ⟨rfl, hb⟩
    exact ⟨_, rfl, rfl, hb⟩

theorem impl_size_fn (a : Int) (h1 : -9223372036854775807 ≤ a) (h2 : a ≤ 9223372036854775807) : Fn Try.prog 56 [.a (.val (.int .i64 a))] [.val (.int .i64 (iabs a))] := by
  refine ⟨⟨_, Try.func56, by kernel_rfl, by kernel_rfl⟩, fun w args h => ?_⟩
  match args, args_iff.1 h with
  | [u0], ⟨h0, _⟩ =>
    obtain rfl := argB_v h0
    refine Calls.mono (size_c a w h1 h2) ?_
    rintro e w' ⟨rfl, rfl⟩
    exact ⟨_, rfl, rfl, Below.refl _ _⟩

set_option maxHeartbeats 4000000 in
set_option maxRecDepth 100000 in
theorem impl_CellIndex_fn (c : Cel) (hc : okc c.x c.y = true) : Fn Try.prog 47 [.agg ([(.int .i64 c.x : Value), .int .i64 c.y].map A.val)] [.val (.int .i64 (((idx c) : Nat) : Int))] := by
 have hq := okc_true.1 hc
 refine fn_intro (N := 12) Try.func47 rfl (by kernel_rfl) rfl (Nat.le_of_ble_eq_true rfl) [1, 4] (ret1 rfl) (fun W => ?_)
 show Wp _ _ _ [(.s 0, some (.s (V.av [(.int .i64 c.x : Value), .int .i64 c.y]))), (.o 1, some .free), (.o 4, some .free)]
 refine wp_seq' ?_
 refine wp_region_t ?_
 refine w1 (acts_box (d := 1) (h := 1) (b := .agg ([(.int .i64 c.x : Value), .int .i64 c.y].map A.val)) (ltN rfl) (OpX.tmp 0 (V.av [(.int .i64 c.x : Value), .int .i64 c.y])) (by intro y hy; simp [B.cs] at hy; rcases hy with rfl | rfl <;> rfl)) ?_
 refine w1 (acts_assign (d := 2) (ltN rfl) (OpX.const (.int .i64 0))) ?_
 refine wpl_nil ?_
 refine wp_seq' ?_
 refine wp_seq' ?_
 refine wp_region_t ?_
 refine w1 (acts_load_owns (d := 3) (t := 1) (h := 1) (off := 0) (o := ⟨53, 2, true, [(.val (.int .i64 c.x) : A), .val (.int .i64 c.y)]⟩)  (xs := [(.int .i64 c.x : Value), .int .i64 c.y].map A.val) (ltN rfl) qC0_ti_53 rfl (by decide) rfl) ?_
 refine w1 (acts_call1 (d := 4) (ltN rfl) (impl_CellOk_fn c ) (ArgVs.cons (ArgV.va (vs := [(.int .i64 c.x : Value), .int .i64 c.y]) (OpV.agg 3 [(.int .i64 c.x : Value), .int .i64 c.y])) (ArgVs.nil)) ((resval (congrArg Value.bool hc)))) ?_
 refine w1 (acts_un (d := 5) (ltN rfl) (OpV.tmp 4 (.bool true)) (r_not (c := false) rfl)) ?_
 refine wpl_nil ?_
 refine wp_if_f (t := 5) (by kernel_rfl) ?_
 refine wp_skip' ?_
 refine wp_seq' ?_
 refine wp_region_t ?_
 refine w1 (acts_field (d := 6) (t := 1) (h := 1) (off := 0) (off' := 1) (ltN rfl) qC0_fo_53_1 rfl) ?_
 refine w1 (acts_load_own (d := 7) (t := 6) (h := 1) (off := 1) (o := ⟨53, 2, true, [(.val (.int .i64 c.x) : A), .val (.int .i64 c.y)]⟩)  (x := .val (.int .i64 c.y)) (ltN rfl) qC0_ti_3 rfl) ?_
 refine w1 (bn 8 (OpV.tmp 7 (.int .i64 c.y)) (OpV.const (.int .i64 8)) (r_mul (c := (c.y * 8)) (w64 (by omega) (by omega)))) ?_
 refine w1 (acts_field (d := 9) (t := 1) (h := 1) (off := 0) (off' := 0) (ltN rfl) qC0_fo_53_0 rfl) ?_
 refine w1 (acts_load_own (d := 10) (t := 9) (h := 1) (off := 0) (o := ⟨53, 2, true, [(.val (.int .i64 c.x) : A), .val (.int .i64 c.y)]⟩)  (x := .val (.int .i64 c.x)) (ltN rfl) qC0_ti_3 rfl) ?_
 refine w1 (bn 11 (OpV.tmp 8 (.int .i64 (c.y * 8))) (OpV.tmp 10 (.int .i64 c.x)) (r_add (c := ((c.y * 8) + c.x)) (w64 (by omega) (by omega)))) ?_
 refine w1 (asg 2 11 (V.v (.int .i64 ((c.y * 8) + c.x)))) ?_
 refine wpl_nil ?_
 refine wp_ret' ?_
 exact VRes.tmp 2 (.a (.val (.int .i64 ((c.y * 8) + c.x)))) _ (by kernel_rfl) (bval (congrArg (Value.int .i64) (by exact idx_eq hc)))

set_option maxHeartbeats 4000000 in
set_option maxRecDepth 100000 in
theorem spec_CellIndex_fn (c : Cel) (hc : okc c.x c.y = true) : Fn Try.prog 92 [.agg ([(.int .i64 c.x : Value), .int .i64 c.y].map A.val)] [.val (.int .i64 (((idx c) : Nat) : Int))] := by
 have hq := okc_true.1 hc
 refine fn_intro (N := 12) Try.func92 rfl (by kernel_rfl) rfl (Nat.le_of_ble_eq_true rfl) [1, 4] (ret1 rfl) (fun W => ?_)
 show Wp _ _ _ [(.s 0, some (.s (V.av [(.int .i64 c.x : Value), .int .i64 c.y]))), (.o 1, some .free), (.o 4, some .free)]
 refine wp_seq' ?_
 refine wp_region_t ?_
 refine w1 (acts_box (d := 1) (h := 1) (b := .agg ([(.int .i64 c.x : Value), .int .i64 c.y].map A.val)) (ltN rfl) (OpX.tmp 0 (V.av [(.int .i64 c.x : Value), .int .i64 c.y])) (by intro y hy; simp [B.cs] at hy; rcases hy with rfl | rfl <;> rfl)) ?_
 refine w1 (acts_assign (d := 2) (ltN rfl) (OpX.const (.int .i64 0))) ?_
 refine wpl_nil ?_
 refine wp_seq' ?_
 refine wp_seq' ?_
 refine wp_region_t ?_
 refine w1 (acts_load_owns (d := 3) (t := 1) (h := 1) (off := 0) (o := ⟨53, 2, true, [(.val (.int .i64 c.x) : A), .val (.int .i64 c.y)]⟩)  (xs := [(.int .i64 c.x : Value), .int .i64 c.y].map A.val) (ltN rfl) qC0_ti_53 rfl (by decide) rfl) ?_
 refine w1 (acts_call1 (d := 4) (ltN rfl) (spec_CellOk_fn c ) (ArgVs.cons (ArgV.va (vs := [(.int .i64 c.x : Value), .int .i64 c.y]) (OpV.agg 3 [(.int .i64 c.x : Value), .int .i64 c.y])) (ArgVs.nil)) ((resval (congrArg Value.bool hc)))) ?_
 refine w1 (acts_un (d := 5) (ltN rfl) (OpV.tmp 4 (.bool true)) (r_not (c := false) rfl)) ?_
 refine wpl_nil ?_
 refine wp_if_f (t := 5) (by kernel_rfl) ?_
 refine wp_skip' ?_
 refine wp_seq' ?_
 refine wp_region_t ?_
 refine w1 (acts_field (d := 6) (t := 1) (h := 1) (off := 0) (off' := 1) (ltN rfl) qC0_fo_53_1 rfl) ?_
 refine w1 (acts_load_own (d := 7) (t := 6) (h := 1) (off := 1) (o := ⟨53, 2, true, [(.val (.int .i64 c.x) : A), .val (.int .i64 c.y)]⟩)  (x := .val (.int .i64 c.y)) (ltN rfl) qC0_ti_3 rfl) ?_
 refine w1 (bn 8 (OpV.tmp 7 (.int .i64 c.y)) (OpV.const (.int .i64 8)) (r_mul (c := (c.y * 8)) (w64 (by omega) (by omega)))) ?_
 refine w1 (acts_field (d := 9) (t := 1) (h := 1) (off := 0) (off' := 0) (ltN rfl) qC0_fo_53_0 rfl) ?_
 refine w1 (acts_load_own (d := 10) (t := 9) (h := 1) (off := 0) (o := ⟨53, 2, true, [(.val (.int .i64 c.x) : A), .val (.int .i64 c.y)]⟩)  (x := .val (.int .i64 c.x)) (ltN rfl) qC0_ti_3 rfl) ?_
 refine w1 (bn 11 (OpV.tmp 8 (.int .i64 (c.y * 8))) (OpV.tmp 10 (.int .i64 c.x)) (r_add (c := ((c.y * 8) + c.x)) (w64 (by omega) (by omega)))) ?_
 refine w1 (asg 2 11 (V.v (.int .i64 ((c.y * 8) + c.x)))) ?_
 refine wpl_nil ?_
 refine wp_ret' ?_
 exact VRes.tmp 2 (.a (.val (.int .i64 ((c.y * 8) + c.x)))) _ (by kernel_rfl) (bval (congrArg (Value.int .i64) (by exact idx_eq hc)))

set_option maxHeartbeats 4000000 in
set_option maxRecDepth 100000 in
theorem impl_cellAt_fn (i : Nat) (hi : i < 64) : Fn Try.prog 83 [.a (.val (.int .i64 ((i : Nat) : Int)))] [.val (.agg ([.int .i64 (cN i).x, .int .i64 (cN i).y] : List Value).toArray)] := by
 refine fn_intro (N := 8) Try.func83 rfl (by kernel_rfl) rfl (Nat.le_of_ble_eq_true rfl) [2] (ret1 rfl) (fun W => ?_)
 show Wp _ _ _ [(.s 0, some (.s (V.v (.int .i64 ((i : Nat) : Int))))), (.o 2, some .free)]
 refine wp_seq' ?_
 refine wp_region_t ?_
 refine w1 (acts_alloc' (d := 2) (h := 2) (cap := 1) (s := 2) (cells := [(.val (.int .i64 0) : A), .val (.int .i64 0)]) (ltN rfl) qC0_zi_53 rfl rfl (by decide)) ?_
 refine wpl_nil ?_
 refine wp_seq' ?_
 refine wp_region_t ?_
 refine w1 (mv 3 0 (V.v (.int .i64 ((i : Nat) : Int)))) ?_
 refine w1 (bn 4 (OpV.tmp 3 (.int .i64 ((i : Nat) : Int))) (OpV.const (.int .i64 8)) (r_rem (c := (((i % 8) : Nat) : Int)) (by decide) (remN (a := ((i : Nat) : Int)) (b := i) (c := 8) rfl))) ?_
 refine w1 (mv 5 0 (V.v (.int .i64 ((i : Nat) : Int)))) ?_
 refine w1 (bn 6 (OpV.tmp 5 (.int .i64 ((i : Nat) : Int))) (OpV.const (.int .i64 8)) (r_quo (c := (((i / 8) : Nat) : Int)) (by decide) (quoN (a := ((i : Nat) : Int)) (b := i) (c := 8) rfl (by decide) (by omega)))) ?_
 refine w1 (acts_build (d := 7) (t := 53) (cells := [(.int .i64 (((i % 8) : Nat) : Int) : Value), .int .i64 (((i / 8) : Nat) : Int)]) (ltN rfl) (OpVs.cons (i := 0) (OpV.tmp 4 (.int .i64 (((i % 8) : Nat) : Int))) (OpVs.cons (i := 1) (OpV.tmp 6 (.int .i64 (((i / 8) : Nat) : Int))) (OpVs.nil))) rfl) ?_
 refine w1 (acts_store (t := 2) (h := 2) (off := 0) (o := ⟨53, 2, true, [(.val (.int .i64 0) : A), .val (.int .i64 0)]⟩) (b := .agg ([(.int .i64 (((i % 8) : Nat) : Int) : Value), .int .i64 (((i / 8) : Nat) : Int)].map A.val)) (cells := [(.val (.int .i64 (((i % 8) : Nat) : Int)) : A), .val (.int .i64 (((i / 8) : Nat) : Int))]) qC0_ti_53 (OpX.tmp 7 (V.av [(.int .i64 (((i % 8) : Nat) : Int) : Value), .int .i64 (((i / 8) : Nat) : Int)])) rfl (by decide) (by intro y hy; simp [B.cs] at hy; rcases hy with rfl | rfl <;> rfl) (Nat.le_of_ble_eq_true rfl) rfl) ?_
 refine wpl_nil ?_
 refine wp_ret' ?_
 exact VRes.cells 2 53 2 ⟨53, 2, true, [(.val (.int .i64 (((i % 8) : Nat) : Int)) : A), .val (.int .i64 (((i / 8) : Nat) : Int))]⟩ _ (by kernel_rfl) (by kernel_rfl) qC0_ti_53 (Nat.le_of_ble_eq_true rfl) (bagg (vs := [(.int .i64 (((i % 8) : Nat) : Int) : Value), .int .i64 (((i / 8) : Nat) : Int)]) (by rfl))

set_option maxHeartbeats 4000000 in
set_option maxRecDepth 100000 in
theorem spec_CellAt_fn (i : Nat) (hi : i < 64) : Fn Try.prog 87 [.a (.val (.int .i64 ((i : Nat) : Int)))] [.val (.agg ([.int .i64 (cN i).x, .int .i64 (cN i).y] : List Value).toArray), .val (.bool true)] := by
 have hin : inB ((i : Nat) : Int) 0 63 = true := inB_true.2 (by omega)
 refine fn_intro (N := 13) Try.func87 rfl (by kernel_rfl) rfl (Nat.le_of_ble_eq_true rfl) [2, 5] (ret2 rfl rfl (by intro u hu; injection hu with hu; subst hu; rfl)) (fun W => ?_)
 show Wp _ _ _ [(.s 0, some (.s (V.v (.int .i64 ((i : Nat) : Int))))), (.o 2, some .free), (.o 5, some .free)]
 refine wp_seq' ?_
 refine wp_region_t ?_
 refine w1 (acts_alloc' (d := 2) (h := 2) (cap := 1) (s := 2) (cells := [(.val (.int .i64 0) : A), .val (.int .i64 0)]) (ltN rfl) qC0_zi_53 rfl rfl (by decide)) ?_
 refine w1 (acts_assign (d := 3) (ltN rfl) (OpX.const (.bool false))) ?_
 refine wpl_nil ?_
 refine wp_seq' ?_
 refine wp_seq' ?_
 refine wp_region_t ?_
 refine w1 (mv 4 0 (V.v (.int .i64 ((i : Nat) : Int)))) ?_
 refine w1 (acts_call1 (d := 5) (ltN rfl) (spec_l01In_fn ((i : Nat) : Int) 0 63 ) (ArgVs.cons (ArgV.v (OpV.tmp 4 (.int .i64 ((i : Nat) : Int)))) (ArgVs.cons (ArgV.v (OpV.const (.int .i64 0))) (ArgVs.cons (ArgV.v (OpV.const (.int .i64 63))) (ArgVs.nil)))) ((resval (congrArg Value.bool hin)))) ?_
 refine w1 (acts_un (d := 6) (ltN rfl) (OpV.tmp 5 (.bool true)) (r_not (c := false) rfl)) ?_
 refine wpl_nil ?_
 refine wp_if_f (t := 6) (by kernel_rfl) ?_
 refine wp_skip' ?_
 refine wp_seq' ?_
 refine wp_region_t ?_
 refine w1 (mv 8 0 (V.v (.int .i64 ((i : Nat) : Int)))) ?_
 refine w1 (bn 9 (OpV.tmp 8 (.int .i64 ((i : Nat) : Int))) (OpV.const (.int .i64 8)) (r_rem (c := (((i % 8) : Nat) : Int)) (by decide) (remN (a := ((i : Nat) : Int)) (b := i) (c := 8) rfl))) ?_
 refine w1 (mv 10 0 (V.v (.int .i64 ((i : Nat) : Int)))) ?_
 refine w1 (bn 11 (OpV.tmp 10 (.int .i64 ((i : Nat) : Int))) (OpV.const (.int .i64 8)) (r_quo (c := (((i / 8) : Nat) : Int)) (by decide) (quoN (a := ((i : Nat) : Int)) (b := i) (c := 8) rfl (by decide) (by omega)))) ?_
 refine w1 (acts_build (d := 12) (t := 53) (cells := [(.int .i64 (((i % 8) : Nat) : Int) : Value), .int .i64 (((i / 8) : Nat) : Int)]) (ltN rfl) (OpVs.cons (i := 0) (OpV.tmp 9 (.int .i64 (((i % 8) : Nat) : Int))) (OpVs.cons (i := 1) (OpV.tmp 11 (.int .i64 (((i / 8) : Nat) : Int))) (OpVs.nil))) rfl) ?_
 refine w1 (acts_store (t := 2) (h := 2) (off := 0) (o := ⟨53, 2, true, [(.val (.int .i64 0) : A), .val (.int .i64 0)]⟩) (b := .agg ([(.int .i64 (((i % 8) : Nat) : Int) : Value), .int .i64 (((i / 8) : Nat) : Int)].map A.val)) (cells := [(.val (.int .i64 (((i % 8) : Nat) : Int)) : A), .val (.int .i64 (((i / 8) : Nat) : Int))]) qC0_ti_53 (OpX.tmp 12 (V.av [(.int .i64 (((i % 8) : Nat) : Int) : Value), .int .i64 (((i / 8) : Nat) : Int)])) rfl (by decide) (by intro y hy; simp [B.cs] at hy; rcases hy with rfl | rfl <;> rfl) (Nat.le_of_ble_eq_true rfl) rfl) ?_
 refine w1 (acts_assign (d := 3) (ltN rfl) (OpX.const (.bool true))) ?_
 refine wpl_nil ?_
 refine wp_ret' ?_
 exact ⟨VRes.cells 2 53 2 ⟨53, 2, true, [(.val (.int .i64 (((i % 8) : Nat) : Int)) : A), .val (.int .i64 (((i / 8) : Nat) : Int))]⟩ _ (by kernel_rfl) (by kernel_rfl) qC0_ti_53 (Nat.le_of_ble_eq_true rfl) (bagg (vs := [(.int .i64 (((i % 8) : Nat) : Int) : Value), .int .i64 (((i / 8) : Nat) : Int)]) (by rfl)), VRes.tmp 3 (.a (.val (.bool true))) _ (by kernel_rfl) (BRes.val _)⟩

set_option maxHeartbeats 4000000 in
set_option maxRecDepth 100000 in
theorem impl_AreNeighbors_fn (a b : Cel) : Fn Try.prog 86 [.agg ([(.int .i64 a.x : Value), .int .i64 a.y].map A.val), .agg ([(.int .i64 b.x : Value), .int .i64 b.y].map A.val)] [.val (.bool (nbr a b))] := by
 refine fn_intro (N := 27) Try.func86 rfl (by kernel_rfl) rfl (Nat.le_of_ble_eq_true rfl) [2, 3, 6, 9, 17, 23] (ret1 rfl) (fun W => ?_)
 show Wp _ _ _ [(.s 0, some (.s (V.av [(.int .i64 a.x : Value), .int .i64 a.y]))), (.s 1, some (.s (V.av [(.int .i64 b.x : Value), .int .i64 b.y]))), (.o 2, some .free), (.o 3, some .free), (.o 6, some .free), (.o 9, some .free), (.o 17, some .free), (.o 23, some .free)]
 refine wp_seq' ?_
 refine wp_region_t ?_
 refine w1 (acts_box (d := 2) (h := 2) (b := .agg ([(.int .i64 a.x : Value), .int .i64 a.y].map A.val)) (ltN rfl) (OpX.tmp 0 (V.av [(.int .i64 a.x : Value), .int .i64 a.y])) (by intro y hy; simp [B.cs] at hy; rcases hy with rfl | rfl <;> rfl)) ?_
 refine w1 (acts_box (d := 3) (h := 3) (b := .agg ([(.int .i64 b.x : Value), .int .i64 b.y].map A.val)) (ltN rfl) (OpX.tmp 1 (V.av [(.int .i64 b.x : Value), .int .i64 b.y])) (by intro y hy; simp [B.cs] at hy; rcases hy with rfl | rfl <;> rfl)) ?_
 refine w1 (acts_assign (d := 4) (ltN rfl) (OpX.const (.bool false))) ?_
 refine wpl_nil ?_
 refine wp_seq' ?_
 rcases Bool.eq_false_or_eq_true ((okc a.x a.y)) with c1 | c1
 ·skip
  have c1Q := okc_true.1 c1
  rcases Bool.eq_false_or_eq_true ((okc b.x b.y)) with c2 | c2
  ·skip
   have c2Q := okc_true.1 c2
   refine wp_drawn' (by kernel_rfl) (AllSteps.cons (step_plain rfl (acts_load_owns (d := 5) (t := 2) (h := 2) (off := 0) (o := ⟨53, 2, true, [(.val (.int .i64 a.x) : A), .val (.int .i64 a.y)]⟩)  (xs := [(.int .i64 a.x : Value), .int .i64 a.y].map A.val) (ltN rfl) qC0_ti_53 rfl (by decide) rfl)) (AllSteps.cons (step_plain rfl (acts_call1 (d := 6) (ltN rfl) (impl_CellOk_fn a ) (ArgVs.cons (ArgV.va (vs := [(.int .i64 a.x : Value), .int .i64 a.y]) (OpV.agg 5 [(.int .i64 a.x : Value), .int .i64 a.y])) (ArgVs.nil)) ((resval (congrArg Value.bool c1))))) (AllSteps.cons (step_plain rfl (mv 7 6 (V.v (.bool true)))) (AllSteps.cons (step_on (dj := 7) rfl rfl (acts_load_owns (d := 8) (t := 3) (h := 3) (off := 0) (o := ⟨53, 2, true, [(.val (.int .i64 b.x) : A), .val (.int .i64 b.y)]⟩)  (xs := [(.int .i64 b.x : Value), .int .i64 b.y].map A.val) (ltN rfl) qC0_ti_53 rfl (by decide) rfl)) (AllSteps.cons (step_on (dj := 7) rfl rfl (acts_call1 (d := 9) (ltN rfl) (impl_CellOk_fn b ) (ArgVs.cons (ArgV.va (vs := [(.int .i64 b.x : Value), .int .i64 b.y]) (OpV.agg 8 [(.int .i64 b.x : Value), .int .i64 b.y])) (ArgVs.nil)) ((resval (congrArg Value.bool c2))))) (AllSteps.cons (step_plain rfl (acts_pick_t (d := 10) (ltN rfl) (OpV.tmp 7 (.bool true)) (OpX.tmp 9 (V.v (.bool true))))) (AllSteps.cons (step_plain rfl (mv 11 10 (V.v (.bool true)))) (AllSteps.cons (step_on (dj := 11) rfl rfl (acts_field (d := 12) (t := 2) (h := 2) (off := 0) (off' := 0) (ltN rfl) qC0_fo_53_0 rfl)) (AllSteps.cons (step_on (dj := 11) rfl rfl (acts_load_own (d := 13) (t := 12) (h := 2) (off := 0) (o := ⟨53, 2, true, [(.val (.int .i64 a.x) : A), .val (.int .i64 a.y)]⟩)  (x := .val (.int .i64 a.x)) (ltN rfl) qC0_ti_3 rfl)) (AllSteps.cons (step_on (dj := 11) rfl rfl (acts_field (d := 14) (t := 3) (h := 3) (off := 0) (off' := 0) (ltN rfl) qC0_fo_53_0 rfl)) (AllSteps.cons (step_on (dj := 11) rfl rfl (acts_load_own (d := 15) (t := 14) (h := 3) (off := 0) (o := ⟨53, 2, true, [(.val (.int .i64 b.x) : A), .val (.int .i64 b.y)]⟩)  (x := .val (.int .i64 b.x)) (ltN rfl) qC0_ti_3 rfl)) (AllSteps.cons (step_on (dj := 11) rfl rfl (bn 16 (OpV.tmp 13 (.int .i64 a.x)) (OpV.tmp 15 (.int .i64 b.x)) (r_sub (c := (a.x - b.x)) (w64 (by (have q1 := iabs_or (a.x - b.x); have q2 := iabs_or (a.y - b.y); omega)) (by (have q1 := iabs_or (a.x - b.x); have q2 := iabs_or (a.y - b.y); omega)))))) (AllSteps.cons (step_on (dj := 11) rfl rfl (acts_call1 (d := 17) (ltN rfl) (impl_size_fn (a.x - b.x) (by (have q1 := iabs_or (a.x - b.x); have q2 := iabs_or (a.y - b.y); omega)) (by (have q1 := iabs_or (a.x - b.x); have q2 := iabs_or (a.y - b.y); omega))) (ArgVs.cons (ArgV.v (OpV.tmp 16 (.int .i64 (a.x - b.x)))) (ArgVs.nil)) (ResV.val _))) (AllSteps.cons (step_on (dj := 11) rfl rfl (acts_field (d := 18) (t := 2) (h := 2) (off := 0) (off' := 1) (ltN rfl) qC0_fo_53_1 rfl)) (AllSteps.cons (step_on (dj := 11) rfl rfl (acts_load_own (d := 19) (t := 18) (h := 2) (off := 1) (o := ⟨53, 2, true, [(.val (.int .i64 a.x) : A), .val (.int .i64 a.y)]⟩)  (x := .val (.int .i64 a.y)) (ltN rfl) qC0_ti_3 rfl)) (AllSteps.cons (step_on (dj := 11) rfl rfl (acts_field (d := 20) (t := 3) (h := 3) (off := 0) (off' := 1) (ltN rfl) qC0_fo_53_1 rfl)) (AllSteps.cons (step_on (dj := 11) rfl rfl (acts_load_own (d := 21) (t := 20) (h := 3) (off := 1) (o := ⟨53, 2, true, [(.val (.int .i64 b.x) : A), .val (.int .i64 b.y)]⟩)  (x := .val (.int .i64 b.y)) (ltN rfl) qC0_ti_3 rfl)) (AllSteps.cons (step_on (dj := 11) rfl rfl (bn 22 (OpV.tmp 19 (.int .i64 a.y)) (OpV.tmp 21 (.int .i64 b.y)) (r_sub (c := (a.y - b.y)) (w64 (by (have q1 := iabs_or (a.x - b.x); have q2 := iabs_or (a.y - b.y); omega)) (by (have q1 := iabs_or (a.x - b.x); have q2 := iabs_or (a.y - b.y); omega)))))) (AllSteps.cons (step_on (dj := 11) rfl rfl (acts_call1 (d := 23) (ltN rfl) (impl_size_fn (a.y - b.y) (by (have q1 := iabs_or (a.x - b.x); have q2 := iabs_or (a.y - b.y); omega)) (by (have q1 := iabs_or (a.x - b.x); have q2 := iabs_or (a.y - b.y); omega))) (ArgVs.cons (ArgV.v (OpV.tmp 22 (.int .i64 (a.y - b.y)))) (ArgVs.nil)) (ResV.val _))) (AllSteps.cons (step_on (dj := 11) rfl rfl (bn 24 (OpV.tmp 17 (.int .i64 (iabs (a.x - b.x)))) (OpV.tmp 23 (.int .i64 (iabs (a.y - b.y)))) (r_add (c := ((iabs (a.x - b.x)) + (iabs (a.y - b.y)))) (w64 (by (have q1 := iabs_or (a.x - b.x); have q2 := iabs_or (a.y - b.y); omega)) (by (have q1 := iabs_or (a.x - b.x); have q2 := iabs_or (a.y - b.y); omega)))))) (AllSteps.cons (step_on (dj := 11) rfl rfl (bn 25 (OpV.tmp 24 (.int .i64 ((iabs (a.x - b.x)) + (iabs (a.y - b.y))))) (OpV.const (.int .i64 1)) (r_eql (c := (decide (((iabs (a.x - b.x)) + (iabs (a.y - b.y))) = 1))) rfl))) (AllSteps.cons (step_plain rfl (acts_pick_t (d := 26) (ltN rfl) (OpV.tmp 11 (.bool true)) (OpX.tmp 25 (V.v (.bool (decide (((iabs (a.x - b.x)) + (iabs (a.y - b.y))) = 1))))))) (AllSteps.cons (step_plain rfl (asg 4 26 (V.v (.bool (decide (((iabs (a.x - b.x)) + (iabs (a.y - b.y))) = 1)))))) (AllSteps.nil)))))))))))))))))))))))) (by kernel_rfl) (by kernel_rfl) (by kernel_rfl) ?_
   refine wp_ret' ?_
   exact VRes.tmp 4 (.a (.val (.bool (decide (((iabs (a.x - b.x)) + (iabs (a.y - b.y))) = 1))))) _ (by kernel_rfl) (bval (congrArg Value.bool (by (simp_all [nbr]; done))))
  ·skip
   have c2Q := okc_false.1 c2
   refine wp_drawn' (by kernel_rfl) (AllSteps.cons (step_plain rfl (acts_load_owns (d := 5) (t := 2) (h := 2) (off := 0) (o := ⟨53, 2, true, [(.val (.int .i64 a.x) : A), .val (.int .i64 a.y)]⟩)  (xs := [(.int .i64 a.x : Value), .int .i64 a.y].map A.val) (ltN rfl) qC0_ti_53 rfl (by decide) rfl)) (AllSteps.cons (step_plain rfl (acts_call1 (d := 6) (ltN rfl) (impl_CellOk_fn a ) (ArgVs.cons (ArgV.va (vs := [(.int .i64 a.x : Value), .int .i64 a.y]) (OpV.agg 5 [(.int .i64 a.x : Value), .int .i64 a.y])) (ArgVs.nil)) ((resval (congrArg Value.bool c1))))) (AllSteps.cons (step_plain rfl (mv 7 6 (V.v (.bool true)))) (AllSteps.cons (step_on (dj := 7) rfl rfl (acts_load_owns (d := 8) (t := 3) (h := 3) (off := 0) (o := ⟨53, 2, true, [(.val (.int .i64 b.x) : A), .val (.int .i64 b.y)]⟩)  (xs := [(.int .i64 b.x : Value), .int .i64 b.y].map A.val) (ltN rfl) qC0_ti_53 rfl (by decide) rfl)) (AllSteps.cons (step_on (dj := 7) rfl rfl (acts_call1 (d := 9) (ltN rfl) (impl_CellOk_fn b ) (ArgVs.cons (ArgV.va (vs := [(.int .i64 b.x : Value), .int .i64 b.y]) (OpV.agg 8 [(.int .i64 b.x : Value), .int .i64 b.y])) (ArgVs.nil)) ((resval (congrArg Value.bool c2))))) (AllSteps.cons (step_plain rfl (acts_pick_t (d := 10) (ltN rfl) (OpV.tmp 7 (.bool true)) (OpX.tmp 9 (V.v (.bool false))))) (AllSteps.cons (step_plain rfl (mv 11 10 (V.v (.bool false)))) (AllSteps.cons (step_off (dj := 11) (b' := false) rfl rfl (by decide) rfl (ltN rfl)) (AllSteps.cons (step_off (dj := 11) (b' := false) rfl rfl (by decide) rfl (ltN rfl)) (AllSteps.cons (step_off (dj := 11) (b' := false) rfl rfl (by decide) rfl (ltN rfl)) (AllSteps.cons (step_off (dj := 11) (b' := false) rfl rfl (by decide) rfl (ltN rfl)) (AllSteps.cons (step_off (dj := 11) (b' := false) rfl rfl (by decide) rfl (ltN rfl)) (AllSteps.cons (step_off (dj := 11) (b' := false) rfl rfl (by decide) rfl (ltN rfl)) (AllSteps.cons (step_off (dj := 11) (b' := false) rfl rfl (by decide) rfl (ltN rfl)) (AllSteps.cons (step_off (dj := 11) (b' := false) rfl rfl (by decide) rfl (ltN rfl)) (AllSteps.cons (step_off (dj := 11) (b' := false) rfl rfl (by decide) rfl (ltN rfl)) (AllSteps.cons (step_off (dj := 11) (b' := false) rfl rfl (by decide) rfl (ltN rfl)) (AllSteps.cons (step_off (dj := 11) (b' := false) rfl rfl (by decide) rfl (ltN rfl)) (AllSteps.cons (step_off (dj := 11) (b' := false) rfl rfl (by decide) rfl (ltN rfl)) (AllSteps.cons (step_off (dj := 11) (b' := false) rfl rfl (by decide) rfl (ltN rfl)) (AllSteps.cons (step_off (dj := 11) (b' := false) rfl rfl (by decide) rfl (ltN rfl)) (AllSteps.cons (step_plain rfl (acts_pick_f (d := 26) (ltN rfl) (OpV.tmp 11 (.bool false)) (OpX.const (.bool false)))) (AllSteps.cons (step_plain rfl (asg 4 26 (V.v (.bool false)))) (AllSteps.nil)))))))))))))))))))))))) (by kernel_rfl) (by kernel_rfl) (by kernel_rfl) ?_
   refine wp_ret' ?_
   exact VRes.tmp 4 (.a (.val (.bool false))) _ (by kernel_rfl) (bval (congrArg Value.bool (by (simp_all [nbr]; done))))
 ·skip
  have c1Q := okc_false.1 c1
  refine wp_drawn' (by kernel_rfl) (AllSteps.cons (step_plain rfl (acts_load_owns (d := 5) (t := 2) (h := 2) (off := 0) (o := ⟨53, 2, true, [(.val (.int .i64 a.x) : A), .val (.int .i64 a.y)]⟩)  (xs := [(.int .i64 a.x : Value), .int .i64 a.y].map A.val) (ltN rfl) qC0_ti_53 rfl (by decide) rfl)) (AllSteps.cons (step_plain rfl (acts_call1 (d := 6) (ltN rfl) (impl_CellOk_fn a ) (ArgVs.cons (ArgV.va (vs := [(.int .i64 a.x : Value), .int .i64 a.y]) (OpV.agg 5 [(.int .i64 a.x : Value), .int .i64 a.y])) (ArgVs.nil)) ((resval (congrArg Value.bool c1))))) (AllSteps.cons (step_plain rfl (mv 7 6 (V.v (.bool false)))) (AllSteps.cons (step_off (dj := 7) (b' := false) rfl rfl (by decide) rfl (ltN rfl)) (AllSteps.cons (step_off (dj := 7) (b' := false) rfl rfl (by decide) rfl (ltN rfl)) (AllSteps.cons (step_plain rfl (acts_pick_f (d := 10) (ltN rfl) (OpV.tmp 7 (.bool false)) (OpX.const (.bool false)))) (AllSteps.cons (step_plain rfl (mv 11 10 (V.v (.bool false)))) (AllSteps.cons (step_off (dj := 11) (b' := false) rfl rfl (by decide) rfl (ltN rfl)) (AllSteps.cons (step_off (dj := 11) (b' := false) rfl rfl (by decide) rfl (ltN rfl)) (AllSteps.cons (step_off (dj := 11) (b' := false) rfl rfl (by decide) rfl (ltN rfl)) (AllSteps.cons (step_off (dj := 11) (b' := false) rfl rfl (by decide) rfl (ltN rfl)) (AllSteps.cons (step_off (dj := 11) (b' := false) rfl rfl (by decide) rfl (ltN rfl)) (AllSteps.cons (step_off (dj := 11) (b' := false) rfl rfl (by decide) rfl (ltN rfl)) (AllSteps.cons (step_off (dj := 11) (b' := false) rfl rfl (by decide) rfl (ltN rfl)) (AllSteps.cons (step_off (dj := 11) (b' := false) rfl rfl (by decide) rfl (ltN rfl)) (AllSteps.cons (step_off (dj := 11) (b' := false) rfl rfl (by decide) rfl (ltN rfl)) (AllSteps.cons (step_off (dj := 11) (b' := false) rfl rfl (by decide) rfl (ltN rfl)) (AllSteps.cons (step_off (dj := 11) (b' := false) rfl rfl (by decide) rfl (ltN rfl)) (AllSteps.cons (step_off (dj := 11) (b' := false) rfl rfl (by decide) rfl (ltN rfl)) (AllSteps.cons (step_off (dj := 11) (b' := false) rfl rfl (by decide) rfl (ltN rfl)) (AllSteps.cons (step_off (dj := 11) (b' := false) rfl rfl (by decide) rfl (ltN rfl)) (AllSteps.cons (step_plain rfl (acts_pick_f (d := 26) (ltN rfl) (OpV.tmp 11 (.bool false)) (OpX.const (.bool false)))) (AllSteps.cons (step_plain rfl (asg 4 26 (V.v (.bool false)))) (AllSteps.nil)))))))))))))))))))))))) (by kernel_rfl) (by kernel_rfl) (by kernel_rfl) ?_
  refine wp_ret' ?_
  exact VRes.tmp 4 (.a (.val (.bool false))) _ (by kernel_rfl) (bval (congrArg Value.bool (by (simp_all [nbr]; done))))

set_option maxHeartbeats 4000000 in
set_option maxRecDepth 100000 in
theorem spec_AreNeighbors_fn (a b : Cel) : Fn Try.prog 77 [.agg ([(.int .i64 a.x : Value), .int .i64 a.y].map A.val), .agg ([(.int .i64 b.x : Value), .int .i64 b.y].map A.val)] [.val (.bool (nbr a b))] := by
 refine fn_intro (N := 33) Try.func77 rfl (by kernel_rfl) rfl (Nat.le_of_ble_eq_true rfl) [2, 3, 8, 12] (ret1 rfl) (fun W => ?_)
 show Wp _ _ _ [(.s 0, some (.s (V.av [(.int .i64 a.x : Value), .int .i64 a.y]))), (.s 1, some (.s (V.av [(.int .i64 b.x : Value), .int .i64 b.y]))), (.o 2, some .free), (.o 3, some .free), (.o 8, some .free), (.o 12, some .free)]
 refine wp_seq' ?_
 refine wp_region_t ?_
 refine w1 (acts_box (d := 2) (h := 2) (b := .agg ([(.int .i64 a.x : Value), .int .i64 a.y].map A.val)) (ltN rfl) (OpX.tmp 0 (V.av [(.int .i64 a.x : Value), .int .i64 a.y])) (by intro y hy; simp [B.cs] at hy; rcases hy with rfl | rfl <;> rfl)) ?_
 refine w1 (acts_box (d := 3) (h := 3) (b := .agg ([(.int .i64 b.x : Value), .int .i64 b.y].map A.val)) (ltN rfl) (OpX.tmp 1 (V.av [(.int .i64 b.x : Value), .int .i64 b.y])) (by intro y hy; simp [B.cs] at hy; rcases hy with rfl | rfl <;> rfl)) ?_
 refine w1 (acts_assign (d := 4) (ltN rfl) (OpX.const (.bool false))) ?_
 refine wpl_nil ?_
 refine wp_seq' ?_
 refine wp_seq' ?_
 rcases Bool.eq_false_or_eq_true ((okc a.x a.y)) with c1 | c1
 ·skip
  have c1Q := okc_true.1 c1
  refine wp_region_t ?_
  refine w1 (acts_load_owns (d := 7) (t := 2) (h := 2) (off := 0) (o := ⟨53, 2, true, [(.val (.int .i64 a.x) : A), .val (.int .i64 a.y)]⟩)  (xs := [(.int .i64 a.x : Value), .int .i64 a.y].map A.val) (ltN rfl) qC0_ti_53 rfl (by decide) rfl) ?_
  refine w1 (acts_call1 (d := 8) (ltN rfl) (spec_CellOk_fn a ) (ArgVs.cons (ArgV.va (vs := [(.int .i64 a.x : Value), .int .i64 a.y]) (OpV.agg 7 [(.int .i64 a.x : Value), .int .i64 a.y])) (ArgVs.nil)) ((resval (congrArg Value.bool c1)))) ?_
  refine w1 (acts_un (d := 9) (ltN rfl) (OpV.tmp 8 (.bool true)) (r_not (c := false) rfl)) ?_
  refine w1 (mv 10 9 (V.v (.bool false))) ?_
  refine w2 (step_on (dj := 10) rfl rfl (acts_load_owns (d := 11) (t := 3) (h := 3) (off := 0) (o := ⟨53, 2, true, [(.val (.int .i64 b.x) : A), .val (.int .i64 b.y)]⟩)  (xs := [(.int .i64 b.x : Value), .int .i64 b.y].map A.val) (ltN rfl) qC0_ti_53 rfl (by decide) rfl)) ?_
  refine w2 (step_on (dj := 10) rfl rfl (acts_call1 (d := 12) (ltN rfl) (spec_CellOk_fn b ) (ArgVs.cons (ArgV.va (vs := [(.int .i64 b.x : Value), .int .i64 b.y]) (OpV.agg 11 [(.int .i64 b.x : Value), .int .i64 b.y])) (ArgVs.nil)) (ResV.val _))) ?_
  refine w2 (step_on (dj := 10) rfl rfl (acts_un (d := 13) (ltN rfl) (OpV.tmp 12 (.bool (okc b.x b.y))) (r_not (c := (!(okc b.x b.y))) rfl))) ?_
  refine w1 (acts_pick_f (d := 14) (ltN rfl) (OpV.tmp 10 (.bool false)) (OpX.tmp 13 (V.v (.bool (!(okc b.x b.y)))))) ?_
  refine wpl_nil ?_
  refine wp_if (t := 14) ((!(okc b.x b.y))) (by kernel_rfl) (fun c2 => ?_) (fun c2 => ?_)
  ·skip
   have c3 : (okc b.x b.y) = false := by simpa using c2
   have c3Q := okc_false.1 c3
   refine wp_seq' ?_
   refine wp_region_t ?_
   refine w1 (acts_assign (d := 4) (ltN rfl) (OpX.const (.bool false))) ?_
   refine wpl_nil ?_
   refine wp_ret' ?_
   exact VRes.tmp 4 (.a (.val (.bool false))) _ (by kernel_rfl) (bval (congrArg Value.bool (by (simp_all [nbr]; done))))
  ·skip
   have c4 : (okc b.x b.y) = true := by simpa using c2
   have c4Q := okc_true.1 c4
   refine wp_skip' ?_
   refine wp_seq' ?_
   refine wp_region_t ?_
   refine w1 (acts_field (d := 15) (t := 2) (h := 2) (off := 0) (off' := 0) (ltN rfl) qC0_fo_53_0 rfl) ?_
   refine w1 (acts_load_own (d := 16) (t := 15) (h := 2) (off := 0) (o := ⟨53, 2, true, [(.val (.int .i64 a.x) : A), .val (.int .i64 a.y)]⟩)  (x := .val (.int .i64 a.x)) (ltN rfl) qC0_ti_3 rfl) ?_
   refine w1 (acts_field (d := 17) (t := 3) (h := 3) (off := 0) (off' := 0) (ltN rfl) qC0_fo_53_0 rfl) ?_
   refine w1 (acts_load_own (d := 18) (t := 17) (h := 3) (off := 0) (o := ⟨53, 2, true, [(.val (.int .i64 b.x) : A), .val (.int .i64 b.y)]⟩)  (x := .val (.int .i64 b.x)) (ltN rfl) qC0_ti_3 rfl) ?_
   refine w1 (bn 19 (OpV.tmp 16 (.int .i64 a.x)) (OpV.tmp 18 (.int .i64 b.x)) (r_sub (c := (a.x - b.x)) (w64 (by omega) (by omega)))) ?_
   refine w1 (asg 5 19 (V.v (.int .i64 (a.x - b.x)))) ?_
   refine wpl_nil ?_
   refine wp_seq' ?_
   refine wp_region_t ?_
   refine w1 (acts_field (d := 20) (t := 2) (h := 2) (off := 0) (off' := 1) (ltN rfl) qC0_fo_53_1 rfl) ?_
   refine w1 (acts_load_own (d := 21) (t := 20) (h := 2) (off := 1) (o := ⟨53, 2, true, [(.val (.int .i64 a.x) : A), .val (.int .i64 a.y)]⟩)  (x := .val (.int .i64 a.y)) (ltN rfl) qC0_ti_3 rfl) ?_
   refine w1 (acts_field (d := 22) (t := 3) (h := 3) (off := 0) (off' := 1) (ltN rfl) qC0_fo_53_1 rfl) ?_
   refine w1 (acts_load_own (d := 23) (t := 22) (h := 3) (off := 1) (o := ⟨53, 2, true, [(.val (.int .i64 b.x) : A), .val (.int .i64 b.y)]⟩)  (x := .val (.int .i64 b.y)) (ltN rfl) qC0_ti_3 rfl) ?_
   refine w1 (bn 24 (OpV.tmp 21 (.int .i64 a.y)) (OpV.tmp 23 (.int .i64 b.y)) (r_sub (c := (a.y - b.y)) (w64 (by omega) (by omega)))) ?_
   refine w1 (asg 6 24 (V.v (.int .i64 (a.y - b.y)))) ?_
   refine wpl_nil ?_
   refine wp_seq' ?_
   refine wp_region_t ?_
   refine w1 (mv 25 5 (V.v (.int .i64 (a.x - b.x)))) ?_
   refine w1 (mv 26 5 (V.v (.int .i64 (a.x - b.x)))) ?_
   refine w1 (bn 27 (OpV.tmp 25 (.int .i64 (a.x - b.x))) (OpV.tmp 26 (.int .i64 (a.x - b.x))) (r_mul (c := ((a.x - b.x) * (a.x - b.x))) (w64 (by (have q1 := @sq_bd (a.x - b.x) (by omega) (by omega); have q2 := @sq_bd (a.y - b.y) (by omega) (by omega); omega)) (by (have q1 := @sq_bd (a.x - b.x) (by omega) (by omega); have q2 := @sq_bd (a.y - b.y) (by omega) (by omega); omega))))) ?_
   refine w1 (mv 28 6 (V.v (.int .i64 (a.y - b.y)))) ?_
   refine w1 (mv 29 6 (V.v (.int .i64 (a.y - b.y)))) ?_
   refine w1 (bn 30 (OpV.tmp 28 (.int .i64 (a.y - b.y))) (OpV.tmp 29 (.int .i64 (a.y - b.y))) (r_mul (c := ((a.y - b.y) * (a.y - b.y))) (w64 (by (have q1 := @sq_bd (a.x - b.x) (by omega) (by omega); have q2 := @sq_bd (a.y - b.y) (by omega) (by omega); omega)) (by (have q1 := @sq_bd (a.x - b.x) (by omega) (by omega); have q2 := @sq_bd (a.y - b.y) (by omega) (by omega); omega))))) ?_
   refine w1 (bn 31 (OpV.tmp 27 (.int .i64 ((a.x - b.x) * (a.x - b.x)))) (OpV.tmp 30 (.int .i64 ((a.y - b.y) * (a.y - b.y)))) (r_add (c := (((a.x - b.x) * (a.x - b.x)) + ((a.y - b.y) * (a.y - b.y)))) (w64 (by (have q1 := @sq_bd (a.x - b.x) (by omega) (by omega); have q2 := @sq_bd (a.y - b.y) (by omega) (by omega); omega)) (by (have q1 := @sq_bd (a.x - b.x) (by omega) (by omega); have q2 := @sq_bd (a.y - b.y) (by omega) (by omega); omega))))) ?_
   refine w1 (bn 32 (OpV.tmp 31 (.int .i64 (((a.x - b.x) * (a.x - b.x)) + ((a.y - b.y) * (a.y - b.y))))) (OpV.const (.int .i64 1)) (r_eql (c := (decide ((((a.x - b.x) * (a.x - b.x)) + ((a.y - b.y) * (a.y - b.y))) = 1))) rfl)) ?_
   refine w1 (asg 4 32 (V.v (.bool (decide ((((a.x - b.x) * (a.x - b.x)) + ((a.y - b.y) * (a.y - b.y))) = 1))))) ?_
   refine wpl_nil ?_
   refine wp_ret' ?_
   exact VRes.tmp 4 (.a (.val (.bool (decide ((((a.x - b.x) * (a.x - b.x)) + ((a.y - b.y) * (a.y - b.y))) = 1))))) _ (by kernel_rfl) (bval (congrArg Value.bool (by (unfold nbr; simp_all [iabs_sq]; done))))
 ·skip
  have c1Q := okc_false.1 c1
  refine wp_region_t ?_
  refine w1 (acts_load_owns (d := 7) (t := 2) (h := 2) (off := 0) (o := ⟨53, 2, true, [(.val (.int .i64 a.x) : A), .val (.int .i64 a.y)]⟩)  (xs := [(.int .i64 a.x : Value), .int .i64 a.y].map A.val) (ltN rfl) qC0_ti_53 rfl (by decide) rfl) ?_
  refine w1 (acts_call1 (d := 8) (ltN rfl) (spec_CellOk_fn a ) (ArgVs.cons (ArgV.va (vs := [(.int .i64 a.x : Value), .int .i64 a.y]) (OpV.agg 7 [(.int .i64 a.x : Value), .int .i64 a.y])) (ArgVs.nil)) ((resval (congrArg Value.bool c1)))) ?_
  refine w1 (acts_un (d := 9) (ltN rfl) (OpV.tmp 8 (.bool false)) (r_not (c := true) rfl)) ?_
  refine w1 (mv 10 9 (V.v (.bool true))) ?_
  refine w2 (step_off (dj := 10) (b' := true) rfl rfl (by decide) rfl (ltN rfl)) ?_
  refine w2 (step_off (dj := 10) (b' := true) rfl rfl (by decide) rfl (ltN rfl)) ?_
  refine w2 (step_off (dj := 10) (b' := true) rfl rfl (by decide) rfl (ltN rfl)) ?_
  refine w1 (acts_pick_t (d := 14) (ltN rfl) (OpV.tmp 10 (.bool true)) (OpX.const (.bool true))) ?_
  refine wpl_nil ?_
  refine wp_if_t (t := 14) (by kernel_rfl) ?_
  refine wp_seq' ?_
  refine wp_region_t ?_
  refine w1 (acts_assign (d := 4) (ltN rfl) (OpX.const (.bool false))) ?_
  refine wpl_nil ?_
  refine wp_ret' ?_
  exact VRes.tmp 4 (.a (.val (.bool false))) _ (by kernel_rfl) (bval (congrArg Value.bool (by (simp_all [nbr]; done))))
end Cl
end Go.Proofs.Ytmbodpmhokbapaa
