/- Walks over clean states, printed by wg.py. No statement is proved here. -/
import Derived.Test.YtgmkkfdnmdohlaaGreatDoorClB
import Derived.Test.YtgmkkfdnmdohlaaGreatDoorClA
set_option linter.unusedSimpArgs false
set_option linter.unusedVariables false
namespace Go.Proofs.YtgmkkfdnmdohlaaGreatDoor
namespace Cl
open Go.ChangeShapes Go.WideShapes Go.ChangeAt Go.RowKit
set_option maxRecDepth 20000

def cN (i : Nat) : Cel := ⟨((i % 8 : Nat) : Int), ((i / 8 : Nat) : Int)⟩
def idx (c : Cel) : Nat := (c.y * 8 + c.x).toNat
theorem idx_lt {c : Cel} (h : okc c.x c.y = true) : idx c < 64 := by have := okc_true.1 h; unfold idx; omega
theorem idx_eq {c : Cel} (h : okc c.x c.y = true) : c.y * 8 + c.x = ((idx c : Nat) : Int) := by have := okc_true.1 h; unfold idx; omega
theorem cN_ok {i : Nat} (h : i < 64) : okc (cN i).x (cN i).y = true := okc_true.2 (by unfold cN; dsimp only; omega)
theorem cN_idx {c : Cel} (h : okc c.x c.y = true) : cN (idx c) = c := by
  have := okc_true.1 h
  unfold cN idx; cases c; simp only [Cel.mk.injEq] at *; omega
theorem idx_cN {i : Nat} (h : i < 64) : idx (cN i) = i := by unfold idx cN; dsimp only; omega
theorem range_yes {p : Nat → Bool} {k : Nat} (h : p k = true) : ((List.range (k+1)).filter p).map cN = ((List.range k).filter p).map cN ++ [cN k] := by
  rw [List.range_succ, List.filter_append, List.map_append]; simp [h]
theorem range_no {p : Nat → Bool} {k : Nat} (h : p k = false) : ((List.range (k+1)).filter p).map cN = ((List.range k).filter p).map cN := by
  rw [List.range_succ, List.filter_append, List.map_append]; simp [h]
theorem range_len (p : Nat → Bool) (k : Nat) : (((List.range k).filter p).map cN).length ≤ k := by
  rw [List.length_map]; exact Nat.le_trans (List.length_filter_le _ _) (by simp)
def nbr (a b : Cel) : Bool := okc a.x a.y && okc b.x b.y && decide (iabs (a.x - b.x) + iabs (a.y - b.y) = 1)
def four (c : Cel) : List Cel := [⟨c.x, c.y - 1⟩, ⟨c.x - 1, c.y⟩, ⟨c.x + 1, c.y⟩, ⟨c.x, c.y + 1⟩]
def nbs (c : Cel) : List Cel := if okc c.x c.y then (four c).filter (fun z => okc z.x z.y) else []
theorem nbs_scan_dec : ∀ i, i < 64 → ((List.range 64).filter (fun k => nbr (cN i) (cN k))).map cN = nbs (cN i) := by decide +kernel
theorem nbs_scan (c : Cel) : ((List.range 64).filter (fun k => nbr c (cN k))).map cN = nbs c := by
  by_cases h : okc c.x c.y = true
  · have := nbs_scan_dec (idx c) (idx_lt h)
    rwa [cN_idx h] at this
  · simp only [Bool.not_eq_true] at h
    have e : (fun k => nbr c (cN k)) = fun _ => false := by funext k; unfold nbr; rw [h]; rfl
    rw [e]; unfold nbs; rw [h]; simp
theorem cfilt_yes {p : Cel → Bool} {l : List Cel} {k : Nat} (h : k < l.length) (hp : p (gC l k) = true) : (l.take (k+1)).filter p = (l.take k).filter p ++ [gC l k] := by
  rw [List.take_succ_eq_append_getElem h, List.filter_append, ← gC_eq h]; simp [hp]
theorem cfilt_no {p : Cel → Bool} {l : List Cel} {k : Nat} (h : k < l.length) (hp : p (gC l k) = false) : (l.take (k+1)).filter p = (l.take k).filter p := by
  rw [List.take_succ_eq_append_getElem h, List.filter_append, ← gC_eq h]; simp [hp]
theorem cfilt_len (p : Cel → Bool) (l : List Cel) (k : Nat) : ((l.take k).filter p).length ≤ k := by
  have := List.length_filter_le p (l.take k); simp at this ⊢; omega
def setCells (s : Nat) : List Cel := ((List.range 64).filter s.testBit).map cN
theorem setCells_len (s : Nat) : (setCells s).length ≤ 64 := range_len _ 64
def addC (s : Nat) (c : Cel) : Nat := s ||| 2 ^ (idx c)
def delC (s : Nat) (c : Cel) : Nat := andn s (2 ^ (idx c))
theorem addC_lt {s : Nat} (hs : s < 18446744073709551616) {c : Cel} (h : okc c.x c.y = true) : addC s c < 18446744073709551616 := nat_or_lt 64 hs (two_pow_u (idx_lt h))
theorem delC_lt {s : Nat} (hs : s < 18446744073709551616) (c : Cel) : delC s c < 18446744073709551616 := andn_lt hs
theorem addC_bit (s : Nat) (c : Cel) (i : Nat) : (addC s c).testBit i = (s.testBit i || decide (idx c = i)) := by
  unfold addC; rw [Nat.testBit_or, Nat.testBit_two_pow]
theorem delC_bit (s : Nat) (c : Cel) (i : Nat) : (delC s c).testBit i = (s.testBit i && !decide (idx c = i)) := by
  unfold delC; rw [andn_bit, Nat.testBit_two_pow]
def hasS (s : Nat) (c : Cel) : Bool := okc c.x c.y && s.testBit (idx c)
def setL (l : List Cel) : Nat := l.foldl addC 0
theorem foldl_addC_lt {l : List Cel} (h : ∀ c ∈ l, okc c.x c.y = true) : ∀ s, s < 18446744073709551616 → l.foldl addC s < 18446744073709551616 := by
  induction l with
  | nil => intro s hs; exact hs
  | cons c l ih => intro s hs; exact ih (fun c hc => h c (by simp [hc])) _ (addC_lt hs (h c (by simp)))
theorem setL_lt {l : List Cel} (h : ∀ c ∈ l, okc c.x c.y = true) : setL l < 18446744073709551616 := foldl_addC_lt h 0 (by decide)
theorem foldl_addC_bit (l : List Cel) : ∀ s i, (l.foldl addC s).testBit i = (s.testBit i || decide (∃ c ∈ l, idx c = i)) := by
  induction l with
  | nil => intro s i; simp
  | cons c l ih =>
    intro s i
    rw [List.foldl_cons, ih, addC_bit, Bool.or_assoc]
    congr 1
    rw [Bool.eq_iff_iff]; simp
theorem setL_bit (l : List Cel) (i : Nat) : (setL l).testBit i = decide (∃ c ∈ l, idx c = i) := by
  unfold setL; rw [foldl_addC_bit]; simp
/-- regions -/
def regOk (l : List Int) : Bool := decide (l.length ≤ 8) && allIn l 0 255
theorem regOk_true {l : List Int} (h : regOk l = true) : l.length ≤ 8 ∧ ∀ k, k < l.length → 0 ≤ gI l k ∧ gI l k ≤ 255 := by
  unfold regOk allIn at h
  simp only [Bool.and_eq_true, decide_eq_true_eq, List.all_eq_true] at h
  exact ⟨h.1, fun k hk => by rw [gI_eq hk]; exact inB_true.1 (h.2 _ (List.getElem_mem hk))⟩
def rs (l : List Int) : Nat → Nat
  | 0 => 0
  | k + 1 => rs l k ||| ((gI l k).toNat <<< (8 * k))
def regSet (l : List Int) : Nat := rs l l.length
theorem shl_row {a k : Nat} (ha : a ≤ 255) (hk : k < 8) : a <<< (8 * k) < 2 ^ (8 * (k + 1)) := by
  rw [Nat.shiftLeft_eq]
  have e : 8 * (k + 1) = 8 * k + 8 := by omega
  rw [e, Nat.pow_add, Nat.mul_comm]
  exact Nat.mul_lt_mul_of_pos_left (by omega) (Nat.two_pow_pos _)
theorem rs_lt' {l : List Int} (h : regOk l = true) {k : Nat} (hk : k ≤ l.length) : rs l k < 2 ^ (8 * k) := by
  obtain ⟨h8, hr⟩ := regOk_true h
  induction k with
  | zero => simp [rs]
  | succ k ih =>
    have := hr k (by omega)
    unfold rs
    refine Nat.or_lt_two_pow ?_ (shl_row (by omega) (by omega))
    exact Nat.lt_of_lt_of_le (ih (by omega)) (Nat.pow_le_pow_right (by decide) (by omega))
theorem rs_lt {l : List Int} (h : regOk l = true) {k : Nat} (hk : k ≤ l.length) : rs l k < 18446744073709551616 := by
  obtain ⟨h8, _⟩ := regOk_true h
  exact Nat.lt_of_lt_of_le (rs_lt' h hk) (Nat.pow_le_pow_right (n := 2) (by decide) (by omega : 8 * k ≤ 64))
theorem shl_u {a k : Nat} (ha : a ≤ 255) (hk : k < 8) : a <<< (8 * k) < 18446744073709551616 :=
  Nat.lt_of_lt_of_le (shl_row ha hk) (Nat.pow_le_pow_right (n := 2) (by decide) (by omega : 8 * (k + 1) ≤ 64))
theorem regSet_lt {l : List Int} (h : regOk l = true) : regSet l < 18446744073709551616 := rs_lt h (Nat.le_refl _)
theorem row_bit {a : Nat} (ha : a ≤ 255) {x : Nat} (hx : 8 ≤ x) : a.testBit x = false :=
  Nat.testBit_lt_two_pow (Nat.lt_of_lt_of_le (show a < 2 ^ 8 by omega) (Nat.pow_le_pow_right (by decide) hx))
theorem rs_bit {l : List Int} (h : regOk l = true) {k : Nat} (hk : k ≤ l.length) (x y : Nat) (hx : x < 8) : (rs l k).testBit (8 * y + x) = (decide (y < k) && (gI l y).toNat.testBit x) := by
  obtain ⟨h8, hr⟩ := regOk_true h
  induction k with
  | zero => simp [rs]
  | succ k ih =>
    have hb := hr k (by omega)
    unfold rs
    rw [Nat.testBit_or, ih (by omega), Nat.testBit_shiftLeft]
    rcases Nat.lt_trichotomy y k with hlt | rfl | hgt
    · have e1 : decide (8 * y + x ≥ 8 * k) = false := by simp; omega
      rw [e1]; simp [hlt, show y < k + 1 by omega]
    · have e1 : 8 * y + x - 8 * y = x := by omega
      rw [e1]; simp
    · have e1 : (gI l k).toNat.testBit (8 * y + x - 8 * k) = false := row_bit (by omega) (by omega)
      rw [e1]
      have n1 : ¬ y < k := by omega
      have n2 : ¬ y < k + 1 := by omega
      simp [n1, n2]
def hasR (l : List Int) (c : Cel) : Bool := decide (c.y < l.length) && (gI l c.y.toNat).toNat.testBit c.x.toNat
theorem regSet_has {l : List Int} (h : regOk l = true) {c : Cel} (hc : okc c.x c.y = true) : (regSet l).testBit (idx c) = hasR l c := by
  have hq := okc_true.1 hc
  have e : idx c = 8 * c.y.toNat + c.x.toNat := by unfold idx; omega
  unfold regSet
  rw [e, rs_bit h (Nat.le_refl _) _ _ (by omega)]
  unfold hasR
  congr 1
  rw [Bool.eq_iff_iff]; simp; omega
def hasC (l : List Int) (c : Cel) : Bool := regOk l && (okc c.x c.y && (regSet l).testBit (idx c))
theorem hasC_spec {l : List Int} {c : Cel} (h : regOk l = true) (hc : okc c.x c.y = true) : hasR l c = hasC l c := by unfold hasC; rw [h, hc, regSet_has h hc]; rfl
def cellsOf (l : List Int) : List Cel := if regOk l then setCells (regSet l) else []
theorem cellsOf_len (l : List Int) : (cellsOf l).length ≤ 64 := by unfold cellsOf; split; exact setCells_len _; simp
theorem cellsOf_scan {l : List Int} (h : regOk l = true) : ((List.range 64).filter (fun k => hasR l (cN k))).map cN = cellsOf l := by
  unfold cellsOf setCells; rw [h, if_pos rfl]
  congr 1
  refine List.filter_congr fun k hk => ?_
  have hk : k < 64 := by simpa using hk
  rw [← regSet_has h (cN_ok hk), idx_cN hk]
theorem gC_mem {l : List Cel} {k : Nat} (h : k < l.length) : gC l k ∈ l := by rw [gC_eq h]; exact List.getElem_mem h
theorem qC0_bs_70 : ∀ (a b : Int), Tryz.prog.built 70 [(0, .int .i64 a), (1, .int .i64 b)] = some ([.int .i64 a, .int .i64 b] : List Value).toArray := fun _ _ => rfl
theorem qC0_fo_70_0 : fieldOff Tryz.prog 70 0 = some 0 := by kernel_rfl
theorem qC0_fo_70_1 : fieldOff Tryz.prog 70 1 = some 1 := by kernel_rfl
theorem qC0_ti_3 : TI Tryz.prog 3 false 1 := ⟨⟨_, Tryz.underlying3, rfl⟩, by kernel_rfl⟩
theorem qC0_ti_70 : TI Tryz.prog 70 true 2 := ⟨⟨_, Tryz.underlying70, rfl⟩, by kernel_rfl⟩
theorem qC0_zi_70 : ZI Tryz.prog 70 (.agg #[.int .i64 0, .int .i64 0]) 2 16 := by unfold ZI; kernel_rfl
theorem impl_within_fn (a b c : Int) : Fn Tryz.prog 61 [.a (.val (.int .i64 a)), .a (.val (.int .i64 b)), .a (.val (.int .i64 c))] [.val (.bool (inB a b c))] := by
  refine ⟨⟨_, Tryz.func61, by kernel_rfl, by kernel_rfl⟩, fun w args h => ?_⟩
  match args, args_iff.1 h with
  | [u0, u1, u2], ⟨h0, h1, h2, _⟩ =>
    obtain rfl := argB_v h0
    obtain rfl := argB_v h1
    obtain rfl := argB_v h2
    refine Calls.mono (within_c a b c w) ?_
    rintro e w' ⟨rfl, rfl⟩
    exact ⟨_, rfl, rfl, Below.refl _ _⟩

theorem spec_l01In_fn (a b c : Int) : Fn Tryz.prog 59 [.a (.val (.int .i64 a)), .a (.val (.int .i64 b)), .a (.val (.int .i64 c))] [.val (.bool (inB a b c))] := by
  refine ⟨⟨_, Tryz.func59, by kernel_rfl, by kernel_rfl⟩, fun w args h => ?_⟩
  match args, args_iff.1 h with
  | [u0, u1, u2], ⟨h0, h1, h2, _⟩ =>
    obtain rfl := argB_v h0
    obtain rfl := argB_v h1
    obtain rfl := argB_v h2
    refine Calls.mono (l01In_c a b c w) ?_
    rintro e w' ⟨rfl, rfl⟩
    exact ⟨_, rfl, rfl, Below.refl _ _⟩

theorem impl_allWithin_fn (l : List Int) (a b : Int) (hl : l.length ≤ 4194304) : Fn Tryz.prog 107 [.a (.slv l.length 1 (isl l)), .a (.val (.int .i64 a)), .a (.val (.int .i64 b))] [.val (.bool (allIn l a b))] := by
  refine ⟨⟨_, Tryz.func107, by kernel_rfl, by kernel_rfl⟩, fun w args h => ?_⟩
  match args, args_iff.1 h with
  | [u0, u1, u2], ⟨h0, h1, h2, _⟩ =>
    obtain ⟨A0, c0, rfl, hc0, hr0⟩ := argB_slv h0
    obtain rfl := argB_v h1
    obtain rfl := argB_v h2
    refine Calls.mono (allWithin_c l A0 l.length c0 a b w hr0 hl) ?_
    rintro e w' ⟨rfl, rfl⟩
    exact ⟨_, rfl, rfl, Below.refl _ _⟩

theorem impl_CellOk_fn (c : Cel) : Fn Tryz.prog 112 [.agg ([vI c.x, vI c.y].map A.val)] [.val (.bool (okc c.x c.y))] := by
  refine ⟨⟨_, Tryz.func112, by kernel_rfl, by kernel_rfl⟩, fun w args h => ?_⟩
  match args, args_iff.1 h with
  | [u0], ⟨h0, _⟩ =>
    obtain rfl := argB_av h0
    refine Calls.mono (cellOk_impl c.x c.y w) ?_
    rintro e w' ⟨rfl, hb⟩
    exact ⟨_, rfl, rfl, hb⟩

theorem spec_CellOk_fn (c : Cel) : Fn Tryz.prog 78 [.agg ([vI c.x, vI c.y].map A.val)] [.val (.bool (okc c.x c.y))] := by
  refine ⟨⟨_, Tryz.func78, by kernel_rfl, by kernel_rfl⟩, fun w args h => ?_⟩
  match args, args_iff.1 h with
  | [u0], ⟨h0, _⟩ =>
    obtain rfl := argB_av h0
    refine Calls.mono (cellOk_spec c.x c.y w) ?_
    rintro e w' ⟨rfl, hb⟩
    exact ⟨_, rfl, rfl, hb⟩

set_option maxHeartbeats 4000000 in
set_option maxRecDepth 100000 in
theorem impl_CellIndex_fn (c : Cel) (hc : okc c.x c.y = true) : Fn Tryz.prog 118 [.agg ([vI c.x, vI c.y].map A.val)] [.val (.int .i64 (((idx c) : Nat) : Int))] := by
 have hq := okc_true.1 hc
 refine fn_intro (N := 12) Tryz.func118 rfl (by kernel_rfl) rfl (Nat.le_of_ble_eq_true rfl) [1, 4] (ret1 rfl) (fun W => ?_)
 show Wp _ _ _ [kV 0 (V.av [vI c.x, vI c.y]), kF 1, kF 4]
 refine sq (rg ?_)
 refine z ?_ (h := fun ν => acts_box (h := 1) ν xt (by exact ob1 rfl))
 refine zk (nl (sq (sq (rg ?_))))
 refine z ?_ (h := fun ν => acts_load_owns (xs := [vI c.x, vI c.y].map A.val) ν qC0_ti_70 rfl (by decide) rfl)
 refine z ?_ (h := fun ν => acts_call1 ν (impl_CellOk_fn c ) (ac (ArgV.va va) an) (resval (congrArg Value.bool hc)))
 refine z ?_ (h := fun ν => acts_un ν vt (r_not (c := false) rfl))
 refine nl (wf (sk (sq (rg ?_))))
 refine z ?_ (h := fun ν => acts_field (off' := 1) ν qC0_fo_70_1 rfl)
 refine z ?_ (h := fun ν => acts_load_own (x := .val (.int .i64 c.y)) ν qC0_ti_3 (by exact rfl))
 refine z ?_ (h := fun ν => acts_bin ν vt vc rM)
 refine z ?_ (h := fun ν => acts_field (off' := 0) ν qC0_fo_70_0 rfl)
 refine z ?_ (h := fun ν => acts_load_own (x := .val (.int .i64 c.x)) ν qC0_ti_3 (by exact rfl))
 refine z ?_ (h := fun ν => acts_bin ν vt vt rA)
 refine za (nl (wp_ret' ?_))
 exact VRes.tmp _ _ _ (by exact rfl) (bval (congrArg (Value.int .i64) (by exact idx_eq hc)))

set_option maxHeartbeats 4000000 in
set_option maxRecDepth 100000 in
theorem impl_cellAt_fn (i : Nat) (hi : i < 64) : Fn Tryz.prog 71 [.a (.val (.int .i64 ((i : Nat) : Int)))] [.val (.agg ([.int .i64 (cN i).x, .int .i64 (cN i).y] : List Value).toArray)] := by
 refine fn_intro (N := 8) Tryz.func71 rfl (by kernel_rfl) rfl (Nat.le_of_ble_eq_true rfl) [2] (ret1 rfl) (fun W => ?_)
 show Wp _ _ _ [kI 0 ((i : Nat) : Int), kF 2]
 refine sq (rg ?_)
 refine z ?_ (h := fun ν => acts_alloc' (h := 2) (cap := 1) (s := 2) (cells := [aI 0, aI 0]) ν qC0_zi_70 rfl rfl (by decide))
 refine nl (sq (rg (zm ?_)))
 refine z ?_ (h := fun ν => acts_bin ν vt vc (r_rem (c := (((i % 8) : Nat) : Int)) (by decide) (remN (a := ((i : Nat) : Int)) (b := i) (c := 8) rfl)))
 refine zm ?_
 refine z ?_ (h := fun ν => acts_bin ν vt vc (r_quo (c := (((i / 8) : Nat) : Int)) (by decide) (quoN (a := ((i : Nat) : Int)) (b := i) (c := 8) rfl (by decide) (by omega))))
 refine z ?_ (h := fun ν => bC ν qC0_bs_70 vt vt)
 refine z ?_ (h := fun _ => acts_store (cells := [aI (((i % 8) : Nat) : Int), aI (((i / 8) : Nat) : Int)]) qC0_ti_70 xt (by exact rfl) (by decide) (by exact ob1 rfl) (by exact Nat.le_of_ble_eq_true rfl) (by exact rfl))
 refine nl (wp_ret' ?_)
 exact VRes.cells 2 70 2 ⟨70, 2, true, [aI (((i % 8) : Nat) : Int), aI (((i / 8) : Nat) : Int)]⟩ _ (by kernel_rfl) (by kernel_rfl) qC0_ti_70 (Nat.le_of_ble_eq_true rfl) (bagg (vs := [vI (((i % 8) : Nat) : Int), vI (((i / 8) : Nat) : Int)]) (by rfl))

set_option maxHeartbeats 4000000 in
set_option maxRecDepth 100000 in
theorem spec_CellAt_fn (i : Nat) (hi : i < 64) : Fn Tryz.prog 68 [.a (.val (.int .i64 ((i : Nat) : Int)))] [.val (.agg ([.int .i64 (cN i).x, .int .i64 (cN i).y] : List Value).toArray), .val (.bool true)] := by
 have hin : inB ((i : Nat) : Int) 0 63 = true := inB_true.2 (by omega)
 refine fn_intro (N := 13) Tryz.func68 rfl (by kernel_rfl) rfl (Nat.le_of_ble_eq_true rfl) [2, 5] (ret2 rfl rfl (by intro u hu; injection hu with hu; subst hu; rfl)) (fun W => ?_)
 show Wp _ _ _ [kI 0 ((i : Nat) : Int), kF 2, kF 5]
 refine sq (rg ?_)
 refine z ?_ (h := fun ν => acts_alloc' (h := 2) (cap := 1) (s := 2) (cells := [aI 0, aI 0]) ν qC0_zi_70 rfl rfl (by decide))
 refine zk (nl (sq (sq (rg (zm ?_)))))
 refine z ?_ (h := fun ν => acts_call1 ν (spec_l01In_fn ((i : Nat) : Int) 0 63 ) (ac (ArgV.v vt) (ac (ArgV.v vc) (ac (ArgV.v vc) an))) (resval (congrArg Value.bool hin)))
 refine z ?_ (h := fun ν => acts_un ν vt (r_not (c := false) rfl))
 refine nl (wf (sk (sq (rg (zm ?_)))))
 refine z ?_ (h := fun ν => acts_bin ν vt vc (r_rem (c := (((i % 8) : Nat) : Int)) (by decide) (remN (a := ((i : Nat) : Int)) (b := i) (c := 8) rfl)))
 refine zm ?_
 refine z ?_ (h := fun ν => acts_bin ν vt vc (r_quo (c := (((i / 8) : Nat) : Int)) (by decide) (quoN (a := ((i : Nat) : Int)) (b := i) (c := 8) rfl (by decide) (by omega))))
 refine z ?_ (h := fun ν => bC ν qC0_bs_70 vt vt)
 refine z ?_ (h := fun _ => acts_store (cells := [aI (((i % 8) : Nat) : Int), aI (((i / 8) : Nat) : Int)]) qC0_ti_70 xt (by exact rfl) (by decide) (by exact ob1 rfl) (by exact Nat.le_of_ble_eq_true rfl) (by exact rfl))
 refine zk (nl (wp_ret' ?_))
 exact ⟨VRes.cells 2 70 2 ⟨70, 2, true, [aI (((i % 8) : Nat) : Int), aI (((i / 8) : Nat) : Int)]⟩ _ (by kernel_rfl) (by kernel_rfl) qC0_ti_70 (Nat.le_of_ble_eq_true rfl) (bagg (vs := [vI (((i % 8) : Nat) : Int), vI (((i / 8) : Nat) : Int)]) (by rfl)), VRes.tmp _ _ _ (by exact rfl) (BRes.val _)⟩

end Cl
end Go.Proofs.YtgmkkfdnmdohlaaGreatDoor
