/- Parts put together: C0, C1, Ints, Cels, C2, C3. -/
import Derived.Test.YtgmckbchcpfhcaaClB
import Derived.Test.YtgmckbchcpfhcaaClA
import Derived.Test.YtgmckbchcpfhcaaBase
namespace Go.Proofs.Ytgmckbchcpfhcaa
namespace Cl
open Go.ChangeShapes Go.WideShapes Go.ChangeAt Go.RowKit
set_option maxRecDepth 20000

def cN (i : Nat) : Cel := ⟨((i % 8 : Nat) : Int), ((i / 8 : Nat) : Int)⟩
def idx (c : Cel) : Nat := (c.y * 8 + c.x).toNat
theorem idx_lt {c : Cel} (h : okc c.x c.y = true) : idx c < 64 := by have := okc_true.1 h; unfold idx; omega
theorem idx_eq {c : Cel} (h : okc c.x c.y = true) : c.y * 8 + c.x = ((idx c : Nat) : Int) := by have := okc_true.1 h; unfold idx; omega
theorem cN_ok {i : Nat} (h : i < 64) : okc (cN i).x (cN i).y = true := okc_true.2 (by unfold cN; dsimp only; omega)
theorem cN_idx {c : Cel} (h : okc c.x c.y = true) : cN (idx c) = c := by
  have := okc_true.1 h
  unfold cN idx; cases c; simp only [Cel.mk.injEq] at *; omega
theorem idx_cN {i : Nat} (h : i < 64) : idx (cN i) = i := by unfold idx cN; dsimp only; omega
theorem range_yes {p : Nat → Bool} {k : Nat} (h : p k = true) : ((List.range (k+1)).filter p).map cN = ((List.range k).filter p).map cN ++ [cN k] := by
  rw [List.range_succ, List.filter_append, List.map_append]; simp [h]
theorem range_no {p : Nat → Bool} {k : Nat} (h : p k = false) : ((List.range (k+1)).filter p).map cN = ((List.range k).filter p).map cN := by
  rw [List.range_succ, List.filter_append, List.map_append]; simp [h]
theorem range_len (p : Nat → Bool) (k : Nat) : (((List.range k).filter p).map cN).length ≤ k := by
  rw [List.length_map]; exact Nat.le_trans (List.length_filter_le _ _) (by simp)
def nbr (a b : Cel) : Bool := okc a.x a.y && okc b.x b.y && decide (iabs (a.x - b.x) + iabs (a.y - b.y) = 1)
theorem cfilt_yes {p : Cel → Bool} {l : List Cel} {k : Nat} (h : k < l.length) (hp : p (gC l k) = true) : (l.take (k+1)).filter p = (l.take k).filter p ++ [gC l k] := by
  rw [List.take_succ_eq_append_getElem h, List.filter_append, ← gC_eq h]; simp [hp]
theorem cfilt_no {p : Cel → Bool} {l : List Cel} {k : Nat} (h : k < l.length) (hp : p (gC l k) = false) : (l.take (k+1)).filter p = (l.take k).filter p := by
  rw [List.take_succ_eq_append_getElem h, List.filter_append, ← gC_eq h]; simp [hp]
theorem cfilt_len (p : Cel → Bool) (l : List Cel) (k : Nat) : ((l.take k).filter p).length ≤ k := by
  have := List.length_filter_le p (l.take k); simp at this ⊢; omega
def setCells (s : Nat) : List Cel := ((List.range 64).filter s.testBit).map cN
theorem setCells_len (s : Nat) : (setCells s).length ≤ 64 := range_len _ 64
def addC (s : Nat) (c : Cel) : Nat := s ||| 2 ^ (idx c)
def delC (s : Nat) (c : Cel) : Nat := andn s (2 ^ (idx c))
theorem addC_lt {s : Nat} (hs : s < 18446744073709551616) {c : Cel} (h : okc c.x c.y = true) : addC s c < 18446744073709551616 := nat_or_lt 64 hs (two_pow_u (idx_lt h))
theorem delC_lt {s : Nat} (hs : s < 18446744073709551616) (c : Cel) : delC s c < 18446744073709551616 := andn_lt hs
theorem addC_bit (s : Nat) (c : Cel) (i : Nat) : (addC s c).testBit i = (s.testBit i || decide (idx c = i)) := by
  unfold addC; rw [Nat.testBit_or, Nat.testBit_two_pow]
def hasS (s : Nat) (c : Cel) : Bool := okc c.x c.y && s.testBit (idx c)
def regOk (l : List Int) : Bool := decide (l.length ≤ 8) && allIn l 0 255
theorem regOk_true {l : List Int} (h : regOk l = true) : l.length ≤ 8 ∧ ∀ k, k < l.length → 0 ≤ gI l k ∧ gI l k ≤ 255 := by
  unfold regOk allIn at h
  simp only [Bool.and_eq_true, decide_eq_true_eq, List.all_eq_true] at h
  exact ⟨h.1, fun k hk => by rw [gI_eq hk]; exact inB_true.1 (h.2 _ (List.getElem_mem hk))⟩
def rs (l : List Int) : Nat → Nat
  | 0 => 0
  | k + 1 => rs l k ||| ((gI l k).toNat <<< (8 * k))
def regSet (l : List Int) : Nat := rs l l.length
theorem shl_row {a k : Nat} (ha : a ≤ 255) (hk : k < 8) : a <<< (8 * k) < 2 ^ (8 * (k + 1)) := by
  rw [Nat.shiftLeft_eq]
  have e : 8 * (k + 1) = 8 * k + 8 := by omega
  rw [e, Nat.pow_add, Nat.mul_comm]
  exact Nat.mul_lt_mul_of_pos_left (by omega) (Nat.two_pow_pos _)
theorem rs_lt' {l : List Int} (h : regOk l = true) {k : Nat} (hk : k ≤ l.length) : rs l k < 2 ^ (8 * k) := by
  obtain ⟨h8, hr⟩ := regOk_true h
  induction k with
  | zero => simp [rs]
  | succ k ih =>
    have := hr k (by omega)
    unfold rs
    refine Nat.or_lt_two_pow ?_ (shl_row (by omega) (by omega))
    exact Nat.lt_of_lt_of_le (ih (by omega)) (Nat.pow_le_pow_right (by decide) (by omega))
theorem rs_lt {l : List Int} (h : regOk l = true) {k : Nat} (hk : k ≤ l.length) : rs l k < 18446744073709551616 := by
  obtain ⟨h8, _⟩ := regOk_true h
  exact Nat.lt_of_lt_of_le (rs_lt' h hk) (Nat.pow_le_pow_right (n := 2) (by decide) (by omega : 8 * k ≤ 64))
theorem shl_u {a k : Nat} (ha : a ≤ 255) (hk : k < 8) : a <<< (8 * k) < 18446744073709551616 :=
  Nat.lt_of_lt_of_le (shl_row ha hk) (Nat.pow_le_pow_right (n := 2) (by decide) (by omega : 8 * (k + 1) ≤ 64))
theorem regSet_lt {l : List Int} (h : regOk l = true) : regSet l < 18446744073709551616 := rs_lt h (Nat.le_refl _)
theorem row_bit {a : Nat} (ha : a ≤ 255) {x : Nat} (hx : 8 ≤ x) : a.testBit x = false :=
  Nat.testBit_lt_two_pow (Nat.lt_of_lt_of_le (show a < 2 ^ 8 by omega) (Nat.pow_le_pow_right (by decide) hx))
theorem rs_bit {l : List Int} (h : regOk l = true) {k : Nat} (hk : k ≤ l.length) (x y : Nat) (hx : x < 8) : (rs l k).testBit (8 * y + x) = (decide (y < k) && (gI l y).toNat.testBit x) := by
  obtain ⟨h8, hr⟩ := regOk_true h
  induction k with
  | zero => simp [rs]
  | succ k ih =>
    have hb := hr k (by omega)
    unfold rs
    rw [Nat.testBit_or, ih (by omega), Nat.testBit_shiftLeft]
    rcases Nat.lt_trichotomy y k with hlt | rfl | hgt
    · have e1 : decide (8 * y + x ≥ 8 * k) = false := by simp; omega
      rw [e1]; simp [hlt, show y < k + 1 by omega]
    · have e1 : 8 * y + x - 8 * y = x := by omega
      rw [e1]; simp
    · have e1 : (gI l k).toNat.testBit (8 * y + x - 8 * k) = false := row_bit (by omega) (by omega)
      rw [e1]
      have n1 : ¬ y < k := by omega
      have n2 : ¬ y < k + 1 := by omega
      simp [n1, n2]
def hasR (l : List Int) (c : Cel) : Bool := decide (c.y < l.length) && (gI l c.y.toNat).toNat.testBit c.x.toNat
theorem regSet_has {l : List Int} (h : regOk l = true) {c : Cel} (hc : okc c.x c.y = true) : (regSet l).testBit (idx c) = hasR l c := by
  have hq := okc_true.1 hc
  have e : idx c = 8 * c.y.toNat + c.x.toNat := by unfold idx; omega
  unfold regSet
  rw [e, rs_bit h (Nat.le_refl _) _ _ (by omega)]
  unfold hasR
  congr 1
  rw [Bool.eq_iff_iff]; simp; omega
def hasC (l : List Int) (c : Cel) : Bool := regOk l && (okc c.x c.y && (regSet l).testBit (idx c))
theorem hasC_spec {l : List Int} {c : Cel} (h : regOk l = true) (hc : okc c.x c.y = true) : hasR l c = hasC l c := by unfold hasC; rw [h, hc, regSet_has h hc]; rfl
def cellsOf (l : List Int) : List Cel := if regOk l then setCells (regSet l) else []
theorem cellsOf_len (l : List Int) : (cellsOf l).length ≤ 64 := by unfold cellsOf; split; exact setCells_len _; simp
theorem cellsOf_scan {l : List Int} (h : regOk l = true) : ((List.range 64).filter (fun k => hasR l (cN k))).map cN = cellsOf l := by
  unfold cellsOf setCells; rw [h, if_pos rfl]
  congr 1
  refine List.filter_congr fun k hk => ?_
  have hk : k < 64 := by simpa using hk
  rw [← regSet_has h (cN_ok hk), idx_cN hk]
theorem gC_mem {l : List Cel} {k : Nat} (h : k < l.length) : gC l k ∈ l := by rw [gC_eq h]; exact List.getElem_mem h
theorem qC0_bs_67 : ∀ (a b : Int), Try.prog.built 67 [(0, .int .i64 a), (1, .int .i64 b)] = some ([.int .i64 a, .int .i64 b] : List Value).toArray := fun _ _ => rfl
theorem qC0_fo_67_0 : fieldOff Try.prog 67 0 = some 0 := by kernel_rfl
theorem qC0_fo_67_1 : fieldOff Try.prog 67 1 = some 1 := by kernel_rfl
theorem qC0_ti_3 : TI Try.prog 3 false 1 := ⟨⟨_, Try.underlying3, rfl⟩, by kernel_rfl⟩
theorem qC0_ti_67 : TI Try.prog 67 true 2 := ⟨⟨_, Try.underlying67, rfl⟩, by kernel_rfl⟩
theorem qC0_zi_67 : ZI Try.prog 67 (.agg #[.int .i64 0, .int .i64 0]) 2 16 := by unfold ZI; kernel_rfl
theorem impl_within_fn (a b c : Int) : Fn Try.prog 31 [.a (.val (.int .i64 a)), .a (.val (.int .i64 b)), .a (.val (.int .i64 c))] [.val (.bool (inB a b c))] := by
  refine ⟨⟨_, Try.func31, by kernel_rfl, by kernel_rfl⟩, fun w args h => ?_⟩
  match args, args_iff.1 h with
  | [u0, u1, u2], ⟨h0, h1, h2, _⟩ =>
    obtain rfl := argB_v h0
    obtain rfl := argB_v h1
    obtain rfl := argB_v h2
    refine Calls.mono (within_c a b c w) ?_
    rintro e w' ⟨rfl, rfl⟩
    exact ⟨_, rfl, rfl, Below.refl _ _⟩

theorem spec_l01In_fn (a b c : Int) : Fn Try.prog 27 [.a (.val (.int .i64 a)), .a (.val (.int .i64 b)), .a (.val (.int .i64 c))] [.val (.bool (inB a b c))] := by
  refine ⟨⟨_, Try.func27, by kernel_rfl, by kernel_rfl⟩, fun w args h => ?_⟩
  match args, args_iff.1 h with
  | [u0, u1, u2], ⟨h0, h1, h2, _⟩ =>
    obtain rfl := argB_v h0
    obtain rfl := argB_v h1
    obtain rfl := argB_v h2
    refine Calls.mono (l01In_c a b c w) ?_
    rintro e w' ⟨rfl, rfl⟩
    exact ⟨_, rfl, rfl, Below.refl _ _⟩

theorem impl_allWithin_fn (l : List Int) (a b : Int) (hl : l.length ≤ 4194304) : Fn Try.prog 73 [.a (.slv l.length 1 (isl l)), .a (.val (.int .i64 a)), .a (.val (.int .i64 b))] [.val (.bool (allIn l a b))] := by
  refine ⟨⟨_, Try.func73, by kernel_rfl, by kernel_rfl⟩, fun w args h => ?_⟩
  match args, args_iff.1 h with
  | [u0, u1, u2], ⟨h0, h1, h2, _⟩ =>
    obtain ⟨A0, c0, rfl, hc0, hr0⟩ := argB_slv h0
    obtain rfl := argB_v h1
    obtain rfl := argB_v h2
    refine Calls.mono (allWithin_c l A0 l.length c0 a b w hr0 hl) ?_
    rintro e w' ⟨rfl, rfl⟩
    exact ⟨_, rfl, rfl, Below.refl _ _⟩

theorem impl_CellOk_fn (c : Cel) : Fn Try.prog 78 [.agg ([vI c.x, vI c.y].map A.val)] [.val (.bool (okc c.x c.y))] := by
  refine ⟨⟨_, Try.func78, by kernel_rfl, by kernel_rfl⟩, fun w args h => ?_⟩
  match args, args_iff.1 h with
  | [u0], ⟨h0, _⟩ =>
    obtain rfl := argB_av h0
    refine Calls.mono (cellOk_impl c.x c.y w) ?_
    rintro e w' ⟨rfl, hb⟩
    exact ⟨_, rfl, rfl, hb⟩

theorem spec_CellOk_fn (c : Cel) : Fn Try.prog 70 [.agg ([vI c.x, vI c.y].map A.val)] [.val (.bool (okc c.x c.y))] := by
  refine ⟨⟨_, Try.func70, by kernel_rfl, by kernel_rfl⟩, fun w args h => ?_⟩
  match args, args_iff.1 h with
  | [u0], ⟨h0, _⟩ =>
    obtain rfl := argB_av h0
    refine Calls.mono (cellOk_spec c.x c.y w) ?_
    rintro e w' ⟨rfl, hb⟩
    exact ⟨_, rfl, rfl, hb⟩

set_option maxHeartbeats 4000000 in
set_option maxRecDepth 100000 in
theorem impl_CellIndex_fn (c : Cel) (hc : okc c.x c.y = true) : Fn Try.prog 86 [.agg ([vI c.x, vI c.y].map A.val)] [.val (.int .i64 (((idx c) : Nat) : Int))] := by
 have hq := okc_true.1 hc
 refine fn_intro (N := 12) Try.func86 rfl (by kernel_rfl) rfl (Nat.le_of_ble_eq_true rfl) [1, 4] (ret1 rfl) (fun W => ?_)
 show Wp _ _ _ [kV 0 (V.av [vI c.x, vI c.y]), kF 1, kF 4]
 refine sq (rg ?_)
 refine z ?_ (h := fun ν => acts_box (h := 1) ν xt (by exact ob1 rfl))
 refine zk (nl (sq (sq (rg ?_))))
 refine z ?_ (h := fun ν => acts_load_owns (xs := [vI c.x, vI c.y].map A.val) ν qC0_ti_67 rfl (by decide) rfl)
 refine z ?_ (h := fun ν => acts_call1 ν (impl_CellOk_fn c ) (ac (ArgV.va va) an) (resval (congrArg Value.bool hc)))
 refine z ?_ (h := fun ν => acts_un ν vt (r_not (c := false) rfl))
 refine nl (wf (sk (sq (rg ?_))))
 refine z ?_ (h := fun ν => acts_field (off' := 1) ν qC0_fo_67_1 rfl)
 refine z ?_ (h := fun ν => acts_load_own (x := .val (.int .i64 c.y)) ν qC0_ti_3 (by exact rfl))
 refine z ?_ (h := fun ν => acts_bin ν vt vc rM)
 refine z ?_ (h := fun ν => acts_field (off' := 0) ν qC0_fo_67_0 rfl)
 refine z ?_ (h := fun ν => acts_load_own (x := .val (.int .i64 c.x)) ν qC0_ti_3 (by exact rfl))
 refine z ?_ (h := fun ν => acts_bin ν vt vt rA)
 refine za (nl (wp_ret' ?_))
 exact VRes.tmp _ _ _ (by exact rfl) (bval (congrArg (Value.int .i64) (by exact idx_eq hc)))

set_option maxHeartbeats 4000000 in
set_option maxRecDepth 100000 in
theorem impl_cellAt_fn (i : Nat) (hi : i < 64) : Fn Try.prog 64 [.a (.val (.int .i64 ((i : Nat) : Int)))] [.val (.agg ([.int .i64 (cN i).x, .int .i64 (cN i).y] : List Value).toArray)] := by
 refine fn_intro (N := 8) Try.func64 rfl (by kernel_rfl) rfl (Nat.le_of_ble_eq_true rfl) [2] (ret1 rfl) (fun W => ?_)
 show Wp _ _ _ [kI 0 ((i : Nat) : Int), kF 2]
 refine sq (rg ?_)
 refine z ?_ (h := fun ν => acts_alloc' (h := 2) (cap := 1) (s := 2) (cells := [aI 0, aI 0]) ν qC0_zi_67 rfl rfl (by decide))
 refine nl (sq (rg (zm ?_)))
 refine z ?_ (h := fun ν => acts_bin ν vt vc (r_rem (c := (((i % 8) : Nat) : Int)) (by decide) (remN (a := ((i : Nat) : Int)) (b := i) (c := 8) rfl)))
 refine zm ?_
 refine z ?_ (h := fun ν => acts_bin ν vt vc (r_quo (c := (((i / 8) : Nat) : Int)) (by decide) (quoN (a := ((i : Nat) : Int)) (b := i) (c := 8) rfl (by decide) (by omega))))
 refine z ?_ (h := fun ν => bC ν qC0_bs_67 vt vt)
 refine z ?_ (h := fun _ => acts_store (cells := [aI (((i % 8) : Nat) : Int), aI (((i / 8) : Nat) : Int)]) qC0_ti_67 xt (by exact rfl) (by decide) (by exact ob1 rfl) (by exact Nat.le_of_ble_eq_true rfl) (by exact rfl))
 refine nl (wp_ret' ?_)
 exact VRes.cells 2 67 2 ⟨67, 2, true, [aI (((i % 8) : Nat) : Int), aI (((i / 8) : Nat) : Int)]⟩ _ (by kernel_rfl) (by kernel_rfl) qC0_ti_67 (Nat.le_of_ble_eq_true rfl) (bagg (vs := [vI (((i % 8) : Nat) : Int), vI (((i / 8) : Nat) : Int)]) (by rfl))

set_option maxHeartbeats 4000000 in
set_option maxRecDepth 100000 in
theorem spec_CellAt_fn (i : Nat) (hi : i < 64) : Fn Try.prog 68 [.a (.val (.int .i64 ((i : Nat) : Int)))] [.val (.agg ([.int .i64 (cN i).x, .int .i64 (cN i).y] : List Value).toArray), .val (.bool true)] := by
 have hin : inB ((i : Nat) : Int) 0 63 = true := inB_true.2 (by omega)
 refine fn_intro (N := 13) Try.func68 rfl (by kernel_rfl) rfl (Nat.le_of_ble_eq_true rfl) [2, 5] (ret2 rfl rfl (by intro u hu; injection hu with hu; subst hu; rfl)) (fun W => ?_)
 show Wp _ _ _ [kI 0 ((i : Nat) : Int), kF 2, kF 5]
 refine sq (rg ?_)
 refine z ?_ (h := fun ν => acts_alloc' (h := 2) (cap := 1) (s := 2) (cells := [aI 0, aI 0]) ν qC0_zi_67 rfl rfl (by decide))
 refine zk (nl (sq (sq (rg (zm ?_)))))
 refine z ?_ (h := fun ν => acts_call1 ν (spec_l01In_fn ((i : Nat) : Int) 0 63 ) (ac (ArgV.v vt) (ac (ArgV.v vc) (ac (ArgV.v vc) an))) (resval (congrArg Value.bool hin)))
 refine z ?_ (h := fun ν => acts_un ν vt (r_not (c := false) rfl))
 refine nl (wf (sk (sq (rg (zm ?_)))))
 refine z ?_ (h := fun ν => acts_bin ν vt vc (r_rem (c := (((i % 8) : Nat) : Int)) (by decide) (remN (a := ((i : Nat) : Int)) (b := i) (c := 8) rfl)))
 refine zm ?_
 refine z ?_ (h := fun ν => acts_bin ν vt vc (r_quo (c := (((i / 8) : Nat) : Int)) (by decide) (quoN (a := ((i : Nat) : Int)) (b := i) (c := 8) rfl (by decide) (by omega))))
 refine z ?_ (h := fun ν => bC ν qC0_bs_67 vt vt)
 refine z ?_ (h := fun _ => acts_store (cells := [aI (((i % 8) : Nat) : Int), aI (((i / 8) : Nat) : Int)]) qC0_ti_67 xt (by exact rfl) (by decide) (by exact ob1 rfl) (by exact Nat.le_of_ble_eq_true rfl) (by exact rfl))
 refine zk (nl (wp_ret' ?_))
 exact ⟨VRes.cells 2 67 2 ⟨67, 2, true, [aI (((i % 8) : Nat) : Int), aI (((i / 8) : Nat) : Int)]⟩ _ (by kernel_rfl) (by kernel_rfl) qC0_ti_67 (Nat.le_of_ble_eq_true rfl) (bagg (vs := [vI (((i % 8) : Nat) : Int), vI (((i / 8) : Nat) : Int)]) (by rfl)), VRes.tmp _ _ _ (by exact rfl) (BRes.val _)⟩
end Cl
end Go.Proofs.Ytgmckbchcpfhcaa

namespace Go.Proofs.Ytgmckbchcpfhcaa
namespace Cl
open Go.ChangeShapes Go.WideShapes Go.ChangeAt Go.RowKit
set_option maxRecDepth 20000

theorem regOk_spec {l : List Int} {k : Nat} (hk : k < l.length) (h : inB (gI l k) 0 255 = false) : regOk l = false := by
  unfold regOk allIn
  have : l.all (fun x => inB x 0 255) = false := by
    rw [List.all_eq_false]; exact ⟨l[k], List.getElem_mem hk, by rw [gI_eq hk] at h; simp [h]⟩
  rw [this]; simp
theorem regOk_spec2 {l : List Int} (h : allIn l 0 255 = true) : regOk l = decide (l.length ≤ 8) := by unfold regOk; rw [h]; simp
theorem allIn_snoc {l : List Int} {k : Nat} (hk : k < l.length) (h : allIn (l.take k) 0 255 = true) (h2 : inB (gI l k) 0 255 = true) : allIn (l.take (k+1)) 0 255 = true := by
  unfold allIn at *; rw [List.take_succ_eq_append_getElem hk, List.all_append, h]; simp [← gI_eq hk, h2]
theorem allIn_end {l : List Int} {k : Nat} (hk : ¬ (k : Int) < (l.length : Int)) (h : allIn (l.take k) 0 255 = true) : allIn l 0 255 = true := by rwa [List.take_of_length_le (by omega)] at h
theorem qC1_fo_28_0 : fieldOff Try.prog 28 0 = some 0 := by kernel_rfl
theorem qC1_fo_67_0 : fieldOff Try.prog 67 0 = some 0 := by kernel_rfl
theorem qC1_fo_67_1 : fieldOff Try.prog 67 1 = some 1 := by kernel_rfl
theorem qC1_sz_3 : (Try.prog.info? 3).map (·.size) = some 1 := by kernel_rfl
theorem qC1_ti_22 : TI Try.prog 22 false 1 := ⟨⟨_, Try.underlying22, rfl⟩, by kernel_rfl⟩
theorem qC1_ti_28 : TI Try.prog 28 true 1 := ⟨⟨_, Try.underlying28, rfl⟩, by kernel_rfl⟩
theorem qC1_ti_3 : TI Try.prog 3 false 1 := ⟨⟨_, Try.underlying3, rfl⟩, by kernel_rfl⟩
theorem qC1_ti_67 : TI Try.prog 67 true 2 := ⟨⟨_, Try.underlying67, rfl⟩, by kernel_rfl⟩
theorem qC1_un_22 : Try.prog.underlying 22 = some (.slice 3) := Try.underlying22
theorem qC1_un_3 : Try.prog.underlying 3 = some (.int .i64) := Try.underlying3
theorem qC1_un_51 : Try.prog.underlying 51 = some (.int .u64) := Try.underlying51
theorem qC1_un_64 : Try.prog.underlying 64 = some (.slice 67) := Try.underlying64
theorem qC1_zi_67 : ZI Try.prog 67 (.agg #[.int .i64 0, .int .i64 0]) 2 16 := by unfold ZI; kernel_rfl
set_option maxHeartbeats 4000000 in
set_option maxRecDepth 100000 in
theorem impl_set__has_fn (s : Nat) (c : Cel) (hs : s < 18446744073709551616) : Fn Try.prog 85 [.a (.val (.int .u64 ((s : Nat) : Int))), .agg ([vI c.x, vI c.y].map A.val)] [.val (.bool (hasS s c))] := by
 refine fn_intro (N := 15) Try.func85 rfl (by kernel_rfl) rfl (Nat.le_of_ble_eq_true rfl) [3, 6, 10] (ret1 rfl) (fun W => ?_)
 show Wp _ _ _ [kU 0 ((s : Nat) : Int), kV 1 (V.av [vI c.x, vI c.y]), kF 3, kF 6, kF 10]
 refine sq (rg ?_)
 refine z ?_ (h := fun ν => acts_box (h := 3) ν xt (by exact ob1 rfl))
 refine zk (nl (sq ?_))
 rcases Bool.eq_false_or_eq_true ((okc c.x c.y)) with c1 | c1
 ·skip
  have c1Q := okc_true.1 c1
  refine rg ?_
  refine z ?_ (h := fun ν => acts_load_owns (xs := [vI c.x, vI c.y].map A.val) ν qC1_ti_67 rfl (by decide) rfl)
  refine z ?_ (h := fun ν => acts_call1 ν (impl_CellOk_fn c ) (ac (ArgV.va va) an) (resval (congrArg Value.bool c1)))
  refine zm ?_
  refine zg ?_ (h := fun ν => step_on rfl rfl (mt ν))
  refine zg ?_ (h := fun ν => step_on rfl rfl (acts_load_owns (xs := [vI c.x, vI c.y].map A.val) ν qC1_ti_67 rfl (by decide) rfl))
  refine zg ?_ (h := fun ν => step_on rfl rfl (acts_call1 ν (impl_CellIndex_fn c (by first | omega | assumption | exact idx_lt (by assumption))) (ac (ArgV.va va) an) rv))
  refine zg ?_ (h := fun ν => step_on rfl rfl (acts_bin ν vt vt (r_shr (c := (((s >>> (idx c)) : Nat) : Int)) (by first | omega | exact Int.natCast_nonneg _) (shrU (m := s) (n := (idx c)) rfl rfl (by first | omega | assumption | exact Nat.lt_of_le_of_lt (shr_le _ _) (by first | omega | assumption | (first | omega | assumption | exact idx_lt (by assumption))) | (first | omega | assumption | exact idx_lt (by assumption))) rfl))))
  refine zg ?_ (h := fun ν => step_on rfl rfl (acts_bin ν vt vc (r_and (c := ((((s >>> (idx c)) &&& 1) : Nat) : Int)) (andU (m := (s >>> (idx c))) (n := 1) rfl rfl (by first | omega | assumption | exact Nat.lt_of_le_of_lt (shr_le _ _) (by first | omega | assumption | (first | omega | assumption | exact idx_lt (by assumption))) | (first | omega | assumption | exact idx_lt (by assumption))) (by first | omega | assumption | exact Nat.lt_of_le_of_lt (shr_le _ _) (by first | omega | assumption | (first | omega | assumption | exact idx_lt (by assumption))) | (first | omega | assumption | exact idx_lt (by assumption)))))))
  refine zg ?_ (h := fun ν => step_on rfl rfl (acts_bin ν vt vc (r_eql (c := (s.testBit (idx c))) (bit_one _ _))))
  refine z ?_ (h := fun ν => acts_pick_t ν vt xt)
  refine za (nl (wp_ret' ?_))
  exact VRes.tmp _ _ _ (by exact rfl) (bval (congrArg Value.bool (by first | rfl | (simp_all [hasS]; done) | (unfold hasS; simp_all; done))))
 ·skip
  have c1Q := okc_false.1 c1
  refine rg ?_
  refine z ?_ (h := fun ν => acts_load_owns (xs := [vI c.x, vI c.y].map A.val) ν qC1_ti_67 rfl (by decide) rfl)
  refine z ?_ (h := fun ν => acts_call1 ν (impl_CellOk_fn c ) (ac (ArgV.va va) an) (resval (congrArg Value.bool c1)))
  refine zm (zo (zo (zo (zo (zo (zo ?_))))))
  refine z ?_ (h := fun ν => acts_pick_f ν vt xc)
  refine za (nl (wp_ret' ?_))
  exact VRes.tmp _ _ _ (by exact rfl) (bval (congrArg Value.bool (by first | rfl | (simp_all [hasS]; done) | (unfold hasS; simp_all; done))))

set_option maxHeartbeats 4000000 in
set_option maxRecDepth 100000 in
theorem impl_set__with_fn (s : Nat) (c : Cel) (hs : s < 18446744073709551616) (hc : okc c.x c.y = true) : Fn Try.prog 79 [.a (.val (.int .u64 ((s : Nat) : Int))), .agg ([vI c.x, vI c.y].map A.val)] [.val (.int .u64 (((addC s c) : Nat) : Int))] := by
 refine fn_intro (N := 10) Try.func79 rfl (by kernel_rfl) rfl (Nat.le_of_ble_eq_true rfl) [3, 7] (ret1 rfl) (fun W => ?_)
 show Wp _ _ _ [kU 0 ((s : Nat) : Int), kV 1 (V.av [vI c.x, vI c.y]), kF 3, kF 7]
 refine sq (rg ?_)
 refine z ?_ (h := fun ν => acts_box (h := 3) ν xt (by exact ob1 rfl))
 refine zk (nl (sq (rg (zm ?_))))
 refine z ?_ (h := fun ν => acts_load_owns (xs := [vI c.x, vI c.y].map A.val) ν qC1_ti_67 rfl (by decide) rfl)
 refine z ?_ (h := fun ν => acts_call1 ν (impl_CellIndex_fn c (by first | omega | assumption)) (ac (ArgV.va va) an) rv)
 refine z ?_ (h := fun ν => acts_bin ν vc vt (r_shl (c := (((2 ^ (idx c)) : Nat) : Int)) (by first | omega | exact Int.natCast_nonneg _) (shl1U (n := (idx c)) rfl (by first | omega | assumption | exact Nat.lt_of_le_of_lt (shr_le _ _) (by first | omega | assumption | (first | omega | assumption | exact idx_lt (by assumption) | exact two_pow_u (idx_lt (by assumption)) | exact addC_lt (by assumption) (by assumption) | exact delC_lt (by assumption) _)) | (first | omega | assumption | exact idx_lt (by assumption) | exact two_pow_u (idx_lt (by assumption)) | exact addC_lt (by assumption) (by assumption) | exact delC_lt (by assumption) _)))))
 refine z ?_ (h := fun ν => acts_bin ν vt vt (r_or (c := (((s ||| (2 ^ (idx c))) : Nat) : Int)) (orU (m := s) (n := (2 ^ (idx c))) rfl rfl (by first | omega | assumption | exact Nat.lt_of_le_of_lt (shr_le _ _) (by first | omega | assumption | (first | omega | assumption | exact idx_lt (by assumption) | exact two_pow_u (idx_lt (by assumption)) | exact addC_lt (by assumption) (by assumption) | exact delC_lt (by assumption) _)) | (first | omega | assumption | exact idx_lt (by assumption) | exact two_pow_u (idx_lt (by assumption)) | exact addC_lt (by assumption) (by assumption) | exact delC_lt (by assumption) _)) (by first | omega | assumption | exact Nat.lt_of_le_of_lt (shr_le _ _) (by first | omega | assumption | (first | omega | assumption | exact idx_lt (by assumption) | exact two_pow_u (idx_lt (by assumption)) | exact addC_lt (by assumption) (by assumption) | exact delC_lt (by assumption) _)) | (first | omega | assumption | exact idx_lt (by assumption) | exact two_pow_u (idx_lt (by assumption)) | exact addC_lt (by assumption) (by assumption) | exact delC_lt (by assumption) _)))))
 refine za (nl (wp_ret' ?_))
 exact VRes.tmp _ _ _ (by exact rfl) (bval (congrArg (Value.int .u64) (by rfl)))

set_option maxHeartbeats 4000000 in
set_option maxRecDepth 100000 in
theorem impl_Region__set_fn (l : List Int) (ho : regOk l = true) : Fn Try.prog 33 [.agg [(.slv l.length 1 (isl l) : A)]] [.val (.int .u64 (((regSet l) : Nat) : Int))] := by
 obtain ⟨h8, hr⟩ := regOk_true ho
 refine fn_intro (N := 23) Try.func33 rfl (by kernel_rfl) rfl (Nat.le_of_ble_eq_true rfl) [1, 8] (ret1 rfl) (fun W => ?_)
 show Wp _ _ _ [kV 0 (V.b (.agg [(.slv l.length 1 (isl l) : A)])), kF 1, kF 8]
 refine sq (rg ?_)
 refine z ?_ (h := fun ν => acts_box (h := 1) ν xt (by exact ob1 rfl))
 refine zk (nl (sq (rg (zk (nl (sq (sq (rg ?_))))))))
 refine z ?_ (h := fun ν => acts_field (off' := 0) ν qC1_fo_28_0 rfl)
 refine z ?_ (h := fun ν => acts_load_own (x := .slv l.length 1 (isl l)) ν qC1_ti_22 (by exact rfl))
 refine z ?_ (h := fun ν => lnV ν qC1_un_22)
 refine z ?_ (h := fun ν => mc ν)
 refine nl (bkk ?_)
 refine wp_loop' (fun (k : Nat) => k ≤ l.length) (fun (k : Nat) => [kU 3 (((rs l k) : Nat) : Int), kV 7 (V.b (.a (.slv l.length 1 (isl l)))), kI 8 ((l.length : Nat) : Int), kI 9 ((k : Nat) : Int), kF 1, kF 8]) (fun (k : Nat) => l.length - k) ((0 : Nat)) (by exact (Nat.zero_le _ : 0 ≤ _)) (wkf id (wE (e := (vint (by first | rfl | omega | (simp; done) | (simp; omega)))) <| wS <| wS <| wE (e := (vint (by first | rfl | omega | (simp; done) | (simp; omega)))) <| wF <| wF <| wN)) ?_
 rintro k inv1
 replace inv1 : k ≤ l.length := inv1
 have inv := inv1
 have hrs := rs_lt ho inv
 refine sq (rg ?_)
 refine z ?_ (h := fun ν => acts_bin ν vt vt (r_lss rfl))
 refine nl (sq ?_)
 refine wi (fun c2 => ?_) (fun c2 => ?_)
 ·skip
  have c2P := of_decide_eq_true c2
  refine sk (sq (bkk (sq (rg (zm ?_)))))
  refine z ?_ (h := fun ν => ixv ν qC1_un_22 qC1_sz_3 vt (hlt := (by first | omega | (have := hr k (by omega); omega) | assumption)))
  refine z ?_ (h := fun ν => uI ν qC1_ti_3 (by first | omega | (have := hr k (by omega); omega) | assumption))
  refine za (za (nl (rg (zm (zm ?_)))))
  refine z ?_ (h := fun ν => acts_conv ν vt (r_conv (c := (gI l k)) qC1_un_3 qC1_un_51 (w_u64 (by first | omega | (have := hr k (by omega); omega) | assumption) (by first | omega | (have := hr k (by omega); omega) | assumption))))
  refine zm ?_
  refine z ?_ (h := fun ν => acts_bin ν vc vt (rM (by first | omega | (have := hr k (by omega); omega) | assumption) (by first | omega | (have := hr k (by omega); omega) | assumption)))
  refine z ?_ (h := fun ν => acts_bin ν vt vt (r_shl (c := (((((gI l k).toNat) <<< (8 * k)) : Nat) : Int)) (by first | omega | exact Int.natCast_nonneg _) (shlU (m := ((gI l k).toNat)) (n := (8 * k)) (Int.toNat_of_nonneg (by first | omega | (have := hr k (by omega); omega) | assumption)).symm (by first | rfl | omega) (by first | omega | assumption | exact Nat.lt_of_le_of_lt (shr_le _ _) (by first | omega | assumption | (first | omega | assumption | (have := hr k (by omega); exact shl_u (by omega) (by omega)))) | (first | omega | assumption | (have := hr k (by omega); exact shl_u (by omega) (by omega)))) (by first | omega | assumption | exact Nat.lt_of_le_of_lt (shr_le _ _) (by first | omega | assumption | (first | omega | assumption | (have := hr k (by omega); exact shl_u (by omega) (by omega)))) | (first | omega | assumption | (have := hr k (by omega); exact shl_u (by omega) (by omega)))))))
  refine z ?_ (h := fun ν => acts_bin ν vt vt (r_or (c := ((((rs l k) ||| (((gI l k).toNat) <<< (8 * k))) : Nat) : Int)) (orU (m := (rs l k)) (n := (((gI l k).toNat) <<< (8 * k))) rfl rfl (by first | omega | assumption | exact Nat.lt_of_le_of_lt (shr_le _ _) (by first | omega | assumption | (first | omega | assumption | (have := hr k (by omega); exact shl_u (by omega) (by omega)))) | (first | omega | assumption | (have := hr k (by omega); exact shl_u (by omega) (by omega)))) (by first | omega | assumption | exact Nat.lt_of_le_of_lt (shr_le _ _) (by first | omega | assumption | (first | omega | assumption | (have := hr k (by omega); exact shl_u (by omega) (by omega)))) | (first | omega | assumption | (have := hr k (by omega); exact shl_u (by omega) (by omega)))))))
  refine za (nl (rg ?_))
  refine z ?_ (h := fun ν => acts_bin ν vt vc (rA (by first | omega | (have := hr k (by omega); omega) | assumption) (by first | omega | (have := hr k (by omega); omega) | assumption)))
  refine zm (nl ?_)
  exact loop_back ((k + 1)) (by show _ ≤ _; omega) (by show l.length - (k + 1) < l.length - k; omega) (wkf id (wE (e := (vint (by first | rfl | omega | (simp; done) | (simp; omega)))) <| wS <| wS <| wE (e := (vint (by first | rfl | omega | (simp; done) | (simp; omega)))) <| wF <| wF <| wN))
 ·skip
  have c2P := of_decide_eq_false c2
  refine wp_exit' (sq (rg (zm (za (nl (wp_ret' ?_))))))
  exact VRes.tmp _ _ _ (by exact rfl) (bval (congrArg (Value.int .u64) (by (have e : k = l.length := by omega); subst e; rfl)))

set_option maxHeartbeats 4000000 in
set_option maxRecDepth 100000 in
theorem impl_RegionOk_fn (l : List Int) (hl : l.length ≤ 4194304) : Fn Try.prog 54 [.agg [(.slv l.length 1 (isl l) : A)]] [.val (.bool (regOk l))] := by
 refine fn_intro (N := 12) Try.func54 rfl (by kernel_rfl) rfl (Nat.le_of_ble_eq_true rfl) [1, 5, 10] (ret1 rfl) (fun W => ?_)
 show Wp _ _ _ [kV 0 (V.b (.agg [(.slv l.length 1 (isl l) : A)])), kF 1, kF 5, kF 10]
 refine sq (rg ?_)
 refine z ?_ (h := fun ν => acts_box (h := 1) ν xt (by exact ob1 rfl))
 refine zk (nl (sq ?_))
 rcases Bool.eq_false_or_eq_true (decide (((l.length : Nat) : Int) ≤ 8)) with c1 | c1
 ·skip
  have c1P := of_decide_eq_true c1
  refine rg ?_
  refine z ?_ (h := fun ν => acts_field (off' := 0) ν qC1_fo_28_0 rfl)
  refine z ?_ (h := fun ν => acts_load_own (x := .slv l.length 1 (isl l)) ν qC1_ti_22 (by exact rfl))
  refine z ?_ (h := fun ν => lnV ν qC1_un_22)
  refine z ?_ (h := fun ν => acts_bin ν vt vc (r_leq (c := true) c1))
  refine zm ?_
  refine zg ?_ (h := fun ν => step_on rfl rfl (acts_field (off' := 0) ν qC1_fo_28_0 rfl))
  refine zg ?_ (h := fun ν => step_on rfl rfl (acts_load_own (x := .slv l.length 1 (isl l)) ν qC1_ti_22 (by exact rfl)))
  refine zg ?_ (h := fun ν => step_on rfl rfl (acts_call1 ν (impl_allWithin_fn l 0 255 (by omega)) (ac (ArgV.slv _ _ _ _) (ac (ArgV.v vc) (ac (ArgV.v vc) an))) rv))
  refine z ?_ (h := fun ν => acts_pick_t ν vt xt)
  refine za (nl (wp_ret' ?_))
  exact VRes.tmp _ _ _ (by exact rfl) (bval (congrArg Value.bool (by first | (simp_all [regOk]; done) | (unfold regOk; simp_all; done) | (unfold regOk; simp_all; (try intros); omega))))
 ·skip
  have c1P := of_decide_eq_false c1
  refine rg ?_
  refine z ?_ (h := fun ν => acts_field (off' := 0) ν qC1_fo_28_0 rfl)
  refine z ?_ (h := fun ν => acts_load_own (x := .slv l.length 1 (isl l)) ν qC1_ti_22 (by exact rfl))
  refine z ?_ (h := fun ν => lnV ν qC1_un_22)
  refine z ?_ (h := fun ν => acts_bin ν vt vc (r_leq (c := false) c1))
  refine zm (zo (zo (zo ?_)))
  refine z ?_ (h := fun ν => acts_pick_f ν vt xc)
  refine za (nl (wp_ret' ?_))
  exact VRes.tmp _ _ _ (by exact rfl) (bval (congrArg Value.bool (by first | (simp_all [regOk]; done) | (unfold regOk; simp_all; done) | (unfold regOk; simp_all; (try intros); omega))))

set_option maxHeartbeats 4000000 in
set_option maxRecDepth 100000 in
theorem spec_RegionOk_fn (l : List Int) (hl : l.length ≤ 4194304) : Fn Try.prog 47 [.agg [(.slv l.length 1 (isl l) : A)]] [.val (.bool (regOk l))] := by
 refine fn_intro (N := 22) Try.func47 rfl (by kernel_rfl) rfl (Nat.le_of_ble_eq_true rfl) [1, 7, 16, 20] (ret1 rfl) (fun W => ?_)
 show Wp _ _ _ [kV 0 (V.b (.agg [(.slv l.length 1 (isl l) : A)])), kF 1, kF 7, kF 16, kF 20]
 refine sq (rg ?_)
 refine z ?_ (h := fun ν => acts_box (h := 1) ν xt (by exact ob1 rfl))
 refine zk (nl (sq (sq (rg (zk (nl (bkk ?_)))))))
 refine wp_loop' (fun (k : Nat) => k ≤ l.length ∧ allIn (l.take k) 0 255 = true) (fun (k : Nat) => [kP 1 1 0, kI 3 ((k : Nat) : Int), kO 1 28 1 true [(.slv l.length 1 (isl l) : A)], kF 7, kF 16, kF 20]) (fun (k : Nat) => l.length - k) ((0 : Nat)) (by exact ⟨Nat.zero_le _, rfl⟩) (wkf id (wS <| wE (e := (vint (by first | rfl | omega | (simp; done) | (simp; omega)))) <| wX <| wF <| wF <| wF <| wN)) ?_
 rintro k inv1
 replace inv1 : k ≤ l.length ∧ allIn (l.take k) 0 255 = true := inv1
 obtain ⟨inv1_0, inv1_1⟩ := inv1
 refine sq (sq (rg (zm ?_)))
 refine z ?_ (h := fun ν => acts_field (off' := 0) ν qC1_fo_28_0 rfl)
 refine z ?_ (h := fun ν => acts_load_own (x := .slv l.length 1 (isl l)) ν qC1_ti_22 (by exact rfl))
 refine z ?_ (h := fun ν => lnV ν qC1_un_22)
 refine z ?_ (h := fun ν => acts_bin ν vt vt (r_lss rfl))
 refine nl ?_
 refine wi (fun c2 => ?_) (fun c2 => ?_)
 ·skip
  have c2P := of_decide_eq_true c2
  refine sk (sq (bkk (sq (rg ?_))))
  refine z ?_ (h := fun ν => acts_field (off' := 0) ν qC1_fo_28_0 rfl)
  refine z ?_ (h := fun ν => acts_load_own (x := .slv l.length 1 (isl l)) ν qC1_ti_22 (by exact rfl))
  refine zm ?_
  refine z ?_ (h := fun ν => ixv ν qC1_un_22 qC1_sz_3 vt)
  refine z ?_ (h := fun ν => uI ν qC1_ti_3)
  refine z ?_ (h := fun ν => acts_call1 ν (spec_l01In_fn (gI l k) 0 255 ) (ac (ArgV.v vt) (ac (ArgV.v vc) (ac (ArgV.v vc) an))) rv)
  refine z ?_ (h := fun ν => acts_un ν vt (r_not rfl))
  refine nl ?_
  refine wi (b := (!(inB (gI l k) 0 255))) (fun c3 => ?_) (fun c3 => ?_)
  ·skip
   have c4 : (inB (gI l k) 0 255) = false := by first | (rw [← Bool.not_eq_true']; exact c3) | simpa using c3
   have c4Q := inB_false.1 c4
   refine sq (rg (zk (nl (wp_ret' ?_))))
   exact VRes.tmp _ _ _ (by exact rfl) (bval (congrArg Value.bool (by exact (regOk_spec (k := k) (by omega) (by assumption)).symm)))
  ·skip
   have c5 : (inB (gI l k) 0 255) = true := by first | (rw [← Bool.not_eq_false']; exact c3) | simpa using c3
   have c5Q := inB_true.1 c5
   refine sk (rg (zm ?_))
   refine z ?_ (h := fun ν => acts_bin ν vt vc rA)
   refine za (nl ?_)
   exact loop_back ((k + 1)) (by exact ⟨by omega, allIn_snoc (by omega) (by assumption) (by assumption)⟩) (by show l.length - (k + 1) < l.length - k; omega) (wkf id (wS <| wE (e := (vint (by first | rfl | omega | (simp; done) | (simp; omega)))) <| wX <| wF <| wF <| wF <| wN))
 ·skip
  have c2P := of_decide_eq_false c2
  refine wp_exit' (sq (rg ?_))
  refine z ?_ (h := fun ν => acts_field (off' := 0) ν qC1_fo_28_0 rfl)
  refine z ?_ (h := fun ν => acts_load_own (x := .slv l.length 1 (isl l)) ν qC1_ti_22 (by exact rfl))
  refine z ?_ (h := fun ν => lnV ν qC1_un_22)
  refine z ?_ (h := fun ν => acts_bin ν vt vc (r_leq rfl))
  refine za (nl (wp_ret' ?_))
  exact VRes.tmp _ _ _ (by exact rfl) (bval (congrArg Value.bool (by rw [regOk_spec2 (allIn_end (by omega) (by assumption))]; simp; omega)))

set_option maxHeartbeats 4000000 in
set_option maxRecDepth 100000 in
theorem spec_l03Has_fn (l : List Int) (c : Cel) (ho : regOk l = true) (hc : okc c.x c.y = true) : Fn Try.prog 69 [.agg [(.slv l.length 1 (isl l) : A)], .agg ([vI c.x, vI c.y].map A.val)] [.val (.bool (hasR l c))] := by
 obtain ⟨h8, hr⟩ := regOk_true ho
 have hq := okc_true.1 hc
 refine fn_intro (N := 24) Try.func69 rfl (by kernel_rfl) rfl (Nat.le_of_ble_eq_true rfl) [2, 3, 9] (ret1 rfl) (fun W => ?_)
 show Wp _ _ _ [kV 0 (V.b (.agg [(.slv l.length 1 (isl l) : A)])), kV 1 (V.av [vI c.x, vI c.y]), kF 2, kF 3, kF 9]
 refine sq (rg ?_)
 refine z ?_ (h := fun ν => acts_box (h := 2) ν xt (by exact ob1 rfl))
 refine z ?_ (h := fun ν => acts_box (h := 3) ν xt (by exact ob1 rfl))
 refine zk (nl (sq ?_))
 rcases Bool.eq_false_or_eq_true (decide (c.y < ((l.length : Nat) : Int))) with c1 | c1
 ·skip
  have c1P := of_decide_eq_true c1
  refine wp_dr ?_
  refine zd ?_ (h := fun ν => acts_field (off' := 1) ν qC1_fo_67_1 rfl)
  refine zd ?_ (h := fun ν => acts_load_own (x := .val (.int .i64 c.y)) ν qC1_ti_3 (by exact rfl))
  refine zd ?_ (h := fun ν => acts_field (off' := 0) ν qC1_fo_28_0 rfl)
  refine zd ?_ (h := fun ν => acts_load_own (x := .slv l.length 1 (isl l)) ν qC1_ti_22 (by exact rfl))
  refine zd ?_ (h := fun ν => lnV ν qC1_un_22)
  refine zd ?_ (h := fun ν => acts_bin ν vt vt (r_lss (c := true) c1))
  refine zdm ?_
  refine zdg ?_ (h := fun ν => step_on rfl rfl (acts_field (off' := 0) ν qC1_fo_28_0 rfl))
  refine zdg ?_ (h := fun ν => step_on rfl rfl (acts_load_own (x := .slv l.length 1 (isl l)) ν qC1_ti_22 (by exact rfl)))
  refine zdg ?_ (h := fun ν => step_on rfl rfl (acts_field (off' := 1) ν qC1_fo_67_1 rfl))
  refine zdg ?_ (h := fun ν => step_on rfl rfl (acts_load_own (x := .val (.int .i64 c.y)) ν qC1_ti_3 (by exact rfl)))
  refine zdg ?_ (h := fun ν => step_on rfl rfl (ixv (k := c.y.toNat) ν qC1_un_22 qC1_sz_3 vt (Int.toNat_of_nonneg (by first | omega | (have := hr c.y.toNat (by omega); omega))).symm (by first | omega | (have := hr c.y.toNat (by omega); omega))))
  refine zdg ?_ (h := fun ν => step_on rfl rfl (uI ν qC1_ti_3 (by first | omega | (have := hr c.y.toNat (by omega); omega))))
  refine zdg ?_ (h := fun ν => step_on rfl rfl (acts_field (off' := 0) ν qC1_fo_67_0 rfl))
  refine zdg ?_ (h := fun ν => step_on rfl rfl (acts_load_own (x := .val (.int .i64 c.x)) ν qC1_ti_3 (by exact rfl)))
  refine zdg ?_ (h := fun ν => step_on rfl rfl (acts_bin ν vt vt (r_shr (c := (((((gI l c.y.toNat).toNat) >>> c.x.toNat) : Nat) : Int)) (by first | omega | exact Int.natCast_nonneg _) (shrU (m := ((gI l c.y.toNat).toNat)) (n := c.x.toNat) (Int.toNat_of_nonneg (by first | omega | (have := hr c.y.toNat (by omega); omega))).symm (Int.toNat_of_nonneg (by first | omega | (have := hr c.y.toNat (by omega); omega))).symm (by first | omega | assumption | exact Nat.lt_of_le_of_lt (shr_le _ _) (by first | omega | assumption | (first | omega | (have := hr c.y.toNat (by omega); omega))) | (first | omega | (have := hr c.y.toNat (by omega); omega))) rfl))))
  refine zdg ?_ (h := fun ν => step_on rfl rfl (acts_bin ν vt vc (r_and (c := ((((((gI l c.y.toNat).toNat) >>> c.x.toNat) &&& 1) : Nat) : Int)) (andI (m := (((gI l c.y.toNat).toNat) >>> c.x.toNat)) (n := 1) rfl rfl (by first | omega | assumption | exact Nat.lt_of_le_of_lt (shr_le _ _) (by first | omega | assumption | (first | omega | (have := hr c.y.toNat (by omega); omega))) | (first | omega | (have := hr c.y.toNat (by omega); omega))) (by first | omega | assumption | exact Nat.lt_of_le_of_lt (shr_le _ _) (by first | omega | assumption | (first | omega | (have := hr c.y.toNat (by omega); omega))) | (first | omega | (have := hr c.y.toNat (by omega); omega)))))))
  refine zdg ?_ (h := fun ν => step_on rfl rfl (acts_bin ν vt vc (r_eql (c := (((gI l c.y.toNat).toNat).testBit c.x.toNat)) (bit_one _ _))))
  refine zd ?_ (h := fun ν => acts_pick_t ν vt xt)
  refine zd ?_ (h := fun ν => gt ν)
  refine dw_nil (wp_ret' ?_)
  exact VRes.tmp _ _ _ (by exact rfl) (bval (congrArg Value.bool (by first | (simp_all [hasR]; done) | (unfold hasR; simp_all; done) | (unfold hasR; simp_all; (try intros); omega))))
 ·skip
  have c1P := of_decide_eq_false c1
  refine wp_dr ?_
  refine zd ?_ (h := fun ν => acts_field (off' := 1) ν qC1_fo_67_1 rfl)
  refine zd ?_ (h := fun ν => acts_load_own (x := .val (.int .i64 c.y)) ν qC1_ti_3 (by exact rfl))
  refine zd ?_ (h := fun ν => acts_field (off' := 0) ν qC1_fo_28_0 rfl)
  refine zd ?_ (h := fun ν => acts_load_own (x := .slv l.length 1 (isl l)) ν qC1_ti_22 (by exact rfl))
  refine zd ?_ (h := fun ν => lnV ν qC1_un_22)
  refine zd ?_ (h := fun ν => acts_bin ν vt vt (r_lss (c := false) c1))
  refine zdm ?_
  refine zdg ?_ (h := fun ν => step_off rfl rfl (by decide) rfl ν)
  refine zdg ?_ (h := fun ν => step_off rfl rfl (by decide) rfl ν)
  refine zdg ?_ (h := fun ν => step_off rfl rfl (by decide) rfl ν)
  refine zdg ?_ (h := fun ν => step_off rfl rfl (by decide) rfl ν)
  refine zdg ?_ (h := fun ν => step_off rfl rfl (by decide) rfl ν)
  refine zdg ?_ (h := fun ν => step_off rfl rfl (by decide) rfl ν)
  refine zdg ?_ (h := fun ν => step_off rfl rfl (by decide) rfl ν)
  refine zdg ?_ (h := fun ν => step_off rfl rfl (by decide) rfl ν)
  refine zdg ?_ (h := fun ν => step_off rfl rfl (by decide) rfl ν)
  refine zdg ?_ (h := fun ν => step_off rfl rfl (by decide) rfl ν)
  refine zdg ?_ (h := fun ν => step_off rfl rfl (by decide) rfl ν)
  refine zd ?_ (h := fun ν => acts_pick_f ν vt xc)
  refine zd ?_ (h := fun ν => gt ν)
  refine dw_nil (wp_ret' ?_)
  exact VRes.tmp _ _ _ (by exact rfl) (bval (congrArg Value.bool (by first | (simp_all [hasR]; done) | (unfold hasR; simp_all; done) | (unfold hasR; simp_all; (try intros); omega))))

set_option maxHeartbeats 4000000 in
set_option maxRecDepth 100000 in
theorem spec_HasCell_fn (l : List Int) (c : Cel) (hl : l.length ≤ 4194304) : Fn Try.prog 52 [.agg [(.slv l.length 1 (isl l) : A)], .agg ([vI c.x, vI c.y].map A.val)] [.val (.bool (hasC l c))] := by
 refine fn_intro (N := 16) Try.func52 rfl (by kernel_rfl) rfl (Nat.le_of_ble_eq_true rfl) [2, 3, 6, 9, 14] (ret1 rfl) (fun W => ?_)
 show Wp _ _ _ [kV 0 (V.b (.agg [(.slv l.length 1 (isl l) : A)])), kV 1 (V.av [vI c.x, vI c.y]), kF 2, kF 3, kF 6, kF 9, kF 14]
 refine sq (rg ?_)
 refine z ?_ (h := fun ν => acts_box (h := 2) ν xt (by exact ob1 rfl))
 refine z ?_ (h := fun ν => acts_box (h := 3) ν xt (by exact ob1 rfl))
 refine zk (nl (sq ?_))
 rcases Bool.eq_false_or_eq_true ((regOk l)) with c1 | c1
 ·skip
  rcases Bool.eq_false_or_eq_true ((okc c.x c.y)) with c2 | c2
  ·skip
   have c2Q := okc_true.1 c2
   refine rg ?_
   refine z ?_ (h := fun ν => acts_load_owns (xs := [(.slv l.length 1 (isl l) : A)]) ν qC1_ti_28 rfl (by decide) rfl)
   refine z ?_ (h := fun ν => acts_call1 ν (spec_RegionOk_fn l (by first | omega | assumption)) (ac (ArgV.regv _ _ 1 _) an) (resval (congrArg Value.bool c1)))
   refine zm ?_
   refine zg ?_ (h := fun ν => step_on rfl rfl (acts_load_owns (xs := [vI c.x, vI c.y].map A.val) ν qC1_ti_67 rfl (by decide) rfl))
   refine zg ?_ (h := fun ν => step_on rfl rfl (acts_call1 ν (spec_CellOk_fn c ) (ac (ArgV.va va) an) (resval (congrArg Value.bool c2))))
   refine z ?_ (h := fun ν => acts_pick_t ν vt xt)
   refine zm ?_
   refine zg ?_ (h := fun ν => step_on rfl rfl (acts_load_owns (xs := [(.slv l.length 1 (isl l) : A)]) ν qC1_ti_28 rfl (by decide) rfl))
   refine zg ?_ (h := fun ν => step_on rfl rfl (acts_load_owns (xs := [vI c.x, vI c.y].map A.val) ν qC1_ti_67 rfl (by decide) rfl))
   refine zg ?_ (h := fun ν => step_on rfl rfl (acts_call1 ν (spec_l03Has_fn l c (by first | omega | assumption) (by first | omega | assumption)) (ac (ArgV.regv _ _ 1 _) (ac (ArgV.va va) an)) rv))
   refine z ?_ (h := fun ν => acts_pick_t ν vt xt)
   refine za (nl (wp_ret' ?_))
   exact VRes.tmp _ _ _ (by exact rfl) (bval (congrArg Value.bool (by first | exact hasC_spec (by assumption) (by assumption) | (simp_all [hasC]; done))))
  ·skip
   have c2Q := okc_false.1 c2
   refine rg ?_
   refine z ?_ (h := fun ν => acts_load_owns (xs := [(.slv l.length 1 (isl l) : A)]) ν qC1_ti_28 rfl (by decide) rfl)
   refine z ?_ (h := fun ν => acts_call1 ν (spec_RegionOk_fn l (by first | omega | assumption)) (ac (ArgV.regv _ _ 1 _) an) (resval (congrArg Value.bool c1)))
   refine zm ?_
   refine zg ?_ (h := fun ν => step_on rfl rfl (acts_load_owns (xs := [vI c.x, vI c.y].map A.val) ν qC1_ti_67 rfl (by decide) rfl))
   refine zg ?_ (h := fun ν => step_on rfl rfl (acts_call1 ν (spec_CellOk_fn c ) (ac (ArgV.va va) an) (resval (congrArg Value.bool c2))))
   refine z ?_ (h := fun ν => acts_pick_t ν vt xt)
   refine zm (zo (zo (zo ?_)))
   refine z ?_ (h := fun ν => acts_pick_f ν vt xc)
   refine za (nl (wp_ret' ?_))
   exact VRes.tmp _ _ _ (by exact rfl) (bval (congrArg Value.bool (by first | exact hasC_spec (by assumption) (by assumption) | (simp_all [hasC]; done))))
 ·skip
  refine rg ?_
  refine z ?_ (h := fun ν => acts_load_owns (xs := [(.slv l.length 1 (isl l) : A)]) ν qC1_ti_28 rfl (by decide) rfl)
  refine z ?_ (h := fun ν => acts_call1 ν (spec_RegionOk_fn l (by first | omega | assumption)) (ac (ArgV.regv _ _ 1 _) an) (resval (congrArg Value.bool c1)))
  refine zm (zo (zo ?_))
  refine z ?_ (h := fun ν => acts_pick_f ν vt xc)
  refine zm (zo (zo (zo ?_)))
  refine z ?_ (h := fun ν => acts_pick_f ν vt xc)
  refine za (nl (wp_ret' ?_))
  exact VRes.tmp _ _ _ (by exact rfl) (bval (congrArg Value.bool (by first | exact hasC_spec (by assumption) (by assumption) | (simp_all [hasC]; done))))

set_option maxHeartbeats 4000000 in
set_option maxRecDepth 100000 in
theorem spec_CellsOf_fn (l : List Int) (hl : l.length ≤ 4194304) : Fn Try.prog 71 [.agg [(.slv l.length 1 (isl l) : A)]] [.row 67 2 (cellsOf l).length (csl (cellsOf l))] := by
 refine fn_intro (N := 29) Try.func71 rfl (by kernel_rfl) rfl (Nat.le_of_ble_eq_true rfl) [1, 5, 7, 12, 18, 23, 26, 27] (ret1 rfl) (fun W => ?_)
 show Wp _ _ _ [kV 0 (V.b (.agg [(.slv l.length 1 (isl l) : A)])), kF 1, kF 5, kF 7, kF 12, kF 18, kF 23, kF 26, kF 27]
 refine sq (rg ?_)
 refine z ?_ (h := fun ν => acts_box (h := 1) ν xt (by exact ob1 rfl))
 refine zk (nl (sq (rg ?_)))
 refine z ?_ (h := fun ν => b0C (h := 7) ν qC1_un_64 qC1_zi_67)
 refine za (nl (sq (sq (rg (zk (nl (bkk ?_)))))))
 refine wp_loop' (fun (k : Nat) => k ≤ 64 ∧ (k = 0 ∨ regOk l = true)) (fun (k : Nat) => [kP 1 1 0, kS 3 7 0 ((((List.range k).filter (fun i => hasR l (cN i))).map cN).length), kI 4 ((k : Nat) : Int), kO 1 28 1 true [(.slv l.length 1 (isl l) : A)], kO 7 67 2 true (pl (csl (((List.range k).filter (fun i => hasR l (cN i))).map cN))), kF 5, kF 12, kF 18, kF 23, kF 26, kF 27]) (fun (k : Nat) => 64 - k) ((0 : Nat)) (by exact ⟨by omega, .inl rfl⟩) (wkf id (wS <| wE (e := (vsl (by first | rfl | (simp; done) | (simp; omega) | omega | (exact congrArg List.length (by first | rfl | exact range_yes (p := fun i => hasR l (cN i)) (by assumption) | exact range_no (p := fun i => hasR l (cN i)) (by assumption) | omega))) rfl)) <| wE (e := (vint (by first | rfl | exact range_yes (p := fun i => hasR l (cN i)) (by assumption) | exact range_no (p := fun i => hasR l (cN i)) (by assumption) | omega))) <| wX <| wO (e := renob_eq (fun h => h) (congrArg csl (by first | rfl | exact range_yes (p := fun i => hasR l (cN i)) (by assumption) | exact range_no (p := fun i => hasR l (cN i)) (by assumption) | omega))) <| wF <| wF <| wF <| wF <| wF <| wF <| wN)) ?_
 rintro k inv1
 replace inv1 : k ≤ 64 ∧ (k = 0 ∨ regOk l = true) := inv1
 obtain ⟨inv1_0, inv1_1⟩ := inv1
 have hfl := range_len (fun i => hasR l (cN i)) k
 refine sq (sq ?_)
 rcases Bool.eq_false_or_eq_true (decide (((k : Nat) : Int) < 64)) with c2 | c2
 ·skip
  have c2P := of_decide_eq_true c2
  refine rg (zm ?_)
  refine z ?_ (h := fun ν => acts_bin ν vt vc (r_lss (c := true) c2))
  refine zm ?_
  refine zg ?_ (h := fun ν => step_on rfl rfl (acts_load_owns (xs := [(.slv l.length 1 (isl l) : A)]) ν qC1_ti_28 rfl (by decide) rfl))
  refine zg ?_ (h := fun ν => step_on rfl rfl (acts_call1 ν (spec_RegionOk_fn l (by first | omega | assumption | exact cN_ok (by omega))) (ac (ArgV.regv _ _ 1 _) an) rv))
  refine z ?_ (h := fun ν => acts_pick_t ν vt xt)
  refine nl ?_
  refine wi (b := (regOk l)) (fun c3 => ?_) (fun c3 => ?_)
  ·skip
   refine sk (sq (bkk (sq (rg (zm ?_)))))
   refine z ?_ (h := fun ν => acts_call2 ν (spec_CellAt_fn k (by first | omega | assumption | exact cN_ok (by omega))) (ac (ArgV.v vt) an) (ResV.agg [vI ((cN k).x), vI ((cN k).y)]) rv)
   refine zm ?_
   refine z ?_ (h := fun ν => acts_extract ν (by exact rfl))
   refine z ?_ (h := fun ν => acts_extract ν (by exact rfl))
   refine z ?_ (h := fun ν => acts_alloc' (h := 5) (cap := 1) (s := 2) (cells := [aI 0, aI 0]) ν qC1_zi_67 rfl rfl (by decide))
   refine z ?_ (h := fun _ => acts_store (cells := [aI ((cN k).x), aI ((cN k).y)]) qC1_ti_67 xt (by exact rfl) (by decide) (by exact ob1 rfl) (by exact Nat.le_of_ble_eq_true rfl) (by exact rfl))
   refine za (nl (sq (rg ?_)))
   refine z ?_ (h := fun ν => acts_load_owns (xs := [(.slv l.length 1 (isl l) : A)]) ν qC1_ti_28 rfl (by decide) rfl)
   refine z ?_ (h := fun ν => acts_load_owns (xs := [vI ((cN k).x), vI ((cN k).y)].map A.val) ν qC1_ti_67 rfl (by decide) rfl)
   refine z ?_ (h := fun ν => acts_call1 ν (spec_l03Has_fn l (cN k) (by first | omega | assumption | exact cN_ok (by omega)) (by first | omega | assumption | exact cN_ok (by omega))) (ac (ArgV.regv _ _ 1 _) (ac (ArgV.va va) an)) rv)
   refine nl ?_
   refine wi (b := (hasR l (cN k))) (fun c4 => ?_) (fun c4 => ?_)
   ·skip
    refine rg (zm ?_)
    refine z ?_ (h := fun ν => acts_load_owns (xs := [vI ((cN k).x), vI ((cN k).y)].map A.val) ν qC1_ti_67 rfl (by decide) rfl)
    refine z ?_ (h := fun ν => acts_buildSlice' (h := 26) (xs := csl ([(cN k)] : List Cel)) ν qC1_un_64 qC1_zi_67 (.cons va OpVs.nil) (by decide) (by decide) (by kernel_rfl) rfl)
    refine z ?_ (h := fun ν => aC_ (h2 := 27) (L3 := ((((List.range k).filter (fun i => hasR l (cN i))).map cN) ++ [(cN k)])) ν qC1_un_64 qC1_zi_67 (by first | exact rfl | (simp; done) | (simp; omega) | omega) rfl (by first | exact rfl | (simp; done) | (simp; omega) | omega) (by first | omega | (simp; omega) | (simp at *; omega)))
    refine za (nl (rg (zm ?_)))
    refine z ?_ (h := fun ν => acts_bin ν vt vc (rA (by first | omega | assumption | exact cN_ok (by omega)) (by first | omega | assumption | exact cN_ok (by omega))))
    refine za (nl ?_)
    exact loop_back ((k + 1)) (by exact ⟨by omega, .inr (by assumption)⟩) (by show 64 - (k + 1) < 64 - k; omega) (wkf (subst1 [(7, 27)]) (wS <| wE (e := (vsl (by first | rfl | (simp; done) | (simp; omega) | omega | (exact congrArg List.length (by first | rfl | exact range_yes (p := fun i => hasR l (cN i)) (by assumption) | exact range_no (p := fun i => hasR l (cN i)) (by assumption) | omega))) rfl)) <| wE (e := (vint (by first | rfl | exact range_yes (p := fun i => hasR l (cN i)) (by assumption) | exact range_no (p := fun i => hasR l (cN i)) (by assumption) | omega))) <| wX <| wO (e := renob_eq (fun h => h) (congrArg csl (by first | rfl | exact range_yes (p := fun i => hasR l (cN i)) (by assumption) | exact range_no (p := fun i => hasR l (cN i)) (by assumption) | omega))) <| wF <| wF <| wF <| wF <| wF <| wF <| wN))
   ·skip
    refine sk (rg (zm ?_))
    refine z ?_ (h := fun ν => acts_bin ν vt vc (rA (by first | omega | assumption | exact cN_ok (by omega)) (by first | omega | assumption | exact cN_ok (by omega))))
    refine za (nl ?_)
    exact loop_back ((k + 1)) (by exact ⟨by omega, .inr (by assumption)⟩) (by show 64 - (k + 1) < 64 - k; omega) (wkf id (wS <| wE (e := (vsl (by first | rfl | (simp; done) | (simp; omega) | omega | (exact congrArg List.length (by first | rfl | exact range_yes (p := fun i => hasR l (cN i)) (by assumption) | exact range_no (p := fun i => hasR l (cN i)) (by assumption) | omega))) rfl)) <| wE (e := (vint (by first | rfl | exact range_yes (p := fun i => hasR l (cN i)) (by assumption) | exact range_no (p := fun i => hasR l (cN i)) (by assumption) | omega))) <| wX <| wO (e := renob_eq (fun h => h) (congrArg csl (by first | rfl | exact range_yes (p := fun i => hasR l (cN i)) (by assumption) | exact range_no (p := fun i => hasR l (cN i)) (by assumption) | omega))) <| wF <| wF <| wF <| wF <| wF <| wF <| wN))
  ·skip
   refine wp_exit' (sq (rg (zm (za (nl (wp_ret' ?_))))))
   exact VRes.tmp _ _ _ (by exact rfl) (brow_cels (h := 7) (L := (((List.range k).filter (fun i => hasR l (cN i))).map cN)) (by kernel_rfl) (by (have e : k = 0 := by simp_all); subst e; unfold cellsOf; simp_all) (by first | rfl | (simp; done) | (simp; omega)))
 ·skip
  have c2P := of_decide_eq_false c2
  refine rg (zm ?_)
  refine z ?_ (h := fun ν => acts_bin ν vt vc (r_lss (c := false) c2))
  refine zm (zo (zo ?_))
  refine z ?_ (h := fun ν => acts_pick_f ν vt xc)
  refine nl (wf (wp_exit' (sq (rg (zm (za (nl (wp_ret' ?_))))))))
  exact VRes.tmp _ _ _ (by exact rfl) (brow_cels (h := 7) (L := (((List.range k).filter (fun i => hasR l (cN i))).map cN)) (by kernel_rfl) (by (have e : k = 64 := by omega); subst e; exact cellsOf_scan (by simp_all)) (by first | rfl | (simp; done) | (simp; omega)))
end Cl
end Go.Proofs.Ytgmckbchcpfhcaa


/- The law's own helpers over []int: toIntS, eqIntS, szIntS, markIntS, heldIntS, each by a contract. -/
namespace Go.Proofs.Ytgmckbchcpfhcaa
open Go.ChangeShapes Go.WideShapes Go.ChangeAt Go.RowKit

end Go.Proofs.Ytgmckbchcpfhcaa


/- The law's own helpers over cells: toCell, toCellS, eqCell, eqCellS, szCellS, markCellS, heldCellS, each by a contract. -/
namespace Go.Proofs.Ytgmckbchcpfhcaa
open Go.ChangeShapes Go.WideShapes Go.ChangeAt Go.RowKit

def cEq (x y x' y' : Int) : Bool := decide (x = x' ∧ y = y')
theorem cEq_cel (a b : Cel) : cEq a.x a.y b.x b.y = decide (a = b) := by
  unfold cEq; cases a; cases b; simp
theorem run_eql_cel (x y x' y' : Int) (w : World) :
    (binOp .eql 67 (.agg #[.int .i64 x, .int .i64 y]) (.agg #[.int .i64 x', .int .i64 y'])).run Try.prog w = .ok (.bool (cEq x y x' y')) w := by
  have h1 := Try.underlying67
  simp only [binOp]
  simp [Op.equal, Op.maxDepth, go_sem, h1]
  unfold cEq
  by_cases e1 : x = x' <;> by_cases e2 : y = y' <;> simp [e1, e2]
theorem info_cel : (Try.prog.info? 67).map (fun i => (i.zero, i.size, i.bytes)) = some (some (.agg #[.int .i64 0, .int .i64 0]), 2, 16) := by kernel_rfl
end Go.Proofs.Ytgmckbchcpfhcaa

namespace Go.Proofs.Ytgmckbchcpfhcaa
namespace Cl
open Go.ChangeShapes Go.WideShapes Go.ChangeAt Go.RowKit
set_option maxRecDepth 20000

theorem idx_inj {a b : Cel} (ha : okc a.x a.y = true) (hb : okc b.x b.y = true) (h : idx a = idx b) : a = b := by
  rw [← cN_idx ha, ← cN_idx hb, h]
theorem filter_setCells (s : Nat) (p : Cel → Bool) : (setCells s).filter p = ((List.range 64).filter (fun i => s.testBit i && p (cN i))).map cN := by
  unfold setCells
  rw [List.filter_map, List.filter_filter]
  congr 1
  exact List.filter_congr fun k _ => by simp [Bool.and_comm]
theorem count_add (s : Nat) (j : Nat) (n : Nat) : ((List.range n).filter (s ||| 2 ^ j).testBit).length = ((List.range n).filter s.testBit).length + (if s.testBit j = false ∧ j < n then 1 else 0) := by
  induction n with
  | zero => simp
  | succ n ih =>
    rw [List.range_succ, List.filter_append, List.filter_append, List.length_append, List.length_append, ih]
    have hb : (s ||| 2 ^ j).testBit n = (s.testBit n || decide (j = n)) := by rw [Nat.testBit_or, Nat.testBit_two_pow]
    by_cases hj : j = n
    · subst hj
      rw [List.filter_cons, List.filter_cons, hb]; simp only [decide_true, Bool.or_true, if_true, List.filter_nil]
      cases h : s.testBit j <;> simp
    · have h1 : (j < n + 1) = (j < n) := by rw [eq_iff_iff]; omega
      cases h : s.testBit n <;> simp [hb, h, hj, h1] <;> omega
end Cl
end Go.Proofs.Ytgmckbchcpfhcaa

namespace Go.Proofs.Ytgmckbchcpfhcaa
namespace Cl
open Go.ChangeShapes Go.WideShapes Go.ChangeAt Go.RowKit
set_option maxRecDepth 20000

def ca (d : Dom) : Cel := ⟨d.x, d.y⟩
def cb (d : Dom) : Cel := ⟨if d.d then d.x else d.x + 1, if d.d then d.y + 1 else d.y⟩
def okD (d : Dom) : Bool := okd d.x d.y d.d
theorem okD_bd {d : Dom} (h : okD d = true) : (0 ≤ d.x ∧ d.x ≤ 7) ∧ (0 ≤ d.y ∧ d.y ≤ 7) ∧ (d.d = false → d.x ≤ 6) ∧ (d.d = true → d.y ≤ 6) := by
  have := okd_true.1 h
  cases e : d.d <;> simp [e] at this ⊢ <;> omega
theorem okD_iff (d : Dom) : okD d = (okc (ca d).x (ca d).y && okc (cb d).x (cb d).y) := by
  unfold okD okd ca cb; cases d.d <;> simp
theorem ok_ca {d : Dom} (h : okD d = true) : okc (ca d).x (ca d).y = true := by rw [okD_iff] at h; simp only [Bool.and_eq_true] at h; exact h.1
theorem ok_cb {d : Dom} (h : okD d = true) : okc (cb d).x (cb d).y = true := by rw [okD_iff] at h; simp only [Bool.and_eq_true] at h; exact h.2
theorem ca_ne_cb (d : Dom) : ca d ≠ cb d := by
  unfold ca cb; intro h; simp only [Cel.mk.injEq] at h
  cases e : d.d <;> simp [e] at h <;> omega
def domS (d : Dom) : Nat := addC (addC 0 (ca d)) (cb d)
theorem domS_lt {d : Dom} (h : okD d = true) : domS d < 18446744073709551616 := addC_lt (addC_lt (by decide) (ok_ca h)) (ok_cb h)
theorem domS_bit (d : Dom) (i : Nat) : (domS d).testBit i = (decide (idx (ca d) = i) || decide (idx (cb d) = i)) := by
  unfold domS; rw [addC_bit, addC_bit]; simp
def ord (d : Dom) : Nat := 2 * idx (ca d) + (if d.d then 1 else 0)
theorem ord_val {d : Dom} (h : okD d = true) : ((ord d : Nat) : Int) = 2 * (d.y * 8 + d.x) + (if d.d then 1 else 0) := by
  have := okD_bd h; unfold ord idx ca; cases e : d.d <;> simp [e] <;> omega
theorem ord_inj {d e : Dom} (hd : okD d = true) (he : okD e = true) (h : ord d = ord e) : d = e := by
  unfold ord at h
  have h1 : idx (ca d) = idx (ca e) ∧ d.d = e.d := by
    cases d1 : d.d <;> cases e1 : e.d <;> simp [d1, e1] at h ⊢ <;> omega
  have h2 := idx_inj (ok_ca hd) (ok_ca he) h1.1
  unfold ca at h2; simp only [Cel.mk.injEq] at h2
  cases d; cases e; simp_all
/-- the cells under the valid dominoes of a list -/
def cov1 (s : Nat) (d : Dom) : Nat := if okD d then s ||| domS d else s
def covS (ds : List Dom) : Nat := ds.foldl cov1 0
theorem gD_mem {l : List Dom} {k : Nat} (h : k < l.length) : gD l k ∈ l := by rw [gD_eq h]; exact List.getElem_mem h
def cvr (c : Cel) (d : Dom) : Bool := okD d && (decide (ca d = c) || decide (cb d = c))
theorem foldl_cov1_bit (ds : List Dom) {c : Cel} (hc : okc c.x c.y = true) : ∀ s, (ds.foldl cov1 s).testBit (idx c) = (s.testBit (idx c) || ds.any (cvr c)) := by
  induction ds with
  | nil => intro s; simp
  | cons d ds ih =>
    intro s
    rw [List.foldl_cons, ih, List.any_cons, ← Bool.or_assoc]
    congr 1
    unfold cov1 cvr
    by_cases ho : okD d = true
    · rw [if_pos ho, ho, Nat.testBit_or, domS_bit]
      have e1 : decide (idx (ca d) = idx c) = decide (ca d = c) := by
        rw [decide_eq_decide]; exact ⟨idx_inj (ok_ca ho) hc, fun h => by rw [h]⟩
      have e2 : decide (idx (cb d) = idx c) = decide (cb d = c) := by
        rw [decide_eq_decide]; exact ⟨idx_inj (ok_cb ho) hc, fun h => by rw [h]⟩
      rw [e1, e2]; simp
    · simp only [Bool.not_eq_true] at ho; rw [ho]; simp
theorem covS_bit (ds : List Dom) {c : Cel} (hc : okc c.x c.y = true) : (covS ds).testBit (idx c) = ds.any (cvr c) := by
  unfold covS; rw [foldl_cov1_bit ds hc]; simp
theorem andn_or (a b c : Nat) : andn (andn a b) c = andn a (b ||| c) := by
  refine Nat.eq_of_testBit_eq fun i => ?_
  rw [andn_bit, andn_bit, andn_bit, Nat.testBit_or]
  cases a.testBit i <;> cases b.testBit i <;> cases c.testBit i <;> rfl
theorem andn_cov0 (s : Nat) (ds : List Dom) : andn s (covS (ds.take 0)) = s := by simp [andn, covS]
def fits (s c : Nat) (d : Dom) : Bool := decide (andn s c &&& domS d = domS d)
theorem fits_iff (s c : Nat) (d : Dom) : fits s c d = ((s.testBit (idx (ca d)) && !c.testBit (idx (ca d))) && (s.testBit (idx (cb d)) && !c.testBit (idx (cb d)))) := by
  unfold fits
  rw [Bool.eq_iff_iff, decide_eq_true_eq]
  constructor
  · intro h
    have h1 := congrArg (fun n => n.testBit (idx (ca d))) h
    have h2 := congrArg (fun n => n.testBit (idx (cb d))) h
    simp only [Nat.testBit_and, andn_bit, domS_bit, decide_true, Bool.true_or, Bool.or_true, Bool.and_true] at h1 h2
    rw [h1, h2]; rfl
  · intro h
    simp only [Bool.and_eq_true] at h
    refine Nat.eq_of_testBit_eq fun i => ?_
    rw [Nat.testBit_and, andn_bit, domS_bit]
    by_cases e1 : idx (ca d) = i
    · subst e1; simp [h.1.1, h.1.2]
    · by_cases e2 : idx (cb d) = i
      · subst e2; simp [h.2.1, h.2.2]
      · simp [e1, e2]
theorem addC_two (s : Nat) (d : Dom) : addC (addC s (ca d)) (cb d) = s ||| domS d := by
  refine Nat.eq_of_testBit_eq fun i => ?_
  rw [addC_bit, addC_bit, Nat.testBit_or, domS_bit, Bool.or_assoc]
def popc (s : Nat) : Nat := ((List.range 64).filter s.testBit).length
theorem popc_add {s : Nat} {c : Cel} (hc : okc c.x c.y = true) (h : s.testBit (idx c) = false) : popc (addC s c) = popc s + 1 := by
  unfold popc addC; rw [count_add, if_pos ⟨h, idx_lt hc⟩]
theorem popc_dom {s : Nat} {d : Dom} (ho : okD d = true) (h1 : s.testBit (idx (ca d)) = false) (h2 : s.testBit (idx (cb d)) = false) : popc (s ||| domS d) = popc s + 2 := by
  rw [← addC_two, popc_add (ok_cb ho), popc_add (ok_ca ho) h1]
  rw [addC_bit, h2]
  have : idx (ca d) ≠ idx (cb d) := fun h => ca_ne_cb d (idx_inj (ok_ca ho) (ok_cb ho) h)
  simp [this]
def atD (ds : List Dom) (c : Cel) : Int := if ds.any (cvr c) then (ds.findIdx (cvr c) : Int) else -1
theorem any_snocD {p : Dom → Bool} {l : List Dom} {k : Nat} (h : k < l.length) (h1 : (l.take k).any p = false) (h2 : p (gD l k) = false) : (l.take (k+1)).any p = false := by
  rw [List.take_succ_eq_append_getElem h, List.any_append, h1, ← gD_eq h]; simp [h2]
theorem atD_yes {ds : List Dom} {c : Cel} {k : Nat} (hk : k < ds.length) (h1 : (ds.take k).any (cvr c) = false) (h2 : cvr c (gD ds k) = true) : (k : Int) = atD ds c := by
  unfold atD
  rw [if_pos (List.any_eq_true.2 ⟨_, gD_mem hk, h2⟩)]
  have : ds.findIdx (cvr c) = k := by
    rw [List.findIdx_eq hk]
    refine ⟨by rw [← gD_eq hk]; exact h2, fun j hj => ?_⟩
    rw [List.any_eq_false] at h1
    have := h1 (ds[j]'(by omega)) (List.mem_take_iff_getElem.2 ⟨j, by omega, rfl⟩)
    simpa using this
  rw [this]
theorem atD_no {ds : List Dom} {c : Cel} {k : Nat} (hk : ¬ (k : Int) < (ds.length : Int)) (h1 : (ds.take k).any (cvr c) = false) : (-1 : Int) = atD ds c := by
  rw [List.take_of_length_le (by omega)] at h1
  unfold atD; rw [h1]; rfl
theorem atD_neg (ds : List Dom) (c : Cel) : decide (atD ds c < 0) = !(ds.any (cvr c)) := by
  unfold atD; cases ds.any (cvr c) <;> simp
theorem atD_t {ds : List Dom} {c : Cel} (h : decide (atD ds c < 0) = true) : (!(ds.any (cvr c))) = true := by rwa [atD_neg] at h
theorem atD_f {ds : List Dom} {c : Cel} (h : decide (atD ds c < 0) = false) : (!(ds.any (cvr c))) = false := by rwa [atD_neg] at h
def unc (l : List Int) (ds : List Dom) : List Cel := (cellsOf l).filter (fun c => !(ds.any (cvr c)))
theorem unc_len (l : List Int) (ds : List Dom) : (unc l ds).length ≤ 64 := Nat.le_trans (List.length_filter_le _ _) (cellsOf_len l)
theorem unc_set {l : List Int} (ds : List Dom) (h : regOk l = true) : setCells (andn (regSet l) (covS ds)) = unc l ds := by
  unfold unc cellsOf; rw [h, if_pos rfl, filter_setCells]
  unfold setCells
  congr 1
  refine List.filter_congr fun k hk => ?_
  rw [andn_bit]
  have hk : k < 64 := by simpa using hk
  have := covS_bit ds (cN_ok hk)
  rw [idx_cN hk] at this; rw [this]
def lft (l : List Int) (ds : List Dom) : Nat := andn (regSet l) (covS ds)
def prB (L : List Cel) (k : Nat) : Bool := (List.range k).any (fun i => nbr (gC L i) (gC L k))
def pairs (L : List Cel) : Bool := (List.range L.length).any (prB L)
theorem set_mem {s : Nat} {c : Cel} : c ∈ setCells s ↔ hasS s c = true := by
  unfold setCells hasS
  rw [List.mem_map]
  constructor
  · rintro ⟨k, hk, rfl⟩
    have h := List.mem_filter.1 hk
    have hlt : k < 64 := by simpa using h.1
    rw [cN_ok hlt, idx_cN hlt]; exact h.2
  · intro h; simp only [Bool.and_eq_true] at h
    exact ⟨idx c, List.mem_filter.2 ⟨by simpa using idx_lt h.1, h.2⟩, cN_idx h.1⟩
theorem setCells_lt {s i j : Nat} (hij : i < j) (hj : j < (setCells s).length) : idx (gC (setCells s) i) < idx (gC (setCells s) j) := by
  have hp : (setCells s).Pairwise (fun a b => idx a < idx b) := by
    unfold setCells
    rw [List.pairwise_map]
    have h0 : ((List.range 64).filter s.testBit).Pairwise (· < ·) := List.Pairwise.filter _ List.pairwise_lt_range
    refine h0.imp_of_mem ?_
    intro a b ha hb h
    have ha : a < 64 := by have := (List.mem_filter.1 ha).1; simpa using this
    have hb : b < 64 := by have := (List.mem_filter.1 hb).1; simpa using this
    rw [idx_cN ha, idx_cN hb]; exact h
  rw [gC_eq hj, gC_eq (by omega)]
  exact List.pairwise_iff_getElem.1 hp i j (by omega) hj hij
theorem hasS_ok {s : Nat} {c : Cel} (h : hasS s c = true) : okc c.x c.y = true := by unfold hasS at h; simp only [Bool.and_eq_true] at h; exact h.1
theorem gI_set {l : List Int} {i k : Nat} {v : Int} (h : k < l.length) : gI (l.set i v) k = if i = k then v else gI l k := by
  rw [gI_eq (by simpa using h), gI_eq h, List.getElem_set]
theorem popc_le (s : Nat) : popc s ≤ 64 := by
  unfold popc; exact Nat.le_trans (List.length_filter_le _ _) (by simp)
end Cl
end Go.Proofs.Ytgmckbchcpfhcaa
