
/- Sets of cells as numbers: with, regionOf and the like, each by a contract. -/
import Derived.Test.YtabgfoindidigaaCells
namespace Go.Proofs.Ytabgfoindidigaa
open Go.ChangeShapes Go.WideShapes Go.ChangeAt Go.RowKit

theorem two_pow_lt (i : Nat) (h : i < 64) : (2:Nat) ^ i < 18446744073709551616 := by
  have : (2:Nat) ^ i < 2 ^ 64 := Nat.pow_lt_pow_right (by omega) h
  simpa using this
theorem u64_wrap_pow (i : Nat) (h : i < 64) : IntKind.u64.wrap ((2:Int) ^ i) = ((2 ^ i : Nat) : Int) := by
  have h2 := two_pow_lt i h
  have e : ((2:Int) ^ i) = ((2 ^ i : Nat) : Int) := by simp
  rw [e]
  generalize (2:Nat) ^ i = m at *
  rw [IntKind.wrap_u64]; omega
theorem ofInt_u64 (a : Nat) (ha : a < 18446744073709551616) : (BitVec.ofInt 64 (a : Int)).toNat = a := by
  rw [BitVec.ofInt_natCast, BitVec.toNat_ofNat]; exact Nat.mod_eq_of_lt (by omega)
theorem u64_wrap_nat (a : Nat) (ha : a < 18446744073709551616) : IntKind.u64.wrap (a : Int) = a :=
  by rw [IntKind.wrap_u64]; omega
theorem u64_or (a b : Nat) (ha : a < 18446744073709551616) (hb : b < 18446744073709551616) : bits .or .u64 (a : Int) (b : Int) = ((a ||| b : Nat) : Int) := by
  have hx : a ||| b < 2 ^ 64 := Nat.or_lt_two_pow (by omega) (by omega)
  show IntKind.u64.wrap ((BitVec.ofInt 64 (a : Int) ||| BitVec.ofInt 64 (b : Int)).toNat : Int) = _
  rw [BitVec.toNat_or, ofInt_u64 a ha, ofInt_u64 b hb]
  exact u64_wrap_nat _ (by simpa using hx)
theorem u64_and (a b : Nat) (ha : a < 18446744073709551616) (hb : b < 18446744073709551616) : bits .and .u64 (a : Int) (b : Int) = ((a &&& b : Nat) : Int) := by
  have hx : a &&& b < 2 ^ 64 := Nat.and_lt_two_pow _ (by omega)
  show IntKind.u64.wrap ((BitVec.ofInt 64 (a : Int) &&& BitVec.ofInt 64 (b : Int)).toNat : Int) = _
  rw [BitVec.toNat_and, ofInt_u64 a ha, ofInt_u64 b hb]
  exact u64_wrap_nat _ (by simpa using hx)

theorem shr_run (P : Program) (s i : Nat) (hi : i < 64) (_ : 0 ≤ i) : ∀ w : World, (Op.shift .shr .u64 (s : Int) .i64 (i : Int)).run P w = .ok (.int .u64 ((s >>> i : Nat) : Int)) w := by
  intro w
  rw [shift_shr_any _ _ _ _ (by omega)]
  have e : (s : Int) / 2 ^ min (i : Int).toNat IntKind.u64.bits = ((s >>> i : Nat) : Int) := by
    have h1 : min (i : Int).toNat IntKind.u64.bits = i := by simp [IntKind.bits]; omega
    rw [h1, Nat.shiftRight_eq_div_pow]
    simp
  rw [e]; rfl
theorem shr_lt (s i : Nat) (h : s < 18446744073709551616) : s >>> i < 18446744073709551616 := by
  rw [Nat.shiftRight_eq_div_pow]; exact Nat.lt_of_le_of_lt (Nat.div_le_self _ _) h
theorem and255 (a : Nat) (h : a < 18446744073709551616) : bits .and .u64 (a : Int) 255 = ((a &&& 255 : Nat) : Int) := u64_and a 255 h (by omega)
theorem and255_i64 (a : Nat) : IntKind.i64.wrap ((a &&& 255 : Nat) : Int) = ((a &&& 255 : Nat) : Int) := by
  have : a &&& 255 < 2 ^ 8 := Nat.and_lt_two_pow _ (by omega)
  rw [IntKind.wrap_i64]; omega

theorem shr_val (s k : Nat) (hs : s < 18446744073709551616) : IntKind.i64.wrap (bits BinOp.and IntKind.u64 ((s : Int) / 2 ^ (8 * (k : Int)).toNat) 255) = ((s >>> (8 * k) &&& 255 : Nat) : Int) := by
  have e : (s : Int) / 2 ^ (8 * (k : Int)).toNat = ((s >>> (8 * k) : Nat) : Int) := by
    have h1 : (8 * (k : Int)).toNat = 8 * k := by omega
    rw [h1, Nat.shiftRight_eq_div_pow]
    simp
  rw [e, and255 _ (shr_lt s _ hs), and255_i64]
theorem grown_push_cell {wr W w2 : World} {o : Obj} {row : Option Nat} (hg : W.grownBy w2 row) (hW : W.heap = wr.heap.push o) {b off : Nat} {v : Value} (h : wr.cell? ⟨b, off, none⟩ = some v) (hne : row ≠ some b) : w2.cell? ⟨b, off, none⟩ = some v := by
  have hb := cell_lt' h
  have h1 : W.heap[b]? = wr.heap[b]? := by rw [hW, Array.getElem?_push, if_neg (by omega)]
  have h2 : W.cell? ⟨b, off, none⟩ = some v := by rw [World.cell?_of_block (w := wr) h1]; exact h
  exact grown_cell hg h2 hne
theorem grown_push_frozen {wr W w2 : World} {o : Obj} {row : Option Nat} (hg : W.grownBy w2 row) (hW : W.heap = wr.heap.push o) {b off : Nat} {v : Value} (h : wr.cell? ⟨b, off, none⟩ = some v) (hf : wr.frozen? ⟨b, off, none⟩ = false) (hne : row ≠ some b) : w2.frozen? ⟨b, off, none⟩ = false := by
  have hb := cell_lt' h
  have h1 : W.heap[b]? = wr.heap[b]? := by rw [hW, Array.getElem?_push, if_neg (by omega)]
  have h2 : W.cell? ⟨b, off, none⟩ = some v := by rw [World.cell?_of_block (w := wr) h1]; exact h
  exact grown_frozen hg h2 (by rw [World.frozen?_of_block (w := wr) h1]; exact hf) hne
/-- behind an append onto a row of the call's own from B on: below B all is as it was -/
theorem below_push {B : Nat} {a wr W w2 : World} {o : Obj} {row : Option Nat} (hb : Below B a wr) (hg : W.grownBy w2 row) (hW : W.heap = wr.heap.push o) (h1 : W.os = wr.os) (h2 : W.tape = wr.tape) (h3 : W.output = wr.output) (hr : ∀ k, row = some k → B ≤ k) (hB : B ≤ wr.heap.size) : Below B a w2 := by
  refine hb.trans ⟨by rw [hg.os, h1], by rw [hg.tape, h2], by rw [hg.output, h3], Nat.le_trans (by rw [hW]; simp) hg.size, fun k hk => ?_⟩
  rw [hg.block k (by rw [hW]; simp; omega) (fun e => by have := hr k e.symm; omega), hW, Array.getElem?_push, if_neg (by omega)]

theorem cellIndex_impl (x y : Int) (h : okc x y = true) (w : World) :
    Calls Try.prog 79 #[.agg #[.int .i64 x, .int .i64 y]] w fun e w' => e = .returned (.int .i64 (y * 8 + x)) ∧ Below w.heap.size w w' := by
  obtain ⟨⟨h1, h2⟩, h3, h4⟩ := okc_true.1 h
  go_enter Try.func79, Try.ntmps79
  go_wp2_with (go_at_call 78; refine (cellOk_impl _ _ _).mono ?_; rintro e w2 ⟨rfl, hb2⟩; obtain ⟨hc2, hf2, hs2⟩ := bcell hb2)
  go_ret
  exact ⟨ret_int rfl, by ((repeat (first | exact Below.refl _ _ | with_reducible assumption | refine Below.alloc0 ?_ _ | refine Below.step0 ?_ (by with_reducible assumption) | refine Below.step ?_ (by with_reducible assumption) ?_ | refine Below.alloc ?_ ?_ _ | refine Below.drew ?_ | refine below_drewN ?_ _ | refine Below.setCell ?_ ?_ _)) <;> (first | omega | exact hsz | exact Below.size (by with_reducible assumption) | (simp; done) | (simp; omega) | (simp at *; omega)))⟩
theorem u64_bd (s : Nat) (h : s < 18446744073709551616) : (s : Int) < 18446744073709551616 := by omega
/-- the number of a valid cell -/
def ci (x y : Int) : Nat := (y * 8 + x).toNat
theorem ci_lt {x y : Int} (h : okc x y = true) : ci x y < 64 := by
  have := okc_true.1 h; unfold ci; omega
theorem ci_eq {x y : Int} (h : okc x y = true) : y * 8 + x = (ci x y : Int) := by
  have := okc_true.1 h; unfold ci; omega
theorem with_c (s : Nat) (x y : Int) (h : okc x y = true) (hs : s < 18446744073709551616) (w : World) :
    Calls Try.prog 77 #[.int .u64 s, .agg #[.int .i64 x, .int .i64 y]] w fun e w' => e = .returned (.int .u64 ((s ||| 2 ^ ci x y : Nat) : Int)) ∧ Below w.heap.size w w' := by
  have hci := ci_lt h
  have HI := Lib.hid (ci_eq h)
  have HR := Lib.hid (show bits .or .u64 (s : Int) (IntKind.u64.wrap ((2:Int) ^ ci x y)) = ((s ||| 2 ^ ci x y : Nat) : Int) by
    rw [u64_wrap_pow _ hci, u64_or _ _ hs (two_pow_lt _ hci)])
  go_enter Try.func77, Try.ntmps77
  go_wp2_with (go_at_call 79; refine (cellIndex_impl _ _ h _).mono ?_; rintro e w2 ⟨rfl, hb2⟩; rw [HI.out])
  go_ret
  refine ⟨?_, by ((repeat (first | exact Below.refl _ _ | with_reducible assumption | refine Below.alloc0 ?_ _ | refine Below.step0 ?_ (by with_reducible assumption) | refine Below.step ?_ (by with_reducible assumption) ?_ | refine Below.alloc ?_ ?_ _ | refine Below.drew ?_ | refine below_drewN ?_ _ | refine Below.setCell ?_ ?_ _)) <;> (first | omega | exact hsz | exact Below.size (by with_reducible assumption) | (simp; done) | (simp; omega) | (simp at *; omega)))⟩
  rw [← HR.out]
  rfl

/-- the rows of a set -/
def rowsOf (s rows : Nat) : List Int := (List.range rows).map fun y => (((s >>> (8 * y)) &&& 255 : Nat) : Int)
theorem rowsOf_succ (s k : Nat) : rowsOf s (k+1) = rowsOf s k ++ [(((s >>> (8 * k)) &&& 255 : Nat) : Int)] := by
  unfold rowsOf; rw [List.range_succ, List.map_append]; rfl
theorem rowsOf_len (s k : Nat) : (rowsOf s k).length = k := by simp [rowsOf]
set_option maxHeartbeats 1000000 in
theorem regionOf_c (s rows : Nat) (hs : s < 18446744073709551616) (hr : rows ≤ 8) (w : World) :
    Calls Try.prog 94 #[.int .u64 s, .int .i64 (rows : Int)] w fun e w' => ∃ v, e = .returned (.agg #[v]) ∧ w'.ownsRow w.heap.size 3 1 v rows (isl (rowsOf s rows)) ∧ Below w.heap.size w w' := by
  obtain ⟨i0, hi0, hz0, hz1, hz2⟩ := info_parts info_int
  have hown0 : ((w.alloc (.cells #[Value.slice none 0 0] 30)).alloc (.cells #[] 3)).ownsRow (w.heap.size + 1) 3 1 (.slice (some ⟨w.heap.size + 1, 0, none⟩) 0 0) 0 [] := by
    have h := own_new (w.alloc (.cells #[Value.slice none 0 0] 30)) 3 1 0 #[] rfl (Nat.zero_le _)
    simpa using h
  have HO := Lib.hid hown0
  clear hown0
  go_enter Try.func94, Try.ntmps94
  go_wp2
  go_loopw [6, 10] (fun _ i wr => ∃ (k : Nat) (v : Value), k ≤ rows ∧ i = .int .i64 k ∧ wr.cell? ⟨w.heap.size + 1 + 1, 0, none⟩ = some v ∧ wr.frozen? ⟨w.heap.size + 1 + 1, 0, none⟩ = false ∧ wr.cell? ⟨w.heap.size, 0, none⟩ = some (.slice none 0 0) ∧ wr.frozen? ⟨w.heap.size, 0, none⟩ = false ∧ v.ownBlock ≠ some (w.heap.size + 1 + 1) ∧ v.ownBlock ≠ some (w.heap.size) ∧ wr.ownsRow (w.heap.size + 1) 3 1 v k (isl (rowsOf s k)) ∧ Below w.heap.size w wr) (fun _ i _ => rows - (intOf i).toNat)
  case atStart =>
    refine ⟨0, _, Nat.zero_le _, rfl, by go_simp; rfl, by go_simp, by go_simp, by go_simp, ?_, ?_, ?_, by ((repeat (first | exact Below.refl _ _ | with_reducible assumption | refine Below.alloc0 ?_ _ | refine Below.step0 ?_ (by with_reducible assumption) | refine Below.step ?_ (by with_reducible assumption) ?_ | refine Below.alloc ?_ ?_ _ | refine Below.drew ?_ | refine below_drewN ?_ _ | refine Below.setCell ?_ ?_ _)) <;> (first | omega | exact hsz | exact Below.size (by with_reducible assumption) | (simp; done) | (simp; omega) | (simp at *; omega)))⟩
    · simp [Value.ownBlock]
    · simp [Value.ownBlock]
    · exact HO.out.alloc _
  case round =>
    obtain ⟨k, v, hk, rfl, hc, hf, hc0, hf0, hne, hne0, hown, hbw⟩ := hrel
    clear HO
    have hsz := hbw.size
    by_cases hlt : k < rows
    · have HX := Lib.hid (rowsOf_succ s k)
      have HV := Lib.hid (shr_val s k hs)
      have hw8 : IntKind.i64.wrap (8 * (k : Int)) = 8 * (k : Int) := by rw [IntKind.wrap_i64]; omega
      have h8 : (0 : Int) ≤ 8 * (k : Int) := by omega
      have h9 : 8 * (k : Int) < 64 := by omega
      have hcA : ∀ o, (wr.alloc o).cell? ⟨w.heap.size + 1 + 1, 0, none⟩ = some v := fun o => by rw [World.cell?_alloc_lt wr o _ (cell_lt' hc)]; exact hc
      have HNE := Lib.hid hne
      have HNE0 := Lib.hid hne0
      go_wp2
      go_region_law ((refine step_append_lies _ rfl (.tmp 14) (.tmp 21) 22 rfl (w.heap.size + 1) 3 i0 (.int .i64 0) 1 8 Try.underlying22 hi0 hz0 hz1 hz2 rfl (by decide) v k (isl (rowsOf s k)) (by simp [Act.eval, Act.put]) (by exact hown.alloc _) ⟨wr.heap.size, 0, none⟩ 1 1 [_] (by simp [Act.eval, Act.put]) rfl (by exact cell_new1 _ _ _) (by simp [Value.oneCell']) (by omega) (by unfold maxLen; omega) (by omega) (by simp; omega) (wr.heap.size + 1) (by simp) ?_; intro g cap w2 hown2 hgr hat hlt2; have hc2 := grown_push_cell (wr := wr) hgr rfl hc HNE.out; have hf2 := grown_push_frozen (wr := wr) hgr rfl hc hf HNE.out; have hd2 := grown_push_cell (wr := wr) hgr rfl hc0 HNE0.out; have hg2 := grown_push_frozen (wr := wr) hgr rfl hc0 hf0 HNE0.out; have hbw2 := Lib.hid (below_push (wr := wr) (B := w.heap.size) hbw hgr rfl rfl rfl rfl (by intro j hj; have := (hown.lt j hj).1; omega) hsz)))
      all_goals
        go_wp2
        have hgne : g ≠ w.heap.size + 1 + 1 := by
          rcases hat with h | h
          · intro e; subst e; exact HNE.out h
          · have := cell_lt' hc; omega
        have hgne0 : g ≠ w.heap.size := by
          rcases hat with h | h
          · intro e; subst e; exact HNE0.out h
          · have := cell_lt' hc0; omega
        go_roundw
        case rel =>
          refine ⟨k + 1, _, by omega, by go_num, by go_simp; rfl, by go_simp, ?_, by go_simp, ?_, ?_, ?_, ?_⟩
          · rw [World.cell?_setCell_other _ _ _ _ (by simp)]; exact hd2
          · simp [Value.ownBlock]; exact hgne
          · simp [Value.ownBlock]; exact hgne0
          · rw [HX.out, isl_append, ← HV.out]
            exact own_set_far hown2 (by simp [Value.ownBlock]; exact hgne) _
          · exact hbw2.out.setCell (by simp; omega) _
        case measure => simp [intOf]; omega
    · obtain rfl : k = rows := by omega
      obtain ⟨A0, c0, rfl⟩ := own_form2 hown
      go_wp2
      refine bodyPost_ret (v := .agg #[.slice A0 k c0]) (by simp [results, Try.results94, go_sem]; go_simp) rfl ⟨_, rfl, ?_, by ((repeat (first | exact Below.refl _ _ | with_reducible assumption | refine Below.alloc0 ?_ _ | refine Below.step0 ?_ (by with_reducible assumption) | refine Below.step ?_ (by with_reducible assumption) ?_ | refine Below.alloc ?_ ?_ _ | refine Below.drew ?_ | refine below_drewN ?_ _ | refine Below.setCell ?_ ?_ _)) <;> (first | omega | exact hsz | exact Below.size (by with_reducible assumption) | (simp; done) | (simp; omega) | (simp at *; omega)))⟩
      exact own_mono (own_set_far hown hne0 _) (by omega)

/-- a row of a diamond, cell by cell -/
def fillRow (s y a : Nat) : Nat → Nat
  | 0 => s
  | k+1 => fillRow s y a k ||| 2 ^ (8 * y + (a + k))
def dlo (n y : Nat) : Nat := if y < n then n - 1 - y else y - n
def dcnt (n y : Nat) : Nat := if y < n then 2 * y + 2 else 4 * n - 2 * y
def dset (n : Nat) : Nat → Nat
  | 0 => 0
  | y+1 => fillRow (dset n y) y (dlo n y) (dcnt n y)
theorem fillRow_lt (s y a : Nat) (hs : s < 18446744073709551616) (hy : y < 8) (k : Nat) (hk : a + k ≤ 8) : fillRow s y a k < 18446744073709551616 := by
  induction k with
  | zero => exact hs
  | succ k ih =>
    have h1 := ih (by omega)
    have h2 := two_pow_lt (8 * y + (a + k)) (by omega)
    unfold fillRow
    exact Nat.or_lt_two_pow (n := 64) (by simpa using h1) (by simpa using h2)
theorem dset_lt (n : Nat) (hn : 1 ≤ n) (hn' : n ≤ 4) (y : Nat) (hy : y ≤ 2 * n) : dset n y < 18446744073709551616 := by
  induction y with
  | zero => simp [dset]
  | succ y ih =>
    unfold dset
    exact fillRow_lt _ _ _ (ih (by omega)) (by omega) _ (by unfold dlo dcnt; split <;> omega)
def drows (n : Nat) : List Int := rowsOf (dset n (2 * n)) (2 * n)

set_option maxRecDepth 20000 in
set_option maxHeartbeats 2000000 in
theorem diamond_yes (n : Nat) (h1 : 1 ≤ n) (h4 : n ≤ 4) (w : World) :
    Calls Try.prog 68 #[.int .i64 (n : Int)] w fun e w' => ∃ v, e = .returned (.agg #[v]) ∧ w'.ownsRow w.heap.size 3 1 v (2 * n) (isl (drows n)) ∧ Below w.heap.size w w' := by
  have hin : inB n 1 4 = true := inB_true.2 (by omega)
  go_enter Try.func68, Try.ntmps68
  go_wp2_with (go_at_call 66; refine (within_c _ _ _ _).mono ?_; rintro e w2 ⟨rfl, rfl⟩)
  go_loopw [3, 4, 5, 6, 7, 14] (fun s _ _ _ _ i wr => ∃ (k : Nat), k ≤ 2 * n ∧ i = .int .i64 k ∧ s = .int .u64 (dset n k : Nat) ∧ wr.cell? ⟨w.heap.size, 0, none⟩ = some (.slice none 0 0) ∧ wr.frozen? ⟨w.heap.size, 0, none⟩ = false ∧ Below w.heap.size w wr) (fun _ _ _ _ _ i _ => 2 * n - (intOf i).toNat)
  case atStart => exact ⟨0, by omega, rfl, rfl, by go_simp, by go_simp, by ((repeat (first | exact Below.refl _ _ | with_reducible assumption | refine Below.alloc0 ?_ _ | refine Below.step0 ?_ (by with_reducible assumption) | refine Below.step ?_ (by with_reducible assumption) ?_ | refine Below.alloc ?_ ?_ _ | refine Below.drew ?_ | refine below_drewN ?_ _ | refine Below.setCell ?_ ?_ _)) <;> (first | omega | exact hsz | exact Below.size (by with_reducible assumption) | (simp; done) | (simp; omega) | (simp at *; omega)))⟩
  case round =>
    obtain ⟨k, hk, rfl, rfl, hc, hf, hbw⟩ := hrel
    have hsz := hbw.size
    have hcl := cell_lt' hc
    by_cases hlt : k < 2 * n
    · by_cases hkn : k < n
      · have hd1 : dlo n k = n - 1 - k := by unfold dlo; rw [if_pos hkn]
        have hd2 : dcnt n k = 2 * k + 2 := by unfold dcnt; rw [if_pos hkn]
        have HD1 := Lib.hid hd1
        have HD2 := Lib.hid hd2
        have HDS := Lib.hid (show dset n (k+1) = fillRow (dset n k) k (dlo n k) (dcnt n k) from rfl)
        have HLT := Lib.hid (dset_lt n h1 h4 k hk)
        clear hd1 hd2
        have ht : decide ((k : Int) < 2 * (n : Int)) = true := by simp; omega
        have ht2 : decide (n ≤ k) = !decide (k < n) := by by_cases h : k < n <;> simp [h] <;> omega
        simp only [hkn, decide_true, decide_false, Bool.not_true, Bool.not_false] at ht2
        go_wp2
        obtain ⟨wo, rfl⟩ : ∃ wo : World, wo = wr := ⟨_, rfl⟩
        go_loopw [3, 7] (fun s x wi => ∃ (j : Nat), j ≤ 2 * k + 2 ∧ x = .int .i64 (((n : Int) - 1 - k) + j) ∧ s = .int .u64 (fillRow (dset n k) k (n - 1 - k) j : Nat) ∧ wi.cell? ⟨w.heap.size, 0, none⟩ = some (.slice none 0 0) ∧ wi.frozen? ⟨w.heap.size, 0, none⟩ = false ∧ Below w.heap.size w wi) (fun _ x _ => (((n : Int) + k) + 1 - intOf x).toNat)
        case atStart => exact ⟨0, Nat.zero_le _, by simp, rfl, hc, hf, hbw⟩
        case round =>
          obtain ⟨j, hj, rfl, rfl, hc', hf', hbw'⟩ := hrel
          have hsz' := hbw'.size
          have hcl' := cell_lt' hc'
          by_cases hlt' : j < 2 * k + 2
          · have HF := Lib.hid (show fillRow (dset n k) k (n - 1 - k) (j+1) = fillRow (dset n k) k (n - 1 - k) j ||| 2 ^ (8 * k + ((n - 1 - k) + j)) from rfl)
            have hfl := fillRow_lt (dset n k) k (n - 1 - k) HLT.out (by omega) j (by omega)
            have hok : okc (((n : Int) - 1 - k) + j) k = true := okc_true.2 (by omega)
            have HCI := Lib.hid (show ci (((n : Int) - 1 - k) + j) k = 8 * k + ((n - 1 - k) + j) by unfold ci; omega)
            go_wp2_with (go_at_call 77; refine (with_c _ _ _ hok hfl _).mono ?_; rintro e w2 ⟨rfl, hb2⟩; rw [HCI.out]; have hc2 := (hb2.cell (p := ⟨w.heap.size, 0, none⟩) hcl').trans hc'; have hf2 := (hb2.frozen (p := ⟨w.heap.size, 0, none⟩) hcl').trans hf')
            go_roundw
            case rel => exact ⟨j + 1, by omega, by go_num, by rw [HF.out], hc2, hf2, by ((repeat (first | exact Below.refl _ _ | with_reducible assumption | refine Below.alloc0 ?_ _ | refine Below.step0 ?_ (by with_reducible assumption) | refine Below.step ?_ (by with_reducible assumption) ?_ | refine Below.alloc ?_ ?_ _ | refine Below.drew ?_ | refine below_drewN ?_ _ | refine Below.setCell ?_ ?_ _)) <;> (first | omega | exact hsz | exact Below.size (by with_reducible assumption) | (simp; done) | (simp; omega) | (simp at *; omega)))⟩
            case measure => simp [intOf]; omega
          · obtain rfl : j = 2 * k + 2 := by omega
            go_wp2
            go_roundw
            case rel => exact ⟨k + 1, by omega, by go_num, by rw [HDS.out, HD1.out, HD2.out], hc', hf', hbw'⟩
            case measure => simp [intOf]; omega
      · have hd1 : dlo n k = k - n := by unfold dlo; rw [if_neg hkn]
        have hd2 : dcnt n k = 4 * n - 2 * k := by unfold dcnt; rw [if_neg hkn]
        have HD1 := Lib.hid hd1
        have HD2 := Lib.hid hd2
        have HDS := Lib.hid (show dset n (k+1) = fillRow (dset n k) k (dlo n k) (dcnt n k) from rfl)
        have HLT := Lib.hid (dset_lt n h1 h4 k hk)
        clear hd1 hd2
        have ht : decide ((k : Int) < 2 * (n : Int)) = true := by simp; omega
        have ht2 : decide (n ≤ k) = !decide (k < n) := by by_cases h : k < n <;> simp [h] <;> omega
        simp only [hkn, decide_true, decide_false, Bool.not_true, Bool.not_false] at ht2
        go_wp2
        obtain ⟨wo, rfl⟩ : ∃ wo : World, wo = wr := ⟨_, rfl⟩
        go_loopw [3, 7] (fun s x wi => ∃ (j : Nat), j ≤ 4 * n - 2 * k ∧ x = .int .i64 (((k : Int) - n) + j) ∧ s = .int .u64 (fillRow (dset n k) k (k - n) j : Nat) ∧ wi.cell? ⟨w.heap.size, 0, none⟩ = some (.slice none 0 0) ∧ wi.frozen? ⟨w.heap.size, 0, none⟩ = false ∧ Below w.heap.size w wi) (fun _ x _ => ((3 * (n : Int) - 1 - k) + 1 - intOf x).toNat)
        case atStart => exact ⟨0, Nat.zero_le _, by simp, rfl, hc, hf, hbw⟩
        case round =>
          obtain ⟨j, hj, rfl, rfl, hc', hf', hbw'⟩ := hrel
          have hsz' := hbw'.size
          have hcl' := cell_lt' hc'
          by_cases hlt' : j < 4 * n - 2 * k
          · have HF := Lib.hid (show fillRow (dset n k) k (k - n) (j+1) = fillRow (dset n k) k (k - n) j ||| 2 ^ (8 * k + ((k - n) + j)) from rfl)
            have hfl := fillRow_lt (dset n k) k (k - n) HLT.out (by omega) j (by omega)
            have hok : okc (((k : Int) - n) + j) k = true := okc_true.2 (by omega)
            have HCI := Lib.hid (show ci (((k : Int) - n) + j) k = 8 * k + ((k - n) + j) by unfold ci; omega)
            go_wp2_with (go_at_call 77; refine (with_c _ _ _ hok hfl _).mono ?_; rintro e w2 ⟨rfl, hb2⟩; rw [HCI.out]; have hc2 := (hb2.cell (p := ⟨w.heap.size, 0, none⟩) hcl').trans hc'; have hf2 := (hb2.frozen (p := ⟨w.heap.size, 0, none⟩) hcl').trans hf')
            go_roundw
            case rel => exact ⟨j + 1, by omega, by go_num, by rw [HF.out], hc2, hf2, by ((repeat (first | exact Below.refl _ _ | with_reducible assumption | refine Below.alloc0 ?_ _ | refine Below.step0 ?_ (by with_reducible assumption) | refine Below.step ?_ (by with_reducible assumption) ?_ | refine Below.alloc ?_ ?_ _ | refine Below.drew ?_ | refine below_drewN ?_ _ | refine Below.setCell ?_ ?_ _)) <;> (first | omega | exact hsz | exact Below.size (by with_reducible assumption) | (simp; done) | (simp; omega) | (simp at *; omega)))⟩
            case measure => simp [intOf]; omega
          · obtain rfl : j = 4 * n - 2 * k := by omega
            go_wp2
            go_roundw
            case rel => exact ⟨k + 1, by omega, by go_num, by rw [HDS.out, HD1.out, HD2.out], hc', hf', hbw'⟩
            case measure => simp [intOf]; omega
    · obtain rfl : k = 2 * n := by omega
      have hds := dset_lt n h1 h4 (2 * n) (Nat.le_refl _)
      have HE := Lib.hid (show (2 * (n : Int)) = ((2 * n : Nat) : Int) by omega)
      go_wp2_with (go_at_call 94; rw [HE.out]; refine (regionOf_c _ (2 * n) hds (by omega) _).mono ?_; rintro e w2 ⟨v2, rfl, ho2, hb2⟩; obtain ⟨A2, c2, rfl⟩ := own_form2 ho2; have hc2 := (hb2.cell (p := ⟨w.heap.size, 0, none⟩) hcl).trans hc; have hf2 := (hb2.frozen (p := ⟨w.heap.size, 0, none⟩) hcl).trans hf)
      refine bodyPost_ret (v := .agg #[.slice A2 (2 * n) c2]) (by simp [results, Try.results68, go_sem]; go_simp) rfl ⟨_, rfl, ?_, by ((repeat (first | exact Below.refl _ _ | with_reducible assumption | refine Below.alloc0 ?_ _ | refine Below.step0 ?_ (by with_reducible assumption) | refine Below.step ?_ (by with_reducible assumption) ?_ | refine Below.alloc ?_ ?_ _ | refine Below.drew ?_ | refine below_drewN ?_ _ | refine Below.setCell ?_ ?_ _)) <;> (first | omega | exact hsz | exact Below.size (by with_reducible assumption) | (simp; done) | (simp; omega) | (simp at *; omega)))⟩
      exact own_mono (own_set_far ho2 (by intro e; have := (ho2.lt _ e).1; simp at this; omega) _) (by omega)

def srow (n k : Nat) : Int := if k < n then 2 ^ (n + k + 1) - 2 ^ (n - 1 - k) else 2 ^ (3 * n - k) - 2 ^ (k - n)
def srows (n k : Nat) : List Int := (List.range k).map (srow n)
theorem wrap_pows (a b : Nat) (ha : a ≤ 8) (hb : b ≤ 8) : IntKind.i64.wrap (IntKind.i64.wrap ((2:Int) ^ a) - IntKind.i64.wrap ((2:Int) ^ b)) = 2 ^ a - 2 ^ b := by
  have h : ∀ c : Nat, c ≤ 8 → (1:Int) ≤ 2 ^ c ∧ (2:Int) ^ c ≤ 256 := by
    intro c hc
    have : c = 0 ∨ c = 1 ∨ c = 2 ∨ c = 3 ∨ c = 4 ∨ c = 5 ∨ c = 6 ∨ c = 7 ∨ c = 8 := by omega
    rcases this with rfl | rfl | rfl | rfl | rfl | rfl | rfl | rfl | rfl <;> decide
  have h1 := h a ha
  have h2 := h b hb
  rw [IntKind.wrap_i64, IntKind.wrap_i64, IntKind.wrap_i64]
  omega
theorem srows_succ (n k : Nat) : srows n (k+1) = srows n k ++ [srow n k] := by unfold srows; rw [List.range_succ, List.map_append]; rfl
theorem srows_drows (n : Nat) (h1 : 1 ≤ n) (h4 : n ≤ 4) : srows n (2 * n) = drows n := by
  have : n = 1 ∨ n = 2 ∨ n = 3 ∨ n = 4 := by omega
  rcases this with rfl | rfl | rfl | rfl <;> decide +kernel
set_option maxRecDepth 20000 in
set_option maxHeartbeats 2000000 in
theorem diamond_spec_yes (n : Nat) (h1 : 1 ≤ n) (h4 : n ≤ 4) (w : World) :
    Calls Try.prog 62 #[.int .i64 (n : Int)] w fun e w' => ∃ v, e = .returned (.agg #[v]) ∧ w'.ownsRow w.heap.size 3 1 v (2 * n) (isl (drows n)) ∧ Below w.heap.size w w' := by
  have hin : inB n 1 4 = true := inB_true.2 (by omega)
  have HFIN := Lib.hid (srows_drows n h1 h4)
  obtain ⟨i0, hi0, hz0, hz1, hz2⟩ := info_parts info_int
  go_enter Try.func62, Try.ntmps62
  go_wp2
  go_loopw [4, 5, 6] (fun i _ _ wr => ∃ (k : Nat) (v : Value), k ≤ 2 * n ∧ i = .int .i64 k ∧ wr.cell? ⟨w.heap.size + 1, 0, none⟩ = some v ∧ wr.frozen? ⟨w.heap.size + 1, 0, none⟩ = false ∧ wr.cell? ⟨w.heap.size, 0, none⟩ = some (.slice none 0 0) ∧ wr.frozen? ⟨w.heap.size, 0, none⟩ = false ∧ v.ownBlock ≠ some (w.heap.size + 1) ∧ v.ownBlock ≠ some (w.heap.size) ∧ wr.ownsRow (w.heap.size + 1) 3 1 v k (isl (srows n k)) ∧ Below w.heap.size w wr) (fun i _ _ _ => 2 * n - (intOf i).toNat)
  case atStart =>
    refine ⟨0, _, by omega, rfl, by go_simp, by go_simp, by go_simp, by go_simp, by simp [Value.ownBlock], by simp [Value.ownBlock], World.ownsRow_nil _ _ _ _, by ((repeat (first | exact Below.refl _ _ | with_reducible assumption | refine Below.alloc0 ?_ _ | refine Below.step0 ?_ (by with_reducible assumption) | refine Below.step ?_ (by with_reducible assumption) ?_ | refine Below.alloc ?_ ?_ _ | refine Below.drew ?_ | refine below_drewN ?_ _ | refine Below.setCell ?_ ?_ _)) <;> (first | omega | exact hsz | exact Below.size (by with_reducible assumption) | (simp; done) | (simp; omega) | (simp at *; omega)))⟩
  case round =>
    obtain ⟨k, v, hk, rfl, hc, hf, hc0, hf0, hne, hne0, hown, hbw⟩ := hrel
    have hsz := hbw.size
    by_cases hlt : k < 2 * n
    · have HX := Lib.hid (srows_succ n k)
      have hcA : ∀ o, (wr.alloc o).cell? ⟨w.heap.size + 1, 0, none⟩ = some v := fun o => by rw [World.cell?_alloc_lt wr o _ (cell_lt' hc)]; exact hc
      have HNE := Lib.hid hne
      have HNE0 := Lib.hid hne0
      have ht : decide ((k : Int) < 2 * (n : Int)) = true := by simp; omega
      by_cases hkn : k < n
      · have ht2 : decide (n ≤ k) = false := by simp; omega
        have hl : (0 : Int) ≤ ((n : Int) - 1 - k) := by omega
        have hl2 : (0 : Int) ≤ ((n : Int) + k) + 1 := by omega
        have hwl : IntKind.i64.wrap (((n : Int) + k) + 1 : Int) = ((n : Int) + k) + 1 := by rw [IntKind.wrap_i64]; omega
        go_wp2_with (go_at_call 60; refine (l01In_c _ _ _ _).mono ?_; rintro e w2 ⟨rfl, rfl⟩)
        go_region_law ((refine step_append_lies _ rfl (.tmp 37) (.tmp 44) 22 rfl (w.heap.size + 1) 3 i0 (.int .i64 0) 1 8 Try.underlying22 hi0 hz0 hz1 hz2 rfl (by decide) v k (isl (srows n k)) (by simp [Act.eval, Act.put]) (by exact hown.alloc _) ⟨wr.heap.size, 0, none⟩ 1 1 [_] (by simp [Act.eval, Act.put]) rfl (by exact cell_new1 _ _ _) (by simp [Value.oneCell']) (by omega) (by unfold maxLen; omega) (by omega) (by simp; omega) (wr.heap.size + 1) (by simp) ?_; intro g cap w2 hown2 hgr hat hlt2; have hc2 := grown_push_cell (wr := wr) hgr rfl hc HNE.out; have hf2 := grown_push_frozen (wr := wr) hgr rfl hc hf HNE.out; have hd2 := grown_push_cell (wr := wr) hgr rfl hc0 HNE0.out; have hg2 := grown_push_frozen (wr := wr) hgr rfl hc0 hf0 HNE0.out; have hbw2 := Lib.hid (below_push (wr := wr) (B := w.heap.size) hbw hgr rfl rfl rfl rfl (by intro j hj; have := (hown.lt j hj).1; omega) hsz)))
        all_goals
          go_wp2
          have hgne : g ≠ w.heap.size + 1 := by
            rcases hat with h | h
            · intro e; subst e; exact HNE.out h
            · have := cell_lt' hc; omega
          have hgne0 : g ≠ w.heap.size := by
            rcases hat with h | h
            · intro e; subst e; exact HNE0.out h
            · have := cell_lt' hc0; omega
          go_roundw
          case rel =>
            refine ⟨k + 1, _, by omega, by go_num, by go_simp; rfl, by go_simp, ?_, by go_simp, ?_, ?_, ?_, ?_⟩
            · rw [World.cell?_setCell_other _ _ _ _ (by simp)]; exact hd2
            · simp [Value.ownBlock]; exact hgne
            · simp [Value.ownBlock]; exact hgne0
            · refine own_congr (own_set_far hown2 (by simp [Value.ownBlock]; exact hgne) _) ?_
              rw [HX.out, isl_append]
              congr 1
              show [Value.int .i64 _] = [Value.int .i64 (srow n k)]
              rw [wrap_pows _ _ (by omega) (by omega)]
              unfold srow
              rw [if_pos hkn]
              congr 4 <;> omega
            · exact hbw2.out.setCell (by simp) _
          case measure => simp [intOf]; omega
      · have ht2 : decide (n ≤ k) = true := by simp; omega
        have hl : (0 : Int) ≤ ((k : Int) - n) := by omega
        have hl2 : (0 : Int) ≤ (3 * (n : Int) - 1 - k) + 1 := by omega
        have hwl : IntKind.i64.wrap ((3 * (n : Int) - 1 - k) + 1 : Int) = (3 * (n : Int) - 1 - k) + 1 := by rw [IntKind.wrap_i64]; omega
        go_wp2_with (go_at_call 60; refine (l01In_c _ _ _ _).mono ?_; rintro e w2 ⟨rfl, rfl⟩)
        go_region_law ((refine step_append_lies _ rfl (.tmp 37) (.tmp 44) 22 rfl (w.heap.size + 1) 3 i0 (.int .i64 0) 1 8 Try.underlying22 hi0 hz0 hz1 hz2 rfl (by decide) v k (isl (srows n k)) (by simp [Act.eval, Act.put]) (by exact hown.alloc _) ⟨wr.heap.size, 0, none⟩ 1 1 [_] (by simp [Act.eval, Act.put]) rfl (by exact cell_new1 _ _ _) (by simp [Value.oneCell']) (by omega) (by unfold maxLen; omega) (by omega) (by simp; omega) (wr.heap.size + 1) (by simp) ?_; intro g cap w2 hown2 hgr hat hlt2; have hc2 := grown_push_cell (wr := wr) hgr rfl hc HNE.out; have hf2 := grown_push_frozen (wr := wr) hgr rfl hc hf HNE.out; have hd2 := grown_push_cell (wr := wr) hgr rfl hc0 HNE0.out; have hg2 := grown_push_frozen (wr := wr) hgr rfl hc0 hf0 HNE0.out; have hbw2 := Lib.hid (below_push (wr := wr) (B := w.heap.size) hbw hgr rfl rfl rfl rfl (by intro j hj; have := (hown.lt j hj).1; omega) hsz)))
        all_goals
          go_wp2
          have hgne : g ≠ w.heap.size + 1 := by
            rcases hat with h | h
            · intro e; subst e; exact HNE.out h
            · have := cell_lt' hc; omega
          have hgne0 : g ≠ w.heap.size := by
            rcases hat with h | h
            · intro e; subst e; exact HNE0.out h
            · have := cell_lt' hc0; omega
          go_roundw
          case rel =>
            refine ⟨k + 1, _, by omega, by go_num, by go_simp; rfl, by go_simp, ?_, by go_simp, ?_, ?_, ?_, ?_⟩
            · rw [World.cell?_setCell_other _ _ _ _ (by simp)]; exact hd2
            · simp [Value.ownBlock]; exact hgne
            · simp [Value.ownBlock]; exact hgne0
            · refine own_congr (own_set_far hown2 (by simp [Value.ownBlock]; exact hgne) _) ?_
              rw [HX.out, isl_append]
              congr 1
              show [Value.int .i64 _] = [Value.int .i64 (srow n k)]
              rw [wrap_pows _ _ (by omega) (by omega)]
              unfold srow
              rw [if_neg hkn]
              congr 4 <;> omega
            · exact hbw2.out.setCell (by simp) _
          case measure => simp [intOf]; omega
    · obtain rfl : k = 2 * n := by omega
      have ht : decide (((2 * n : Nat) : Int) < 2 * (n : Int)) = false := by simp
      obtain ⟨A2, c2, rfl⟩ := own_form2 hown
      have HOWN := Lib.hid hown
      clear hown
      go_wp2_with (go_at_call 60; refine (l01In_c _ _ _ _).mono ?_; rintro e w2 ⟨rfl, rfl⟩)
      refine bodyPost_ret (v := .agg #[.slice A2 (2 * n) c2]) (by simp [results, Try.results62, go_sem]; go_simp) rfl ⟨_, rfl, ?_, by ((repeat (first | exact Below.refl _ _ | with_reducible assumption | refine Below.alloc0 ?_ _ | refine Below.step0 ?_ (by with_reducible assumption) | refine Below.step ?_ (by with_reducible assumption) ?_ | refine Below.alloc ?_ ?_ _ | refine Below.drew ?_ | refine below_drewN ?_ _ | refine Below.setCell ?_ ?_ _)) <;> (first | omega | exact hsz | exact Below.size (by with_reducible assumption) | (simp; done) | (simp; omega) | (simp at *; omega)))⟩
      rw [HFIN.out] at HOWN
      exact own_mono (own_set_far HOWN.out hne0 _) (by omega)
theorem diamond_spec_no (n : Int) (h : inB n 1 4 = false) (w : World) :
    Calls Try.prog 62 #[.int .i64 n] w fun e w' => e = .returned (.agg #[.slice none 0 0]) ∧ Below w.heap.size w w' := by
  go_enter Try.func62, Try.ntmps62
  go_wp2
  refine wp_loop_rounds 1 ?_
  rw [rounds_succ]
  go_wp2_with (go_at_call 60; refine (l01In_c _ _ _ _).mono ?_; rintro e w2 ⟨rfl, rfl⟩)
  exact bodyPost_ret (v := .agg #[.slice none 0 0]) (by simp [results, Try.results62, go_sem]) rfl ⟨rfl, by ((repeat (first | exact Below.refl _ _ | with_reducible assumption | refine Below.alloc0 ?_ _ | refine Below.step0 ?_ (by with_reducible assumption) | refine Below.step ?_ (by with_reducible assumption) ?_ | refine Below.alloc ?_ ?_ _ | refine Below.drew ?_ | refine below_drewN ?_ _ | refine Below.setCell ?_ ?_ _)) <;> (first | omega | exact hsz | exact Below.size (by with_reducible assumption) | (simp; done) | (simp; omega) | (simp at *; omega)))⟩
theorem diamond_no (n : Int) (h : inB n 1 4 = false) (w : World) :
    Calls Try.prog 68 #[.int .i64 n] w fun e w' => e = .returned (.agg #[.slice none 0 0]) ∧ Below w.heap.size w w' := by
  go_enter Try.func68, Try.ntmps68
  go_wp2_with (go_at_call 66; refine (within_c _ _ _ _).mono ?_; rintro e w2 ⟨rfl, rfl⟩)
  exact bodyPost_ret (v := .agg #[.slice none 0 0]) (by simp [results, Try.results68, go_sem]) rfl ⟨rfl, by ((repeat (first | exact Below.refl _ _ | with_reducible assumption | refine Below.alloc0 ?_ _ | refine Below.step0 ?_ (by with_reducible assumption) | refine Below.step ?_ (by with_reducible assumption) ?_ | refine Below.alloc ?_ ?_ _ | refine Below.drew ?_ | refine below_drewN ?_ _ | refine Below.setCell ?_ ?_ _)) <;> (first | omega | exact hsz | exact Below.size (by with_reducible assumption) | (simp; done) | (simp; omega) | (simp at *; omega)))⟩
/-- the rows of a diamond, for every number -/
def diaRows (n : Int) : List Int := if inB n 1 4 then drows n.toNat else []
theorem diamond_impl (n : Int) (w : World) :
    Calls Try.prog 68 #[.int .i64 n] w fun e w' => ∃ v, e = .returned (.agg #[v]) ∧ w'.ownsRow w.heap.size 3 1 v (diaRows n).length (isl (diaRows n)) ∧ Below w.heap.size w w' := by
  unfold diaRows
  by_cases h : inB n 1 4 = true
  · obtain ⟨k, rfl⟩ : ∃ k : Nat, n = k := ⟨n.toNat, by have := inB_true.1 h; omega⟩
    have h' := inB_true.1 h
    rw [if_pos h, Int.toNat_natCast, show (drows k).length = 2 * k from rowsOf_len _ _]
    exact diamond_yes k (by omega) (by omega) w
  · rw [if_neg h]
    exact (diamond_no n (by simpa using h) w).mono fun e w' ⟨he, hb⟩ => ⟨_, he, World.ownsRow_nil _ _ _ _, hb⟩
theorem diamond_spec (n : Int) (w : World) :
    Calls Try.prog 62 #[.int .i64 n] w fun e w' => ∃ v, e = .returned (.agg #[v]) ∧ w'.ownsRow w.heap.size 3 1 v (diaRows n).length (isl (diaRows n)) ∧ Below w.heap.size w w' := by
  unfold diaRows
  by_cases h : inB n 1 4 = true
  · obtain ⟨k, rfl⟩ : ∃ k : Nat, n = k := ⟨n.toNat, by have := inB_true.1 h; omega⟩
    have h' := inB_true.1 h
    rw [if_pos h, Int.toNat_natCast, show (drows k).length = 2 * k from rowsOf_len _ _]
    exact diamond_spec_yes k (by omega) (by omega) w
  · rw [if_neg h]
    exact (diamond_spec_no n (by simpa using h) w).mono fun e w' ⟨he, hb⟩ => ⟨_, he, World.ownsRow_nil _ _ _ _, hb⟩
theorem diaRows_len (n : Int) : (diaRows n).length ≤ 8 := by
  unfold diaRows
  split
  · rename_i h
    have := inB_true.1 h
    rw [show (drows n.toNat).length = 2 * n.toNat from rowsOf_len _ _]; omega
  · simp
end Go.Proofs.Ytabgfoindidigaa
