
/- The law's own helpers over cells: toCell, toCellS, eqCell, eqCellS, szCellS, markCellS, heldCellS, each by a contract. -/
import Derived.Test.YtgeeiecmlpknoaaInts
import Derived.Test.YtgeeiecmlpknoaaCells
namespace Go.Proofs.Ytgeeiecmlpknoaa
open Go.ChangeShapes Go.WideShapes Go.ChangeAt Go.RowKit

theorem toCell_c (x y : Int) (w : World) :
    Calls Try.prog 55 #[.agg #[.int .i64 x, .int .i64 y]] w fun e w' => e = .returned (.agg #[.int .i64 x, .int .i64 y]) ∧ Below w.heap.size w w' := by
  go_enter Try.func55, Try.ntmps55
  go_wp2
  exact bodyPost_ret (v := .agg #[.int .i64 x, .int .i64 y]) (by simp [results, Try.results55, go_sem]) rfl ⟨rfl, by ((repeat (first | exact Below.refl _ _ | with_reducible assumption | refine Below.alloc0 ?_ _ | refine Below.step0 ?_ (by with_reducible assumption) | refine Below.step ?_ (by with_reducible assumption) ?_ | refine Below.alloc ?_ ?_ _ | refine Below.drew ?_ | refine below_drewN ?_ _ | refine Below.setCell ?_ ?_ _)) <;> (first | omega | exact hsz | exact Below.size (by with_reducible assumption) | (simp; done) | (simp; omega) | (simp at *; omega)))⟩
def cEq (x y x' y' : Int) : Bool := decide (x = x' ∧ y = y')
theorem cEq_cel (a b : Cel) : cEq a.x a.y b.x b.y = decide (a = b) := by
  unfold cEq; cases a; cases b; simp
theorem eqCell_c (x y x' y' : Int) (w : World) :
    Calls Try.prog 60 #[.agg #[.int .i64 x, .int .i64 y], .agg #[.int .i64 x', .int .i64 y']] w fun e w' => e = .returned (.bool (cEq x y x' y')) ∧ Below w.heap.size w w' := by
  go_enter Try.func60, Try.ntmps60
  go_wp2
  all_goals (go_ret; refine ⟨ret_bool ?_, by ((repeat (first | exact Below.refl _ _ | with_reducible assumption | refine Below.alloc0 ?_ _ | refine Below.step0 ?_ (by with_reducible assumption) | refine Below.step ?_ (by with_reducible assumption) ?_ | refine Below.alloc ?_ ?_ _ | refine Below.drew ?_ | refine below_drewN ?_ _ | refine Below.setCell ?_ ?_ _)) <;> (first | omega | exact hsz | exact Below.size (by with_reducible assumption) | (simp; done) | (simp; omega) | (simp at *; omega)))⟩; unfold cEq; simp_all)
theorem run_neq_cel (x y x' y' : Int) (w : World) :
    (binOp .neq 53 (.agg #[.int .i64 x, .int .i64 y]) (.agg #[.int .i64 x', .int .i64 y'])).run Try.prog w = .ok (.bool (!cEq x y x' y')) w := by
  have h1 := Try.underlying53
  simp only [binOp]
  simp [Op.equal, Op.maxDepth, go_sem, h1]
  unfold cEq
  by_cases e1 : x = x' <;> by_cases e2 : y = y' <;> simp [e1, e2]
theorem run_eql_cel (x y x' y' : Int) (w : World) :
    (binOp .eql 53 (.agg #[.int .i64 x, .int .i64 y]) (.agg #[.int .i64 x', .int .i64 y'])).run Try.prog w = .ok (.bool (cEq x y x' y')) w := by
  have h1 := Try.underlying53
  simp only [binOp]
  simp [Op.equal, Op.maxDepth, go_sem, h1]
  unfold cEq
  by_cases e1 : x = x' <;> by_cases e2 : y = y' <;> simp [e1, e2]
theorem szCellS_c (left : Int) (A : Option Addr) (n c : Nat) (h0 : 0 ≤ left) (h1 : left ≤ 1048576) (h2 : n ≤ 9223372036854775807) (w : World) :
    Calls Try.prog 22 #[.slice A n c, .int .i64 left] w fun e w' => e = .returned (.int .i64 (if left < n then -1 else left - n)) ∧ w = w' := by
  go_enter Try.func22, Try.ntmps22
  go_wp2
  all_goals (go_ret; refine ⟨ret_int ?_, rfl⟩; first | rfl | rw [if_pos (by omega)] | rw [if_neg (by omega)])

theorem info_cel : (Try.prog.info? 53).map (fun i => (i.zero, i.size, i.bytes)) = some (some (.agg #[.int .i64 0, .int .i64 0]), 2, 16) := by kernel_rfl
def cel0 : Cel := ⟨0, 0⟩
theorem made_cels (n : Nat) : (madeCells (Value.agg #[.int .i64 0, .int .i64 0]).cells (n * 2)).toList = csl (List.replicate n cel0) := by
  apply List.ext_getElem?
  intro i
  by_cases hi : i < n * 2
  · have hk : i / 2 < n := by omega
    have h := flatMap_get Cel.cs 2 (fun _ => rfl) (List.replicate n cel0) (i / 2) (i % 2) (by simpa using hk) (by omega)
    rw [show i / 2 * 2 + i % 2 = i by omega] at h
    unfold csl
    rw [h]
    have hm : i % 2 = 0 ∨ i % 2 = 1 := by omega
    simp only [madeCells, Value.cells]
    rcases hm with hm | hm <;> simp [hi, hm, cel0, Cel.cs, List.getElem?_eq_getElem, Array.getElem_toList]
  · rw [List.getElem?_eq_none (by simp [madeCells]; omega), List.getElem?_eq_none (by rw [csl_len]; simp; omega)]
theorem csl_set (l : List Cel) (k : Nat) (d : Cel) (h : k < l.length) :
    ((csl l).set (k*2) (.int .i64 d.x)).set (k*2+1) (.int .i64 d.y) = csl (l.set k d) := by
  induction l generalizing k with
  | nil => simp at h
  | cons a l ih =>
    cases k with
    | zero => simp [csl, Cel.cs]
    | succ k =>
      have := ih k (by simpa using h)
      simp only [csl, List.flatMap_cons, List.set_cons_succ] at this ⊢
      rw [← this]
      simp only [Cel.cs, List.cons_append, List.nil_append]
      rw [show (k+1)*2 = k*2+2 by omega]
      simp

set_option maxHeartbeats 400000 in
theorem toCellS_c (l : List Cel) (A : Option Addr) (n c : Nat) (w : World) (hrd : RdA w 2 A n (csl l)) (hl : n ≤ 1048576) :
    Calls Try.prog 24 #[.slice A n c] w fun e w' => ∃ v, e = .returned v ∧ w'.ownsRow w.heap.size 53 2 v n (csl l) ∧ Below w.heap.size w w' := by
  obtain rfl : n = l.length := by have := hrd.1; rw [csl_len] at this; omega
  obtain ⟨i0, hi, hz0, hz1, hz2⟩ := info_parts info_cel
  have hmk := run_makeN (P := Try.prog) 38 53 i0 _ Try.underlying38 hi hz0 l.length (by rw [hz2]; omega) (by unfold maxLen; omega)
  rw [hz1] at hmk
  have hown0 := own_new w 53 2 l.length (madeCells (Value.agg #[.int .i64 0, .int .i64 0]).cells (l.length * 2)) (by rw [size_madeCells]) (by unfold maxLen; omega)
  rw [made_cels] at hown0
  have HO := Lib.hid hown0
  clear hown0
  go_enter Try.func24, Try.ntmps24
  go_wp2
  go_loopw [4] (fun i wr => ∃ k : Nat, k ≤ l.length ∧ i = .int .i64 k ∧ wr.ownsRow w.heap.size 53 2 (.slice (some ⟨w.heap.size, 0, none⟩) l.length l.length) l.length (csl (l.take k ++ (List.replicate l.length cel0).drop k)) ∧ Below w.heap.size w wr) (fun i _ => l.length - (intOf i).toNat)
  case atStart => exact ⟨0, Nat.zero_le _, rfl, by simpa [Value.cells] using HO.out, (Below.refl _ _).alloc (Nat.le_refl _) _⟩
  case round =>
    obtain ⟨k, hk, rfl, hown, hbw⟩ := hrel
    clear HO hmk
    by_cases hlt : k < l.length
    · obtain ⟨ad, rfl, hg, c0, c1⟩ := (hrd.below hbw (Nat.le_refl _)).cels hlt
      have hgw : w.heap.size < wr.heap.size := (hown.lt _ rfl).2
      have hset := Lib.hid (set_take l (List.replicate l.length cel0) k hlt (by simp))
      have HOWN := Lib.hid hown
      have hlen : k < (l.take k ++ (List.replicate l.length cel0).drop k).length := by simp; omega
      obtain ⟨g', off', he', _, d0, d1⟩ := (own_rd hown).cels hlen
      injection he' with he'
      injection he' with he1 he2
      subst he1; subst he2
      simp only [Nat.zero_add] at d0 d1
      have f0 := hown.frozenAt (k*2)
      have f1 := hown.frozenAt (k*2+1)
      generalize (l.take k ++ (List.replicate l.length cel0).drop k)[k]'hlen = dd at d0 d1
      clear hown hlen
      go_wp2_with (go_at_call 55; refine (toCell_c _ _ _).mono ?_; rintro e w2 ⟨rfl, hb2⟩; obtain ⟨hc2, hf2, hs2⟩ := bcell hb2)
      go_roundw
      case rel =>
        refine ⟨k + 1, by omega, by go_num, ?_, by ((repeat (first | exact Below.refl _ _ | with_reducible assumption | refine Below.alloc0 ?_ _ | refine Below.step0 ?_ (by with_reducible assumption) | refine Below.step ?_ (by with_reducible assumption) ?_ | refine Below.alloc ?_ ?_ _ | refine Below.drew ?_ | refine below_drewN ?_ _ | refine Below.setCell ?_ ?_ _)) <;> (first | omega | exact hsz | exact Below.size (by with_reducible assumption) | (simp; done) | (simp; omega) | (simp at *; omega)))⟩
        rw [← hset.out]
        have h := own_below HOWN.out hb2 (Nat.le_refl _)
        have h3 := ((h.stored (k*2) (.int .i64 l[k].x)).1.stored (k*2+1) (.int .i64 l[k].y)).1
        rw [csl_set _ k l[k] (by simp; omega)] at h3
        exact h3
      case measure => simp [intOf]; omega
    · obtain rfl : k = l.length := by omega
      go_wp2
      go_ret
      exact ⟨_, rfl, by simpa using hown, hbw⟩

set_option maxHeartbeats 1000000 in
theorem eqCellS_c (l m : List Cel) (A B : Option Addr) (n c n' c' : Nat) (w : World) (hl : Rd w 2 A n (csl l)) (hm : Rd w 2 B n' (csl m)) (hb : n ≤ 4194304) (hb' : n' ≤ 4194304) :
    Calls Try.prog 26 #[.slice A n c, .slice B n' c'] w fun e w' => e = .returned (.bool (decide (l = m))) ∧ Below w.heap.size w w' := by
  obtain rfl := hl.len2
  obtain rfl := hm.len2
  by_cases hn : l.length = m.length
  · have hn1 : ((l.length : Int) == (m.length : Int)) = true := by simp [hn]
    have hn2 : ((l.length : Int) != (m.length : Int)) = false := by simp [hn]
    have HN := Lib.hid hn
    clear hn
    go_enter Try.func26, Try.ntmps26
    go_wp2
    go_loopw [5] (fun i wr => ∃ k : Nat, k ≤ l.length ∧ i = .int .i64 k ∧ l.take k = m.take k ∧ Below w.heap.size w wr) (fun i _ => l.length - (intOf i).toNat)
    case atStart => exact ⟨0, Nat.zero_le _, rfl, rfl, Below.refl _ _⟩
    case round =>
      obtain ⟨k, hk, rfl, hpre, hbw⟩ := hrel
      have HPRE := Lib.hid hpre
      clear hpre hn1 hn2
      by_cases hlt : k < l.length
      · have hlt' : k < m.length := by rw [← HN.out]; exact hlt
        obtain ⟨g, off, rfl, hg, c0, c1⟩ := (hl.below hbw (Nat.le_refl _)).cels hlt
        obtain ⟨g', off', rfl, hg', d0, d1⟩ := (hm.below hbw (Nat.le_refl _)).cels hlt'
        have k0 : (0 : Int) ≤ (k : Int) := by omega
        have k1 : (k : Int) < (l.length : Int) := by omega
        have k2 : (k : Int) < (m.length : Int) := by omega
        have hsz := hbw.size
        have HS := Lib.hid (show cEq l[k].x l[k].y m[k].x m[k].y = true → l.take (k+1) = m.take (k+1) by
          intro h; rw [cEq_cel] at h; exact take_succ_eq l m k HPRE.out hlt hlt' (by simpa using h))
        have HR := Lib.hid (show cEq l[k].x l[k].y m[k].x m[k].y = false → decide (l = m) = false by
          intro h; rw [cEq_cel] at h; rw [decide_eq_false_iff_not] at h ⊢; rintro rfl; exact h rfl)
        go_wp2
        go_region_held3 (fun w' => w'.cell? ⟨g, off + k * 2, none⟩ = some (.int .i64 l[k].x) ∧ w'.cell? ⟨g, off + k * 2 + 1, none⟩ = some (.int .i64 l[k].y) ∧ w'.cell? ⟨g', off' + k * 2, none⟩ = some (.int .i64 m[k].x) ∧ w'.cell? ⟨g', off' + k * 2 + 1, none⟩ = some (.int .i64 m[k].y)) (go_keep) ((go_at_call 60; refine (eqCell_c _ _ _ _ _).mono ?_; rintro e w2 ⟨rfl, hb2⟩; have x0 := (hb2.cell (p := ⟨g, off + k * 2, none⟩) hg).trans c0; have x1 := (hb2.cell (p := ⟨g, off + k * 2 + 1, none⟩) hg).trans c1; have y0 := (hb2.cell (p := ⟨g', off' + k * 2, none⟩) hg').trans d0; have y1 := (hb2.cell (p := ⟨g', off' + k * 2 + 1, none⟩) hg').trans d1))
        all_goals go_wp2
        all_goals first
          | (go_roundw; (case rel => exact ⟨k + 1, by omega, by go_num, HS.out (by first | assumption | simp_all), by ((repeat (first | exact Below.refl _ _ | with_reducible assumption | refine Below.alloc0 ?_ _ | refine Below.step0 ?_ (by with_reducible assumption) | refine Below.step ?_ (by with_reducible assumption) ?_ | refine Below.alloc ?_ ?_ _ | refine Below.drew ?_ | refine below_drewN ?_ _ | refine Below.setCell ?_ ?_ _)) <;> (first | omega | exact hsz | exact Below.size (by with_reducible assumption) | (simp; done) | (simp; omega) | (simp at *; omega)))⟩); (case measure => simp [intOf]; omega))
          | (go_ret; exact ⟨ret_bool (HR.out (by first | assumption | simp_all)).symm, by ((repeat (first | exact Below.refl _ _ | with_reducible assumption | refine Below.alloc0 ?_ _ | refine Below.step0 ?_ (by with_reducible assumption) | refine Below.step ?_ (by with_reducible assumption) ?_ | refine Below.alloc ?_ ?_ _ | refine Below.drew ?_ | refine below_drewN ?_ _ | refine Below.setCell ?_ ?_ _)) <;> (first | omega | exact hsz | exact Below.size (by with_reducible assumption) | (simp; done) | (simp; omega) | (simp at *; omega)))⟩)
      · obtain rfl : k = l.length := by omega
        have hd : l = m := by
          have h := HPRE.out
          rw [List.take_of_length_le (Nat.le_refl _), List.take_of_length_le (by rw [HN.out]; exact Nat.le_refl _)] at h
          exact h
        have HR := Lib.hid (show decide (l = m) = true by simpa using hd)
        clear hd
        go_wp2
        go_ret
        exact ⟨ret_bool HR.out.symm, hbw⟩
  · have hn1 : ((l.length : Int) == (m.length : Int)) = false := by rw [beq_eq_false_iff_ne]; omega
    have hn2 : ((l.length : Int) != (m.length : Int)) = true := by rw [bne_iff_ne]; omega
    have HR := Lib.hid (show decide (l = m) = false by rw [decide_eq_false_iff_not]; rintro rfl; exact hn rfl)
    go_enter Try.func26, Try.ntmps26
    go_wp2
    go_ret
    exact ⟨ret_bool HR.out.symm, Below.refl _ _⟩

def seqC (k : Int) (n : Nat) : List Cel := (List.range n).map fun (i : Nat) => ⟨k + 2 * (i : Int), k + 2 * (i : Int) + 1⟩
theorem seqC_len (k : Int) (n : Nat) : (seqC k n).length = n := by simp [seqC]
theorem seqC_get (k : Int) (n i : Nat) (h : i < (seqC k n).length) : (seqC k n)[i] = ⟨k + 2 * (i : Int), k + 2 * (i : Int) + 1⟩ := by simp [seqC]
set_option maxHeartbeats 1000000 in
theorem markCellS_c (l : List Cel) (A : Option Addr) (n c B : Nat) (k0 : Int) (w : World) (hown : w.ownsRow B 53 2 (.slice A n c) n (csl l)) (hb : n ≤ 4194304) (hk0 : 0 ≤ k0) (hk1 : k0 ≤ 1099511627776) :
    Calls Try.prog 27 #[.slice A n c, .int .i64 k0] w fun e w' => e = .returned (.int .i64 (k0 + 2 * n)) ∧ w'.ownsRow B 53 2 (.slice A n c) n (csl (seqC k0 n)) ∧ w.grownBy w' (Value.slice A n c).ownBlock ∧ Below B w w' := by
  obtain rfl := (own_rd hown).len2
  go_enter Try.func27, Try.ntmps27
  go_wp2
  go_loopw [1, 5] (fun m i wr => ∃ k : Nat, k ≤ l.length ∧ i = .int .i64 k ∧ m = .int .i64 (k0 + 2 * k) ∧ wr.ownsRow B 53 2 (.slice A l.length c) l.length (csl ((seqC k0 l.length).take k ++ l.drop k)) ∧ w.grownBy wr (Value.slice A l.length c).ownBlock ∧ Below B w wr) (fun _ i _ => l.length - (intOf i).toNat)
  case atStart => exact ⟨0, Nat.zero_le _, rfl, by simp, by simpa using hown, grown_refl _ _, Below.refl _ _⟩
  case round =>
    obtain ⟨k, hk, rfl, rfl, hown', hgr, hbw⟩ := hrel
    have HGR := Lib.hid hgr
    clear hown hgr
    by_cases hlt : k < l.length
    · obtain ⟨g, rfl, hg1, hg2⟩ := own_some hown' (by omega)
      have hset := Lib.hid (set_take (seqC k0 l.length) l k (by rw [seqC_len]; exact hlt) (by rw [seqC_len]))
      have HOWN := Lib.hid hown'
      have hlen : k < ((seqC k0 l.length).take k ++ l.drop k).length := by simp [seqC_len]; omega
      obtain ⟨g', off', he', _, d0, d1⟩ := (own_rd hown').cels hlen
      injection he' with he'
      injection he' with he1 he2
      subst he1; subst he2
      simp only [Nat.zero_add] at d0 d1
      generalize ((seqC k0 l.length).take k ++ l.drop k)[k]'hlen = dd at d0 d1
      have f0 := hown'.frozenAt (k*2)
      have f1 := hown'.frozenAt (k*2+1)
      clear hown' hlen
      go_wp2
      go_roundw
      case rel =>
        refine ⟨k + 1, by omega, by go_num, int_eq (by omega), ?_, grown_set (p := ⟨g, k * 2 + 1, none⟩) (grown_set (p := ⟨g, k * 2, none⟩) HGR.out rfl _) rfl _, (hbw.setCell hg1 _).setCell hg1 _⟩
        have h1 := hset.out
        rw [seqC_get] at h1
        rw [← h1]
        have h3 := ((HOWN.out.stored (k*2) (.int .i64 (k0 + 2 * k))).1.stored (k*2+1) (.int .i64 (k0 + 2 * k + 1))).1
        rw [csl_set _ k ⟨k0 + 2 * (k : Int), k0 + 2 * (k : Int) + 1⟩ (by simp [seqC_len]; omega)] at h3
        exact h3
      case measure => simp [intOf]; omega
    · obtain rfl : k = l.length := by omega
      go_wp2
      go_ret
      refine ⟨rfl, ?_, HGR.out, hbw⟩
      have h := hown'
      rw [List.take_of_length_le (by rw [seqC_len]; exact Nat.le_refl _)] at h
      simpa using h

set_option maxHeartbeats 1000000 in
theorem heldCellS_c (A : Option Addr) (n c : Nat) (k0 : Int) (w : World) (hrd : Rd w 2 A n (csl (seqC k0 n))) (hb : n ≤ 4194304) (hk0 : 0 ≤ k0) (hk1 : k0 ≤ 1099511627776) :
    Calls Try.prog 28 #[.slice A n c, .int .i64 k0] w fun e w' => e = .returned (.int .i64 (k0 + 2 * n)) ∧ Below w.heap.size w w' := by
  go_enter Try.func28, Try.ntmps28
  go_wp2
  go_loopw [1, 5] (fun m i wr => ∃ k : Nat, k ≤ n ∧ i = .int .i64 k ∧ m = .int .i64 (k0 + 2 * k) ∧ Below w.heap.size w wr) (fun _ i _ => n - (intOf i).toNat)
  case atStart => exact ⟨0, Nat.zero_le _, rfl, by simp, Below.refl _ _⟩
  case round =>
    obtain ⟨k, hk, rfl, rfl, hbw⟩ := hrel
    have hsz := hbw.size
    by_cases hlt : k < n
    · obtain ⟨g, off, rfl, hg, c0, c1⟩ := (hrd.below hbw (Nat.le_refl _)).cels (k := k) (by rw [seqC_len]; exact hlt)
      rw [seqC_get] at c0 c1
      simp only at c0 c1
      go_wp2
      go_roundw
      case rel => exact ⟨k + 1, by omega, by go_num, int_eq (by omega), by ((repeat (first | exact Below.refl _ _ | with_reducible assumption | refine Below.alloc0 ?_ _ | refine Below.step0 ?_ (by with_reducible assumption) | refine Below.step ?_ (by with_reducible assumption) ?_ | refine Below.alloc ?_ ?_ _ | refine Below.drew ?_ | refine below_drewN ?_ _ | refine Below.setCell ?_ ?_ _)) <;> (first | omega | exact hsz | exact Below.size (by with_reducible assumption) | (simp; done) | (simp; omega) | (simp at *; omega)))⟩
      case measure => simp [intOf]; omega
    · obtain rfl : k = n := by omega
      go_wp2
      go_ret
      exact ⟨rfl, hbw⟩
end Go.Proofs.Ytgeeiecmlpknoaa
