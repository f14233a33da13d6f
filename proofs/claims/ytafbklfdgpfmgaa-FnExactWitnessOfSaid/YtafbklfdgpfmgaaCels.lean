
/- The law's own helpers over cells: toCell, toCellS, eqCell, eqCellS, szCellS, markCellS, heldCellS, each by a contract. -/
import Derived.Test.YtafbklfdgpfmgaaInts
import Derived.Test.YtafbklfdgpfmgaaCells
namespace Go.Proofs.Ytafbklfdgpfmgaa
open Go.ChangeShapes Go.WideShapes Go.ChangeAt Go.RowKit

def cEq (x y x' y' : Int) : Bool := decide (x = x' ∧ y = y')
theorem cEq_cel (a b : Cel) : cEq a.x a.y b.x b.y = decide (a = b) := by
  unfold cEq; cases a; cases b; simp
theorem eqCell_c (x y x' y' : Int) (w : World) :
    Calls Try.prog 68 #[.agg #[.int .i64 x, .int .i64 y], .agg #[.int .i64 x', .int .i64 y']] w fun e w' => e = .returned (.bool (cEq x y x' y')) ∧ Below w.heap.size w w' := by
  go_enter Try.func68, Try.ntmps68
  go_wp2
  all_goals (go_ret; refine ⟨ret_bool ?_, by ((repeat (first | exact Below.refl _ _ | with_reducible assumption | refine Below.alloc0 ?_ _ | refine Below.step0 ?_ (by with_reducible assumption) | refine Below.step ?_ (by with_reducible assumption) ?_ | refine Below.alloc ?_ ?_ _ | refine Below.drew ?_ | refine below_drewN ?_ _ | refine Below.setCell ?_ ?_ _)) <;> (first | omega | exact hsz | exact Below.size (by with_reducible assumption) | (simp; done) | (simp; omega) | (simp at *; omega)))⟩; unfold cEq; simp_all)
theorem run_neq_cel (x y x' y' : Int) (w : World) :
    (binOp .neq 49 (.agg #[.int .i64 x, .int .i64 y]) (.agg #[.int .i64 x', .int .i64 y'])).run Try.prog w = .ok (.bool (!cEq x y x' y')) w := by
  have h1 := Try.underlying49
  simp only [binOp]
  simp [Op.equal, Op.maxDepth, go_sem, h1]
  unfold cEq
  by_cases e1 : x = x' <;> by_cases e2 : y = y' <;> simp [e1, e2]
theorem run_eql_cel (x y x' y' : Int) (w : World) :
    (binOp .eql 49 (.agg #[.int .i64 x, .int .i64 y]) (.agg #[.int .i64 x', .int .i64 y'])).run Try.prog w = .ok (.bool (cEq x y x' y')) w := by
  have h1 := Try.underlying49
  simp only [binOp]
  simp [Op.equal, Op.maxDepth, go_sem, h1]
  unfold cEq
  by_cases e1 : x = x' <;> by_cases e2 : y = y' <;> simp [e1, e2]
theorem info_cel : (Try.prog.info? 49).map (fun i => (i.zero, i.size, i.bytes)) = some (some (.agg #[.int .i64 0, .int .i64 0]), 2, 16) := by kernel_rfl
def cel0 : Cel := ⟨0, 0⟩
theorem made_cels (n : Nat) : (madeCells (Value.agg #[.int .i64 0, .int .i64 0]).cells (n * 2)).toList = csl (List.replicate n cel0) := by
  apply List.ext_getElem?
  intro i
  by_cases hi : i < n * 2
  · have hk : i / 2 < n := by omega
    have h := flatMap_get Cel.cs 2 (fun _ => rfl) (List.replicate n cel0) (i / 2) (i % 2) (by simpa using hk) (by omega)
    rw [show i / 2 * 2 + i % 2 = i by omega] at h
    unfold csl
    rw [h]
    have hm : i % 2 = 0 ∨ i % 2 = 1 := by omega
    simp only [madeCells, Value.cells]
    rcases hm with hm | hm <;> simp [hi, hm, cel0, Cel.cs, List.getElem?_eq_getElem, Array.getElem_toList]
  · rw [List.getElem?_eq_none (by simp [madeCells]; omega), List.getElem?_eq_none (by rw [csl_len]; simp; omega)]
theorem csl_set (l : List Cel) (k : Nat) (d : Cel) (h : k < l.length) :
    ((csl l).set (k*2) (.int .i64 d.x)).set (k*2+1) (.int .i64 d.y) = csl (l.set k d) := by
  induction l generalizing k with
  | nil => simp at h
  | cons a l ih =>
    cases k with
    | zero => simp [csl, Cel.cs]
    | succ k =>
      have := ih k (by simpa using h)
      simp only [csl, List.flatMap_cons, List.set_cons_succ] at this ⊢
      rw [← this]
      simp only [Cel.cs, List.cons_append, List.nil_append]
      rw [show (k+1)*2 = k*2+2 by omega]
      simp

set_option maxHeartbeats 1000000 in
theorem eqCellS_c (l m : List Cel) (A B : Option Addr) (n c n' c' : Nat) (w : World) (hl : Rd w 2 A n (csl l)) (hm : Rd w 2 B n' (csl m)) (hb : n ≤ 4194304) (hb' : n' ≤ 4194304) :
    Calls Try.prog 28 #[.slice A n c, .slice B n' c'] w fun e w' => e = .returned (.bool (decide (l = m))) ∧ Below w.heap.size w w' := by
  obtain rfl := hl.len2
  obtain rfl := hm.len2
  by_cases hn : l.length = m.length
  · have hn1 : ((l.length : Int) == (m.length : Int)) = true := by simp [hn]
    have hn2 : ((l.length : Int) != (m.length : Int)) = false := by simp [hn]
    have HN := Lib.hid hn
    clear hn
    go_enter Try.func28, Try.ntmps28
    go_wp2
    go_loopw [5] (fun i wr => ∃ k : Nat, k ≤ l.length ∧ i = .int .i64 k ∧ l.take k = m.take k ∧ Below w.heap.size w wr) (fun i _ => l.length - (intOf i).toNat)
    case atStart => exact ⟨0, Nat.zero_le _, rfl, rfl, Below.refl _ _⟩
    case round =>
      obtain ⟨k, hk, rfl, hpre, hbw⟩ := hrel
      have HPRE := Lib.hid hpre
      clear hpre hn1 hn2
      by_cases hlt : k < l.length
      · have hlt' : k < m.length := by rw [← HN.out]; exact hlt
        obtain ⟨g, off, rfl, hg, c0, c1⟩ := (hl.below hbw (Nat.le_refl _)).cels hlt
        obtain ⟨g', off', rfl, hg', d0, d1⟩ := (hm.below hbw (Nat.le_refl _)).cels hlt'
        have k0 : (0 : Int) ≤ (k : Int) := by omega
        have k1 : (k : Int) < (l.length : Int) := by omega
        have k2 : (k : Int) < (m.length : Int) := by omega
        have hsz := hbw.size
        have HS := Lib.hid (show cEq l[k].x l[k].y m[k].x m[k].y = true → l.take (k+1) = m.take (k+1) by
          intro h; rw [cEq_cel] at h; exact take_succ_eq l m k HPRE.out hlt hlt' (by simpa using h))
        have HR := Lib.hid (show cEq l[k].x l[k].y m[k].x m[k].y = false → decide (l = m) = false by
          intro h; rw [cEq_cel] at h; rw [decide_eq_false_iff_not] at h ⊢; rintro rfl; exact h rfl)
        go_wp2
        go_region_held3 (fun w' => w'.cell? ⟨g, off + k * 2, none⟩ = some (.int .i64 l[k].x) ∧ w'.cell? ⟨g, off + k * 2 + 1, none⟩ = some (.int .i64 l[k].y) ∧ w'.cell? ⟨g', off' + k * 2, none⟩ = some (.int .i64 m[k].x) ∧ w'.cell? ⟨g', off' + k * 2 + 1, none⟩ = some (.int .i64 m[k].y)) (go_keep) ((go_at_call 68; refine (eqCell_c _ _ _ _ _).mono ?_; rintro e w2 ⟨rfl, hb2⟩; have x0 := (hb2.cell (p := ⟨g, off + k * 2, none⟩) hg).trans c0; have x1 := (hb2.cell (p := ⟨g, off + k * 2 + 1, none⟩) hg).trans c1; have y0 := (hb2.cell (p := ⟨g', off' + k * 2, none⟩) hg').trans d0; have y1 := (hb2.cell (p := ⟨g', off' + k * 2 + 1, none⟩) hg').trans d1))
        all_goals go_wp2
        all_goals first
          | (go_roundw; (case rel => exact ⟨k + 1, by omega, by go_num, HS.out (by first | assumption | simp_all), by ((repeat (first | exact Below.refl _ _ | with_reducible assumption | refine Below.alloc0 ?_ _ | refine Below.step0 ?_ (by with_reducible assumption) | refine Below.step ?_ (by with_reducible assumption) ?_ | refine Below.alloc ?_ ?_ _ | refine Below.drew ?_ | refine below_drewN ?_ _ | refine Below.setCell ?_ ?_ _)) <;> (first | omega | exact hsz | exact Below.size (by with_reducible assumption) | (simp; done) | (simp; omega) | (simp at *; omega)))⟩); (case measure => simp [intOf]; omega))
          | (go_ret; exact ⟨ret_bool (HR.out (by first | assumption | simp_all)).symm, by ((repeat (first | exact Below.refl _ _ | with_reducible assumption | refine Below.alloc0 ?_ _ | refine Below.step0 ?_ (by with_reducible assumption) | refine Below.step ?_ (by with_reducible assumption) ?_ | refine Below.alloc ?_ ?_ _ | refine Below.drew ?_ | refine below_drewN ?_ _ | refine Below.setCell ?_ ?_ _)) <;> (first | omega | exact hsz | exact Below.size (by with_reducible assumption) | (simp; done) | (simp; omega) | (simp at *; omega)))⟩)
      · obtain rfl : k = l.length := by omega
        have hd : l = m := by
          have h := HPRE.out
          rw [List.take_of_length_le (Nat.le_refl _), List.take_of_length_le (by rw [HN.out]; exact Nat.le_refl _)] at h
          exact h
        have HR := Lib.hid (show decide (l = m) = true by simpa using hd)
        clear hd
        go_wp2
        go_ret
        exact ⟨ret_bool HR.out.symm, hbw⟩
  · have hn1 : ((l.length : Int) == (m.length : Int)) = false := by rw [beq_eq_false_iff_ne]; omega
    have hn2 : ((l.length : Int) != (m.length : Int)) = true := by rw [bne_iff_ne]; omega
    have HR := Lib.hid (show decide (l = m) = false by rw [decide_eq_false_iff_not]; rintro rfl; exact hn rfl)
    go_enter Try.func28, Try.ntmps28
    go_wp2
    go_ret
    exact ⟨ret_bool HR.out.symm, Below.refl _ _⟩

def seqC (k : Int) (n : Nat) : List Cel := (List.range n).map fun (i : Nat) => ⟨k + 2 * (i : Int), k + 2 * (i : Int) + 1⟩
theorem seqC_len (k : Int) (n : Nat) : (seqC k n).length = n := by simp [seqC]
theorem seqC_get (k : Int) (n i : Nat) (h : i < (seqC k n).length) : (seqC k n)[i] = ⟨k + 2 * (i : Int), k + 2 * (i : Int) + 1⟩ := by simp [seqC]
set_option maxHeartbeats 1000000 in
theorem markCellS_c (l : List Cel) (A : Option Addr) (n c B : Nat) (k0 : Int) (w : World) (hown : w.ownsRow B 49 2 (.slice A n c) n (csl l)) (hb : n ≤ 4194304) (hk0 : 0 ≤ k0) (hk1 : k0 ≤ 1099511627776) :
    Calls Try.prog 29 #[.slice A n c, .int .i64 k0] w fun e w' => e = .returned (.int .i64 (k0 + 2 * n)) ∧ w'.ownsRow B 49 2 (.slice A n c) n (csl (seqC k0 n)) ∧ w.grownBy w' (Value.slice A n c).ownBlock ∧ Below B w w' := by
  obtain rfl := (own_rd hown).len2
  go_enter Try.func29, Try.ntmps29
  go_wp2
  go_loopw [1, 5] (fun m i wr => ∃ k : Nat, k ≤ l.length ∧ i = .int .i64 k ∧ m = .int .i64 (k0 + 2 * k) ∧ wr.ownsRow B 49 2 (.slice A l.length c) l.length (csl ((seqC k0 l.length).take k ++ l.drop k)) ∧ w.grownBy wr (Value.slice A l.length c).ownBlock ∧ Below B w wr) (fun _ i _ => l.length - (intOf i).toNat)
  case atStart => exact ⟨0, Nat.zero_le _, rfl, by simp, by simpa using hown, grown_refl _ _, Below.refl _ _⟩
  case round =>
    obtain ⟨k, hk, rfl, rfl, hown', hgr, hbw⟩ := hrel
    have HGR := Lib.hid hgr
    clear hown hgr
    by_cases hlt : k < l.length
    · obtain ⟨g, rfl, hg1, hg2⟩ := own_some hown' (by omega)
      have hset := Lib.hid (set_take (seqC k0 l.length) l k (by rw [seqC_len]; exact hlt) (by rw [seqC_len]))
      have HOWN := Lib.hid hown'
      have hlen : k < ((seqC k0 l.length).take k ++ l.drop k).length := by simp [seqC_len]; omega
      obtain ⟨g', off', he', _, d0, d1⟩ := (own_rd hown').cels hlen
      injection he' with he'
      injection he' with he1 he2
      subst he1; subst he2
      simp only [Nat.zero_add] at d0 d1
      generalize ((seqC k0 l.length).take k ++ l.drop k)[k]'hlen = dd at d0 d1
      have f0 := hown'.frozenAt (k*2)
      have f1 := hown'.frozenAt (k*2+1)
      clear hown' hlen
      go_wp2
      go_roundw
      case rel =>
        refine ⟨k + 1, by omega, by go_num, int_eq (by omega), ?_, grown_set (p := ⟨g, k * 2 + 1, none⟩) (grown_set (p := ⟨g, k * 2, none⟩) HGR.out rfl _) rfl _, (hbw.setCell hg1 _).setCell hg1 _⟩
        have h1 := hset.out
        rw [seqC_get] at h1
        rw [← h1]
        have h3 := ((HOWN.out.stored (k*2) (.int .i64 (k0 + 2 * k))).1.stored (k*2+1) (.int .i64 (k0 + 2 * k + 1))).1
        rw [csl_set _ k ⟨k0 + 2 * (k : Int), k0 + 2 * (k : Int) + 1⟩ (by simp [seqC_len]; omega)] at h3
        exact h3
      case measure => simp [intOf]; omega
    · obtain rfl : k = l.length := by omega
      go_wp2
      go_ret
      refine ⟨rfl, ?_, HGR.out, hbw⟩
      have h := hown'
      rw [List.take_of_length_le (by rw [seqC_len]; exact Nat.le_refl _)] at h
      simpa using h

set_option maxHeartbeats 1000000 in
theorem heldCellS_c (A : Option Addr) (n c : Nat) (k0 : Int) (w : World) (hrd : Rd w 2 A n (csl (seqC k0 n))) (hb : n ≤ 4194304) (hk0 : 0 ≤ k0) (hk1 : k0 ≤ 1099511627776) :
    Calls Try.prog 30 #[.slice A n c, .int .i64 k0] w fun e w' => e = .returned (.int .i64 (k0 + 2 * n)) ∧ Below w.heap.size w w' := by
  go_enter Try.func30, Try.ntmps30
  go_wp2
  go_loopw [1, 5] (fun m i wr => ∃ k : Nat, k ≤ n ∧ i = .int .i64 k ∧ m = .int .i64 (k0 + 2 * k) ∧ Below w.heap.size w wr) (fun _ i _ => n - (intOf i).toNat)
  case atStart => exact ⟨0, Nat.zero_le _, rfl, by simp, Below.refl _ _⟩
  case round =>
    obtain ⟨k, hk, rfl, rfl, hbw⟩ := hrel
    have hsz := hbw.size
    by_cases hlt : k < n
    · obtain ⟨g, off, rfl, hg, c0, c1⟩ := (hrd.below hbw (Nat.le_refl _)).cels (k := k) (by rw [seqC_len]; exact hlt)
      rw [seqC_get] at c0 c1
      simp only at c0 c1
      go_wp2
      go_roundw
      case rel => exact ⟨k + 1, by omega, by go_num, int_eq (by omega), by ((repeat (first | exact Below.refl _ _ | with_reducible assumption | refine Below.alloc0 ?_ _ | refine Below.step0 ?_ (by with_reducible assumption) | refine Below.step ?_ (by with_reducible assumption) ?_ | refine Below.alloc ?_ ?_ _ | refine Below.drew ?_ | refine below_drewN ?_ _ | refine Below.setCell ?_ ?_ _)) <;> (first | omega | exact hsz | exact Below.size (by with_reducible assumption) | (simp; done) | (simp; omega) | (simp at *; omega)))⟩
      case measure => simp [intOf]; omega
    · obtain rfl : k = n := by omega
      go_wp2
      go_ret
      exact ⟨rfl, hbw⟩
end Go.Proofs.Ytafbklfdgpfmgaa
