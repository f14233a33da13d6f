
/- The law's own helpers over []Domino: toDomino, toDominoS, eqDomino, eqDominoS, szDominoS, markDominoS, heldDominoS, each by a contract. -/
import Derived.Test.YtgmckbchcpfhcaaInts
import Derived.Test.YtgmckbchcpfhcaaCells
namespace Go.Proofs.Ytgmckbchcpfhcaa
open Go.ChangeShapes Go.WideShapes Go.ChangeAt Go.RowKit

theorem toDomino_c (x y : Int) (d : Bool) (w : World) :
    Calls Try.prog 39 #[.agg #[.int .i64 x, .int .i64 y, .bool d]] w fun e w' => e = .returned (.agg #[.int .i64 x, .int .i64 y, .bool d]) ∧ Below w.heap.size w w' := by
  go_enter Try.func39, Try.ntmps39
  go_wp2
  exact bodyPost_ret (v := .agg #[.int .i64 x, .int .i64 y, .bool d]) (by simp [results, Try.results39, go_sem]) rfl ⟨rfl, by ((repeat (first | exact Below.refl _ _ | with_reducible assumption | refine Below.alloc0 ?_ _ | refine Below.step0 ?_ (by with_reducible assumption) | refine Below.step ?_ (by with_reducible assumption) ?_ | refine Below.alloc ?_ ?_ _ | refine Below.drew ?_ | refine below_drewN ?_ _ | refine Below.setCell ?_ ?_ _)) <;> (first | omega | exact hsz | exact Below.size (by with_reducible assumption) | (simp; done) | (simp; omega) | (simp at *; omega)))⟩
def dEq (x y : Int) (d : Bool) (x' y' : Int) (d' : Bool) : Bool := decide (x = x' ∧ y = y' ∧ d = d')
theorem dEq_dom (a b : Dom) : dEq a.x a.y a.d b.x b.y b.d = decide (a = b) := by
  unfold dEq; cases a; cases b; simp
theorem run_neq_dom (x y : Int) (d : Bool) (x' y' : Int) (d' : Bool) (w : World) :
    (binOp .neq 57 (.agg #[.int .i64 x, .int .i64 y, .bool d]) (.agg #[.int .i64 x', .int .i64 y', .bool d'])).run Try.prog w = .ok (.bool (!dEq x y d x' y' d')) w := by
  have h1 := Try.underlying57
  simp only [binOp]
  simp [Op.equal, Op.maxDepth, go_sem, h1]
  unfold dEq
  by_cases e1 : x = x' <;> by_cases e2 : y = y' <;> by_cases e3 : d = d' <;> simp [e1, e2, e3]
theorem run_eql_dom (x y : Int) (d : Bool) (x' y' : Int) (d' : Bool) (w : World) :
    (binOp .eql 57 (.agg #[.int .i64 x, .int .i64 y, .bool d]) (.agg #[.int .i64 x', .int .i64 y', .bool d'])).run Try.prog w = .ok (.bool (dEq x y d x' y' d')) w := by
  have h1 := Try.underlying57
  simp only [binOp]
  simp [Op.equal, Op.maxDepth, go_sem, h1]
  unfold dEq
  by_cases e1 : x = x' <;> by_cases e2 : y = y' <;> by_cases e3 : d = d' <;> simp [e1, e2, e3]
theorem eqDomino_c (x y : Int) (d : Bool) (x' y' : Int) (d' : Bool) (w : World) :
    Calls Try.prog 41 #[.agg #[.int .i64 x, .int .i64 y, .bool d], .agg #[.int .i64 x', .int .i64 y', .bool d']] w fun e w' => e = .returned (.bool (dEq x y d x' y' d')) ∧ Below w.heap.size w w' := by
  go_enter Try.func41, Try.ntmps41
  go_wp2
  all_goals (go_ret; refine ⟨ret_bool ?_, by ((repeat (first | exact Below.refl _ _ | with_reducible assumption | refine Below.alloc0 ?_ _ | refine Below.step0 ?_ (by with_reducible assumption) | refine Below.step ?_ (by with_reducible assumption) ?_ | refine Below.alloc ?_ ?_ _ | refine Below.drew ?_ | refine below_drewN ?_ _ | refine Below.setCell ?_ ?_ _)) <;> (first | omega | exact hsz | exact Below.size (by with_reducible assumption) | (simp; done) | (simp; omega) | (simp at *; omega)))⟩; unfold dEq; simp_all)
theorem szDominoS_c (left : Int) (A : Option Addr) (n c : Nat) (h0 : 0 ≤ left) (h1 : left ≤ 1048576) (h2 : n ≤ 9223372036854775807) (w : World) :
    Calls Try.prog 15 #[.slice A n c, .int .i64 left] w fun e w' => e = .returned (.int .i64 (if left < n then -1 else left - n)) ∧ w = w' := by
  go_enter Try.func15, Try.ntmps15
  go_wp2
  all_goals (go_ret; refine ⟨ret_int ?_, rfl⟩; first | rfl | rw [if_pos (by omega)] | rw [if_neg (by omega)])

theorem info_dom : (Try.prog.info? 57).map (fun i => (i.zero, i.size, i.bytes)) = some (some (.agg #[.int .i64 0, .int .i64 0, .bool false]), 3, 24) := by kernel_rfl
def dom0 : Dom := ⟨0, 0, false⟩
theorem made_doms (n : Nat) : (madeCells (Value.agg #[.int .i64 0, .int .i64 0, .bool false]).cells (n * 3)).toList = dsl (List.replicate n dom0) := by
  apply List.ext_getElem?
  intro i
  by_cases hi : i < n * 3
  · have hk : i / 3 < n := by omega
    have h := flatMap_get Dom.cs 3 (fun _ => rfl) (List.replicate n dom0) (i / 3) (i % 3) (by simpa using hk) (by omega)
    rw [show i / 3 * 3 + i % 3 = i by omega] at h
    unfold dsl
    rw [h]
    have hm : i % 3 = 0 ∨ i % 3 = 1 ∨ i % 3 = 2 := by omega
    simp only [madeCells, Value.cells]
    rcases hm with hm | hm | hm <;> simp [hi, hm, dom0, Dom.cs, List.getElem?_eq_getElem, Array.getElem_toList]
  · rw [List.getElem?_eq_none (by simp [madeCells]; omega), List.getElem?_eq_none (by rw [dsl_len]; simp; omega)]
theorem dsl_set (l : List Dom) (k : Nat) (d : Dom) (h : k < l.length) :
    (((dsl l).set (k*3) (.int .i64 d.x)).set (k*3+1) (.int .i64 d.y)).set (k*3+2) (.bool d.d) = dsl (l.set k d) := by
  induction l generalizing k with
  | nil => simp at h
  | cons a l ih =>
    cases k with
    | zero => simp [dsl, Dom.cs]
    | succ k =>
      have := ih k (by simpa using h)
      simp only [dsl, List.flatMap_cons, List.set_cons_succ] at this ⊢
      rw [← this]
      simp only [Dom.cs, List.cons_append, List.nil_append]
      rw [show (k+1)*3 = k*3+3 by omega]
      simp

set_option maxHeartbeats 400000 in
theorem toDominoS_c (l : List Dom) (A : Option Addr) (n c : Nat) (w : World) (hrd : RdA w 3 A n (dsl l)) (hl : n ≤ 1048576) :
    Calls Try.prog 17 #[.slice A n c] w fun e w' => ∃ v, e = .returned v ∧ w'.ownsRow w.heap.size 57 3 v n (dsl l) ∧ Below w.heap.size w w' := by
  obtain rfl : n = l.length := by have := hrd.1; rw [dsl_len] at this; omega
  obtain ⟨i0, hi, hz0, hz1, hz2⟩ := info_parts info_dom
  have hmk := run_makeN (P := Try.prog) 38 57 i0 _ Try.underlying38 hi hz0 l.length (by rw [hz2]; omega) (by unfold maxLen; omega)
  rw [hz1] at hmk
  have hown0 := own_new w 57 3 l.length (madeCells (Value.agg #[.int .i64 0, .int .i64 0, .bool false]).cells (l.length * 3)) (by rw [size_madeCells]) (by unfold maxLen; omega)
  rw [made_doms] at hown0
  have HO := Lib.hid hown0
  clear hown0
  go_enter Try.func17, Try.ntmps17
  go_wp2
  go_loopw [4] (fun i wr => ∃ k : Nat, k ≤ l.length ∧ i = .int .i64 k ∧ wr.ownsRow w.heap.size 57 3 (.slice (some ⟨w.heap.size, 0, none⟩) l.length l.length) l.length (dsl (l.take k ++ (List.replicate l.length dom0).drop k)) ∧ Below w.heap.size w wr) (fun i _ => l.length - (intOf i).toNat)
  case atStart => exact ⟨0, Nat.zero_le _, rfl, by simpa [Value.cells] using HO.out, (Below.refl _ _).alloc (Nat.le_refl _) _⟩
  case round =>
    obtain ⟨k, hk, rfl, hown, hbw⟩ := hrel
    clear HO hmk
    by_cases hlt : k < l.length
    · obtain ⟨ad, rfl, hg, c0, c1, c2⟩ := (hrd.below hbw (Nat.le_refl _)).doms hlt
      have hgw : w.heap.size < wr.heap.size := (hown.lt _ rfl).2
      have hset := Lib.hid (set_take l (List.replicate l.length dom0) k hlt (by simp))
      have HOWN := Lib.hid hown
      have hlen : k < (l.take k ++ (List.replicate l.length dom0).drop k).length := by simp; omega
      obtain ⟨g', off', he', _, d0, d1, d2⟩ := (own_rd hown).doms hlen
      injection he' with he'
      injection he' with he1 he2
      subst he1; subst he2
      simp only [Nat.zero_add] at d0 d1 d2
      have f0 := hown.frozenAt (k*3)
      have f1 := hown.frozenAt (k*3+1)
      have f2 := hown.frozenAt (k*3+2)
      generalize (l.take k ++ (List.replicate l.length dom0).drop k)[k]'hlen = dd at d0 d1 d2
      clear hown hlen
      go_wp2_with (go_at_call 39; refine (toDomino_c _ _ _ _).mono ?_; rintro e w2 ⟨rfl, hb2⟩; obtain ⟨hc2, hf2, hs2⟩ := bcell hb2)
      go_roundw
      case rel =>
        refine ⟨k + 1, by omega, by go_num, ?_, by ((repeat (first | exact Below.refl _ _ | with_reducible assumption | refine Below.alloc0 ?_ _ | refine Below.step0 ?_ (by with_reducible assumption) | refine Below.step ?_ (by with_reducible assumption) ?_ | refine Below.alloc ?_ ?_ _ | refine Below.drew ?_ | refine below_drewN ?_ _ | refine Below.setCell ?_ ?_ _)) <;> (first | omega | exact hsz | exact Below.size (by with_reducible assumption) | (simp; done) | (simp; omega) | (simp at *; omega)))⟩
        rw [← hset.out]
        have h := own_below HOWN.out hb2 (Nat.le_refl _)
        have h3 := (((h.stored (k*3) (.int .i64 l[k].x)).1.stored (k*3+1) (.int .i64 l[k].y)).1.stored (k*3+2) (.bool l[k].d)).1
        rw [dsl_set _ k l[k] (by simp; omega)] at h3
        exact h3
      case measure => simp [intOf]; omega
    · obtain rfl : k = l.length := by omega
      go_wp2
      go_ret
      exact ⟨_, rfl, by simpa using hown, hbw⟩

theorem dom_eq (a b : Dom) : (a.x = b.x ∧ a.y = b.y ∧ a.d = b.d) ↔ a = b := by cases a; cases b; simp
set_option maxHeartbeats 1000000 in
theorem eqDominoS_c (l m : List Dom) (A B : Option Addr) (n c n' c' : Nat) (w : World) (hl : Rd w 3 A n (dsl l)) (hm : Rd w 3 B n' (dsl m)) (hb : n ≤ 4194304) (hb' : n' ≤ 4194304) :
    Calls Try.prog 19 #[.slice A n c, .slice B n' c'] w fun e w' => e = .returned (.bool (decide (l = m))) ∧ Below w.heap.size w w' := by
  obtain rfl := hl.len3
  obtain rfl := hm.len3
  by_cases hn : l.length = m.length
  · have hn1 : ((l.length : Int) == (m.length : Int)) = true := by simp [hn]
    have hn2 : ((l.length : Int) != (m.length : Int)) = false := by simp [hn]
    have HN := Lib.hid hn
    clear hn
    go_enter Try.func19, Try.ntmps19
    go_wp2
    go_loopw [5] (fun i wr => ∃ k : Nat, k ≤ l.length ∧ i = .int .i64 k ∧ l.take k = m.take k ∧ Below w.heap.size w wr) (fun i _ => l.length - (intOf i).toNat)
    case atStart => exact ⟨0, Nat.zero_le _, rfl, rfl, Below.refl _ _⟩
    case round =>
      obtain ⟨k, hk, rfl, hpre, hbw⟩ := hrel
      have HPRE := Lib.hid hpre
      clear hpre hn1 hn2
      by_cases hlt : k < l.length
      · have hlt' : k < m.length := by rw [← HN.out]; exact hlt
        obtain ⟨g, off, rfl, hg, c0, c1, c2⟩ := (hl.below hbw (Nat.le_refl _)).doms hlt
        obtain ⟨g', off', rfl, hg', d0, d1, d2⟩ := (hm.below hbw (Nat.le_refl _)).doms hlt'
        have k0 : (0 : Int) ≤ (k : Int) := by omega
        have k1 : (k : Int) < (l.length : Int) := by omega
        have k2 : (k : Int) < (m.length : Int) := by omega
        have hsz := hbw.size
        have HS := Lib.hid (show dEq l[k].x l[k].y l[k].d m[k].x m[k].y m[k].d = true → l.take (k+1) = m.take (k+1) by
          intro h; rw [dEq_dom] at h; exact take_succ_eq l m k HPRE.out hlt hlt' (by simpa using h))
        have HR := Lib.hid (show dEq l[k].x l[k].y l[k].d m[k].x m[k].y m[k].d = false → decide (l = m) = false by
          intro h; rw [dEq_dom] at h; rw [decide_eq_false_iff_not] at h ⊢; rintro rfl; exact h rfl)
        go_wp2
        go_region_held3 (fun w' => w'.cell? ⟨g, off + k * 3, none⟩ = some (.int .i64 l[k].x) ∧ w'.cell? ⟨g, off + k * 3 + 1, none⟩ = some (.int .i64 l[k].y) ∧ w'.cell? ⟨g, off + k * 3 + 2, none⟩ = some (.bool l[k].d) ∧ w'.cell? ⟨g', off' + k * 3, none⟩ = some (.int .i64 m[k].x) ∧ w'.cell? ⟨g', off' + k * 3 + 1, none⟩ = some (.int .i64 m[k].y) ∧ w'.cell? ⟨g', off' + k * 3 + 2, none⟩ = some (.bool m[k].d)) (go_keep) ((go_at_call 41; refine (eqDomino_c _ _ _ _ _ _ _).mono ?_; rintro e w2 ⟨rfl, hb2⟩; have x0 := (hb2.cell (p := ⟨g, off + k * 3, none⟩) hg).trans c0; have x1 := (hb2.cell (p := ⟨g, off + k * 3 + 1, none⟩) hg).trans c1; have x2 := (hb2.cell (p := ⟨g, off + k * 3 + 2, none⟩) hg).trans c2; have y0 := (hb2.cell (p := ⟨g', off' + k * 3, none⟩) hg').trans d0; have y1 := (hb2.cell (p := ⟨g', off' + k * 3 + 1, none⟩) hg').trans d1; have y2 := (hb2.cell (p := ⟨g', off' + k * 3 + 2, none⟩) hg').trans d2))
        all_goals go_wp2
        all_goals first
          | (go_roundw; (case rel => exact ⟨k + 1, by omega, by go_num, HS.out (by first | assumption | simp_all), by ((repeat (first | exact Below.refl _ _ | with_reducible assumption | refine Below.alloc0 ?_ _ | refine Below.step0 ?_ (by with_reducible assumption) | refine Below.step ?_ (by with_reducible assumption) ?_ | refine Below.alloc ?_ ?_ _ | refine Below.drew ?_ | refine below_drewN ?_ _ | refine Below.setCell ?_ ?_ _)) <;> (first | omega | exact hsz | exact Below.size (by with_reducible assumption) | (simp; done) | (simp; omega) | (simp at *; omega)))⟩); (case measure => simp [intOf]; omega))
          | (go_ret; exact ⟨ret_bool (HR.out (by first | assumption | simp_all)).symm, by ((repeat (first | exact Below.refl _ _ | with_reducible assumption | refine Below.alloc0 ?_ _ | refine Below.step0 ?_ (by with_reducible assumption) | refine Below.step ?_ (by with_reducible assumption) ?_ | refine Below.alloc ?_ ?_ _ | refine Below.drew ?_ | refine below_drewN ?_ _ | refine Below.setCell ?_ ?_ _)) <;> (first | omega | exact hsz | exact Below.size (by with_reducible assumption) | (simp; done) | (simp; omega) | (simp at *; omega)))⟩)
      · obtain rfl : k = l.length := by omega
        have hd : l = m := by
          have h := HPRE.out
          rw [List.take_of_length_le (Nat.le_refl _), List.take_of_length_le (by rw [HN.out]; exact Nat.le_refl _)] at h
          exact h
        have HR := Lib.hid (show decide (l = m) = true by simpa using hd)
        clear hd
        go_wp2
        go_ret
        exact ⟨ret_bool HR.out.symm, hbw⟩
  · have hn1 : ((l.length : Int) == (m.length : Int)) = false := by rw [beq_eq_false_iff_ne]; omega
    have hn2 : ((l.length : Int) != (m.length : Int)) = true := by rw [bne_iff_ne]; omega
    have HR := Lib.hid (show decide (l = m) = false by rw [decide_eq_false_iff_not]; rintro rfl; exact hn rfl)
    go_enter Try.func19, Try.ntmps19
    go_wp2
    go_ret
    exact ⟨ret_bool HR.out.symm, Below.refl _ _⟩

def seqD (k : Int) (n : Nat) : List Dom := (List.range n).map fun (i : Nat) => ⟨k + 3 * (i : Int), k + 3 * (i : Int) + 1, decide ((k + 3 * (i : Int) + 2) % 3 = 0)⟩
theorem seqD_len (k : Int) (n : Nat) : (seqD k n).length = n := by simp [seqD]
theorem seqD_get (k : Int) (n i : Nat) (h : i < (seqD k n).length) : (seqD k n)[i] = ⟨k + 3 * (i : Int), k + 3 * (i : Int) + 1, decide ((k + 3 * (i : Int) + 2) % 3 = 0)⟩ := by simp [seqD]

theorem seqD_step (k0 : Int) (k : Nat) : ((k0 + 3 * (k : Int) + 1 + 1) % 3 == 0) = decide ((k0 + 3 * (k : Int) + 2) % 3 = 0) := by
  rw [show k0 + 3 * (k : Int) + 1 + 1 = k0 + 3 * (k : Int) + 2 by omega, Bool.eq_iff_iff]; simp
set_option maxHeartbeats 1000000 in
theorem markDominoS_c (l : List Dom) (A : Option Addr) (n c B : Nat) (k0 : Int) (w : World) (hown : w.ownsRow B 57 3 (.slice A n c) n (dsl l)) (hb : n ≤ 4194304) (hk0 : 0 ≤ k0) (hk1 : k0 ≤ 1099511627776) :
    Calls Try.prog 23 #[.slice A n c, .int .i64 k0] w fun e w' => e = .returned (.int .i64 (k0 + 3 * n)) ∧ w'.ownsRow B 57 3 (.slice A n c) n (dsl (seqD k0 n)) ∧ w.grownBy w' (Value.slice A n c).ownBlock ∧ Below B w w' := by
  obtain rfl := (own_rd hown).len3
  go_enter Try.func23, Try.ntmps23
  go_wp2
  go_loopw [1, 5] (fun m i wr => ∃ k : Nat, k ≤ l.length ∧ i = .int .i64 k ∧ m = .int .i64 (k0 + 3 * k) ∧ wr.ownsRow B 57 3 (.slice A l.length c) l.length (dsl ((seqD k0 l.length).take k ++ l.drop k)) ∧ w.grownBy wr (Value.slice A l.length c).ownBlock ∧ Below B w wr) (fun _ i _ => l.length - (intOf i).toNat)
  case atStart => exact ⟨0, Nat.zero_le _, rfl, by simp, by simpa using hown, grown_refl _ _, Below.refl _ _⟩
  case round =>
    obtain ⟨k, hk, rfl, rfl, hown', hgr, hbw⟩ := hrel
    have HGR := Lib.hid hgr
    clear hown hgr
    by_cases hlt : k < l.length
    · obtain ⟨g, rfl, hg1, hg2⟩ := own_some hown' (by omega)
      have hset := Lib.hid (set_take (seqD k0 l.length) l k (by rw [seqD_len]; exact hlt) (by rw [seqD_len]))
      have HSTEP := Lib.hid (seqD_step k0 k)
      have HOWN := Lib.hid hown'
      have hlen : k < ((seqD k0 l.length).take k ++ l.drop k).length := by simp [seqD_len]; omega
      obtain ⟨g', off', he', _, d0, d1, d2⟩ := (own_rd hown').doms hlen
      injection he' with he'
      injection he' with he1 he2
      subst he1; subst he2
      simp only [Nat.zero_add] at d0 d1 d2
      generalize ((seqD k0 l.length).take k ++ l.drop k)[k]'hlen = dd at d0 d1 d2
      have f0 := hown'.frozenAt (k*3)
      have f1 := hown'.frozenAt (k*3+1)
      have f2 := hown'.frozenAt (k*3+2)
      clear hown' hlen
      go_wp2
      go_roundw
      case rel =>
        refine ⟨k + 1, by omega, by go_num, int_eq (by omega), ?_, grown_set (p := ⟨g, k * 3 + 2, none⟩) (grown_set (p := ⟨g, k * 3 + 1, none⟩) (grown_set (p := ⟨g, k * 3, none⟩) HGR.out rfl _) rfl _) rfl _, ((hbw.setCell hg1 _).setCell hg1 _).setCell hg1 _⟩
        rw [HSTEP.out]
        have h1 := hset.out
        rw [seqD_get] at h1
        rw [← h1]
        have h3 := (((HOWN.out.stored (k*3) (.int .i64 (k0 + 3 * k))).1.stored (k*3+1) (.int .i64 (k0 + 3 * k + 1))).1.stored (k*3+2) (.bool (decide ((k0 + 3 * (k : Int) + 2) % 3 = 0)))).1
        rw [dsl_set _ k ⟨k0 + 3 * (k : Int), k0 + 3 * (k : Int) + 1, decide ((k0 + 3 * (k : Int) + 2) % 3 = 0)⟩ (by simp [seqD_len]; omega)] at h3
        exact h3
      case measure => simp [intOf]; omega
    · obtain rfl : k = l.length := by omega
      go_wp2
      go_ret
      refine ⟨rfl, ?_, HGR.out, hbw⟩
      have h := hown'
      rw [List.take_of_length_le (by rw [seqD_len]; exact Nat.le_refl _)] at h
      simpa using h

set_option maxHeartbeats 1000000 in
theorem heldDominoS_c (A : Option Addr) (n c : Nat) (k0 : Int) (w : World) (hrd : Rd w 3 A n (dsl (seqD k0 n))) (hb : n ≤ 4194304) (hk0 : 0 ≤ k0) (hk1 : k0 ≤ 1099511627776) :
    Calls Try.prog 37 #[.slice A n c, .int .i64 k0] w fun e w' => e = .returned (.int .i64 (k0 + 3 * n)) ∧ Below w.heap.size w w' := by
  go_enter Try.func37, Try.ntmps37
  go_wp2
  go_loopw [1, 5] (fun m i wr => ∃ k : Nat, k ≤ n ∧ i = .int .i64 k ∧ m = .int .i64 (k0 + 3 * k) ∧ Below w.heap.size w wr) (fun _ i _ => n - (intOf i).toNat)
  case atStart => exact ⟨0, Nat.zero_le _, rfl, by simp, Below.refl _ _⟩
  case round =>
    obtain ⟨k, hk, rfl, rfl, hbw⟩ := hrel
    have hsz := hbw.size
    by_cases hlt : k < n
    · obtain ⟨g, off, rfl, hg, c0, c1, c2⟩ := (hrd.below hbw (Nat.le_refl _)).doms (k := k) (by rw [seqD_len]; exact hlt)
      rw [seqD_get] at c0 c1 c2
      simp only at c0 c1 c2
      rw [← seqD_step] at c2
      go_wp2
      go_roundw
      case rel => exact ⟨k + 1, by omega, by go_num, int_eq (by omega), by ((repeat (first | exact Below.refl _ _ | with_reducible assumption | refine Below.alloc0 ?_ _ | refine Below.step0 ?_ (by with_reducible assumption) | refine Below.step ?_ (by with_reducible assumption) ?_ | refine Below.alloc ?_ ?_ _ | refine Below.drew ?_ | refine below_drewN ?_ _ | refine Below.setCell ?_ ?_ _)) <;> (first | omega | exact hsz | exact Below.size (by with_reducible assumption) | (simp; done) | (simp; omega) | (simp at *; omega)))⟩
      case measure => simp [intOf]; omega
    · obtain rfl : k = n := by omega
      go_wp2
      go_ret
      exact ⟨rfl, hbw⟩
/-- a place of a row of dominoes: what stands there, and the row behind a store -/
theorem own_dom_at {w : World} {B e n c g : Nat} {ys : List Dom} (h : w.ownsRow B e 3 (.slice (some ⟨g, 0, none⟩) n c) n (dsl ys)) {k : Nat} (hk : k < ys.length) :
    ∃ z : Dom, w.cell? ⟨g, k * 3, none⟩ = some (.int .i64 z.x) ∧ w.cell? ⟨g, k * 3 + 1, none⟩ = some (.int .i64 z.y) ∧ w.cell? ⟨g, k * 3 + 2, none⟩ = some (.bool z.d) ∧
      w.frozen? ⟨g, k * 3, none⟩ = false ∧ w.frozen? ⟨g, k * 3 + 1, none⟩ = false ∧ w.frozen? ⟨g, k * 3 + 2, none⟩ = false ∧
      ∀ x y b, (((w.setCell ⟨g, k * 3, none⟩ (.int .i64 x)).setCell ⟨g, k * 3 + 1, none⟩ (.int .i64 y)).setCell ⟨g, k * 3 + 2, none⟩ (.bool b)).ownsRow B e 3 (.slice (some ⟨g, 0, none⟩) n c) n (dsl (ys.set k ⟨x, y, b⟩)) := by
  obtain ⟨g', off', he, _, d0, d1, d2⟩ := (own_rd h).doms hk
  injection he with he
  injection he with he1 he2
  subst he1; subst he2
  simp only [Nat.zero_add] at d0 d1 d2
  refine ⟨ys[k], d0, d1, d2, h.frozenAt _, h.frozenAt _, h.frozenAt _, fun x y b => ?_⟩
  have h3 := (((h.stored (k*3) (.int .i64 x)).1.stored (k*3+1) (.int .i64 y)).1.stored (k*3+2) (.bool b)).1
  rw [dsl_set _ k ⟨x, y, b⟩ hk] at h3
  exact h3
end Go.Proofs.Ytgmckbchcpfhcaa
