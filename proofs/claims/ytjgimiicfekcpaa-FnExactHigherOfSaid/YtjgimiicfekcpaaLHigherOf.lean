
/- FnExactHigherOf: the program's HigherOf returns what the reference's returns, for all arguments. No condition. -/
import Derived.Test.YtjgimiicfekcpaaLaw
import Derived.Test.YtjgimiicfekcpaaReg
import Derived.Test.YtjgimiicfekcpaaDoms
import Derived.Test.YtjgimiicfekcpaaC34
namespace Go.Proofs.Ytjgimiicfekcpaa.lHigherOf
set_option maxRecDepth 20000
open Go.ChangeShapes Go.WideShapes Go.ChangeAt Go.RowKit Cl

theorem mixR_len (c : Bool) (l : List Int) (a b : List Dom) : (mixR c l a b).length ≤ 128 := by
  unfold mixR; split
  · exact tilF_len _ _
  · simp
set_option maxHeartbeats 2000000 in
theorem walk (w : World) (A0 : Option Addr) (n0 c0 : Nat) (l0 : List Int) (hr0 : RdA w 1 A0 n0 (isl l0)) (hm0 : n0 ≤ maxLen) (_ : ∀ z ∈ l0, (Lit.int .i64 z).wf = true) (A1 : Option Addr) (n1 c1 : Nat) (l1 : List Dom) (hr1 : RdA w 3 A1 n1 (dsl l1)) (hm1 : n1 ≤ maxLen) (_ : ∀ z ∈ l1, (Lit.int .i64 z.x).wf = true ∧ (Lit.int .i64 z.y).wf = true) (A2 : Option Addr) (n2 c2 : Nat) (l2 : List Dom) (hr2 : RdA w 3 A2 n2 (dsl l2)) (hm2 : n2 ≤ maxLen) (_ : ∀ z ∈ l2, (Lit.int .i64 z.x).wf = true ∧ (Lit.int .i64 z.y).wf = true) :
    Calls Try.prog 4 #[.agg #[.slice A0 n0 c0], .slice A1 n1 c1, .slice A2 n2 c2] w fun e w' => e = .returned (.bool true) ∧ Below w.heap.size w w' := by
  unfold maxLen at hm0
  unfold maxLen at hm1
  unfold maxLen at hm2
  have HN0 := Lib.hid (show n0 = l0.length by have := hr0.1; rw [isl_len] at this; omega)
  have HN1 := Lib.hid (show n1 = l1.length by have := hr1.1; rw [dsl_len] at this; omega)
  have HN2 := Lib.hid (show n2 = l2.length by have := hr2.1; rw [dsl_len] at this; omega)
  have hsz : w.heap.size ≤ w.heap.size := Nat.le_refl _
  by_cases hn0 : n0 ≤ 1048576
  rotate_left
  · go_enter Try.func4, Try.ntmps4
    go_wp2_with fail
    refine (szRegion_c (1048576) _ _ _ (by omega) (by omega) (by omega) _).mono ?_
    rintro e wz0 ⟨rfl, hbz0⟩
    rw [if_pos (by omega)]
    have hvz0_p0_0 : wz0.cell? ⟨w.heap.size, 0, none⟩ = some (.slice A0 n0 c0) := by
      ((repeat (first | with_reducible assumption | with_reducible refine cell_step ?_ (by with_reducible assumption) | with_reducible refine cell_drew ?_ | with_reducible refine cell_drewN ?_ _ | (refine cell_new rfl ?_; with_reducible rfl) | (refine cell_new rfl ?_; simp; done) | with_reducible refine cell_alloc ?_ _)))
    have haz0_p0_0 : ∀ o, (wz0.alloc o).cell? ⟨w.heap.size, 0, none⟩ = some (.slice A0 n0 c0) := fun o => cell_alloc hvz0_p0_0 o
    go_wp2
    go_ret
    exact ⟨rfl, by ((repeat (first | exact Below.refl _ _ | with_reducible assumption | refine Below.alloc0 ?_ _ | refine Below.step0 ?_ (by with_reducible assumption) | refine Below.step ?_ (by with_reducible assumption) ?_ | refine Below.alloc ?_ ?_ _ | refine Below.drew ?_ | refine below_drewN ?_ _ | refine Below.setCell ?_ ?_ _)) <;> (first | omega | exact hsz | exact Below.size (by with_reducible assumption) | (simp; done) | (simp; omega) | (simp at *; omega)))⟩
  by_cases hn1 : n0 + n1 ≤ 1048576
  rotate_left
  · go_enter Try.func4, Try.ntmps4
    go_wp2_with fail
    refine (szRegion_c (1048576) _ _ _ (by omega) (by omega) (by omega) _).mono ?_
    rintro e wz0 ⟨rfl, hbz0⟩
    rw [if_neg (by omega)]
    have hvz0_p0_0 : wz0.cell? ⟨w.heap.size, 0, none⟩ = some (.slice A0 n0 c0) := by
      ((repeat (first | with_reducible assumption | with_reducible refine cell_step ?_ (by with_reducible assumption) | with_reducible refine cell_drew ?_ | with_reducible refine cell_drewN ?_ _ | (refine cell_new rfl ?_; with_reducible rfl) | (refine cell_new rfl ?_; simp; done) | with_reducible refine cell_alloc ?_ _)))
    have haz0_p0_0 : ∀ o, (wz0.alloc o).cell? ⟨w.heap.size, 0, none⟩ = some (.slice A0 n0 c0) := fun o => cell_alloc hvz0_p0_0 o
    go_wp2_with fail
    refine (szDominoS_c (1048576 - (n0 : Int)) _ _ _ (by omega) (by omega) (by omega) _).mono ?_
    rintro e wz1 ⟨rfl, rfl⟩
    rw [if_pos (by omega)]
    go_wp2
    go_ret
    exact ⟨rfl, by ((repeat (first | exact Below.refl _ _ | with_reducible assumption | refine Below.alloc0 ?_ _ | refine Below.step0 ?_ (by with_reducible assumption) | refine Below.step ?_ (by with_reducible assumption) ?_ | refine Below.alloc ?_ ?_ _ | refine Below.drew ?_ | refine below_drewN ?_ _ | refine Below.setCell ?_ ?_ _)) <;> (first | omega | exact hsz | exact Below.size (by with_reducible assumption) | (simp; done) | (simp; omega) | (simp at *; omega)))⟩
  by_cases hn2 : n0 + n1 + n2 ≤ 1048576
  rotate_left
  · go_enter Try.func4, Try.ntmps4
    go_wp2_with fail
    refine (szRegion_c (1048576) _ _ _ (by omega) (by omega) (by omega) _).mono ?_
    rintro e wz0 ⟨rfl, hbz0⟩
    rw [if_neg (by omega)]
    have hvz0_p0_0 : wz0.cell? ⟨w.heap.size, 0, none⟩ = some (.slice A0 n0 c0) := by
      ((repeat (first | with_reducible assumption | with_reducible refine cell_step ?_ (by with_reducible assumption) | with_reducible refine cell_drew ?_ | with_reducible refine cell_drewN ?_ _ | (refine cell_new rfl ?_; with_reducible rfl) | (refine cell_new rfl ?_; simp; done) | with_reducible refine cell_alloc ?_ _)))
    have haz0_p0_0 : ∀ o, (wz0.alloc o).cell? ⟨w.heap.size, 0, none⟩ = some (.slice A0 n0 c0) := fun o => cell_alloc hvz0_p0_0 o
    go_wp2_with fail
    refine (szDominoS_c (1048576 - (n0 : Int)) _ _ _ (by omega) (by omega) (by omega) _).mono ?_
    rintro e wz1 ⟨rfl, rfl⟩
    rw [if_neg (by omega)]
    go_wp2_with fail
    refine (szDominoS_c (1048576 - (n0 : Int) - (n1 : Int)) _ _ _ (by omega) (by omega) (by omega) _).mono ?_
    rintro e wz2 ⟨rfl, rfl⟩
    rw [if_pos (by omega)]
    go_wp2
    go_ret
    exact ⟨rfl, by ((repeat (first | exact Below.refl _ _ | with_reducible assumption | refine Below.alloc0 ?_ _ | refine Below.step0 ?_ (by with_reducible assumption) | refine Below.step ?_ (by with_reducible assumption) ?_ | refine Below.alloc ?_ ?_ _ | refine Below.drew ?_ | refine below_drewN ?_ _ | refine Below.setCell ?_ ?_ _)) <;> (first | omega | exact hsz | exact Below.size (by with_reducible assumption) | (simp; done) | (simp; omega) | (simp at *; omega)))⟩
  go_enter Try.func4, Try.ntmps4
  go_wp2_with fail
  refine (szRegion_c (1048576) _ _ _ (by omega) (by omega) (by omega) _).mono ?_
  rintro e wz0 ⟨rfl, hbz0⟩
  rw [if_neg (by omega)]
  have hvz0_p0_0 : wz0.cell? ⟨w.heap.size, 0, none⟩ = some (.slice A0 n0 c0) := by
    ((repeat (first | with_reducible assumption | with_reducible refine cell_step ?_ (by with_reducible assumption) | with_reducible refine cell_drew ?_ | with_reducible refine cell_drewN ?_ _ | (refine cell_new rfl ?_; with_reducible rfl) | (refine cell_new rfl ?_; simp; done) | with_reducible refine cell_alloc ?_ _)))
  have haz0_p0_0 : ∀ o, (wz0.alloc o).cell? ⟨w.heap.size, 0, none⟩ = some (.slice A0 n0 c0) := fun o => cell_alloc hvz0_p0_0 o
  go_wp2_with fail
  refine (szDominoS_c (1048576 - (n0 : Int)) _ _ _ (by omega) (by omega) (by omega) _).mono ?_
  rintro e wz1 ⟨rfl, rfl⟩
  rw [if_neg (by omega)]
  go_wp2_with fail
  refine (szDominoS_c (1048576 - (n0 : Int) - (n1 : Int)) _ _ _ (by omega) (by omega) (by omega) _).mono ?_
  rintro e wz2 ⟨rfl, rfl⟩
  rw [if_neg (by omega)]
  have hfl : (mixR true l0 l1 l2).length ≤ 128 := (mixR_len true l0 l1 l2)
  have e1 : ((mixB true l0 l1 l2) == (mixB true l0 l1 l2)) = true := by simp
  have e1' : ((mixB true l0 l1 l2) != (mixB true l0 l1 l2)) = false := by simp
  go_wp2_with fail
  refine Calls.mono (toRegion_c l0 _ _ _ _ ?_ (by omega)) ?_
  · ((repeat (first | with_reducible assumption | with_reducible refine Rd.alloc ?_ _ | with_reducible refine Rd.step ?_ (by with_reducible assumption) | with_reducible refine Rd.drew ?_ | with_reducible refine Rd.drewN ?_ _ | with_reducible refine RdA.alloc ?_ _ | with_reducible refine RdA.step ?_ (by with_reducible assumption) | with_reducible refine RdA.drew ?_ | with_reducible refine RdA.drewN ?_ _)))
  rintro e w1 ⟨v1, rfl, ho1, hb1⟩
  obtain ⟨A1, d1, rfl, hle1⟩ := own_form3 ho1
  have hx1 := own_rd ho1
  have hob1 := own_mono (base' := w.heap.size) ho1 (by ((repeat (first | exact Nat.le_refl _ | with_reducible assumption | with_reducible refine Nat.le_trans ?_ (Below.size (by with_reducible assumption)) | with_reducible refine Nat.le_trans ?_ (grown_size (by with_reducible assumption)) | with_reducible refine size_alloc ?_ _ | with_reducible refine size_drewN ?_ _ | with_reducible refine size_drew ?_))))
  have hv1_p0_0 : w1.cell? ⟨w.heap.size, 0, none⟩ = some (.slice A0 n0 c0) := by
    ((repeat (first | with_reducible assumption | with_reducible refine cell_step ?_ (by with_reducible assumption) | with_reducible refine cell_drew ?_ | with_reducible refine cell_drewN ?_ _ | (refine cell_new rfl ?_; with_reducible rfl) | (refine cell_new rfl ?_; simp; done) | with_reducible refine cell_alloc ?_ _)))
  have ha1_p0_0 : ∀ o, (w1.alloc o).cell? ⟨w.heap.size, 0, none⟩ = some (.slice A0 n0 c0) := fun o => cell_alloc hv1_p0_0 o
  go_wp2_with fail
  refine Calls.mono (toDominoS_c l1 _ _ _ _ ?_ (by omega)) ?_
  · ((repeat (first | with_reducible assumption | with_reducible refine Rd.alloc ?_ _ | with_reducible refine Rd.step ?_ (by with_reducible assumption) | with_reducible refine Rd.drew ?_ | with_reducible refine Rd.drewN ?_ _ | with_reducible refine RdA.alloc ?_ _ | with_reducible refine RdA.step ?_ (by with_reducible assumption) | with_reducible refine RdA.drew ?_ | with_reducible refine RdA.drewN ?_ _)))
  rintro e w2 ⟨v2, rfl, ho2, hb2⟩
  obtain ⟨A2, d2, rfl, hle2⟩ := own_form3 ho2
  have hx2 := own_rd ho2
  have hob2 := own_mono (base' := w.heap.size) ho2 (by ((repeat (first | exact Nat.le_refl _ | with_reducible assumption | with_reducible refine Nat.le_trans ?_ (Below.size (by with_reducible assumption)) | with_reducible refine Nat.le_trans ?_ (grown_size (by with_reducible assumption)) | with_reducible refine size_alloc ?_ _ | with_reducible refine size_drewN ?_ _ | with_reducible refine size_drew ?_))))
  have hv2_p0_0 : w2.cell? ⟨w.heap.size, 0, none⟩ = some (.slice A0 n0 c0) := by
    ((repeat (first | with_reducible assumption | with_reducible refine cell_step ?_ (by with_reducible assumption) | with_reducible refine cell_drew ?_ | with_reducible refine cell_drewN ?_ _ | (refine cell_new rfl ?_; with_reducible rfl) | (refine cell_new rfl ?_; simp; done) | with_reducible refine cell_alloc ?_ _)))
  have ha2_p0_0 : ∀ o, (w2.alloc o).cell? ⟨w.heap.size, 0, none⟩ = some (.slice A0 n0 c0) := fun o => cell_alloc hv2_p0_0 o
  go_wp2_with fail
  refine Calls.mono (toDominoS_c l2 _ _ _ _ ?_ (by omega)) ?_
  · ((repeat (first | with_reducible assumption | with_reducible refine Rd.alloc ?_ _ | with_reducible refine Rd.step ?_ (by with_reducible assumption) | with_reducible refine Rd.drew ?_ | with_reducible refine Rd.drewN ?_ _ | with_reducible refine RdA.alloc ?_ _ | with_reducible refine RdA.step ?_ (by with_reducible assumption) | with_reducible refine RdA.drew ?_ | with_reducible refine RdA.drewN ?_ _)))
  rintro e w3 ⟨v3, rfl, ho3, hb3⟩
  obtain ⟨A3, d3, rfl, hle3⟩ := own_form3 ho3
  have hx3 := own_rd ho3
  have hob3 := own_mono (base' := w.heap.size) ho3 (by ((repeat (first | exact Nat.le_refl _ | with_reducible assumption | with_reducible refine Nat.le_trans ?_ (Below.size (by with_reducible assumption)) | with_reducible refine Nat.le_trans ?_ (grown_size (by with_reducible assumption)) | with_reducible refine size_alloc ?_ _ | with_reducible refine size_drewN ?_ _ | with_reducible refine size_drew ?_))))
  have hv3_p0_0 : w3.cell? ⟨w.heap.size, 0, none⟩ = some (.slice A0 n0 c0) := by
    ((repeat (first | with_reducible assumption | with_reducible refine cell_step ?_ (by with_reducible assumption) | with_reducible refine cell_drew ?_ | with_reducible refine cell_drewN ?_ _ | (refine cell_new rfl ?_; with_reducible rfl) | (refine cell_new rfl ?_; simp; done) | with_reducible refine cell_alloc ?_ _)))
  have ha3_p0_0 : ∀ o, (w3.alloc o).cell? ⟨w.heap.size, 0, none⟩ = some (.slice A0 n0 c0) := fun o => cell_alloc hv3_p0_0 o
  go_wp2_with fail
  refine Calls.mono (kit_rowv (spec_HigherOf_fn l0 l1 l2 (by have := HN0.out; omega) (by have := HN1.out; omega) (by have := HN2.out; omega)) (args3 (mk_regv' ?_ ?_ HN0.out) (mk_slv' ?_ ?_ HN1.out) (mk_slv' ?_ ?_ HN2.out))) ?_
  · ((repeat (first | with_reducible assumption | with_reducible refine Rd.alloc ?_ _ | with_reducible refine Rd.step ?_ (by with_reducible assumption) | with_reducible refine Rd.drew ?_ | with_reducible refine Rd.drewN ?_ _ | with_reducible refine RdA.alloc ?_ _ | with_reducible refine RdA.step ?_ (by with_reducible assumption) | with_reducible refine RdA.drew ?_ | with_reducible refine RdA.drewN ?_ _)))
  · (try assumption)
  · ((repeat (first | with_reducible assumption | with_reducible refine Rd.alloc ?_ _ | with_reducible refine Rd.step ?_ (by with_reducible assumption) | with_reducible refine Rd.drew ?_ | with_reducible refine Rd.drewN ?_ _ | with_reducible refine RdA.alloc ?_ _ | with_reducible refine RdA.step ?_ (by with_reducible assumption) | with_reducible refine RdA.drew ?_ | with_reducible refine RdA.drewN ?_ _)))
  · (try assumption)
  · ((repeat (first | with_reducible assumption | with_reducible refine Rd.alloc ?_ _ | with_reducible refine Rd.step ?_ (by with_reducible assumption) | with_reducible refine Rd.drew ?_ | with_reducible refine Rd.drewN ?_ _ | with_reducible refine RdA.alloc ?_ _ | with_reducible refine RdA.step ?_ (by with_reducible assumption) | with_reducible refine RdA.drew ?_ | with_reducible refine RdA.drewN ?_ _)))
  · (try assumption)
  rintro e w4 ⟨v4_0, rfl, ho4_0, hb4⟩
  obtain ⟨A4_0, d4_0, rfl, hle4_0⟩ := own_form3 ho4_0
  have hx4_0 := own_rd ho4_0
  have hob4_0 := own_mono (base' := w.heap.size) ho4_0 (by ((repeat (first | exact Nat.le_refl _ | with_reducible assumption | with_reducible refine Nat.le_trans ?_ (Below.size (by with_reducible assumption)) | with_reducible refine Nat.le_trans ?_ (grown_size (by with_reducible assumption)) | with_reducible refine size_alloc ?_ _ | with_reducible refine size_drewN ?_ _ | with_reducible refine size_drew ?_))))
  have hv4_p0_0 : w4.cell? ⟨w.heap.size, 0, none⟩ = some (.slice A0 n0 c0) := by
    ((repeat (first | with_reducible assumption | with_reducible refine cell_step ?_ (by with_reducible assumption) | with_reducible refine cell_drew ?_ | with_reducible refine cell_drewN ?_ _ | (refine cell_new rfl ?_; with_reducible rfl) | (refine cell_new rfl ?_; simp; done) | with_reducible refine cell_alloc ?_ _)))
  have ha4_p0_0 : ∀ o, (w4.alloc o).cell? ⟨w.heap.size, 0, none⟩ = some (.slice A0 n0 c0) := fun o => cell_alloc hv4_p0_0 o
  go_wp2_with fail
  refine Calls.mono (toRegion_c l0 _ _ _ _ ?_ (by omega)) ?_
  · ((repeat (first | with_reducible assumption | with_reducible refine Rd.alloc ?_ _ | with_reducible refine Rd.step ?_ (by with_reducible assumption) | with_reducible refine Rd.drew ?_ | with_reducible refine Rd.drewN ?_ _ | with_reducible refine RdA.alloc ?_ _ | with_reducible refine RdA.step ?_ (by with_reducible assumption) | with_reducible refine RdA.drew ?_ | with_reducible refine RdA.drewN ?_ _)))
  rintro e w5 ⟨v5, rfl, ho5, hb5⟩
  obtain ⟨A5, d5, rfl, hle5⟩ := own_form3 ho5
  have hx5 := own_rd ho5
  have hob5 := own_mono (base' := w.heap.size) ho5 (by ((repeat (first | exact Nat.le_refl _ | with_reducible assumption | with_reducible refine Nat.le_trans ?_ (Below.size (by with_reducible assumption)) | with_reducible refine Nat.le_trans ?_ (grown_size (by with_reducible assumption)) | with_reducible refine size_alloc ?_ _ | with_reducible refine size_drewN ?_ _ | with_reducible refine size_drew ?_))))
  have hv5_p0_0 : w5.cell? ⟨w.heap.size, 0, none⟩ = some (.slice A0 n0 c0) := by
    ((repeat (first | with_reducible assumption | with_reducible refine cell_step ?_ (by with_reducible assumption) | with_reducible refine cell_drew ?_ | with_reducible refine cell_drewN ?_ _ | (refine cell_new rfl ?_; with_reducible rfl) | (refine cell_new rfl ?_; simp; done) | with_reducible refine cell_alloc ?_ _)))
  have ha5_p0_0 : ∀ o, (w5.alloc o).cell? ⟨w.heap.size, 0, none⟩ = some (.slice A0 n0 c0) := fun o => cell_alloc hv5_p0_0 o
  go_wp2_with fail
  refine Calls.mono (toDominoS_c l1 _ _ _ _ ?_ (by omega)) ?_
  · ((repeat (first | with_reducible assumption | with_reducible refine Rd.alloc ?_ _ | with_reducible refine Rd.step ?_ (by with_reducible assumption) | with_reducible refine Rd.drew ?_ | with_reducible refine Rd.drewN ?_ _ | with_reducible refine RdA.alloc ?_ _ | with_reducible refine RdA.step ?_ (by with_reducible assumption) | with_reducible refine RdA.drew ?_ | with_reducible refine RdA.drewN ?_ _)))
  rintro e w6 ⟨v6, rfl, ho6, hb6⟩
  obtain ⟨A6, d6, rfl, hle6⟩ := own_form3 ho6
  have hx6 := own_rd ho6
  have hob6 := own_mono (base' := w.heap.size) ho6 (by ((repeat (first | exact Nat.le_refl _ | with_reducible assumption | with_reducible refine Nat.le_trans ?_ (Below.size (by with_reducible assumption)) | with_reducible refine Nat.le_trans ?_ (grown_size (by with_reducible assumption)) | with_reducible refine size_alloc ?_ _ | with_reducible refine size_drewN ?_ _ | with_reducible refine size_drew ?_))))
  have hv6_p0_0 : w6.cell? ⟨w.heap.size, 0, none⟩ = some (.slice A0 n0 c0) := by
    ((repeat (first | with_reducible assumption | with_reducible refine cell_step ?_ (by with_reducible assumption) | with_reducible refine cell_drew ?_ | with_reducible refine cell_drewN ?_ _ | (refine cell_new rfl ?_; with_reducible rfl) | (refine cell_new rfl ?_; simp; done) | with_reducible refine cell_alloc ?_ _)))
  have ha6_p0_0 : ∀ o, (w6.alloc o).cell? ⟨w.heap.size, 0, none⟩ = some (.slice A0 n0 c0) := fun o => cell_alloc hv6_p0_0 o
  have hv6_x0 : w6.cell? ⟨w5.heap.size, 0, none⟩ = some (.slice A5 n0 d5) := by
    ((repeat (first | with_reducible assumption | with_reducible refine cell_step ?_ (by with_reducible assumption) | with_reducible refine cell_drew ?_ | with_reducible refine cell_drewN ?_ _ | (refine cell_new rfl ?_; with_reducible rfl) | (refine cell_new rfl ?_; simp; done) | with_reducible refine cell_alloc ?_ _)))
  have ha6_x0 : ∀ o, (w6.alloc o).cell? ⟨w5.heap.size, 0, none⟩ = some (.slice A5 n0 d5) := fun o => cell_alloc hv6_x0 o
  go_wp2_with fail
  refine Calls.mono (toDominoS_c l2 _ _ _ _ ?_ (by omega)) ?_
  · ((repeat (first | with_reducible assumption | with_reducible refine Rd.alloc ?_ _ | with_reducible refine Rd.step ?_ (by with_reducible assumption) | with_reducible refine Rd.drew ?_ | with_reducible refine Rd.drewN ?_ _ | with_reducible refine RdA.alloc ?_ _ | with_reducible refine RdA.step ?_ (by with_reducible assumption) | with_reducible refine RdA.drew ?_ | with_reducible refine RdA.drewN ?_ _)))
  rintro e w7 ⟨v7, rfl, ho7, hb7⟩
  obtain ⟨A7, d7, rfl, hle7⟩ := own_form3 ho7
  have hx7 := own_rd ho7
  have hob7 := own_mono (base' := w.heap.size) ho7 (by ((repeat (first | exact Nat.le_refl _ | with_reducible assumption | with_reducible refine Nat.le_trans ?_ (Below.size (by with_reducible assumption)) | with_reducible refine Nat.le_trans ?_ (grown_size (by with_reducible assumption)) | with_reducible refine size_alloc ?_ _ | with_reducible refine size_drewN ?_ _ | with_reducible refine size_drew ?_))))
  have hv7_p0_0 : w7.cell? ⟨w.heap.size, 0, none⟩ = some (.slice A0 n0 c0) := by
    ((repeat (first | with_reducible assumption | with_reducible refine cell_step ?_ (by with_reducible assumption) | with_reducible refine cell_drew ?_ | with_reducible refine cell_drewN ?_ _ | (refine cell_new rfl ?_; with_reducible rfl) | (refine cell_new rfl ?_; simp; done) | with_reducible refine cell_alloc ?_ _)))
  have ha7_p0_0 : ∀ o, (w7.alloc o).cell? ⟨w.heap.size, 0, none⟩ = some (.slice A0 n0 c0) := fun o => cell_alloc hv7_p0_0 o
  have hv7_x0 : w7.cell? ⟨w5.heap.size, 0, none⟩ = some (.slice A5 n0 d5) := by
    ((repeat (first | with_reducible assumption | with_reducible refine cell_step ?_ (by with_reducible assumption) | with_reducible refine cell_drew ?_ | with_reducible refine cell_drewN ?_ _ | (refine cell_new rfl ?_; with_reducible rfl) | (refine cell_new rfl ?_; simp; done) | with_reducible refine cell_alloc ?_ _)))
  have ha7_x0 : ∀ o, (w7.alloc o).cell? ⟨w5.heap.size, 0, none⟩ = some (.slice A5 n0 d5) := fun o => cell_alloc hv7_x0 o
  go_wp2_with fail
  refine Calls.mono (kit_rowv (impl_HigherOf_fn l0 l1 l2 (by have := HN0.out; omega) (by have := HN1.out; omega) (by have := HN2.out; omega)) (args3 (mk_regv' ?_ ?_ HN0.out) (mk_slv' ?_ ?_ HN1.out) (mk_slv' ?_ ?_ HN2.out))) ?_
  · ((repeat (first | with_reducible assumption | with_reducible refine Rd.alloc ?_ _ | with_reducible refine Rd.step ?_ (by with_reducible assumption) | with_reducible refine Rd.drew ?_ | with_reducible refine Rd.drewN ?_ _ | with_reducible refine RdA.alloc ?_ _ | with_reducible refine RdA.step ?_ (by with_reducible assumption) | with_reducible refine RdA.drew ?_ | with_reducible refine RdA.drewN ?_ _)))
  · (try assumption)
  · ((repeat (first | with_reducible assumption | with_reducible refine Rd.alloc ?_ _ | with_reducible refine Rd.step ?_ (by with_reducible assumption) | with_reducible refine Rd.drew ?_ | with_reducible refine Rd.drewN ?_ _ | with_reducible refine RdA.alloc ?_ _ | with_reducible refine RdA.step ?_ (by with_reducible assumption) | with_reducible refine RdA.drew ?_ | with_reducible refine RdA.drewN ?_ _)))
  · (try assumption)
  · ((repeat (first | with_reducible assumption | with_reducible refine Rd.alloc ?_ _ | with_reducible refine Rd.step ?_ (by with_reducible assumption) | with_reducible refine Rd.drew ?_ | with_reducible refine Rd.drewN ?_ _ | with_reducible refine RdA.alloc ?_ _ | with_reducible refine RdA.step ?_ (by with_reducible assumption) | with_reducible refine RdA.drew ?_ | with_reducible refine RdA.drewN ?_ _)))
  · (try assumption)
  rintro e w8 ⟨v8_0, rfl, ho8_0, hb8⟩
  obtain ⟨A8_0, d8_0, rfl, hle8_0⟩ := own_form3 ho8_0
  have hx8_0 := own_rd ho8_0
  have hob8_0 := own_mono (base' := w.heap.size) ho8_0 (by ((repeat (first | exact Nat.le_refl _ | with_reducible assumption | with_reducible refine Nat.le_trans ?_ (Below.size (by with_reducible assumption)) | with_reducible refine Nat.le_trans ?_ (grown_size (by with_reducible assumption)) | with_reducible refine size_alloc ?_ _ | with_reducible refine size_drewN ?_ _ | with_reducible refine size_drew ?_))))
  have hv8_p0_0 : w8.cell? ⟨w.heap.size, 0, none⟩ = some (.slice A0 n0 c0) := by
    ((repeat (first | with_reducible assumption | with_reducible refine cell_step ?_ (by with_reducible assumption) | with_reducible refine cell_drew ?_ | with_reducible refine cell_drewN ?_ _ | (refine cell_new rfl ?_; with_reducible rfl) | (refine cell_new rfl ?_; simp; done) | with_reducible refine cell_alloc ?_ _)))
  have ha8_p0_0 : ∀ o, (w8.alloc o).cell? ⟨w.heap.size, 0, none⟩ = some (.slice A0 n0 c0) := fun o => cell_alloc hv8_p0_0 o
  have hv8_x0 : w8.cell? ⟨w5.heap.size, 0, none⟩ = some (.slice A5 n0 d5) := by
    ((repeat (first | with_reducible assumption | with_reducible refine cell_step ?_ (by with_reducible assumption) | with_reducible refine cell_drew ?_ | with_reducible refine cell_drewN ?_ _ | (refine cell_new rfl ?_; with_reducible rfl) | (refine cell_new rfl ?_; simp; done) | with_reducible refine cell_alloc ?_ _)))
  have ha8_x0 : ∀ o, (w8.alloc o).cell? ⟨w5.heap.size, 0, none⟩ = some (.slice A5 n0 d5) := fun o => cell_alloc hv8_x0 o
  go_wp2_with fail
  refine Calls.mono (eqDominoS_c (mixR true l0 l1 l2) (mixR true l0 l1 l2) A8_0 A4_0 (mixR true l0 l1 l2).length _ (mixR true l0 l1 l2).length _ _ ?_ ?_ ?_ ?_) ?_
  · ((repeat (first | with_reducible assumption | with_reducible refine Rd.alloc ?_ _ | with_reducible refine Rd.step ?_ (by with_reducible assumption) | with_reducible refine Rd.drew ?_ | with_reducible refine Rd.drewN ?_ _ | with_reducible refine RdA.alloc ?_ _ | with_reducible refine RdA.step ?_ (by with_reducible assumption) | with_reducible refine RdA.drew ?_ | with_reducible refine RdA.drewN ?_ _)))
  · ((repeat (first | with_reducible assumption | with_reducible refine Rd.alloc ?_ _ | with_reducible refine Rd.step ?_ (by with_reducible assumption) | with_reducible refine Rd.drew ?_ | with_reducible refine Rd.drewN ?_ _ | with_reducible refine RdA.alloc ?_ _ | with_reducible refine RdA.step ?_ (by with_reducible assumption) | with_reducible refine RdA.drew ?_ | with_reducible refine RdA.drewN ?_ _)))
  · (first | omega | assumption)
  · (first | omega | assumption)
  rintro e w9 ⟨rfl, hb9⟩
  have hv9_p0_0 : w9.cell? ⟨w.heap.size, 0, none⟩ = some (.slice A0 n0 c0) := by
    ((repeat (first | with_reducible assumption | with_reducible refine cell_step ?_ (by with_reducible assumption) | with_reducible refine cell_drew ?_ | with_reducible refine cell_drewN ?_ _ | (refine cell_new rfl ?_; with_reducible rfl) | (refine cell_new rfl ?_; simp; done) | with_reducible refine cell_alloc ?_ _)))
  have ha9_p0_0 : ∀ o, (w9.alloc o).cell? ⟨w.heap.size, 0, none⟩ = some (.slice A0 n0 c0) := fun o => cell_alloc hv9_p0_0 o
  have hv9_x0 : w9.cell? ⟨w5.heap.size, 0, none⟩ = some (.slice A5 n0 d5) := by
    ((repeat (first | with_reducible assumption | with_reducible refine cell_step ?_ (by with_reducible assumption) | with_reducible refine cell_drew ?_ | with_reducible refine cell_drewN ?_ _ | (refine cell_new rfl ?_; with_reducible rfl) | (refine cell_new rfl ?_; simp; done) | with_reducible refine cell_alloc ?_ _)))
  have ha9_x0 : ∀ o, (w9.alloc o).cell? ⟨w5.heap.size, 0, none⟩ = some (.slice A5 n0 d5) := fun o => cell_alloc hv9_x0 o
  go_wp2_with fail
  go_region_held3 (fun w' => w'.cell? ⟨w.heap.size, 0, none⟩ = some (.slice A0 n0 c0) ∧ w'.cell? ⟨w5.heap.size, 0, none⟩ = some (.slice A5 n0 d5)) (go_keep) ((first | (go_at_call 8; refine Calls.mono (toRegion_c l0 _ _ _ _ ?_ (by omega)) ?_; (((repeat (first | with_reducible assumption | with_reducible refine Rd.alloc ?_ _ | with_reducible refine Rd.step ?_ (by with_reducible assumption) | with_reducible refine Rd.drew ?_ | with_reducible refine Rd.drewN ?_ _ | with_reducible refine RdA.alloc ?_ _ | with_reducible refine RdA.step ?_ (by with_reducible assumption) | with_reducible refine RdA.drew ?_ | with_reducible refine RdA.drewN ?_ _)))); rintro e w10 ⟨v10, rfl, ho10, hb10⟩; obtain ⟨A10, d10, rfl, hle10⟩ := own_form3 ho10; have hx10 := own_rd ho10; have hob10 := own_mono (base' := w.heap.size) ho10 (by ((repeat (first | exact Nat.le_refl _ | with_reducible assumption | with_reducible refine Nat.le_trans ?_ (Below.size (by with_reducible assumption)) | with_reducible refine Nat.le_trans ?_ (grown_size (by with_reducible assumption)) | with_reducible refine size_alloc ?_ _ | with_reducible refine size_drewN ?_ _ | with_reducible refine size_drew ?_)))); have hv10_p0_0 : w10.cell? ⟨w.heap.size, 0, none⟩ = some (.slice A0 n0 c0) := (by ((repeat (first | with_reducible assumption | with_reducible refine cell_step ?_ (by with_reducible assumption) | with_reducible refine cell_drew ?_ | with_reducible refine cell_drewN ?_ _ | (refine cell_new rfl ?_; with_reducible rfl) | (refine cell_new rfl ?_; simp; done) | with_reducible refine cell_alloc ?_ _)))); have ha10_p0_0 : ∀ o, (w10.alloc o).cell? ⟨w.heap.size, 0, none⟩ = some (.slice A0 n0 c0) := fun o => cell_alloc hv10_p0_0 o; have hv10_x0 : w10.cell? ⟨w5.heap.size, 0, none⟩ = some (.slice A5 n0 d5) := (by ((repeat (first | with_reducible assumption | with_reducible refine cell_step ?_ (by with_reducible assumption) | with_reducible refine cell_drew ?_ | with_reducible refine cell_drewN ?_ _ | (refine cell_new rfl ?_; with_reducible rfl) | (refine cell_new rfl ?_; simp; done) | with_reducible refine cell_alloc ?_ _)))); have ha10_x0 : ∀ o, (w10.alloc o).cell? ⟨w5.heap.size, 0, none⟩ = some (.slice A5 n0 d5) := fun o => cell_alloc hv10_x0 o) | (go_at_call 12; refine Calls.mono (eqRegion_c l0 l0 A5 A10 n0 _ n0 _ _ ?_ ?_ ?_ ?_) ?_; (((repeat (first | with_reducible assumption | with_reducible refine Rd.alloc ?_ _ | with_reducible refine Rd.step ?_ (by with_reducible assumption) | with_reducible refine Rd.drew ?_ | with_reducible refine Rd.drewN ?_ _ | with_reducible refine RdA.alloc ?_ _ | with_reducible refine RdA.step ?_ (by with_reducible assumption) | with_reducible refine RdA.drew ?_ | with_reducible refine RdA.drewN ?_ _)))); (((repeat (first | with_reducible assumption | with_reducible refine Rd.alloc ?_ _ | with_reducible refine Rd.step ?_ (by with_reducible assumption) | with_reducible refine Rd.drew ?_ | with_reducible refine Rd.drewN ?_ _ | with_reducible refine RdA.alloc ?_ _ | with_reducible refine RdA.step ?_ (by with_reducible assumption) | with_reducible refine RdA.drew ?_ | with_reducible refine RdA.drewN ?_ _)))); ((first | omega | assumption)); ((first | omega | assumption)); rintro e w11 ⟨rfl, hb11⟩; have hv11_p0_0 : w11.cell? ⟨w.heap.size, 0, none⟩ = some (.slice A0 n0 c0) := (by ((repeat (first | with_reducible assumption | with_reducible refine cell_step ?_ (by with_reducible assumption) | with_reducible refine cell_drew ?_ | with_reducible refine cell_drewN ?_ _ | (refine cell_new rfl ?_; with_reducible rfl) | (refine cell_new rfl ?_; simp; done) | with_reducible refine cell_alloc ?_ _)))); have ha11_p0_0 : ∀ o, (w11.alloc o).cell? ⟨w.heap.size, 0, none⟩ = some (.slice A0 n0 c0) := fun o => cell_alloc hv11_p0_0 o; have hv11_x0 : w11.cell? ⟨w5.heap.size, 0, none⟩ = some (.slice A5 n0 d5) := (by ((repeat (first | with_reducible assumption | with_reducible refine cell_step ?_ (by with_reducible assumption) | with_reducible refine cell_drew ?_ | with_reducible refine cell_drewN ?_ _ | (refine cell_new rfl ?_; with_reducible rfl) | (refine cell_new rfl ?_; simp; done) | with_reducible refine cell_alloc ?_ _)))); have ha11_x0 : ∀ o, (w11.alloc o).cell? ⟨w5.heap.size, 0, none⟩ = some (.slice A5 n0 d5) := fun o => cell_alloc hv11_x0 o)))
  go_wp2_with fail
  refine Calls.mono (toDominoS_c l1 _ _ _ _ ?_ (by omega)) ?_
  · ((repeat (first | with_reducible assumption | with_reducible refine Rd.alloc ?_ _ | with_reducible refine Rd.step ?_ (by with_reducible assumption) | with_reducible refine Rd.drew ?_ | with_reducible refine Rd.drewN ?_ _ | with_reducible refine RdA.alloc ?_ _ | with_reducible refine RdA.step ?_ (by with_reducible assumption) | with_reducible refine RdA.drew ?_ | with_reducible refine RdA.drewN ?_ _)))
  rintro e w12 ⟨v12, rfl, ho12, hb12⟩
  obtain ⟨A12, d12, rfl, hle12⟩ := own_form3 ho12
  have hx12 := own_rd ho12
  have hob12 := own_mono (base' := w.heap.size) ho12 (by ((repeat (first | exact Nat.le_refl _ | with_reducible assumption | with_reducible refine Nat.le_trans ?_ (Below.size (by with_reducible assumption)) | with_reducible refine Nat.le_trans ?_ (grown_size (by with_reducible assumption)) | with_reducible refine size_alloc ?_ _ | with_reducible refine size_drewN ?_ _ | with_reducible refine size_drew ?_))))
  have hv12_p0_0 : w12.cell? ⟨w.heap.size, 0, none⟩ = some (.slice A0 n0 c0) := by
    ((repeat (first | with_reducible assumption | with_reducible refine cell_step ?_ (by with_reducible assumption) | with_reducible refine cell_drew ?_ | with_reducible refine cell_drewN ?_ _ | (refine cell_new rfl ?_; with_reducible rfl) | (refine cell_new rfl ?_; simp; done) | with_reducible refine cell_alloc ?_ _)))
  have ha12_p0_0 : ∀ o, (w12.alloc o).cell? ⟨w.heap.size, 0, none⟩ = some (.slice A0 n0 c0) := fun o => cell_alloc hv12_p0_0 o
  have hv12_x0 : w12.cell? ⟨w5.heap.size, 0, none⟩ = some (.slice A5 n0 d5) := by
    ((repeat (first | with_reducible assumption | with_reducible refine cell_step ?_ (by with_reducible assumption) | with_reducible refine cell_drew ?_ | with_reducible refine cell_drewN ?_ _ | (refine cell_new rfl ?_; with_reducible rfl) | (refine cell_new rfl ?_; simp; done) | with_reducible refine cell_alloc ?_ _)))
  have ha12_x0 : ∀ o, (w12.alloc o).cell? ⟨w5.heap.size, 0, none⟩ = some (.slice A5 n0 d5) := fun o => cell_alloc hv12_x0 o
  go_wp2_with fail
  refine Calls.mono (eqDominoS_c l1 l1 A6 A12 n1 _ n1 _ _ ?_ ?_ ?_ ?_) ?_
  · ((repeat (first | with_reducible assumption | with_reducible refine Rd.alloc ?_ _ | with_reducible refine Rd.step ?_ (by with_reducible assumption) | with_reducible refine Rd.drew ?_ | with_reducible refine Rd.drewN ?_ _ | with_reducible refine RdA.alloc ?_ _ | with_reducible refine RdA.step ?_ (by with_reducible assumption) | with_reducible refine RdA.drew ?_ | with_reducible refine RdA.drewN ?_ _)))
  · ((repeat (first | with_reducible assumption | with_reducible refine Rd.alloc ?_ _ | with_reducible refine Rd.step ?_ (by with_reducible assumption) | with_reducible refine Rd.drew ?_ | with_reducible refine Rd.drewN ?_ _ | with_reducible refine RdA.alloc ?_ _ | with_reducible refine RdA.step ?_ (by with_reducible assumption) | with_reducible refine RdA.drew ?_ | with_reducible refine RdA.drewN ?_ _)))
  · (first | omega | assumption)
  · (first | omega | assumption)
  rintro e w13 ⟨rfl, hb13⟩
  have hv13_p0_0 : w13.cell? ⟨w.heap.size, 0, none⟩ = some (.slice A0 n0 c0) := by
    ((repeat (first | with_reducible assumption | with_reducible refine cell_step ?_ (by with_reducible assumption) | with_reducible refine cell_drew ?_ | with_reducible refine cell_drewN ?_ _ | (refine cell_new rfl ?_; with_reducible rfl) | (refine cell_new rfl ?_; simp; done) | with_reducible refine cell_alloc ?_ _)))
  have ha13_p0_0 : ∀ o, (w13.alloc o).cell? ⟨w.heap.size, 0, none⟩ = some (.slice A0 n0 c0) := fun o => cell_alloc hv13_p0_0 o
  have hv13_x0 : w13.cell? ⟨w5.heap.size, 0, none⟩ = some (.slice A5 n0 d5) := by
    ((repeat (first | with_reducible assumption | with_reducible refine cell_step ?_ (by with_reducible assumption) | with_reducible refine cell_drew ?_ | with_reducible refine cell_drewN ?_ _ | (refine cell_new rfl ?_; with_reducible rfl) | (refine cell_new rfl ?_; simp; done) | with_reducible refine cell_alloc ?_ _)))
  have ha13_x0 : ∀ o, (w13.alloc o).cell? ⟨w5.heap.size, 0, none⟩ = some (.slice A5 n0 d5) := fun o => cell_alloc hv13_x0 o
  go_wp2_with fail
  refine Calls.mono (toDominoS_c l2 _ _ _ _ ?_ (by omega)) ?_
  · ((repeat (first | with_reducible assumption | with_reducible refine Rd.alloc ?_ _ | with_reducible refine Rd.step ?_ (by with_reducible assumption) | with_reducible refine Rd.drew ?_ | with_reducible refine Rd.drewN ?_ _ | with_reducible refine RdA.alloc ?_ _ | with_reducible refine RdA.step ?_ (by with_reducible assumption) | with_reducible refine RdA.drew ?_ | with_reducible refine RdA.drewN ?_ _)))
  rintro e w14 ⟨v14, rfl, ho14, hb14⟩
  obtain ⟨A14, d14, rfl, hle14⟩ := own_form3 ho14
  have hx14 := own_rd ho14
  have hob14 := own_mono (base' := w.heap.size) ho14 (by ((repeat (first | exact Nat.le_refl _ | with_reducible assumption | with_reducible refine Nat.le_trans ?_ (Below.size (by with_reducible assumption)) | with_reducible refine Nat.le_trans ?_ (grown_size (by with_reducible assumption)) | with_reducible refine size_alloc ?_ _ | with_reducible refine size_drewN ?_ _ | with_reducible refine size_drew ?_))))
  have hv14_p0_0 : w14.cell? ⟨w.heap.size, 0, none⟩ = some (.slice A0 n0 c0) := by
    ((repeat (first | with_reducible assumption | with_reducible refine cell_step ?_ (by with_reducible assumption) | with_reducible refine cell_drew ?_ | with_reducible refine cell_drewN ?_ _ | (refine cell_new rfl ?_; with_reducible rfl) | (refine cell_new rfl ?_; simp; done) | with_reducible refine cell_alloc ?_ _)))
  have ha14_p0_0 : ∀ o, (w14.alloc o).cell? ⟨w.heap.size, 0, none⟩ = some (.slice A0 n0 c0) := fun o => cell_alloc hv14_p0_0 o
  have hv14_x0 : w14.cell? ⟨w5.heap.size, 0, none⟩ = some (.slice A5 n0 d5) := by
    ((repeat (first | with_reducible assumption | with_reducible refine cell_step ?_ (by with_reducible assumption) | with_reducible refine cell_drew ?_ | with_reducible refine cell_drewN ?_ _ | (refine cell_new rfl ?_; with_reducible rfl) | (refine cell_new rfl ?_; simp; done) | with_reducible refine cell_alloc ?_ _)))
  have ha14_x0 : ∀ o, (w14.alloc o).cell? ⟨w5.heap.size, 0, none⟩ = some (.slice A5 n0 d5) := fun o => cell_alloc hv14_x0 o
  go_wp2_with fail
  refine Calls.mono (eqDominoS_c l2 l2 A7 A14 n2 _ n2 _ _ ?_ ?_ ?_ ?_) ?_
  · ((repeat (first | with_reducible assumption | with_reducible refine Rd.alloc ?_ _ | with_reducible refine Rd.step ?_ (by with_reducible assumption) | with_reducible refine Rd.drew ?_ | with_reducible refine Rd.drewN ?_ _ | with_reducible refine RdA.alloc ?_ _ | with_reducible refine RdA.step ?_ (by with_reducible assumption) | with_reducible refine RdA.drew ?_ | with_reducible refine RdA.drewN ?_ _)))
  · ((repeat (first | with_reducible assumption | with_reducible refine Rd.alloc ?_ _ | with_reducible refine Rd.step ?_ (by with_reducible assumption) | with_reducible refine Rd.drew ?_ | with_reducible refine Rd.drewN ?_ _ | with_reducible refine RdA.alloc ?_ _ | with_reducible refine RdA.step ?_ (by with_reducible assumption) | with_reducible refine RdA.drew ?_ | with_reducible refine RdA.drewN ?_ _)))
  · (first | omega | assumption)
  · (first | omega | assumption)
  rintro e w15 ⟨rfl, hb15⟩
  have hv15_p0_0 : w15.cell? ⟨w.heap.size, 0, none⟩ = some (.slice A0 n0 c0) := by
    ((repeat (first | with_reducible assumption | with_reducible refine cell_step ?_ (by with_reducible assumption) | with_reducible refine cell_drew ?_ | with_reducible refine cell_drewN ?_ _ | (refine cell_new rfl ?_; with_reducible rfl) | (refine cell_new rfl ?_; simp; done) | with_reducible refine cell_alloc ?_ _)))
  have ha15_p0_0 : ∀ o, (w15.alloc o).cell? ⟨w.heap.size, 0, none⟩ = some (.slice A0 n0 c0) := fun o => cell_alloc hv15_p0_0 o
  have hv15_x0 : w15.cell? ⟨w5.heap.size, 0, none⟩ = some (.slice A5 n0 d5) := by
    ((repeat (first | with_reducible assumption | with_reducible refine cell_step ?_ (by with_reducible assumption) | with_reducible refine cell_drew ?_ | with_reducible refine cell_drewN ?_ _ | (refine cell_new rfl ?_; with_reducible rfl) | (refine cell_new rfl ?_; simp; done) | with_reducible refine cell_alloc ?_ _)))
  have ha15_x0 : ∀ o, (w15.alloc o).cell? ⟨w5.heap.size, 0, none⟩ = some (.slice A5 n0 d5) := fun o => cell_alloc hv15_x0 o
  go_wp2_with fail
  refine Calls.mono (markRegion_c l0 A5 n0 _ w.heap.size _ _ ?_ ?_ (by omega) (by omega) ?_) ?_
  · ((repeat (first | with_reducible assumption | with_reducible refine own_alloc ?_ _ | with_reducible refine own_step ?_ (by with_reducible assumption) | with_reducible refine own_drew ?_ | with_reducible refine own_drewN ?_ _)))
  · (first | omega | assumption)
  · ((repeat (first | exact Nat.le_refl _ | with_reducible assumption | with_reducible refine Nat.le_trans ?_ (Below.size (by with_reducible assumption)) | with_reducible refine Nat.le_trans ?_ (grown_size (by with_reducible assumption)) | with_reducible refine size_alloc ?_ _ | with_reducible refine size_drewN ?_ _ | with_reducible refine size_drew ?_)))
  rintro e w16 ⟨rfl, hom16, hgm16, hbm16⟩
  have hv16_p0_0 : w16.cell? ⟨w.heap.size, 0, none⟩ = some (.slice A0 n0 c0) := by
    (refine cell_grown (by ((repeat (first | with_reducible assumption | with_reducible refine cell_step ?_ (by with_reducible assumption) | with_reducible refine cell_drew ?_ | with_reducible refine cell_drewN ?_ _ | (refine cell_new rfl ?_; with_reducible rfl) | (refine cell_new rfl ?_; simp; done) | with_reducible refine cell_alloc ?_ _)))) (by assumption) (by first | (refine row_ne ho5 ?_; ((repeat (first | exact Nat.le_refl _ | with_reducible assumption | with_reducible refine Nat.le_trans ?_ (Below.size (by with_reducible assumption)) | with_reducible refine Nat.le_trans ?_ (grown_size (by with_reducible assumption)) | with_reducible refine size_alloc ?_ _ | with_reducible refine size_drewN ?_ _ | with_reducible refine size_drew ?_))); done) | (refine row_ne_cell (o := 0) (u := .slice A0 n0 c0) ho5 ?_; ((repeat (first | with_reducible assumption | with_reducible refine cell_step ?_ (by with_reducible assumption) | with_reducible refine cell_drew ?_ | with_reducible refine cell_drewN ?_ _ | (refine cell_new rfl ?_; with_reducible rfl) | (refine cell_new rfl ?_; simp; done) | with_reducible refine cell_alloc ?_ _))); done)))
  have ha16_p0_0 : ∀ o, (w16.alloc o).cell? ⟨w.heap.size, 0, none⟩ = some (.slice A0 n0 c0) := fun o => cell_alloc hv16_p0_0 o
  have hv16_x0 : w16.cell? ⟨w5.heap.size, 0, none⟩ = some (.slice A5 n0 d5) := by
    (refine cell_grown (by ((repeat (first | with_reducible assumption | with_reducible refine cell_step ?_ (by with_reducible assumption) | with_reducible refine cell_drew ?_ | with_reducible refine cell_drewN ?_ _ | (refine cell_new rfl ?_; with_reducible rfl) | (refine cell_new rfl ?_; simp; done) | with_reducible refine cell_alloc ?_ _)))) (by assumption) (by first | (refine row_ne ho5 ?_; ((repeat (first | exact Nat.le_refl _ | with_reducible assumption | with_reducible refine Nat.le_trans ?_ (Below.size (by with_reducible assumption)) | with_reducible refine Nat.le_trans ?_ (grown_size (by with_reducible assumption)) | with_reducible refine size_alloc ?_ _ | with_reducible refine size_drewN ?_ _ | with_reducible refine size_drew ?_))); done) | (refine row_ne_cell (o := 0) (u := .slice A5 n0 d5) ho5 ?_; ((repeat (first | with_reducible assumption | with_reducible refine cell_step ?_ (by with_reducible assumption) | with_reducible refine cell_drew ?_ | with_reducible refine cell_drewN ?_ _ | (refine cell_new rfl ?_; with_reducible rfl) | (refine cell_new rfl ?_; simp; done) | with_reducible refine cell_alloc ?_ _))); done)))
  have ha16_x0 : ∀ o, (w16.alloc o).cell? ⟨w5.heap.size, 0, none⟩ = some (.slice A5 n0 d5) := fun o => cell_alloc hv16_x0 o
  have hch16 : Below w.heap.size w w16 := by
    refine Below.trans ?_ (hbm16.mono (by ((repeat (first | exact Nat.le_refl _ | with_reducible assumption | with_reducible refine Nat.le_trans ?_ (Below.size (by with_reducible assumption)) | with_reducible refine Nat.le_trans ?_ (grown_size (by with_reducible assumption)) | with_reducible refine size_alloc ?_ _ | with_reducible refine size_drewN ?_ _ | with_reducible refine size_drew ?_)))))
    ((repeat (first | exact Below.refl _ _ | with_reducible assumption | refine Below.alloc0 ?_ _ | refine Below.step0 ?_ (by with_reducible assumption) | refine Below.step ?_ (by with_reducible assumption) ?_ | refine Below.alloc ?_ ?_ _ | refine Below.drew ?_ | refine below_drewN ?_ _ | refine Below.setCell ?_ ?_ _)) <;> (first | omega | exact hsz | exact Below.size (by with_reducible assumption) | (simp; done) | (simp; omega) | (simp at *; omega)))
  have ho16_x6 := World.ownsRow.kept (base := w.heap.size) (e := 48) (size := 3) (v := .slice A6 n1 d6) (n := n1) (xs := dsl l1) (by ((repeat (first | with_reducible assumption | with_reducible refine own_alloc ?_ _ | with_reducible refine own_step ?_ (by with_reducible assumption) | with_reducible refine own_drew ?_ | with_reducible refine own_drewN ?_ _)))) hgm16 (by first | (refine own_disj ho6 ho5 ?_; ((repeat (first | exact Nat.le_refl _ | with_reducible assumption | with_reducible refine Nat.le_trans ?_ (Below.size (by with_reducible assumption)) | with_reducible refine Nat.le_trans ?_ (grown_size (by with_reducible assumption)) | with_reducible refine size_alloc ?_ _ | with_reducible refine size_drewN ?_ _ | with_reducible refine size_drew ?_))); done) | (refine own_disj' ho6 ho5 ?_; ((repeat (first | exact Nat.le_refl _ | with_reducible assumption | with_reducible refine Nat.le_trans ?_ (Below.size (by with_reducible assumption)) | with_reducible refine Nat.le_trans ?_ (grown_size (by with_reducible assumption)) | with_reducible refine size_alloc ?_ _ | with_reducible refine size_drewN ?_ _ | with_reducible refine size_drew ?_))); done))
  have hx16_x6 := own_rd ho16_x6
  have ho16_x7 := World.ownsRow.kept (base := w.heap.size) (e := 48) (size := 3) (v := .slice A7 n2 d7) (n := n2) (xs := dsl l2) (by ((repeat (first | with_reducible assumption | with_reducible refine own_alloc ?_ _ | with_reducible refine own_step ?_ (by with_reducible assumption) | with_reducible refine own_drew ?_ | with_reducible refine own_drewN ?_ _)))) hgm16 (by first | (refine own_disj ho7 ho5 ?_; ((repeat (first | exact Nat.le_refl _ | with_reducible assumption | with_reducible refine Nat.le_trans ?_ (Below.size (by with_reducible assumption)) | with_reducible refine Nat.le_trans ?_ (grown_size (by with_reducible assumption)) | with_reducible refine size_alloc ?_ _ | with_reducible refine size_drewN ?_ _ | with_reducible refine size_drew ?_))); done) | (refine own_disj' ho7 ho5 ?_; ((repeat (first | exact Nat.le_refl _ | with_reducible assumption | with_reducible refine Nat.le_trans ?_ (Below.size (by with_reducible assumption)) | with_reducible refine Nat.le_trans ?_ (grown_size (by with_reducible assumption)) | with_reducible refine size_alloc ?_ _ | with_reducible refine size_drewN ?_ _ | with_reducible refine size_drew ?_))); done))
  have hx16_x7 := own_rd ho16_x7
  have ho16_w0 := World.ownsRow.kept (base := w.heap.size) (e := 48) (size := 3) (v := .slice A4_0 (mixR true l0 l1 l2).length d4_0) (n := (mixR true l0 l1 l2).length) (xs := dsl (mixR true l0 l1 l2)) (by ((repeat (first | with_reducible assumption | with_reducible refine own_alloc ?_ _ | with_reducible refine own_step ?_ (by with_reducible assumption) | with_reducible refine own_drew ?_ | with_reducible refine own_drewN ?_ _)))) hgm16 (by first | (refine own_disj ho4_0 ho5 ?_; ((repeat (first | exact Nat.le_refl _ | with_reducible assumption | with_reducible refine Nat.le_trans ?_ (Below.size (by with_reducible assumption)) | with_reducible refine Nat.le_trans ?_ (grown_size (by with_reducible assumption)) | with_reducible refine size_alloc ?_ _ | with_reducible refine size_drewN ?_ _ | with_reducible refine size_drew ?_))); done) | (refine own_disj' ho4_0 ho5 ?_; ((repeat (first | exact Nat.le_refl _ | with_reducible assumption | with_reducible refine Nat.le_trans ?_ (Below.size (by with_reducible assumption)) | with_reducible refine Nat.le_trans ?_ (grown_size (by with_reducible assumption)) | with_reducible refine size_alloc ?_ _ | with_reducible refine size_drewN ?_ _ | with_reducible refine size_drew ?_))); done))
  have hx16_w0 := own_rd ho16_w0
  have ho16_g0 := World.ownsRow.kept (base := w.heap.size) (e := 48) (size := 3) (v := .slice A8_0 (mixR true l0 l1 l2).length d8_0) (n := (mixR true l0 l1 l2).length) (xs := dsl (mixR true l0 l1 l2)) (by ((repeat (first | with_reducible assumption | with_reducible refine own_alloc ?_ _ | with_reducible refine own_step ?_ (by with_reducible assumption) | with_reducible refine own_drew ?_ | with_reducible refine own_drewN ?_ _)))) hgm16 (by first | (refine own_disj ho8_0 ho5 ?_; ((repeat (first | exact Nat.le_refl _ | with_reducible assumption | with_reducible refine Nat.le_trans ?_ (Below.size (by with_reducible assumption)) | with_reducible refine Nat.le_trans ?_ (grown_size (by with_reducible assumption)) | with_reducible refine size_alloc ?_ _ | with_reducible refine size_drewN ?_ _ | with_reducible refine size_drew ?_))); done) | (refine own_disj' ho8_0 ho5 ?_; ((repeat (first | exact Nat.le_refl _ | with_reducible assumption | with_reducible refine Nat.le_trans ?_ (Below.size (by with_reducible assumption)) | with_reducible refine Nat.le_trans ?_ (grown_size (by with_reducible assumption)) | with_reducible refine size_alloc ?_ _ | with_reducible refine size_drewN ?_ _ | with_reducible refine size_drew ?_))); done))
  have hx16_g0 := own_rd ho16_g0
  have hx16_m := own_rd hom16
  have hr0_16 := hr0.below hch16 (Nat.le_refl _)
  have hr1_16 := hr1.below hch16 (Nat.le_refl _)
  have hr2_16 := hr2.below hch16 (Nat.le_refl _)
  go_wp2_with fail
  refine Calls.mono (markDominoS_c l1 A6 n1 _ w.heap.size _ _ ?_ ?_ (by omega) (by omega)) ?_
  · ((repeat (first | with_reducible assumption | with_reducible refine own_alloc ?_ _ | with_reducible refine own_step ?_ (by with_reducible assumption) | with_reducible refine own_drew ?_ | with_reducible refine own_drewN ?_ _)))
  · (first | omega | assumption)
  rintro e w17 ⟨rfl, hom17, hgm17, hbm17⟩
  have hv17_p0_0 : w17.cell? ⟨w.heap.size, 0, none⟩ = some (.slice A0 n0 c0) := by
    (refine cell_grown (by ((repeat (first | with_reducible assumption | with_reducible refine cell_step ?_ (by with_reducible assumption) | with_reducible refine cell_drew ?_ | with_reducible refine cell_drewN ?_ _ | (refine cell_new rfl ?_; with_reducible rfl) | (refine cell_new rfl ?_; simp; done) | with_reducible refine cell_alloc ?_ _)))) (by assumption) (by first | (refine row_ne ho6 ?_; ((repeat (first | exact Nat.le_refl _ | with_reducible assumption | with_reducible refine Nat.le_trans ?_ (Below.size (by with_reducible assumption)) | with_reducible refine Nat.le_trans ?_ (grown_size (by with_reducible assumption)) | with_reducible refine size_alloc ?_ _ | with_reducible refine size_drewN ?_ _ | with_reducible refine size_drew ?_))); done) | (refine row_ne_cell (o := 0) (u := .slice A0 n0 c0) ho6 ?_; ((repeat (first | with_reducible assumption | with_reducible refine cell_step ?_ (by with_reducible assumption) | with_reducible refine cell_drew ?_ | with_reducible refine cell_drewN ?_ _ | (refine cell_new rfl ?_; with_reducible rfl) | (refine cell_new rfl ?_; simp; done) | with_reducible refine cell_alloc ?_ _))); done)))
  have ha17_p0_0 : ∀ o, (w17.alloc o).cell? ⟨w.heap.size, 0, none⟩ = some (.slice A0 n0 c0) := fun o => cell_alloc hv17_p0_0 o
  have hv17_x0 : w17.cell? ⟨w5.heap.size, 0, none⟩ = some (.slice A5 n0 d5) := by
    (refine cell_grown (by ((repeat (first | with_reducible assumption | with_reducible refine cell_step ?_ (by with_reducible assumption) | with_reducible refine cell_drew ?_ | with_reducible refine cell_drewN ?_ _ | (refine cell_new rfl ?_; with_reducible rfl) | (refine cell_new rfl ?_; simp; done) | with_reducible refine cell_alloc ?_ _)))) (by assumption) (by first | (refine row_ne ho6 ?_; ((repeat (first | exact Nat.le_refl _ | with_reducible assumption | with_reducible refine Nat.le_trans ?_ (Below.size (by with_reducible assumption)) | with_reducible refine Nat.le_trans ?_ (grown_size (by with_reducible assumption)) | with_reducible refine size_alloc ?_ _ | with_reducible refine size_drewN ?_ _ | with_reducible refine size_drew ?_))); done) | (refine row_ne_cell (o := 0) (u := .slice A5 n0 d5) ho6 ?_; ((repeat (first | with_reducible assumption | with_reducible refine cell_step ?_ (by with_reducible assumption) | with_reducible refine cell_drew ?_ | with_reducible refine cell_drewN ?_ _ | (refine cell_new rfl ?_; with_reducible rfl) | (refine cell_new rfl ?_; simp; done) | with_reducible refine cell_alloc ?_ _))); done)))
  have ha17_x0 : ∀ o, (w17.alloc o).cell? ⟨w5.heap.size, 0, none⟩ = some (.slice A5 n0 d5) := fun o => cell_alloc hv17_x0 o
  have hch17 : Below w.heap.size w w17 := by
    refine Below.trans ?_ (hbm17.mono (by ((repeat (first | exact Nat.le_refl _ | with_reducible assumption | with_reducible refine Nat.le_trans ?_ (Below.size (by with_reducible assumption)) | with_reducible refine Nat.le_trans ?_ (grown_size (by with_reducible assumption)) | with_reducible refine size_alloc ?_ _ | with_reducible refine size_drewN ?_ _ | with_reducible refine size_drew ?_)))))
    ((repeat (first | exact Below.refl _ _ | with_reducible assumption | refine Below.alloc0 ?_ _ | refine Below.step0 ?_ (by with_reducible assumption) | refine Below.step ?_ (by with_reducible assumption) ?_ | refine Below.alloc ?_ ?_ _ | refine Below.drew ?_ | refine below_drewN ?_ _ | refine Below.setCell ?_ ?_ _)) <;> (first | omega | exact hsz | exact Below.size (by with_reducible assumption) | (simp; done) | (simp; omega) | (simp at *; omega)))
  have ho17_x7 := World.ownsRow.kept (base := w.heap.size) (e := 48) (size := 3) (v := .slice A7 n2 d7) (n := n2) (xs := dsl l2) (by ((repeat (first | with_reducible assumption | with_reducible refine own_alloc ?_ _ | with_reducible refine own_step ?_ (by with_reducible assumption) | with_reducible refine own_drew ?_ | with_reducible refine own_drewN ?_ _)))) hgm17 (by first | (refine own_disj ho7 ho6 ?_; ((repeat (first | exact Nat.le_refl _ | with_reducible assumption | with_reducible refine Nat.le_trans ?_ (Below.size (by with_reducible assumption)) | with_reducible refine Nat.le_trans ?_ (grown_size (by with_reducible assumption)) | with_reducible refine size_alloc ?_ _ | with_reducible refine size_drewN ?_ _ | with_reducible refine size_drew ?_))); done) | (refine own_disj' ho7 ho6 ?_; ((repeat (first | exact Nat.le_refl _ | with_reducible assumption | with_reducible refine Nat.le_trans ?_ (Below.size (by with_reducible assumption)) | with_reducible refine Nat.le_trans ?_ (grown_size (by with_reducible assumption)) | with_reducible refine size_alloc ?_ _ | with_reducible refine size_drewN ?_ _ | with_reducible refine size_drew ?_))); done))
  have hx17_x7 := own_rd ho17_x7
  have ho17_w0 := World.ownsRow.kept (base := w.heap.size) (e := 48) (size := 3) (v := .slice A4_0 (mixR true l0 l1 l2).length d4_0) (n := (mixR true l0 l1 l2).length) (xs := dsl (mixR true l0 l1 l2)) (by ((repeat (first | with_reducible assumption | with_reducible refine own_alloc ?_ _ | with_reducible refine own_step ?_ (by with_reducible assumption) | with_reducible refine own_drew ?_ | with_reducible refine own_drewN ?_ _)))) hgm17 (by first | (refine own_disj ho4_0 ho6 ?_; ((repeat (first | exact Nat.le_refl _ | with_reducible assumption | with_reducible refine Nat.le_trans ?_ (Below.size (by with_reducible assumption)) | with_reducible refine Nat.le_trans ?_ (grown_size (by with_reducible assumption)) | with_reducible refine size_alloc ?_ _ | with_reducible refine size_drewN ?_ _ | with_reducible refine size_drew ?_))); done) | (refine own_disj' ho4_0 ho6 ?_; ((repeat (first | exact Nat.le_refl _ | with_reducible assumption | with_reducible refine Nat.le_trans ?_ (Below.size (by with_reducible assumption)) | with_reducible refine Nat.le_trans ?_ (grown_size (by with_reducible assumption)) | with_reducible refine size_alloc ?_ _ | with_reducible refine size_drewN ?_ _ | with_reducible refine size_drew ?_))); done))
  have hx17_w0 := own_rd ho17_w0
  have ho17_g0 := World.ownsRow.kept (base := w.heap.size) (e := 48) (size := 3) (v := .slice A8_0 (mixR true l0 l1 l2).length d8_0) (n := (mixR true l0 l1 l2).length) (xs := dsl (mixR true l0 l1 l2)) (by ((repeat (first | with_reducible assumption | with_reducible refine own_alloc ?_ _ | with_reducible refine own_step ?_ (by with_reducible assumption) | with_reducible refine own_drew ?_ | with_reducible refine own_drewN ?_ _)))) hgm17 (by first | (refine own_disj ho8_0 ho6 ?_; ((repeat (first | exact Nat.le_refl _ | with_reducible assumption | with_reducible refine Nat.le_trans ?_ (Below.size (by with_reducible assumption)) | with_reducible refine Nat.le_trans ?_ (grown_size (by with_reducible assumption)) | with_reducible refine size_alloc ?_ _ | with_reducible refine size_drewN ?_ _ | with_reducible refine size_drew ?_))); done) | (refine own_disj' ho8_0 ho6 ?_; ((repeat (first | exact Nat.le_refl _ | with_reducible assumption | with_reducible refine Nat.le_trans ?_ (Below.size (by with_reducible assumption)) | with_reducible refine Nat.le_trans ?_ (grown_size (by with_reducible assumption)) | with_reducible refine size_alloc ?_ _ | with_reducible refine size_drewN ?_ _ | with_reducible refine size_drew ?_))); done))
  have hx17_g0 := own_rd ho17_g0
  have hx17_m := own_rd hom17
  have hr0_17 := hr0.below hch17 (Nat.le_refl _)
  have hr1_17 := hr1.below hch17 (Nat.le_refl _)
  have hr2_17 := hr2.below hch17 (Nat.le_refl _)
  go_wp2_with fail
  refine Calls.mono (markDominoS_c l2 A7 n2 _ w.heap.size _ _ ?_ ?_ (by omega) (by omega)) ?_
  · ((repeat (first | with_reducible assumption | with_reducible refine own_alloc ?_ _ | with_reducible refine own_step ?_ (by with_reducible assumption) | with_reducible refine own_drew ?_ | with_reducible refine own_drewN ?_ _)))
  · (first | omega | assumption)
  rintro e w18 ⟨rfl, hom18, hgm18, hbm18⟩
  have hv18_p0_0 : w18.cell? ⟨w.heap.size, 0, none⟩ = some (.slice A0 n0 c0) := by
    (refine cell_grown (by ((repeat (first | with_reducible assumption | with_reducible refine cell_step ?_ (by with_reducible assumption) | with_reducible refine cell_drew ?_ | with_reducible refine cell_drewN ?_ _ | (refine cell_new rfl ?_; with_reducible rfl) | (refine cell_new rfl ?_; simp; done) | with_reducible refine cell_alloc ?_ _)))) (by assumption) (by first | (refine row_ne ho7 ?_; ((repeat (first | exact Nat.le_refl _ | with_reducible assumption | with_reducible refine Nat.le_trans ?_ (Below.size (by with_reducible assumption)) | with_reducible refine Nat.le_trans ?_ (grown_size (by with_reducible assumption)) | with_reducible refine size_alloc ?_ _ | with_reducible refine size_drewN ?_ _ | with_reducible refine size_drew ?_))); done) | (refine row_ne_cell (o := 0) (u := .slice A0 n0 c0) ho7 ?_; ((repeat (first | with_reducible assumption | with_reducible refine cell_step ?_ (by with_reducible assumption) | with_reducible refine cell_drew ?_ | with_reducible refine cell_drewN ?_ _ | (refine cell_new rfl ?_; with_reducible rfl) | (refine cell_new rfl ?_; simp; done) | with_reducible refine cell_alloc ?_ _))); done)))
  have ha18_p0_0 : ∀ o, (w18.alloc o).cell? ⟨w.heap.size, 0, none⟩ = some (.slice A0 n0 c0) := fun o => cell_alloc hv18_p0_0 o
  have hv18_x0 : w18.cell? ⟨w5.heap.size, 0, none⟩ = some (.slice A5 n0 d5) := by
    (refine cell_grown (by ((repeat (first | with_reducible assumption | with_reducible refine cell_step ?_ (by with_reducible assumption) | with_reducible refine cell_drew ?_ | with_reducible refine cell_drewN ?_ _ | (refine cell_new rfl ?_; with_reducible rfl) | (refine cell_new rfl ?_; simp; done) | with_reducible refine cell_alloc ?_ _)))) (by assumption) (by first | (refine row_ne ho7 ?_; ((repeat (first | exact Nat.le_refl _ | with_reducible assumption | with_reducible refine Nat.le_trans ?_ (Below.size (by with_reducible assumption)) | with_reducible refine Nat.le_trans ?_ (grown_size (by with_reducible assumption)) | with_reducible refine size_alloc ?_ _ | with_reducible refine size_drewN ?_ _ | with_reducible refine size_drew ?_))); done) | (refine row_ne_cell (o := 0) (u := .slice A5 n0 d5) ho7 ?_; ((repeat (first | with_reducible assumption | with_reducible refine cell_step ?_ (by with_reducible assumption) | with_reducible refine cell_drew ?_ | with_reducible refine cell_drewN ?_ _ | (refine cell_new rfl ?_; with_reducible rfl) | (refine cell_new rfl ?_; simp; done) | with_reducible refine cell_alloc ?_ _))); done)))
  have ha18_x0 : ∀ o, (w18.alloc o).cell? ⟨w5.heap.size, 0, none⟩ = some (.slice A5 n0 d5) := fun o => cell_alloc hv18_x0 o
  have hch18 : Below w.heap.size w w18 := by
    refine Below.trans ?_ (hbm18.mono (by ((repeat (first | exact Nat.le_refl _ | with_reducible assumption | with_reducible refine Nat.le_trans ?_ (Below.size (by with_reducible assumption)) | with_reducible refine Nat.le_trans ?_ (grown_size (by with_reducible assumption)) | with_reducible refine size_alloc ?_ _ | with_reducible refine size_drewN ?_ _ | with_reducible refine size_drew ?_)))))
    ((repeat (first | exact Below.refl _ _ | with_reducible assumption | refine Below.alloc0 ?_ _ | refine Below.step0 ?_ (by with_reducible assumption) | refine Below.step ?_ (by with_reducible assumption) ?_ | refine Below.alloc ?_ ?_ _ | refine Below.drew ?_ | refine below_drewN ?_ _ | refine Below.setCell ?_ ?_ _)) <;> (first | omega | exact hsz | exact Below.size (by with_reducible assumption) | (simp; done) | (simp; omega) | (simp at *; omega)))
  have ho18_w0 := World.ownsRow.kept (base := w.heap.size) (e := 48) (size := 3) (v := .slice A4_0 (mixR true l0 l1 l2).length d4_0) (n := (mixR true l0 l1 l2).length) (xs := dsl (mixR true l0 l1 l2)) (by ((repeat (first | with_reducible assumption | with_reducible refine own_alloc ?_ _ | with_reducible refine own_step ?_ (by with_reducible assumption) | with_reducible refine own_drew ?_ | with_reducible refine own_drewN ?_ _)))) hgm18 (by first | (refine own_disj ho4_0 ho7 ?_; ((repeat (first | exact Nat.le_refl _ | with_reducible assumption | with_reducible refine Nat.le_trans ?_ (Below.size (by with_reducible assumption)) | with_reducible refine Nat.le_trans ?_ (grown_size (by with_reducible assumption)) | with_reducible refine size_alloc ?_ _ | with_reducible refine size_drewN ?_ _ | with_reducible refine size_drew ?_))); done) | (refine own_disj' ho4_0 ho7 ?_; ((repeat (first | exact Nat.le_refl _ | with_reducible assumption | with_reducible refine Nat.le_trans ?_ (Below.size (by with_reducible assumption)) | with_reducible refine Nat.le_trans ?_ (grown_size (by with_reducible assumption)) | with_reducible refine size_alloc ?_ _ | with_reducible refine size_drewN ?_ _ | with_reducible refine size_drew ?_))); done))
  have hx18_w0 := own_rd ho18_w0
  have ho18_g0 := World.ownsRow.kept (base := w.heap.size) (e := 48) (size := 3) (v := .slice A8_0 (mixR true l0 l1 l2).length d8_0) (n := (mixR true l0 l1 l2).length) (xs := dsl (mixR true l0 l1 l2)) (by ((repeat (first | with_reducible assumption | with_reducible refine own_alloc ?_ _ | with_reducible refine own_step ?_ (by with_reducible assumption) | with_reducible refine own_drew ?_ | with_reducible refine own_drewN ?_ _)))) hgm18 (by first | (refine own_disj ho8_0 ho7 ?_; ((repeat (first | exact Nat.le_refl _ | with_reducible assumption | with_reducible refine Nat.le_trans ?_ (Below.size (by with_reducible assumption)) | with_reducible refine Nat.le_trans ?_ (grown_size (by with_reducible assumption)) | with_reducible refine size_alloc ?_ _ | with_reducible refine size_drewN ?_ _ | with_reducible refine size_drew ?_))); done) | (refine own_disj' ho8_0 ho7 ?_; ((repeat (first | exact Nat.le_refl _ | with_reducible assumption | with_reducible refine Nat.le_trans ?_ (Below.size (by with_reducible assumption)) | with_reducible refine Nat.le_trans ?_ (grown_size (by with_reducible assumption)) | with_reducible refine size_alloc ?_ _ | with_reducible refine size_drewN ?_ _ | with_reducible refine size_drew ?_))); done))
  have hx18_g0 := own_rd ho18_g0
  have hx18_m := own_rd hom18
  have hr0_18 := hr0.below hch18 (Nat.le_refl _)
  have hr1_18 := hr1.below hch18 (Nat.le_refl _)
  have hr2_18 := hr2.below hch18 (Nat.le_refl _)
  go_wp2_with fail
  refine Calls.mono (eqDominoS_c (mixR true l0 l1 l2) (mixR true l0 l1 l2) A8_0 A4_0 (mixR true l0 l1 l2).length _ (mixR true l0 l1 l2).length _ _ ?_ ?_ ?_ ?_) ?_
  · ((repeat (first | with_reducible assumption | with_reducible refine Rd.alloc ?_ _ | with_reducible refine Rd.step ?_ (by with_reducible assumption) | with_reducible refine Rd.drew ?_ | with_reducible refine Rd.drewN ?_ _ | with_reducible refine RdA.alloc ?_ _ | with_reducible refine RdA.step ?_ (by with_reducible assumption) | with_reducible refine RdA.drew ?_ | with_reducible refine RdA.drewN ?_ _)))
  · ((repeat (first | with_reducible assumption | with_reducible refine Rd.alloc ?_ _ | with_reducible refine Rd.step ?_ (by with_reducible assumption) | with_reducible refine Rd.drew ?_ | with_reducible refine Rd.drewN ?_ _ | with_reducible refine RdA.alloc ?_ _ | with_reducible refine RdA.step ?_ (by with_reducible assumption) | with_reducible refine RdA.drew ?_ | with_reducible refine RdA.drewN ?_ _)))
  · (first | omega | assumption)
  · (first | omega | assumption)
  rintro e w19 ⟨rfl, hb19⟩
  have hv19_p0_0 : w19.cell? ⟨w.heap.size, 0, none⟩ = some (.slice A0 n0 c0) := by
    ((repeat (first | with_reducible assumption | with_reducible refine cell_step ?_ (by with_reducible assumption) | with_reducible refine cell_drew ?_ | with_reducible refine cell_drewN ?_ _ | (refine cell_new rfl ?_; with_reducible rfl) | (refine cell_new rfl ?_; simp; done) | with_reducible refine cell_alloc ?_ _)))
  have ha19_p0_0 : ∀ o, (w19.alloc o).cell? ⟨w.heap.size, 0, none⟩ = some (.slice A0 n0 c0) := fun o => cell_alloc hv19_p0_0 o
  have hv19_x0 : w19.cell? ⟨w5.heap.size, 0, none⟩ = some (.slice A5 n0 d5) := by
    ((repeat (first | with_reducible assumption | with_reducible refine cell_step ?_ (by with_reducible assumption) | with_reducible refine cell_drew ?_ | with_reducible refine cell_drewN ?_ _ | (refine cell_new rfl ?_; with_reducible rfl) | (refine cell_new rfl ?_; simp; done) | with_reducible refine cell_alloc ?_ _)))
  have ha19_x0 : ∀ o, (w19.alloc o).cell? ⟨w5.heap.size, 0, none⟩ = some (.slice A5 n0 d5) := fun o => cell_alloc hv19_x0 o
  go_wp2_with fail
  refine Calls.mono (markDominoS_c (mixR true l0 l1 l2) A8_0 (mixR true l0 l1 l2).length _ w.heap.size _ _ ?_ ?_ (by omega) (by omega)) ?_
  · ((repeat (first | with_reducible assumption | with_reducible refine own_alloc ?_ _ | with_reducible refine own_step ?_ (by with_reducible assumption) | with_reducible refine own_drew ?_ | with_reducible refine own_drewN ?_ _)))
  · (first | omega | assumption)
  rintro e w20 ⟨rfl, hom20, hgm20, hbm20⟩
  have hv20_p0_0 : w20.cell? ⟨w.heap.size, 0, none⟩ = some (.slice A0 n0 c0) := by
    (refine cell_grown (by ((repeat (first | with_reducible assumption | with_reducible refine cell_step ?_ (by with_reducible assumption) | with_reducible refine cell_drew ?_ | with_reducible refine cell_drewN ?_ _ | (refine cell_new rfl ?_; with_reducible rfl) | (refine cell_new rfl ?_; simp; done) | with_reducible refine cell_alloc ?_ _)))) (by assumption) (by first | (refine row_ne ho8_0 ?_; ((repeat (first | exact Nat.le_refl _ | with_reducible assumption | with_reducible refine Nat.le_trans ?_ (Below.size (by with_reducible assumption)) | with_reducible refine Nat.le_trans ?_ (grown_size (by with_reducible assumption)) | with_reducible refine size_alloc ?_ _ | with_reducible refine size_drewN ?_ _ | with_reducible refine size_drew ?_))); done) | (refine row_ne_cell (o := 0) (u := .slice A0 n0 c0) ho8_0 ?_; ((repeat (first | with_reducible assumption | with_reducible refine cell_step ?_ (by with_reducible assumption) | with_reducible refine cell_drew ?_ | with_reducible refine cell_drewN ?_ _ | (refine cell_new rfl ?_; with_reducible rfl) | (refine cell_new rfl ?_; simp; done) | with_reducible refine cell_alloc ?_ _))); done)))
  have ha20_p0_0 : ∀ o, (w20.alloc o).cell? ⟨w.heap.size, 0, none⟩ = some (.slice A0 n0 c0) := fun o => cell_alloc hv20_p0_0 o
  have hv20_x0 : w20.cell? ⟨w5.heap.size, 0, none⟩ = some (.slice A5 n0 d5) := by
    (refine cell_grown (by ((repeat (first | with_reducible assumption | with_reducible refine cell_step ?_ (by with_reducible assumption) | with_reducible refine cell_drew ?_ | with_reducible refine cell_drewN ?_ _ | (refine cell_new rfl ?_; with_reducible rfl) | (refine cell_new rfl ?_; simp; done) | with_reducible refine cell_alloc ?_ _)))) (by assumption) (by first | (refine row_ne ho8_0 ?_; ((repeat (first | exact Nat.le_refl _ | with_reducible assumption | with_reducible refine Nat.le_trans ?_ (Below.size (by with_reducible assumption)) | with_reducible refine Nat.le_trans ?_ (grown_size (by with_reducible assumption)) | with_reducible refine size_alloc ?_ _ | with_reducible refine size_drewN ?_ _ | with_reducible refine size_drew ?_))); done) | (refine row_ne_cell (o := 0) (u := .slice A5 n0 d5) ho8_0 ?_; ((repeat (first | with_reducible assumption | with_reducible refine cell_step ?_ (by with_reducible assumption) | with_reducible refine cell_drew ?_ | with_reducible refine cell_drewN ?_ _ | (refine cell_new rfl ?_; with_reducible rfl) | (refine cell_new rfl ?_; simp; done) | with_reducible refine cell_alloc ?_ _))); done)))
  have ha20_x0 : ∀ o, (w20.alloc o).cell? ⟨w5.heap.size, 0, none⟩ = some (.slice A5 n0 d5) := fun o => cell_alloc hv20_x0 o
  have hch20 : Below w.heap.size w w20 := by
    refine Below.trans ?_ (hbm20.mono (by ((repeat (first | exact Nat.le_refl _ | with_reducible assumption | with_reducible refine Nat.le_trans ?_ (Below.size (by with_reducible assumption)) | with_reducible refine Nat.le_trans ?_ (grown_size (by with_reducible assumption)) | with_reducible refine size_alloc ?_ _ | with_reducible refine size_drewN ?_ _ | with_reducible refine size_drew ?_)))))
    ((repeat (first | exact Below.refl _ _ | with_reducible assumption | refine Below.alloc0 ?_ _ | refine Below.step0 ?_ (by with_reducible assumption) | refine Below.step ?_ (by with_reducible assumption) ?_ | refine Below.alloc ?_ ?_ _ | refine Below.drew ?_ | refine below_drewN ?_ _ | refine Below.setCell ?_ ?_ _)) <;> (first | omega | exact hsz | exact Below.size (by with_reducible assumption) | (simp; done) | (simp; omega) | (simp at *; omega)))
  have ho20_w0 := World.ownsRow.kept (base := w.heap.size) (e := 48) (size := 3) (v := .slice A4_0 (mixR true l0 l1 l2).length d4_0) (n := (mixR true l0 l1 l2).length) (xs := dsl (mixR true l0 l1 l2)) (by ((repeat (first | with_reducible assumption | with_reducible refine own_alloc ?_ _ | with_reducible refine own_step ?_ (by with_reducible assumption) | with_reducible refine own_drew ?_ | with_reducible refine own_drewN ?_ _)))) hgm20 (by first | (refine own_disj ho4_0 ho8_0 ?_; ((repeat (first | exact Nat.le_refl _ | with_reducible assumption | with_reducible refine Nat.le_trans ?_ (Below.size (by with_reducible assumption)) | with_reducible refine Nat.le_trans ?_ (grown_size (by with_reducible assumption)) | with_reducible refine size_alloc ?_ _ | with_reducible refine size_drewN ?_ _ | with_reducible refine size_drew ?_))); done) | (refine own_disj' ho4_0 ho8_0 ?_; ((repeat (first | exact Nat.le_refl _ | with_reducible assumption | with_reducible refine Nat.le_trans ?_ (Below.size (by with_reducible assumption)) | with_reducible refine Nat.le_trans ?_ (grown_size (by with_reducible assumption)) | with_reducible refine size_alloc ?_ _ | with_reducible refine size_drewN ?_ _ | with_reducible refine size_drew ?_))); done))
  have hx20_w0 := own_rd ho20_w0
  have hx20_m := own_rd hom20
  have hr0_20 := hr0.below hch20 (Nat.le_refl _)
  have hr1_20 := hr1.below hch20 (Nat.le_refl _)
  have hr2_20 := hr2.below hch20 (Nat.le_refl _)
  go_wp2_with fail
  refine Calls.mono (heldDominoS_c A8_0 (mixR true l0 l1 l2).length _ _ _ ?_ ?_ (by omega) (by omega)) ?_
  · ((repeat (first | with_reducible assumption | with_reducible refine Rd.alloc ?_ _ | with_reducible refine Rd.step ?_ (by with_reducible assumption) | with_reducible refine Rd.drew ?_ | with_reducible refine Rd.drewN ?_ _ | with_reducible refine RdA.alloc ?_ _ | with_reducible refine RdA.step ?_ (by with_reducible assumption) | with_reducible refine RdA.drew ?_ | with_reducible refine RdA.drewN ?_ _)))
  · (first | omega | assumption)
  rintro e w21 ⟨rfl, hb21⟩
  have hv21_p0_0 : w21.cell? ⟨w.heap.size, 0, none⟩ = some (.slice A0 n0 c0) := by
    ((repeat (first | with_reducible assumption | with_reducible refine cell_step ?_ (by with_reducible assumption) | with_reducible refine cell_drew ?_ | with_reducible refine cell_drewN ?_ _ | (refine cell_new rfl ?_; with_reducible rfl) | (refine cell_new rfl ?_; simp; done) | with_reducible refine cell_alloc ?_ _)))
  have ha21_p0_0 : ∀ o, (w21.alloc o).cell? ⟨w.heap.size, 0, none⟩ = some (.slice A0 n0 c0) := fun o => cell_alloc hv21_p0_0 o
  have hv21_x0 : w21.cell? ⟨w5.heap.size, 0, none⟩ = some (.slice A5 n0 d5) := by
    ((repeat (first | with_reducible assumption | with_reducible refine cell_step ?_ (by with_reducible assumption) | with_reducible refine cell_drew ?_ | with_reducible refine cell_drewN ?_ _ | (refine cell_new rfl ?_; with_reducible rfl) | (refine cell_new rfl ?_; simp; done) | with_reducible refine cell_alloc ?_ _)))
  have ha21_x0 : ∀ o, (w21.alloc o).cell? ⟨w5.heap.size, 0, none⟩ = some (.slice A5 n0 d5) := fun o => cell_alloc hv21_x0 o
  go_wp2_with fail
  refine Calls.mono (toRegion_c l0 _ _ _ _ ?_ (by omega)) ?_
  · ((repeat (first | with_reducible assumption | with_reducible refine Rd.alloc ?_ _ | with_reducible refine Rd.step ?_ (by with_reducible assumption) | with_reducible refine Rd.drew ?_ | with_reducible refine Rd.drewN ?_ _ | with_reducible refine RdA.alloc ?_ _ | with_reducible refine RdA.step ?_ (by with_reducible assumption) | with_reducible refine RdA.drew ?_ | with_reducible refine RdA.drewN ?_ _)))
  rintro e w22 ⟨v22, rfl, ho22, hb22⟩
  obtain ⟨A22, d22, rfl, hle22⟩ := own_form3 ho22
  have hx22 := own_rd ho22
  have hob22 := own_mono (base' := w.heap.size) ho22 (by ((repeat (first | exact Nat.le_refl _ | with_reducible assumption | with_reducible refine Nat.le_trans ?_ (Below.size (by with_reducible assumption)) | with_reducible refine Nat.le_trans ?_ (grown_size (by with_reducible assumption)) | with_reducible refine size_alloc ?_ _ | with_reducible refine size_drewN ?_ _ | with_reducible refine size_drew ?_))))
  have hv22_p0_0 : w22.cell? ⟨w.heap.size, 0, none⟩ = some (.slice A0 n0 c0) := by
    ((repeat (first | with_reducible assumption | with_reducible refine cell_step ?_ (by with_reducible assumption) | with_reducible refine cell_drew ?_ | with_reducible refine cell_drewN ?_ _ | (refine cell_new rfl ?_; with_reducible rfl) | (refine cell_new rfl ?_; simp; done) | with_reducible refine cell_alloc ?_ _)))
  have ha22_p0_0 : ∀ o, (w22.alloc o).cell? ⟨w.heap.size, 0, none⟩ = some (.slice A0 n0 c0) := fun o => cell_alloc hv22_p0_0 o
  have hv22_x0 : w22.cell? ⟨w5.heap.size, 0, none⟩ = some (.slice A5 n0 d5) := by
    ((repeat (first | with_reducible assumption | with_reducible refine cell_step ?_ (by with_reducible assumption) | with_reducible refine cell_drew ?_ | with_reducible refine cell_drewN ?_ _ | (refine cell_new rfl ?_; with_reducible rfl) | (refine cell_new rfl ?_; simp; done) | with_reducible refine cell_alloc ?_ _)))
  have ha22_x0 : ∀ o, (w22.alloc o).cell? ⟨w5.heap.size, 0, none⟩ = some (.slice A5 n0 d5) := fun o => cell_alloc hv22_x0 o
  go_wp2_with fail
  refine Calls.mono (toDominoS_c l1 _ _ _ _ ?_ (by omega)) ?_
  · ((repeat (first | with_reducible assumption | with_reducible refine Rd.alloc ?_ _ | with_reducible refine Rd.step ?_ (by with_reducible assumption) | with_reducible refine Rd.drew ?_ | with_reducible refine Rd.drewN ?_ _ | with_reducible refine RdA.alloc ?_ _ | with_reducible refine RdA.step ?_ (by with_reducible assumption) | with_reducible refine RdA.drew ?_ | with_reducible refine RdA.drewN ?_ _)))
  rintro e w23 ⟨v23, rfl, ho23, hb23⟩
  obtain ⟨A23, d23, rfl, hle23⟩ := own_form3 ho23
  have hx23 := own_rd ho23
  have hob23 := own_mono (base' := w.heap.size) ho23 (by ((repeat (first | exact Nat.le_refl _ | with_reducible assumption | with_reducible refine Nat.le_trans ?_ (Below.size (by with_reducible assumption)) | with_reducible refine Nat.le_trans ?_ (grown_size (by with_reducible assumption)) | with_reducible refine size_alloc ?_ _ | with_reducible refine size_drewN ?_ _ | with_reducible refine size_drew ?_))))
  have hv23_p0_0 : w23.cell? ⟨w.heap.size, 0, none⟩ = some (.slice A0 n0 c0) := by
    ((repeat (first | with_reducible assumption | with_reducible refine cell_step ?_ (by with_reducible assumption) | with_reducible refine cell_drew ?_ | with_reducible refine cell_drewN ?_ _ | (refine cell_new rfl ?_; with_reducible rfl) | (refine cell_new rfl ?_; simp; done) | with_reducible refine cell_alloc ?_ _)))
  have ha23_p0_0 : ∀ o, (w23.alloc o).cell? ⟨w.heap.size, 0, none⟩ = some (.slice A0 n0 c0) := fun o => cell_alloc hv23_p0_0 o
  have hv23_x0 : w23.cell? ⟨w5.heap.size, 0, none⟩ = some (.slice A5 n0 d5) := by
    ((repeat (first | with_reducible assumption | with_reducible refine cell_step ?_ (by with_reducible assumption) | with_reducible refine cell_drew ?_ | with_reducible refine cell_drewN ?_ _ | (refine cell_new rfl ?_; with_reducible rfl) | (refine cell_new rfl ?_; simp; done) | with_reducible refine cell_alloc ?_ _)))
  have ha23_x0 : ∀ o, (w23.alloc o).cell? ⟨w5.heap.size, 0, none⟩ = some (.slice A5 n0 d5) := fun o => cell_alloc hv23_x0 o
  go_wp2_with fail
  refine Calls.mono (toDominoS_c l2 _ _ _ _ ?_ (by omega)) ?_
  · ((repeat (first | with_reducible assumption | with_reducible refine Rd.alloc ?_ _ | with_reducible refine Rd.step ?_ (by with_reducible assumption) | with_reducible refine Rd.drew ?_ | with_reducible refine Rd.drewN ?_ _ | with_reducible refine RdA.alloc ?_ _ | with_reducible refine RdA.step ?_ (by with_reducible assumption) | with_reducible refine RdA.drew ?_ | with_reducible refine RdA.drewN ?_ _)))
  rintro e w24 ⟨v24, rfl, ho24, hb24⟩
  obtain ⟨A24, d24, rfl, hle24⟩ := own_form3 ho24
  have hx24 := own_rd ho24
  have hob24 := own_mono (base' := w.heap.size) ho24 (by ((repeat (first | exact Nat.le_refl _ | with_reducible assumption | with_reducible refine Nat.le_trans ?_ (Below.size (by with_reducible assumption)) | with_reducible refine Nat.le_trans ?_ (grown_size (by with_reducible assumption)) | with_reducible refine size_alloc ?_ _ | with_reducible refine size_drewN ?_ _ | with_reducible refine size_drew ?_))))
  have hv24_p0_0 : w24.cell? ⟨w.heap.size, 0, none⟩ = some (.slice A0 n0 c0) := by
    ((repeat (first | with_reducible assumption | with_reducible refine cell_step ?_ (by with_reducible assumption) | with_reducible refine cell_drew ?_ | with_reducible refine cell_drewN ?_ _ | (refine cell_new rfl ?_; with_reducible rfl) | (refine cell_new rfl ?_; simp; done) | with_reducible refine cell_alloc ?_ _)))
  have ha24_p0_0 : ∀ o, (w24.alloc o).cell? ⟨w.heap.size, 0, none⟩ = some (.slice A0 n0 c0) := fun o => cell_alloc hv24_p0_0 o
  have hv24_x0 : w24.cell? ⟨w5.heap.size, 0, none⟩ = some (.slice A5 n0 d5) := by
    ((repeat (first | with_reducible assumption | with_reducible refine cell_step ?_ (by with_reducible assumption) | with_reducible refine cell_drew ?_ | with_reducible refine cell_drewN ?_ _ | (refine cell_new rfl ?_; with_reducible rfl) | (refine cell_new rfl ?_; simp; done) | with_reducible refine cell_alloc ?_ _)))
  have ha24_x0 : ∀ o, (w24.alloc o).cell? ⟨w5.heap.size, 0, none⟩ = some (.slice A5 n0 d5) := fun o => cell_alloc hv24_x0 o
  go_wp2_with fail
  refine Calls.mono (kit_rowv (impl_HigherOf_fn l0 l1 l2 (by have := HN0.out; omega) (by have := HN1.out; omega) (by have := HN2.out; omega)) (args3 (mk_regv' ?_ ?_ HN0.out) (mk_slv' ?_ ?_ HN1.out) (mk_slv' ?_ ?_ HN2.out))) ?_
  · ((repeat (first | with_reducible assumption | with_reducible refine Rd.alloc ?_ _ | with_reducible refine Rd.step ?_ (by with_reducible assumption) | with_reducible refine Rd.drew ?_ | with_reducible refine Rd.drewN ?_ _ | with_reducible refine RdA.alloc ?_ _ | with_reducible refine RdA.step ?_ (by with_reducible assumption) | with_reducible refine RdA.drew ?_ | with_reducible refine RdA.drewN ?_ _)))
  · (try assumption)
  · ((repeat (first | with_reducible assumption | with_reducible refine Rd.alloc ?_ _ | with_reducible refine Rd.step ?_ (by with_reducible assumption) | with_reducible refine Rd.drew ?_ | with_reducible refine Rd.drewN ?_ _ | with_reducible refine RdA.alloc ?_ _ | with_reducible refine RdA.step ?_ (by with_reducible assumption) | with_reducible refine RdA.drew ?_ | with_reducible refine RdA.drewN ?_ _)))
  · (try assumption)
  · ((repeat (first | with_reducible assumption | with_reducible refine Rd.alloc ?_ _ | with_reducible refine Rd.step ?_ (by with_reducible assumption) | with_reducible refine Rd.drew ?_ | with_reducible refine Rd.drewN ?_ _ | with_reducible refine RdA.alloc ?_ _ | with_reducible refine RdA.step ?_ (by with_reducible assumption) | with_reducible refine RdA.drew ?_ | with_reducible refine RdA.drewN ?_ _)))
  · (try assumption)
  rintro e w25 ⟨v25_0, rfl, ho25_0, hb25⟩
  obtain ⟨A25_0, d25_0, rfl, hle25_0⟩ := own_form3 ho25_0
  have hx25_0 := own_rd ho25_0
  have hob25_0 := own_mono (base' := w.heap.size) ho25_0 (by ((repeat (first | exact Nat.le_refl _ | with_reducible assumption | with_reducible refine Nat.le_trans ?_ (Below.size (by with_reducible assumption)) | with_reducible refine Nat.le_trans ?_ (grown_size (by with_reducible assumption)) | with_reducible refine size_alloc ?_ _ | with_reducible refine size_drewN ?_ _ | with_reducible refine size_drew ?_))))
  have hv25_p0_0 : w25.cell? ⟨w.heap.size, 0, none⟩ = some (.slice A0 n0 c0) := by
    ((repeat (first | with_reducible assumption | with_reducible refine cell_step ?_ (by with_reducible assumption) | with_reducible refine cell_drew ?_ | with_reducible refine cell_drewN ?_ _ | (refine cell_new rfl ?_; with_reducible rfl) | (refine cell_new rfl ?_; simp; done) | with_reducible refine cell_alloc ?_ _)))
  have ha25_p0_0 : ∀ o, (w25.alloc o).cell? ⟨w.heap.size, 0, none⟩ = some (.slice A0 n0 c0) := fun o => cell_alloc hv25_p0_0 o
  have hv25_x0 : w25.cell? ⟨w5.heap.size, 0, none⟩ = some (.slice A5 n0 d5) := by
    ((repeat (first | with_reducible assumption | with_reducible refine cell_step ?_ (by with_reducible assumption) | with_reducible refine cell_drew ?_ | with_reducible refine cell_drewN ?_ _ | (refine cell_new rfl ?_; with_reducible rfl) | (refine cell_new rfl ?_; simp; done) | with_reducible refine cell_alloc ?_ _)))
  have ha25_x0 : ∀ o, (w25.alloc o).cell? ⟨w5.heap.size, 0, none⟩ = some (.slice A5 n0 d5) := fun o => cell_alloc hv25_x0 o
  go_wp2_with fail
  refine Calls.mono (eqDominoS_c (mixR true l0 l1 l2) (mixR true l0 l1 l2) A25_0 A4_0 (mixR true l0 l1 l2).length _ (mixR true l0 l1 l2).length _ _ ?_ ?_ ?_ ?_) ?_
  · ((repeat (first | with_reducible assumption | with_reducible refine Rd.alloc ?_ _ | with_reducible refine Rd.step ?_ (by with_reducible assumption) | with_reducible refine Rd.drew ?_ | with_reducible refine Rd.drewN ?_ _ | with_reducible refine RdA.alloc ?_ _ | with_reducible refine RdA.step ?_ (by with_reducible assumption) | with_reducible refine RdA.drew ?_ | with_reducible refine RdA.drewN ?_ _)))
  · ((repeat (first | with_reducible assumption | with_reducible refine Rd.alloc ?_ _ | with_reducible refine Rd.step ?_ (by with_reducible assumption) | with_reducible refine Rd.drew ?_ | with_reducible refine Rd.drewN ?_ _ | with_reducible refine RdA.alloc ?_ _ | with_reducible refine RdA.step ?_ (by with_reducible assumption) | with_reducible refine RdA.drew ?_ | with_reducible refine RdA.drewN ?_ _)))
  · (first | omega | assumption)
  · (first | omega | assumption)
  rintro e w26 ⟨rfl, hb26⟩
  have hv26_p0_0 : w26.cell? ⟨w.heap.size, 0, none⟩ = some (.slice A0 n0 c0) := by
    ((repeat (first | with_reducible assumption | with_reducible refine cell_step ?_ (by with_reducible assumption) | with_reducible refine cell_drew ?_ | with_reducible refine cell_drewN ?_ _ | (refine cell_new rfl ?_; with_reducible rfl) | (refine cell_new rfl ?_; simp; done) | with_reducible refine cell_alloc ?_ _)))
  have ha26_p0_0 : ∀ o, (w26.alloc o).cell? ⟨w.heap.size, 0, none⟩ = some (.slice A0 n0 c0) := fun o => cell_alloc hv26_p0_0 o
  have hv26_x0 : w26.cell? ⟨w5.heap.size, 0, none⟩ = some (.slice A5 n0 d5) := by
    ((repeat (first | with_reducible assumption | with_reducible refine cell_step ?_ (by with_reducible assumption) | with_reducible refine cell_drew ?_ | with_reducible refine cell_drewN ?_ _ | (refine cell_new rfl ?_; with_reducible rfl) | (refine cell_new rfl ?_; simp; done) | with_reducible refine cell_alloc ?_ _)))
  have ha26_x0 : ∀ o, (w26.alloc o).cell? ⟨w5.heap.size, 0, none⟩ = some (.slice A5 n0 d5) := fun o => cell_alloc hv26_x0 o
  go_wp2_with fail
  refine Calls.mono (heldDominoS_c A8_0 (mixR true l0 l1 l2).length _ _ _ ?_ ?_ (by omega) (by omega)) ?_
  · ((repeat (first | with_reducible assumption | with_reducible refine Rd.alloc ?_ _ | with_reducible refine Rd.step ?_ (by with_reducible assumption) | with_reducible refine Rd.drew ?_ | with_reducible refine Rd.drewN ?_ _ | with_reducible refine RdA.alloc ?_ _ | with_reducible refine RdA.step ?_ (by with_reducible assumption) | with_reducible refine RdA.drew ?_ | with_reducible refine RdA.drewN ?_ _)))
  · (first | omega | assumption)
  rintro e w27 ⟨rfl, hb27⟩
  have hv27_p0_0 : w27.cell? ⟨w.heap.size, 0, none⟩ = some (.slice A0 n0 c0) := by
    ((repeat (first | with_reducible assumption | with_reducible refine cell_step ?_ (by with_reducible assumption) | with_reducible refine cell_drew ?_ | with_reducible refine cell_drewN ?_ _ | (refine cell_new rfl ?_; with_reducible rfl) | (refine cell_new rfl ?_; simp; done) | with_reducible refine cell_alloc ?_ _)))
  have ha27_p0_0 : ∀ o, (w27.alloc o).cell? ⟨w.heap.size, 0, none⟩ = some (.slice A0 n0 c0) := fun o => cell_alloc hv27_p0_0 o
  have hv27_x0 : w27.cell? ⟨w5.heap.size, 0, none⟩ = some (.slice A5 n0 d5) := by
    ((repeat (first | with_reducible assumption | with_reducible refine cell_step ?_ (by with_reducible assumption) | with_reducible refine cell_drew ?_ | with_reducible refine cell_drewN ?_ _ | (refine cell_new rfl ?_; with_reducible rfl) | (refine cell_new rfl ?_; simp; done) | with_reducible refine cell_alloc ?_ _)))
  have ha27_x0 : ∀ o, (w27.alloc o).cell? ⟨w5.heap.size, 0, none⟩ = some (.slice A5 n0 d5) := fun o => cell_alloc hv27_x0 o
  go_wp2
  go_ret
  exact ⟨rfl, by ((repeat (first | exact Below.refl _ _ | with_reducible assumption | refine Below.alloc0 ?_ _ | refine Below.step0 ?_ (by with_reducible assumption) | refine Below.step ?_ (by with_reducible assumption) ?_ | refine Below.alloc ?_ ?_ _ | refine Below.drew ?_ | refine below_drewN ?_ _ | refine Below.setCell ?_ ?_ _)) <;> (first | omega | exact hsz | exact Below.size (by with_reducible assumption) | (simp; done) | (simp; omega) | (simp at *; omega)))⟩

set_option maxRecDepth 100000 in
theorem lifted (os : Os) (started : os.Started) (H : Type) (enc : TypeId × Value → H) :
    ReturnsInHanded {} Try.checked os 4 .any (Rows.fnExactHigherOfSpec.pre6 enc Try.prog Try.f4 Rows.fnExactHigherOfRow.domain false) (Rows.fnExactHigherOfSpec.post enc Try.prog Try.f4 false true false false) := by
  refine returnsInHanded_of_change (C := Try.checked) own_knob started (by kernel_rfl) Try.func4
    (ChangeSpec.witness6 (enc := enc) (C := Try.checked) false ⟨#[], #[.agg #[.slice none 0 0], .slice none 0 0, .slice none 0 0], []⟩ 8 (by kernel_rfl) (by kernel_rfl) (by kernel_rfl) (by kernel_rfl)) ?_
  intro W base args ds gs before hval0 hW hcnd _
  have hval : ∀ (j : Nat) t v, Try.f4.params[j]? = some t → args[j]? = some v → Value.okWide Try.prog W .any base t v := hval0
  have hW' := hW
  obtain ⟨p, q, hA0, hV, rfl, hfz, hnd⟩ := hW
  have hA : DataW.TrodAll enc Try.prog W 0 (fun _ => true) true Try.f4.params.toList args.toList ds p := hA0
  rw [Try.params4] at hA hval
  obtain ⟨v0, vs0, d0, ds0, p0, q0, hargs, rfl, rfl, h0, r0⟩ := trodAll_cons hA
  obtain ⟨v1, vs1, d1, ds1, p1, q1, rfl, rfl, rfl, h1, r1⟩ := trodAll_cons r0
  obtain ⟨v2, vs2, d2, ds2, p2, q2, rfl, rfl, rfl, h2, r2⟩ := trodAll_cons r1
  obtain ⟨rfl, rfl, rfl⟩ := trodAll_nil r2
  obtain rfl : args = #[v0, v1, v2] := by cases args; simp_all
  obtain ⟨rfl, rfl⟩ := trodVars_none hV
  obtain ⟨A0, n0, c0, l0, rfl, hr0, hm0, hw0⟩ := open_reg (hval 0 _ v0 rfl rfl) h0
  obtain ⟨A1, n1, c1, l1, rfl, hr1, hm1, hw1⟩ := open_ds (hval 1 _ v1 rfl rfl) h1
  obtain ⟨A2, n2, c2, l2, rfl, hr2, hm2, hw2⟩ := open_ds (hval 2 _ v2 rfl rfl) h2
  clear hA0 hval0
  refine (walk W A0 n0 c0 l0 hr0 hm0 hw0 A1 n1 c1 l1 hr1 hm1 hw1 A2 n2 c2 l2 hr2 hm2 hw2).mono fun e W' ⟨he, hg⟩ => ?_
  subst he
  exact ⟨_, rfl, post_law laid_out (by rw [Try.params4]; decide +kernel) rfl rfl Try.underlying4 rfl hW' hg⟩

theorem over : Rows.fnExactHigherOfRow.holds Try.pinned (OpenSpec.ofChange Rows.fnExactHigherOfSpec) :=
  OpenClaim.holds_of_wide 4 Try.f4 rfl rfl rfl rfl rfl rfl rfl ⟨rfl, rfl, rfl, rfl, rfl⟩ rfl rfl rfl rfl rfl (by kernel_rfl) Try.func4 (by kernel_rfl)
    (of_decide_eq_true (by kernel_rfl)) (by unfold Func.isWrapper; first | (rw [if_pos (by decide +kernel)]; kernel_rfl) | (rw [if_neg (by decide +kernel)]; exact ⟨rfl, rfl⟩))
    (fun os started H enc _ => lifted os started H enc)

theorem proved : Rows.FnExactHigherOfSaid :=
  over
#print axioms proved

end Go.Proofs.Ytjgimiicfekcpaa.lHigherOf
