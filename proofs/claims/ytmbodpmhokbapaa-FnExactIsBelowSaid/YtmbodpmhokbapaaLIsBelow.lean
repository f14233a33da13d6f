
/- FnExactIsBelow: the program's IsBelow returns what the reference's returns, for all arguments. No condition. -/
import Derived.Test.YtmbodpmhokbapaaLaw
import Derived.Test.YtmbodpmhokbapaaReg
import Derived.Test.YtmbodpmhokbapaaDoms
import Derived.Test.YtmbodpmhokbapaaC31
namespace Go.Proofs.Ytmbodpmhokbapaa.lIsBelow
set_option maxRecDepth 20000
open Go.ChangeShapes Go.WideShapes Go.ChangeAt Go.RowKit Cl

set_option maxHeartbeats 2000000 in
theorem walk (w : World) (A0 : Option Addr) (n0 c0 : Nat) (l0 : List Int) (hr0 : RdA w 1 A0 n0 (isl l0)) (hm0 : n0 ≤ maxLen) (_ : ∀ z ∈ l0, (Lit.int .i64 z).wf = true) (A1 : Option Addr) (n1 c1 : Nat) (l1 : List Dom) (hr1 : RdA w 3 A1 n1 (dsl l1)) (hm1 : n1 ≤ maxLen) (_ : ∀ z ∈ l1, (Lit.int .i64 z.x).wf = true ∧ (Lit.int .i64 z.y).wf = true) (A2 : Option Addr) (n2 c2 : Nat) (l2 : List Dom) (hr2 : RdA w 3 A2 n2 (dsl l2)) (hm2 : n2 ≤ maxLen) (_ : ∀ z ∈ l2, (Lit.int .i64 z.x).wf = true ∧ (Lit.int .i64 z.y).wf = true) :
    Calls Try.prog 4 #[.agg #[.slice A0 n0 c0], .slice A1 n1 c1, .slice A2 n2 c2] w fun e w' => e = .returned (.bool true) ∧ Below w.heap.size w w' := by
  unfold maxLen at hm0
  unfold maxLen at hm1
  unfold maxLen at hm2
  have HN0 := Lib.hid (show n0 = l0.length by have := hr0.1; rw [isl_len] at this; omega)
  have HN1 := Lib.hid (show n1 = l1.length by have := hr1.1; rw [dsl_len] at this; omega)
  have HN2 := Lib.hid (show n2 = l2.length by have := hr2.1; rw [dsl_len] at this; omega)
  have hsz : w.heap.size ≤ w.heap.size := Nat.le_refl _
  by_cases hn0 : n0 ≤ 1048576
  rotate_left
  · go_enter Try.func4, Try.ntmps4
    go_wp2_with fail
    refine (szRegion_c (1048576) _ _ _ (by omega) (by omega) (by omega) _).mono ?_
    rintro e wz0 ⟨rfl, hbz0⟩
    rw [if_pos (by omega)]
    have hvz0_p0_0 : wz0.cell? ⟨w.heap.size, 0, none⟩ = some (.slice A0 n0 c0) := by
      ((repeat (first | with_reducible assumption | with_reducible refine cell_step ?_ (by with_reducible assumption) | with_reducible refine cell_drew ?_ | with_reducible refine cell_drewN ?_ _ | (refine cell_new rfl ?_; with_reducible rfl) | (refine cell_new rfl ?_; simp; done) | with_reducible refine cell_alloc ?_ _)))
    have haz0_p0_0 : ∀ o, (wz0.alloc o).cell? ⟨w.heap.size, 0, none⟩ = some (.slice A0 n0 c0) := fun o => cell_alloc hvz0_p0_0 o
    go_wp2
    go_ret
    exact ⟨rfl, by ((repeat (first | exact Below.refl _ _ | with_reducible assumption | refine Below.alloc0 ?_ _ | refine Below.step0 ?_ (by with_reducible assumption) | refine Below.step ?_ (by with_reducible assumption) ?_ | refine Below.alloc ?_ ?_ _ | refine Below.drew ?_ | refine below_drewN ?_ _ | refine Below.setCell ?_ ?_ _)) <;> (first | omega | exact hsz | exact Below.size (by with_reducible assumption) | (simp; done) | (simp; omega) | (simp at *; omega)))⟩
  by_cases hn1 : n0 + n1 ≤ 1048576
  rotate_left
  · go_enter Try.func4, Try.ntmps4
    go_wp2_with fail
    refine (szRegion_c (1048576) _ _ _ (by omega) (by omega) (by omega) _).mono ?_
    rintro e wz0 ⟨rfl, hbz0⟩
    rw [if_neg (by omega)]
    have hvz0_p0_0 : wz0.cell? ⟨w.heap.size, 0, none⟩ = some (.slice A0 n0 c0) := by
      ((repeat (first | with_reducible assumption | with_reducible refine cell_step ?_ (by with_reducible assumption) | with_reducible refine cell_drew ?_ | with_reducible refine cell_drewN ?_ _ | (refine cell_new rfl ?_; with_reducible rfl) | (refine cell_new rfl ?_; simp; done) | with_reducible refine cell_alloc ?_ _)))
    have haz0_p0_0 : ∀ o, (wz0.alloc o).cell? ⟨w.heap.size, 0, none⟩ = some (.slice A0 n0 c0) := fun o => cell_alloc hvz0_p0_0 o
    go_wp2_with fail
    refine (szDominoS_c (1048576 - (n0 : Int)) _ _ _ (by omega) (by omega) (by omega) _).mono ?_
    rintro e wz1 ⟨rfl, rfl⟩
    rw [if_pos (by omega)]
    go_wp2
    go_ret
    exact ⟨rfl, by ((repeat (first | exact Below.refl _ _ | with_reducible assumption | refine Below.alloc0 ?_ _ | refine Below.step0 ?_ (by with_reducible assumption) | refine Below.step ?_ (by with_reducible assumption) ?_ | refine Below.alloc ?_ ?_ _ | refine Below.drew ?_ | refine below_drewN ?_ _ | refine Below.setCell ?_ ?_ _)) <;> (first | omega | exact hsz | exact Below.size (by with_reducible assumption) | (simp; done) | (simp; omega) | (simp at *; omega)))⟩
  by_cases hn2 : n0 + n1 + n2 ≤ 1048576
  rotate_left
  · go_enter Try.func4, Try.ntmps4
    go_wp2_with fail
    refine (szRegion_c (1048576) _ _ _ (by omega) (by omega) (by omega) _).mono ?_
    rintro e wz0 ⟨rfl, hbz0⟩
    rw [if_neg (by omega)]
    have hvz0_p0_0 : wz0.cell? ⟨w.heap.size, 0, none⟩ = some (.slice A0 n0 c0) := by
      ((repeat (first | with_reducible assumption | with_reducible refine cell_step ?_ (by with_reducible assumption) | with_reducible refine cell_drew ?_ | with_reducible refine cell_drewN ?_ _ | (refine cell_new rfl ?_; with_reducible rfl) | (refine cell_new rfl ?_; simp; done) | with_reducible refine cell_alloc ?_ _)))
    have haz0_p0_0 : ∀ o, (wz0.alloc o).cell? ⟨w.heap.size, 0, none⟩ = some (.slice A0 n0 c0) := fun o => cell_alloc hvz0_p0_0 o
    go_wp2_with fail
    refine (szDominoS_c (1048576 - (n0 : Int)) _ _ _ (by omega) (by omega) (by omega) _).mono ?_
    rintro e wz1 ⟨rfl, rfl⟩
    rw [if_neg (by omega)]
    go_wp2_with fail
    refine (szDominoS_c (1048576 - (n0 : Int) - (n1 : Int)) _ _ _ (by omega) (by omega) (by omega) _).mono ?_
    rintro e wz2 ⟨rfl, rfl⟩
    rw [if_pos (by omega)]
    go_wp2
    go_ret
    exact ⟨rfl, by ((repeat (first | exact Below.refl _ _ | with_reducible assumption | refine Below.alloc0 ?_ _ | refine Below.step0 ?_ (by with_reducible assumption) | refine Below.step ?_ (by with_reducible assumption) ?_ | refine Below.alloc ?_ ?_ _ | refine Below.drew ?_ | refine below_drewN ?_ _ | refine Below.setCell ?_ ?_ _)) <;> (first | omega | exact hsz | exact Below.size (by with_reducible assumption) | (simp; done) | (simp; omega) | (simp at *; omega)))⟩
  go_enter Try.func4, Try.ntmps4
  go_wp2_with fail
  refine (szRegion_c (1048576) _ _ _ (by omega) (by omega) (by omega) _).mono ?_
  rintro e wz0 ⟨rfl, hbz0⟩
  rw [if_neg (by omega)]
  have hvz0_p0_0 : wz0.cell? ⟨w.heap.size, 0, none⟩ = some (.slice A0 n0 c0) := by
    ((repeat (first | with_reducible assumption | with_reducible refine cell_step ?_ (by with_reducible assumption) | with_reducible refine cell_drew ?_ | with_reducible refine cell_drewN ?_ _ | (refine cell_new rfl ?_; with_reducible rfl) | (refine cell_new rfl ?_; simp; done) | with_reducible refine cell_alloc ?_ _)))
  have haz0_p0_0 : ∀ o, (wz0.alloc o).cell? ⟨w.heap.size, 0, none⟩ = some (.slice A0 n0 c0) := fun o => cell_alloc hvz0_p0_0 o
  go_wp2_with fail
  refine (szDominoS_c (1048576 - (n0 : Int)) _ _ _ (by omega) (by omega) (by omega) _).mono ?_
  rintro e wz1 ⟨rfl, rfl⟩
  rw [if_neg (by omega)]
  go_wp2_with fail
  refine (szDominoS_c (1048576 - (n0 : Int) - (n1 : Int)) _ _ _ (by omega) (by omega) (by omega) _).mono ?_
  rintro e wz2 ⟨rfl, rfl⟩
  rw [if_neg (by omega)]
  have e0 : ((belB l0 l1 l2) == (belB l0 l1 l2)) = true := by simp
  have e0' : ((belB l0 l1 l2) != (belB l0 l1 l2)) = false := by simp
  go_wp2_with fail
  refine Calls.mono (toRegion_c l0 _ _ _ _ ?_ (by omega)) ?_
  · ((repeat (first | with_reducible assumption | with_reducible refine Rd.alloc ?_ _ | with_reducible refine Rd.step ?_ (by with_reducible assumption) | with_reducible refine Rd.drew ?_ | with_reducible refine Rd.drewN ?_ _ | with_reducible refine RdA.alloc ?_ _ | with_reducible refine RdA.step ?_ (by with_reducible assumption) | with_reducible refine RdA.drew ?_ | with_reducible refine RdA.drewN ?_ _)))
  rintro e w1 ⟨v1, rfl, ho1, hb1⟩
  obtain ⟨A1, d1, rfl, hle1⟩ := own_form3 ho1
  have hx1 := own_rd ho1
  have hob1 := own_mono (base' := w.heap.size) ho1 (by ((repeat (first | exact Nat.le_refl _ | with_reducible assumption | with_reducible refine Nat.le_trans ?_ (Below.size (by with_reducible assumption)) | with_reducible refine Nat.le_trans ?_ (grown_size (by with_reducible assumption)) | with_reducible refine size_alloc ?_ _ | with_reducible refine size_drewN ?_ _ | with_reducible refine size_drew ?_))))
  have hv1_p0_0 : w1.cell? ⟨w.heap.size, 0, none⟩ = some (.slice A0 n0 c0) := by
    ((repeat (first | with_reducible assumption | with_reducible refine cell_step ?_ (by with_reducible assumption) | with_reducible refine cell_drew ?_ | with_reducible refine cell_drewN ?_ _ | (refine cell_new rfl ?_; with_reducible rfl) | (refine cell_new rfl ?_; simp; done) | with_reducible refine cell_alloc ?_ _)))
  have ha1_p0_0 : ∀ o, (w1.alloc o).cell? ⟨w.heap.size, 0, none⟩ = some (.slice A0 n0 c0) := fun o => cell_alloc hv1_p0_0 o
  go_wp2_with fail
  refine Calls.mono (toDominoS_c l1 _ _ _ _ ?_ (by omega)) ?_
  · ((repeat (first | with_reducible assumption | with_reducible refine Rd.alloc ?_ _ | with_reducible refine Rd.step ?_ (by with_reducible assumption) | with_reducible refine Rd.drew ?_ | with_reducible refine Rd.drewN ?_ _ | with_reducible refine RdA.alloc ?_ _ | with_reducible refine RdA.step ?_ (by with_reducible assumption) | with_reducible refine RdA.drew ?_ | with_reducible refine RdA.drewN ?_ _)))
  rintro e w2 ⟨v2, rfl, ho2, hb2⟩
  obtain ⟨A2, d2, rfl, hle2⟩ := own_form3 ho2
  have hx2 := own_rd ho2
  have hob2 := own_mono (base' := w.heap.size) ho2 (by ((repeat (first | exact Nat.le_refl _ | with_reducible assumption | with_reducible refine Nat.le_trans ?_ (Below.size (by with_reducible assumption)) | with_reducible refine Nat.le_trans ?_ (grown_size (by with_reducible assumption)) | with_reducible refine size_alloc ?_ _ | with_reducible refine size_drewN ?_ _ | with_reducible refine size_drew ?_))))
  have hv2_p0_0 : w2.cell? ⟨w.heap.size, 0, none⟩ = some (.slice A0 n0 c0) := by
    ((repeat (first | with_reducible assumption | with_reducible refine cell_step ?_ (by with_reducible assumption) | with_reducible refine cell_drew ?_ | with_reducible refine cell_drewN ?_ _ | (refine cell_new rfl ?_; with_reducible rfl) | (refine cell_new rfl ?_; simp; done) | with_reducible refine cell_alloc ?_ _)))
  have ha2_p0_0 : ∀ o, (w2.alloc o).cell? ⟨w.heap.size, 0, none⟩ = some (.slice A0 n0 c0) := fun o => cell_alloc hv2_p0_0 o
  go_wp2_with fail
  refine Calls.mono (toDominoS_c l2 _ _ _ _ ?_ (by omega)) ?_
  · ((repeat (first | with_reducible assumption | with_reducible refine Rd.alloc ?_ _ | with_reducible refine Rd.step ?_ (by with_reducible assumption) | with_reducible refine Rd.drew ?_ | with_reducible refine Rd.drewN ?_ _ | with_reducible refine RdA.alloc ?_ _ | with_reducible refine RdA.step ?_ (by with_reducible assumption) | with_reducible refine RdA.drew ?_ | with_reducible refine RdA.drewN ?_ _)))
  rintro e w3 ⟨v3, rfl, ho3, hb3⟩
  obtain ⟨A3, d3, rfl, hle3⟩ := own_form3 ho3
  have hx3 := own_rd ho3
  have hob3 := own_mono (base' := w.heap.size) ho3 (by ((repeat (first | exact Nat.le_refl _ | with_reducible assumption | with_reducible refine Nat.le_trans ?_ (Below.size (by with_reducible assumption)) | with_reducible refine Nat.le_trans ?_ (grown_size (by with_reducible assumption)) | with_reducible refine size_alloc ?_ _ | with_reducible refine size_drewN ?_ _ | with_reducible refine size_drew ?_))))
  have hv3_p0_0 : w3.cell? ⟨w.heap.size, 0, none⟩ = some (.slice A0 n0 c0) := by
    ((repeat (first | with_reducible assumption | with_reducible refine cell_step ?_ (by with_reducible assumption) | with_reducible refine cell_drew ?_ | with_reducible refine cell_drewN ?_ _ | (refine cell_new rfl ?_; with_reducible rfl) | (refine cell_new rfl ?_; simp; done) | with_reducible refine cell_alloc ?_ _)))
  have ha3_p0_0 : ∀ o, (w3.alloc o).cell? ⟨w.heap.size, 0, none⟩ = some (.slice A0 n0 c0) := fun o => cell_alloc hv3_p0_0 o
  go_wp2_with fail
  refine Calls.mono (kit_v (spec_IsBelow_fn l0 l1 l2 (by have := HN0.out; omega) (by have := HN1.out; omega) (by have := HN2.out; omega)) (args3 (mk_regv' ?_ ?_ HN0.out) (mk_slv' ?_ ?_ HN1.out) (mk_slv' ?_ ?_ HN2.out))) ?_
  · ((repeat (first | with_reducible assumption | with_reducible refine Rd.alloc ?_ _ | with_reducible refine Rd.step ?_ (by with_reducible assumption) | with_reducible refine Rd.drew ?_ | with_reducible refine Rd.drewN ?_ _ | with_reducible refine RdA.alloc ?_ _ | with_reducible refine RdA.step ?_ (by with_reducible assumption) | with_reducible refine RdA.drew ?_ | with_reducible refine RdA.drewN ?_ _)))
  · (try assumption)
  · ((repeat (first | with_reducible assumption | with_reducible refine Rd.alloc ?_ _ | with_reducible refine Rd.step ?_ (by with_reducible assumption) | with_reducible refine Rd.drew ?_ | with_reducible refine Rd.drewN ?_ _ | with_reducible refine RdA.alloc ?_ _ | with_reducible refine RdA.step ?_ (by with_reducible assumption) | with_reducible refine RdA.drew ?_ | with_reducible refine RdA.drewN ?_ _)))
  · (try assumption)
  · ((repeat (first | with_reducible assumption | with_reducible refine Rd.alloc ?_ _ | with_reducible refine Rd.step ?_ (by with_reducible assumption) | with_reducible refine Rd.drew ?_ | with_reducible refine Rd.drewN ?_ _ | with_reducible refine RdA.alloc ?_ _ | with_reducible refine RdA.step ?_ (by with_reducible assumption) | with_reducible refine RdA.drew ?_ | with_reducible refine RdA.drewN ?_ _)))
  · (try assumption)
  rintro e w4 ⟨rfl, hb4⟩
  have hv4_p0_0 : w4.cell? ⟨w.heap.size, 0, none⟩ = some (.slice A0 n0 c0) := by
    ((repeat (first | with_reducible assumption | with_reducible refine cell_step ?_ (by with_reducible assumption) | with_reducible refine cell_drew ?_ | with_reducible refine cell_drewN ?_ _ | (refine cell_new rfl ?_; with_reducible rfl) | (refine cell_new rfl ?_; simp; done) | with_reducible refine cell_alloc ?_ _)))
  have ha4_p0_0 : ∀ o, (w4.alloc o).cell? ⟨w.heap.size, 0, none⟩ = some (.slice A0 n0 c0) := fun o => cell_alloc hv4_p0_0 o
  go_wp2_with fail
  refine Calls.mono (toRegion_c l0 _ _ _ _ ?_ (by omega)) ?_
  · ((repeat (first | with_reducible assumption | with_reducible refine Rd.alloc ?_ _ | with_reducible refine Rd.step ?_ (by with_reducible assumption) | with_reducible refine Rd.drew ?_ | with_reducible refine Rd.drewN ?_ _ | with_reducible refine RdA.alloc ?_ _ | with_reducible refine RdA.step ?_ (by with_reducible assumption) | with_reducible refine RdA.drew ?_ | with_reducible refine RdA.drewN ?_ _)))
  rintro e w5 ⟨v5, rfl, ho5, hb5⟩
  obtain ⟨A5, d5, rfl, hle5⟩ := own_form3 ho5
  have hx5 := own_rd ho5
  have hob5 := own_mono (base' := w.heap.size) ho5 (by ((repeat (first | exact Nat.le_refl _ | with_reducible assumption | with_reducible refine Nat.le_trans ?_ (Below.size (by with_reducible assumption)) | with_reducible refine Nat.le_trans ?_ (grown_size (by with_reducible assumption)) | with_reducible refine size_alloc ?_ _ | with_reducible refine size_drewN ?_ _ | with_reducible refine size_drew ?_))))
  have hv5_p0_0 : w5.cell? ⟨w.heap.size, 0, none⟩ = some (.slice A0 n0 c0) := by
    ((repeat (first | with_reducible assumption | with_reducible refine cell_step ?_ (by with_reducible assumption) | with_reducible refine cell_drew ?_ | with_reducible refine cell_drewN ?_ _ | (refine cell_new rfl ?_; with_reducible rfl) | (refine cell_new rfl ?_; simp; done) | with_reducible refine cell_alloc ?_ _)))
  have ha5_p0_0 : ∀ o, (w5.alloc o).cell? ⟨w.heap.size, 0, none⟩ = some (.slice A0 n0 c0) := fun o => cell_alloc hv5_p0_0 o
  go_wp2_with fail
  refine Calls.mono (toDominoS_c l1 _ _ _ _ ?_ (by omega)) ?_
  · ((repeat (first | with_reducible assumption | with_reducible refine Rd.alloc ?_ _ | with_reducible refine Rd.step ?_ (by with_reducible assumption) | with_reducible refine Rd.drew ?_ | with_reducible refine Rd.drewN ?_ _ | with_reducible refine RdA.alloc ?_ _ | with_reducible refine RdA.step ?_ (by with_reducible assumption) | with_reducible refine RdA.drew ?_ | with_reducible refine RdA.drewN ?_ _)))
  rintro e w6 ⟨v6, rfl, ho6, hb6⟩
  obtain ⟨A6, d6, rfl, hle6⟩ := own_form3 ho6
  have hx6 := own_rd ho6
  have hob6 := own_mono (base' := w.heap.size) ho6 (by ((repeat (first | exact Nat.le_refl _ | with_reducible assumption | with_reducible refine Nat.le_trans ?_ (Below.size (by with_reducible assumption)) | with_reducible refine Nat.le_trans ?_ (grown_size (by with_reducible assumption)) | with_reducible refine size_alloc ?_ _ | with_reducible refine size_drewN ?_ _ | with_reducible refine size_drew ?_))))
  have hv6_p0_0 : w6.cell? ⟨w.heap.size, 0, none⟩ = some (.slice A0 n0 c0) := by
    ((repeat (first | with_reducible assumption | with_reducible refine cell_step ?_ (by with_reducible assumption) | with_reducible refine cell_drew ?_ | with_reducible refine cell_drewN ?_ _ | (refine cell_new rfl ?_; with_reducible rfl) | (refine cell_new rfl ?_; simp; done) | with_reducible refine cell_alloc ?_ _)))
  have ha6_p0_0 : ∀ o, (w6.alloc o).cell? ⟨w.heap.size, 0, none⟩ = some (.slice A0 n0 c0) := fun o => cell_alloc hv6_p0_0 o
  have hv6_x0 : w6.cell? ⟨w5.heap.size, 0, none⟩ = some (.slice A5 n0 d5) := by
    ((repeat (first | with_reducible assumption | with_reducible refine cell_step ?_ (by with_reducible assumption) | with_reducible refine cell_drew ?_ | with_reducible refine cell_drewN ?_ _ | (refine cell_new rfl ?_; with_reducible rfl) | (refine cell_new rfl ?_; simp; done) | with_reducible refine cell_alloc ?_ _)))
  have ha6_x0 : ∀ o, (w6.alloc o).cell? ⟨w5.heap.size, 0, none⟩ = some (.slice A5 n0 d5) := fun o => cell_alloc hv6_x0 o
  go_wp2_with fail
  refine Calls.mono (toDominoS_c l2 _ _ _ _ ?_ (by omega)) ?_
  · ((repeat (first | with_reducible assumption | with_reducible refine Rd.alloc ?_ _ | with_reducible refine Rd.step ?_ (by with_reducible assumption) | with_reducible refine Rd.drew ?_ | with_reducible refine Rd.drewN ?_ _ | with_reducible refine RdA.alloc ?_ _ | with_reducible refine RdA.step ?_ (by with_reducible assumption) | with_reducible refine RdA.drew ?_ | with_reducible refine RdA.drewN ?_ _)))
  rintro e w7 ⟨v7, rfl, ho7, hb7⟩
  obtain ⟨A7, d7, rfl, hle7⟩ := own_form3 ho7
  have hx7 := own_rd ho7
  have hob7 := own_mono (base' := w.heap.size) ho7 (by ((repeat (first | exact Nat.le_refl _ | with_reducible assumption | with_reducible refine Nat.le_trans ?_ (Below.size (by with_reducible assumption)) | with_reducible refine Nat.le_trans ?_ (grown_size (by with_reducible assumption)) | with_reducible refine size_alloc ?_ _ | with_reducible refine size_drewN ?_ _ | with_reducible refine size_drew ?_))))
  have hv7_p0_0 : w7.cell? ⟨w.heap.size, 0, none⟩ = some (.slice A0 n0 c0) := by
    ((repeat (first | with_reducible assumption | with_reducible refine cell_step ?_ (by with_reducible assumption) | with_reducible refine cell_drew ?_ | with_reducible refine cell_drewN ?_ _ | (refine cell_new rfl ?_; with_reducible rfl) | (refine cell_new rfl ?_; simp; done) | with_reducible refine cell_alloc ?_ _)))
  have ha7_p0_0 : ∀ o, (w7.alloc o).cell? ⟨w.heap.size, 0, none⟩ = some (.slice A0 n0 c0) := fun o => cell_alloc hv7_p0_0 o
  have hv7_x0 : w7.cell? ⟨w5.heap.size, 0, none⟩ = some (.slice A5 n0 d5) := by
    ((repeat (first | with_reducible assumption | with_reducible refine cell_step ?_ (by with_reducible assumption) | with_reducible refine cell_drew ?_ | with_reducible refine cell_drewN ?_ _ | (refine cell_new rfl ?_; with_reducible rfl) | (refine cell_new rfl ?_; simp; done) | with_reducible refine cell_alloc ?_ _)))
  have ha7_x0 : ∀ o, (w7.alloc o).cell? ⟨w5.heap.size, 0, none⟩ = some (.slice A5 n0 d5) := fun o => cell_alloc hv7_x0 o
  go_wp2_with fail
  refine Calls.mono (kit_v (impl_IsBelow_fn l0 l1 l2 (by have := HN0.out; omega) (by have := HN1.out; omega) (by have := HN2.out; omega)) (args3 (mk_regv' ?_ ?_ HN0.out) (mk_slv' ?_ ?_ HN1.out) (mk_slv' ?_ ?_ HN2.out))) ?_
  · ((repeat (first | with_reducible assumption | with_reducible refine Rd.alloc ?_ _ | with_reducible refine Rd.step ?_ (by with_reducible assumption) | with_reducible refine Rd.drew ?_ | with_reducible refine Rd.drewN ?_ _ | with_reducible refine RdA.alloc ?_ _ | with_reducible refine RdA.step ?_ (by with_reducible assumption) | with_reducible refine RdA.drew ?_ | with_reducible refine RdA.drewN ?_ _)))
  · (try assumption)
  · ((repeat (first | with_reducible assumption | with_reducible refine Rd.alloc ?_ _ | with_reducible refine Rd.step ?_ (by with_reducible assumption) | with_reducible refine Rd.drew ?_ | with_reducible refine Rd.drewN ?_ _ | with_reducible refine RdA.alloc ?_ _ | with_reducible refine RdA.step ?_ (by with_reducible assumption) | with_reducible refine RdA.drew ?_ | with_reducible refine RdA.drewN ?_ _)))
  · (try assumption)
  · ((repeat (first | with_reducible assumption | with_reducible refine Rd.alloc ?_ _ | with_reducible refine Rd.step ?_ (by with_reducible assumption) | with_reducible refine Rd.drew ?_ | with_reducible refine Rd.drewN ?_ _ | with_reducible refine RdA.alloc ?_ _ | with_reducible refine RdA.step ?_ (by with_reducible assumption) | with_reducible refine RdA.drew ?_ | with_reducible refine RdA.drewN ?_ _)))
  · (try assumption)
  rintro e w8 ⟨rfl, hb8⟩
  have hv8_p0_0 : w8.cell? ⟨w.heap.size, 0, none⟩ = some (.slice A0 n0 c0) := by
    ((repeat (first | with_reducible assumption | with_reducible refine cell_step ?_ (by with_reducible assumption) | with_reducible refine cell_drew ?_ | with_reducible refine cell_drewN ?_ _ | (refine cell_new rfl ?_; with_reducible rfl) | (refine cell_new rfl ?_; simp; done) | with_reducible refine cell_alloc ?_ _)))
  have ha8_p0_0 : ∀ o, (w8.alloc o).cell? ⟨w.heap.size, 0, none⟩ = some (.slice A0 n0 c0) := fun o => cell_alloc hv8_p0_0 o
  have hv8_x0 : w8.cell? ⟨w5.heap.size, 0, none⟩ = some (.slice A5 n0 d5) := by
    ((repeat (first | with_reducible assumption | with_reducible refine cell_step ?_ (by with_reducible assumption) | with_reducible refine cell_drew ?_ | with_reducible refine cell_drewN ?_ _ | (refine cell_new rfl ?_; with_reducible rfl) | (refine cell_new rfl ?_; simp; done) | with_reducible refine cell_alloc ?_ _)))
  have ha8_x0 : ∀ o, (w8.alloc o).cell? ⟨w5.heap.size, 0, none⟩ = some (.slice A5 n0 d5) := fun o => cell_alloc hv8_x0 o
  go_wp2_with fail
  go_region_held3 (fun w' => w'.cell? ⟨w.heap.size, 0, none⟩ = some (.slice A0 n0 c0) ∧ w'.cell? ⟨w5.heap.size, 0, none⟩ = some (.slice A5 n0 d5)) (go_keep) ((first | (go_at_call 12; refine Calls.mono (toRegion_c l0 _ _ _ _ ?_ (by omega)) ?_; (((repeat (first | with_reducible assumption | with_reducible refine Rd.alloc ?_ _ | with_reducible refine Rd.step ?_ (by with_reducible assumption) | with_reducible refine Rd.drew ?_ | with_reducible refine Rd.drewN ?_ _ | with_reducible refine RdA.alloc ?_ _ | with_reducible refine RdA.step ?_ (by with_reducible assumption) | with_reducible refine RdA.drew ?_ | with_reducible refine RdA.drewN ?_ _)))); rintro e w9 ⟨v9, rfl, ho9, hb9⟩; obtain ⟨A9, d9, rfl, hle9⟩ := own_form3 ho9; have hx9 := own_rd ho9; have hob9 := own_mono (base' := w.heap.size) ho9 (by ((repeat (first | exact Nat.le_refl _ | with_reducible assumption | with_reducible refine Nat.le_trans ?_ (Below.size (by with_reducible assumption)) | with_reducible refine Nat.le_trans ?_ (grown_size (by with_reducible assumption)) | with_reducible refine size_alloc ?_ _ | with_reducible refine size_drewN ?_ _ | with_reducible refine size_drew ?_)))); have hv9_p0_0 : w9.cell? ⟨w.heap.size, 0, none⟩ = some (.slice A0 n0 c0) := (by ((repeat (first | with_reducible assumption | with_reducible refine cell_step ?_ (by with_reducible assumption) | with_reducible refine cell_drew ?_ | with_reducible refine cell_drewN ?_ _ | (refine cell_new rfl ?_; with_reducible rfl) | (refine cell_new rfl ?_; simp; done) | with_reducible refine cell_alloc ?_ _)))); have ha9_p0_0 : ∀ o, (w9.alloc o).cell? ⟨w.heap.size, 0, none⟩ = some (.slice A0 n0 c0) := fun o => cell_alloc hv9_p0_0 o; have hv9_x0 : w9.cell? ⟨w5.heap.size, 0, none⟩ = some (.slice A5 n0 d5) := (by ((repeat (first | with_reducible assumption | with_reducible refine cell_step ?_ (by with_reducible assumption) | with_reducible refine cell_drew ?_ | with_reducible refine cell_drewN ?_ _ | (refine cell_new rfl ?_; with_reducible rfl) | (refine cell_new rfl ?_; simp; done) | with_reducible refine cell_alloc ?_ _)))); have ha9_x0 : ∀ o, (w9.alloc o).cell? ⟨w5.heap.size, 0, none⟩ = some (.slice A5 n0 d5) := fun o => cell_alloc hv9_x0 o) | (go_at_call 16; refine Calls.mono (eqRegion_c l0 l0 A5 A9 n0 _ n0 _ _ ?_ ?_ ?_ ?_) ?_; (((repeat (first | with_reducible assumption | with_reducible refine Rd.alloc ?_ _ | with_reducible refine Rd.step ?_ (by with_reducible assumption) | with_reducible refine Rd.drew ?_ | with_reducible refine Rd.drewN ?_ _ | with_reducible refine RdA.alloc ?_ _ | with_reducible refine RdA.step ?_ (by with_reducible assumption) | with_reducible refine RdA.drew ?_ | with_reducible refine RdA.drewN ?_ _)))); (((repeat (first | with_reducible assumption | with_reducible refine Rd.alloc ?_ _ | with_reducible refine Rd.step ?_ (by with_reducible assumption) | with_reducible refine Rd.drew ?_ | with_reducible refine Rd.drewN ?_ _ | with_reducible refine RdA.alloc ?_ _ | with_reducible refine RdA.step ?_ (by with_reducible assumption) | with_reducible refine RdA.drew ?_ | with_reducible refine RdA.drewN ?_ _)))); ((first | omega | assumption)); ((first | omega | assumption)); rintro e w10 ⟨rfl, hb10⟩; have hv10_p0_0 : w10.cell? ⟨w.heap.size, 0, none⟩ = some (.slice A0 n0 c0) := (by ((repeat (first | with_reducible assumption | with_reducible refine cell_step ?_ (by with_reducible assumption) | with_reducible refine cell_drew ?_ | with_reducible refine cell_drewN ?_ _ | (refine cell_new rfl ?_; with_reducible rfl) | (refine cell_new rfl ?_; simp; done) | with_reducible refine cell_alloc ?_ _)))); have ha10_p0_0 : ∀ o, (w10.alloc o).cell? ⟨w.heap.size, 0, none⟩ = some (.slice A0 n0 c0) := fun o => cell_alloc hv10_p0_0 o; have hv10_x0 : w10.cell? ⟨w5.heap.size, 0, none⟩ = some (.slice A5 n0 d5) := (by ((repeat (first | with_reducible assumption | with_reducible refine cell_step ?_ (by with_reducible assumption) | with_reducible refine cell_drew ?_ | with_reducible refine cell_drewN ?_ _ | (refine cell_new rfl ?_; with_reducible rfl) | (refine cell_new rfl ?_; simp; done) | with_reducible refine cell_alloc ?_ _)))); have ha10_x0 : ∀ o, (w10.alloc o).cell? ⟨w5.heap.size, 0, none⟩ = some (.slice A5 n0 d5) := fun o => cell_alloc hv10_x0 o)))
  go_wp2_with fail
  refine Calls.mono (toDominoS_c l1 _ _ _ _ ?_ (by omega)) ?_
  · ((repeat (first | with_reducible assumption | with_reducible refine Rd.alloc ?_ _ | with_reducible refine Rd.step ?_ (by with_reducible assumption) | with_reducible refine Rd.drew ?_ | with_reducible refine Rd.drewN ?_ _ | with_reducible refine RdA.alloc ?_ _ | with_reducible refine RdA.step ?_ (by with_reducible assumption) | with_reducible refine RdA.drew ?_ | with_reducible refine RdA.drewN ?_ _)))
  rintro e w11 ⟨v11, rfl, ho11, hb11⟩
  obtain ⟨A11, d11, rfl, hle11⟩ := own_form3 ho11
  have hx11 := own_rd ho11
  have hob11 := own_mono (base' := w.heap.size) ho11 (by ((repeat (first | exact Nat.le_refl _ | with_reducible assumption | with_reducible refine Nat.le_trans ?_ (Below.size (by with_reducible assumption)) | with_reducible refine Nat.le_trans ?_ (grown_size (by with_reducible assumption)) | with_reducible refine size_alloc ?_ _ | with_reducible refine size_drewN ?_ _ | with_reducible refine size_drew ?_))))
  have hv11_p0_0 : w11.cell? ⟨w.heap.size, 0, none⟩ = some (.slice A0 n0 c0) := by
    ((repeat (first | with_reducible assumption | with_reducible refine cell_step ?_ (by with_reducible assumption) | with_reducible refine cell_drew ?_ | with_reducible refine cell_drewN ?_ _ | (refine cell_new rfl ?_; with_reducible rfl) | (refine cell_new rfl ?_; simp; done) | with_reducible refine cell_alloc ?_ _)))
  have ha11_p0_0 : ∀ o, (w11.alloc o).cell? ⟨w.heap.size, 0, none⟩ = some (.slice A0 n0 c0) := fun o => cell_alloc hv11_p0_0 o
  have hv11_x0 : w11.cell? ⟨w5.heap.size, 0, none⟩ = some (.slice A5 n0 d5) := by
    ((repeat (first | with_reducible assumption | with_reducible refine cell_step ?_ (by with_reducible assumption) | with_reducible refine cell_drew ?_ | with_reducible refine cell_drewN ?_ _ | (refine cell_new rfl ?_; with_reducible rfl) | (refine cell_new rfl ?_; simp; done) | with_reducible refine cell_alloc ?_ _)))
  have ha11_x0 : ∀ o, (w11.alloc o).cell? ⟨w5.heap.size, 0, none⟩ = some (.slice A5 n0 d5) := fun o => cell_alloc hv11_x0 o
  go_wp2_with fail
  refine Calls.mono (eqDominoS_c l1 l1 A6 A11 n1 _ n1 _ _ ?_ ?_ ?_ ?_) ?_
  · ((repeat (first | with_reducible assumption | with_reducible refine Rd.alloc ?_ _ | with_reducible refine Rd.step ?_ (by with_reducible assumption) | with_reducible refine Rd.drew ?_ | with_reducible refine Rd.drewN ?_ _ | with_reducible refine RdA.alloc ?_ _ | with_reducible refine RdA.step ?_ (by with_reducible assumption) | with_reducible refine RdA.drew ?_ | with_reducible refine RdA.drewN ?_ _)))
  · ((repeat (first | with_reducible assumption | with_reducible refine Rd.alloc ?_ _ | with_reducible refine Rd.step ?_ (by with_reducible assumption) | with_reducible refine Rd.drew ?_ | with_reducible refine Rd.drewN ?_ _ | with_reducible refine RdA.alloc ?_ _ | with_reducible refine RdA.step ?_ (by with_reducible assumption) | with_reducible refine RdA.drew ?_ | with_reducible refine RdA.drewN ?_ _)))
  · (first | omega | assumption)
  · (first | omega | assumption)
  rintro e w12 ⟨rfl, hb12⟩
  have hv12_p0_0 : w12.cell? ⟨w.heap.size, 0, none⟩ = some (.slice A0 n0 c0) := by
    ((repeat (first | with_reducible assumption | with_reducible refine cell_step ?_ (by with_reducible assumption) | with_reducible refine cell_drew ?_ | with_reducible refine cell_drewN ?_ _ | (refine cell_new rfl ?_; with_reducible rfl) | (refine cell_new rfl ?_; simp; done) | with_reducible refine cell_alloc ?_ _)))
  have ha12_p0_0 : ∀ o, (w12.alloc o).cell? ⟨w.heap.size, 0, none⟩ = some (.slice A0 n0 c0) := fun o => cell_alloc hv12_p0_0 o
  have hv12_x0 : w12.cell? ⟨w5.heap.size, 0, none⟩ = some (.slice A5 n0 d5) := by
    ((repeat (first | with_reducible assumption | with_reducible refine cell_step ?_ (by with_reducible assumption) | with_reducible refine cell_drew ?_ | with_reducible refine cell_drewN ?_ _ | (refine cell_new rfl ?_; with_reducible rfl) | (refine cell_new rfl ?_; simp; done) | with_reducible refine cell_alloc ?_ _)))
  have ha12_x0 : ∀ o, (w12.alloc o).cell? ⟨w5.heap.size, 0, none⟩ = some (.slice A5 n0 d5) := fun o => cell_alloc hv12_x0 o
  go_wp2_with fail
  refine Calls.mono (toDominoS_c l2 _ _ _ _ ?_ (by omega)) ?_
  · ((repeat (first | with_reducible assumption | with_reducible refine Rd.alloc ?_ _ | with_reducible refine Rd.step ?_ (by with_reducible assumption) | with_reducible refine Rd.drew ?_ | with_reducible refine Rd.drewN ?_ _ | with_reducible refine RdA.alloc ?_ _ | with_reducible refine RdA.step ?_ (by with_reducible assumption) | with_reducible refine RdA.drew ?_ | with_reducible refine RdA.drewN ?_ _)))
  rintro e w13 ⟨v13, rfl, ho13, hb13⟩
  obtain ⟨A13, d13, rfl, hle13⟩ := own_form3 ho13
  have hx13 := own_rd ho13
  have hob13 := own_mono (base' := w.heap.size) ho13 (by ((repeat (first | exact Nat.le_refl _ | with_reducible assumption | with_reducible refine Nat.le_trans ?_ (Below.size (by with_reducible assumption)) | with_reducible refine Nat.le_trans ?_ (grown_size (by with_reducible assumption)) | with_reducible refine size_alloc ?_ _ | with_reducible refine size_drewN ?_ _ | with_reducible refine size_drew ?_))))
  have hv13_p0_0 : w13.cell? ⟨w.heap.size, 0, none⟩ = some (.slice A0 n0 c0) := by
    ((repeat (first | with_reducible assumption | with_reducible refine cell_step ?_ (by with_reducible assumption) | with_reducible refine cell_drew ?_ | with_reducible refine cell_drewN ?_ _ | (refine cell_new rfl ?_; with_reducible rfl) | (refine cell_new rfl ?_; simp; done) | with_reducible refine cell_alloc ?_ _)))
  have ha13_p0_0 : ∀ o, (w13.alloc o).cell? ⟨w.heap.size, 0, none⟩ = some (.slice A0 n0 c0) := fun o => cell_alloc hv13_p0_0 o
  have hv13_x0 : w13.cell? ⟨w5.heap.size, 0, none⟩ = some (.slice A5 n0 d5) := by
    ((repeat (first | with_reducible assumption | with_reducible refine cell_step ?_ (by with_reducible assumption) | with_reducible refine cell_drew ?_ | with_reducible refine cell_drewN ?_ _ | (refine cell_new rfl ?_; with_reducible rfl) | (refine cell_new rfl ?_; simp; done) | with_reducible refine cell_alloc ?_ _)))
  have ha13_x0 : ∀ o, (w13.alloc o).cell? ⟨w5.heap.size, 0, none⟩ = some (.slice A5 n0 d5) := fun o => cell_alloc hv13_x0 o
  go_wp2_with fail
  refine Calls.mono (eqDominoS_c l2 l2 A7 A13 n2 _ n2 _ _ ?_ ?_ ?_ ?_) ?_
  · ((repeat (first | with_reducible assumption | with_reducible refine Rd.alloc ?_ _ | with_reducible refine Rd.step ?_ (by with_reducible assumption) | with_reducible refine Rd.drew ?_ | with_reducible refine Rd.drewN ?_ _ | with_reducible refine RdA.alloc ?_ _ | with_reducible refine RdA.step ?_ (by with_reducible assumption) | with_reducible refine RdA.drew ?_ | with_reducible refine RdA.drewN ?_ _)))
  · ((repeat (first | with_reducible assumption | with_reducible refine Rd.alloc ?_ _ | with_reducible refine Rd.step ?_ (by with_reducible assumption) | with_reducible refine Rd.drew ?_ | with_reducible refine Rd.drewN ?_ _ | with_reducible refine RdA.alloc ?_ _ | with_reducible refine RdA.step ?_ (by with_reducible assumption) | with_reducible refine RdA.drew ?_ | with_reducible refine RdA.drewN ?_ _)))
  · (first | omega | assumption)
  · (first | omega | assumption)
  rintro e w14 ⟨rfl, hb14⟩
  have hv14_p0_0 : w14.cell? ⟨w.heap.size, 0, none⟩ = some (.slice A0 n0 c0) := by
    ((repeat (first | with_reducible assumption | with_reducible refine cell_step ?_ (by with_reducible assumption) | with_reducible refine cell_drew ?_ | with_reducible refine cell_drewN ?_ _ | (refine cell_new rfl ?_; with_reducible rfl) | (refine cell_new rfl ?_; simp; done) | with_reducible refine cell_alloc ?_ _)))
  have ha14_p0_0 : ∀ o, (w14.alloc o).cell? ⟨w.heap.size, 0, none⟩ = some (.slice A0 n0 c0) := fun o => cell_alloc hv14_p0_0 o
  have hv14_x0 : w14.cell? ⟨w5.heap.size, 0, none⟩ = some (.slice A5 n0 d5) := by
    ((repeat (first | with_reducible assumption | with_reducible refine cell_step ?_ (by with_reducible assumption) | with_reducible refine cell_drew ?_ | with_reducible refine cell_drewN ?_ _ | (refine cell_new rfl ?_; with_reducible rfl) | (refine cell_new rfl ?_; simp; done) | with_reducible refine cell_alloc ?_ _)))
  have ha14_x0 : ∀ o, (w14.alloc o).cell? ⟨w5.heap.size, 0, none⟩ = some (.slice A5 n0 d5) := fun o => cell_alloc hv14_x0 o
  go_wp2
  go_ret
  exact ⟨rfl, by ((repeat (first | exact Below.refl _ _ | with_reducible assumption | refine Below.alloc0 ?_ _ | refine Below.step0 ?_ (by with_reducible assumption) | refine Below.step ?_ (by with_reducible assumption) ?_ | refine Below.alloc ?_ ?_ _ | refine Below.drew ?_ | refine below_drewN ?_ _ | refine Below.setCell ?_ ?_ _)) <;> (first | omega | exact hsz | exact Below.size (by with_reducible assumption) | (simp; done) | (simp; omega) | (simp at *; omega)))⟩

set_option maxRecDepth 100000 in
theorem lifted (os : Os) (started : os.Started) (H : Type) (enc : TypeId × Value → H) :
    ReturnsInHanded {} Try.checked os 4 .any (Rows.fnExactIsBelowSpec.pre6 enc Try.prog Try.f4 Rows.fnExactIsBelowRow.domain false) (Rows.fnExactIsBelowSpec.post enc Try.prog Try.f4 false true false false) := by
  refine returnsInHanded_of_change (C := Try.checked) own_knob started (by kernel_rfl) Try.func4
    (ChangeSpec.witness6 (enc := enc) (C := Try.checked) false ⟨#[], #[.agg #[.slice none 0 0], .slice none 0 0, .slice none 0 0], []⟩ 8 (by kernel_rfl) (by kernel_rfl) (by kernel_rfl) (by kernel_rfl)) ?_
  intro W base args ds gs before hval0 hW hcnd _
  have hval : ∀ (j : Nat) t v, Try.f4.params[j]? = some t → args[j]? = some v → Value.okWide Try.prog W .any base t v := hval0
  have hW' := hW
  obtain ⟨p, q, hA0, hV, rfl, hfz, hnd⟩ := hW
  have hA : DataW.TrodAll enc Try.prog W 0 (fun _ => true) true Try.f4.params.toList args.toList ds p := hA0
  rw [Try.params4] at hA hval
  obtain ⟨v0, vs0, d0, ds0, p0, q0, hargs, rfl, rfl, h0, r0⟩ := trodAll_cons hA
  obtain ⟨v1, vs1, d1, ds1, p1, q1, rfl, rfl, rfl, h1, r1⟩ := trodAll_cons r0
  obtain ⟨v2, vs2, d2, ds2, p2, q2, rfl, rfl, rfl, h2, r2⟩ := trodAll_cons r1
  obtain ⟨rfl, rfl, rfl⟩ := trodAll_nil r2
  obtain rfl : args = #[v0, v1, v2] := by cases args; simp_all
  obtain ⟨rfl, rfl⟩ := trodVars_none hV
  obtain ⟨A0, n0, c0, l0, rfl, hr0, hm0, hw0⟩ := open_reg (hval 0 _ v0 rfl rfl) h0
  obtain ⟨A1, n1, c1, l1, rfl, hr1, hm1, hw1⟩ := open_ds (hval 1 _ v1 rfl rfl) h1
  obtain ⟨A2, n2, c2, l2, rfl, hr2, hm2, hw2⟩ := open_ds (hval 2 _ v2 rfl rfl) h2
  clear hA0 hval0
  refine (walk W A0 n0 c0 l0 hr0 hm0 hw0 A1 n1 c1 l1 hr1 hm1 hw1 A2 n2 c2 l2 hr2 hm2 hw2).mono fun e W' ⟨he, hg⟩ => ?_
  subst he
  exact ⟨_, rfl, post_law laid_out (by rw [Try.params4]; decide +kernel) rfl rfl Try.underlying4 rfl hW' hg⟩

theorem over : Rows.fnExactIsBelowRow.holds Try.pinned (OpenSpec.ofChange Rows.fnExactIsBelowSpec) :=
  OpenClaim.holds_of_wide 4 Try.f4 rfl rfl rfl rfl rfl rfl rfl ⟨rfl, rfl, rfl, rfl, rfl⟩ rfl rfl rfl rfl rfl (by kernel_rfl) Try.func4 (by kernel_rfl)
    (of_decide_eq_true (by kernel_rfl)) (by unfold Func.isWrapper; first | (rw [if_pos (by decide +kernel)]; kernel_rfl) | (rw [if_neg (by decide +kernel)]; exact ⟨rfl, rfl⟩))
    (fun os started H enc _ => lifted os started H enc)

theorem proved : Rows.FnExactIsBelowSaid :=
  over
#print axioms proved

end Go.Proofs.Ytmbodpmhokbapaa.lIsBelow
