
/- FnExactFirstTiling: the program's FirstTiling returns what the reference's returns, for all arguments. No condition. -/
import Derived.Test.YtabgfoindidigaaLaw
import Derived.Test.YtabgfoindidigaaReg
import Derived.Test.YtabgfoindidigaaDoms
import Derived.Test.YtabgfoindidigaaC16
namespace Go.Proofs.Ytabgfoindidigaa.lFirstTiling
set_option maxRecDepth 20000
open Go.ChangeShapes Go.WideShapes Go.ChangeAt Go.RowKit Cl

set_option maxHeartbeats 2000000 in
theorem walk (w : World) (A0 : Option Addr) (n0 c0 : Nat) (l0 : List Int) (hr0 : RdA w 1 A0 n0 (isl l0)) (hm0 : n0 ≤ maxLen) (_ : ∀ z ∈ l0, (Lit.int .i64 z).wf = true) :
    Calls Try.prog 7 #[.agg #[.slice A0 n0 c0]] w fun e w' => e = .returned (.bool true) ∧ Below w.heap.size w w' := by
  unfold maxLen at hm0
  have HN0 := Lib.hid (show n0 = l0.length by have := hr0.1; rw [isl_len] at this; omega)
  have hsz : w.heap.size ≤ w.heap.size := Nat.le_refl _
  by_cases hn0 : n0 ≤ 1048576
  rotate_left
  · go_enter Try.func7, Try.ntmps7
    go_wp2_with fail
    refine (szRegion_c (1048576) _ _ _ (by omega) (by omega) (by omega) _).mono ?_
    rintro e wz0 ⟨rfl, hbz0⟩
    rw [if_pos (by omega)]
    have hvz0_p0_0 : wz0.cell? ⟨w.heap.size, 0, none⟩ = some (.slice A0 n0 c0) := by
      ((repeat (first | with_reducible assumption | with_reducible refine cell_step ?_ (by with_reducible assumption) | with_reducible refine cell_drew ?_ | with_reducible refine cell_drewN ?_ _ | (refine cell_new rfl ?_; with_reducible rfl) | (refine cell_new rfl ?_; simp; done) | with_reducible refine cell_alloc ?_ _)))
    have haz0_p0_0 : ∀ o, (wz0.alloc o).cell? ⟨w.heap.size, 0, none⟩ = some (.slice A0 n0 c0) := fun o => cell_alloc hvz0_p0_0 o
    go_wp2
    go_ret
    exact ⟨rfl, by ((repeat (first | exact Below.refl _ _ | with_reducible assumption | refine Below.alloc0 ?_ _ | refine Below.step0 ?_ (by with_reducible assumption) | refine Below.step ?_ (by with_reducible assumption) ?_ | refine Below.alloc ?_ ?_ _ | refine Below.drew ?_ | refine below_drewN ?_ _ | refine Below.setCell ?_ ?_ _)) <;> (first | omega | exact hsz | exact Below.size (by with_reducible assumption) | (simp; done) | (simp; omega) | (simp at *; omega)))⟩
  go_enter Try.func7, Try.ntmps7
  go_wp2_with fail
  refine (szRegion_c (1048576) _ _ _ (by omega) (by omega) (by omega) _).mono ?_
  rintro e wz0 ⟨rfl, hbz0⟩
  rw [if_neg (by omega)]
  have hvz0_p0_0 : wz0.cell? ⟨w.heap.size, 0, none⟩ = some (.slice A0 n0 c0) := by
    ((repeat (first | with_reducible assumption | with_reducible refine cell_step ?_ (by with_reducible assumption) | with_reducible refine cell_drew ?_ | with_reducible refine cell_drewN ?_ _ | (refine cell_new rfl ?_; with_reducible rfl) | (refine cell_new rfl ?_; simp; done) | with_reducible refine cell_alloc ?_ _)))
  have haz0_p0_0 : ∀ o, (wz0.alloc o).cell? ⟨w.heap.size, 0, none⟩ = some (.slice A0 n0 c0) := fun o => cell_alloc hvz0_p0_0 o
  have hfl : (ftR l0).length ≤ 33 := (ftR_len l0)
  have e1 : ((decide (0 < cntR l0)) == (decide (0 < cntR l0))) = true := by simp
  have e1' : ((decide (0 < cntR l0)) != (decide (0 < cntR l0))) = false := by simp
  go_wp2_with fail
  refine Calls.mono (toRegion_c l0 _ _ _ _ ?_ (by omega)) ?_
  · ((repeat (first | with_reducible assumption | with_reducible refine Rd.alloc ?_ _ | with_reducible refine Rd.step ?_ (by with_reducible assumption) | with_reducible refine Rd.drew ?_ | with_reducible refine Rd.drewN ?_ _ | with_reducible refine RdA.alloc ?_ _ | with_reducible refine RdA.step ?_ (by with_reducible assumption) | with_reducible refine RdA.drew ?_ | with_reducible refine RdA.drewN ?_ _)))
  rintro e w1 ⟨v1, rfl, ho1, hb1⟩
  obtain ⟨A1, d1, rfl, hle1⟩ := own_form3 ho1
  have hx1 := own_rd ho1
  have hob1 := own_mono (base' := w.heap.size) ho1 (by ((repeat (first | exact Nat.le_refl _ | with_reducible assumption | with_reducible refine Nat.le_trans ?_ (Below.size (by with_reducible assumption)) | with_reducible refine Nat.le_trans ?_ (grown_size (by with_reducible assumption)) | with_reducible refine size_alloc ?_ _ | with_reducible refine size_drewN ?_ _ | with_reducible refine size_drew ?_))))
  have hv1_p0_0 : w1.cell? ⟨w.heap.size, 0, none⟩ = some (.slice A0 n0 c0) := by
    ((repeat (first | with_reducible assumption | with_reducible refine cell_step ?_ (by with_reducible assumption) | with_reducible refine cell_drew ?_ | with_reducible refine cell_drewN ?_ _ | (refine cell_new rfl ?_; with_reducible rfl) | (refine cell_new rfl ?_; simp; done) | with_reducible refine cell_alloc ?_ _)))
  have ha1_p0_0 : ∀ o, (w1.alloc o).cell? ⟨w.heap.size, 0, none⟩ = some (.slice A0 n0 c0) := fun o => cell_alloc hv1_p0_0 o
  go_wp2_with fail
  refine Calls.mono (kit_rowv (spec_FirstTiling_fn l0 (by have := HN0.out; omega)) (args1 (mk_regv' ?_ ?_ HN0.out))) ?_
  · ((repeat (first | with_reducible assumption | with_reducible refine Rd.alloc ?_ _ | with_reducible refine Rd.step ?_ (by with_reducible assumption) | with_reducible refine Rd.drew ?_ | with_reducible refine Rd.drewN ?_ _ | with_reducible refine RdA.alloc ?_ _ | with_reducible refine RdA.step ?_ (by with_reducible assumption) | with_reducible refine RdA.drew ?_ | with_reducible refine RdA.drewN ?_ _)))
  · (try assumption)
  rintro e w2 ⟨v2_0, rfl, ho2_0, hb2⟩
  obtain ⟨A2_0, d2_0, rfl, hle2_0⟩ := own_form3 ho2_0
  have hx2_0 := own_rd ho2_0
  have hob2_0 := own_mono (base' := w.heap.size) ho2_0 (by ((repeat (first | exact Nat.le_refl _ | with_reducible assumption | with_reducible refine Nat.le_trans ?_ (Below.size (by with_reducible assumption)) | with_reducible refine Nat.le_trans ?_ (grown_size (by with_reducible assumption)) | with_reducible refine size_alloc ?_ _ | with_reducible refine size_drewN ?_ _ | with_reducible refine size_drew ?_))))
  have hv2_p0_0 : w2.cell? ⟨w.heap.size, 0, none⟩ = some (.slice A0 n0 c0) := by
    ((repeat (first | with_reducible assumption | with_reducible refine cell_step ?_ (by with_reducible assumption) | with_reducible refine cell_drew ?_ | with_reducible refine cell_drewN ?_ _ | (refine cell_new rfl ?_; with_reducible rfl) | (refine cell_new rfl ?_; simp; done) | with_reducible refine cell_alloc ?_ _)))
  have ha2_p0_0 : ∀ o, (w2.alloc o).cell? ⟨w.heap.size, 0, none⟩ = some (.slice A0 n0 c0) := fun o => cell_alloc hv2_p0_0 o
  go_wp2_with fail
  refine Calls.mono (toRegion_c l0 _ _ _ _ ?_ (by omega)) ?_
  · ((repeat (first | with_reducible assumption | with_reducible refine Rd.alloc ?_ _ | with_reducible refine Rd.step ?_ (by with_reducible assumption) | with_reducible refine Rd.drew ?_ | with_reducible refine Rd.drewN ?_ _ | with_reducible refine RdA.alloc ?_ _ | with_reducible refine RdA.step ?_ (by with_reducible assumption) | with_reducible refine RdA.drew ?_ | with_reducible refine RdA.drewN ?_ _)))
  rintro e w3 ⟨v3, rfl, ho3, hb3⟩
  obtain ⟨A3, d3, rfl, hle3⟩ := own_form3 ho3
  have hx3 := own_rd ho3
  have hob3 := own_mono (base' := w.heap.size) ho3 (by ((repeat (first | exact Nat.le_refl _ | with_reducible assumption | with_reducible refine Nat.le_trans ?_ (Below.size (by with_reducible assumption)) | with_reducible refine Nat.le_trans ?_ (grown_size (by with_reducible assumption)) | with_reducible refine size_alloc ?_ _ | with_reducible refine size_drewN ?_ _ | with_reducible refine size_drew ?_))))
  have hv3_p0_0 : w3.cell? ⟨w.heap.size, 0, none⟩ = some (.slice A0 n0 c0) := by
    ((repeat (first | with_reducible assumption | with_reducible refine cell_step ?_ (by with_reducible assumption) | with_reducible refine cell_drew ?_ | with_reducible refine cell_drewN ?_ _ | (refine cell_new rfl ?_; with_reducible rfl) | (refine cell_new rfl ?_; simp; done) | with_reducible refine cell_alloc ?_ _)))
  have ha3_p0_0 : ∀ o, (w3.alloc o).cell? ⟨w.heap.size, 0, none⟩ = some (.slice A0 n0 c0) := fun o => cell_alloc hv3_p0_0 o
  go_wp2_with fail
  refine Calls.mono (kit_rowv (impl_FirstTiling_fn l0 (by have := HN0.out; omega)) (args1 (mk_regv' ?_ ?_ HN0.out))) ?_
  · ((repeat (first | with_reducible assumption | with_reducible refine Rd.alloc ?_ _ | with_reducible refine Rd.step ?_ (by with_reducible assumption) | with_reducible refine Rd.drew ?_ | with_reducible refine Rd.drewN ?_ _ | with_reducible refine RdA.alloc ?_ _ | with_reducible refine RdA.step ?_ (by with_reducible assumption) | with_reducible refine RdA.drew ?_ | with_reducible refine RdA.drewN ?_ _)))
  · (try assumption)
  rintro e w4 ⟨v4_0, rfl, ho4_0, hb4⟩
  obtain ⟨A4_0, d4_0, rfl, hle4_0⟩ := own_form3 ho4_0
  have hx4_0 := own_rd ho4_0
  have hob4_0 := own_mono (base' := w.heap.size) ho4_0 (by ((repeat (first | exact Nat.le_refl _ | with_reducible assumption | with_reducible refine Nat.le_trans ?_ (Below.size (by with_reducible assumption)) | with_reducible refine Nat.le_trans ?_ (grown_size (by with_reducible assumption)) | with_reducible refine size_alloc ?_ _ | with_reducible refine size_drewN ?_ _ | with_reducible refine size_drew ?_))))
  have hv4_p0_0 : w4.cell? ⟨w.heap.size, 0, none⟩ = some (.slice A0 n0 c0) := by
    ((repeat (first | with_reducible assumption | with_reducible refine cell_step ?_ (by with_reducible assumption) | with_reducible refine cell_drew ?_ | with_reducible refine cell_drewN ?_ _ | (refine cell_new rfl ?_; with_reducible rfl) | (refine cell_new rfl ?_; simp; done) | with_reducible refine cell_alloc ?_ _)))
  have ha4_p0_0 : ∀ o, (w4.alloc o).cell? ⟨w.heap.size, 0, none⟩ = some (.slice A0 n0 c0) := fun o => cell_alloc hv4_p0_0 o
  have hv4_x0 : w4.cell? ⟨w3.heap.size, 0, none⟩ = some (.slice A3 n0 d3) := by
    ((repeat (first | with_reducible assumption | with_reducible refine cell_step ?_ (by with_reducible assumption) | with_reducible refine cell_drew ?_ | with_reducible refine cell_drewN ?_ _ | (refine cell_new rfl ?_; with_reducible rfl) | (refine cell_new rfl ?_; simp; done) | with_reducible refine cell_alloc ?_ _)))
  have ha4_x0 : ∀ o, (w4.alloc o).cell? ⟨w3.heap.size, 0, none⟩ = some (.slice A3 n0 d3) := fun o => cell_alloc hv4_x0 o
  go_wp2_with fail
  refine Calls.mono (eqDominoS_c (ftR l0) (ftR l0) A4_0 A2_0 (ftR l0).length _ (ftR l0).length _ _ ?_ ?_ ?_ ?_) ?_
  · ((repeat (first | with_reducible assumption | with_reducible refine Rd.alloc ?_ _ | with_reducible refine Rd.step ?_ (by with_reducible assumption) | with_reducible refine Rd.drew ?_ | with_reducible refine Rd.drewN ?_ _ | with_reducible refine RdA.alloc ?_ _ | with_reducible refine RdA.step ?_ (by with_reducible assumption) | with_reducible refine RdA.drew ?_ | with_reducible refine RdA.drewN ?_ _)))
  · ((repeat (first | with_reducible assumption | with_reducible refine Rd.alloc ?_ _ | with_reducible refine Rd.step ?_ (by with_reducible assumption) | with_reducible refine Rd.drew ?_ | with_reducible refine Rd.drewN ?_ _ | with_reducible refine RdA.alloc ?_ _ | with_reducible refine RdA.step ?_ (by with_reducible assumption) | with_reducible refine RdA.drew ?_ | with_reducible refine RdA.drewN ?_ _)))
  · (first | omega | assumption)
  · (first | omega | assumption)
  rintro e w5 ⟨rfl, hb5⟩
  have hv5_p0_0 : w5.cell? ⟨w.heap.size, 0, none⟩ = some (.slice A0 n0 c0) := by
    ((repeat (first | with_reducible assumption | with_reducible refine cell_step ?_ (by with_reducible assumption) | with_reducible refine cell_drew ?_ | with_reducible refine cell_drewN ?_ _ | (refine cell_new rfl ?_; with_reducible rfl) | (refine cell_new rfl ?_; simp; done) | with_reducible refine cell_alloc ?_ _)))
  have ha5_p0_0 : ∀ o, (w5.alloc o).cell? ⟨w.heap.size, 0, none⟩ = some (.slice A0 n0 c0) := fun o => cell_alloc hv5_p0_0 o
  have hv5_x0 : w5.cell? ⟨w3.heap.size, 0, none⟩ = some (.slice A3 n0 d3) := by
    ((repeat (first | with_reducible assumption | with_reducible refine cell_step ?_ (by with_reducible assumption) | with_reducible refine cell_drew ?_ | with_reducible refine cell_drewN ?_ _ | (refine cell_new rfl ?_; with_reducible rfl) | (refine cell_new rfl ?_; simp; done) | with_reducible refine cell_alloc ?_ _)))
  have ha5_x0 : ∀ o, (w5.alloc o).cell? ⟨w3.heap.size, 0, none⟩ = some (.slice A3 n0 d3) := fun o => cell_alloc hv5_x0 o
  go_wp2_with fail
  go_region_held3 (fun w' => w'.cell? ⟨w.heap.size, 0, none⟩ = some (.slice A0 n0 c0) ∧ w'.cell? ⟨w3.heap.size, 0, none⟩ = some (.slice A3 n0 d3)) (go_keep) ((first | (go_at_call 11; refine Calls.mono (toRegion_c l0 _ _ _ _ ?_ (by omega)) ?_; (((repeat (first | with_reducible assumption | with_reducible refine Rd.alloc ?_ _ | with_reducible refine Rd.step ?_ (by with_reducible assumption) | with_reducible refine Rd.drew ?_ | with_reducible refine Rd.drewN ?_ _ | with_reducible refine RdA.alloc ?_ _ | with_reducible refine RdA.step ?_ (by with_reducible assumption) | with_reducible refine RdA.drew ?_ | with_reducible refine RdA.drewN ?_ _)))); rintro e w6 ⟨v6, rfl, ho6, hb6⟩; obtain ⟨A6, d6, rfl, hle6⟩ := own_form3 ho6; have hx6 := own_rd ho6; have hob6 := own_mono (base' := w.heap.size) ho6 (by ((repeat (first | exact Nat.le_refl _ | with_reducible assumption | with_reducible refine Nat.le_trans ?_ (Below.size (by with_reducible assumption)) | with_reducible refine Nat.le_trans ?_ (grown_size (by with_reducible assumption)) | with_reducible refine size_alloc ?_ _ | with_reducible refine size_drewN ?_ _ | with_reducible refine size_drew ?_)))); have hv6_p0_0 : w6.cell? ⟨w.heap.size, 0, none⟩ = some (.slice A0 n0 c0) := (by ((repeat (first | with_reducible assumption | with_reducible refine cell_step ?_ (by with_reducible assumption) | with_reducible refine cell_drew ?_ | with_reducible refine cell_drewN ?_ _ | (refine cell_new rfl ?_; with_reducible rfl) | (refine cell_new rfl ?_; simp; done) | with_reducible refine cell_alloc ?_ _)))); have ha6_p0_0 : ∀ o, (w6.alloc o).cell? ⟨w.heap.size, 0, none⟩ = some (.slice A0 n0 c0) := fun o => cell_alloc hv6_p0_0 o; have hv6_x0 : w6.cell? ⟨w3.heap.size, 0, none⟩ = some (.slice A3 n0 d3) := (by ((repeat (first | with_reducible assumption | with_reducible refine cell_step ?_ (by with_reducible assumption) | with_reducible refine cell_drew ?_ | with_reducible refine cell_drewN ?_ _ | (refine cell_new rfl ?_; with_reducible rfl) | (refine cell_new rfl ?_; simp; done) | with_reducible refine cell_alloc ?_ _)))); have ha6_x0 : ∀ o, (w6.alloc o).cell? ⟨w3.heap.size, 0, none⟩ = some (.slice A3 n0 d3) := fun o => cell_alloc hv6_x0 o) | (go_at_call 14; refine Calls.mono (eqRegion_c l0 l0 A3 A6 n0 _ n0 _ _ ?_ ?_ ?_ ?_) ?_; (((repeat (first | with_reducible assumption | with_reducible refine Rd.alloc ?_ _ | with_reducible refine Rd.step ?_ (by with_reducible assumption) | with_reducible refine Rd.drew ?_ | with_reducible refine Rd.drewN ?_ _ | with_reducible refine RdA.alloc ?_ _ | with_reducible refine RdA.step ?_ (by with_reducible assumption) | with_reducible refine RdA.drew ?_ | with_reducible refine RdA.drewN ?_ _)))); (((repeat (first | with_reducible assumption | with_reducible refine Rd.alloc ?_ _ | with_reducible refine Rd.step ?_ (by with_reducible assumption) | with_reducible refine Rd.drew ?_ | with_reducible refine Rd.drewN ?_ _ | with_reducible refine RdA.alloc ?_ _ | with_reducible refine RdA.step ?_ (by with_reducible assumption) | with_reducible refine RdA.drew ?_ | with_reducible refine RdA.drewN ?_ _)))); ((first | omega | assumption)); ((first | omega | assumption)); rintro e w7 ⟨rfl, hb7⟩; have hv7_p0_0 : w7.cell? ⟨w.heap.size, 0, none⟩ = some (.slice A0 n0 c0) := (by ((repeat (first | with_reducible assumption | with_reducible refine cell_step ?_ (by with_reducible assumption) | with_reducible refine cell_drew ?_ | with_reducible refine cell_drewN ?_ _ | (refine cell_new rfl ?_; with_reducible rfl) | (refine cell_new rfl ?_; simp; done) | with_reducible refine cell_alloc ?_ _)))); have ha7_p0_0 : ∀ o, (w7.alloc o).cell? ⟨w.heap.size, 0, none⟩ = some (.slice A0 n0 c0) := fun o => cell_alloc hv7_p0_0 o; have hv7_x0 : w7.cell? ⟨w3.heap.size, 0, none⟩ = some (.slice A3 n0 d3) := (by ((repeat (first | with_reducible assumption | with_reducible refine cell_step ?_ (by with_reducible assumption) | with_reducible refine cell_drew ?_ | with_reducible refine cell_drewN ?_ _ | (refine cell_new rfl ?_; with_reducible rfl) | (refine cell_new rfl ?_; simp; done) | with_reducible refine cell_alloc ?_ _)))); have ha7_x0 : ∀ o, (w7.alloc o).cell? ⟨w3.heap.size, 0, none⟩ = some (.slice A3 n0 d3) := fun o => cell_alloc hv7_x0 o)))
  go_wp2_with fail
  refine Calls.mono (markRegion_c l0 A3 n0 _ w.heap.size _ _ ?_ ?_ (by omega) (by omega) ?_) ?_
  · ((repeat (first | with_reducible assumption | with_reducible refine own_alloc ?_ _ | with_reducible refine own_step ?_ (by with_reducible assumption) | with_reducible refine own_drew ?_ | with_reducible refine own_drewN ?_ _)))
  · (first | omega | assumption)
  · ((repeat (first | exact Nat.le_refl _ | with_reducible assumption | with_reducible refine Nat.le_trans ?_ (Below.size (by with_reducible assumption)) | with_reducible refine Nat.le_trans ?_ (grown_size (by with_reducible assumption)) | with_reducible refine size_alloc ?_ _ | with_reducible refine size_drewN ?_ _ | with_reducible refine size_drew ?_)))
  rintro e w8 ⟨rfl, hom8, hgm8, hbm8⟩
  have hv8_p0_0 : w8.cell? ⟨w.heap.size, 0, none⟩ = some (.slice A0 n0 c0) := by
    (refine cell_grown (by ((repeat (first | with_reducible assumption | with_reducible refine cell_step ?_ (by with_reducible assumption) | with_reducible refine cell_drew ?_ | with_reducible refine cell_drewN ?_ _ | (refine cell_new rfl ?_; with_reducible rfl) | (refine cell_new rfl ?_; simp; done) | with_reducible refine cell_alloc ?_ _)))) (by assumption) (by first | (refine row_ne ho3 ?_; ((repeat (first | exact Nat.le_refl _ | with_reducible assumption | with_reducible refine Nat.le_trans ?_ (Below.size (by with_reducible assumption)) | with_reducible refine Nat.le_trans ?_ (grown_size (by with_reducible assumption)) | with_reducible refine size_alloc ?_ _ | with_reducible refine size_drewN ?_ _ | with_reducible refine size_drew ?_))); done) | (refine row_ne_cell (o := 0) (u := .slice A0 n0 c0) ho3 ?_; ((repeat (first | with_reducible assumption | with_reducible refine cell_step ?_ (by with_reducible assumption) | with_reducible refine cell_drew ?_ | with_reducible refine cell_drewN ?_ _ | (refine cell_new rfl ?_; with_reducible rfl) | (refine cell_new rfl ?_; simp; done) | with_reducible refine cell_alloc ?_ _))); done)))
  have ha8_p0_0 : ∀ o, (w8.alloc o).cell? ⟨w.heap.size, 0, none⟩ = some (.slice A0 n0 c0) := fun o => cell_alloc hv8_p0_0 o
  have hv8_x0 : w8.cell? ⟨w3.heap.size, 0, none⟩ = some (.slice A3 n0 d3) := by
    (refine cell_grown (by ((repeat (first | with_reducible assumption | with_reducible refine cell_step ?_ (by with_reducible assumption) | with_reducible refine cell_drew ?_ | with_reducible refine cell_drewN ?_ _ | (refine cell_new rfl ?_; with_reducible rfl) | (refine cell_new rfl ?_; simp; done) | with_reducible refine cell_alloc ?_ _)))) (by assumption) (by first | (refine row_ne ho3 ?_; ((repeat (first | exact Nat.le_refl _ | with_reducible assumption | with_reducible refine Nat.le_trans ?_ (Below.size (by with_reducible assumption)) | with_reducible refine Nat.le_trans ?_ (grown_size (by with_reducible assumption)) | with_reducible refine size_alloc ?_ _ | with_reducible refine size_drewN ?_ _ | with_reducible refine size_drew ?_))); done) | (refine row_ne_cell (o := 0) (u := .slice A3 n0 d3) ho3 ?_; ((repeat (first | with_reducible assumption | with_reducible refine cell_step ?_ (by with_reducible assumption) | with_reducible refine cell_drew ?_ | with_reducible refine cell_drewN ?_ _ | (refine cell_new rfl ?_; with_reducible rfl) | (refine cell_new rfl ?_; simp; done) | with_reducible refine cell_alloc ?_ _))); done)))
  have ha8_x0 : ∀ o, (w8.alloc o).cell? ⟨w3.heap.size, 0, none⟩ = some (.slice A3 n0 d3) := fun o => cell_alloc hv8_x0 o
  have hch8 : Below w.heap.size w w8 := by
    refine Below.trans ?_ (hbm8.mono (by ((repeat (first | exact Nat.le_refl _ | with_reducible assumption | with_reducible refine Nat.le_trans ?_ (Below.size (by with_reducible assumption)) | with_reducible refine Nat.le_trans ?_ (grown_size (by with_reducible assumption)) | with_reducible refine size_alloc ?_ _ | with_reducible refine size_drewN ?_ _ | with_reducible refine size_drew ?_)))))
    ((repeat (first | exact Below.refl _ _ | with_reducible assumption | refine Below.alloc0 ?_ _ | refine Below.step0 ?_ (by with_reducible assumption) | refine Below.step ?_ (by with_reducible assumption) ?_ | refine Below.alloc ?_ ?_ _ | refine Below.drew ?_ | refine below_drewN ?_ _ | refine Below.setCell ?_ ?_ _)) <;> (first | omega | exact hsz | exact Below.size (by with_reducible assumption) | (simp; done) | (simp; omega) | (simp at *; omega)))
  have ho8_w0 := World.ownsRow.kept (base := w.heap.size) (e := 32) (size := 3) (v := .slice A2_0 (ftR l0).length d2_0) (n := (ftR l0).length) (xs := dsl (ftR l0)) (by ((repeat (first | with_reducible assumption | with_reducible refine own_alloc ?_ _ | with_reducible refine own_step ?_ (by with_reducible assumption) | with_reducible refine own_drew ?_ | with_reducible refine own_drewN ?_ _)))) hgm8 (by first | (refine own_disj ho2_0 ho3 ?_; ((repeat (first | exact Nat.le_refl _ | with_reducible assumption | with_reducible refine Nat.le_trans ?_ (Below.size (by with_reducible assumption)) | with_reducible refine Nat.le_trans ?_ (grown_size (by with_reducible assumption)) | with_reducible refine size_alloc ?_ _ | with_reducible refine size_drewN ?_ _ | with_reducible refine size_drew ?_))); done) | (refine own_disj' ho2_0 ho3 ?_; ((repeat (first | exact Nat.le_refl _ | with_reducible assumption | with_reducible refine Nat.le_trans ?_ (Below.size (by with_reducible assumption)) | with_reducible refine Nat.le_trans ?_ (grown_size (by with_reducible assumption)) | with_reducible refine size_alloc ?_ _ | with_reducible refine size_drewN ?_ _ | with_reducible refine size_drew ?_))); done))
  have hx8_w0 := own_rd ho8_w0
  have ho8_g0 := World.ownsRow.kept (base := w.heap.size) (e := 32) (size := 3) (v := .slice A4_0 (ftR l0).length d4_0) (n := (ftR l0).length) (xs := dsl (ftR l0)) (by ((repeat (first | with_reducible assumption | with_reducible refine own_alloc ?_ _ | with_reducible refine own_step ?_ (by with_reducible assumption) | with_reducible refine own_drew ?_ | with_reducible refine own_drewN ?_ _)))) hgm8 (by first | (refine own_disj ho4_0 ho3 ?_; ((repeat (first | exact Nat.le_refl _ | with_reducible assumption | with_reducible refine Nat.le_trans ?_ (Below.size (by with_reducible assumption)) | with_reducible refine Nat.le_trans ?_ (grown_size (by with_reducible assumption)) | with_reducible refine size_alloc ?_ _ | with_reducible refine size_drewN ?_ _ | with_reducible refine size_drew ?_))); done) | (refine own_disj' ho4_0 ho3 ?_; ((repeat (first | exact Nat.le_refl _ | with_reducible assumption | with_reducible refine Nat.le_trans ?_ (Below.size (by with_reducible assumption)) | with_reducible refine Nat.le_trans ?_ (grown_size (by with_reducible assumption)) | with_reducible refine size_alloc ?_ _ | with_reducible refine size_drewN ?_ _ | with_reducible refine size_drew ?_))); done))
  have hx8_g0 := own_rd ho8_g0
  have hx8_m := own_rd hom8
  have hr0_8 := hr0.below hch8 (Nat.le_refl _)
  go_wp2_with fail
  refine Calls.mono (eqDominoS_c (ftR l0) (ftR l0) A4_0 A2_0 (ftR l0).length _ (ftR l0).length _ _ ?_ ?_ ?_ ?_) ?_
  · ((repeat (first | with_reducible assumption | with_reducible refine Rd.alloc ?_ _ | with_reducible refine Rd.step ?_ (by with_reducible assumption) | with_reducible refine Rd.drew ?_ | with_reducible refine Rd.drewN ?_ _ | with_reducible refine RdA.alloc ?_ _ | with_reducible refine RdA.step ?_ (by with_reducible assumption) | with_reducible refine RdA.drew ?_ | with_reducible refine RdA.drewN ?_ _)))
  · ((repeat (first | with_reducible assumption | with_reducible refine Rd.alloc ?_ _ | with_reducible refine Rd.step ?_ (by with_reducible assumption) | with_reducible refine Rd.drew ?_ | with_reducible refine Rd.drewN ?_ _ | with_reducible refine RdA.alloc ?_ _ | with_reducible refine RdA.step ?_ (by with_reducible assumption) | with_reducible refine RdA.drew ?_ | with_reducible refine RdA.drewN ?_ _)))
  · (first | omega | assumption)
  · (first | omega | assumption)
  rintro e w9 ⟨rfl, hb9⟩
  have hv9_p0_0 : w9.cell? ⟨w.heap.size, 0, none⟩ = some (.slice A0 n0 c0) := by
    ((repeat (first | with_reducible assumption | with_reducible refine cell_step ?_ (by with_reducible assumption) | with_reducible refine cell_drew ?_ | with_reducible refine cell_drewN ?_ _ | (refine cell_new rfl ?_; with_reducible rfl) | (refine cell_new rfl ?_; simp; done) | with_reducible refine cell_alloc ?_ _)))
  have ha9_p0_0 : ∀ o, (w9.alloc o).cell? ⟨w.heap.size, 0, none⟩ = some (.slice A0 n0 c0) := fun o => cell_alloc hv9_p0_0 o
  have hv9_x0 : w9.cell? ⟨w3.heap.size, 0, none⟩ = some (.slice A3 n0 d3) := by
    ((repeat (first | with_reducible assumption | with_reducible refine cell_step ?_ (by with_reducible assumption) | with_reducible refine cell_drew ?_ | with_reducible refine cell_drewN ?_ _ | (refine cell_new rfl ?_; with_reducible rfl) | (refine cell_new rfl ?_; simp; done) | with_reducible refine cell_alloc ?_ _)))
  have ha9_x0 : ∀ o, (w9.alloc o).cell? ⟨w3.heap.size, 0, none⟩ = some (.slice A3 n0 d3) := fun o => cell_alloc hv9_x0 o
  go_wp2_with fail
  refine Calls.mono (markDominoS_c (ftR l0) A4_0 (ftR l0).length _ w.heap.size _ _ ?_ ?_ (by omega) (by omega)) ?_
  · ((repeat (first | with_reducible assumption | with_reducible refine own_alloc ?_ _ | with_reducible refine own_step ?_ (by with_reducible assumption) | with_reducible refine own_drew ?_ | with_reducible refine own_drewN ?_ _)))
  · (first | omega | assumption)
  rintro e w10 ⟨rfl, hom10, hgm10, hbm10⟩
  have hv10_p0_0 : w10.cell? ⟨w.heap.size, 0, none⟩ = some (.slice A0 n0 c0) := by
    (refine cell_grown (by ((repeat (first | with_reducible assumption | with_reducible refine cell_step ?_ (by with_reducible assumption) | with_reducible refine cell_drew ?_ | with_reducible refine cell_drewN ?_ _ | (refine cell_new rfl ?_; with_reducible rfl) | (refine cell_new rfl ?_; simp; done) | with_reducible refine cell_alloc ?_ _)))) (by assumption) (by first | (refine row_ne ho4_0 ?_; ((repeat (first | exact Nat.le_refl _ | with_reducible assumption | with_reducible refine Nat.le_trans ?_ (Below.size (by with_reducible assumption)) | with_reducible refine Nat.le_trans ?_ (grown_size (by with_reducible assumption)) | with_reducible refine size_alloc ?_ _ | with_reducible refine size_drewN ?_ _ | with_reducible refine size_drew ?_))); done) | (refine row_ne_cell (o := 0) (u := .slice A0 n0 c0) ho4_0 ?_; ((repeat (first | with_reducible assumption | with_reducible refine cell_step ?_ (by with_reducible assumption) | with_reducible refine cell_drew ?_ | with_reducible refine cell_drewN ?_ _ | (refine cell_new rfl ?_; with_reducible rfl) | (refine cell_new rfl ?_; simp; done) | with_reducible refine cell_alloc ?_ _))); done)))
  have ha10_p0_0 : ∀ o, (w10.alloc o).cell? ⟨w.heap.size, 0, none⟩ = some (.slice A0 n0 c0) := fun o => cell_alloc hv10_p0_0 o
  have hv10_x0 : w10.cell? ⟨w3.heap.size, 0, none⟩ = some (.slice A3 n0 d3) := by
    (refine cell_grown (by ((repeat (first | with_reducible assumption | with_reducible refine cell_step ?_ (by with_reducible assumption) | with_reducible refine cell_drew ?_ | with_reducible refine cell_drewN ?_ _ | (refine cell_new rfl ?_; with_reducible rfl) | (refine cell_new rfl ?_; simp; done) | with_reducible refine cell_alloc ?_ _)))) (by assumption) (by first | (refine row_ne ho4_0 ?_; ((repeat (first | exact Nat.le_refl _ | with_reducible assumption | with_reducible refine Nat.le_trans ?_ (Below.size (by with_reducible assumption)) | with_reducible refine Nat.le_trans ?_ (grown_size (by with_reducible assumption)) | with_reducible refine size_alloc ?_ _ | with_reducible refine size_drewN ?_ _ | with_reducible refine size_drew ?_))); done) | (refine row_ne_cell (o := 0) (u := .slice A3 n0 d3) ho4_0 ?_; ((repeat (first | with_reducible assumption | with_reducible refine cell_step ?_ (by with_reducible assumption) | with_reducible refine cell_drew ?_ | with_reducible refine cell_drewN ?_ _ | (refine cell_new rfl ?_; with_reducible rfl) | (refine cell_new rfl ?_; simp; done) | with_reducible refine cell_alloc ?_ _))); done)))
  have ha10_x0 : ∀ o, (w10.alloc o).cell? ⟨w3.heap.size, 0, none⟩ = some (.slice A3 n0 d3) := fun o => cell_alloc hv10_x0 o
  have hch10 : Below w.heap.size w w10 := by
    refine Below.trans ?_ (hbm10.mono (by ((repeat (first | exact Nat.le_refl _ | with_reducible assumption | with_reducible refine Nat.le_trans ?_ (Below.size (by with_reducible assumption)) | with_reducible refine Nat.le_trans ?_ (grown_size (by with_reducible assumption)) | with_reducible refine size_alloc ?_ _ | with_reducible refine size_drewN ?_ _ | with_reducible refine size_drew ?_)))))
    ((repeat (first | exact Below.refl _ _ | with_reducible assumption | refine Below.alloc0 ?_ _ | refine Below.step0 ?_ (by with_reducible assumption) | refine Below.step ?_ (by with_reducible assumption) ?_ | refine Below.alloc ?_ ?_ _ | refine Below.drew ?_ | refine below_drewN ?_ _ | refine Below.setCell ?_ ?_ _)) <;> (first | omega | exact hsz | exact Below.size (by with_reducible assumption) | (simp; done) | (simp; omega) | (simp at *; omega)))
  have ho10_w0 := World.ownsRow.kept (base := w.heap.size) (e := 32) (size := 3) (v := .slice A2_0 (ftR l0).length d2_0) (n := (ftR l0).length) (xs := dsl (ftR l0)) (by ((repeat (first | with_reducible assumption | with_reducible refine own_alloc ?_ _ | with_reducible refine own_step ?_ (by with_reducible assumption) | with_reducible refine own_drew ?_ | with_reducible refine own_drewN ?_ _)))) hgm10 (by first | (refine own_disj ho2_0 ho4_0 ?_; ((repeat (first | exact Nat.le_refl _ | with_reducible assumption | with_reducible refine Nat.le_trans ?_ (Below.size (by with_reducible assumption)) | with_reducible refine Nat.le_trans ?_ (grown_size (by with_reducible assumption)) | with_reducible refine size_alloc ?_ _ | with_reducible refine size_drewN ?_ _ | with_reducible refine size_drew ?_))); done) | (refine own_disj' ho2_0 ho4_0 ?_; ((repeat (first | exact Nat.le_refl _ | with_reducible assumption | with_reducible refine Nat.le_trans ?_ (Below.size (by with_reducible assumption)) | with_reducible refine Nat.le_trans ?_ (grown_size (by with_reducible assumption)) | with_reducible refine size_alloc ?_ _ | with_reducible refine size_drewN ?_ _ | with_reducible refine size_drew ?_))); done))
  have hx10_w0 := own_rd ho10_w0
  have hx10_m := own_rd hom10
  have hr0_10 := hr0.below hch10 (Nat.le_refl _)
  go_wp2_with fail
  refine Calls.mono (heldDominoS_c A4_0 (ftR l0).length _ _ _ ?_ ?_ (by omega) (by omega)) ?_
  · ((repeat (first | with_reducible assumption | with_reducible refine Rd.alloc ?_ _ | with_reducible refine Rd.step ?_ (by with_reducible assumption) | with_reducible refine Rd.drew ?_ | with_reducible refine Rd.drewN ?_ _ | with_reducible refine RdA.alloc ?_ _ | with_reducible refine RdA.step ?_ (by with_reducible assumption) | with_reducible refine RdA.drew ?_ | with_reducible refine RdA.drewN ?_ _)))
  · (first | omega | assumption)
  rintro e w11 ⟨rfl, hb11⟩
  have hv11_p0_0 : w11.cell? ⟨w.heap.size, 0, none⟩ = some (.slice A0 n0 c0) := by
    ((repeat (first | with_reducible assumption | with_reducible refine cell_step ?_ (by with_reducible assumption) | with_reducible refine cell_drew ?_ | with_reducible refine cell_drewN ?_ _ | (refine cell_new rfl ?_; with_reducible rfl) | (refine cell_new rfl ?_; simp; done) | with_reducible refine cell_alloc ?_ _)))
  have ha11_p0_0 : ∀ o, (w11.alloc o).cell? ⟨w.heap.size, 0, none⟩ = some (.slice A0 n0 c0) := fun o => cell_alloc hv11_p0_0 o
  have hv11_x0 : w11.cell? ⟨w3.heap.size, 0, none⟩ = some (.slice A3 n0 d3) := by
    ((repeat (first | with_reducible assumption | with_reducible refine cell_step ?_ (by with_reducible assumption) | with_reducible refine cell_drew ?_ | with_reducible refine cell_drewN ?_ _ | (refine cell_new rfl ?_; with_reducible rfl) | (refine cell_new rfl ?_; simp; done) | with_reducible refine cell_alloc ?_ _)))
  have ha11_x0 : ∀ o, (w11.alloc o).cell? ⟨w3.heap.size, 0, none⟩ = some (.slice A3 n0 d3) := fun o => cell_alloc hv11_x0 o
  go_wp2_with fail
  refine Calls.mono (toRegion_c l0 _ _ _ _ ?_ (by omega)) ?_
  · ((repeat (first | with_reducible assumption | with_reducible refine Rd.alloc ?_ _ | with_reducible refine Rd.step ?_ (by with_reducible assumption) | with_reducible refine Rd.drew ?_ | with_reducible refine Rd.drewN ?_ _ | with_reducible refine RdA.alloc ?_ _ | with_reducible refine RdA.step ?_ (by with_reducible assumption) | with_reducible refine RdA.drew ?_ | with_reducible refine RdA.drewN ?_ _)))
  rintro e w12 ⟨v12, rfl, ho12, hb12⟩
  obtain ⟨A12, d12, rfl, hle12⟩ := own_form3 ho12
  have hx12 := own_rd ho12
  have hob12 := own_mono (base' := w.heap.size) ho12 (by ((repeat (first | exact Nat.le_refl _ | with_reducible assumption | with_reducible refine Nat.le_trans ?_ (Below.size (by with_reducible assumption)) | with_reducible refine Nat.le_trans ?_ (grown_size (by with_reducible assumption)) | with_reducible refine size_alloc ?_ _ | with_reducible refine size_drewN ?_ _ | with_reducible refine size_drew ?_))))
  have hv12_p0_0 : w12.cell? ⟨w.heap.size, 0, none⟩ = some (.slice A0 n0 c0) := by
    ((repeat (first | with_reducible assumption | with_reducible refine cell_step ?_ (by with_reducible assumption) | with_reducible refine cell_drew ?_ | with_reducible refine cell_drewN ?_ _ | (refine cell_new rfl ?_; with_reducible rfl) | (refine cell_new rfl ?_; simp; done) | with_reducible refine cell_alloc ?_ _)))
  have ha12_p0_0 : ∀ o, (w12.alloc o).cell? ⟨w.heap.size, 0, none⟩ = some (.slice A0 n0 c0) := fun o => cell_alloc hv12_p0_0 o
  have hv12_x0 : w12.cell? ⟨w3.heap.size, 0, none⟩ = some (.slice A3 n0 d3) := by
    ((repeat (first | with_reducible assumption | with_reducible refine cell_step ?_ (by with_reducible assumption) | with_reducible refine cell_drew ?_ | with_reducible refine cell_drewN ?_ _ | (refine cell_new rfl ?_; with_reducible rfl) | (refine cell_new rfl ?_; simp; done) | with_reducible refine cell_alloc ?_ _)))
  have ha12_x0 : ∀ o, (w12.alloc o).cell? ⟨w3.heap.size, 0, none⟩ = some (.slice A3 n0 d3) := fun o => cell_alloc hv12_x0 o
  go_wp2_with fail
  refine Calls.mono (kit_rowv (impl_FirstTiling_fn l0 (by have := HN0.out; omega)) (args1 (mk_regv' ?_ ?_ HN0.out))) ?_
  · ((repeat (first | with_reducible assumption | with_reducible refine Rd.alloc ?_ _ | with_reducible refine Rd.step ?_ (by with_reducible assumption) | with_reducible refine Rd.drew ?_ | with_reducible refine Rd.drewN ?_ _ | with_reducible refine RdA.alloc ?_ _ | with_reducible refine RdA.step ?_ (by with_reducible assumption) | with_reducible refine RdA.drew ?_ | with_reducible refine RdA.drewN ?_ _)))
  · (try assumption)
  rintro e w13 ⟨v13_0, rfl, ho13_0, hb13⟩
  obtain ⟨A13_0, d13_0, rfl, hle13_0⟩ := own_form3 ho13_0
  have hx13_0 := own_rd ho13_0
  have hob13_0 := own_mono (base' := w.heap.size) ho13_0 (by ((repeat (first | exact Nat.le_refl _ | with_reducible assumption | with_reducible refine Nat.le_trans ?_ (Below.size (by with_reducible assumption)) | with_reducible refine Nat.le_trans ?_ (grown_size (by with_reducible assumption)) | with_reducible refine size_alloc ?_ _ | with_reducible refine size_drewN ?_ _ | with_reducible refine size_drew ?_))))
  have hv13_p0_0 : w13.cell? ⟨w.heap.size, 0, none⟩ = some (.slice A0 n0 c0) := by
    ((repeat (first | with_reducible assumption | with_reducible refine cell_step ?_ (by with_reducible assumption) | with_reducible refine cell_drew ?_ | with_reducible refine cell_drewN ?_ _ | (refine cell_new rfl ?_; with_reducible rfl) | (refine cell_new rfl ?_; simp; done) | with_reducible refine cell_alloc ?_ _)))
  have ha13_p0_0 : ∀ o, (w13.alloc o).cell? ⟨w.heap.size, 0, none⟩ = some (.slice A0 n0 c0) := fun o => cell_alloc hv13_p0_0 o
  have hv13_x0 : w13.cell? ⟨w3.heap.size, 0, none⟩ = some (.slice A3 n0 d3) := by
    ((repeat (first | with_reducible assumption | with_reducible refine cell_step ?_ (by with_reducible assumption) | with_reducible refine cell_drew ?_ | with_reducible refine cell_drewN ?_ _ | (refine cell_new rfl ?_; with_reducible rfl) | (refine cell_new rfl ?_; simp; done) | with_reducible refine cell_alloc ?_ _)))
  have ha13_x0 : ∀ o, (w13.alloc o).cell? ⟨w3.heap.size, 0, none⟩ = some (.slice A3 n0 d3) := fun o => cell_alloc hv13_x0 o
  go_wp2_with fail
  refine Calls.mono (eqDominoS_c (ftR l0) (ftR l0) A13_0 A2_0 (ftR l0).length _ (ftR l0).length _ _ ?_ ?_ ?_ ?_) ?_
  · ((repeat (first | with_reducible assumption | with_reducible refine Rd.alloc ?_ _ | with_reducible refine Rd.step ?_ (by with_reducible assumption) | with_reducible refine Rd.drew ?_ | with_reducible refine Rd.drewN ?_ _ | with_reducible refine RdA.alloc ?_ _ | with_reducible refine RdA.step ?_ (by with_reducible assumption) | with_reducible refine RdA.drew ?_ | with_reducible refine RdA.drewN ?_ _)))
  · ((repeat (first | with_reducible assumption | with_reducible refine Rd.alloc ?_ _ | with_reducible refine Rd.step ?_ (by with_reducible assumption) | with_reducible refine Rd.drew ?_ | with_reducible refine Rd.drewN ?_ _ | with_reducible refine RdA.alloc ?_ _ | with_reducible refine RdA.step ?_ (by with_reducible assumption) | with_reducible refine RdA.drew ?_ | with_reducible refine RdA.drewN ?_ _)))
  · (first | omega | assumption)
  · (first | omega | assumption)
  rintro e w14 ⟨rfl, hb14⟩
  have hv14_p0_0 : w14.cell? ⟨w.heap.size, 0, none⟩ = some (.slice A0 n0 c0) := by
    ((repeat (first | with_reducible assumption | with_reducible refine cell_step ?_ (by with_reducible assumption) | with_reducible refine cell_drew ?_ | with_reducible refine cell_drewN ?_ _ | (refine cell_new rfl ?_; with_reducible rfl) | (refine cell_new rfl ?_; simp; done) | with_reducible refine cell_alloc ?_ _)))
  have ha14_p0_0 : ∀ o, (w14.alloc o).cell? ⟨w.heap.size, 0, none⟩ = some (.slice A0 n0 c0) := fun o => cell_alloc hv14_p0_0 o
  have hv14_x0 : w14.cell? ⟨w3.heap.size, 0, none⟩ = some (.slice A3 n0 d3) := by
    ((repeat (first | with_reducible assumption | with_reducible refine cell_step ?_ (by with_reducible assumption) | with_reducible refine cell_drew ?_ | with_reducible refine cell_drewN ?_ _ | (refine cell_new rfl ?_; with_reducible rfl) | (refine cell_new rfl ?_; simp; done) | with_reducible refine cell_alloc ?_ _)))
  have ha14_x0 : ∀ o, (w14.alloc o).cell? ⟨w3.heap.size, 0, none⟩ = some (.slice A3 n0 d3) := fun o => cell_alloc hv14_x0 o
  go_wp2_with fail
  refine Calls.mono (heldDominoS_c A4_0 (ftR l0).length _ _ _ ?_ ?_ (by omega) (by omega)) ?_
  · ((repeat (first | with_reducible assumption | with_reducible refine Rd.alloc ?_ _ | with_reducible refine Rd.step ?_ (by with_reducible assumption) | with_reducible refine Rd.drew ?_ | with_reducible refine Rd.drewN ?_ _ | with_reducible refine RdA.alloc ?_ _ | with_reducible refine RdA.step ?_ (by with_reducible assumption) | with_reducible refine RdA.drew ?_ | with_reducible refine RdA.drewN ?_ _)))
  · (first | omega | assumption)
  rintro e w15 ⟨rfl, hb15⟩
  have hv15_p0_0 : w15.cell? ⟨w.heap.size, 0, none⟩ = some (.slice A0 n0 c0) := by
    ((repeat (first | with_reducible assumption | with_reducible refine cell_step ?_ (by with_reducible assumption) | with_reducible refine cell_drew ?_ | with_reducible refine cell_drewN ?_ _ | (refine cell_new rfl ?_; with_reducible rfl) | (refine cell_new rfl ?_; simp; done) | with_reducible refine cell_alloc ?_ _)))
  have ha15_p0_0 : ∀ o, (w15.alloc o).cell? ⟨w.heap.size, 0, none⟩ = some (.slice A0 n0 c0) := fun o => cell_alloc hv15_p0_0 o
  have hv15_x0 : w15.cell? ⟨w3.heap.size, 0, none⟩ = some (.slice A3 n0 d3) := by
    ((repeat (first | with_reducible assumption | with_reducible refine cell_step ?_ (by with_reducible assumption) | with_reducible refine cell_drew ?_ | with_reducible refine cell_drewN ?_ _ | (refine cell_new rfl ?_; with_reducible rfl) | (refine cell_new rfl ?_; simp; done) | with_reducible refine cell_alloc ?_ _)))
  have ha15_x0 : ∀ o, (w15.alloc o).cell? ⟨w3.heap.size, 0, none⟩ = some (.slice A3 n0 d3) := fun o => cell_alloc hv15_x0 o
  go_wp2
  go_ret
  exact ⟨rfl, by ((repeat (first | exact Below.refl _ _ | with_reducible assumption | refine Below.alloc0 ?_ _ | refine Below.step0 ?_ (by with_reducible assumption) | refine Below.step ?_ (by with_reducible assumption) ?_ | refine Below.alloc ?_ ?_ _ | refine Below.drew ?_ | refine below_drewN ?_ _ | refine Below.setCell ?_ ?_ _)) <;> (first | omega | exact hsz | exact Below.size (by with_reducible assumption) | (simp; done) | (simp; omega) | (simp at *; omega)))⟩

set_option maxRecDepth 100000 in
theorem lifted (os : Os) (started : os.Started) (H : Type) (enc : TypeId × Value → H) :
    ReturnsInHanded {} Try.checked os 7 .any (Rows.fnExactFirstTilingSpec.pre6 enc Try.prog Try.f7 Rows.fnExactFirstTilingRow.domain false) (Rows.fnExactFirstTilingSpec.post enc Try.prog Try.f7 false true false false) := by
  refine returnsInHanded_of_change (C := Try.checked) own_knob started (by kernel_rfl) Try.func7
    (ChangeSpec.witness6 (enc := enc) (C := Try.checked) false ⟨#[], #[.agg #[.slice none 0 0]], []⟩ 8 (by kernel_rfl) (by kernel_rfl) (by kernel_rfl) (by kernel_rfl)) ?_
  intro W base args ds gs before hval0 hW hcnd _
  have hval : ∀ (j : Nat) t v, Try.f7.params[j]? = some t → args[j]? = some v → Value.okWide Try.prog W .any base t v := hval0
  have hW' := hW
  obtain ⟨p, q, hA0, hV, rfl, hfz, hnd⟩ := hW
  have hA : DataW.TrodAll enc Try.prog W 0 (fun _ => true) true Try.f7.params.toList args.toList ds p := hA0
  rw [Try.params7] at hA hval
  obtain ⟨v0, vs0, d0, ds0, p0, q0, hargs, rfl, rfl, h0, r0⟩ := trodAll_cons hA
  obtain ⟨rfl, rfl, rfl⟩ := trodAll_nil r0
  obtain rfl : args = #[v0] := by cases args; simp_all
  obtain ⟨rfl, rfl⟩ := trodVars_none hV
  obtain ⟨A0, n0, c0, l0, rfl, hr0, hm0, hw0⟩ := open_reg (hval 0 _ v0 rfl rfl) h0
  clear hA0 hval0
  refine (walk W A0 n0 c0 l0 hr0 hm0 hw0).mono fun e W' ⟨he, hg⟩ => ?_
  subst he
  exact ⟨_, rfl, post_law laid_out (by rw [Try.params7]; decide +kernel) rfl rfl Try.underlying4 rfl hW' hg⟩

theorem over : Rows.fnExactFirstTilingRow.holds Try.pinned (OpenSpec.ofChange Rows.fnExactFirstTilingSpec) :=
  OpenClaim.holds_of_wide 7 Try.f7 rfl rfl rfl rfl rfl rfl rfl ⟨rfl, rfl, rfl, rfl, rfl⟩ rfl rfl rfl rfl rfl (by kernel_rfl) Try.func7 (by kernel_rfl)
    (of_decide_eq_true (by kernel_rfl)) (by unfold Func.isWrapper; first | (rw [if_pos (by decide +kernel)]; kernel_rfl) | (rw [if_neg (by decide +kernel)]; exact ⟨rfl, rfl⟩))
    (fun os started H enc _ => lifted os started H enc)

theorem proved : Rows.FnExactFirstTilingSaid :=
  over
#print axioms proved

end Go.Proofs.Ytabgfoindidigaa.lFirstTiling
