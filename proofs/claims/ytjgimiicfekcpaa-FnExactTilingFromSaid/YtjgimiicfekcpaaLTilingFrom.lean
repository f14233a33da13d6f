
/- FnExactTilingFrom: the program's TilingFrom returns what the reference's returns, for all arguments. No condition. -/
import Derived.Test.YtjgimiicfekcpaaLaw
import Derived.Test.YtjgimiicfekcpaaReg
import Derived.Test.YtjgimiicfekcpaaInts
import Derived.Test.YtjgimiicfekcpaaDoms
import Derived.Test.YtjgimiicfekcpaaC33
namespace Go.Proofs.Ytjgimiicfekcpaa.lTilingFrom
set_option maxRecDepth 20000
open Go.ChangeShapes Go.WideShapes Go.ChangeAt Go.RowKit Cl

set_option maxHeartbeats 2000000 in
theorem walk (w : World) (A0 : Option Addr) (n0 c0 : Nat) (l0 : List Int) (hr0 : RdA w 1 A0 n0 (isl l0)) (hm0 : n0 ≤ maxLen) (_ : ∀ z ∈ l0, (Lit.int .i64 z).wf = true) (A1 : Option Addr) (n1 c1 : Nat) (l1 : List Int) (hr1 : RdA w 1 A1 n1 (isl l1)) (hm1 : n1 ≤ maxLen) (_ : ∀ z ∈ l1, (Lit.int .i64 z).wf = true) :
    Calls Try.prog 3 #[.agg #[.slice A0 n0 c0], .slice A1 n1 c1] w fun e w' => e = .returned (.bool true) ∧ Below w.heap.size w w' := by
  unfold maxLen at hm0
  unfold maxLen at hm1
  have HN0 := Lib.hid (show n0 = l0.length by have := hr0.1; rw [isl_len] at this; omega)
  have HN1 := Lib.hid (show n1 = l1.length by have := hr1.1; rw [isl_len] at this; omega)
  have hsz : w.heap.size ≤ w.heap.size := Nat.le_refl _
  by_cases hn1 : n1 ≤ 1048576
  rotate_left
  · go_enter Try.func3, Try.ntmps3
    go_wp2
    go_ret
    exact ⟨rfl, by ((repeat (first | exact Below.refl _ _ | with_reducible assumption | refine Below.alloc0 ?_ _ | refine Below.step0 ?_ (by with_reducible assumption) | refine Below.step ?_ (by with_reducible assumption) ?_ | refine Below.alloc ?_ ?_ _ | refine Below.drew ?_ | refine below_drewN ?_ _ | refine Below.setCell ?_ ?_ _)) <;> (first | omega | exact hsz | exact Below.size (by with_reducible assumption) | (simp; done) | (simp; omega) | (simp at *; omega)))⟩
  by_cases hn0 : n0 ≤ 1048576
  rotate_left
  · go_enter Try.func3, Try.ntmps3
    go_wp2_with fail
    refine (szRegion_c (1048576) _ _ _ (by omega) (by omega) (by omega) _).mono ?_
    rintro e wz0 ⟨rfl, hbz0⟩
    rw [if_pos (by omega)]
    have hvz0_p0_0 : wz0.cell? ⟨w.heap.size, 0, none⟩ = some (.slice A0 n0 c0) := by
      ((repeat (first | with_reducible assumption | with_reducible refine cell_step ?_ (by with_reducible assumption) | with_reducible refine cell_drew ?_ | with_reducible refine cell_drewN ?_ _ | (refine cell_new rfl ?_; with_reducible rfl) | (refine cell_new rfl ?_; simp; done) | with_reducible refine cell_alloc ?_ _)))
    have haz0_p0_0 : ∀ o, (wz0.alloc o).cell? ⟨w.heap.size, 0, none⟩ = some (.slice A0 n0 c0) := fun o => cell_alloc hvz0_p0_0 o
    go_wp2
    go_ret
    exact ⟨rfl, by ((repeat (first | exact Below.refl _ _ | with_reducible assumption | refine Below.alloc0 ?_ _ | refine Below.step0 ?_ (by with_reducible assumption) | refine Below.step ?_ (by with_reducible assumption) ?_ | refine Below.alloc ?_ ?_ _ | refine Below.drew ?_ | refine below_drewN ?_ _ | refine Below.setCell ?_ ?_ _)) <;> (first | omega | exact hsz | exact Below.size (by with_reducible assumption) | (simp; done) | (simp; omega) | (simp at *; omega)))⟩
  go_enter Try.func3, Try.ntmps3
  go_wp2_with fail
  refine (szRegion_c (1048576) _ _ _ (by omega) (by omega) (by omega) _).mono ?_
  rintro e wz0 ⟨rfl, hbz0⟩
  rw [if_neg (by omega)]
  have hvz0_p0_0 : wz0.cell? ⟨w.heap.size, 0, none⟩ = some (.slice A0 n0 c0) := by
    ((repeat (first | with_reducible assumption | with_reducible refine cell_step ?_ (by with_reducible assumption) | with_reducible refine cell_drew ?_ | with_reducible refine cell_drewN ?_ _ | (refine cell_new rfl ?_; with_reducible rfl) | (refine cell_new rfl ?_; simp; done) | with_reducible refine cell_alloc ?_ _)))
  have haz0_p0_0 : ∀ o, (wz0.alloc o).cell? ⟨w.heap.size, 0, none⟩ = some (.slice A0 n0 c0) := fun o => cell_alloc hvz0_p0_0 o
  have hfl : (tilF l0 l1).length ≤ 128 := (tilF_len l0 l1)
  have e1 : ((tfOk l0 l1) == (tfOk l0 l1)) = true := by simp
  have e1' : ((tfOk l0 l1) != (tfOk l0 l1)) = false := by simp
  go_wp2_with fail
  refine Calls.mono (toRegion_c l0 _ _ _ _ ?_ (by omega)) ?_
  · ((repeat (first | with_reducible assumption | with_reducible refine Rd.alloc ?_ _ | with_reducible refine Rd.step ?_ (by with_reducible assumption) | with_reducible refine Rd.drew ?_ | with_reducible refine Rd.drewN ?_ _ | with_reducible refine RdA.alloc ?_ _ | with_reducible refine RdA.step ?_ (by with_reducible assumption) | with_reducible refine RdA.drew ?_ | with_reducible refine RdA.drewN ?_ _)))
  rintro e w1 ⟨v1, rfl, ho1, hb1⟩
  obtain ⟨A1, d1, rfl, hle1⟩ := own_form3 ho1
  have hx1 := own_rd ho1
  have hob1 := own_mono (base' := w.heap.size) ho1 (by ((repeat (first | exact Nat.le_refl _ | with_reducible assumption | with_reducible refine Nat.le_trans ?_ (Below.size (by with_reducible assumption)) | with_reducible refine Nat.le_trans ?_ (grown_size (by with_reducible assumption)) | with_reducible refine size_alloc ?_ _ | with_reducible refine size_drewN ?_ _ | with_reducible refine size_drew ?_))))
  have hv1_p0_0 : w1.cell? ⟨w.heap.size, 0, none⟩ = some (.slice A0 n0 c0) := by
    ((repeat (first | with_reducible assumption | with_reducible refine cell_step ?_ (by with_reducible assumption) | with_reducible refine cell_drew ?_ | with_reducible refine cell_drewN ?_ _ | (refine cell_new rfl ?_; with_reducible rfl) | (refine cell_new rfl ?_; simp; done) | with_reducible refine cell_alloc ?_ _)))
  have ha1_p0_0 : ∀ o, (w1.alloc o).cell? ⟨w.heap.size, 0, none⟩ = some (.slice A0 n0 c0) := fun o => cell_alloc hv1_p0_0 o
  go_wp2_with fail
  refine Calls.mono (toIntS_c l1 _ _ _ _ ?_ (by omega)) ?_
  · ((repeat (first | with_reducible assumption | with_reducible refine Rd.alloc ?_ _ | with_reducible refine Rd.step ?_ (by with_reducible assumption) | with_reducible refine Rd.drew ?_ | with_reducible refine Rd.drewN ?_ _ | with_reducible refine RdA.alloc ?_ _ | with_reducible refine RdA.step ?_ (by with_reducible assumption) | with_reducible refine RdA.drew ?_ | with_reducible refine RdA.drewN ?_ _)))
  rintro e w2 ⟨v2, rfl, ho2, hb2⟩
  obtain ⟨A2, d2, rfl, hle2⟩ := own_form3 ho2
  have hx2 := own_rd ho2
  have hob2 := own_mono (base' := w.heap.size) ho2 (by ((repeat (first | exact Nat.le_refl _ | with_reducible assumption | with_reducible refine Nat.le_trans ?_ (Below.size (by with_reducible assumption)) | with_reducible refine Nat.le_trans ?_ (grown_size (by with_reducible assumption)) | with_reducible refine size_alloc ?_ _ | with_reducible refine size_drewN ?_ _ | with_reducible refine size_drew ?_))))
  have hv2_p0_0 : w2.cell? ⟨w.heap.size, 0, none⟩ = some (.slice A0 n0 c0) := by
    ((repeat (first | with_reducible assumption | with_reducible refine cell_step ?_ (by with_reducible assumption) | with_reducible refine cell_drew ?_ | with_reducible refine cell_drewN ?_ _ | (refine cell_new rfl ?_; with_reducible rfl) | (refine cell_new rfl ?_; simp; done) | with_reducible refine cell_alloc ?_ _)))
  have ha2_p0_0 : ∀ o, (w2.alloc o).cell? ⟨w.heap.size, 0, none⟩ = some (.slice A0 n0 c0) := fun o => cell_alloc hv2_p0_0 o
  go_wp2_with fail
  refine Calls.mono (kit_rowv (spec_TilingFrom_fn l0 l1 (by have := HN0.out; omega) (by have := HN1.out; omega)) (args2 (mk_regv' ?_ ?_ HN0.out) (mk_slv' ?_ ?_ HN1.out))) ?_
  · ((repeat (first | with_reducible assumption | with_reducible refine Rd.alloc ?_ _ | with_reducible refine Rd.step ?_ (by with_reducible assumption) | with_reducible refine Rd.drew ?_ | with_reducible refine Rd.drewN ?_ _ | with_reducible refine RdA.alloc ?_ _ | with_reducible refine RdA.step ?_ (by with_reducible assumption) | with_reducible refine RdA.drew ?_ | with_reducible refine RdA.drewN ?_ _)))
  · (try assumption)
  · ((repeat (first | with_reducible assumption | with_reducible refine Rd.alloc ?_ _ | with_reducible refine Rd.step ?_ (by with_reducible assumption) | with_reducible refine Rd.drew ?_ | with_reducible refine Rd.drewN ?_ _ | with_reducible refine RdA.alloc ?_ _ | with_reducible refine RdA.step ?_ (by with_reducible assumption) | with_reducible refine RdA.drew ?_ | with_reducible refine RdA.drewN ?_ _)))
  · (try assumption)
  rintro e w3 ⟨v3_0, rfl, ho3_0, hb3⟩
  obtain ⟨A3_0, d3_0, rfl, hle3_0⟩ := own_form3 ho3_0
  have hx3_0 := own_rd ho3_0
  have hob3_0 := own_mono (base' := w.heap.size) ho3_0 (by ((repeat (first | exact Nat.le_refl _ | with_reducible assumption | with_reducible refine Nat.le_trans ?_ (Below.size (by with_reducible assumption)) | with_reducible refine Nat.le_trans ?_ (grown_size (by with_reducible assumption)) | with_reducible refine size_alloc ?_ _ | with_reducible refine size_drewN ?_ _ | with_reducible refine size_drew ?_))))
  have hv3_p0_0 : w3.cell? ⟨w.heap.size, 0, none⟩ = some (.slice A0 n0 c0) := by
    ((repeat (first | with_reducible assumption | with_reducible refine cell_step ?_ (by with_reducible assumption) | with_reducible refine cell_drew ?_ | with_reducible refine cell_drewN ?_ _ | (refine cell_new rfl ?_; with_reducible rfl) | (refine cell_new rfl ?_; simp; done) | with_reducible refine cell_alloc ?_ _)))
  have ha3_p0_0 : ∀ o, (w3.alloc o).cell? ⟨w.heap.size, 0, none⟩ = some (.slice A0 n0 c0) := fun o => cell_alloc hv3_p0_0 o
  go_wp2_with fail
  refine Calls.mono (toRegion_c l0 _ _ _ _ ?_ (by omega)) ?_
  · ((repeat (first | with_reducible assumption | with_reducible refine Rd.alloc ?_ _ | with_reducible refine Rd.step ?_ (by with_reducible assumption) | with_reducible refine Rd.drew ?_ | with_reducible refine Rd.drewN ?_ _ | with_reducible refine RdA.alloc ?_ _ | with_reducible refine RdA.step ?_ (by with_reducible assumption) | with_reducible refine RdA.drew ?_ | with_reducible refine RdA.drewN ?_ _)))
  rintro e w4 ⟨v4, rfl, ho4, hb4⟩
  obtain ⟨A4, d4, rfl, hle4⟩ := own_form3 ho4
  have hx4 := own_rd ho4
  have hob4 := own_mono (base' := w.heap.size) ho4 (by ((repeat (first | exact Nat.le_refl _ | with_reducible assumption | with_reducible refine Nat.le_trans ?_ (Below.size (by with_reducible assumption)) | with_reducible refine Nat.le_trans ?_ (grown_size (by with_reducible assumption)) | with_reducible refine size_alloc ?_ _ | with_reducible refine size_drewN ?_ _ | with_reducible refine size_drew ?_))))
  have hv4_p0_0 : w4.cell? ⟨w.heap.size, 0, none⟩ = some (.slice A0 n0 c0) := by
    ((repeat (first | with_reducible assumption | with_reducible refine cell_step ?_ (by with_reducible assumption) | with_reducible refine cell_drew ?_ | with_reducible refine cell_drewN ?_ _ | (refine cell_new rfl ?_; with_reducible rfl) | (refine cell_new rfl ?_; simp; done) | with_reducible refine cell_alloc ?_ _)))
  have ha4_p0_0 : ∀ o, (w4.alloc o).cell? ⟨w.heap.size, 0, none⟩ = some (.slice A0 n0 c0) := fun o => cell_alloc hv4_p0_0 o
  go_wp2_with fail
  refine Calls.mono (toIntS_c l1 _ _ _ _ ?_ (by omega)) ?_
  · ((repeat (first | with_reducible assumption | with_reducible refine Rd.alloc ?_ _ | with_reducible refine Rd.step ?_ (by with_reducible assumption) | with_reducible refine Rd.drew ?_ | with_reducible refine Rd.drewN ?_ _ | with_reducible refine RdA.alloc ?_ _ | with_reducible refine RdA.step ?_ (by with_reducible assumption) | with_reducible refine RdA.drew ?_ | with_reducible refine RdA.drewN ?_ _)))
  rintro e w5 ⟨v5, rfl, ho5, hb5⟩
  obtain ⟨A5, d5, rfl, hle5⟩ := own_form3 ho5
  have hx5 := own_rd ho5
  have hob5 := own_mono (base' := w.heap.size) ho5 (by ((repeat (first | exact Nat.le_refl _ | with_reducible assumption | with_reducible refine Nat.le_trans ?_ (Below.size (by with_reducible assumption)) | with_reducible refine Nat.le_trans ?_ (grown_size (by with_reducible assumption)) | with_reducible refine size_alloc ?_ _ | with_reducible refine size_drewN ?_ _ | with_reducible refine size_drew ?_))))
  have hv5_p0_0 : w5.cell? ⟨w.heap.size, 0, none⟩ = some (.slice A0 n0 c0) := by
    ((repeat (first | with_reducible assumption | with_reducible refine cell_step ?_ (by with_reducible assumption) | with_reducible refine cell_drew ?_ | with_reducible refine cell_drewN ?_ _ | (refine cell_new rfl ?_; with_reducible rfl) | (refine cell_new rfl ?_; simp; done) | with_reducible refine cell_alloc ?_ _)))
  have ha5_p0_0 : ∀ o, (w5.alloc o).cell? ⟨w.heap.size, 0, none⟩ = some (.slice A0 n0 c0) := fun o => cell_alloc hv5_p0_0 o
  have hv5_x0 : w5.cell? ⟨w4.heap.size, 0, none⟩ = some (.slice A4 n0 d4) := by
    ((repeat (first | with_reducible assumption | with_reducible refine cell_step ?_ (by with_reducible assumption) | with_reducible refine cell_drew ?_ | with_reducible refine cell_drewN ?_ _ | (refine cell_new rfl ?_; with_reducible rfl) | (refine cell_new rfl ?_; simp; done) | with_reducible refine cell_alloc ?_ _)))
  have ha5_x0 : ∀ o, (w5.alloc o).cell? ⟨w4.heap.size, 0, none⟩ = some (.slice A4 n0 d4) := fun o => cell_alloc hv5_x0 o
  go_wp2_with fail
  refine Calls.mono (kit_rowv (impl_TilingFrom_fn l0 l1 (by have := HN0.out; omega) (by have := HN1.out; omega)) (args2 (mk_regv' ?_ ?_ HN0.out) (mk_slv' ?_ ?_ HN1.out))) ?_
  · ((repeat (first | with_reducible assumption | with_reducible refine Rd.alloc ?_ _ | with_reducible refine Rd.step ?_ (by with_reducible assumption) | with_reducible refine Rd.drew ?_ | with_reducible refine Rd.drewN ?_ _ | with_reducible refine RdA.alloc ?_ _ | with_reducible refine RdA.step ?_ (by with_reducible assumption) | with_reducible refine RdA.drew ?_ | with_reducible refine RdA.drewN ?_ _)))
  · (try assumption)
  · ((repeat (first | with_reducible assumption | with_reducible refine Rd.alloc ?_ _ | with_reducible refine Rd.step ?_ (by with_reducible assumption) | with_reducible refine Rd.drew ?_ | with_reducible refine Rd.drewN ?_ _ | with_reducible refine RdA.alloc ?_ _ | with_reducible refine RdA.step ?_ (by with_reducible assumption) | with_reducible refine RdA.drew ?_ | with_reducible refine RdA.drewN ?_ _)))
  · (try assumption)
  rintro e w6 ⟨v6_0, rfl, ho6_0, hb6⟩
  obtain ⟨A6_0, d6_0, rfl, hle6_0⟩ := own_form3 ho6_0
  have hx6_0 := own_rd ho6_0
  have hob6_0 := own_mono (base' := w.heap.size) ho6_0 (by ((repeat (first | exact Nat.le_refl _ | with_reducible assumption | with_reducible refine Nat.le_trans ?_ (Below.size (by with_reducible assumption)) | with_reducible refine Nat.le_trans ?_ (grown_size (by with_reducible assumption)) | with_reducible refine size_alloc ?_ _ | with_reducible refine size_drewN ?_ _ | with_reducible refine size_drew ?_))))
  have hv6_p0_0 : w6.cell? ⟨w.heap.size, 0, none⟩ = some (.slice A0 n0 c0) := by
    ((repeat (first | with_reducible assumption | with_reducible refine cell_step ?_ (by with_reducible assumption) | with_reducible refine cell_drew ?_ | with_reducible refine cell_drewN ?_ _ | (refine cell_new rfl ?_; with_reducible rfl) | (refine cell_new rfl ?_; simp; done) | with_reducible refine cell_alloc ?_ _)))
  have ha6_p0_0 : ∀ o, (w6.alloc o).cell? ⟨w.heap.size, 0, none⟩ = some (.slice A0 n0 c0) := fun o => cell_alloc hv6_p0_0 o
  have hv6_x0 : w6.cell? ⟨w4.heap.size, 0, none⟩ = some (.slice A4 n0 d4) := by
    ((repeat (first | with_reducible assumption | with_reducible refine cell_step ?_ (by with_reducible assumption) | with_reducible refine cell_drew ?_ | with_reducible refine cell_drewN ?_ _ | (refine cell_new rfl ?_; with_reducible rfl) | (refine cell_new rfl ?_; simp; done) | with_reducible refine cell_alloc ?_ _)))
  have ha6_x0 : ∀ o, (w6.alloc o).cell? ⟨w4.heap.size, 0, none⟩ = some (.slice A4 n0 d4) := fun o => cell_alloc hv6_x0 o
  go_wp2_with fail
  refine Calls.mono (eqDominoS_c (tilF l0 l1) (tilF l0 l1) A6_0 A3_0 (tilF l0 l1).length _ (tilF l0 l1).length _ _ ?_ ?_ ?_ ?_) ?_
  · ((repeat (first | with_reducible assumption | with_reducible refine Rd.alloc ?_ _ | with_reducible refine Rd.step ?_ (by with_reducible assumption) | with_reducible refine Rd.drew ?_ | with_reducible refine Rd.drewN ?_ _ | with_reducible refine RdA.alloc ?_ _ | with_reducible refine RdA.step ?_ (by with_reducible assumption) | with_reducible refine RdA.drew ?_ | with_reducible refine RdA.drewN ?_ _)))
  · ((repeat (first | with_reducible assumption | with_reducible refine Rd.alloc ?_ _ | with_reducible refine Rd.step ?_ (by with_reducible assumption) | with_reducible refine Rd.drew ?_ | with_reducible refine Rd.drewN ?_ _ | with_reducible refine RdA.alloc ?_ _ | with_reducible refine RdA.step ?_ (by with_reducible assumption) | with_reducible refine RdA.drew ?_ | with_reducible refine RdA.drewN ?_ _)))
  · (first | omega | assumption)
  · (first | omega | assumption)
  rintro e w7 ⟨rfl, hb7⟩
  have hv7_p0_0 : w7.cell? ⟨w.heap.size, 0, none⟩ = some (.slice A0 n0 c0) := by
    ((repeat (first | with_reducible assumption | with_reducible refine cell_step ?_ (by with_reducible assumption) | with_reducible refine cell_drew ?_ | with_reducible refine cell_drewN ?_ _ | (refine cell_new rfl ?_; with_reducible rfl) | (refine cell_new rfl ?_; simp; done) | with_reducible refine cell_alloc ?_ _)))
  have ha7_p0_0 : ∀ o, (w7.alloc o).cell? ⟨w.heap.size, 0, none⟩ = some (.slice A0 n0 c0) := fun o => cell_alloc hv7_p0_0 o
  have hv7_x0 : w7.cell? ⟨w4.heap.size, 0, none⟩ = some (.slice A4 n0 d4) := by
    ((repeat (first | with_reducible assumption | with_reducible refine cell_step ?_ (by with_reducible assumption) | with_reducible refine cell_drew ?_ | with_reducible refine cell_drewN ?_ _ | (refine cell_new rfl ?_; with_reducible rfl) | (refine cell_new rfl ?_; simp; done) | with_reducible refine cell_alloc ?_ _)))
  have ha7_x0 : ∀ o, (w7.alloc o).cell? ⟨w4.heap.size, 0, none⟩ = some (.slice A4 n0 d4) := fun o => cell_alloc hv7_x0 o
  go_wp2_with fail
  go_region_held3 (fun w' => w'.cell? ⟨w.heap.size, 0, none⟩ = some (.slice A0 n0 c0) ∧ w'.cell? ⟨w4.heap.size, 0, none⟩ = some (.slice A4 n0 d4)) (go_keep) ((first | (go_at_call 8; refine Calls.mono (toRegion_c l0 _ _ _ _ ?_ (by omega)) ?_; (((repeat (first | with_reducible assumption | with_reducible refine Rd.alloc ?_ _ | with_reducible refine Rd.step ?_ (by with_reducible assumption) | with_reducible refine Rd.drew ?_ | with_reducible refine Rd.drewN ?_ _ | with_reducible refine RdA.alloc ?_ _ | with_reducible refine RdA.step ?_ (by with_reducible assumption) | with_reducible refine RdA.drew ?_ | with_reducible refine RdA.drewN ?_ _)))); rintro e w8 ⟨v8, rfl, ho8, hb8⟩; obtain ⟨A8, d8, rfl, hle8⟩ := own_form3 ho8; have hx8 := own_rd ho8; have hob8 := own_mono (base' := w.heap.size) ho8 (by ((repeat (first | exact Nat.le_refl _ | with_reducible assumption | with_reducible refine Nat.le_trans ?_ (Below.size (by with_reducible assumption)) | with_reducible refine Nat.le_trans ?_ (grown_size (by with_reducible assumption)) | with_reducible refine size_alloc ?_ _ | with_reducible refine size_drewN ?_ _ | with_reducible refine size_drew ?_)))); have hv8_p0_0 : w8.cell? ⟨w.heap.size, 0, none⟩ = some (.slice A0 n0 c0) := (by ((repeat (first | with_reducible assumption | with_reducible refine cell_step ?_ (by with_reducible assumption) | with_reducible refine cell_drew ?_ | with_reducible refine cell_drewN ?_ _ | (refine cell_new rfl ?_; with_reducible rfl) | (refine cell_new rfl ?_; simp; done) | with_reducible refine cell_alloc ?_ _)))); have ha8_p0_0 : ∀ o, (w8.alloc o).cell? ⟨w.heap.size, 0, none⟩ = some (.slice A0 n0 c0) := fun o => cell_alloc hv8_p0_0 o; have hv8_x0 : w8.cell? ⟨w4.heap.size, 0, none⟩ = some (.slice A4 n0 d4) := (by ((repeat (first | with_reducible assumption | with_reducible refine cell_step ?_ (by with_reducible assumption) | with_reducible refine cell_drew ?_ | with_reducible refine cell_drewN ?_ _ | (refine cell_new rfl ?_; with_reducible rfl) | (refine cell_new rfl ?_; simp; done) | with_reducible refine cell_alloc ?_ _)))); have ha8_x0 : ∀ o, (w8.alloc o).cell? ⟨w4.heap.size, 0, none⟩ = some (.slice A4 n0 d4) := fun o => cell_alloc hv8_x0 o) | (go_at_call 12; refine Calls.mono (eqRegion_c l0 l0 A4 A8 n0 _ n0 _ _ ?_ ?_ ?_ ?_) ?_; (((repeat (first | with_reducible assumption | with_reducible refine Rd.alloc ?_ _ | with_reducible refine Rd.step ?_ (by with_reducible assumption) | with_reducible refine Rd.drew ?_ | with_reducible refine Rd.drewN ?_ _ | with_reducible refine RdA.alloc ?_ _ | with_reducible refine RdA.step ?_ (by with_reducible assumption) | with_reducible refine RdA.drew ?_ | with_reducible refine RdA.drewN ?_ _)))); (((repeat (first | with_reducible assumption | with_reducible refine Rd.alloc ?_ _ | with_reducible refine Rd.step ?_ (by with_reducible assumption) | with_reducible refine Rd.drew ?_ | with_reducible refine Rd.drewN ?_ _ | with_reducible refine RdA.alloc ?_ _ | with_reducible refine RdA.step ?_ (by with_reducible assumption) | with_reducible refine RdA.drew ?_ | with_reducible refine RdA.drewN ?_ _)))); ((first | omega | assumption)); ((first | omega | assumption)); rintro e w9 ⟨rfl, hb9⟩; have hv9_p0_0 : w9.cell? ⟨w.heap.size, 0, none⟩ = some (.slice A0 n0 c0) := (by ((repeat (first | with_reducible assumption | with_reducible refine cell_step ?_ (by with_reducible assumption) | with_reducible refine cell_drew ?_ | with_reducible refine cell_drewN ?_ _ | (refine cell_new rfl ?_; with_reducible rfl) | (refine cell_new rfl ?_; simp; done) | with_reducible refine cell_alloc ?_ _)))); have ha9_p0_0 : ∀ o, (w9.alloc o).cell? ⟨w.heap.size, 0, none⟩ = some (.slice A0 n0 c0) := fun o => cell_alloc hv9_p0_0 o; have hv9_x0 : w9.cell? ⟨w4.heap.size, 0, none⟩ = some (.slice A4 n0 d4) := (by ((repeat (first | with_reducible assumption | with_reducible refine cell_step ?_ (by with_reducible assumption) | with_reducible refine cell_drew ?_ | with_reducible refine cell_drewN ?_ _ | (refine cell_new rfl ?_; with_reducible rfl) | (refine cell_new rfl ?_; simp; done) | with_reducible refine cell_alloc ?_ _)))); have ha9_x0 : ∀ o, (w9.alloc o).cell? ⟨w4.heap.size, 0, none⟩ = some (.slice A4 n0 d4) := fun o => cell_alloc hv9_x0 o)))
  go_wp2_with fail
  refine Calls.mono (toIntS_c l1 _ _ _ _ ?_ (by omega)) ?_
  · ((repeat (first | with_reducible assumption | with_reducible refine Rd.alloc ?_ _ | with_reducible refine Rd.step ?_ (by with_reducible assumption) | with_reducible refine Rd.drew ?_ | with_reducible refine Rd.drewN ?_ _ | with_reducible refine RdA.alloc ?_ _ | with_reducible refine RdA.step ?_ (by with_reducible assumption) | with_reducible refine RdA.drew ?_ | with_reducible refine RdA.drewN ?_ _)))
  rintro e w10 ⟨v10, rfl, ho10, hb10⟩
  obtain ⟨A10, d10, rfl, hle10⟩ := own_form3 ho10
  have hx10 := own_rd ho10
  have hob10 := own_mono (base' := w.heap.size) ho10 (by ((repeat (first | exact Nat.le_refl _ | with_reducible assumption | with_reducible refine Nat.le_trans ?_ (Below.size (by with_reducible assumption)) | with_reducible refine Nat.le_trans ?_ (grown_size (by with_reducible assumption)) | with_reducible refine size_alloc ?_ _ | with_reducible refine size_drewN ?_ _ | with_reducible refine size_drew ?_))))
  have hv10_p0_0 : w10.cell? ⟨w.heap.size, 0, none⟩ = some (.slice A0 n0 c0) := by
    ((repeat (first | with_reducible assumption | with_reducible refine cell_step ?_ (by with_reducible assumption) | with_reducible refine cell_drew ?_ | with_reducible refine cell_drewN ?_ _ | (refine cell_new rfl ?_; with_reducible rfl) | (refine cell_new rfl ?_; simp; done) | with_reducible refine cell_alloc ?_ _)))
  have ha10_p0_0 : ∀ o, (w10.alloc o).cell? ⟨w.heap.size, 0, none⟩ = some (.slice A0 n0 c0) := fun o => cell_alloc hv10_p0_0 o
  have hv10_x0 : w10.cell? ⟨w4.heap.size, 0, none⟩ = some (.slice A4 n0 d4) := by
    ((repeat (first | with_reducible assumption | with_reducible refine cell_step ?_ (by with_reducible assumption) | with_reducible refine cell_drew ?_ | with_reducible refine cell_drewN ?_ _ | (refine cell_new rfl ?_; with_reducible rfl) | (refine cell_new rfl ?_; simp; done) | with_reducible refine cell_alloc ?_ _)))
  have ha10_x0 : ∀ o, (w10.alloc o).cell? ⟨w4.heap.size, 0, none⟩ = some (.slice A4 n0 d4) := fun o => cell_alloc hv10_x0 o
  go_wp2_with fail
  refine Calls.mono (eqIntS_c l1 l1 A5 A10 n1 _ n1 _ _ ?_ ?_ ?_ ?_) ?_
  · ((repeat (first | with_reducible assumption | with_reducible refine Rd.alloc ?_ _ | with_reducible refine Rd.step ?_ (by with_reducible assumption) | with_reducible refine Rd.drew ?_ | with_reducible refine Rd.drewN ?_ _ | with_reducible refine RdA.alloc ?_ _ | with_reducible refine RdA.step ?_ (by with_reducible assumption) | with_reducible refine RdA.drew ?_ | with_reducible refine RdA.drewN ?_ _)))
  · ((repeat (first | with_reducible assumption | with_reducible refine Rd.alloc ?_ _ | with_reducible refine Rd.step ?_ (by with_reducible assumption) | with_reducible refine Rd.drew ?_ | with_reducible refine Rd.drewN ?_ _ | with_reducible refine RdA.alloc ?_ _ | with_reducible refine RdA.step ?_ (by with_reducible assumption) | with_reducible refine RdA.drew ?_ | with_reducible refine RdA.drewN ?_ _)))
  · (first | omega | assumption)
  · (first | omega | assumption)
  rintro e w11 ⟨rfl, hb11⟩
  have hv11_p0_0 : w11.cell? ⟨w.heap.size, 0, none⟩ = some (.slice A0 n0 c0) := by
    ((repeat (first | with_reducible assumption | with_reducible refine cell_step ?_ (by with_reducible assumption) | with_reducible refine cell_drew ?_ | with_reducible refine cell_drewN ?_ _ | (refine cell_new rfl ?_; with_reducible rfl) | (refine cell_new rfl ?_; simp; done) | with_reducible refine cell_alloc ?_ _)))
  have ha11_p0_0 : ∀ o, (w11.alloc o).cell? ⟨w.heap.size, 0, none⟩ = some (.slice A0 n0 c0) := fun o => cell_alloc hv11_p0_0 o
  have hv11_x0 : w11.cell? ⟨w4.heap.size, 0, none⟩ = some (.slice A4 n0 d4) := by
    ((repeat (first | with_reducible assumption | with_reducible refine cell_step ?_ (by with_reducible assumption) | with_reducible refine cell_drew ?_ | with_reducible refine cell_drewN ?_ _ | (refine cell_new rfl ?_; with_reducible rfl) | (refine cell_new rfl ?_; simp; done) | with_reducible refine cell_alloc ?_ _)))
  have ha11_x0 : ∀ o, (w11.alloc o).cell? ⟨w4.heap.size, 0, none⟩ = some (.slice A4 n0 d4) := fun o => cell_alloc hv11_x0 o
  go_wp2_with fail
  refine Calls.mono (markRegion_c l0 A4 n0 _ w.heap.size _ _ ?_ ?_ (by omega) (by omega) ?_) ?_
  · ((repeat (first | with_reducible assumption | with_reducible refine own_alloc ?_ _ | with_reducible refine own_step ?_ (by with_reducible assumption) | with_reducible refine own_drew ?_ | with_reducible refine own_drewN ?_ _)))
  · (first | omega | assumption)
  · ((repeat (first | exact Nat.le_refl _ | with_reducible assumption | with_reducible refine Nat.le_trans ?_ (Below.size (by with_reducible assumption)) | with_reducible refine Nat.le_trans ?_ (grown_size (by with_reducible assumption)) | with_reducible refine size_alloc ?_ _ | with_reducible refine size_drewN ?_ _ | with_reducible refine size_drew ?_)))
  rintro e w12 ⟨rfl, hom12, hgm12, hbm12⟩
  have hv12_p0_0 : w12.cell? ⟨w.heap.size, 0, none⟩ = some (.slice A0 n0 c0) := by
    (refine cell_grown (by ((repeat (first | with_reducible assumption | with_reducible refine cell_step ?_ (by with_reducible assumption) | with_reducible refine cell_drew ?_ | with_reducible refine cell_drewN ?_ _ | (refine cell_new rfl ?_; with_reducible rfl) | (refine cell_new rfl ?_; simp; done) | with_reducible refine cell_alloc ?_ _)))) (by assumption) (by first | (refine row_ne ho4 ?_; ((repeat (first | exact Nat.le_refl _ | with_reducible assumption | with_reducible refine Nat.le_trans ?_ (Below.size (by with_reducible assumption)) | with_reducible refine Nat.le_trans ?_ (grown_size (by with_reducible assumption)) | with_reducible refine size_alloc ?_ _ | with_reducible refine size_drewN ?_ _ | with_reducible refine size_drew ?_))); done) | (refine row_ne_cell (o := 0) (u := .slice A0 n0 c0) ho4 ?_; ((repeat (first | with_reducible assumption | with_reducible refine cell_step ?_ (by with_reducible assumption) | with_reducible refine cell_drew ?_ | with_reducible refine cell_drewN ?_ _ | (refine cell_new rfl ?_; with_reducible rfl) | (refine cell_new rfl ?_; simp; done) | with_reducible refine cell_alloc ?_ _))); done)))
  have ha12_p0_0 : ∀ o, (w12.alloc o).cell? ⟨w.heap.size, 0, none⟩ = some (.slice A0 n0 c0) := fun o => cell_alloc hv12_p0_0 o
  have hv12_x0 : w12.cell? ⟨w4.heap.size, 0, none⟩ = some (.slice A4 n0 d4) := by
    (refine cell_grown (by ((repeat (first | with_reducible assumption | with_reducible refine cell_step ?_ (by with_reducible assumption) | with_reducible refine cell_drew ?_ | with_reducible refine cell_drewN ?_ _ | (refine cell_new rfl ?_; with_reducible rfl) | (refine cell_new rfl ?_; simp; done) | with_reducible refine cell_alloc ?_ _)))) (by assumption) (by first | (refine row_ne ho4 ?_; ((repeat (first | exact Nat.le_refl _ | with_reducible assumption | with_reducible refine Nat.le_trans ?_ (Below.size (by with_reducible assumption)) | with_reducible refine Nat.le_trans ?_ (grown_size (by with_reducible assumption)) | with_reducible refine size_alloc ?_ _ | with_reducible refine size_drewN ?_ _ | with_reducible refine size_drew ?_))); done) | (refine row_ne_cell (o := 0) (u := .slice A4 n0 d4) ho4 ?_; ((repeat (first | with_reducible assumption | with_reducible refine cell_step ?_ (by with_reducible assumption) | with_reducible refine cell_drew ?_ | with_reducible refine cell_drewN ?_ _ | (refine cell_new rfl ?_; with_reducible rfl) | (refine cell_new rfl ?_; simp; done) | with_reducible refine cell_alloc ?_ _))); done)))
  have ha12_x0 : ∀ o, (w12.alloc o).cell? ⟨w4.heap.size, 0, none⟩ = some (.slice A4 n0 d4) := fun o => cell_alloc hv12_x0 o
  have hch12 : Below w.heap.size w w12 := by
    refine Below.trans ?_ (hbm12.mono (by ((repeat (first | exact Nat.le_refl _ | with_reducible assumption | with_reducible refine Nat.le_trans ?_ (Below.size (by with_reducible assumption)) | with_reducible refine Nat.le_trans ?_ (grown_size (by with_reducible assumption)) | with_reducible refine size_alloc ?_ _ | with_reducible refine size_drewN ?_ _ | with_reducible refine size_drew ?_)))))
    ((repeat (first | exact Below.refl _ _ | with_reducible assumption | refine Below.alloc0 ?_ _ | refine Below.step0 ?_ (by with_reducible assumption) | refine Below.step ?_ (by with_reducible assumption) ?_ | refine Below.alloc ?_ ?_ _ | refine Below.drew ?_ | refine below_drewN ?_ _ | refine Below.setCell ?_ ?_ _)) <;> (first | omega | exact hsz | exact Below.size (by with_reducible assumption) | (simp; done) | (simp; omega) | (simp at *; omega)))
  have ho12_x5 := World.ownsRow.kept (base := w.heap.size) (e := 3) (size := 1) (v := .slice A5 n1 d5) (n := n1) (xs := isl l1) (by ((repeat (first | with_reducible assumption | with_reducible refine own_alloc ?_ _ | with_reducible refine own_step ?_ (by with_reducible assumption) | with_reducible refine own_drew ?_ | with_reducible refine own_drewN ?_ _)))) hgm12 (by first | (refine own_disj ho5 ho4 ?_; ((repeat (first | exact Nat.le_refl _ | with_reducible assumption | with_reducible refine Nat.le_trans ?_ (Below.size (by with_reducible assumption)) | with_reducible refine Nat.le_trans ?_ (grown_size (by with_reducible assumption)) | with_reducible refine size_alloc ?_ _ | with_reducible refine size_drewN ?_ _ | with_reducible refine size_drew ?_))); done) | (refine own_disj' ho5 ho4 ?_; ((repeat (first | exact Nat.le_refl _ | with_reducible assumption | with_reducible refine Nat.le_trans ?_ (Below.size (by with_reducible assumption)) | with_reducible refine Nat.le_trans ?_ (grown_size (by with_reducible assumption)) | with_reducible refine size_alloc ?_ _ | with_reducible refine size_drewN ?_ _ | with_reducible refine size_drew ?_))); done))
  have hx12_x5 := own_rd ho12_x5
  have ho12_w0 := World.ownsRow.kept (base := w.heap.size) (e := 48) (size := 3) (v := .slice A3_0 (tilF l0 l1).length d3_0) (n := (tilF l0 l1).length) (xs := dsl (tilF l0 l1)) (by ((repeat (first | with_reducible assumption | with_reducible refine own_alloc ?_ _ | with_reducible refine own_step ?_ (by with_reducible assumption) | with_reducible refine own_drew ?_ | with_reducible refine own_drewN ?_ _)))) hgm12 (by first | (refine own_disj ho3_0 ho4 ?_; ((repeat (first | exact Nat.le_refl _ | with_reducible assumption | with_reducible refine Nat.le_trans ?_ (Below.size (by with_reducible assumption)) | with_reducible refine Nat.le_trans ?_ (grown_size (by with_reducible assumption)) | with_reducible refine size_alloc ?_ _ | with_reducible refine size_drewN ?_ _ | with_reducible refine size_drew ?_))); done) | (refine own_disj' ho3_0 ho4 ?_; ((repeat (first | exact Nat.le_refl _ | with_reducible assumption | with_reducible refine Nat.le_trans ?_ (Below.size (by with_reducible assumption)) | with_reducible refine Nat.le_trans ?_ (grown_size (by with_reducible assumption)) | with_reducible refine size_alloc ?_ _ | with_reducible refine size_drewN ?_ _ | with_reducible refine size_drew ?_))); done))
  have hx12_w0 := own_rd ho12_w0
  have ho12_g0 := World.ownsRow.kept (base := w.heap.size) (e := 48) (size := 3) (v := .slice A6_0 (tilF l0 l1).length d6_0) (n := (tilF l0 l1).length) (xs := dsl (tilF l0 l1)) (by ((repeat (first | with_reducible assumption | with_reducible refine own_alloc ?_ _ | with_reducible refine own_step ?_ (by with_reducible assumption) | with_reducible refine own_drew ?_ | with_reducible refine own_drewN ?_ _)))) hgm12 (by first | (refine own_disj ho6_0 ho4 ?_; ((repeat (first | exact Nat.le_refl _ | with_reducible assumption | with_reducible refine Nat.le_trans ?_ (Below.size (by with_reducible assumption)) | with_reducible refine Nat.le_trans ?_ (grown_size (by with_reducible assumption)) | with_reducible refine size_alloc ?_ _ | with_reducible refine size_drewN ?_ _ | with_reducible refine size_drew ?_))); done) | (refine own_disj' ho6_0 ho4 ?_; ((repeat (first | exact Nat.le_refl _ | with_reducible assumption | with_reducible refine Nat.le_trans ?_ (Below.size (by with_reducible assumption)) | with_reducible refine Nat.le_trans ?_ (grown_size (by with_reducible assumption)) | with_reducible refine size_alloc ?_ _ | with_reducible refine size_drewN ?_ _ | with_reducible refine size_drew ?_))); done))
  have hx12_g0 := own_rd ho12_g0
  have hx12_m := own_rd hom12
  have hr0_12 := hr0.below hch12 (Nat.le_refl _)
  have hr1_12 := hr1.below hch12 (Nat.le_refl _)
  go_wp2_with fail
  refine Calls.mono (markIntS_c l1 A5 n1 _ w.heap.size _ _ ?_ ?_ (by omega) (by omega)) ?_
  · ((repeat (first | with_reducible assumption | with_reducible refine own_alloc ?_ _ | with_reducible refine own_step ?_ (by with_reducible assumption) | with_reducible refine own_drew ?_ | with_reducible refine own_drewN ?_ _)))
  · (first | omega | assumption)
  rintro e w13 ⟨rfl, hom13, hgm13, hbm13⟩
  have hv13_p0_0 : w13.cell? ⟨w.heap.size, 0, none⟩ = some (.slice A0 n0 c0) := by
    (refine cell_grown (by ((repeat (first | with_reducible assumption | with_reducible refine cell_step ?_ (by with_reducible assumption) | with_reducible refine cell_drew ?_ | with_reducible refine cell_drewN ?_ _ | (refine cell_new rfl ?_; with_reducible rfl) | (refine cell_new rfl ?_; simp; done) | with_reducible refine cell_alloc ?_ _)))) (by assumption) (by first | (refine row_ne ho5 ?_; ((repeat (first | exact Nat.le_refl _ | with_reducible assumption | with_reducible refine Nat.le_trans ?_ (Below.size (by with_reducible assumption)) | with_reducible refine Nat.le_trans ?_ (grown_size (by with_reducible assumption)) | with_reducible refine size_alloc ?_ _ | with_reducible refine size_drewN ?_ _ | with_reducible refine size_drew ?_))); done) | (refine row_ne_cell (o := 0) (u := .slice A0 n0 c0) ho5 ?_; ((repeat (first | with_reducible assumption | with_reducible refine cell_step ?_ (by with_reducible assumption) | with_reducible refine cell_drew ?_ | with_reducible refine cell_drewN ?_ _ | (refine cell_new rfl ?_; with_reducible rfl) | (refine cell_new rfl ?_; simp; done) | with_reducible refine cell_alloc ?_ _))); done)))
  have ha13_p0_0 : ∀ o, (w13.alloc o).cell? ⟨w.heap.size, 0, none⟩ = some (.slice A0 n0 c0) := fun o => cell_alloc hv13_p0_0 o
  have hv13_x0 : w13.cell? ⟨w4.heap.size, 0, none⟩ = some (.slice A4 n0 d4) := by
    (refine cell_grown (by ((repeat (first | with_reducible assumption | with_reducible refine cell_step ?_ (by with_reducible assumption) | with_reducible refine cell_drew ?_ | with_reducible refine cell_drewN ?_ _ | (refine cell_new rfl ?_; with_reducible rfl) | (refine cell_new rfl ?_; simp; done) | with_reducible refine cell_alloc ?_ _)))) (by assumption) (by first | (refine row_ne ho5 ?_; ((repeat (first | exact Nat.le_refl _ | with_reducible assumption | with_reducible refine Nat.le_trans ?_ (Below.size (by with_reducible assumption)) | with_reducible refine Nat.le_trans ?_ (grown_size (by with_reducible assumption)) | with_reducible refine size_alloc ?_ _ | with_reducible refine size_drewN ?_ _ | with_reducible refine size_drew ?_))); done) | (refine row_ne_cell (o := 0) (u := .slice A4 n0 d4) ho5 ?_; ((repeat (first | with_reducible assumption | with_reducible refine cell_step ?_ (by with_reducible assumption) | with_reducible refine cell_drew ?_ | with_reducible refine cell_drewN ?_ _ | (refine cell_new rfl ?_; with_reducible rfl) | (refine cell_new rfl ?_; simp; done) | with_reducible refine cell_alloc ?_ _))); done)))
  have ha13_x0 : ∀ o, (w13.alloc o).cell? ⟨w4.heap.size, 0, none⟩ = some (.slice A4 n0 d4) := fun o => cell_alloc hv13_x0 o
  have hch13 : Below w.heap.size w w13 := by
    refine Below.trans ?_ (hbm13.mono (by ((repeat (first | exact Nat.le_refl _ | with_reducible assumption | with_reducible refine Nat.le_trans ?_ (Below.size (by with_reducible assumption)) | with_reducible refine Nat.le_trans ?_ (grown_size (by with_reducible assumption)) | with_reducible refine size_alloc ?_ _ | with_reducible refine size_drewN ?_ _ | with_reducible refine size_drew ?_)))))
    ((repeat (first | exact Below.refl _ _ | with_reducible assumption | refine Below.alloc0 ?_ _ | refine Below.step0 ?_ (by with_reducible assumption) | refine Below.step ?_ (by with_reducible assumption) ?_ | refine Below.alloc ?_ ?_ _ | refine Below.drew ?_ | refine below_drewN ?_ _ | refine Below.setCell ?_ ?_ _)) <;> (first | omega | exact hsz | exact Below.size (by with_reducible assumption) | (simp; done) | (simp; omega) | (simp at *; omega)))
  have ho13_w0 := World.ownsRow.kept (base := w.heap.size) (e := 48) (size := 3) (v := .slice A3_0 (tilF l0 l1).length d3_0) (n := (tilF l0 l1).length) (xs := dsl (tilF l0 l1)) (by ((repeat (first | with_reducible assumption | with_reducible refine own_alloc ?_ _ | with_reducible refine own_step ?_ (by with_reducible assumption) | with_reducible refine own_drew ?_ | with_reducible refine own_drewN ?_ _)))) hgm13 (by first | (refine own_disj ho3_0 ho5 ?_; ((repeat (first | exact Nat.le_refl _ | with_reducible assumption | with_reducible refine Nat.le_trans ?_ (Below.size (by with_reducible assumption)) | with_reducible refine Nat.le_trans ?_ (grown_size (by with_reducible assumption)) | with_reducible refine size_alloc ?_ _ | with_reducible refine size_drewN ?_ _ | with_reducible refine size_drew ?_))); done) | (refine own_disj' ho3_0 ho5 ?_; ((repeat (first | exact Nat.le_refl _ | with_reducible assumption | with_reducible refine Nat.le_trans ?_ (Below.size (by with_reducible assumption)) | with_reducible refine Nat.le_trans ?_ (grown_size (by with_reducible assumption)) | with_reducible refine size_alloc ?_ _ | with_reducible refine size_drewN ?_ _ | with_reducible refine size_drew ?_))); done))
  have hx13_w0 := own_rd ho13_w0
  have ho13_g0 := World.ownsRow.kept (base := w.heap.size) (e := 48) (size := 3) (v := .slice A6_0 (tilF l0 l1).length d6_0) (n := (tilF l0 l1).length) (xs := dsl (tilF l0 l1)) (by ((repeat (first | with_reducible assumption | with_reducible refine own_alloc ?_ _ | with_reducible refine own_step ?_ (by with_reducible assumption) | with_reducible refine own_drew ?_ | with_reducible refine own_drewN ?_ _)))) hgm13 (by first | (refine own_disj ho6_0 ho5 ?_; ((repeat (first | exact Nat.le_refl _ | with_reducible assumption | with_reducible refine Nat.le_trans ?_ (Below.size (by with_reducible assumption)) | with_reducible refine Nat.le_trans ?_ (grown_size (by with_reducible assumption)) | with_reducible refine size_alloc ?_ _ | with_reducible refine size_drewN ?_ _ | with_reducible refine size_drew ?_))); done) | (refine own_disj' ho6_0 ho5 ?_; ((repeat (first | exact Nat.le_refl _ | with_reducible assumption | with_reducible refine Nat.le_trans ?_ (Below.size (by with_reducible assumption)) | with_reducible refine Nat.le_trans ?_ (grown_size (by with_reducible assumption)) | with_reducible refine size_alloc ?_ _ | with_reducible refine size_drewN ?_ _ | with_reducible refine size_drew ?_))); done))
  have hx13_g0 := own_rd ho13_g0
  have hx13_m := own_rd hom13
  have hr0_13 := hr0.below hch13 (Nat.le_refl _)
  have hr1_13 := hr1.below hch13 (Nat.le_refl _)
  go_wp2_with fail
  refine Calls.mono (eqDominoS_c (tilF l0 l1) (tilF l0 l1) A6_0 A3_0 (tilF l0 l1).length _ (tilF l0 l1).length _ _ ?_ ?_ ?_ ?_) ?_
  · ((repeat (first | with_reducible assumption | with_reducible refine Rd.alloc ?_ _ | with_reducible refine Rd.step ?_ (by with_reducible assumption) | with_reducible refine Rd.drew ?_ | with_reducible refine Rd.drewN ?_ _ | with_reducible refine RdA.alloc ?_ _ | with_reducible refine RdA.step ?_ (by with_reducible assumption) | with_reducible refine RdA.drew ?_ | with_reducible refine RdA.drewN ?_ _)))
  · ((repeat (first | with_reducible assumption | with_reducible refine Rd.alloc ?_ _ | with_reducible refine Rd.step ?_ (by with_reducible assumption) | with_reducible refine Rd.drew ?_ | with_reducible refine Rd.drewN ?_ _ | with_reducible refine RdA.alloc ?_ _ | with_reducible refine RdA.step ?_ (by with_reducible assumption) | with_reducible refine RdA.drew ?_ | with_reducible refine RdA.drewN ?_ _)))
  · (first | omega | assumption)
  · (first | omega | assumption)
  rintro e w14 ⟨rfl, hb14⟩
  have hv14_p0_0 : w14.cell? ⟨w.heap.size, 0, none⟩ = some (.slice A0 n0 c0) := by
    ((repeat (first | with_reducible assumption | with_reducible refine cell_step ?_ (by with_reducible assumption) | with_reducible refine cell_drew ?_ | with_reducible refine cell_drewN ?_ _ | (refine cell_new rfl ?_; with_reducible rfl) | (refine cell_new rfl ?_; simp; done) | with_reducible refine cell_alloc ?_ _)))
  have ha14_p0_0 : ∀ o, (w14.alloc o).cell? ⟨w.heap.size, 0, none⟩ = some (.slice A0 n0 c0) := fun o => cell_alloc hv14_p0_0 o
  have hv14_x0 : w14.cell? ⟨w4.heap.size, 0, none⟩ = some (.slice A4 n0 d4) := by
    ((repeat (first | with_reducible assumption | with_reducible refine cell_step ?_ (by with_reducible assumption) | with_reducible refine cell_drew ?_ | with_reducible refine cell_drewN ?_ _ | (refine cell_new rfl ?_; with_reducible rfl) | (refine cell_new rfl ?_; simp; done) | with_reducible refine cell_alloc ?_ _)))
  have ha14_x0 : ∀ o, (w14.alloc o).cell? ⟨w4.heap.size, 0, none⟩ = some (.slice A4 n0 d4) := fun o => cell_alloc hv14_x0 o
  go_wp2_with fail
  refine Calls.mono (markDominoS_c (tilF l0 l1) A6_0 (tilF l0 l1).length _ w.heap.size _ _ ?_ ?_ (by omega) (by omega)) ?_
  · ((repeat (first | with_reducible assumption | with_reducible refine own_alloc ?_ _ | with_reducible refine own_step ?_ (by with_reducible assumption) | with_reducible refine own_drew ?_ | with_reducible refine own_drewN ?_ _)))
  · (first | omega | assumption)
  rintro e w15 ⟨rfl, hom15, hgm15, hbm15⟩
  have hv15_p0_0 : w15.cell? ⟨w.heap.size, 0, none⟩ = some (.slice A0 n0 c0) := by
    (refine cell_grown (by ((repeat (first | with_reducible assumption | with_reducible refine cell_step ?_ (by with_reducible assumption) | with_reducible refine cell_drew ?_ | with_reducible refine cell_drewN ?_ _ | (refine cell_new rfl ?_; with_reducible rfl) | (refine cell_new rfl ?_; simp; done) | with_reducible refine cell_alloc ?_ _)))) (by assumption) (by first | (refine row_ne ho6_0 ?_; ((repeat (first | exact Nat.le_refl _ | with_reducible assumption | with_reducible refine Nat.le_trans ?_ (Below.size (by with_reducible assumption)) | with_reducible refine Nat.le_trans ?_ (grown_size (by with_reducible assumption)) | with_reducible refine size_alloc ?_ _ | with_reducible refine size_drewN ?_ _ | with_reducible refine size_drew ?_))); done) | (refine row_ne_cell (o := 0) (u := .slice A0 n0 c0) ho6_0 ?_; ((repeat (first | with_reducible assumption | with_reducible refine cell_step ?_ (by with_reducible assumption) | with_reducible refine cell_drew ?_ | with_reducible refine cell_drewN ?_ _ | (refine cell_new rfl ?_; with_reducible rfl) | (refine cell_new rfl ?_; simp; done) | with_reducible refine cell_alloc ?_ _))); done)))
  have ha15_p0_0 : ∀ o, (w15.alloc o).cell? ⟨w.heap.size, 0, none⟩ = some (.slice A0 n0 c0) := fun o => cell_alloc hv15_p0_0 o
  have hv15_x0 : w15.cell? ⟨w4.heap.size, 0, none⟩ = some (.slice A4 n0 d4) := by
    (refine cell_grown (by ((repeat (first | with_reducible assumption | with_reducible refine cell_step ?_ (by with_reducible assumption) | with_reducible refine cell_drew ?_ | with_reducible refine cell_drewN ?_ _ | (refine cell_new rfl ?_; with_reducible rfl) | (refine cell_new rfl ?_; simp; done) | with_reducible refine cell_alloc ?_ _)))) (by assumption) (by first | (refine row_ne ho6_0 ?_; ((repeat (first | exact Nat.le_refl _ | with_reducible assumption | with_reducible refine Nat.le_trans ?_ (Below.size (by with_reducible assumption)) | with_reducible refine Nat.le_trans ?_ (grown_size (by with_reducible assumption)) | with_reducible refine size_alloc ?_ _ | with_reducible refine size_drewN ?_ _ | with_reducible refine size_drew ?_))); done) | (refine row_ne_cell (o := 0) (u := .slice A4 n0 d4) ho6_0 ?_; ((repeat (first | with_reducible assumption | with_reducible refine cell_step ?_ (by with_reducible assumption) | with_reducible refine cell_drew ?_ | with_reducible refine cell_drewN ?_ _ | (refine cell_new rfl ?_; with_reducible rfl) | (refine cell_new rfl ?_; simp; done) | with_reducible refine cell_alloc ?_ _))); done)))
  have ha15_x0 : ∀ o, (w15.alloc o).cell? ⟨w4.heap.size, 0, none⟩ = some (.slice A4 n0 d4) := fun o => cell_alloc hv15_x0 o
  have hch15 : Below w.heap.size w w15 := by
    refine Below.trans ?_ (hbm15.mono (by ((repeat (first | exact Nat.le_refl _ | with_reducible assumption | with_reducible refine Nat.le_trans ?_ (Below.size (by with_reducible assumption)) | with_reducible refine Nat.le_trans ?_ (grown_size (by with_reducible assumption)) | with_reducible refine size_alloc ?_ _ | with_reducible refine size_drewN ?_ _ | with_reducible refine size_drew ?_)))))
    ((repeat (first | exact Below.refl _ _ | with_reducible assumption | refine Below.alloc0 ?_ _ | refine Below.step0 ?_ (by with_reducible assumption) | refine Below.step ?_ (by with_reducible assumption) ?_ | refine Below.alloc ?_ ?_ _ | refine Below.drew ?_ | refine below_drewN ?_ _ | refine Below.setCell ?_ ?_ _)) <;> (first | omega | exact hsz | exact Below.size (by with_reducible assumption) | (simp; done) | (simp; omega) | (simp at *; omega)))
  have ho15_w0 := World.ownsRow.kept (base := w.heap.size) (e := 48) (size := 3) (v := .slice A3_0 (tilF l0 l1).length d3_0) (n := (tilF l0 l1).length) (xs := dsl (tilF l0 l1)) (by ((repeat (first | with_reducible assumption | with_reducible refine own_alloc ?_ _ | with_reducible refine own_step ?_ (by with_reducible assumption) | with_reducible refine own_drew ?_ | with_reducible refine own_drewN ?_ _)))) hgm15 (by first | (refine own_disj ho3_0 ho6_0 ?_; ((repeat (first | exact Nat.le_refl _ | with_reducible assumption | with_reducible refine Nat.le_trans ?_ (Below.size (by with_reducible assumption)) | with_reducible refine Nat.le_trans ?_ (grown_size (by with_reducible assumption)) | with_reducible refine size_alloc ?_ _ | with_reducible refine size_drewN ?_ _ | with_reducible refine size_drew ?_))); done) | (refine own_disj' ho3_0 ho6_0 ?_; ((repeat (first | exact Nat.le_refl _ | with_reducible assumption | with_reducible refine Nat.le_trans ?_ (Below.size (by with_reducible assumption)) | with_reducible refine Nat.le_trans ?_ (grown_size (by with_reducible assumption)) | with_reducible refine size_alloc ?_ _ | with_reducible refine size_drewN ?_ _ | with_reducible refine size_drew ?_))); done))
  have hx15_w0 := own_rd ho15_w0
  have hx15_m := own_rd hom15
  have hr0_15 := hr0.below hch15 (Nat.le_refl _)
  have hr1_15 := hr1.below hch15 (Nat.le_refl _)
  go_wp2_with fail
  refine Calls.mono (heldDominoS_c A6_0 (tilF l0 l1).length _ _ _ ?_ ?_ (by omega) (by omega)) ?_
  · ((repeat (first | with_reducible assumption | with_reducible refine Rd.alloc ?_ _ | with_reducible refine Rd.step ?_ (by with_reducible assumption) | with_reducible refine Rd.drew ?_ | with_reducible refine Rd.drewN ?_ _ | with_reducible refine RdA.alloc ?_ _ | with_reducible refine RdA.step ?_ (by with_reducible assumption) | with_reducible refine RdA.drew ?_ | with_reducible refine RdA.drewN ?_ _)))
  · (first | omega | assumption)
  rintro e w16 ⟨rfl, hb16⟩
  have hv16_p0_0 : w16.cell? ⟨w.heap.size, 0, none⟩ = some (.slice A0 n0 c0) := by
    ((repeat (first | with_reducible assumption | with_reducible refine cell_step ?_ (by with_reducible assumption) | with_reducible refine cell_drew ?_ | with_reducible refine cell_drewN ?_ _ | (refine cell_new rfl ?_; with_reducible rfl) | (refine cell_new rfl ?_; simp; done) | with_reducible refine cell_alloc ?_ _)))
  have ha16_p0_0 : ∀ o, (w16.alloc o).cell? ⟨w.heap.size, 0, none⟩ = some (.slice A0 n0 c0) := fun o => cell_alloc hv16_p0_0 o
  have hv16_x0 : w16.cell? ⟨w4.heap.size, 0, none⟩ = some (.slice A4 n0 d4) := by
    ((repeat (first | with_reducible assumption | with_reducible refine cell_step ?_ (by with_reducible assumption) | with_reducible refine cell_drew ?_ | with_reducible refine cell_drewN ?_ _ | (refine cell_new rfl ?_; with_reducible rfl) | (refine cell_new rfl ?_; simp; done) | with_reducible refine cell_alloc ?_ _)))
  have ha16_x0 : ∀ o, (w16.alloc o).cell? ⟨w4.heap.size, 0, none⟩ = some (.slice A4 n0 d4) := fun o => cell_alloc hv16_x0 o
  go_wp2_with fail
  refine Calls.mono (toRegion_c l0 _ _ _ _ ?_ (by omega)) ?_
  · ((repeat (first | with_reducible assumption | with_reducible refine Rd.alloc ?_ _ | with_reducible refine Rd.step ?_ (by with_reducible assumption) | with_reducible refine Rd.drew ?_ | with_reducible refine Rd.drewN ?_ _ | with_reducible refine RdA.alloc ?_ _ | with_reducible refine RdA.step ?_ (by with_reducible assumption) | with_reducible refine RdA.drew ?_ | with_reducible refine RdA.drewN ?_ _)))
  rintro e w17 ⟨v17, rfl, ho17, hb17⟩
  obtain ⟨A17, d17, rfl, hle17⟩ := own_form3 ho17
  have hx17 := own_rd ho17
  have hob17 := own_mono (base' := w.heap.size) ho17 (by ((repeat (first | exact Nat.le_refl _ | with_reducible assumption | with_reducible refine Nat.le_trans ?_ (Below.size (by with_reducible assumption)) | with_reducible refine Nat.le_trans ?_ (grown_size (by with_reducible assumption)) | with_reducible refine size_alloc ?_ _ | with_reducible refine size_drewN ?_ _ | with_reducible refine size_drew ?_))))
  have hv17_p0_0 : w17.cell? ⟨w.heap.size, 0, none⟩ = some (.slice A0 n0 c0) := by
    ((repeat (first | with_reducible assumption | with_reducible refine cell_step ?_ (by with_reducible assumption) | with_reducible refine cell_drew ?_ | with_reducible refine cell_drewN ?_ _ | (refine cell_new rfl ?_; with_reducible rfl) | (refine cell_new rfl ?_; simp; done) | with_reducible refine cell_alloc ?_ _)))
  have ha17_p0_0 : ∀ o, (w17.alloc o).cell? ⟨w.heap.size, 0, none⟩ = some (.slice A0 n0 c0) := fun o => cell_alloc hv17_p0_0 o
  have hv17_x0 : w17.cell? ⟨w4.heap.size, 0, none⟩ = some (.slice A4 n0 d4) := by
    ((repeat (first | with_reducible assumption | with_reducible refine cell_step ?_ (by with_reducible assumption) | with_reducible refine cell_drew ?_ | with_reducible refine cell_drewN ?_ _ | (refine cell_new rfl ?_; with_reducible rfl) | (refine cell_new rfl ?_; simp; done) | with_reducible refine cell_alloc ?_ _)))
  have ha17_x0 : ∀ o, (w17.alloc o).cell? ⟨w4.heap.size, 0, none⟩ = some (.slice A4 n0 d4) := fun o => cell_alloc hv17_x0 o
  go_wp2_with fail
  refine Calls.mono (toIntS_c l1 _ _ _ _ ?_ (by omega)) ?_
  · ((repeat (first | with_reducible assumption | with_reducible refine Rd.alloc ?_ _ | with_reducible refine Rd.step ?_ (by with_reducible assumption) | with_reducible refine Rd.drew ?_ | with_reducible refine Rd.drewN ?_ _ | with_reducible refine RdA.alloc ?_ _ | with_reducible refine RdA.step ?_ (by with_reducible assumption) | with_reducible refine RdA.drew ?_ | with_reducible refine RdA.drewN ?_ _)))
  rintro e w18 ⟨v18, rfl, ho18, hb18⟩
  obtain ⟨A18, d18, rfl, hle18⟩ := own_form3 ho18
  have hx18 := own_rd ho18
  have hob18 := own_mono (base' := w.heap.size) ho18 (by ((repeat (first | exact Nat.le_refl _ | with_reducible assumption | with_reducible refine Nat.le_trans ?_ (Below.size (by with_reducible assumption)) | with_reducible refine Nat.le_trans ?_ (grown_size (by with_reducible assumption)) | with_reducible refine size_alloc ?_ _ | with_reducible refine size_drewN ?_ _ | with_reducible refine size_drew ?_))))
  have hv18_p0_0 : w18.cell? ⟨w.heap.size, 0, none⟩ = some (.slice A0 n0 c0) := by
    ((repeat (first | with_reducible assumption | with_reducible refine cell_step ?_ (by with_reducible assumption) | with_reducible refine cell_drew ?_ | with_reducible refine cell_drewN ?_ _ | (refine cell_new rfl ?_; with_reducible rfl) | (refine cell_new rfl ?_; simp; done) | with_reducible refine cell_alloc ?_ _)))
  have ha18_p0_0 : ∀ o, (w18.alloc o).cell? ⟨w.heap.size, 0, none⟩ = some (.slice A0 n0 c0) := fun o => cell_alloc hv18_p0_0 o
  have hv18_x0 : w18.cell? ⟨w4.heap.size, 0, none⟩ = some (.slice A4 n0 d4) := by
    ((repeat (first | with_reducible assumption | with_reducible refine cell_step ?_ (by with_reducible assumption) | with_reducible refine cell_drew ?_ | with_reducible refine cell_drewN ?_ _ | (refine cell_new rfl ?_; with_reducible rfl) | (refine cell_new rfl ?_; simp; done) | with_reducible refine cell_alloc ?_ _)))
  have ha18_x0 : ∀ o, (w18.alloc o).cell? ⟨w4.heap.size, 0, none⟩ = some (.slice A4 n0 d4) := fun o => cell_alloc hv18_x0 o
  go_wp2_with fail
  refine Calls.mono (kit_rowv (impl_TilingFrom_fn l0 l1 (by have := HN0.out; omega) (by have := HN1.out; omega)) (args2 (mk_regv' ?_ ?_ HN0.out) (mk_slv' ?_ ?_ HN1.out))) ?_
  · ((repeat (first | with_reducible assumption | with_reducible refine Rd.alloc ?_ _ | with_reducible refine Rd.step ?_ (by with_reducible assumption) | with_reducible refine Rd.drew ?_ | with_reducible refine Rd.drewN ?_ _ | with_reducible refine RdA.alloc ?_ _ | with_reducible refine RdA.step ?_ (by with_reducible assumption) | with_reducible refine RdA.drew ?_ | with_reducible refine RdA.drewN ?_ _)))
  · (try assumption)
  · ((repeat (first | with_reducible assumption | with_reducible refine Rd.alloc ?_ _ | with_reducible refine Rd.step ?_ (by with_reducible assumption) | with_reducible refine Rd.drew ?_ | with_reducible refine Rd.drewN ?_ _ | with_reducible refine RdA.alloc ?_ _ | with_reducible refine RdA.step ?_ (by with_reducible assumption) | with_reducible refine RdA.drew ?_ | with_reducible refine RdA.drewN ?_ _)))
  · (try assumption)
  rintro e w19 ⟨v19_0, rfl, ho19_0, hb19⟩
  obtain ⟨A19_0, d19_0, rfl, hle19_0⟩ := own_form3 ho19_0
  have hx19_0 := own_rd ho19_0
  have hob19_0 := own_mono (base' := w.heap.size) ho19_0 (by ((repeat (first | exact Nat.le_refl _ | with_reducible assumption | with_reducible refine Nat.le_trans ?_ (Below.size (by with_reducible assumption)) | with_reducible refine Nat.le_trans ?_ (grown_size (by with_reducible assumption)) | with_reducible refine size_alloc ?_ _ | with_reducible refine size_drewN ?_ _ | with_reducible refine size_drew ?_))))
  have hv19_p0_0 : w19.cell? ⟨w.heap.size, 0, none⟩ = some (.slice A0 n0 c0) := by
    ((repeat (first | with_reducible assumption | with_reducible refine cell_step ?_ (by with_reducible assumption) | with_reducible refine cell_drew ?_ | with_reducible refine cell_drewN ?_ _ | (refine cell_new rfl ?_; with_reducible rfl) | (refine cell_new rfl ?_; simp; done) | with_reducible refine cell_alloc ?_ _)))
  have ha19_p0_0 : ∀ o, (w19.alloc o).cell? ⟨w.heap.size, 0, none⟩ = some (.slice A0 n0 c0) := fun o => cell_alloc hv19_p0_0 o
  have hv19_x0 : w19.cell? ⟨w4.heap.size, 0, none⟩ = some (.slice A4 n0 d4) := by
    ((repeat (first | with_reducible assumption | with_reducible refine cell_step ?_ (by with_reducible assumption) | with_reducible refine cell_drew ?_ | with_reducible refine cell_drewN ?_ _ | (refine cell_new rfl ?_; with_reducible rfl) | (refine cell_new rfl ?_; simp; done) | with_reducible refine cell_alloc ?_ _)))
  have ha19_x0 : ∀ o, (w19.alloc o).cell? ⟨w4.heap.size, 0, none⟩ = some (.slice A4 n0 d4) := fun o => cell_alloc hv19_x0 o
  go_wp2_with fail
  refine Calls.mono (eqDominoS_c (tilF l0 l1) (tilF l0 l1) A19_0 A3_0 (tilF l0 l1).length _ (tilF l0 l1).length _ _ ?_ ?_ ?_ ?_) ?_
  · ((repeat (first | with_reducible assumption | with_reducible refine Rd.alloc ?_ _ | with_reducible refine Rd.step ?_ (by with_reducible assumption) | with_reducible refine Rd.drew ?_ | with_reducible refine Rd.drewN ?_ _ | with_reducible refine RdA.alloc ?_ _ | with_reducible refine RdA.step ?_ (by with_reducible assumption) | with_reducible refine RdA.drew ?_ | with_reducible refine RdA.drewN ?_ _)))
  · ((repeat (first | with_reducible assumption | with_reducible refine Rd.alloc ?_ _ | with_reducible refine Rd.step ?_ (by with_reducible assumption) | with_reducible refine Rd.drew ?_ | with_reducible refine Rd.drewN ?_ _ | with_reducible refine RdA.alloc ?_ _ | with_reducible refine RdA.step ?_ (by with_reducible assumption) | with_reducible refine RdA.drew ?_ | with_reducible refine RdA.drewN ?_ _)))
  · (first | omega | assumption)
  · (first | omega | assumption)
  rintro e w20 ⟨rfl, hb20⟩
  have hv20_p0_0 : w20.cell? ⟨w.heap.size, 0, none⟩ = some (.slice A0 n0 c0) := by
    ((repeat (first | with_reducible assumption | with_reducible refine cell_step ?_ (by with_reducible assumption) | with_reducible refine cell_drew ?_ | with_reducible refine cell_drewN ?_ _ | (refine cell_new rfl ?_; with_reducible rfl) | (refine cell_new rfl ?_; simp; done) | with_reducible refine cell_alloc ?_ _)))
  have ha20_p0_0 : ∀ o, (w20.alloc o).cell? ⟨w.heap.size, 0, none⟩ = some (.slice A0 n0 c0) := fun o => cell_alloc hv20_p0_0 o
  have hv20_x0 : w20.cell? ⟨w4.heap.size, 0, none⟩ = some (.slice A4 n0 d4) := by
    ((repeat (first | with_reducible assumption | with_reducible refine cell_step ?_ (by with_reducible assumption) | with_reducible refine cell_drew ?_ | with_reducible refine cell_drewN ?_ _ | (refine cell_new rfl ?_; with_reducible rfl) | (refine cell_new rfl ?_; simp; done) | with_reducible refine cell_alloc ?_ _)))
  have ha20_x0 : ∀ o, (w20.alloc o).cell? ⟨w4.heap.size, 0, none⟩ = some (.slice A4 n0 d4) := fun o => cell_alloc hv20_x0 o
  go_wp2_with fail
  refine Calls.mono (heldDominoS_c A6_0 (tilF l0 l1).length _ _ _ ?_ ?_ (by omega) (by omega)) ?_
  · ((repeat (first | with_reducible assumption | with_reducible refine Rd.alloc ?_ _ | with_reducible refine Rd.step ?_ (by with_reducible assumption) | with_reducible refine Rd.drew ?_ | with_reducible refine Rd.drewN ?_ _ | with_reducible refine RdA.alloc ?_ _ | with_reducible refine RdA.step ?_ (by with_reducible assumption) | with_reducible refine RdA.drew ?_ | with_reducible refine RdA.drewN ?_ _)))
  · (first | omega | assumption)
  rintro e w21 ⟨rfl, hb21⟩
  have hv21_p0_0 : w21.cell? ⟨w.heap.size, 0, none⟩ = some (.slice A0 n0 c0) := by
    ((repeat (first | with_reducible assumption | with_reducible refine cell_step ?_ (by with_reducible assumption) | with_reducible refine cell_drew ?_ | with_reducible refine cell_drewN ?_ _ | (refine cell_new rfl ?_; with_reducible rfl) | (refine cell_new rfl ?_; simp; done) | with_reducible refine cell_alloc ?_ _)))
  have ha21_p0_0 : ∀ o, (w21.alloc o).cell? ⟨w.heap.size, 0, none⟩ = some (.slice A0 n0 c0) := fun o => cell_alloc hv21_p0_0 o
  have hv21_x0 : w21.cell? ⟨w4.heap.size, 0, none⟩ = some (.slice A4 n0 d4) := by
    ((repeat (first | with_reducible assumption | with_reducible refine cell_step ?_ (by with_reducible assumption) | with_reducible refine cell_drew ?_ | with_reducible refine cell_drewN ?_ _ | (refine cell_new rfl ?_; with_reducible rfl) | (refine cell_new rfl ?_; simp; done) | with_reducible refine cell_alloc ?_ _)))
  have ha21_x0 : ∀ o, (w21.alloc o).cell? ⟨w4.heap.size, 0, none⟩ = some (.slice A4 n0 d4) := fun o => cell_alloc hv21_x0 o
  go_wp2
  go_ret
  exact ⟨rfl, by ((repeat (first | exact Below.refl _ _ | with_reducible assumption | refine Below.alloc0 ?_ _ | refine Below.step0 ?_ (by with_reducible assumption) | refine Below.step ?_ (by with_reducible assumption) ?_ | refine Below.alloc ?_ ?_ _ | refine Below.drew ?_ | refine below_drewN ?_ _ | refine Below.setCell ?_ ?_ _)) <;> (first | omega | exact hsz | exact Below.size (by with_reducible assumption) | (simp; done) | (simp; omega) | (simp at *; omega)))⟩

set_option maxRecDepth 100000 in
theorem lifted (os : Os) (started : os.Started) (H : Type) (enc : TypeId × Value → H) :
    ReturnsInHanded {} Try.checked os 3 .any (Rows.fnExactTilingFromSpec.pre6 enc Try.prog Try.f3 Rows.fnExactTilingFromRow.domain false) (Rows.fnExactTilingFromSpec.post enc Try.prog Try.f3 false true false false) := by
  refine returnsInHanded_of_change (C := Try.checked) own_knob started (by kernel_rfl) Try.func3
    (ChangeSpec.witness6 (enc := enc) (C := Try.checked) false ⟨#[], #[.agg #[.slice none 0 0], .slice none 0 0], []⟩ 8 (by kernel_rfl) (by kernel_rfl) (by kernel_rfl) (by kernel_rfl)) ?_
  intro W base args ds gs before hval0 hW hcnd _
  have hval : ∀ (j : Nat) t v, Try.f3.params[j]? = some t → args[j]? = some v → Value.okWide Try.prog W .any base t v := hval0
  have hW' := hW
  obtain ⟨p, q, hA0, hV, rfl, hfz, hnd⟩ := hW
  have hA : DataW.TrodAll enc Try.prog W 0 (fun _ => true) true Try.f3.params.toList args.toList ds p := hA0
  rw [Try.params3] at hA hval
  obtain ⟨v0, vs0, d0, ds0, p0, q0, hargs, rfl, rfl, h0, r0⟩ := trodAll_cons hA
  obtain ⟨v1, vs1, d1, ds1, p1, q1, rfl, rfl, rfl, h1, r1⟩ := trodAll_cons r0
  obtain ⟨rfl, rfl, rfl⟩ := trodAll_nil r1
  obtain rfl : args = #[v0, v1] := by cases args; simp_all
  obtain ⟨rfl, rfl⟩ := trodVars_none hV
  obtain ⟨A0, n0, c0, l0, rfl, hr0, hm0, hw0⟩ := open_reg (hval 0 _ v0 rfl rfl) h0
  obtain ⟨A1, n1, c1, l1, rfl, hr1, hm1, hw1⟩ := open_is (hval 1 _ v1 rfl rfl) h1
  clear hA0 hval0
  refine (walk W A0 n0 c0 l0 hr0 hm0 hw0 A1 n1 c1 l1 hr1 hm1 hw1).mono fun e W' ⟨he, hg⟩ => ?_
  subst he
  exact ⟨_, rfl, post_law laid_out (by rw [Try.params3]; decide +kernel) rfl rfl Try.underlying4 rfl hW' hg⟩

theorem over : Rows.fnExactTilingFromRow.holds Try.pinned (OpenSpec.ofChange Rows.fnExactTilingFromSpec) :=
  OpenClaim.holds_of_wide 3 Try.f3 rfl rfl rfl rfl rfl rfl rfl ⟨rfl, rfl, rfl, rfl, rfl⟩ rfl rfl rfl rfl rfl (by kernel_rfl) Try.func3 (by kernel_rfl)
    (of_decide_eq_true (by kernel_rfl)) (by unfold Func.isWrapper; first | (rw [if_pos (by decide +kernel)]; kernel_rfl) | (rw [if_neg (by decide +kernel)]; exact ⟨rfl, rfl⟩))
    (fun os started H enc _ => lifted os started H enc)

theorem proved : Rows.FnExactTilingFromSaid :=
  over
#print axioms proved

end Go.Proofs.Ytjgimiicfekcpaa.lTilingFrom
