/- FnExactDiamondRegion: the program's DiamondRegion returns what the reference's returns, for all arguments. No condition. -/
import Derived.Test.YtffifeljpegknaaLaw
import Derived.Test.YtffifeljpegknaaReg
import Derived.Test.YtffifeljpegknaaSet
namespace Go.Proofs.Ytffifeljpegknaa.lDiamondRegion
open Go.ChangeShapes Go.WideShapes Go.ChangeAt Go.RowKit

set_option maxHeartbeats 2000000 in
theorem walk (w : World) (l0 : Int) (_ : (Lit.int .i64 l0).wf = true) :
    Calls Try.prog 8 #[.int .i64 l0] w fun e w' => e = .returned (.bool true) ∧ Below w.heap.size w w' := by
  have hsz : w.heap.size ≤ w.heap.size := Nat.le_refl _
  go_enter Try.func8, Try.ntmps8
  have hd := diaRows_len l0
  go_wp2_with fail
  refine Calls.mono (diamond_spec l0 _) ?_
  rintro e w1 ⟨v1_0, rfl, ho1_0, hb1⟩
  obtain ⟨A1_0, d1_0, rfl⟩ := own_form2 ho1_0
  have hx1_0 := own_rd ho1_0
  have hob1_0 := own_mono (base' := w.heap.size) ho1_0 (by ((repeat (first | exact Nat.le_refl _ | with_reducible assumption | refine Nat.le_trans ?_ (Below.size (by with_reducible assumption)) | refine Nat.le_trans ?_ (grown_size (by with_reducible assumption)) | refine size_alloc ?_ _))))
  go_wp2_with fail
  refine Calls.mono (diamond_impl l0 _) ?_
  rintro e w2 ⟨v2_0, rfl, ho2_0, hb2⟩
  obtain ⟨A2_0, d2_0, rfl⟩ := own_form2 ho2_0
  have hx2_0 := own_rd ho2_0
  have hob2_0 := own_mono (base' := w.heap.size) ho2_0 (by ((repeat (first | exact Nat.le_refl _ | with_reducible assumption | refine Nat.le_trans ?_ (Below.size (by with_reducible assumption)) | refine Nat.le_trans ?_ (grown_size (by with_reducible assumption)) | refine size_alloc ?_ _))))
  have hv2_r1_0 : w2.cell? ⟨w1.heap.size, 0, none⟩ = some (.slice A1_0 (diaRows l0).length d1_0) := by
    ((repeat (first | with_reducible assumption | exact cell_new rfl (by with_reducible rfl) | refine cell_alloc ?_ _ | refine cell_step ?_ (by with_reducible assumption) | refine cell_drew ?_ | refine cell_drewN ?_ _)))
  have ha2_r1_0 : ∀ o, (w2.alloc o).cell? ⟨w1.heap.size, 0, none⟩ = some (.slice A1_0 (diaRows l0).length d1_0) := fun o => cell_alloc hv2_r1_0 o
  go_wp2_with fail
  refine Calls.mono (eqRegion_c (diaRows l0) (diaRows l0) A2_0 A1_0 (diaRows l0).length _ (diaRows l0).length _ _ ?_ ?_ ?_ ?_) ?_
  · ((repeat (first | with_reducible assumption | refine Rd.alloc ?_ _ | refine Rd.step ?_ (by with_reducible assumption) | refine Rd.drew ?_ | refine Rd.drewN ?_ _ | refine RdA.alloc ?_ _ | refine RdA.step ?_ (by with_reducible assumption) | refine RdA.drew ?_ | refine RdA.drewN ?_ _)))
  · ((repeat (first | with_reducible assumption | refine Rd.alloc ?_ _ | refine Rd.step ?_ (by with_reducible assumption) | refine Rd.drew ?_ | refine Rd.drewN ?_ _ | refine RdA.alloc ?_ _ | refine RdA.step ?_ (by with_reducible assumption) | refine RdA.drew ?_ | refine RdA.drewN ?_ _)))
  · (first | omega | assumption)
  · (first | omega | assumption)
  rintro e w3 ⟨rfl, hb3⟩
  have hv3_r1_0 : w3.cell? ⟨w1.heap.size, 0, none⟩ = some (.slice A1_0 (diaRows l0).length d1_0) := by
    ((repeat (first | with_reducible assumption | exact cell_new rfl (by with_reducible rfl) | refine cell_alloc ?_ _ | refine cell_step ?_ (by with_reducible assumption) | refine cell_drew ?_ | refine cell_drewN ?_ _)))
  have ha3_r1_0 : ∀ o, (w3.alloc o).cell? ⟨w1.heap.size, 0, none⟩ = some (.slice A1_0 (diaRows l0).length d1_0) := fun o => cell_alloc hv3_r1_0 o
  have hv3_r2_0 : w3.cell? ⟨w2.heap.size, 0, none⟩ = some (.slice A2_0 (diaRows l0).length d2_0) := by
    ((repeat (first | with_reducible assumption | exact cell_new rfl (by with_reducible rfl) | refine cell_alloc ?_ _ | refine cell_step ?_ (by with_reducible assumption) | refine cell_drew ?_ | refine cell_drewN ?_ _)))
  have ha3_r2_0 : ∀ o, (w3.alloc o).cell? ⟨w2.heap.size, 0, none⟩ = some (.slice A2_0 (diaRows l0).length d2_0) := fun o => cell_alloc hv3_r2_0 o
  go_wp2_with fail
  refine Calls.mono (markRegion_c (diaRows l0) A2_0 (diaRows l0).length _ w.heap.size _ _ ?_ ?_ (by omega) (by omega) ?_) ?_
  · ((repeat (first | with_reducible assumption | refine own_alloc ?_ _ | refine own_step ?_ (by with_reducible assumption) | refine own_drew ?_ | refine own_drewN ?_ _)))
  · (first | omega | assumption)
  · ((repeat (first | exact Nat.le_refl _ | with_reducible assumption | refine Nat.le_trans ?_ (Below.size (by with_reducible assumption)) | refine Nat.le_trans ?_ (grown_size (by with_reducible assumption)) | refine size_alloc ?_ _)))
  rintro e w4 ⟨rfl, hom4, hgm4, hbm4⟩
  have hv4_r1_0 : w4.cell? ⟨w1.heap.size, 0, none⟩ = some (.slice A1_0 (diaRows l0).length d1_0) := by
    (refine cell_grown (by ((repeat (first | with_reducible assumption | exact cell_new rfl (by with_reducible rfl) | refine cell_alloc ?_ _ | refine cell_step ?_ (by with_reducible assumption) | refine cell_drew ?_ | refine cell_drewN ?_ _)))) (by assumption) (by first | (refine row_ne ho2_0 ?_; ((repeat (first | exact Nat.le_refl _ | with_reducible assumption | refine Nat.le_trans ?_ (Below.size (by with_reducible assumption)) | refine Nat.le_trans ?_ (grown_size (by with_reducible assumption)) | refine size_alloc ?_ _))); done) | (refine row_ne_cell (o := 0) (u := .slice A1_0 (diaRows l0).length d1_0) ho2_0 ?_; ((repeat (first | with_reducible assumption | exact cell_new rfl (by with_reducible rfl) | refine cell_alloc ?_ _ | refine cell_step ?_ (by with_reducible assumption) | refine cell_drew ?_ | refine cell_drewN ?_ _))); done)))
  have ha4_r1_0 : ∀ o, (w4.alloc o).cell? ⟨w1.heap.size, 0, none⟩ = some (.slice A1_0 (diaRows l0).length d1_0) := fun o => cell_alloc hv4_r1_0 o
  have hv4_r2_0 : w4.cell? ⟨w2.heap.size, 0, none⟩ = some (.slice A2_0 (diaRows l0).length d2_0) := by
    (refine cell_grown (by ((repeat (first | with_reducible assumption | exact cell_new rfl (by with_reducible rfl) | refine cell_alloc ?_ _ | refine cell_step ?_ (by with_reducible assumption) | refine cell_drew ?_ | refine cell_drewN ?_ _)))) (by assumption) (by first | (refine row_ne ho2_0 ?_; ((repeat (first | exact Nat.le_refl _ | with_reducible assumption | refine Nat.le_trans ?_ (Below.size (by with_reducible assumption)) | refine Nat.le_trans ?_ (grown_size (by with_reducible assumption)) | refine size_alloc ?_ _))); done) | (refine row_ne_cell (o := 0) (u := .slice A2_0 (diaRows l0).length d2_0) ho2_0 ?_; ((repeat (first | with_reducible assumption | exact cell_new rfl (by with_reducible rfl) | refine cell_alloc ?_ _ | refine cell_step ?_ (by with_reducible assumption) | refine cell_drew ?_ | refine cell_drewN ?_ _))); done)))
  have ha4_r2_0 : ∀ o, (w4.alloc o).cell? ⟨w2.heap.size, 0, none⟩ = some (.slice A2_0 (diaRows l0).length d2_0) := fun o => cell_alloc hv4_r2_0 o
  have hch4 : Below w.heap.size w w4 := by
    refine Below.trans ?_ (hbm4.mono (by ((repeat (first | exact Nat.le_refl _ | with_reducible assumption | refine Nat.le_trans ?_ (Below.size (by with_reducible assumption)) | refine Nat.le_trans ?_ (grown_size (by with_reducible assumption)) | refine size_alloc ?_ _)))))
    ((repeat (first | exact Below.refl _ _ | with_reducible assumption | refine Below.alloc0 ?_ _ | refine Below.step0 ?_ (by with_reducible assumption) | refine Below.step ?_ (by with_reducible assumption) ?_ | refine Below.alloc ?_ ?_ _ | refine Below.drew ?_ | refine below_drewN ?_ _ | refine Below.setCell ?_ ?_ _)) <;> (first | omega | exact hsz | exact Below.size (by with_reducible assumption) | (simp; done) | (simp; omega) | (simp at *; omega)))
  have ho4_w0 := World.ownsRow.kept (base := w.heap.size) (e := 3) (size := 1) (v := .slice A1_0 (diaRows l0).length d1_0) (n := (diaRows l0).length) (xs := isl (diaRows l0)) (by ((repeat (first | with_reducible assumption | refine own_alloc ?_ _ | refine own_step ?_ (by with_reducible assumption) | refine own_drew ?_ | refine own_drewN ?_ _)))) hgm4 (by first | (refine own_disj ho1_0 ho2_0 ?_; ((repeat (first | exact Nat.le_refl _ | with_reducible assumption | refine Nat.le_trans ?_ (Below.size (by with_reducible assumption)) | refine Nat.le_trans ?_ (grown_size (by with_reducible assumption)) | refine size_alloc ?_ _))); done) | (refine own_disj' ho1_0 ho2_0 ?_; ((repeat (first | exact Nat.le_refl _ | with_reducible assumption | refine Nat.le_trans ?_ (Below.size (by with_reducible assumption)) | refine Nat.le_trans ?_ (grown_size (by with_reducible assumption)) | refine size_alloc ?_ _))); done))
  have hx4_w0 := own_rd ho4_w0
  have hx4_m := own_rd hom4
  go_wp2_with fail
  refine Calls.mono (heldRegion_c A2_0 (diaRows l0).length _ _ _ ?_ ?_ (by omega) (by omega)) ?_
  · ((repeat (first | with_reducible assumption | refine Rd.alloc ?_ _ | refine Rd.step ?_ (by with_reducible assumption) | refine Rd.drew ?_ | refine Rd.drewN ?_ _ | refine RdA.alloc ?_ _ | refine RdA.step ?_ (by with_reducible assumption) | refine RdA.drew ?_ | refine RdA.drewN ?_ _)))
  · (first | omega | assumption)
  rintro e w5 ⟨rfl, hb5⟩
  have hv5_r1_0 : w5.cell? ⟨w1.heap.size, 0, none⟩ = some (.slice A1_0 (diaRows l0).length d1_0) := by
    ((repeat (first | with_reducible assumption | exact cell_new rfl (by with_reducible rfl) | refine cell_alloc ?_ _ | refine cell_step ?_ (by with_reducible assumption) | refine cell_drew ?_ | refine cell_drewN ?_ _)))
  have ha5_r1_0 : ∀ o, (w5.alloc o).cell? ⟨w1.heap.size, 0, none⟩ = some (.slice A1_0 (diaRows l0).length d1_0) := fun o => cell_alloc hv5_r1_0 o
  have hv5_r2_0 : w5.cell? ⟨w2.heap.size, 0, none⟩ = some (.slice A2_0 (diaRows l0).length d2_0) := by
    ((repeat (first | with_reducible assumption | exact cell_new rfl (by with_reducible rfl) | refine cell_alloc ?_ _ | refine cell_step ?_ (by with_reducible assumption) | refine cell_drew ?_ | refine cell_drewN ?_ _)))
  have ha5_r2_0 : ∀ o, (w5.alloc o).cell? ⟨w2.heap.size, 0, none⟩ = some (.slice A2_0 (diaRows l0).length d2_0) := fun o => cell_alloc hv5_r2_0 o
  go_wp2_with fail
  refine Calls.mono (diamond_impl l0 _) ?_
  rintro e w6 ⟨v6_0, rfl, ho6_0, hb6⟩
  obtain ⟨A6_0, d6_0, rfl⟩ := own_form2 ho6_0
  have hx6_0 := own_rd ho6_0
  have hob6_0 := own_mono (base' := w.heap.size) ho6_0 (by ((repeat (first | exact Nat.le_refl _ | with_reducible assumption | refine Nat.le_trans ?_ (Below.size (by with_reducible assumption)) | refine Nat.le_trans ?_ (grown_size (by with_reducible assumption)) | refine size_alloc ?_ _))))
  have hv6_r1_0 : w6.cell? ⟨w1.heap.size, 0, none⟩ = some (.slice A1_0 (diaRows l0).length d1_0) := by
    ((repeat (first | with_reducible assumption | exact cell_new rfl (by with_reducible rfl) | refine cell_alloc ?_ _ | refine cell_step ?_ (by with_reducible assumption) | refine cell_drew ?_ | refine cell_drewN ?_ _)))
  have ha6_r1_0 : ∀ o, (w6.alloc o).cell? ⟨w1.heap.size, 0, none⟩ = some (.slice A1_0 (diaRows l0).length d1_0) := fun o => cell_alloc hv6_r1_0 o
  have hv6_r2_0 : w6.cell? ⟨w2.heap.size, 0, none⟩ = some (.slice A2_0 (diaRows l0).length d2_0) := by
    ((repeat (first | with_reducible assumption | exact cell_new rfl (by with_reducible rfl) | refine cell_alloc ?_ _ | refine cell_step ?_ (by with_reducible assumption) | refine cell_drew ?_ | refine cell_drewN ?_ _)))
  have ha6_r2_0 : ∀ o, (w6.alloc o).cell? ⟨w2.heap.size, 0, none⟩ = some (.slice A2_0 (diaRows l0).length d2_0) := fun o => cell_alloc hv6_r2_0 o
  go_wp2_with fail
  refine Calls.mono (eqRegion_c (diaRows l0) (diaRows l0) A6_0 A1_0 (diaRows l0).length _ (diaRows l0).length _ _ ?_ ?_ ?_ ?_) ?_
  · ((repeat (first | with_reducible assumption | refine Rd.alloc ?_ _ | refine Rd.step ?_ (by with_reducible assumption) | refine Rd.drew ?_ | refine Rd.drewN ?_ _ | refine RdA.alloc ?_ _ | refine RdA.step ?_ (by with_reducible assumption) | refine RdA.drew ?_ | refine RdA.drewN ?_ _)))
  · ((repeat (first | with_reducible assumption | refine Rd.alloc ?_ _ | refine Rd.step ?_ (by with_reducible assumption) | refine Rd.drew ?_ | refine Rd.drewN ?_ _ | refine RdA.alloc ?_ _ | refine RdA.step ?_ (by with_reducible assumption) | refine RdA.drew ?_ | refine RdA.drewN ?_ _)))
  · (first | omega | assumption)
  · (first | omega | assumption)
  rintro e w7 ⟨rfl, hb7⟩
  have hv7_r1_0 : w7.cell? ⟨w1.heap.size, 0, none⟩ = some (.slice A1_0 (diaRows l0).length d1_0) := by
    ((repeat (first | with_reducible assumption | exact cell_new rfl (by with_reducible rfl) | refine cell_alloc ?_ _ | refine cell_step ?_ (by with_reducible assumption) | refine cell_drew ?_ | refine cell_drewN ?_ _)))
  have ha7_r1_0 : ∀ o, (w7.alloc o).cell? ⟨w1.heap.size, 0, none⟩ = some (.slice A1_0 (diaRows l0).length d1_0) := fun o => cell_alloc hv7_r1_0 o
  have hv7_r2_0 : w7.cell? ⟨w2.heap.size, 0, none⟩ = some (.slice A2_0 (diaRows l0).length d2_0) := by
    ((repeat (first | with_reducible assumption | exact cell_new rfl (by with_reducible rfl) | refine cell_alloc ?_ _ | refine cell_step ?_ (by with_reducible assumption) | refine cell_drew ?_ | refine cell_drewN ?_ _)))
  have ha7_r2_0 : ∀ o, (w7.alloc o).cell? ⟨w2.heap.size, 0, none⟩ = some (.slice A2_0 (diaRows l0).length d2_0) := fun o => cell_alloc hv7_r2_0 o
  have hv7_r6_0 : w7.cell? ⟨w6.heap.size, 0, none⟩ = some (.slice A6_0 (diaRows l0).length d6_0) := by
    ((repeat (first | with_reducible assumption | exact cell_new rfl (by with_reducible rfl) | refine cell_alloc ?_ _ | refine cell_step ?_ (by with_reducible assumption) | refine cell_drew ?_ | refine cell_drewN ?_ _)))
  have ha7_r6_0 : ∀ o, (w7.alloc o).cell? ⟨w6.heap.size, 0, none⟩ = some (.slice A6_0 (diaRows l0).length d6_0) := fun o => cell_alloc hv7_r6_0 o
  go_wp2_with fail
  refine Calls.mono (heldRegion_c A2_0 (diaRows l0).length _ _ _ ?_ ?_ (by omega) (by omega)) ?_
  · ((repeat (first | with_reducible assumption | refine Rd.alloc ?_ _ | refine Rd.step ?_ (by with_reducible assumption) | refine Rd.drew ?_ | refine Rd.drewN ?_ _ | refine RdA.alloc ?_ _ | refine RdA.step ?_ (by with_reducible assumption) | refine RdA.drew ?_ | refine RdA.drewN ?_ _)))
  · (first | omega | assumption)
  rintro e w8 ⟨rfl, hb8⟩
  have hv8_r1_0 : w8.cell? ⟨w1.heap.size, 0, none⟩ = some (.slice A1_0 (diaRows l0).length d1_0) := by
    ((repeat (first | with_reducible assumption | exact cell_new rfl (by with_reducible rfl) | refine cell_alloc ?_ _ | refine cell_step ?_ (by with_reducible assumption) | refine cell_drew ?_ | refine cell_drewN ?_ _)))
  have ha8_r1_0 : ∀ o, (w8.alloc o).cell? ⟨w1.heap.size, 0, none⟩ = some (.slice A1_0 (diaRows l0).length d1_0) := fun o => cell_alloc hv8_r1_0 o
  have hv8_r2_0 : w8.cell? ⟨w2.heap.size, 0, none⟩ = some (.slice A2_0 (diaRows l0).length d2_0) := by
    ((repeat (first | with_reducible assumption | exact cell_new rfl (by with_reducible rfl) | refine cell_alloc ?_ _ | refine cell_step ?_ (by with_reducible assumption) | refine cell_drew ?_ | refine cell_drewN ?_ _)))
  have ha8_r2_0 : ∀ o, (w8.alloc o).cell? ⟨w2.heap.size, 0, none⟩ = some (.slice A2_0 (diaRows l0).length d2_0) := fun o => cell_alloc hv8_r2_0 o
  have hv8_r6_0 : w8.cell? ⟨w6.heap.size, 0, none⟩ = some (.slice A6_0 (diaRows l0).length d6_0) := by
    ((repeat (first | with_reducible assumption | exact cell_new rfl (by with_reducible rfl) | refine cell_alloc ?_ _ | refine cell_step ?_ (by with_reducible assumption) | refine cell_drew ?_ | refine cell_drewN ?_ _)))
  have ha8_r6_0 : ∀ o, (w8.alloc o).cell? ⟨w6.heap.size, 0, none⟩ = some (.slice A6_0 (diaRows l0).length d6_0) := fun o => cell_alloc hv8_r6_0 o
  go_wp2
  go_ret
  exact ⟨rfl, by ((repeat (first | exact Below.refl _ _ | with_reducible assumption | refine Below.alloc0 ?_ _ | refine Below.step0 ?_ (by with_reducible assumption) | refine Below.step ?_ (by with_reducible assumption) ?_ | refine Below.alloc ?_ ?_ _ | refine Below.drew ?_ | refine below_drewN ?_ _ | refine Below.setCell ?_ ?_ _)) <;> (first | omega | exact hsz | exact Below.size (by with_reducible assumption) | (simp; done) | (simp; omega) | (simp at *; omega)))⟩

set_option maxRecDepth 100000 in
theorem lifted (os : Os) (started : os.Started) (H : Type) (enc : TypeId × Value → H) :
    ReturnsInHanded {} Try.checked os 8 .any (Rows.fnExactDiamondRegionSpec.pre6 enc Try.prog Try.f8 Rows.fnExactDiamondRegionRow.domain false) (Rows.fnExactDiamondRegionSpec.post enc Try.prog Try.f8 false true false false) := by
  refine returnsInHanded_of_change (C := Try.checked) own_knob started (by kernel_rfl) Try.func8
    (ChangeSpec.witness6 (enc := enc) (C := Try.checked) false ⟨#[], #[.int .i64 0], []⟩ 8 (by kernel_rfl) (by kernel_rfl) (by kernel_rfl) (by kernel_rfl)) ?_
  intro W base args ds gs before hval0 hW hcnd _
  have hval : ∀ (j : Nat) t v, Try.f8.params[j]? = some t → args[j]? = some v → Value.okWide Try.prog W .any base t v := hval0
  have hW' := hW
  obtain ⟨p, q, hA0, hV, rfl, hfz, hnd⟩ := hW
  have hA : DataW.TrodAll enc Try.prog W 0 (fun _ => true) true Try.f8.params.toList args.toList ds p := hA0
  rw [Try.params8] at hA hval
  obtain ⟨v0, vs0, d0, ds0, p0, q0, hargs, rfl, rfl, h0, r0⟩ := trodAll_cons hA
  obtain ⟨rfl, rfl, rfl⟩ := trodAll_nil r0
  obtain rfl : args = #[v0] := by cases args; simp_all
  obtain ⟨rfl, rfl⟩ := trodVars_none hV
  obtain ⟨a0, rfl, rfl, rfl, w0⟩ := open_int Try.underlying3 (hval 0 _ v0 rfl rfl) h0
  clear hA0 hval0
  refine (walk W a0 w0).mono fun e W' ⟨he, hg⟩ => ?_
  subst he
  exact ⟨_, rfl, post_law laid_out (by rw [Try.params8]; decide +kernel) rfl rfl Try.underlying4 rfl hW' hg⟩

theorem over : Rows.fnExactDiamondRegionRow.holds Try.pinned (OpenSpec.ofChange Rows.fnExactDiamondRegionSpec) :=
  OpenClaim.holds_of_wide 8 Try.f8 rfl rfl rfl rfl rfl rfl rfl ⟨rfl, rfl, rfl, rfl, rfl⟩ rfl rfl rfl rfl rfl (by kernel_rfl) Try.func8 (by kernel_rfl)
    (of_decide_eq_true (by kernel_rfl)) (by unfold Func.isWrapper; first | (rw [if_pos (by decide +kernel)]; kernel_rfl) | (rw [if_neg (by decide +kernel)]; exact ⟨rfl, rfl⟩))
    (fun os started H enc _ => lifted os started H enc)

theorem proved : Rows.FnExactDiamondRegionSaid :=
  over
#print axioms proved

end Go.Proofs.Ytffifeljpegknaa.lDiamondRegion
