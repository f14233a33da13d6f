
/- FnExactMostDominoes: the program's MostDominoes returns what the reference's returns, for all arguments. No condition. -/
import Derived.Test.YtafbklfdgpfmgaaLaw
import Derived.Test.YtafbklfdgpfmgaaReg
import Derived.Test.YtafbklfdgpfmgaaC8
namespace Go.Proofs.Ytafbklfdgpfmgaa.lMostDominoes
set_option maxRecDepth 20000
open Go.ChangeShapes Go.WideShapes Go.ChangeAt Go.RowKit Cl

set_option maxHeartbeats 2000000 in
theorem walk (w : World) (A0 : Option Addr) (n0 c0 : Nat) (l0 : List Int) (hr0 : RdA w 1 A0 n0 (isl l0)) (hm0 : n0 ≤ maxLen) (_ : ∀ z ∈ l0, (Lit.int .i64 z).wf = true) :
    Calls Try.prog 4 #[.agg #[.slice A0 n0 c0]] w fun e w' => e = .returned (.bool true) ∧ Below w.heap.size w w' := by
  unfold maxLen at hm0
  have HN0 := Lib.hid (show n0 = l0.length by have := hr0.1; rw [isl_len] at this; omega)
  have hsz : w.heap.size ≤ w.heap.size := Nat.le_refl _
  by_cases hn0 : n0 ≤ 1048576
  rotate_left
  · go_enter Try.func4, Try.ntmps4
    go_wp2_with fail
    refine (szRegion_c (1048576) _ _ _ (by omega) (by omega) (by omega) _).mono ?_
    rintro e wz0 ⟨rfl, hbz0⟩
    rw [if_pos (by omega)]
    have hvz0_p0_0 : wz0.cell? ⟨w.heap.size, 0, none⟩ = some (.slice A0 n0 c0) := by
      ((repeat (first | with_reducible assumption | with_reducible refine cell_step ?_ (by with_reducible assumption) | with_reducible refine cell_drew ?_ | with_reducible refine cell_drewN ?_ _ | (refine cell_new rfl ?_; with_reducible rfl) | (refine cell_new rfl ?_; simp; done) | with_reducible refine cell_alloc ?_ _)))
    have haz0_p0_0 : ∀ o, (wz0.alloc o).cell? ⟨w.heap.size, 0, none⟩ = some (.slice A0 n0 c0) := fun o => cell_alloc hvz0_p0_0 o
    go_wp2
    go_ret
    exact ⟨rfl, by ((repeat (first | exact Below.refl _ _ | with_reducible assumption | refine Below.alloc0 ?_ _ | refine Below.step0 ?_ (by with_reducible assumption) | refine Below.step ?_ (by with_reducible assumption) ?_ | refine Below.alloc ?_ ?_ _ | refine Below.drew ?_ | refine below_drewN ?_ _ | refine Below.setCell ?_ ?_ _)) <;> (first | omega | exact hsz | exact Below.size (by with_reducible assumption) | (simp; done) | (simp; omega) | (simp at *; omega)))⟩
  go_enter Try.func4, Try.ntmps4
  go_wp2_with fail
  refine (szRegion_c (1048576) _ _ _ (by omega) (by omega) (by omega) _).mono ?_
  rintro e wz0 ⟨rfl, hbz0⟩
  rw [if_neg (by omega)]
  have hvz0_p0_0 : wz0.cell? ⟨w.heap.size, 0, none⟩ = some (.slice A0 n0 c0) := by
    ((repeat (first | with_reducible assumption | with_reducible refine cell_step ?_ (by with_reducible assumption) | with_reducible refine cell_drew ?_ | with_reducible refine cell_drewN ?_ _ | (refine cell_new rfl ?_; with_reducible rfl) | (refine cell_new rfl ?_; simp; done) | with_reducible refine cell_alloc ?_ _)))
  have haz0_p0_0 : ∀ o, (wz0.alloc o).cell? ⟨w.heap.size, 0, none⟩ = some (.slice A0 n0 c0) := fun o => cell_alloc hvz0_p0_0 o
  have e0 : ((((matR l0).length : Int)) == (((matR l0).length : Int))) = true := by simp
  have e0' : ((((matR l0).length : Int)) != (((matR l0).length : Int))) = false := by simp
  go_wp2_with fail
  refine Calls.mono (toRegion_c l0 _ _ _ _ ?_ (by omega)) ?_
  · ((repeat (first | with_reducible assumption | with_reducible refine Rd.alloc ?_ _ | with_reducible refine Rd.step ?_ (by with_reducible assumption) | with_reducible refine Rd.drew ?_ | with_reducible refine Rd.drewN ?_ _ | with_reducible refine RdA.alloc ?_ _ | with_reducible refine RdA.step ?_ (by with_reducible assumption) | with_reducible refine RdA.drew ?_ | with_reducible refine RdA.drewN ?_ _)))
  rintro e w1 ⟨v1, rfl, ho1, hb1⟩
  obtain ⟨A1, d1, rfl, hle1⟩ := own_form3 ho1
  have hx1 := own_rd ho1
  have hob1 := own_mono (base' := w.heap.size) ho1 (by ((repeat (first | exact Nat.le_refl _ | with_reducible assumption | with_reducible refine Nat.le_trans ?_ (Below.size (by with_reducible assumption)) | with_reducible refine Nat.le_trans ?_ (grown_size (by with_reducible assumption)) | with_reducible refine size_alloc ?_ _ | with_reducible refine size_drewN ?_ _ | with_reducible refine size_drew ?_))))
  have hv1_p0_0 : w1.cell? ⟨w.heap.size, 0, none⟩ = some (.slice A0 n0 c0) := by
    ((repeat (first | with_reducible assumption | with_reducible refine cell_step ?_ (by with_reducible assumption) | with_reducible refine cell_drew ?_ | with_reducible refine cell_drewN ?_ _ | (refine cell_new rfl ?_; with_reducible rfl) | (refine cell_new rfl ?_; simp; done) | with_reducible refine cell_alloc ?_ _)))
  have ha1_p0_0 : ∀ o, (w1.alloc o).cell? ⟨w.heap.size, 0, none⟩ = some (.slice A0 n0 c0) := fun o => cell_alloc hv1_p0_0 o
  go_wp2_with fail
  refine Calls.mono (kit_v (spec_MostDominoes_fn l0 (by have := HN0.out; omega)) (args1 (mk_regv' ?_ ?_ HN0.out))) ?_
  · ((repeat (first | with_reducible assumption | with_reducible refine Rd.alloc ?_ _ | with_reducible refine Rd.step ?_ (by with_reducible assumption) | with_reducible refine Rd.drew ?_ | with_reducible refine Rd.drewN ?_ _ | with_reducible refine RdA.alloc ?_ _ | with_reducible refine RdA.step ?_ (by with_reducible assumption) | with_reducible refine RdA.drew ?_ | with_reducible refine RdA.drewN ?_ _)))
  · (try assumption)
  rintro e w2 ⟨rfl, hb2⟩
  have hv2_p0_0 : w2.cell? ⟨w.heap.size, 0, none⟩ = some (.slice A0 n0 c0) := by
    ((repeat (first | with_reducible assumption | with_reducible refine cell_step ?_ (by with_reducible assumption) | with_reducible refine cell_drew ?_ | with_reducible refine cell_drewN ?_ _ | (refine cell_new rfl ?_; with_reducible rfl) | (refine cell_new rfl ?_; simp; done) | with_reducible refine cell_alloc ?_ _)))
  have ha2_p0_0 : ∀ o, (w2.alloc o).cell? ⟨w.heap.size, 0, none⟩ = some (.slice A0 n0 c0) := fun o => cell_alloc hv2_p0_0 o
  go_wp2_with fail
  refine Calls.mono (toRegion_c l0 _ _ _ _ ?_ (by omega)) ?_
  · ((repeat (first | with_reducible assumption | with_reducible refine Rd.alloc ?_ _ | with_reducible refine Rd.step ?_ (by with_reducible assumption) | with_reducible refine Rd.drew ?_ | with_reducible refine Rd.drewN ?_ _ | with_reducible refine RdA.alloc ?_ _ | with_reducible refine RdA.step ?_ (by with_reducible assumption) | with_reducible refine RdA.drew ?_ | with_reducible refine RdA.drewN ?_ _)))
  rintro e w3 ⟨v3, rfl, ho3, hb3⟩
  obtain ⟨A3, d3, rfl, hle3⟩ := own_form3 ho3
  have hx3 := own_rd ho3
  have hob3 := own_mono (base' := w.heap.size) ho3 (by ((repeat (first | exact Nat.le_refl _ | with_reducible assumption | with_reducible refine Nat.le_trans ?_ (Below.size (by with_reducible assumption)) | with_reducible refine Nat.le_trans ?_ (grown_size (by with_reducible assumption)) | with_reducible refine size_alloc ?_ _ | with_reducible refine size_drewN ?_ _ | with_reducible refine size_drew ?_))))
  have hv3_p0_0 : w3.cell? ⟨w.heap.size, 0, none⟩ = some (.slice A0 n0 c0) := by
    ((repeat (first | with_reducible assumption | with_reducible refine cell_step ?_ (by with_reducible assumption) | with_reducible refine cell_drew ?_ | with_reducible refine cell_drewN ?_ _ | (refine cell_new rfl ?_; with_reducible rfl) | (refine cell_new rfl ?_; simp; done) | with_reducible refine cell_alloc ?_ _)))
  have ha3_p0_0 : ∀ o, (w3.alloc o).cell? ⟨w.heap.size, 0, none⟩ = some (.slice A0 n0 c0) := fun o => cell_alloc hv3_p0_0 o
  go_wp2_with fail
  refine Calls.mono (kit_v (impl_MostDominoes_fn l0 (by have := HN0.out; omega)) (args1 (mk_regv' ?_ ?_ HN0.out))) ?_
  · ((repeat (first | with_reducible assumption | with_reducible refine Rd.alloc ?_ _ | with_reducible refine Rd.step ?_ (by with_reducible assumption) | with_reducible refine Rd.drew ?_ | with_reducible refine Rd.drewN ?_ _ | with_reducible refine RdA.alloc ?_ _ | with_reducible refine RdA.step ?_ (by with_reducible assumption) | with_reducible refine RdA.drew ?_ | with_reducible refine RdA.drewN ?_ _)))
  · (try assumption)
  rintro e w4 ⟨rfl, hb4⟩
  have hv4_p0_0 : w4.cell? ⟨w.heap.size, 0, none⟩ = some (.slice A0 n0 c0) := by
    ((repeat (first | with_reducible assumption | with_reducible refine cell_step ?_ (by with_reducible assumption) | with_reducible refine cell_drew ?_ | with_reducible refine cell_drewN ?_ _ | (refine cell_new rfl ?_; with_reducible rfl) | (refine cell_new rfl ?_; simp; done) | with_reducible refine cell_alloc ?_ _)))
  have ha4_p0_0 : ∀ o, (w4.alloc o).cell? ⟨w.heap.size, 0, none⟩ = some (.slice A0 n0 c0) := fun o => cell_alloc hv4_p0_0 o
  have hv4_x0 : w4.cell? ⟨w3.heap.size, 0, none⟩ = some (.slice A3 n0 d3) := by
    ((repeat (first | with_reducible assumption | with_reducible refine cell_step ?_ (by with_reducible assumption) | with_reducible refine cell_drew ?_ | with_reducible refine cell_drewN ?_ _ | (refine cell_new rfl ?_; with_reducible rfl) | (refine cell_new rfl ?_; simp; done) | with_reducible refine cell_alloc ?_ _)))
  have ha4_x0 : ∀ o, (w4.alloc o).cell? ⟨w3.heap.size, 0, none⟩ = some (.slice A3 n0 d3) := fun o => cell_alloc hv4_x0 o
  go_wp2_with fail
  go_region_held3 (fun w' => w'.cell? ⟨w.heap.size, 0, none⟩ = some (.slice A0 n0 c0) ∧ w'.cell? ⟨w3.heap.size, 0, none⟩ = some (.slice A3 n0 d3)) (go_keep) ((first | (go_at_call 12; refine Calls.mono (toRegion_c l0 _ _ _ _ ?_ (by omega)) ?_; (((repeat (first | with_reducible assumption | with_reducible refine Rd.alloc ?_ _ | with_reducible refine Rd.step ?_ (by with_reducible assumption) | with_reducible refine Rd.drew ?_ | with_reducible refine Rd.drewN ?_ _ | with_reducible refine RdA.alloc ?_ _ | with_reducible refine RdA.step ?_ (by with_reducible assumption) | with_reducible refine RdA.drew ?_ | with_reducible refine RdA.drewN ?_ _)))); rintro e w5 ⟨v5, rfl, ho5, hb5⟩; obtain ⟨A5, d5, rfl, hle5⟩ := own_form3 ho5; have hx5 := own_rd ho5; have hob5 := own_mono (base' := w.heap.size) ho5 (by ((repeat (first | exact Nat.le_refl _ | with_reducible assumption | with_reducible refine Nat.le_trans ?_ (Below.size (by with_reducible assumption)) | with_reducible refine Nat.le_trans ?_ (grown_size (by with_reducible assumption)) | with_reducible refine size_alloc ?_ _ | with_reducible refine size_drewN ?_ _ | with_reducible refine size_drew ?_)))); have hv5_p0_0 : w5.cell? ⟨w.heap.size, 0, none⟩ = some (.slice A0 n0 c0) := (by ((repeat (first | with_reducible assumption | with_reducible refine cell_step ?_ (by with_reducible assumption) | with_reducible refine cell_drew ?_ | with_reducible refine cell_drewN ?_ _ | (refine cell_new rfl ?_; with_reducible rfl) | (refine cell_new rfl ?_; simp; done) | with_reducible refine cell_alloc ?_ _)))); have ha5_p0_0 : ∀ o, (w5.alloc o).cell? ⟨w.heap.size, 0, none⟩ = some (.slice A0 n0 c0) := fun o => cell_alloc hv5_p0_0 o; have hv5_x0 : w5.cell? ⟨w3.heap.size, 0, none⟩ = some (.slice A3 n0 d3) := (by ((repeat (first | with_reducible assumption | with_reducible refine cell_step ?_ (by with_reducible assumption) | with_reducible refine cell_drew ?_ | with_reducible refine cell_drewN ?_ _ | (refine cell_new rfl ?_; with_reducible rfl) | (refine cell_new rfl ?_; simp; done) | with_reducible refine cell_alloc ?_ _)))); have ha5_x0 : ∀ o, (w5.alloc o).cell? ⟨w3.heap.size, 0, none⟩ = some (.slice A3 n0 d3) := fun o => cell_alloc hv5_x0 o) | (go_at_call 15; refine Calls.mono (eqRegion_c l0 l0 A3 A5 n0 _ n0 _ _ ?_ ?_ ?_ ?_) ?_; (((repeat (first | with_reducible assumption | with_reducible refine Rd.alloc ?_ _ | with_reducible refine Rd.step ?_ (by with_reducible assumption) | with_reducible refine Rd.drew ?_ | with_reducible refine Rd.drewN ?_ _ | with_reducible refine RdA.alloc ?_ _ | with_reducible refine RdA.step ?_ (by with_reducible assumption) | with_reducible refine RdA.drew ?_ | with_reducible refine RdA.drewN ?_ _)))); (((repeat (first | with_reducible assumption | with_reducible refine Rd.alloc ?_ _ | with_reducible refine Rd.step ?_ (by with_reducible assumption) | with_reducible refine Rd.drew ?_ | with_reducible refine Rd.drewN ?_ _ | with_reducible refine RdA.alloc ?_ _ | with_reducible refine RdA.step ?_ (by with_reducible assumption) | with_reducible refine RdA.drew ?_ | with_reducible refine RdA.drewN ?_ _)))); ((first | omega | assumption)); ((first | omega | assumption)); rintro e w6 ⟨rfl, hb6⟩; have hv6_p0_0 : w6.cell? ⟨w.heap.size, 0, none⟩ = some (.slice A0 n0 c0) := (by ((repeat (first | with_reducible assumption | with_reducible refine cell_step ?_ (by with_reducible assumption) | with_reducible refine cell_drew ?_ | with_reducible refine cell_drewN ?_ _ | (refine cell_new rfl ?_; with_reducible rfl) | (refine cell_new rfl ?_; simp; done) | with_reducible refine cell_alloc ?_ _)))); have ha6_p0_0 : ∀ o, (w6.alloc o).cell? ⟨w.heap.size, 0, none⟩ = some (.slice A0 n0 c0) := fun o => cell_alloc hv6_p0_0 o; have hv6_x0 : w6.cell? ⟨w3.heap.size, 0, none⟩ = some (.slice A3 n0 d3) := (by ((repeat (first | with_reducible assumption | with_reducible refine cell_step ?_ (by with_reducible assumption) | with_reducible refine cell_drew ?_ | with_reducible refine cell_drewN ?_ _ | (refine cell_new rfl ?_; with_reducible rfl) | (refine cell_new rfl ?_; simp; done) | with_reducible refine cell_alloc ?_ _)))); have ha6_x0 : ∀ o, (w6.alloc o).cell? ⟨w3.heap.size, 0, none⟩ = some (.slice A3 n0 d3) := fun o => cell_alloc hv6_x0 o)))
  go_wp2
  go_ret
  exact ⟨rfl, by ((repeat (first | exact Below.refl _ _ | with_reducible assumption | refine Below.alloc0 ?_ _ | refine Below.step0 ?_ (by with_reducible assumption) | refine Below.step ?_ (by with_reducible assumption) ?_ | refine Below.alloc ?_ ?_ _ | refine Below.drew ?_ | refine below_drewN ?_ _ | refine Below.setCell ?_ ?_ _)) <;> (first | omega | exact hsz | exact Below.size (by with_reducible assumption) | (simp; done) | (simp; omega) | (simp at *; omega)))⟩

set_option maxRecDepth 100000 in
theorem lifted (os : Os) (started : os.Started) (H : Type) (enc : TypeId × Value → H) :
    ReturnsInHanded {} Try.checked os 4 .any (Rows.fnExactMostDominoesSpec.pre6 enc Try.prog Try.f4 Rows.fnExactMostDominoesRow.domain false) (Rows.fnExactMostDominoesSpec.post enc Try.prog Try.f4 false true false false) := by
  refine returnsInHanded_of_change (C := Try.checked) own_knob started (by kernel_rfl) Try.func4
    (ChangeSpec.witness6 (enc := enc) (C := Try.checked) false ⟨#[], #[.agg #[.slice none 0 0]], []⟩ 8 (by kernel_rfl) (by kernel_rfl) (by kernel_rfl) (by kernel_rfl)) ?_
  intro W base args ds gs before hval0 hW hcnd _
  have hval : ∀ (j : Nat) t v, Try.f4.params[j]? = some t → args[j]? = some v → Value.okWide Try.prog W .any base t v := hval0
  have hW' := hW
  obtain ⟨p, q, hA0, hV, rfl, hfz, hnd⟩ := hW
  have hA : DataW.TrodAll enc Try.prog W 0 (fun _ => true) true Try.f4.params.toList args.toList ds p := hA0
  rw [Try.params4] at hA hval
  obtain ⟨v0, vs0, d0, ds0, p0, q0, hargs, rfl, rfl, h0, r0⟩ := trodAll_cons hA
  obtain ⟨rfl, rfl, rfl⟩ := trodAll_nil r0
  obtain rfl : args = #[v0] := by cases args; simp_all
  obtain ⟨rfl, rfl⟩ := trodVars_none hV
  obtain ⟨A0, n0, c0, l0, rfl, hr0, hm0, hw0⟩ := open_reg (hval 0 _ v0 rfl rfl) h0
  clear hA0 hval0
  refine (walk W A0 n0 c0 l0 hr0 hm0 hw0).mono fun e W' ⟨he, hg⟩ => ?_
  subst he
  exact ⟨_, rfl, post_law laid_out (by rw [Try.params4]; decide +kernel) rfl rfl Try.underlying4 rfl hW' hg⟩

theorem over : Rows.fnExactMostDominoesRow.holds Try.pinned (OpenSpec.ofChange Rows.fnExactMostDominoesSpec) :=
  OpenClaim.holds_of_wide 4 Try.f4 rfl rfl rfl rfl rfl rfl rfl ⟨rfl, rfl, rfl, rfl, rfl⟩ rfl rfl rfl rfl rfl (by kernel_rfl) Try.func4 (by kernel_rfl)
    (of_decide_eq_true (by kernel_rfl)) (by unfold Func.isWrapper; first | (rw [if_pos (by decide +kernel)]; kernel_rfl) | (rw [if_neg (by decide +kernel)]; exact ⟨rfl, rfl⟩))
    (fun os started H enc _ => lifted os started H enc)

theorem proved : Rows.FnExactMostDominoesSaid :=
  over
#print axioms proved

end Go.Proofs.Ytafbklfdgpfmgaa.lMostDominoes
