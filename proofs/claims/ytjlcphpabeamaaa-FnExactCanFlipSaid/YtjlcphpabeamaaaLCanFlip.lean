
/- FnExactCanFlip: the program's CanFlip returns what the reference's returns, for all arguments. No condition. -/
import Derived.Test.YtjlcphpabeamaaaLaw
import Derived.Test.YtjlcphpabeamaaaFlip
namespace Go.Proofs.Ytjlcphpabeamaaa.lCanFlip
open Go.ChangeShapes Go.WideShapes Go.ChangeAt Go.RowKit

set_option maxHeartbeats 2000000 in
theorem walk (w : World) (A0 : Option Addr) (n0 c0 : Nat) (l0 : List Dom) (hr0 : RdA w 3 A0 n0 (dsl l0)) (hm0 : n0 ≤ maxLen) (_ : ∀ z ∈ l0, (Lit.int .i64 z.x).wf = true ∧ (Lit.int .i64 z.y).wf = true) (l1 : Cel) (_ : (Lit.int .i64 l1.x).wf = true ∧ (Lit.int .i64 l1.y).wf = true) :
    Calls Try.prog 3 #[.slice A0 n0 c0, .agg #[.int .i64 l1.x, .int .i64 l1.y]] w fun e w' => e = .returned (.bool true) ∧ Below w.heap.size w w' := by
  unfold maxLen at hm0
  have hsz : w.heap.size ≤ w.heap.size := Nat.le_refl _
  by_cases hn0 : n0 ≤ 1048576
  rotate_left
  · go_enter Try.func3, Try.ntmps3
    go_wp2_with fail
    refine (szDominoS_c (1048576) _ _ _ (by omega) (by omega) (by omega) _).mono ?_
    rintro e wz ⟨rfl, rfl⟩
    rw [if_pos (by omega)]
    go_wp2
    go_ret
    exact ⟨rfl, by ((repeat (first | exact Below.refl _ _ | with_reducible assumption | refine Below.alloc0 ?_ _ | refine Below.step0 ?_ (by with_reducible assumption) | refine Below.step ?_ (by with_reducible assumption) ?_ | refine Below.alloc ?_ ?_ _ | refine Below.drew ?_ | refine below_drewN ?_ _ | refine Below.setCell ?_ ?_ _)) <;> (first | omega | exact hsz | exact Below.size (by with_reducible assumption) | (simp; done) | (simp; omega) | (simp at *; omega)))⟩
  go_enter Try.func3, Try.ntmps3
  go_wp2_with fail
  refine (szDominoS_c (1048576) _ _ _ (by omega) (by omega) (by omega) _).mono ?_
  rintro e wz ⟨rfl, rfl⟩
  rw [if_neg (by omega)]
  have e0 : ((canB l0 l1.x l1.y) == (canB l0 l1.x l1.y)) = true := by simp
  have e0' : ((canB l0 l1.x l1.y) != (canB l0 l1.x l1.y)) = false := by simp
  go_wp2_with fail
  go_region_held3 (fun w' => w'.cell? ⟨w.heap.size, 0, none⟩ = some (.int .i64 l1.x) ∧ w'.cell? ⟨w.heap.size, 1, none⟩ = some (.int .i64 l1.y)) (go_keep) ((first | (go_at_call 11; refine Calls.mono (toDominoS_c l0 _ _ _ _ ?_ (by omega)) ?_; (((repeat (first | with_reducible assumption | refine Rd.alloc ?_ _ | refine Rd.step ?_ (by with_reducible assumption) | refine Rd.drew ?_ | refine Rd.drewN ?_ _ | refine RdA.alloc ?_ _ | refine RdA.step ?_ (by with_reducible assumption) | refine RdA.drew ?_ | refine RdA.drewN ?_ _)))); rintro e w1 ⟨v1, rfl, ho1, hb1⟩; obtain ⟨A1, d1, rfl⟩ := own_form2 ho1; have hx1 := own_rd ho1; have hob1 := own_mono (base' := w.heap.size) ho1 (by ((repeat (first | exact Nat.le_refl _ | with_reducible assumption | refine Nat.le_trans ?_ (Below.size (by with_reducible assumption)) | refine Nat.le_trans ?_ (grown_size (by with_reducible assumption)) | refine size_alloc ?_ _)))); have hv1_p1_0 : w1.cell? ⟨w.heap.size, 0, none⟩ = some (.int .i64 l1.x) := (by ((repeat (first | with_reducible assumption | (refine cell_new rfl ?_; with_reducible rfl) | (refine cell_new rfl ?_; simp; done) | refine cell_alloc ?_ _ | refine cell_step ?_ (by with_reducible assumption) | refine cell_drew ?_ | refine cell_drewN ?_ _)))); have ha1_p1_0 : ∀ o, (w1.alloc o).cell? ⟨w.heap.size, 0, none⟩ = some (.int .i64 l1.x) := fun o => cell_alloc hv1_p1_0 o; have hv1_p1_1 : w1.cell? ⟨w.heap.size, 1, none⟩ = some (.int .i64 l1.y) := (by ((repeat (first | with_reducible assumption | (refine cell_new rfl ?_; with_reducible rfl) | (refine cell_new rfl ?_; simp; done) | refine cell_alloc ?_ _ | refine cell_step ?_ (by with_reducible assumption) | refine cell_drew ?_ | refine cell_drewN ?_ _)))); have ha1_p1_1 : ∀ o, (w1.alloc o).cell? ⟨w.heap.size, 1, none⟩ = some (.int .i64 l1.y) := fun o => cell_alloc hv1_p1_1 o) | (go_at_call 12; refine Calls.mono (toCell_c _ _ _) ?_; rintro e w2 ⟨rfl, hb2⟩; have hv2_p1_0 : w2.cell? ⟨w.heap.size, 0, none⟩ = some (.int .i64 l1.x) := (by ((repeat (first | with_reducible assumption | (refine cell_new rfl ?_; with_reducible rfl) | (refine cell_new rfl ?_; simp; done) | refine cell_alloc ?_ _ | refine cell_step ?_ (by with_reducible assumption) | refine cell_drew ?_ | refine cell_drewN ?_ _)))); have ha2_p1_0 : ∀ o, (w2.alloc o).cell? ⟨w.heap.size, 0, none⟩ = some (.int .i64 l1.x) := fun o => cell_alloc hv2_p1_0 o; have hv2_p1_1 : w2.cell? ⟨w.heap.size, 1, none⟩ = some (.int .i64 l1.y) := (by ((repeat (first | with_reducible assumption | (refine cell_new rfl ?_; with_reducible rfl) | (refine cell_new rfl ?_; simp; done) | refine cell_alloc ?_ _ | refine cell_step ?_ (by with_reducible assumption) | refine cell_drew ?_ | refine cell_drewN ?_ _)))); have ha2_p1_1 : ∀ o, (w2.alloc o).cell? ⟨w.heap.size, 1, none⟩ = some (.int .i64 l1.y) := fun o => cell_alloc hv2_p1_1 o) | (go_at_call 10; refine Calls.mono (canFlip_spec l0 _ _ _ _ _ _ ?_ (by omega)) ?_; (((repeat (first | with_reducible assumption | refine Rd.alloc ?_ _ | refine Rd.step ?_ (by with_reducible assumption) | refine Rd.drew ?_ | refine Rd.drewN ?_ _ | refine RdA.alloc ?_ _ | refine RdA.step ?_ (by with_reducible assumption) | refine RdA.drew ?_ | refine RdA.drewN ?_ _)))); rintro e w3 ⟨rfl, hb3⟩; have hv3_p1_0 : w3.cell? ⟨w.heap.size, 0, none⟩ = some (.int .i64 l1.x) := (by ((repeat (first | with_reducible assumption | (refine cell_new rfl ?_; with_reducible rfl) | (refine cell_new rfl ?_; simp; done) | refine cell_alloc ?_ _ | refine cell_step ?_ (by with_reducible assumption) | refine cell_drew ?_ | refine cell_drewN ?_ _)))); have ha3_p1_0 : ∀ o, (w3.alloc o).cell? ⟨w.heap.size, 0, none⟩ = some (.int .i64 l1.x) := fun o => cell_alloc hv3_p1_0 o; have hv3_p1_1 : w3.cell? ⟨w.heap.size, 1, none⟩ = some (.int .i64 l1.y) := (by ((repeat (first | with_reducible assumption | (refine cell_new rfl ?_; with_reducible rfl) | (refine cell_new rfl ?_; simp; done) | refine cell_alloc ?_ _ | refine cell_step ?_ (by with_reducible assumption) | refine cell_drew ?_ | refine cell_drewN ?_ _)))); have ha3_p1_1 : ∀ o, (w3.alloc o).cell? ⟨w.heap.size, 1, none⟩ = some (.int .i64 l1.y) := fun o => cell_alloc hv3_p1_1 o)))
  go_wp2_with fail
  refine Calls.mono (toDominoS_c l0 _ _ _ _ ?_ (by omega)) ?_
  · ((repeat (first | with_reducible assumption | refine Rd.alloc ?_ _ | refine Rd.step ?_ (by with_reducible assumption) | refine Rd.drew ?_ | refine Rd.drewN ?_ _ | refine RdA.alloc ?_ _ | refine RdA.step ?_ (by with_reducible assumption) | refine RdA.drew ?_ | refine RdA.drewN ?_ _)))
  rintro e w4 ⟨v4, rfl, ho4, hb4⟩
  obtain ⟨A4, d4, rfl⟩ := own_form2 ho4
  have hx4 := own_rd ho4
  have hob4 := own_mono (base' := w.heap.size) ho4 (by ((repeat (first | exact Nat.le_refl _ | with_reducible assumption | refine Nat.le_trans ?_ (Below.size (by with_reducible assumption)) | refine Nat.le_trans ?_ (grown_size (by with_reducible assumption)) | refine size_alloc ?_ _))))
  have hv4_p1_0 : w4.cell? ⟨w.heap.size, 0, none⟩ = some (.int .i64 l1.x) := by
    ((repeat (first | with_reducible assumption | (refine cell_new rfl ?_; with_reducible rfl) | (refine cell_new rfl ?_; simp; done) | refine cell_alloc ?_ _ | refine cell_step ?_ (by with_reducible assumption) | refine cell_drew ?_ | refine cell_drewN ?_ _)))
  have ha4_p1_0 : ∀ o, (w4.alloc o).cell? ⟨w.heap.size, 0, none⟩ = some (.int .i64 l1.x) := fun o => cell_alloc hv4_p1_0 o
  have hv4_p1_1 : w4.cell? ⟨w.heap.size, 1, none⟩ = some (.int .i64 l1.y) := by
    ((repeat (first | with_reducible assumption | (refine cell_new rfl ?_; with_reducible rfl) | (refine cell_new rfl ?_; simp; done) | refine cell_alloc ?_ _ | refine cell_step ?_ (by with_reducible assumption) | refine cell_drew ?_ | refine cell_drewN ?_ _)))
  have ha4_p1_1 : ∀ o, (w4.alloc o).cell? ⟨w.heap.size, 1, none⟩ = some (.int .i64 l1.y) := fun o => cell_alloc hv4_p1_1 o
  go_wp2_with fail
  refine Calls.mono (toCell_c _ _ _) ?_
  rintro e w5 ⟨rfl, hb5⟩
  have hv5_p1_0 : w5.cell? ⟨w.heap.size, 0, none⟩ = some (.int .i64 l1.x) := by
    ((repeat (first | with_reducible assumption | (refine cell_new rfl ?_; with_reducible rfl) | (refine cell_new rfl ?_; simp; done) | refine cell_alloc ?_ _ | refine cell_step ?_ (by with_reducible assumption) | refine cell_drew ?_ | refine cell_drewN ?_ _)))
  have ha5_p1_0 : ∀ o, (w5.alloc o).cell? ⟨w.heap.size, 0, none⟩ = some (.int .i64 l1.x) := fun o => cell_alloc hv5_p1_0 o
  have hv5_p1_1 : w5.cell? ⟨w.heap.size, 1, none⟩ = some (.int .i64 l1.y) := by
    ((repeat (first | with_reducible assumption | (refine cell_new rfl ?_; with_reducible rfl) | (refine cell_new rfl ?_; simp; done) | refine cell_alloc ?_ _ | refine cell_step ?_ (by with_reducible assumption) | refine cell_drew ?_ | refine cell_drewN ?_ _)))
  have ha5_p1_1 : ∀ o, (w5.alloc o).cell? ⟨w.heap.size, 1, none⟩ = some (.int .i64 l1.y) := fun o => cell_alloc hv5_p1_1 o
  go_wp2_with fail
  refine Calls.mono (canFlip_impl l0 _ _ _ _ _ _ ?_ (by omega)) ?_
  · ((repeat (first | with_reducible assumption | refine Rd.alloc ?_ _ | refine Rd.step ?_ (by with_reducible assumption) | refine Rd.drew ?_ | refine Rd.drewN ?_ _ | refine RdA.alloc ?_ _ | refine RdA.step ?_ (by with_reducible assumption) | refine RdA.drew ?_ | refine RdA.drewN ?_ _)))
  rintro e w6 ⟨rfl, hb6⟩
  have hv6_p1_0 : w6.cell? ⟨w.heap.size, 0, none⟩ = some (.int .i64 l1.x) := by
    ((repeat (first | with_reducible assumption | (refine cell_new rfl ?_; with_reducible rfl) | (refine cell_new rfl ?_; simp; done) | refine cell_alloc ?_ _ | refine cell_step ?_ (by with_reducible assumption) | refine cell_drew ?_ | refine cell_drewN ?_ _)))
  have ha6_p1_0 : ∀ o, (w6.alloc o).cell? ⟨w.heap.size, 0, none⟩ = some (.int .i64 l1.x) := fun o => cell_alloc hv6_p1_0 o
  have hv6_p1_1 : w6.cell? ⟨w.heap.size, 1, none⟩ = some (.int .i64 l1.y) := by
    ((repeat (first | with_reducible assumption | (refine cell_new rfl ?_; with_reducible rfl) | (refine cell_new rfl ?_; simp; done) | refine cell_alloc ?_ _ | refine cell_step ?_ (by with_reducible assumption) | refine cell_drew ?_ | refine cell_drewN ?_ _)))
  have ha6_p1_1 : ∀ o, (w6.alloc o).cell? ⟨w.heap.size, 1, none⟩ = some (.int .i64 l1.y) := fun o => cell_alloc hv6_p1_1 o
  go_wp2_with fail
  refine Calls.mono (toDominoS_c l0 _ _ _ _ ?_ (by omega)) ?_
  · ((repeat (first | with_reducible assumption | refine Rd.alloc ?_ _ | refine Rd.step ?_ (by with_reducible assumption) | refine Rd.drew ?_ | refine Rd.drewN ?_ _ | refine RdA.alloc ?_ _ | refine RdA.step ?_ (by with_reducible assumption) | refine RdA.drew ?_ | refine RdA.drewN ?_ _)))
  rintro e w7 ⟨v7, rfl, ho7, hb7⟩
  obtain ⟨A7, d7, rfl⟩ := own_form2 ho7
  have hx7 := own_rd ho7
  have hob7 := own_mono (base' := w.heap.size) ho7 (by ((repeat (first | exact Nat.le_refl _ | with_reducible assumption | refine Nat.le_trans ?_ (Below.size (by with_reducible assumption)) | refine Nat.le_trans ?_ (grown_size (by with_reducible assumption)) | refine size_alloc ?_ _))))
  have hv7_p1_0 : w7.cell? ⟨w.heap.size, 0, none⟩ = some (.int .i64 l1.x) := by
    ((repeat (first | with_reducible assumption | (refine cell_new rfl ?_; with_reducible rfl) | (refine cell_new rfl ?_; simp; done) | refine cell_alloc ?_ _ | refine cell_step ?_ (by with_reducible assumption) | refine cell_drew ?_ | refine cell_drewN ?_ _)))
  have ha7_p1_0 : ∀ o, (w7.alloc o).cell? ⟨w.heap.size, 0, none⟩ = some (.int .i64 l1.x) := fun o => cell_alloc hv7_p1_0 o
  have hv7_p1_1 : w7.cell? ⟨w.heap.size, 1, none⟩ = some (.int .i64 l1.y) := by
    ((repeat (first | with_reducible assumption | (refine cell_new rfl ?_; with_reducible rfl) | (refine cell_new rfl ?_; simp; done) | refine cell_alloc ?_ _ | refine cell_step ?_ (by with_reducible assumption) | refine cell_drew ?_ | refine cell_drewN ?_ _)))
  have ha7_p1_1 : ∀ o, (w7.alloc o).cell? ⟨w.heap.size, 1, none⟩ = some (.int .i64 l1.y) := fun o => cell_alloc hv7_p1_1 o
  go_wp2_with fail
  refine Calls.mono (eqDominoS_c l0 l0 A4 A7 n0 _ n0 _ _ ?_ ?_ (by omega) (by omega)) ?_
  · ((repeat (first | with_reducible assumption | refine Rd.alloc ?_ _ | refine Rd.step ?_ (by with_reducible assumption) | refine Rd.drew ?_ | refine Rd.drewN ?_ _ | refine RdA.alloc ?_ _ | refine RdA.step ?_ (by with_reducible assumption) | refine RdA.drew ?_ | refine RdA.drewN ?_ _)))
  · ((repeat (first | with_reducible assumption | refine Rd.alloc ?_ _ | refine Rd.step ?_ (by with_reducible assumption) | refine Rd.drew ?_ | refine Rd.drewN ?_ _ | refine RdA.alloc ?_ _ | refine RdA.step ?_ (by with_reducible assumption) | refine RdA.drew ?_ | refine RdA.drewN ?_ _)))
  rintro e w8 ⟨rfl, hb8⟩
  have hv8_p1_0 : w8.cell? ⟨w.heap.size, 0, none⟩ = some (.int .i64 l1.x) := by
    ((repeat (first | with_reducible assumption | (refine cell_new rfl ?_; with_reducible rfl) | (refine cell_new rfl ?_; simp; done) | refine cell_alloc ?_ _ | refine cell_step ?_ (by with_reducible assumption) | refine cell_drew ?_ | refine cell_drewN ?_ _)))
  have ha8_p1_0 : ∀ o, (w8.alloc o).cell? ⟨w.heap.size, 0, none⟩ = some (.int .i64 l1.x) := fun o => cell_alloc hv8_p1_0 o
  have hv8_p1_1 : w8.cell? ⟨w.heap.size, 1, none⟩ = some (.int .i64 l1.y) := by
    ((repeat (first | with_reducible assumption | (refine cell_new rfl ?_; with_reducible rfl) | (refine cell_new rfl ?_; simp; done) | refine cell_alloc ?_ _ | refine cell_step ?_ (by with_reducible assumption) | refine cell_drew ?_ | refine cell_drewN ?_ _)))
  have ha8_p1_1 : ∀ o, (w8.alloc o).cell? ⟨w.heap.size, 1, none⟩ = some (.int .i64 l1.y) := fun o => cell_alloc hv8_p1_1 o
  go_wp2
  go_ret
  exact ⟨rfl, by ((repeat (first | exact Below.refl _ _ | with_reducible assumption | refine Below.alloc0 ?_ _ | refine Below.step0 ?_ (by with_reducible assumption) | refine Below.step ?_ (by with_reducible assumption) ?_ | refine Below.alloc ?_ ?_ _ | refine Below.drew ?_ | refine below_drewN ?_ _ | refine Below.setCell ?_ ?_ _)) <;> (first | omega | exact hsz | exact Below.size (by with_reducible assumption) | (simp; done) | (simp; omega) | (simp at *; omega)))⟩

set_option maxRecDepth 100000 in
theorem lifted (os : Os) (started : os.Started) (H : Type) (enc : TypeId × Value → H) :
    ReturnsInHanded {} Try.checked os 3 .any (Rows.fnExactCanFlipSpec.pre6 enc Try.prog Try.f3 Rows.fnExactCanFlipRow.domain false) (Rows.fnExactCanFlipSpec.post enc Try.prog Try.f3 false true false false) := by
  refine returnsInHanded_of_change (C := Try.checked) own_knob started (by kernel_rfl) Try.func3
    (ChangeSpec.witness6 (enc := enc) (C := Try.checked) false ⟨#[], #[.slice none 0 0, .agg #[.int .i64 0, .int .i64 0]], []⟩ 8 (by kernel_rfl) (by kernel_rfl) (by kernel_rfl) (by kernel_rfl)) ?_
  intro W base args ds gs before hval0 hW hcnd _
  have hval : ∀ (j : Nat) t v, Try.f3.params[j]? = some t → args[j]? = some v → Value.okWide Try.prog W .any base t v := hval0
  have hW' := hW
  obtain ⟨p, q, hA0, hV, rfl, hfz, hnd⟩ := hW
  have hA : DataW.TrodAll enc Try.prog W 0 (fun _ => true) true Try.f3.params.toList args.toList ds p := hA0
  rw [Try.params3] at hA hval
  obtain ⟨v0, vs0, d0, ds0, p0, q0, hargs, rfl, rfl, h0, r0⟩ := trodAll_cons hA
  obtain ⟨v1, vs1, d1, ds1, p1, q1, rfl, rfl, rfl, h1, r1⟩ := trodAll_cons r0
  obtain ⟨rfl, rfl, rfl⟩ := trodAll_nil r1
  obtain rfl : args = #[v0, v1] := by cases args; simp_all
  obtain ⟨rfl, rfl⟩ := trodVars_none hV
  obtain ⟨A0, n0, c0, l0, rfl, hr0, hm0, hw0⟩ := open_ds (hval 0 _ v0 rfl rfl) h0
  obtain ⟨l1, rfl, hw1⟩ := open_cel (hval 1 _ v1 rfl rfl) h1
  clear hA0 hval0
  refine (walk W A0 n0 c0 l0 hr0 hm0 hw0 l1 hw1).mono fun e W' ⟨he, hg⟩ => ?_
  subst he
  exact ⟨_, rfl, post_law laid_out (by rw [Try.params3]; decide +kernel) rfl rfl Try.underlying4 rfl hW' hg⟩

theorem over : Rows.fnExactCanFlipRow.holds Try.pinned (OpenSpec.ofChange Rows.fnExactCanFlipSpec) :=
  OpenClaim.holds_of_wide 3 Try.f3 rfl rfl rfl rfl rfl rfl rfl ⟨rfl, rfl, rfl, rfl, rfl⟩ rfl rfl rfl rfl rfl (by kernel_rfl) Try.func3 (by kernel_rfl)
    (of_decide_eq_true (by kernel_rfl)) (by unfold Func.isWrapper; first | (rw [if_pos (by decide +kernel)]; kernel_rfl) | (rw [if_neg (by decide +kernel)]; exact ⟨rfl, rfl⟩))
    (fun os started H enc _ => lifted os started H enc)

theorem proved : Rows.FnExactCanFlipSaid :=
  over
#print axioms proved

end Go.Proofs.Ytjlcphpabeamaaa.lCanFlip
