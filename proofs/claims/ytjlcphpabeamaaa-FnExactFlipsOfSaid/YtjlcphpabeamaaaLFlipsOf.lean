
/- FnExactFlipsOf: the program's FlipsOf returns what the reference's returns, for all arguments. No condition. -/
import Derived.Test.YtjlcphpabeamaaaLaw
import Derived.Test.YtjlcphpabeamaaaFlips
namespace Go.Proofs.Ytjlcphpabeamaaa.lFlipsOf
open Go.ChangeShapes Go.WideShapes Go.ChangeAt Go.RowKit

set_option maxHeartbeats 2000000 in
theorem walk (w : World) (A0 : Option Addr) (n0 c0 : Nat) (l0 : List Dom) (hr0 : RdA w 3 A0 n0 (dsl l0)) (hm0 : n0 ≤ maxLen) (_ : ∀ z ∈ l0, (Lit.int .i64 z.x).wf = true ∧ (Lit.int .i64 z.y).wf = true) :
    Calls Try.prog 4 #[.slice A0 n0 c0] w fun e w' => e = .returned (.bool true) ∧ Below w.heap.size w w' := by
  unfold maxLen at hm0
  have hsz : w.heap.size ≤ w.heap.size := Nat.le_refl _
  by_cases hn0 : n0 ≤ 1048576
  rotate_left
  · go_enter Try.func4, Try.ntmps4
    go_wp2_with fail
    refine (szDominoS_c (1048576) _ _ _ (by omega) (by omega) (by omega) _).mono ?_
    rintro e wz ⟨rfl, rfl⟩
    rw [if_pos (by omega)]
    go_wp2
    go_ret
    exact ⟨rfl, by ((repeat (first | exact Below.refl _ _ | with_reducible assumption | refine Below.alloc0 ?_ _ | refine Below.step0 ?_ (by with_reducible assumption) | refine Below.step ?_ (by with_reducible assumption) ?_ | refine Below.alloc ?_ ?_ _ | refine Below.drew ?_ | refine below_drewN ?_ _ | refine Below.setCell ?_ ?_ _)) <;> (first | omega | exact hsz | exact Below.size (by with_reducible assumption) | (simp; done) | (simp; omega) | (simp at *; omega)))⟩
  go_enter Try.func4, Try.ntmps4
  go_wp2_with fail
  refine (szDominoS_c (1048576) _ _ _ (by omega) (by omega) (by omega) _).mono ?_
  rintro e wz ⟨rfl, rfl⟩
  rw [if_neg (by omega)]
  have hfl := flN_len l0 64
  have hfl2 : (flipsOf l0).length ≤ 64 := hfl
  go_wp2_with fail
  refine Calls.mono (toDominoS_c l0 _ _ _ _ ?_ (by omega)) ?_
  · ((repeat (first | with_reducible assumption | refine Rd.alloc ?_ _ | refine Rd.step ?_ (by with_reducible assumption) | refine Rd.drew ?_ | refine Rd.drewN ?_ _ | refine RdA.alloc ?_ _ | refine RdA.step ?_ (by with_reducible assumption) | refine RdA.drew ?_ | refine RdA.drewN ?_ _)))
  rintro e w1 ⟨v1, rfl, ho1, hb1⟩
  obtain ⟨A1, d1, rfl⟩ := own_form2 ho1
  have hx1 := own_rd ho1
  have hob1 := own_mono (base' := w.heap.size) ho1 (by ((repeat (first | exact Nat.le_refl _ | with_reducible assumption | refine Nat.le_trans ?_ (Below.size (by with_reducible assumption)) | refine Nat.le_trans ?_ (grown_size (by with_reducible assumption)) | refine size_alloc ?_ _))))
  go_wp2_with fail
  refine Calls.mono (flipsOf_spec l0 _ _ _ _ ?_ (by omega)) ?_
  · ((repeat (first | with_reducible assumption | refine Rd.alloc ?_ _ | refine Rd.step ?_ (by with_reducible assumption) | refine Rd.drew ?_ | refine Rd.drewN ?_ _ | refine RdA.alloc ?_ _ | refine RdA.step ?_ (by with_reducible assumption) | refine RdA.drew ?_ | refine RdA.drewN ?_ _)))
  rintro e w2 ⟨v2_0, rfl, ho2_0, hb2⟩
  obtain ⟨A2_0, d2_0, rfl⟩ := own_form2 ho2_0
  have hx2_0 := own_rd ho2_0
  have hob2_0 := own_mono (base' := w.heap.size) ho2_0 (by ((repeat (first | exact Nat.le_refl _ | with_reducible assumption | refine Nat.le_trans ?_ (Below.size (by with_reducible assumption)) | refine Nat.le_trans ?_ (grown_size (by with_reducible assumption)) | refine size_alloc ?_ _))))
  go_wp2_with fail
  refine Calls.mono (toDominoS_c l0 _ _ _ _ ?_ (by omega)) ?_
  · ((repeat (first | with_reducible assumption | refine Rd.alloc ?_ _ | refine Rd.step ?_ (by with_reducible assumption) | refine Rd.drew ?_ | refine Rd.drewN ?_ _ | refine RdA.alloc ?_ _ | refine RdA.step ?_ (by with_reducible assumption) | refine RdA.drew ?_ | refine RdA.drewN ?_ _)))
  rintro e w3 ⟨v3, rfl, ho3, hb3⟩
  obtain ⟨A3, d3, rfl⟩ := own_form2 ho3
  have hx3 := own_rd ho3
  have hob3 := own_mono (base' := w.heap.size) ho3 (by ((repeat (first | exact Nat.le_refl _ | with_reducible assumption | refine Nat.le_trans ?_ (Below.size (by with_reducible assumption)) | refine Nat.le_trans ?_ (grown_size (by with_reducible assumption)) | refine size_alloc ?_ _))))
  go_wp2_with fail
  refine Calls.mono (flipsOf_impl l0 _ _ _ _ ?_ (by omega)) ?_
  · ((repeat (first | with_reducible assumption | refine Rd.alloc ?_ _ | refine Rd.step ?_ (by with_reducible assumption) | refine Rd.drew ?_ | refine Rd.drewN ?_ _ | refine RdA.alloc ?_ _ | refine RdA.step ?_ (by with_reducible assumption) | refine RdA.drew ?_ | refine RdA.drewN ?_ _)))
  rintro e w4 ⟨v4_0, rfl, ho4_0, hb4⟩
  obtain ⟨A4_0, d4_0, rfl⟩ := own_form2 ho4_0
  have hx4_0 := own_rd ho4_0
  have hob4_0 := own_mono (base' := w.heap.size) ho4_0 (by ((repeat (first | exact Nat.le_refl _ | with_reducible assumption | refine Nat.le_trans ?_ (Below.size (by with_reducible assumption)) | refine Nat.le_trans ?_ (grown_size (by with_reducible assumption)) | refine size_alloc ?_ _))))
  go_wp2_with fail
  refine Calls.mono (eqCellS_c (flipsOf l0) (flipsOf l0) A4_0 A2_0 (flipsOf l0).length _ (flipsOf l0).length _ _ ?_ ?_ ?_ ?_) ?_
  · ((repeat (first | with_reducible assumption | refine Rd.alloc ?_ _ | refine Rd.step ?_ (by with_reducible assumption) | refine Rd.drew ?_ | refine Rd.drewN ?_ _ | refine RdA.alloc ?_ _ | refine RdA.step ?_ (by with_reducible assumption) | refine RdA.drew ?_ | refine RdA.drewN ?_ _)))
  · ((repeat (first | with_reducible assumption | refine Rd.alloc ?_ _ | refine Rd.step ?_ (by with_reducible assumption) | refine Rd.drew ?_ | refine Rd.drewN ?_ _ | refine RdA.alloc ?_ _ | refine RdA.step ?_ (by with_reducible assumption) | refine RdA.drew ?_ | refine RdA.drewN ?_ _)))
  · (first | omega | assumption)
  · (first | omega | assumption)
  rintro e w5 ⟨rfl, hb5⟩
  go_wp2_with fail
  refine Calls.mono (toDominoS_c l0 _ _ _ _ ?_ (by omega)) ?_
  · ((repeat (first | with_reducible assumption | refine Rd.alloc ?_ _ | refine Rd.step ?_ (by with_reducible assumption) | refine Rd.drew ?_ | refine Rd.drewN ?_ _ | refine RdA.alloc ?_ _ | refine RdA.step ?_ (by with_reducible assumption) | refine RdA.drew ?_ | refine RdA.drewN ?_ _)))
  rintro e w6 ⟨v6, rfl, ho6, hb6⟩
  obtain ⟨A6, d6, rfl⟩ := own_form2 ho6
  have hx6 := own_rd ho6
  have hob6 := own_mono (base' := w.heap.size) ho6 (by ((repeat (first | exact Nat.le_refl _ | with_reducible assumption | refine Nat.le_trans ?_ (Below.size (by with_reducible assumption)) | refine Nat.le_trans ?_ (grown_size (by with_reducible assumption)) | refine size_alloc ?_ _))))
  go_wp2_with fail
  refine Calls.mono (eqDominoS_c l0 l0 A3 A6 n0 _ n0 _ _ ?_ ?_ (by omega) (by omega)) ?_
  · ((repeat (first | with_reducible assumption | refine Rd.alloc ?_ _ | refine Rd.step ?_ (by with_reducible assumption) | refine Rd.drew ?_ | refine Rd.drewN ?_ _ | refine RdA.alloc ?_ _ | refine RdA.step ?_ (by with_reducible assumption) | refine RdA.drew ?_ | refine RdA.drewN ?_ _)))
  · ((repeat (first | with_reducible assumption | refine Rd.alloc ?_ _ | refine Rd.step ?_ (by with_reducible assumption) | refine Rd.drew ?_ | refine Rd.drewN ?_ _ | refine RdA.alloc ?_ _ | refine RdA.step ?_ (by with_reducible assumption) | refine RdA.drew ?_ | refine RdA.drewN ?_ _)))
  rintro e w7 ⟨rfl, hb7⟩
  go_wp2_with fail
  refine Calls.mono (markDominoS_c l0 A3 n0 _ w.heap.size _ _ ?_ ?_ (by omega) (by omega)) ?_
  · ((repeat (first | with_reducible assumption | refine own_alloc ?_ _ | refine own_step ?_ (by with_reducible assumption) | refine own_drew ?_ | refine own_drewN ?_ _)))
  · (first | omega | assumption)
  rintro e w8 ⟨rfl, hom8, hgm8, hbm8⟩
  have hch8 : Below w.heap.size w w8 := by
    refine Below.trans ?_ (hbm8.mono (by ((repeat (first | exact Nat.le_refl _ | with_reducible assumption | refine Nat.le_trans ?_ (Below.size (by with_reducible assumption)) | refine Nat.le_trans ?_ (grown_size (by with_reducible assumption)) | refine size_alloc ?_ _)))))
    ((repeat (first | exact Below.refl _ _ | with_reducible assumption | refine Below.alloc0 ?_ _ | refine Below.step0 ?_ (by with_reducible assumption) | refine Below.step ?_ (by with_reducible assumption) ?_ | refine Below.alloc ?_ ?_ _ | refine Below.drew ?_ | refine below_drewN ?_ _ | refine Below.setCell ?_ ?_ _)) <;> (first | omega | exact hsz | exact Below.size (by with_reducible assumption) | (simp; done) | (simp; omega) | (simp at *; omega)))
  have ho8_w0 := World.ownsRow.kept (base := w.heap.size) (e := 29) (size := 2) (v := .slice A2_0 (flipsOf l0).length d2_0) (n := (flipsOf l0).length) (xs := csl (flipsOf l0)) (by ((repeat (first | with_reducible assumption | refine own_alloc ?_ _ | refine own_step ?_ (by with_reducible assumption) | refine own_drew ?_ | refine own_drewN ?_ _)))) hgm8 (by first | (refine own_disj ho2_0 ho3 ?_; ((repeat (first | exact Nat.le_refl _ | with_reducible assumption | refine Nat.le_trans ?_ (Below.size (by with_reducible assumption)) | refine Nat.le_trans ?_ (grown_size (by with_reducible assumption)) | refine size_alloc ?_ _))); done) | (refine own_disj' ho2_0 ho3 ?_; ((repeat (first | exact Nat.le_refl _ | with_reducible assumption | refine Nat.le_trans ?_ (Below.size (by with_reducible assumption)) | refine Nat.le_trans ?_ (grown_size (by with_reducible assumption)) | refine size_alloc ?_ _))); done))
  have hx8_w0 := own_rd ho8_w0
  have ho8_g0 := World.ownsRow.kept (base := w.heap.size) (e := 29) (size := 2) (v := .slice A4_0 (flipsOf l0).length d4_0) (n := (flipsOf l0).length) (xs := csl (flipsOf l0)) (by ((repeat (first | with_reducible assumption | refine own_alloc ?_ _ | refine own_step ?_ (by with_reducible assumption) | refine own_drew ?_ | refine own_drewN ?_ _)))) hgm8 (by first | (refine own_disj ho4_0 ho3 ?_; ((repeat (first | exact Nat.le_refl _ | with_reducible assumption | refine Nat.le_trans ?_ (Below.size (by with_reducible assumption)) | refine Nat.le_trans ?_ (grown_size (by with_reducible assumption)) | refine size_alloc ?_ _))); done) | (refine own_disj' ho4_0 ho3 ?_; ((repeat (first | exact Nat.le_refl _ | with_reducible assumption | refine Nat.le_trans ?_ (Below.size (by with_reducible assumption)) | refine Nat.le_trans ?_ (grown_size (by with_reducible assumption)) | refine size_alloc ?_ _))); done))
  have hx8_g0 := own_rd ho8_g0
  have hx8_m := own_rd hom8
  have hr0_8 := hr0.below hch8 (Nat.le_refl _)
  go_wp2_with fail
  refine Calls.mono (eqCellS_c (flipsOf l0) (flipsOf l0) A4_0 A2_0 (flipsOf l0).length _ (flipsOf l0).length _ _ ?_ ?_ ?_ ?_) ?_
  · ((repeat (first | with_reducible assumption | refine Rd.alloc ?_ _ | refine Rd.step ?_ (by with_reducible assumption) | refine Rd.drew ?_ | refine Rd.drewN ?_ _ | refine RdA.alloc ?_ _ | refine RdA.step ?_ (by with_reducible assumption) | refine RdA.drew ?_ | refine RdA.drewN ?_ _)))
  · ((repeat (first | with_reducible assumption | refine Rd.alloc ?_ _ | refine Rd.step ?_ (by with_reducible assumption) | refine Rd.drew ?_ | refine Rd.drewN ?_ _ | refine RdA.alloc ?_ _ | refine RdA.step ?_ (by with_reducible assumption) | refine RdA.drew ?_ | refine RdA.drewN ?_ _)))
  · (first | omega | assumption)
  · (first | omega | assumption)
  rintro e w9 ⟨rfl, hb9⟩
  go_wp2_with fail
  refine Calls.mono (markCellS_c (flipsOf l0) A4_0 (flipsOf l0).length _ w.heap.size _ _ ?_ ?_ (by omega) (by omega)) ?_
  · ((repeat (first | with_reducible assumption | refine own_alloc ?_ _ | refine own_step ?_ (by with_reducible assumption) | refine own_drew ?_ | refine own_drewN ?_ _)))
  · (first | omega | assumption)
  rintro e w10 ⟨rfl, hom10, hgm10, hbm10⟩
  have hch10 : Below w.heap.size w w10 := by
    refine Below.trans ?_ (hbm10.mono (by ((repeat (first | exact Nat.le_refl _ | with_reducible assumption | refine Nat.le_trans ?_ (Below.size (by with_reducible assumption)) | refine Nat.le_trans ?_ (grown_size (by with_reducible assumption)) | refine size_alloc ?_ _)))))
    ((repeat (first | exact Below.refl _ _ | with_reducible assumption | refine Below.alloc0 ?_ _ | refine Below.step0 ?_ (by with_reducible assumption) | refine Below.step ?_ (by with_reducible assumption) ?_ | refine Below.alloc ?_ ?_ _ | refine Below.drew ?_ | refine below_drewN ?_ _ | refine Below.setCell ?_ ?_ _)) <;> (first | omega | exact hsz | exact Below.size (by with_reducible assumption) | (simp; done) | (simp; omega) | (simp at *; omega)))
  have ho10_w0 := World.ownsRow.kept (base := w.heap.size) (e := 29) (size := 2) (v := .slice A2_0 (flipsOf l0).length d2_0) (n := (flipsOf l0).length) (xs := csl (flipsOf l0)) (by ((repeat (first | with_reducible assumption | refine own_alloc ?_ _ | refine own_step ?_ (by with_reducible assumption) | refine own_drew ?_ | refine own_drewN ?_ _)))) hgm10 (by first | (refine own_disj ho2_0 ho4_0 ?_; ((repeat (first | exact Nat.le_refl _ | with_reducible assumption | refine Nat.le_trans ?_ (Below.size (by with_reducible assumption)) | refine Nat.le_trans ?_ (grown_size (by with_reducible assumption)) | refine size_alloc ?_ _))); done) | (refine own_disj' ho2_0 ho4_0 ?_; ((repeat (first | exact Nat.le_refl _ | with_reducible assumption | refine Nat.le_trans ?_ (Below.size (by with_reducible assumption)) | refine Nat.le_trans ?_ (grown_size (by with_reducible assumption)) | refine size_alloc ?_ _))); done))
  have hx10_w0 := own_rd ho10_w0
  have hx10_m := own_rd hom10
  have hr0_10 := hr0.below hch10 (Nat.le_refl _)
  go_wp2_with fail
  refine Calls.mono (heldCellS_c A4_0 (flipsOf l0).length _ _ _ ?_ ?_ (by omega) (by omega)) ?_
  · ((repeat (first | with_reducible assumption | refine Rd.alloc ?_ _ | refine Rd.step ?_ (by with_reducible assumption) | refine Rd.drew ?_ | refine Rd.drewN ?_ _ | refine RdA.alloc ?_ _ | refine RdA.step ?_ (by with_reducible assumption) | refine RdA.drew ?_ | refine RdA.drewN ?_ _)))
  · (first | omega | assumption)
  rintro e w11 ⟨rfl, hb11⟩
  go_wp2_with fail
  refine Calls.mono (toDominoS_c l0 _ _ _ _ ?_ (by omega)) ?_
  · ((repeat (first | with_reducible assumption | refine Rd.alloc ?_ _ | refine Rd.step ?_ (by with_reducible assumption) | refine Rd.drew ?_ | refine Rd.drewN ?_ _ | refine RdA.alloc ?_ _ | refine RdA.step ?_ (by with_reducible assumption) | refine RdA.drew ?_ | refine RdA.drewN ?_ _)))
  rintro e w12 ⟨v12, rfl, ho12, hb12⟩
  obtain ⟨A12, d12, rfl⟩ := own_form2 ho12
  have hx12 := own_rd ho12
  have hob12 := own_mono (base' := w.heap.size) ho12 (by ((repeat (first | exact Nat.le_refl _ | with_reducible assumption | refine Nat.le_trans ?_ (Below.size (by with_reducible assumption)) | refine Nat.le_trans ?_ (grown_size (by with_reducible assumption)) | refine size_alloc ?_ _))))
  go_wp2_with fail
  refine Calls.mono (flipsOf_impl l0 _ _ _ _ ?_ (by omega)) ?_
  · ((repeat (first | with_reducible assumption | refine Rd.alloc ?_ _ | refine Rd.step ?_ (by with_reducible assumption) | refine Rd.drew ?_ | refine Rd.drewN ?_ _ | refine RdA.alloc ?_ _ | refine RdA.step ?_ (by with_reducible assumption) | refine RdA.drew ?_ | refine RdA.drewN ?_ _)))
  rintro e w13 ⟨v13_0, rfl, ho13_0, hb13⟩
  obtain ⟨A13_0, d13_0, rfl⟩ := own_form2 ho13_0
  have hx13_0 := own_rd ho13_0
  have hob13_0 := own_mono (base' := w.heap.size) ho13_0 (by ((repeat (first | exact Nat.le_refl _ | with_reducible assumption | refine Nat.le_trans ?_ (Below.size (by with_reducible assumption)) | refine Nat.le_trans ?_ (grown_size (by with_reducible assumption)) | refine size_alloc ?_ _))))
  go_wp2_with fail
  refine Calls.mono (eqCellS_c (flipsOf l0) (flipsOf l0) A13_0 A2_0 (flipsOf l0).length _ (flipsOf l0).length _ _ ?_ ?_ ?_ ?_) ?_
  · ((repeat (first | with_reducible assumption | refine Rd.alloc ?_ _ | refine Rd.step ?_ (by with_reducible assumption) | refine Rd.drew ?_ | refine Rd.drewN ?_ _ | refine RdA.alloc ?_ _ | refine RdA.step ?_ (by with_reducible assumption) | refine RdA.drew ?_ | refine RdA.drewN ?_ _)))
  · ((repeat (first | with_reducible assumption | refine Rd.alloc ?_ _ | refine Rd.step ?_ (by with_reducible assumption) | refine Rd.drew ?_ | refine Rd.drewN ?_ _ | refine RdA.alloc ?_ _ | refine RdA.step ?_ (by with_reducible assumption) | refine RdA.drew ?_ | refine RdA.drewN ?_ _)))
  · (first | omega | assumption)
  · (first | omega | assumption)
  rintro e w14 ⟨rfl, hb14⟩
  go_wp2_with fail
  refine Calls.mono (heldCellS_c A4_0 (flipsOf l0).length _ _ _ ?_ ?_ (by omega) (by omega)) ?_
  · ((repeat (first | with_reducible assumption | refine Rd.alloc ?_ _ | refine Rd.step ?_ (by with_reducible assumption) | refine Rd.drew ?_ | refine Rd.drewN ?_ _ | refine RdA.alloc ?_ _ | refine RdA.step ?_ (by with_reducible assumption) | refine RdA.drew ?_ | refine RdA.drewN ?_ _)))
  · (first | omega | assumption)
  rintro e w15 ⟨rfl, hb15⟩
  go_wp2
  go_ret
  exact ⟨rfl, by ((repeat (first | exact Below.refl _ _ | with_reducible assumption | refine Below.alloc0 ?_ _ | refine Below.step0 ?_ (by with_reducible assumption) | refine Below.step ?_ (by with_reducible assumption) ?_ | refine Below.alloc ?_ ?_ _ | refine Below.drew ?_ | refine below_drewN ?_ _ | refine Below.setCell ?_ ?_ _)) <;> (first | omega | exact hsz | exact Below.size (by with_reducible assumption) | (simp; done) | (simp; omega) | (simp at *; omega)))⟩

set_option maxRecDepth 100000 in
theorem lifted (os : Os) (started : os.Started) (H : Type) (enc : TypeId × Value → H) :
    ReturnsInHanded {} Try.checked os 4 .any (Rows.fnExactFlipsOfSpec.pre6 enc Try.prog Try.f4 Rows.fnExactFlipsOfRow.domain false) (Rows.fnExactFlipsOfSpec.post enc Try.prog Try.f4 false true false false) := by
  refine returnsInHanded_of_change (C := Try.checked) own_knob started (by kernel_rfl) Try.func4
    (ChangeSpec.witness6 (enc := enc) (C := Try.checked) false ⟨#[], #[.slice none 0 0], []⟩ 8 (by kernel_rfl) (by kernel_rfl) (by kernel_rfl) (by kernel_rfl)) ?_
  intro W base args ds gs before hval0 hW hcnd _
  have hval : ∀ (j : Nat) t v, Try.f4.params[j]? = some t → args[j]? = some v → Value.okWide Try.prog W .any base t v := hval0
  have hW' := hW
  obtain ⟨p, q, hA0, hV, rfl, hfz, hnd⟩ := hW
  have hA : DataW.TrodAll enc Try.prog W 0 (fun _ => true) true Try.f4.params.toList args.toList ds p := hA0
  rw [Try.params4] at hA hval
  obtain ⟨v0, vs0, d0, ds0, p0, q0, hargs, rfl, rfl, h0, r0⟩ := trodAll_cons hA
  obtain ⟨rfl, rfl, rfl⟩ := trodAll_nil r0
  obtain rfl : args = #[v0] := by cases args; simp_all
  obtain ⟨rfl, rfl⟩ := trodVars_none hV
  obtain ⟨A0, n0, c0, l0, rfl, hr0, hm0, hw0⟩ := open_ds (hval 0 _ v0 rfl rfl) h0
  clear hA0 hval0
  refine (walk W A0 n0 c0 l0 hr0 hm0 hw0).mono fun e W' ⟨he, hg⟩ => ?_
  subst he
  exact ⟨_, rfl, post_law laid_out (by rw [Try.params4]; decide +kernel) rfl rfl Try.underlying4 rfl hW' hg⟩

theorem over : Rows.fnExactFlipsOfRow.holds Try.pinned (OpenSpec.ofChange Rows.fnExactFlipsOfSpec) :=
  OpenClaim.holds_of_wide 4 Try.f4 rfl rfl rfl rfl rfl rfl rfl ⟨rfl, rfl, rfl, rfl, rfl⟩ rfl rfl rfl rfl rfl (by kernel_rfl) Try.func4 (by kernel_rfl)
    (of_decide_eq_true (by kernel_rfl)) (by unfold Func.isWrapper; first | (rw [if_pos (by decide +kernel)]; kernel_rfl) | (rw [if_neg (by decide +kernel)]; exact ⟨rfl, rfl⟩))
    (fun os started H enc _ => lifted os started H enc)

theorem proved : Rows.FnExactFlipsOfSaid :=
  over
#print axioms proved

end Go.Proofs.Ytjlcphpabeamaaa.lFlipsOf
