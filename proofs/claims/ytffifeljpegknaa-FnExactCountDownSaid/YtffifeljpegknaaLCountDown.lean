/- FnExactCountDown: the program's CountDown returns what the reference's returns, for all arguments. No condition. -/
import Derived.Test.YtffifeljpegknaaLaw
import Derived.Test.YtffifeljpegknaaSame
namespace Go.Proofs.Ytffifeljpegknaa.lCountDown
open Go.ChangeShapes Go.WideShapes Go.ChangeAt Go.RowKit

set_option maxHeartbeats 2000000 in
theorem walk (w : World) (A0 : Option Addr) (n0 c0 : Nat) (l0 : List Dom) (hr0 : RdA w 3 A0 n0 (dsl l0)) (hm0 : n0 ≤ maxLen) (_ : ∀ z ∈ l0, (Lit.int .i64 z.x).wf = true ∧ (Lit.int .i64 z.y).wf = true) :
    Calls Try.prog 7 #[.slice A0 n0 c0] w fun e w' => e = .returned (.bool true) ∧ Below w.heap.size w w' := by
  unfold maxLen at hm0
  have hsz : w.heap.size ≤ w.heap.size := Nat.le_refl _
  by_cases hn0 : n0 ≤ 1048576
  rotate_left
  · go_enter Try.func7, Try.ntmps7
    go_wp2_with fail
    refine (szDominoS_c (1048576) _ _ _ (by omega) (by omega) (by omega) _).mono ?_
    rintro e wz ⟨rfl, rfl⟩
    rw [if_pos (by omega)]
    go_wp2
    go_ret
    exact ⟨rfl, by ((repeat (first | exact Below.refl _ _ | with_reducible assumption | refine Below.step0 ?_ (by assumption) | refine Below.alloc0 ?_ _ | refine Below.step ?_ (by assumption) ?_ | refine Below.alloc ?_ ?_ _ | refine Below.drew ?_ | refine below_drewN ?_ _ | refine Below.setCell ?_ ?_ _)) <;> (first | omega | exact hsz | exact Below.size (by assumption) | (simp; done) | (simp; omega) | (simp at *; omega)))⟩
  go_enter Try.func7, Try.ntmps7
  go_wp2_with fail
  refine (szDominoS_c (1048576) _ _ _ (by omega) (by omega) (by omega) _).mono ?_
  rintro e wz ⟨rfl, rfl⟩
  rw [if_neg (by omega)]
  have e0 : (((countDown l0 : Int)) == ((countDown l0 : Int))) = true := by simp
  have e0' : (((countDown l0 : Int)) != ((countDown l0 : Int))) = false := by simp
  go_wp2_with fail
  refine (toDominoS_c l0 _ _ _ _ (by ((repeat (first | with_reducible assumption | refine Rd.step ?_ (by assumption) | refine Rd.alloc ?_ _ | refine Rd.drew ?_ | refine Rd.drewN ?_ _ | refine RdA.step ?_ (by assumption) | refine RdA.alloc ?_ _ | refine RdA.drew ?_ | refine RdA.drewN ?_ _)))) (by omega)).mono ?_
  rintro e w1 ⟨v1, rfl, ho1, hb1⟩
  obtain ⟨A1, d1, rfl⟩ := own_form2 ho1
  have hx1 := own_rd ho1
  go_wp2_with fail
  refine (countDown_spec l0 _ _ _ _ (by ((repeat (first | with_reducible assumption | refine Rd.step ?_ (by assumption) | refine Rd.alloc ?_ _ | refine Rd.drew ?_ | refine Rd.drewN ?_ _ | refine RdA.step ?_ (by assumption) | refine RdA.alloc ?_ _ | refine RdA.drew ?_ | refine RdA.drewN ?_ _)))) (by omega)).mono ?_
  rintro e w2 ⟨rfl, hb2⟩
  go_wp2_with fail
  refine (toDominoS_c l0 _ _ _ _ (by ((repeat (first | with_reducible assumption | refine Rd.step ?_ (by assumption) | refine Rd.alloc ?_ _ | refine Rd.drew ?_ | refine Rd.drewN ?_ _ | refine RdA.step ?_ (by assumption) | refine RdA.alloc ?_ _ | refine RdA.drew ?_ | refine RdA.drewN ?_ _)))) (by omega)).mono ?_
  rintro e w3 ⟨v3, rfl, ho3, hb3⟩
  obtain ⟨A3, d3, rfl⟩ := own_form2 ho3
  have hx3 := own_rd ho3
  go_wp2_with fail
  refine (countDown_impl l0 _ _ _ _ (by ((repeat (first | with_reducible assumption | refine Rd.step ?_ (by assumption) | refine Rd.alloc ?_ _ | refine Rd.drew ?_ | refine Rd.drewN ?_ _ | refine RdA.step ?_ (by assumption) | refine RdA.alloc ?_ _ | refine RdA.drew ?_ | refine RdA.drewN ?_ _)))) (by omega)).mono ?_
  rintro e w4 ⟨rfl, hb4⟩
  go_wp2_with fail
  refine (toDominoS_c l0 _ _ _ _ (by ((repeat (first | with_reducible assumption | refine Rd.step ?_ (by assumption) | refine Rd.alloc ?_ _ | refine Rd.drew ?_ | refine Rd.drewN ?_ _ | refine RdA.step ?_ (by assumption) | refine RdA.alloc ?_ _ | refine RdA.drew ?_ | refine RdA.drewN ?_ _)))) (by omega)).mono ?_
  rintro e w5 ⟨v5, rfl, ho5, hb5⟩
  obtain ⟨A5, d5, rfl⟩ := own_form2 ho5
  have hx5 := own_rd ho5
  go_wp2_with fail
  refine (eqDominoS_c l0 l0 _ _ _ _ _ _ _ (by ((repeat (first | with_reducible assumption | refine Rd.step ?_ (by assumption) | refine Rd.alloc ?_ _ | refine Rd.drew ?_ | refine Rd.drewN ?_ _ | refine RdA.step ?_ (by assumption) | refine RdA.alloc ?_ _ | refine RdA.drew ?_ | refine RdA.drewN ?_ _)))) (by ((repeat (first | with_reducible assumption | refine Rd.step ?_ (by assumption) | refine Rd.alloc ?_ _ | refine Rd.drew ?_ | refine Rd.drewN ?_ _ | refine RdA.step ?_ (by assumption) | refine RdA.alloc ?_ _ | refine RdA.drew ?_ | refine RdA.drewN ?_ _)))) (by omega) (by omega)).mono ?_
  rintro e w6 ⟨rfl, hb6⟩
  go_wp2
  go_ret
  exact ⟨rfl, by ((repeat (first | exact Below.refl _ _ | with_reducible assumption | refine Below.step0 ?_ (by assumption) | refine Below.alloc0 ?_ _ | refine Below.step ?_ (by assumption) ?_ | refine Below.alloc ?_ ?_ _ | refine Below.drew ?_ | refine below_drewN ?_ _ | refine Below.setCell ?_ ?_ _)) <;> (first | omega | exact hsz | exact Below.size (by assumption) | (simp; done) | (simp; omega) | (simp at *; omega)))⟩

set_option maxRecDepth 100000 in
theorem lifted (os : Os) (started : os.Started) (H : Type) (enc : TypeId × Value → H) :
    ReturnsInHanded {} Try.checked os 7 .any (Rows.fnExactCountDownSpec.pre6 enc Try.prog Try.f7 Rows.fnExactCountDownRow.domain false) (Rows.fnExactCountDownSpec.post enc Try.prog Try.f7 false true false false) := by
  refine returnsInHanded_of_change (C := Try.checked) own_knob started (by kernel_rfl) Try.func7
    (ChangeSpec.witness6 (enc := enc) (C := Try.checked) false ⟨#[], #[.slice none 0 0], []⟩ 8 (by kernel_rfl) (by kernel_rfl) (by kernel_rfl) (by kernel_rfl)) ?_
  intro W base args ds gs before hval0 hW hcnd _
  have hval : ∀ (j : Nat) t v, Try.f7.params[j]? = some t → args[j]? = some v → Value.okWide Try.prog W .any base t v := hval0
  have hW' := hW
  obtain ⟨p, q, hA0, hV, rfl, hfz, hnd⟩ := hW
  have hA : DataW.TrodAll enc Try.prog W 0 (fun _ => true) true Try.f7.params.toList args.toList ds p := hA0
  rw [Try.params7] at hA hval
  obtain ⟨v0, vs0, d0, ds0, p0, q0, hargs, rfl, rfl, h0, r0⟩ := trodAll_cons hA
  obtain ⟨rfl, rfl, rfl⟩ := trodAll_nil r0
  obtain rfl : args = #[v0] := by cases args; simp_all
  obtain ⟨rfl, rfl⟩ := trodVars_none hV
  obtain ⟨A0, n0, c0, l0, rfl, hr0, hm0, hw0⟩ := open_ds (hval 0 _ v0 rfl rfl) h0
  clear hA0 hval0
  refine (walk W A0 n0 c0 l0 hr0 hm0 hw0).mono fun e W' ⟨he, hg⟩ => ?_
  subst he
  exact ⟨_, rfl, post_law laid_out (by rw [Try.params7]; decide +kernel) rfl rfl Try.underlying4 rfl hW' hg⟩

theorem over : Rows.fnExactCountDownRow.holds Try.pinned (OpenSpec.ofChange Rows.fnExactCountDownSpec) :=
  OpenClaim.holds_of_wide 7 Try.f7 rfl rfl rfl rfl rfl rfl rfl ⟨rfl, rfl, rfl, rfl, rfl⟩ rfl rfl rfl rfl rfl (by kernel_rfl) Try.func7 (by kernel_rfl)
    (of_decide_eq_true (by kernel_rfl)) (by unfold Func.isWrapper; first | (rw [if_pos (by decide +kernel)]; kernel_rfl) | (rw [if_neg (by decide +kernel)]; exact ⟨rfl, rfl⟩))
    (fun os started H enc _ => lifted os started H enc)

theorem proved : Rows.FnExactCountDownSaid :=
  over
#print axioms proved

end Go.Proofs.Ytffifeljpegknaa.lCountDown
