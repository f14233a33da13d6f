/- FnExactHeightSum: the program's HeightSum returns what the reference's returns, for all arguments. No condition. -/
import Derived.Test.YtffifeljpegknaaLaw
import Derived.Test.YtffifeljpegknaaHs
namespace Go.Proofs.Ytffifeljpegknaa.lHeightSum
open Go.ChangeShapes Go.WideShapes Go.ChangeAt Go.RowKit

set_option maxHeartbeats 1000000 in
theorem walk (l : List Int) (A : Option Addr) (n c : Nat) (w : World) (hrd : RdA w 1 A n (isl l)) (hm : n ≤ maxLen) :
    Calls Try.prog 4 #[.slice A n c] w fun e w' => e = .returned (.bool true) ∧ Below w.heap.size w w' := by
  unfold maxLen at hm
  by_cases hn : n ≤ 1048576
  · go_enter Try.func4, Try.ntmps4
    go_wp2_with fail
    refine (toIntS_c l _ _ _ _ hrd hn).mono ?_
    rintro e w1 ⟨v1, rfl, ho1, hb1⟩
    obtain ⟨A1, c1, rfl, hr1, _, _⟩ := own_form ho1
    go_wp2_with fail
    refine (heightSum_spec l _ _ _ _ hr1 (by omega)).mono ?_
    rintro e w2 ⟨rfl, hb2⟩
    go_wp2_with fail
    have hb12 := Below.step hb1 hb2 hb1.size
    refine (toIntS_c l _ _ _ _ (hrd.below hb12 (Nat.le_refl _)) hn).mono ?_
    rintro e w3 ⟨v3, rfl, ho3, hb3⟩
    obtain ⟨A3, c3, rfl, hr3, _, _⟩ := own_form ho3
    go_wp2_with fail
    refine (heightSum_impl l _ _ _ _ hr3 (by omega)).mono ?_
    rintro e w4 ⟨rfl, hb4⟩
    have e1 : (hsum l == hsum l) = true := by simp
    have e2 : (hsum l != hsum l) = false := by simp
    have hb13 := Below.step hb12 hb3 hb12.size
    have hb14 := Below.step hb13 hb4 hb13.size
    go_wp2_with fail
    refine (toIntS_c l _ _ _ _ (hrd.below hb14 (Nat.le_refl _)) hn).mono ?_
    rintro e w5 ⟨v5, rfl, ho5, hb5⟩
    obtain ⟨A5, c5, rfl, hr5, _, _⟩ := own_form ho5
    have hr3' := (hr3.below hb4 (Nat.le_refl _)).below hb5 (Nat.le_refl _)
    go_wp2_with fail
    refine (eqIntS_c l l _ _ _ _ _ _ _ hr3' hr5 (by omega) (by omega)).mono ?_
    rintro e w6 ⟨rfl, hb6⟩
    have hb15 := Below.step hb14 hb5 hb14.size
    have hb16 := Below.step hb15 hb6 hb15.size
    have e3 : decide (l = l) = true := by simp
    go_wp2
    go_ret
    exact ⟨rfl, hb16⟩
  · go_enter Try.func4, Try.ntmps4
    go_wp2
    go_ret
    exact ⟨rfl, Below.refl _ _⟩

set_option maxRecDepth 100000 in
theorem lifted (os : Os) (started : os.Started) (H : Type) (enc : TypeId × Value → H) :
    ReturnsInHanded {} Try.checked os 4 .any (Rows.fnExactHeightSumSpec.pre6 enc Try.prog Try.f4 Rows.fnExactHeightSumRow.domain false) (Rows.fnExactHeightSumSpec.post enc Try.prog Try.f4 false true false false) := by
  refine returnsInHanded_of_change (C := Try.checked) own_knob started (by kernel_rfl) Try.func4
    (ChangeSpec.witness6 (enc := enc) (C := Try.checked) false ⟨#[], #[.slice none 0 0], []⟩ 8 (by kernel_rfl) (by kernel_rfl) (by kernel_rfl) (by kernel_rfl)) ?_
  intro W base args ds gs before hval0 hW hcnd _
  have hval : ∀ (j : Nat) t v, Try.f4.params[j]? = some t → args[j]? = some v → Value.okWide Try.prog W .any base t v := hval0
  have hW' := hW
  obtain ⟨p, q, hA0, hV, rfl, hfz, hnd⟩ := hW
  have hA : DataW.TrodAll enc Try.prog W 0 (fun _ => true) true Try.f4.params.toList args.toList ds p := hA0
  rw [Try.params4] at hA hval
  obtain ⟨v0, vs0, d0, ds0, p0, q0, hargs, rfl, rfl, h0, r0⟩ := trodAll_cons hA
  obtain ⟨rfl, rfl, rfl⟩ := trodAll_nil r0
  obtain rfl : args = #[v0] := by cases args; simp_all
  obtain ⟨rfl, rfl⟩ := trodVars_none hV
  obtain ⟨A0, n0, c0, l0, rfl, hr0, hm0, hw0⟩ := open_is (hval 0 _ v0 rfl rfl) h0
  clear hA0 hval0
  refine (walk l0 A0 n0 c0 W hr0 hm0).mono fun e W' ⟨he, hg⟩ => ?_
  subst he
  exact ⟨_, rfl, post_law laid_out (by rw [Try.params4]; decide +kernel) rfl rfl Try.underlying4 rfl hW' hg⟩

theorem over : Rows.fnExactHeightSumRow.holds Try.pinned (OpenSpec.ofChange Rows.fnExactHeightSumSpec) :=
  OpenClaim.holds_of_wide 4 Try.f4 rfl rfl rfl rfl rfl rfl rfl ⟨rfl, rfl, rfl, rfl, rfl⟩ rfl rfl rfl rfl rfl (by kernel_rfl) Try.func4 (by kernel_rfl)
    (of_decide_eq_true (by kernel_rfl)) (by unfold Func.isWrapper; first | (rw [if_pos (by decide +kernel)]; kernel_rfl) | (rw [if_neg (by decide +kernel)]; exact ⟨rfl, rfl⟩))
    (fun os started H enc _ => lifted os started H enc)

theorem proved : Rows.FnExactHeightSumSaid :=
  over
#print axioms proved
end Go.Proofs.Ytffifeljpegknaa.lHeightSum
