
/- FnExactFlipNeighbors: the program's FlipNeighbors returns what the reference's returns, for all arguments. No condition. -/
import Derived.Test.YtgmckbchcpfhcaaLawB
import Derived.Test.YtgmckbchcpfhcaaW10
namespace Go.Proofs.Ytgmckbchcpfhcaa.lFlipNeighbors
set_option maxRecDepth 20000
open Go.ChangeShapes Go.WideShapes Go.ChangeAt Go.RowKit Cl

set_option maxRecDepth 100000 in
theorem lifted (os : Os) (started : os.Started) (H : Type) (enc : TypeId × Value → H) :
    ReturnsInHanded {} Try.checked os 5 .any (Rows.fnExactFlipNeighborsSpec.pre6 enc Try.prog Try.f5 Rows.fnExactFlipNeighborsRow.domain false) (Rows.fnExactFlipNeighborsSpec.post enc Try.prog Try.f5 false true false false) := by
  refine returnsInHanded_of_change (C := Try.checked) own_knob started (by kernel_rfl) Try.func5
    (ChangeSpec.witness6 (enc := enc) (C := Try.checked) false ⟨#[], #[.agg #[.slice none 0 0], .slice none 0 0], []⟩ 8 (by kernel_rfl) (by kernel_rfl) (by kernel_rfl) (by kernel_rfl)) ?_
  intro W base args ds gs before hval0 hW hcnd _
  have hval : ∀ (j : Nat) t v, Try.f5.params[j]? = some t → args[j]? = some v → Value.okWide Try.prog W .any base t v := hval0
  have hW' := hW
  obtain ⟨p, q, hA0, hV, rfl, hfz, hnd⟩ := hW
  have hA : DataW.TrodAll enc Try.prog W 0 (fun _ => true) true Try.f5.params.toList args.toList ds p := hA0
  rw [Try.params5] at hA hval
  obtain ⟨v0, vs0, d0, ds0, p0, q0, hargs, rfl, rfl, h0, r0⟩ := trodAll_cons hA
  obtain ⟨v1, vs1, d1, ds1, p1, q1, rfl, rfl, rfl, h1, r1⟩ := trodAll_cons r0
  obtain ⟨rfl, rfl, rfl⟩ := trodAll_nil r1
  obtain rfl : args = #[v0, v1] := by cases args; simp_all
  obtain ⟨rfl, rfl⟩ := trodVars_none hV
  obtain ⟨l0, hr0, hm0, hw0⟩ := open_regB (hval 0 _ v0 rfl rfl) h0
  obtain ⟨l1, hr1, hm1, hw1⟩ := open_dsB (hval 1 _ v1 rfl rfl) h1
  clear hA0 hval0
  refine (kit_v (laws_FnExactFlipNeighbors_fn l0 l1 (Nat.le_trans hm0 (by decide)) (Nat.le_trans hm1 (by decide))) (args2 hr0 hr1)).mono fun e W' ⟨he, hg⟩ => ?_
  subst he
  exact ⟨_, rfl, post_law laid_out (by rw [Try.params5]; decide +kernel) rfl rfl Try.underlying4 rfl hW' hg⟩

theorem over : Rows.fnExactFlipNeighborsRow.holds Try.pinned (OpenSpec.ofChange Rows.fnExactFlipNeighborsSpec) :=
  OpenClaim.holds_of_wide 5 Try.f5 rfl rfl rfl rfl rfl rfl rfl ⟨rfl, rfl, rfl, rfl, rfl⟩ rfl rfl rfl rfl rfl (by kernel_rfl) Try.func5 (by kernel_rfl)
    (of_decide_eq_true (by kernel_rfl)) (by unfold Func.isWrapper; first | (rw [if_pos (by decide +kernel)]; kernel_rfl) | (rw [if_neg (by decide +kernel)]; exact ⟨rfl, rfl⟩))
    (fun os started H enc _ => lifted os started H enc)

theorem proved : Rows.FnExactFlipNeighborsSaid :=
  over
#print axioms proved

end Go.Proofs.Ytgmckbchcpfhcaa.lFlipNeighbors
