
/- FnSigned: the law holds at every code. No condition. -/
import Derived.Test.YtokihekhelbijaaLawC
import Derived.Test.YtokihekhelbijaaP18
set_option linter.unusedSimpArgs false
set_option linter.unusedVariables false
namespace Go.Proofs.Ytokihekhelbijaa.lSigned
set_option maxRecDepth 20000
open Go.ChangeShapes Go.WideShapes Go.ChangeAt Go.RowKit Cl

theorem laws_FnSigned_fn (b : List Nat) (hbb : b.length ≤ 9223372036854775807) (hy : ∀ x ∈ b, x < 256) : Cl.Fn Try.prog 3 [.a (.slv b.length 1 (ysl b))] [.val (.bool true)] :=
  laws_FnSigned_R b _ _ hbb hy rfl rfl
set_option maxRecDepth 100000 in
theorem lifted (os : Os) (started : os.Started) (H : Type) (enc : TypeId × Value → H) :
    ReturnsInHanded {} Try.checked os 3 .any (Rows.fnSignedSpec.pre6 enc Try.prog Try.f3 Rows.fnSignedRow.domain false) (Rows.fnSignedSpec.post enc Try.prog Try.f3 false true false false) := by
  refine returnsInHanded_of_change (C := Try.checked) own_knob started (by kernel_rfl) Try.func3
    (ChangeSpec.witness6 (enc := enc) (C := Try.checked) false ⟨#[], #[.slice none 0 0], []⟩ 8 (by kernel_rfl) (by kernel_rfl) (by kernel_rfl) (by kernel_rfl)) ?_
  intro W base args ds gs before hval0 hW hcnd _
  have hval : ∀ (j : Nat) t v, Try.f3.params[j]? = some t → args[j]? = some v → Value.okWide Try.prog W .any base t v := hval0
  have hW' := hW
  obtain ⟨p, q, hA0, hV, rfl, hfz, hnd⟩ := hW
  have hA : DataW.TrodAll enc Try.prog W 0 (fun _ => true) true Try.f3.params.toList args.toList ds p := hA0
  rw [Try.params3] at hA hval
  obtain ⟨v0, vs0, d0, ds0, p0, q0, hargs, rfl, rfl, h0, r0⟩ := trodAll_cons hA
  obtain ⟨rfl, rfl, rfl⟩ := trodAll_nil r0
  obtain rfl : args = #[v0] := by cases args; simp_all
  obtain ⟨rfl, rfl⟩ := trodVars_none hV
  obtain ⟨l0, hr0, hm0, hw0⟩ := open_ysB (hval 0 _ v0 rfl rfl) h0
  clear hA0 hval0
  refine (kit_v (laws_FnSigned_fn l0 (Nat.le_trans hm0 (by decide)) hw0) (args1 hr0)).mono fun e W' ⟨he, hg⟩ => ?_
  subst he
  exact ⟨_, rfl, post_law laid_out (by rw [Try.params3]; decide +kernel) rfl rfl Try.underlying4 rfl hW' hg⟩

theorem over : Rows.fnSignedRow.holds Try.pinned (OpenSpec.ofChange Rows.fnSignedSpec) :=
  OpenClaim.holds_of_wide 3 Try.f3 rfl rfl rfl rfl rfl rfl rfl ⟨rfl, rfl, rfl, rfl, rfl⟩ rfl rfl rfl rfl rfl (by kernel_rfl) Try.func3 (by kernel_rfl)
    (of_decide_eq_true (by kernel_rfl)) (by unfold Func.isWrapper; first | (rw [if_pos (by decide +kernel)]; kernel_rfl) | (rw [if_neg (by decide +kernel)]; exact ⟨rfl, rfl⟩))
    (fun os started H enc _ => lifted os started H enc)

theorem proved : Rows.FnSignedSaid :=
  over
#print axioms proved

end Go.Proofs.Ytokihekhelbijaa.lSigned
