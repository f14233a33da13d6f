/- Walks over clean states, printed by wg.py. No statement is proved here. -/
import Derived.Test.YtonlghbbdcddoaaC31
import Derived.Test.YtonlghbbdcddoaaE3
import Derived.Test.YtonlghbbdcddoaaE2
import Derived.Test.YtonlghbbdcddoaaP1
import Derived.Test.YtonlghbbdcddoaaHs
import Derived.Test.YtonlghbbdcddoaaClB
namespace Go.Proofs.Ytonlghbbdcddoaa
namespace Cl
open Go.ChangeShapes Go.WideShapes Go.ChangeAt Go.RowKit
set_option maxRecDepth 20000

theorem hsum_bd0 : ∀ (L : List Int) (a : Int) (n : Nat), (∀ x ∈ L, -1000 ≤ x ∧ x ≤ 80) → -(1000 * (n : Int)) ≤ a ∧ a ≤ 1000 * (n : Int) → n + L.length ≤ 1000 → -1000000 ≤ L.foldl hstep a ∧ L.foldl hstep a ≤ 1000000 := by
  intro L
  induction L with
  | nil => intro a n _ h hn; simp only [List.foldl_nil]; simp at hn; omega
  | cons x L ih =>
    intro a n hx h hn
    rw [List.foldl_cons]
    have hx0 := hx x (List.mem_cons_self ..)
    rw [List.length_cons] at hn
    refine ih _ (n + 1) (fun y hy => hx y (List.mem_cons_of_mem _ hy)) ?_ (by omega)
    unfold hstep
    split
    · omega
    · rw [IntWalk.wrap64_in _ (by omega)]; omega
theorem hsum_bd {L : List Int} (h : ∀ v, v < L.length → -1000 ≤ gI L v ∧ gI L v ≤ 80) (hn : L.length ≤ 81) : -1000000 ≤ hsum L ∧ hsum L ≤ 1000000 := by
  refine hsum_bd0 L 0 0 (fun x hx => ?_) (by simp) (by omega)
  obtain ⟨i, hi, rfl⟩ := List.getElem_of_mem hx
  have := h i hi
  rwa [gI_eq hi] at this
/-- the sum of the heights of a listed tiling -/
theorem impl_HeightSum_fn (L : List Int) (hl : L.length ≤ 4194304) : Fn Try.prog 25 [.a (.slv L.length 1 (isl L))] [.val (.int .i64 (hsum L))] := by
  refine ⟨⟨_, Try.func25, by kernel_rfl, by kernel_rfl⟩, fun w args h => ?_⟩
  match args, args_iff.1 h with
  | [u0], ⟨h0, _⟩ =>
    obtain ⟨A0, c0, rfl, hc0, hr0⟩ := argB_slv h0
    refine Calls.mono (heightSum_impl L A0 L.length c0 w hr0 hl) ?_
    rintro e w' ⟨rfl, hb⟩
    exact ⟨_, rfl, rfl, hb⟩

end Cl
end Go.Proofs.Ytonlghbbdcddoaa
