/- Walks over clean states, printed by wg.py. No statement is proved here. -/
import Derived.Test.YtgmkkfdnmdohlaaGreatDoorC3w
import Derived.Test.YtgmkkfdnmdohlaaGreatDoorSortS
import Derived.Test.YtgmkkfdnmdohlaaGreatDoorClB
set_option linter.unusedSimpArgs false
set_option linter.unusedVariables false
namespace Go.Proofs.YtgmkkfdnmdohlaaGreatDoor
namespace Cl
open Go.ChangeShapes Go.WideShapes Go.ChangeAt Go.RowKit
set_option maxRecDepth 20000


theorem impl_SortDominoes_fn (l : List Dom) (hl : l.length ≤ 4194304) : Fn Tryz.prog 74 [.a (.slv l.length 3 (dsl l))] [.row 62 3 (sortD l).length (dsl (sortD l))] := by
  refine ⟨⟨_, Tryz.func74, by kernel_rfl, by kernel_rfl⟩, fun w args h => ?_⟩
  match args, args_iff.1 h with
  | [u0], ⟨h0, _⟩ =>
    obtain ⟨A0, c0, rfl, hc0, hr0⟩ := argB_slv h0
    refine Calls.mono (sortDominoes_impl l A0 l.length c0 w hr0 hl) ?_
    rintro e w' ⟨v, rfl, ho, hb⟩
    exact ⟨_, rfl, ho, hb⟩

theorem spec_SortDominoes_fn (l : List Dom) (hl : l.length ≤ 4194304) : Fn Tryz.prog 80 [.a (.slv l.length 3 (dsl l))] [.row 62 3 (sortD l).length (dsl (sortD l))] := by
  refine ⟨⟨_, Tryz.func80, by kernel_rfl, by kernel_rfl⟩, fun w args h => ?_⟩
  match args, args_iff.1 h with
  | [u0], ⟨h0, _⟩ =>
    obtain ⟨A0, c0, rfl, hc0, hr0⟩ := argB_slv h0
    refine Calls.mono (sortDominoes_spec l A0 l.length c0 w hr0 hl) ?_
    rintro e w' ⟨v, rfl, ho, hb⟩
    exact ⟨_, rfl, ho, hb⟩
end Cl
end Go.Proofs.YtgmkkfdnmdohlaaGreatDoor
