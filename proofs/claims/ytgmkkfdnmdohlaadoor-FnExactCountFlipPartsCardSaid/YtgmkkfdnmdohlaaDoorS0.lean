/- Walks over clean states, printed by wg.py. No statement is proved here. -/
import Derived.Test.YtgmkkfdnmdohlaaDoorC3w
import Derived.Test.YtgmkkfdnmdohlaaDoorSortS
import Derived.Test.YtgmkkfdnmdohlaaDoorClB
set_option linter.unusedSimpArgs false
set_option linter.unusedVariables false
namespace Go.Proofs.YtgmkkfdnmdohlaaDoor
namespace Cl
open Go.ChangeShapes Go.WideShapes Go.ChangeAt Go.RowKit
set_option maxRecDepth 20000


theorem impl_SortDominoes_fn (l : List Dom) (hl : l.length ≤ 4194304) : Fn Tryd.prog 52 [.a (.slv l.length 3 (dsl l))] [.row 63 3 (sortD l).length (dsl (sortD l))] := by
  refine ⟨⟨_, Tryd.func52, by kernel_rfl, by kernel_rfl⟩, fun w args h => ?_⟩
  match args, args_iff.1 h with
  | [u0], ⟨h0, _⟩ =>
    obtain ⟨A0, c0, rfl, hc0, hr0⟩ := argB_slv h0
    refine Calls.mono (sortDominoes_impl l A0 l.length c0 w hr0 hl) ?_
    rintro e w' ⟨v, rfl, ho, hb⟩
    exact ⟨_, rfl, ho, hb⟩

theorem spec_SortDominoes_fn (l : List Dom) (hl : l.length ≤ 4194304) : Fn Tryd.prog 37 [.a (.slv l.length 3 (dsl l))] [.row 63 3 (sortD l).length (dsl (sortD l))] := by
  refine ⟨⟨_, Tryd.func37, by kernel_rfl, by kernel_rfl⟩, fun w args h => ?_⟩
  match args, args_iff.1 h with
  | [u0], ⟨h0, _⟩ =>
    obtain ⟨A0, c0, rfl, hc0, hr0⟩ := argB_slv h0
    refine Calls.mono (sortDominoes_spec l A0 l.length c0 w hr0 hl) ?_
    rintro e w' ⟨v, rfl, ho, hb⟩
    exact ⟨_, rfl, ho, hb⟩
end Cl
end Go.Proofs.YtgmkkfdnmdohlaaDoor
