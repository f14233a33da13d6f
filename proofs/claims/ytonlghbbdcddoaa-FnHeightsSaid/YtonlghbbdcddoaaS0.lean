/- Walks over clean states, printed by wg.py. No statement is proved here. -/
import Derived.Test.YtonlghbbdcddoaaC3w
import Derived.Test.YtonlghbbdcddoaaSortS
import Derived.Test.YtonlghbbdcddoaaClB
namespace Go.Proofs.Ytonlghbbdcddoaa
namespace Cl
open Go.ChangeShapes Go.WideShapes Go.ChangeAt Go.RowKit
set_option maxRecDepth 20000


theorem spec_SortDominoes_fn (l : List Dom) (hl : l.length ≤ 4194304) : Fn Try.prog 53 [.a (.slv l.length 3 (dsl l))] [.row 57 3 (sortD l).length (dsl (sortD l))] := by
  refine ⟨⟨_, Try.func53, by kernel_rfl, by kernel_rfl⟩, fun w args h => ?_⟩
  match args, args_iff.1 h with
  | [u0], ⟨h0, _⟩ =>
    obtain ⟨A0, c0, rfl, hc0, hr0⟩ := argB_slv h0
    refine Calls.mono (sortDominoes_spec l A0 l.length c0 w hr0 hl) ?_
    rintro e w' ⟨v, rfl, ho, hb⟩
    exact ⟨_, rfl, ho, hb⟩
end Cl
end Go.Proofs.Ytonlghbbdcddoaa
