/- Walks. -/
import Derived.Test.YtgmkkfdnmdohlaaGreatDoorC3w
import Derived.Test.YtgmkkfdnmdohlaaGreatDoorSortS
import Derived.Test.YtgmkkfdnmdohlaaGreatDoorClB
set_option linter.unusedSimpArgs false
set_option linter.unusedVariables false
namespace Go.Proofs.YtgmkkfdnmdohlaaGreatDoor
namespace Cl
open Go.ChangeShapes Go.WideShapes Go.ChangeAt Go.RowKit
set_option maxRecDepth 20000
theorem eW (l:List Dom) (hl:l.length≤4194304):Fn Tryz.prog 74 [.a (.slv l.length 3 (dsl l))] [.row 62 3 (cG l).length (dsl (cG l))]:=by
  refine⟨⟨_,Tryz.func74,by kernel_rfl,by kernel_rfl⟩,fun w args h=> ?_⟩
  match args,dK.1 h with
  | [u0],⟨h0,_⟩=>
    obtain⟨A0,c0,rfl,hc0,hr0⟩:=jZ h0
    refine Calls.mono (pE l A0 l.length c0 w hr0 hl) ?_
    rintro e w' ⟨v,rfl,ho,hb⟩
    exact⟨_,rfl,ho,hb⟩
theorem mv (l:List Dom) (hl:l.length≤4194304):Fn Tryz.prog 80 [.a (.slv l.length 3 (dsl l))] [.row 62 3 (cG l).length (dsl (cG l))]:=by
  refine⟨⟨_,Tryz.func80,by kernel_rfl,by kernel_rfl⟩,fun w args h=> ?_⟩
  match args,dK.1 h with
  | [u0],⟨h0,_⟩=>
    obtain⟨A0,c0,rfl,hc0,hr0⟩:=jZ h0
    refine Calls.mono (pF l A0 l.length c0 w hr0 hl) ?_
    rintro e w' ⟨v,rfl,ho,hb⟩
    exact⟨_,rfl,ho,hb⟩
end Cl
end Go.Proofs.YtgmkkfdnmdohlaaGreatDoor
