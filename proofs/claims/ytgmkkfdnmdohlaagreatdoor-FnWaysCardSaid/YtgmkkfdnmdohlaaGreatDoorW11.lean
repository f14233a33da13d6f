/- Walks. -/
import Derived.Test.YtgmkkfdnmdohlaaGreatDoorFv
import Derived.Test.YtgmkkfdnmdohlaaGreatDoorWA
import Derived.Test.YtgmkkfdnmdohlaaGreatDoorClC
import Derived.Test.YtgmkkfdnmdohlaaGreatDoorClB
set_option linter.unusedSimpArgs false
set_option linter.unusedVariables false
namespace Go.Proofs.YtgmkkfdnmdohlaaGreatDoor
namespace Cl
open Go.ChangeShapes Go.WideShapes Go.ChangeAt Go.RowKit
set_option maxRecDepth 20000
theorem GV (l:List Int) (p q:List Dom):(fwR l p q).length≤300:=by
 unfold fwR
 split
 ·simp
 ·rename_i h
  rw[nv]
  by_cases h1:ixT (ltR l) p<0
  ·rw[nN (.inl h1)]at h;omega
  by_cases h2:ixT (ltR l) q<0
  ·rw[nN (.inr h2)]at h;omega
  have h3:=vV (M:=lkM (ltR l)) (n:=(ltR l).length) (t:=ixT (ltR l) q) (ls (FlipA.of l)) ⟨by omega,(gp _ _).1⟩ (ixT (ltR l) p)
  have h4:=ld l
  rw[fI h1 h2];omega
theorem JI (l:List Int) (p q:List Dom): -1≤fdR l p q∧fdR l p q≤300:=by
 by_cases h1:ixT (ltR l) p<0
 ·rw[nN (.inl h1)];omega
 by_cases h2:ixT (ltR l) q<0
 ·rw[nN (.inr h2)];omega
 have h3:=vV (M:=lkM (ltR l)) (n:=(ltR l).length) (t:=ixT (ltR l) q) (ls (FlipA.of l)) ⟨by omega,(gp _ _).1⟩ (ixT (ltR l) p)
 have h4:=ld l
 have h5:=DL (lkM (ltR l)) (ixT (ltR l) q) (ixT (ltR l) p)
 rw[fI h1 h2];omega
end Cl
end Go.Proofs.YtgmkkfdnmdohlaaGreatDoor
