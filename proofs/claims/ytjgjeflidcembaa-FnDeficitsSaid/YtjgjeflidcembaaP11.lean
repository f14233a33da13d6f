/- Walks over clean states, printed by wg.py. No statement is proved here. -/
import Derived.Test.YtjgjeflidcembaaP10
import Derived.Test.YtjgjeflidcembaaP9
import Derived.Test.YtjgjeflidcembaaC4
import Derived.Test.YtjgjeflidcembaaE3
import Derived.Test.YtjgjeflidcembaaClB
namespace Go.Proofs.Ytjgjeflidcembaa
namespace Cl
open Go.ChangeShapes Go.WideShapes Go.ChangeAt Go.RowKit
set_option maxRecDepth 20000

theorem cellsOf_pop {R : List Int} (ho : regOk R = true) : (cellsOf R).length = popc (regSet R) := by
  unfold cellsOf; rw [if_pos ho]; unfold setCells popc; simp
/-- what is known of a partial tiling that was drawn -/
structure PM (R : List Int) (P : List Dom) : Prop where
  ok : regOk R = true
  pp : isPar R P = true
  mp : isPar R (matR R) = true
  mq : (isPar R (matR R) && decide ((matR R).length = (matR R).length)) = true
  eq : decide ((isPar R P && decide (P.length = (matR R).length)) = decide (((P.length : Nat) : Int) = (((matR R).length : Nat) : Int))) = true
  le : P.length ≤ (matR R).length
  nx : canX R (matR R) = false
  fl : decide (2 * (((matR R).length : Nat) : Int) = (((cellsOf R).length : Nat) : Int)) = decide (0 < ((cntR R : Nat) : Int))
theorem PM.of {b : List Nat} {c : Cu} {R : List Int} {P : List Dom} (hR : (r3 b (cu0 b)).1 = R) (hP : (grL b R (cellsOf R) c []).1 = P) : PM R P := by
  have ho : regOk R = true := hR ▸ r3_ok b (cu0 b)
  obtain ⟨g1, g2⟩ := gr_all (b := b) ho c
  rw [hP] at g1 g2
  obtain ⟨m1, m2, m3, m4⟩ := matR_par ho
  have hp := par_isPar ho g1 g2
  refine ⟨ho, hp, m3, by rw [m3]; simp, ?_, most_le ho g1, mat_noX ho, ?_⟩
  · rw [hp, Bool.true_and, decide_eq_true_eq, decide_eq_decide]; omega
  have := mat_full ho
  rw [decide_eq_decide] at this ⊢
  rw [cellsOf_pop ho, cntR_yes ho]
  constructor
  · intro h; have := this.1 (by omega); omega
  · intro h; have := this.2 (by omega); omega

end Cl
end Go.Proofs.Ytjgjeflidcembaa
