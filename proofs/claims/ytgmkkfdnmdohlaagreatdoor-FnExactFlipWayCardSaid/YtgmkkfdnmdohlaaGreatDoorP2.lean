/- Walks over clean states, printed by wg.py. No statement is proved here. -/
import Derived.Test.YtgmkkfdnmdohlaaGreatDoorP1
import Derived.Test.YtgmkkfdnmdohlaaGreatDoorClB
set_option linter.unusedSimpArgs false
set_option linter.unusedVariables false
namespace Go.Proofs.YtgmkkfdnmdohlaaGreatDoor
namespace Cl
open Go.ChangeShapes Go.WideShapes Go.ChangeAt Go.RowKit
set_option maxRecDepth 20000
/-! a flip twice is nothing -/
theorem SO_uniq {P Q : List Dom} (h1 : SO P) (h2 : SO Q) (hp : P.Perm Q) : P = Q := hp.eq_of_pairwise (fun a b _ _ h h' => absurd h (by omega)) h1 h2
theorem pr_mem_cin {c : Cel} (b : Bool) : cin (pr0 c b) (idx c) = true := cin_a (pr0 c b)
theorem flip_back {s : Nat} {P : List Dom} {c : Cel} (h : TilS s P) (hc : canB P c.x c.y = true) : canB (flipAt P c) c.x c.y = true ∧ flipAt (flipAt P c) c = P := by
  have hQ := flipAt_til h hc
  have e0 : flipAt P c = flipD P c := by unfold flipAt; rw [if_pos hc]
  obtain ⟨p1, p2, m0, m1⟩ := flip_parts h hc
  rw [← e0] at p2
  have hb := canB_bd hc
  have q0 : pr0 c (acB P c.x c.y) ∈ flipAt P c := p2.mem_iff.2 (by simp)
  have q1 : pr1 c (acB P c.x c.y) ∈ flipAt P c := p2.mem_iff.2 (by simp)
  have hac : acB (flipAt P c) c.x c.y = !(acB P c.x c.y) := by
    revert q0 q1
    cases e : acB P c.x c.y
    · intro q0 q1
      show (hasB _ _ _ _ && hasB _ _ _ _) = true
      rw [Bool.and_eq_true, hasB_iff, hasB_iff]; exact ⟨q0, q1⟩
    · intro q0 _
      show (hasB _ _ _ _ && hasB _ _ _ _) = false
      rw [Bool.and_eq_false_iff]
      left
      rw [Bool.eq_false_iff]
      intro hh
      have := til_uniq hQ q0 (hasB_iff.1 hh) (pr_mem_cin true) (pr_mem_cin false)
      unfold pr0 at this; simp at this
  have hcan : canB (flipAt P c) c.x c.y = true := by
    unfold canB at hc ⊢
    simp only [Bool.and_eq_true, Bool.or_eq_true] at hc ⊢
    refine ⟨hc.1, ?_⟩
    cases e : acB P c.x c.y
    · left; rw [hac, e]; rfl
    · right; rw [e] at q0 q1
      show (hasB _ _ _ _ && hasB _ _ _ _) = true
      rw [Bool.and_eq_true, hasB_iff, hasB_iff]; exact ⟨q0, q1⟩
  refine ⟨hcan, ?_⟩
  obtain ⟨r1, r2, _, _⟩ := flip_parts hQ hcan
  have e1 : flipAt (flipAt P c) c = flipD (flipAt P c) c := by rw [show flipAt (flipAt P c) c = if canB (flipAt P c) c.x c.y then flipD (flipAt P c) c else flipAt P c from rfl, if_pos hcan]
  rw [e1]
  have hf : ((flipAt P c).filter (kp (pr0 c (!(acB (flipAt P c) c.x c.y))) (pr1 c (!(acB (flipAt P c) c.x c.y))))).Perm (P.filter (kp (pr0 c (!(acB P c.x c.y))) (pr1 c (!(acB P c.x c.y))))) := by
    rw [hac, Bool.not_not]
    refine (p2.filter _).trans (List.Perm.of_eq ?_)
    rw [List.filter_cons, if_neg (by rw [kp_eq]; simp), List.filter_cons, if_neg (by rw [kp_eq]; simp), List.filter_eq_self]
    intro z hz
    rw [kp_eq]
    simp only [Bool.and_eq_true, bne_iff_ne]
    have hzP := (List.mem_filter.1 hz).1
    exact ⟨fun e => m0 (e ▸ hzP), fun e => m1 (e ▸ hzP)⟩
  have hr := r2.trans (List.Perm.cons _ (List.Perm.cons _ hf))
  rw [hac] at hr
  exact SO_uniq (sortD_SO _) h.so (hr.trans p1.symm)
end Cl
end Go.Proofs.YtgmkkfdnmdohlaaGreatDoor
