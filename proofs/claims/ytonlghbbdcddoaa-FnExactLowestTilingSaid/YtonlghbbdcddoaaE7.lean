/- Walks over clean states, printed by wg.py. No statement is proved here. -/
import Derived.Test.YtonlghbbdcddoaaE5
import Derived.Test.YtonlghbbdcddoaaE6
import Derived.Test.YtonlghbbdcddoaaClB
namespace Go.Proofs.Ytonlghbbdcddoaa
namespace Cl
open Go.ChangeShapes Go.WideShapes Go.ChangeAt Go.RowKit
set_option maxRecDepth 20000
/-! a flip of a tiling is a tiling -/
theorem kp_eq (g0 g1 z : Dom) : kp g0 g1 z = ((z != g0) && (z != g1)) := by
  unfold kp; rw [dEq_dom, dEq_dom, Bool.eq_iff_iff]; simp
theorem perm_out2 {P : List Dom} (hn : P.Nodup) {a b : Dom} (ha : a ∈ P) (hb : b ∈ P) (hab : a ≠ b) : P.Perm (a :: b :: P.filter (kp a b)) := by
  have h1 := List.perm_cons_erase ha
  have h2 : b ∈ P.erase a := (List.mem_erase_of_ne (fun e => hab e.symm)).2 hb
  have h3 := List.perm_cons_erase h2
  have e : (P.erase a).erase b = P.filter (kp a b) := by
    rw [(hn.erase a).erase_eq_filter, hn.erase_eq_filter, List.filter_filter]
    apply List.filter_congr
    intro z _
    rw [kp_eq, Bool.and_comm]
  rw [e] at h3
  exact h1.trans (List.Perm.cons _ h3)
theorem cvN_perm {P Q : List Dom} (h : P.Perm Q) (i : Nat) : cvN P i = cvN Q i := h.countP_eq _
theorem cvN_two {P : List Dom} (hn : P.Nodup) {a b : Dom} (ha : a ∈ P) (hb : b ∈ P) (hab : a ≠ b) {i : Nat} (h1 : cin a i = true) (h2 : cin b i = true) : 2 ≤ cvN P i := by
  rw [cvN_perm (perm_out2 hn ha hb hab), cvN_cons, cvN_cons, if_pos h1, if_pos h2]; omega
theorem cv_le {s : Nat} {P : List Dom} (h : TilS s P) (i : Nat) : cvN P i ≤ 1 := by rw [h.cv]; split <;> omega
theorem til_uniq {s : Nat} {P : List Dom} (h : TilS s P) {a b : Dom} (ha : a ∈ P) (hb : b ∈ P) {i : Nat} (h1 : cin a i = true) (h2 : cin b i = true) : a = b := by
  by_cases e : a = b
  · exact e
  · have := cvN_two (SO_nodup h.so) ha hb e h1 h2
    have := cv_le h i; omega
end Cl
end Go.Proofs.Ytonlghbbdcddoaa
