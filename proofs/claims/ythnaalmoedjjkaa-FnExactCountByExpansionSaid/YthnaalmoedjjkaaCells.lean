
/- Cells and dominoes: which are valid, of the program and of the reference. -/
import Derived.Test.YthnaalmoedjjkaaEdge
namespace Go.Proofs.Ythnaalmoedjjkaa
open Go.ChangeShapes Go.WideShapes Go.ChangeAt Go.RowKit

def okc (x y : Int) : Bool := inB x 0 7 && inB y 0 7
def okd (x y : Int) (d : Bool) : Bool := okc x y && (if d then okc x (y+1) else okc (x+1) y)
def Dom.ok (d : Dom) : Bool := okd d.x d.y d.d
def Cel.ok (c : Cel) : Bool := okc c.x c.y
theorem okc_true {x y : Int} : okc x y = true ↔ (0 ≤ x ∧ x ≤ 7) ∧ (0 ≤ y ∧ y ≤ 7) := by unfold okc; rw [Bool.and_eq_true, inB_true, inB_true]
theorem okd_true {x y : Int} {d : Bool} : okd x y d = true ↔ (0 ≤ x ∧ x ≤ (if d then 7 else 6)) ∧ (0 ≤ y ∧ y ≤ (if d then 6 else 7)) := by
  unfold okd; rw [Bool.and_eq_true, okc_true]
  cases d <;> simp only [if_true, Bool.false_eq_true, if_false, okc_true] <;> omega

theorem cellOk_impl (x y : Int) (w : World) :
    Calls Try.prog 57 #[.agg #[.int .i64 x, .int .i64 y]] w fun e w' => e = .returned (.bool (okc x y)) ∧ Below w.heap.size w w' := by
  go_enter Try.func57, Try.ntmps57
  go_wp2_with (go_at_call 38; refine (within_c _ _ _ _).mono ?_; rintro e w2 ⟨rfl, rfl⟩)
  all_goals (go_ret; refine ⟨ret_bool ?_, by ((repeat (first | exact Below.refl _ _ | with_reducible assumption | refine Below.alloc0 ?_ _ | refine Below.step0 ?_ (by with_reducible assumption) | refine Below.step ?_ (by with_reducible assumption) ?_ | refine Below.alloc ?_ ?_ _ | refine Below.drew ?_ | refine below_drewN ?_ _ | refine Below.setCell ?_ ?_ _)) <;> (first | omega | exact hsz | exact Below.size (by with_reducible assumption) | (simp; done) | (simp; omega) | (simp at *; omega)))⟩; unfold okc; simp_all)
theorem cellOk_spec (x y : Int) (w : World) :
    Calls Try.prog 52 #[.agg #[.int .i64 x, .int .i64 y]] w fun e w' => e = .returned (.bool (okc x y)) ∧ Below w.heap.size w w' := by
  go_enter Try.func52, Try.ntmps52
  go_wp2_with (go_at_call 28; refine (l01In_c _ _ _ _).mono ?_; rintro e w2 ⟨rfl, rfl⟩)
  all_goals (go_ret; refine ⟨ret_bool ?_, by ((repeat (first | exact Below.refl _ _ | with_reducible assumption | refine Below.alloc0 ?_ _ | refine Below.step0 ?_ (by with_reducible assumption) | refine Below.step ?_ (by with_reducible assumption) ?_ | refine Below.alloc ?_ ?_ _ | refine Below.drew ?_ | refine below_drewN ?_ _ | refine Below.setCell ?_ ?_ _)) <;> (first | omega | exact hsz | exact Below.size (by with_reducible assumption) | (simp; done) | (simp; omega) | (simp at *; omega)))⟩; unfold okc; simp_all)

/-- the second cell, with Go's own wrap -/
def sx (x : Int) (d : Bool) : Int := if d then x else wrap64 (x + 1)
def sy (y : Int) (d : Bool) : Int := if d then wrap64 (y + 1) else y
theorem okd_wrap (x y : Int) (d : Bool) : okd x y d = (okc x y && okc (sx x d) (sy y d)) := by
  unfold okd sx sy
  by_cases h : okc x y = true
  · have h' := okc_true.1 h
    have e1 : wrap64 (x + 1) = x + 1 := IntWalk.wrap64_in _ (by omega)
    have e2 : wrap64 (y + 1) = y + 1 := IntWalk.wrap64_in _ (by omega)
    rw [e1, e2]
    cases d <;> simp
  · simp only [Bool.not_eq_true] at h
    rw [h]; simp

end Go.Proofs.Ythnaalmoedjjkaa
