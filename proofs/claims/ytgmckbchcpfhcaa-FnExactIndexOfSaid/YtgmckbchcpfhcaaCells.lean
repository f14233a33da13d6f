
/- Cells and dominoes: which are valid, of the program and of the reference. -/
import Derived.Test.YtgmckbchcpfhcaaEdge
namespace Go.Proofs.Ytgmckbchcpfhcaa
open Go.ChangeShapes Go.WideShapes Go.ChangeAt Go.RowKit

def okc (x y : Int) : Bool := inB x 0 7 && inB y 0 7
def okd (x y : Int) (d : Bool) : Bool := okc x y && (if d then okc x (y+1) else okc (x+1) y)
def Dom.ok (d : Dom) : Bool := okd d.x d.y d.d
def Cel.ok (c : Cel) : Bool := okc c.x c.y
theorem okc_true {x y : Int} : okc x y = true ↔ (0 ≤ x ∧ x ≤ 7) ∧ (0 ≤ y ∧ y ≤ 7) := by unfold okc; rw [Bool.and_eq_true, inB_true, inB_true]
theorem okd_true {x y : Int} {d : Bool} : okd x y d = true ↔ (0 ≤ x ∧ x ≤ (if d then 7 else 6)) ∧ (0 ≤ y ∧ y ≤ (if d then 6 else 7)) := by
  unfold okd; rw [Bool.and_eq_true, okc_true]
  cases d <;> simp only [if_true, Bool.false_eq_true, if_false, okc_true] <;> omega

theorem cellOk_impl (x y : Int) (w : World) :
    Calls Try.prog 78 #[.agg #[.int .i64 x, .int .i64 y]] w fun e w' => e = .returned (.bool (okc x y)) ∧ Below w.heap.size w w' := by
  go_enter Try.func78, Try.ntmps78
  go_wp2_with (go_at_call 31; refine (within_c _ _ _ _).mono ?_; rintro e w2 ⟨rfl, rfl⟩)
  all_goals (go_ret; refine ⟨ret_bool ?_, by ((repeat (first | exact Below.refl _ _ | with_reducible assumption | refine Below.alloc0 ?_ _ | refine Below.step0 ?_ (by with_reducible assumption) | refine Below.step ?_ (by with_reducible assumption) ?_ | refine Below.alloc ?_ ?_ _ | refine Below.drew ?_ | refine below_drewN ?_ _ | refine Below.setCell ?_ ?_ _)) <;> (first | omega | exact hsz | exact Below.size (by with_reducible assumption) | (simp; done) | (simp; omega) | (simp at *; omega)))⟩; unfold okc; simp_all)
theorem cellOk_spec (x y : Int) (w : World) :
    Calls Try.prog 70 #[.agg #[.int .i64 x, .int .i64 y]] w fun e w' => e = .returned (.bool (okc x y)) ∧ Below w.heap.size w w' := by
  go_enter Try.func70, Try.ntmps70
  go_wp2_with (go_at_call 27; refine (l01In_c _ _ _ _).mono ?_; rintro e w2 ⟨rfl, rfl⟩)
  all_goals (go_ret; refine ⟨ret_bool ?_, by ((repeat (first | exact Below.refl _ _ | with_reducible assumption | refine Below.alloc0 ?_ _ | refine Below.step0 ?_ (by with_reducible assumption) | refine Below.step ?_ (by with_reducible assumption) ?_ | refine Below.alloc ?_ ?_ _ | refine Below.drew ?_ | refine below_drewN ?_ _ | refine Below.setCell ?_ ?_ _)) <;> (first | omega | exact hsz | exact Below.size (by with_reducible assumption) | (simp; done) | (simp; omega) | (simp at *; omega)))⟩; unfold okc; simp_all)

/-- the second cell, with Go's own wrap -/
def sx (x : Int) (d : Bool) : Int := if d then x else wrap64 (x + 1)
def sy (y : Int) (d : Bool) : Int := if d then wrap64 (y + 1) else y
theorem okd_wrap (x y : Int) (d : Bool) : okd x y d = (okc x y && okc (sx x d) (sy y d)) := by
  unfold okd sx sy
  by_cases h : okc x y = true
  · have h' := okc_true.1 h
    have e1 : wrap64 (x + 1) = x + 1 := IntWalk.wrap64_in _ (by omega)
    have e2 : wrap64 (y + 1) = y + 1 := IntWalk.wrap64_in _ (by omega)
    rw [e1, e2]
    cases d <;> simp
  · simp only [Bool.not_eq_true] at h
    rw [h]; simp

set_option maxHeartbeats 400000 in
theorem ends_c (x y : Int) (d : Bool) (w : World) :
    Calls Try.prog 77 #[.agg #[.int .i64 x, .int .i64 y, .bool d]] w fun e w' => e = .returned (.tuple #[.agg #[.int .i64 x, .int .i64 y], .agg #[.int .i64 (sx x d), .int .i64 (sy y d)]]) ∧ Below w.heap.size w w' := by
  cases d
  all_goals
    go_enter Try.func77, Try.ntmps77
    go_wp2
    go_region
    all_goals go_wp2
    all_goals exact bodyPost_ret (by simp [results, Try.results77, go_sem]; rfl) rfl ⟨by simp [sx, sy], by ((repeat (first | exact Below.refl _ _ | with_reducible assumption | refine Below.alloc0 ?_ _ | refine Below.step0 ?_ (by with_reducible assumption) | refine Below.step ?_ (by with_reducible assumption) ?_ | refine Below.alloc ?_ ?_ _ | refine Below.drew ?_ | refine below_drewN ?_ _ | refine Below.setCell ?_ ?_ _)) <;> (first | omega | exact hsz | exact Below.size (by with_reducible assumption) | (simp; done) | (simp; omega) | (simp at *; omega)))⟩

set_option maxHeartbeats 400000 in
theorem dominoOk_impl (x y : Int) (d : Bool) (w : World) :
    Calls Try.prog 58 #[.agg #[.int .i64 x, .int .i64 y, .bool d]] w fun e w' => e = .returned (.bool (okd x y d)) ∧ Below w.heap.size w w' := by
  have H := Lib.hid (okd_wrap x y d)
  go_enter Try.func58, Try.ntmps58
  go_wp2_with (first
    | (go_at_call 77; refine (ends_c _ _ _ _).mono ?_; rintro e w1 ⟨rfl, hb1⟩; obtain ⟨hc1, hf1, hs1⟩ := bcell hb1)
    | (go_at_call 78; refine (cellOk_impl _ _ _).mono ?_; rintro e w2 ⟨rfl, hb2⟩; obtain ⟨hc2, hf2, hs2⟩ := bcell hb2))
  all_goals (go_ret; refine ⟨ret_bool ?_, ?_⟩)
  all_goals first | (rw [H.out]; simp_all; done) | skip
  all_goals ((repeat (first | exact Below.refl _ _ | with_reducible assumption | refine Below.alloc0 ?_ _ | refine Below.step0 ?_ (by with_reducible assumption) | refine Below.step ?_ (by with_reducible assumption) ?_ | refine Below.alloc ?_ ?_ _ | refine Below.drew ?_ | refine below_drewN ?_ _ | refine Below.setCell ?_ ?_ _)) <;> (first | omega | exact hsz | exact Below.size (by with_reducible assumption) | (simp; done) | (simp; omega) | (simp at *; omega)))

theorem l05Second_c (x y : Int) (d : Bool) (w : World) :
    Calls Try.prog 50 #[.agg #[.int .i64 x, .int .i64 y, .bool d]] w fun e w' => e = .returned (.agg #[.int .i64 (sx x d), .int .i64 (sy y d)]) ∧ Below w.heap.size w w' := by
  cases d
  all_goals
    go_enter Try.func50, Try.ntmps50
    go_wp2
    exact bodyPost_ret (v := .agg #[.int .i64 (sx x _), .int .i64 (sy y _)]) (by simp [results, Try.results50, go_sem, sx, sy]) rfl ⟨rfl, by ((repeat (first | exact Below.refl _ _ | with_reducible assumption | refine Below.alloc0 ?_ _ | refine Below.step0 ?_ (by with_reducible assumption) | refine Below.step ?_ (by with_reducible assumption) ?_ | refine Below.alloc ?_ ?_ _ | refine Below.drew ?_ | refine below_drewN ?_ _ | refine Below.setCell ?_ ?_ _)) <;> (first | omega | exact hsz | exact Below.size (by with_reducible assumption) | (simp; done) | (simp; omega) | (simp at *; omega)))⟩
set_option maxHeartbeats 400000 in
theorem dominoOk_spec (x y : Int) (d : Bool) (w : World) :
    Calls Try.prog 51 #[.agg #[.int .i64 x, .int .i64 y, .bool d]] w fun e w' => e = .returned (.bool (okd x y d)) ∧ Below w.heap.size w w' := by
  have H := Lib.hid (okd_wrap x y d)
  go_enter Try.func51, Try.ntmps51
  go_wp2_with (first
    | (go_at_call 50; refine (l05Second_c _ _ _ _).mono ?_; rintro e w1 ⟨rfl, hb1⟩; obtain ⟨hc1, hf1, hs1⟩ := bcell hb1)
    | (go_at_call 70; refine (cellOk_spec _ _ _).mono ?_; rintro e w2 ⟨rfl, hb2⟩; obtain ⟨hc2, hf2, hs2⟩ := bcell hb2))
  all_goals (go_ret; refine ⟨ret_bool ?_, ?_⟩)
  all_goals first | (rw [H.out]; simp_all; done) | skip
  all_goals ((repeat (first | exact Below.refl _ _ | with_reducible assumption | refine Below.alloc0 ?_ _ | refine Below.step0 ?_ (by with_reducible assumption) | refine Below.step ?_ (by with_reducible assumption) ?_ | refine Below.alloc ?_ ?_ _ | refine Below.drew ?_ | refine below_drewN ?_ _ | refine Below.setCell ?_ ?_ _)) <;> (first | omega | exact hsz | exact Below.size (by with_reducible assumption) | (simp; done) | (simp; omega) | (simp at *; omega)))
end Go.Proofs.Ytgmckbchcpfhcaa
