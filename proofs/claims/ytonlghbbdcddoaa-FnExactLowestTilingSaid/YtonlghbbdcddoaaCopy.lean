
/- Copying cells of elements of any size into a row of the call's own; cutting a slice. No statement of the program is proved here. -/
import Derived.Test.YtonlghbbdcddoaaBase
import Derived.Laws.CopyOwn
namespace Go.Proofs.Ytonlghbbdcddoaa
open Go.ChangeShapes Go.WideShapes Go.ChangeAt Go.RowKit
set_option maxRecDepth 20000

theorem flatMap_take {α : Type} (f : α → List Value) (s : Nat) (hf : ∀ a, (f a).length = s) (l : List α) (k : Nat) : (l.flatMap f).take (k*s) = (l.take k).flatMap f := by
  induction l generalizing k with
  | nil => simp
  | cons a l ih =>
    cases k with
    | zero => simp
    | succ k =>
      rw [List.flatMap_cons, List.take_append, List.take_of_length_le (by rw [hf, Nat.succ_mul]; omega), hf, Nat.succ_mul, Nat.add_sub_cancel, ih, List.take_succ_cons, List.flatMap_cons]
theorem flatMap_drop {α : Type} (f : α → List Value) (s : Nat) (hf : ∀ a, (f a).length = s) (l : List α) (k : Nat) : (l.flatMap f).drop (k*s) = (l.drop k).flatMap f := by
  induction l generalizing k with
  | nil => simp
  | cons a l ih =>
    cases k with
    | zero => simp
    | succ k =>
      rw [List.flatMap_cons, List.drop_append, List.drop_eq_nil_of_le (by rw [hf, Nat.succ_mul]; omega), hf, Nat.succ_mul, Nat.add_sub_cancel, ih, List.drop_succ_cons, List.nil_append]
theorem dsl_take (l : List Dom) (k : Nat) : (dsl l).take (k*3) = dsl (l.take k) := flatMap_take Dom.cs 3 (fun _ => rfl) l k
theorem csl_take (l : List Cel) (k : Nat) : (csl l).take (k*2) = csl (l.take k) := flatMap_take Cel.cs 2 (fun _ => rfl) l k
theorem csl_drop (l : List Cel) (k : Nat) : (csl l).drop (k*2) = csl (l.drop k) := flatMap_drop Cel.cs 2 (fun _ => rfl) l k
theorem isl_one (l : List Int) : ∀ v ∈ isl l, v.oneCell' = true := by
  intro v hv
  simp only [isl, List.mem_map] at hv
  obtain ⟨d, _, rfl⟩ := hv
  simp [Value.oneCell']
end Go.Proofs.Ytonlghbbdcddoaa
