
/- Ranges, EdgeStep of the program and of the reference, DiamondCount of both. -/
import Derived.Test.YtgmckbchcpfhcaaBase
namespace Go.Proofs.Ytgmckbchcpfhcaa
open Go.ChangeShapes Go.WideShapes Go.ChangeAt Go.RowKit

def inB (a b c : Int) : Bool := decide (b ≤ a) && decide (a ≤ c)
theorem inB_true {a b c : Int} : inB a b c = true ↔ b ≤ a ∧ a ≤ c := by unfold inB; simp
theorem inB_false {a b c : Int} : inB a b c = false ↔ ¬ (b ≤ a ∧ a ≤ c) := by rw [← inB_true]; simp
theorem within_c (a b c : Int) (w : World) :
    Calls Try.prog 31 #[.int .i64 a, .int .i64 b, .int .i64 c] w fun e w' => e = .returned (.bool (inB a b c)) ∧ w = w' := by
  go_enter Try.func31, Try.ntmps31
  go_wp2
  all_goals (go_ret; refine ⟨?_, rfl⟩; unfold inB; simp; try omega)
theorem l01In_c (a b c : Int) (w : World) :
    Calls Try.prog 27 #[.int .i64 a, .int .i64 b, .int .i64 c] w fun e w' => e = .returned (.bool (inB a b c)) ∧ w = w' := by
  go_enter Try.func27, Try.ntmps27
  go_wp2
  all_goals (go_ret; refine ⟨?_, rfl⟩; unfold inB; simp; try omega)
def allIn (l : List Int) (a b : Int) : Bool := l.all fun x => inB x a b
set_option maxHeartbeats 400000 in
theorem allWithin_c (l : List Int) (A : Option Addr) (n c : Nat) (a b : Int) (w : World) (hrd : Rd w 1 A n (isl l)) (hl : n ≤ 4194304) :
    Calls Try.prog 73 #[.slice A n c, .int .i64 a, .int .i64 b] w fun e w' => e = .returned (.bool (allIn l a b)) ∧ w = w' := by
  obtain rfl := hrd.len1
  go_enter Try.func73, Try.ntmps73
  go_wp2
  go_loop [8, 11] (fun _ i => ∃ k : Nat, k ≤ l.length ∧ i = .int .i64 k ∧ allIn (l.take k) a b = true) (fun _ i => l.length - (intOf i).toNat)
  case atStart => exact ⟨0, Nat.zero_le _, rfl, rfl⟩
  case round =>
    obtain ⟨k, hk, rfl, hp⟩ := hrel
    have HP := Lib.hid hp
    clear hp
    by_cases hlt : k < l.length
    · obtain ⟨g, off, rfl, hg, c0⟩ := hrd.ints hlt
      have HT := Lib.hid (show allIn (l.take (k+1)) a b = (allIn (l.take k) a b && inB l[k] a b) by unfold allIn; rw [List.take_succ_eq_append_getElem hlt, List.all_append]; simp)
      have HF := Lib.hid (show inB l[k] a b = false → allIn l a b = false by
        intro h; unfold allIn; rw [List.all_eq_false]; exact ⟨l[k], List.getElem_mem hlt, by simp [h]⟩)
      go_wp2_with (go_at_call 31; refine (within_c _ _ _ _).mono ?_; rintro e w2 ⟨rfl, rfl⟩)
      all_goals first
        | (go_round; (case rel => exact ⟨k + 1, by omega, by go_num, by rw [HT.out, HP.out]; simp_all⟩); (case measure => simp [intOf]; omega))
        | (go_ret; exact ⟨ret_bool (HF.out (by simp_all)).symm, rfl⟩)
    · obtain rfl : k = l.length := by omega
      have hfin := Lib.hid (show allIn l a b = true by have := HP.out; rwa [List.take_length] at this)
      go_wp2
      go_ret
      exact ⟨ret_bool hfin.out.symm, rfl⟩
def iabs (a : Int) : Int := if a < 0 then -a else a

end Go.Proofs.Ytgmckbchcpfhcaa
