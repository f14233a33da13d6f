
/- Ranges, EdgeStep of the program and of the reference, DiamondCount of both. -/
import Derived.Test.YtjgimiicfekcpaaBase
namespace Go.Proofs.Ytjgimiicfekcpaa
open Go.ChangeShapes Go.WideShapes Go.ChangeAt Go.RowKit

def inB (a b c : Int) : Bool := decide (b ≤ a) && decide (a ≤ c)
theorem inB_true {a b c : Int} : inB a b c = true ↔ b ≤ a ∧ a ≤ c := by unfold inB; simp
theorem inB_false {a b c : Int} : inB a b c = false ↔ ¬ (b ≤ a ∧ a ≤ c) := by rw [← inB_true]; simp
theorem within_c (a b c : Int) (w : World) :
    Calls Try.prog 76 #[.int .i64 a, .int .i64 b, .int .i64 c] w fun e w' => e = .returned (.bool (inB a b c)) ∧ w = w' := by
  go_enter Try.func76, Try.ntmps76
  go_wp2
  all_goals (go_ret; refine ⟨?_, rfl⟩; unfold inB; simp; try omega)
theorem l01In_c (a b c : Int) (w : World) :
    Calls Try.prog 45 #[.int .i64 a, .int .i64 b, .int .i64 c] w fun e w' => e = .returned (.bool (inB a b c)) ∧ w = w' := by
  go_enter Try.func45, Try.ntmps45
  go_wp2
  all_goals (go_ret; refine ⟨?_, rfl⟩; unfold inB; simp; try omega)
def allIn (l : List Int) (a b : Int) : Bool := l.all fun x => inB x a b
set_option maxHeartbeats 400000 in
theorem allWithin_c (l : List Int) (A : Option Addr) (n c : Nat) (a b : Int) (w : World) (hrd : Rd w 1 A n (isl l)) (hl : n ≤ 4194304) :
    Calls Try.prog 58 #[.slice A n c, .int .i64 a, .int .i64 b] w fun e w' => e = .returned (.bool (allIn l a b)) ∧ w = w' := by
  obtain rfl := hrd.len1
  go_enter Try.func58, Try.ntmps58
  go_wp2
  go_loop [8, 11] (fun _ i => ∃ k : Nat, k ≤ l.length ∧ i = .int .i64 k ∧ allIn (l.take k) a b = true) (fun _ i => l.length - (intOf i).toNat)
  case atStart => exact ⟨0, Nat.zero_le _, rfl, rfl⟩
  case round =>
    obtain ⟨k, hk, rfl, hp⟩ := hrel
    have HP := Lib.hid hp
    clear hp
    by_cases hlt : k < l.length
    · obtain ⟨g, off, rfl, hg, c0⟩ := hrd.ints hlt
      have HT := Lib.hid (show allIn (l.take (k+1)) a b = (allIn (l.take k) a b && inB l[k] a b) by unfold allIn; rw [List.take_succ_eq_append_getElem hlt, List.all_append]; simp)
      have HF := Lib.hid (show inB l[k] a b = false → allIn l a b = false by
        intro h; unfold allIn; rw [List.all_eq_false]; exact ⟨l[k], List.getElem_mem hlt, by simp [h]⟩)
      go_wp2_with (go_at_call 76; refine (within_c _ _ _ _).mono ?_; rintro e w2 ⟨rfl, rfl⟩)
      all_goals first
        | (go_round; (case rel => exact ⟨k + 1, by omega, by go_num, by rw [HT.out, HP.out]; simp_all⟩); (case measure => simp [intOf]; omega))
        | (go_ret; exact ⟨ret_bool (HF.out (by simp_all)).symm, rfl⟩)
    · obtain rfl : k = l.length := by omega
      have hfin := Lib.hid (show allIn l a b = true by have := HP.out; rwa [List.take_length] at this)
      go_wp2
      go_ret
      exact ⟨ret_bool hfin.out.symm, rfl⟩
def iabs (a : Int) : Int := if a < 0 then -a else a
theorem size_c (a : Int) (w : World) (h : -9223372036854775807 ≤ a) (h' : a ≤ 9223372036854775807) :
    Calls Try.prog 36 #[.int .i64 a] w fun e w' => e = .returned (.int .i64 (iabs a)) ∧ w = w' := by
  go_enter Try.func36, Try.ntmps36
  go_wp2
  all_goals (go_ret; refine ⟨ret_int ?_, rfl⟩; unfold iabs; split <;> first | omega | (simp; omega))
def par (s : Int) : Int := if s % 2 = 0 then 1 else -1
def stepOk (ax ay bx by' : Int) : Bool := inB ax 0 8 && inB ay 0 8 && inB bx 0 8 && inB by' 0 8
def estep (ax ay bx by' : Int) : Int :=
  if stepOk ax ay bx by' then
    if bx = ax + 1 ∧ by' = ay then par (ax + (ay - 1))
    else if bx = ax - 1 ∧ by' = ay then par (bx + by')
    else if bx = ax ∧ by' = ay + 1 then par (ax + ay)
    else if bx = ax ∧ by' = ay - 1 then par (ax - 1 + by')
    else 0
  else 0
def leftX (ax bx ay by' : Int) : Int := if bx > ax then ax else if bx < ax then bx else if by' > ay then ax else ax - 1
def leftY (ax bx ay by' : Int) : Int := if bx > ax then ay - 1 else if bx < ax then ay else if by' > ay then ay else by'
theorem leftOf_c (ax ay bx by' : Int) (w : World) (h1 : -1000 ≤ ax) (h2 : ax ≤ 1000) (h3 : -1000 ≤ ay) (h4 : ay ≤ 1000) :
    Calls Try.prog 81 #[.int .i64 ax, .int .i64 ay, .int .i64 bx, .int .i64 by'] w fun e w' => e = .returned (.agg #[.int .i64 (leftX ax bx ay by'), .int .i64 (leftY ax bx ay by')]) ∧ Below w.heap.size w w' := by
  go_enter Try.func81, Try.ntmps81
  go_wp2
  all_goals
    refine bodyPost_ret (v := .agg #[.int .i64 (leftX ax bx ay by'), .int .i64 (leftY ax bx ay by')]) ?_ rfl ⟨rfl, by ((repeat (first | exact Below.refl _ _ | with_reducible assumption | refine Below.alloc0 ?_ _ | refine Below.step0 ?_ (by with_reducible assumption) | refine Below.step ?_ (by with_reducible assumption) ?_ | refine Below.alloc ?_ ?_ _ | refine Below.drew ?_ | refine below_drewN ?_ _ | refine Below.setCell ?_ ?_ _)) <;> (first | omega | exact hsz | exact Below.size (by with_reducible assumption) | (simp; done) | (simp; omega) | (simp at *; omega)))⟩
    simp only [leftX, leftY]
    simp [results, Try.results81, go_sem]
    all_goals (repeat' split) <;> first | omega | (simp; done) | (simp; omega)

theorem iabs_le (a : Int) (h : -8 ≤ a) (h' : a ≤ 8) : 0 ≤ iabs a ∧ iabs a ≤ 8 := by unfold iabs; split <;> omega
theorem left_bd (ax bx ay by' : Int) (i1 : 0 ≤ ax) (i2 : ax ≤ 8) (i3 : 0 ≤ ay) (i4 : ay ≤ 8) (i5 : 0 ≤ bx) (i6 : bx ≤ 8) (i7 : 0 ≤ by') (i8 : by' ≤ 8) :
    -1 ≤ leftX ax bx ay by' ∧ leftX ax bx ay by' ≤ 8 ∧ -1 ≤ leftY ax bx ay by' ∧ leftY ax bx ay by' ≤ 8 := by
  unfold leftX leftY; (repeat' split) <;> omega
theorem estep_eq (ax ay bx by' : Int) (h : stepOk ax ay bx by' = true) :
    estep ax ay bx by' = if iabs (ax - bx) + iabs (ay - by') = 1 then (if (leftX ax bx ay by' + leftY ax bx ay by').tmod 2 = 0 then 1 else -1) else 0 := by
  have key : iabs (ax - bx) + iabs (ay - by') = 1 ↔ ((bx = ax + 1 ∧ by' = ay) ∨ (bx = ax - 1 ∧ by' = ay) ∨ (bx = ax ∧ by' = ay + 1) ∨ (bx = ax ∧ by' = ay - 1)) := by
    unfold iabs; (repeat' split) <;> omega
  unfold estep
  rw [if_pos h]
  simp only [tmod2]
  clear h
  by_cases hk : (bx = ax + 1 ∧ by' = ay) ∨ (bx = ax - 1 ∧ by' = ay) ∨ (bx = ax ∧ by' = ay + 1) ∨ (bx = ax ∧ by' = ay - 1)
  · rw [if_pos (key.2 hk)]
    clear key
    rcases hk with ⟨rfl, rfl⟩ | ⟨rfl, rfl⟩ | ⟨rfl, rfl⟩ | ⟨rfl, rfl⟩
    · have e1 : leftX ax (ax + 1) by' by' = ax := by unfold leftX; (repeat' split) <;> omega
      have e2 : leftY ax (ax + 1) by' by' = by' - 1 := by unfold leftY; (repeat' split) <;> omega
      rw [e1, e2, if_pos (by omega)]; rfl
    · have e1 : leftX ax (ax - 1) by' by' = ax - 1 := by unfold leftX; (repeat' split) <;> omega
      have e2 : leftY ax (ax - 1) by' by' = by' := by unfold leftY; (repeat' split) <;> omega
      rw [e1, e2, if_neg (by omega), if_pos (by omega)]; rfl
    · have e1 : leftX bx bx ay (ay + 1) = bx := by unfold leftX; (repeat' split) <;> omega
      have e2 : leftY bx bx ay (ay + 1) = ay := by unfold leftY; (repeat' split) <;> omega
      rw [e1, e2, if_neg (by omega), if_neg (by omega), if_pos (by omega)]; rfl
    · have e1 : leftX bx bx ay (ay - 1) = bx - 1 := by unfold leftX; (repeat' split) <;> omega
      have e2 : leftY bx bx ay (ay - 1) = ay - 1 := by unfold leftY; (repeat' split) <;> omega
      rw [e1, e2, if_neg (by omega), if_neg (by omega), if_neg (by omega), if_pos (by omega)]; rfl
  · rw [if_neg (fun h => hk (key.1 h))]
    rw [if_neg (by omega), if_neg (by omega), if_neg (by omega), if_neg (by omega)]
theorem allIn4 (a b c d lo hi : Int) : allIn [a, b, c, d] lo hi = (inB a lo hi && inB b lo hi && inB c lo hi && inB d lo hi) := by
  simp [allIn, Bool.and_assoc]

set_option maxHeartbeats 1000000 in
theorem edgeStep_impl (ax ay bx by' : Int) (w : World) :
    Calls Try.prog 65 #[.int .i64 ax, .int .i64 ay, .int .i64 bx, .int .i64 by'] w fun e w' => e = .returned (.int .i64 (estep ax ay bx by')) ∧ Below w.heap.size w w' := by
  have hall := Lib.hid (allIn4 ax ay bx by' 0 8)
  by_cases hok : stepOk ax ay bx by' = true
  · have h := hok
    simp only [stepOk, Bool.and_eq_true] at h
    obtain ⟨⟨⟨h1, h2⟩, h3⟩, h4⟩ := h
    obtain ⟨i1, i2⟩ := inB_true.1 h1
    obtain ⟨i3, i4⟩ := inB_true.1 h2
    obtain ⟨i5, i6⟩ := inB_true.1 h3
    obtain ⟨i7, i8⟩ := inB_true.1 h4
    have EST := Lib.hid (estep_eq ax ay bx by' hok)
    have hat : allIn [ax, ay, bx, by'] 0 8 = true := by rw [hall.out]; simp [h1, h2, h3, h4]
    clear hok h1 h2 h3 h4
    have b1 := iabs_le (ax - bx) (by omega) (by omega)
    have b2 := iabs_le (ay - by') (by omega) (by omega)
    obtain ⟨b3, b4⟩ := b1
    obtain ⟨b5, b6⟩ := b2
    go_enter Try.func65, Try.ntmps65
    go_wp2_with (first
      | (go_at_call 58; refine (allWithin_c [ax, ay, bx, by'] _ _ _ _ _ _ (by exact rd_new _ _ _ _ _ rfl) (by omega)).mono ?_; rintro e w2 ⟨rfl, rfl⟩)
      | (go_at_call 36; refine (size_c _ _ (by omega) (by omega)).mono ?_; rintro e w3 ⟨rfl, rfl⟩)
      | (go_at_call 81; refine (leftOf_c _ _ _ _ _ (by omega) (by omega) (by omega) (by omega)).mono ?_; rintro e w4 ⟨rfl, hb4⟩; obtain ⟨hc4, hf4, hs4⟩ := bcell hb4; have l1 := left_bd ax bx ay by' i1 i2 i3 i4 i5 i6 i7 i8; obtain ⟨l1, l2, l3, l4⟩ := l1))
    all_goals
      go_ret
      refine ⟨ret_int ?_, by ((repeat (first | exact Below.refl _ _ | with_reducible assumption | refine Below.alloc0 ?_ _ | refine Below.step0 ?_ (by with_reducible assumption) | refine Below.step ?_ (by with_reducible assumption) ?_ | refine Below.alloc ?_ ?_ _ | refine Below.drew ?_ | refine below_drewN ?_ _ | refine Below.setCell ?_ ?_ _)) <;> (first | omega | exact hsz | exact Below.size (by with_reducible assumption) | (simp; done) | (simp; omega) | (simp at *; omega)))⟩
      rw [EST.out]
      simp_all
  · have HOK := Lib.hid hok
    have hat : allIn [ax, ay, bx, by'] 0 8 = false := by rw [hall.out]; simpa [stepOk] using hok
    clear hok
    go_enter Try.func65, Try.ntmps65
    go_wp2_with (go_at_call 58; refine (allWithin_c [ax, ay, bx, by'] _ _ _ _ _ _ (by exact rd_new _ _ _ _ _ rfl) (by omega)).mono ?_; rintro e w2 ⟨rfl, rfl⟩)
    go_ret
    refine ⟨ret_int ?_, by ((repeat (first | exact Below.refl _ _ | with_reducible assumption | refine Below.alloc0 ?_ _ | refine Below.step0 ?_ (by with_reducible assumption) | refine Below.step ?_ (by with_reducible assumption) ?_ | refine Below.alloc ?_ ?_ _ | refine Below.drew ?_ | refine below_drewN ?_ _ | refine Below.setCell ?_ ?_ _)) <;> (first | omega | exact hsz | exact Below.size (by with_reducible assumption) | (simp; done) | (simp; omega) | (simp at *; omega)))⟩
    unfold estep
    rw [if_neg HOK.out]

theorem l13_c (x y : Int) (w : World) (h1 : -1000 ≤ x) (h2 : x ≤ 1000) (h3 : -1000 ≤ y) (h4 : y ≤ 1000) :
    Calls Try.prog 75 #[.int .i64 x, .int .i64 y] w fun e w' => e = .returned (.bool (decide ((x + y) % 2 = 0))) ∧ w = w' := by
  go_enter Try.func75, Try.ntmps75
  go_wp2
  go_ret
  refine ⟨ret_bool ?_, rfl⟩
  rw [Bool.eq_iff_iff]
  simp [tmod2]
set_option maxHeartbeats 1000000 in
theorem edgeStep_spec (ax ay bx by' : Int) (w : World) :
    Calls Try.prog 55 #[.int .i64 ax, .int .i64 ay, .int .i64 bx, .int .i64 by'] w fun e w' => e = .returned (.int .i64 (estep ax ay bx by')) ∧ Below w.heap.size w w' := by
  by_cases hok : stepOk ax ay bx by' = true
  · have h := hok
    simp only [stepOk, Bool.and_eq_true] at h
    obtain ⟨⟨⟨h1, h2⟩, h3⟩, h4⟩ := h
    obtain ⟨i1, i2⟩ := inB_true.1 h1
    obtain ⟨i3, i4⟩ := inB_true.1 h2
    obtain ⟨i5, i6⟩ := inB_true.1 h3
    obtain ⟨i7, i8⟩ := inB_true.1 h4
    have HOK := Lib.hid hok
    clear hok
    go_enter Try.func55, Try.ntmps55
    go_wp2_with (first | (go_at_call 45; refine (l01In_c _ _ _ _).mono ?_; rintro e w2 ⟨rfl, rfl⟩) | (go_at_call 75; refine (l13_c _ _ _ (by omega) (by omega) (by omega) (by omega)).mono ?_; rintro e w' ⟨rfl, rfl⟩))
    all_goals (go_ret; refine ⟨ret_int ?_, Below.refl _ _⟩; unfold estep; rw [if_pos HOK.out]; unfold par; first | omega | (simp at *; omega))
  · have HOK := Lib.hid hok
    have hcase : inB ax 0 8 = false ∨ (inB ax 0 8 = true ∧ inB ay 0 8 = false) ∨ (inB ax 0 8 = true ∧ inB ay 0 8 = true ∧ inB bx 0 8 = false) ∨ (inB ax 0 8 = true ∧ inB ay 0 8 = true ∧ inB bx 0 8 = true ∧ inB by' 0 8 = false) := by
      simp only [stepOk] at hok
      revert hok
      cases inB ax 0 8 <;> cases inB ay 0 8 <;> cases inB bx 0 8 <;> cases inB by' 0 8 <;> simp
    clear hok
    rcases hcase with h1 | ⟨h1, h2⟩ | ⟨h1, h2, h3⟩ | ⟨h1, h2, h3, h4⟩
    all_goals
      go_enter Try.func55, Try.ntmps55
      go_wp2_with (go_at_call 45; refine (l01In_c _ _ _ _).mono ?_; rintro e w2 ⟨rfl, rfl⟩)
      go_ret
      refine ⟨ret_int ?_, Below.refl _ _⟩
      unfold estep
      rw [if_neg HOK.out]

end Go.Proofs.Ytjgimiicfekcpaa
