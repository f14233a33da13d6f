/- SameDominoes and CountDown, of the program and of the reference. -/
import Derived.Test.YtffifeljpegknaaDoms
namespace Go.Proofs.Ytffifeljpegknaa
open Go.ChangeShapes Go.WideShapes Go.ChangeAt Go.RowKit

set_option maxHeartbeats 1000000 in
theorem sameDominoes_impl (l m : List Dom) (A B : Option Addr) (n c n' c' : Nat) (w : World) (hl : Rd w 3 A n (dsl l)) (hm : Rd w 3 B n' (dsl m)) (hb : n ≤ 4194304) (hb' : n' ≤ 4194304) :
    Calls Try.prog 20 #[.slice A n c, .slice B n' c'] w fun e w' => e = .returned (.bool (decide (l = m))) ∧ Below w.heap.size w w' := by
  obtain rfl := hl.len3
  obtain rfl := hm.len3
  by_cases hn : l.length = m.length
  · have hn1 : ((l.length : Int) == (m.length : Int)) = true := by simp [hn]
    have hn2 : ((l.length : Int) != (m.length : Int)) = false := by simp [hn]
    have HN := Lib.hid hn
    clear hn
    go_enter Try.func20, Try.ntmps20
    go_wp2
    go_loopw [5, 13] (fun _ i wr => ∃ k : Nat, k ≤ l.length ∧ i = .int .i64 k ∧ l.take k = m.take k ∧ Below w.heap.size w wr) (fun _ i _ => l.length - (intOf i).toNat)
    case atStart => exact ⟨0, Nat.zero_le _, rfl, rfl, Below.refl _ _⟩
    case round =>
      obtain ⟨k, hk, rfl, hpre, hbw⟩ := hrel
      have HPRE := Lib.hid hpre
      clear hpre hn1 hn2
      by_cases hlt : k < l.length
      · have hlt' : k < m.length := by rw [← HN.out]; exact hlt
        obtain ⟨g, off, rfl, hg, c0, c1, c2⟩ := (hl.below hbw (Nat.le_refl _)).doms hlt
        obtain ⟨g', off', rfl, hg', d0, d1, d2⟩ := (hm.below hbw (Nat.le_refl _)).doms hlt'
        have k0 : (0 : Int) ≤ (k : Int) := by omega
        have k1 : (k : Int) < (l.length : Int) := by omega
        have k2 : (k : Int) < (m.length : Int) := by omega
        have hsz := hbw.size
        have hne := run_neq_dom l[k].x l[k].y l[k].d m[k].x m[k].y m[k].d
        have HS := Lib.hid (show dEq l[k].x l[k].y l[k].d m[k].x m[k].y m[k].d = true → l.take (k+1) = m.take (k+1) by
          intro h; rw [dEq_dom] at h; exact take_succ_eq l m k HPRE.out hlt hlt' (by simpa using h))
        have HR := Lib.hid (show dEq l[k].x l[k].y l[k].d m[k].x m[k].y m[k].d = false → decide (l = m) = false by
          intro h; rw [dEq_dom] at h; rw [decide_eq_false_iff_not] at h ⊢; rintro rfl; exact h rfl)
        go_wp2
        go_quiet (fail)
        go_wp2
        all_goals first
          | (go_roundw; (case rel => exact ⟨k + 1, by omega, by go_num, HS.out (by first | assumption | simp_all), by first | exact hbw | ((repeat (first | exact Below.refl _ _ | with_reducible assumption | refine Below.step0 ?_ (by assumption) | refine Below.alloc0 ?_ _ | refine Below.step ?_ (by assumption) ?_ | refine Below.alloc ?_ ?_ _ | refine Below.drew ?_ | refine below_drewN ?_ _ | refine Below.setCell ?_ ?_ _)) <;> (first | omega | exact hsz | exact Below.size (by assumption) | (simp; done) | (simp; omega) | (simp at *; omega)))⟩); (case measure => simp [intOf]; omega))
          | (go_ret; exact ⟨ret_bool (HR.out (by first | assumption | simp_all)).symm, by first | exact hbw | ((repeat (first | exact Below.refl _ _ | with_reducible assumption | refine Below.step0 ?_ (by assumption) | refine Below.alloc0 ?_ _ | refine Below.step ?_ (by assumption) ?_ | refine Below.alloc ?_ ?_ _ | refine Below.drew ?_ | refine below_drewN ?_ _ | refine Below.setCell ?_ ?_ _)) <;> (first | omega | exact hsz | exact Below.size (by assumption) | (simp; done) | (simp; omega) | (simp at *; omega)))⟩)
      · obtain rfl : k = l.length := by omega
        have hd : l = m := by
          have h := HPRE.out
          rw [List.take_of_length_le (Nat.le_refl _), List.take_of_length_le (by rw [HN.out]; exact Nat.le_refl _)] at h
          exact h
        have HR := Lib.hid (show decide (l = m) = true by simpa using hd)
        clear hd
        go_wp2
        go_ret
        exact ⟨ret_bool HR.out.symm, hbw⟩
  · have hn1 : ((l.length : Int) == (m.length : Int)) = false := by rw [beq_eq_false_iff_ne]; omega
    have hn2 : ((l.length : Int) != (m.length : Int)) = true := by rw [bne_iff_ne]; omega
    have HR := Lib.hid (show decide (l = m) = false by rw [decide_eq_false_iff_not]; rintro rfl; exact hn rfl)
    go_enter Try.func20, Try.ntmps20
    go_wp2
    go_ret
    exact ⟨ret_bool HR.out.symm, Below.refl _ _⟩
set_option maxHeartbeats 1000000 in
theorem sameDominoes_spec (l m : List Dom) (A B : Option Addr) (n c n' c' : Nat) (w : World) (hl : Rd w 3 A n (dsl l)) (hm : Rd w 3 B n' (dsl m)) (hb : n ≤ 4194304) (hb' : n' ≤ 4194304) :
    Calls Try.prog 18 #[.slice A n c, .slice B n' c'] w fun e w' => e = .returned (.bool (decide (l = m))) ∧ Below w.heap.size w w' := by
  obtain rfl := hl.len3
  obtain rfl := hm.len3
  by_cases hn : l.length = m.length
  · have hn1 : ((l.length : Int) == (m.length : Int)) = true := by simp [hn]
    have hn2 : ((l.length : Int) != (m.length : Int)) = false := by simp [hn]
    have HN := Lib.hid hn
    clear hn
    go_enter Try.func18, Try.ntmps18
    go_wp2
    go_loopw [5] (fun i wr => ∃ k : Nat, k ≤ l.length ∧ i = .int .i64 k ∧ l.take k = m.take k ∧ Below w.heap.size w wr) (fun i _ => l.length - (intOf i).toNat)
    case atStart => exact ⟨0, Nat.zero_le _, rfl, rfl, Below.refl _ _⟩
    case round =>
      obtain ⟨k, hk, rfl, hpre, hbw⟩ := hrel
      have HPRE := Lib.hid hpre
      clear hpre hn1 hn2
      by_cases hlt : k < l.length
      · have hlt' : k < m.length := by rw [← HN.out]; exact hlt
        obtain ⟨g, off, rfl, hg, c0, c1, c2⟩ := (hl.below hbw (Nat.le_refl _)).doms hlt
        obtain ⟨g', off', rfl, hg', d0, d1, d2⟩ := (hm.below hbw (Nat.le_refl _)).doms hlt'
        have k0 : (0 : Int) ≤ (k : Int) := by omega
        have k1 : (k : Int) < (l.length : Int) := by omega
        have k2 : (k : Int) < (m.length : Int) := by omega
        have hsz := hbw.size
        have hne := run_neq_dom l[k].x l[k].y l[k].d m[k].x m[k].y m[k].d
        have HS := Lib.hid (show dEq l[k].x l[k].y l[k].d m[k].x m[k].y m[k].d = true → l.take (k+1) = m.take (k+1) by
          intro h; rw [dEq_dom] at h; exact take_succ_eq l m k HPRE.out hlt hlt' (by simpa using h))
        have HR := Lib.hid (show dEq l[k].x l[k].y l[k].d m[k].x m[k].y m[k].d = false → decide (l = m) = false by
          intro h; rw [dEq_dom] at h; rw [decide_eq_false_iff_not] at h ⊢; rintro rfl; exact h rfl)
        go_wp2
        go_quiet (fail)
        go_wp2
        all_goals first
          | (go_roundw; (case rel => exact ⟨k + 1, by omega, by go_num, HS.out (by first | assumption | simp_all), by first | exact hbw | ((repeat (first | exact Below.refl _ _ | with_reducible assumption | refine Below.step0 ?_ (by assumption) | refine Below.alloc0 ?_ _ | refine Below.step ?_ (by assumption) ?_ | refine Below.alloc ?_ ?_ _ | refine Below.drew ?_ | refine below_drewN ?_ _ | refine Below.setCell ?_ ?_ _)) <;> (first | omega | exact hsz | exact Below.size (by assumption) | (simp; done) | (simp; omega) | (simp at *; omega)))⟩); (case measure => simp [intOf]; omega))
          | (go_ret; exact ⟨ret_bool (HR.out (by first | assumption | simp_all)).symm, by first | exact hbw | ((repeat (first | exact Below.refl _ _ | with_reducible assumption | refine Below.step0 ?_ (by assumption) | refine Below.alloc0 ?_ _ | refine Below.step ?_ (by assumption) ?_ | refine Below.alloc ?_ ?_ _ | refine Below.drew ?_ | refine below_drewN ?_ _ | refine Below.setCell ?_ ?_ _)) <;> (first | omega | exact hsz | exact Below.size (by assumption) | (simp; done) | (simp; omega) | (simp at *; omega)))⟩)
      · obtain rfl : k = l.length := by omega
        have hd : l = m := by
          have h := HPRE.out
          rw [List.take_of_length_le (Nat.le_refl _), List.take_of_length_le (by rw [HN.out]; exact Nat.le_refl _)] at h
          exact h
        have HR := Lib.hid (show decide (l = m) = true by simpa using hd)
        clear hd
        go_wp2
        go_ret
        exact ⟨ret_bool HR.out.symm, hbw⟩
  · have hn1 : ((l.length : Int) == (m.length : Int)) = false := by rw [beq_eq_false_iff_ne]; omega
    have hn2 : ((l.length : Int) != (m.length : Int)) = true := by rw [bne_iff_ne]; omega
    have HR := Lib.hid (show decide (l = m) = false by rw [decide_eq_false_iff_not]; rintro rfl; exact hn rfl)
    go_enter Try.func18, Try.ntmps18
    go_wp2
    go_ret
    exact ⟨ret_bool HR.out.symm, Below.refl _ _⟩

def countDown (l : List Dom) : Nat := (l.filter fun d => d.ok && d.d).length
theorem countDown_succ (l : List Dom) (k : Nat) (h : k < l.length) : countDown (l.take (k+1)) = countDown (l.take k) + (if l[k].ok && l[k].d then 1 else 0) := by
  unfold countDown
  rw [List.take_succ_eq_append_getElem h, List.filter_append, List.length_append]
  congr 1
  simp [List.filter_cons]
  split <;> simp
theorem countDown_le (l : List Dom) (k : Nat) : countDown (l.take k) ≤ l.length := by
  unfold countDown
  exact Nat.le_trans (List.length_filter_le _ _) (by simp; omega)

set_option maxHeartbeats 400000 in
theorem countDown_impl (l : List Dom) (A : Option Addr) (n c : Nat) (w : World) (hrd : Rd w 3 A n (dsl l)) (hl : n ≤ 1048576) :
    Calls Try.prog 23 #[.slice A n c] w fun e w' => e = .returned (.int .i64 (countDown l)) ∧ Below w.heap.size w w' := by
  obtain rfl := hrd.len3
  go_enter Try.func23, Try.ntmps23
  go_wp2
  go_loopw [3, 8] (fun a i wr => ∃ k : Nat, k ≤ l.length ∧ i = .int .i64 k ∧ a = .int .i64 (countDown (l.take k)) ∧ Below w.heap.size w wr) (fun _ i _ => l.length - (intOf i).toNat)
  case atStart => exact ⟨0, Nat.zero_le _, rfl, rfl, Below.refl _ _⟩
  case round =>
    obtain ⟨k, hk, rfl, rfl, hbw⟩ := hrel
    have hcl := countDown_le l k
    have hsz := hbw.size
    by_cases hlt : k < l.length
    · have HS := Lib.hid (countDown_succ l k hlt)
      obtain ⟨g, off, rfl, hg, c0, c1, c2⟩ := (hrd.below hbw (Nat.le_refl _)).doms hlt
      go_wp2_with (go_at_call 38; refine (dominoOk_impl _ _ _ _).mono ?_; rintro e w2 ⟨rfl, hb2⟩; obtain ⟨hc2, hf2, hs2⟩ := bcell hb2)
      all_goals
        go_roundw
        case rel => exact ⟨k + 1, by omega, by go_num, by rw [HS.out]; first | (simp [Dom.ok, *]; done) | simp_all [Dom.ok], by ((repeat (first | exact Below.refl _ _ | with_reducible assumption | refine Below.step0 ?_ (by assumption) | refine Below.alloc0 ?_ _ | refine Below.step ?_ (by assumption) ?_ | refine Below.alloc ?_ ?_ _ | refine Below.drew ?_ | refine below_drewN ?_ _ | refine Below.setCell ?_ ?_ _)) <;> (first | omega | exact hsz | exact Below.size (by assumption) | (simp; done) | (simp; omega) | (simp at *; omega)))⟩
        case measure => simp [intOf]; omega
    · obtain rfl : k = l.length := by omega
      go_wp2
      go_ret
      exact ⟨by simp, hbw⟩

set_option maxHeartbeats 400000 in
theorem countDown_spec (l : List Dom) (A : Option Addr) (n c : Nat) (w : World) (hrd : Rd w 3 A n (dsl l)) (hl : n ≤ 1048576) :
    Calls Try.prog 22 #[.slice A n c] w fun e w' => e = .returned (.int .i64 (countDown l)) ∧ Below w.heap.size w w' := by
  obtain rfl := hrd.len3
  go_enter Try.func22, Try.ntmps22
  go_wp2
  go_loopw [3, 4] (fun a i wr => ∃ k : Nat, k ≤ l.length ∧ i = .int .i64 k ∧ a = .int .i64 (countDown (l.take k)) ∧ Below w.heap.size w wr) (fun _ i _ => l.length - (intOf i).toNat)
  case atStart => exact ⟨0, Nat.zero_le _, rfl, rfl, Below.refl _ _⟩
  case round =>
    obtain ⟨k, hk, rfl, rfl, hbw⟩ := hrel
    have hcl := countDown_le l k
    have hsz := hbw.size
    by_cases hlt : k < l.length
    · have HS := Lib.hid (countDown_succ l k hlt)
      obtain ⟨g, off, rfl, hg, c0, c1, c2⟩ := (hrd.below hbw (Nat.le_refl _)).doms hlt
      go_wp2_with (go_at_call 37; refine (dominoOk_spec _ _ _ _).mono ?_; rintro e w2 ⟨rfl, hb2⟩; obtain ⟨hc2, hf2, hs2⟩ := bcell hb2)
      all_goals
        go_roundw
        case rel => exact ⟨k + 1, by omega, by go_num, by rw [HS.out]; first | (simp [Dom.ok, *]; done) | simp_all [Dom.ok], by ((repeat (first | exact Below.refl _ _ | with_reducible assumption | refine Below.step0 ?_ (by assumption) | refine Below.alloc0 ?_ _ | refine Below.step ?_ (by assumption) ?_ | refine Below.alloc ?_ ?_ _ | refine Below.drew ?_ | refine below_drewN ?_ _ | refine Below.setCell ?_ ?_ _)) <;> (first | omega | exact hsz | exact Below.size (by assumption) | (simp; done) | (simp; omega) | (simp at *; omega)))⟩
        case measure => simp [intOf]; omega
    · obtain rfl : k = l.length := by omega
      go_wp2
      go_ret
      exact ⟨by simp, hbw⟩
end Go.Proofs.Ytffifeljpegknaa
