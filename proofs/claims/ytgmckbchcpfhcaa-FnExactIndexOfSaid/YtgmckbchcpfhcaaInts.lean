
/- The law's own helpers over []int: toIntS, eqIntS, szIntS, markIntS, heldIntS, each by a contract. -/
import Derived.Test.YtgmckbchcpfhcaaBase
namespace Go.Proofs.Ytgmckbchcpfhcaa
open Go.ChangeShapes Go.WideShapes Go.ChangeAt Go.RowKit

set_option maxHeartbeats 400000 in
theorem toIntS_c (l : List Int) (A : Option Addr) (n c : Nat) (w : World) (hrd : RdA w 1 A n (isl l)) (hl : n ≤ 1048576) :
    Calls Try.prog 30 #[.slice A n c] w fun e w' => ∃ v, e = .returned v ∧ w'.ownsRow w.heap.size 3 1 v n (isl l) ∧ Below w.heap.size w w' := by
  obtain rfl : n = l.length := by have := hrd.1; rw [isl_len] at this; omega
  obtain ⟨i0, hi, hz0, hz1, hz2⟩ := info_parts info_int
  have hmk := run_makeN (P := Try.prog) 22 3 i0 (.int .i64 0) Try.underlying22 hi hz0 l.length (by rw [hz2]; omega) (by unfold maxLen; omega)
  rw [hz1] at hmk
  have hown0 := own_new w 3 1 l.length (madeCells (Value.int .i64 0).cells (l.length * 1)) (by rw [size_madeCells]) (by unfold maxLen; omega)
  rw [made_ints] at hown0
  have HO := Lib.hid hown0
  clear hown0
  go_enter Try.func30, Try.ntmps30
  go_wp2
  go_loopw [4] (fun i wr => ∃ k : Nat, k ≤ l.length ∧ i = .int .i64 k ∧ wr.ownsRow w.heap.size 3 1 (.slice (some ⟨w.heap.size, 0, none⟩) l.length l.length) l.length (isl (l.take k ++ (List.replicate l.length 0).drop k)) ∧ Below w.heap.size w wr) (fun i _ => l.length - (intOf i).toNat)
  case atStart => exact ⟨0, Nat.zero_le _, rfl, by simpa [Value.cells] using HO.out, (Below.refl _ _).alloc (Nat.le_refl _) _⟩
  case round =>
    obtain ⟨k, hk, rfl, hown, hbw⟩ := hrel
    clear HO hmk
    by_cases hlt : k < l.length
    · obtain ⟨ad, rfl, hg, c0⟩ := (hrd.below hbw (Nat.le_refl _)).ints hlt
      have hset := Lib.hid (set_take l (List.replicate l.length 0) k hlt (by simp))
      have hst := hown.stored k (.int .i64 l[k])
      have HST := Lib.hid hst.1
      clear hst
      have hcell : ∃ u, wr.cell? ⟨w.heap.size, k, none⟩ = some u := by
        rw [hown.cellAt k (by omega)]
        exact ⟨_, List.getElem?_eq_getElem (by simp [isl_len]; omega)⟩
      obtain ⟨u0, hcell⟩ := hcell
      have hfr := hown.frozenAt k
      clear hown
      go_wp2
      go_roundw
      case rel =>
        refine ⟨k + 1, by omega, by go_num, ?_, hbw.setCell (Nat.le_refl _) _⟩
        rw [← hset.out]
        have h := HST.out
        simp only [isl, List.map_set] at h ⊢
        exact h
      case measure => simp [intOf]; omega
    · obtain rfl : k = l.length := by omega
      go_wp2
      go_ret
      exact ⟨_, rfl, by simpa using hown, hbw⟩

theorem szIntS_c (a left : Int) (A : Option Addr) (n c : Nat) (hl : (n : Int) = a) (h0 : 0 ≤ left) (h1 : left ≤ 1048576) (h2 : n ≤ 9223372036854775807) (w : World) :
    Calls Try.prog 26 #[.slice A n c, .int .i64 left] w fun e w' => e = .returned (.int .i64 (if left < a then -1 else left - a)) ∧ w = w' := by
  subst hl
  go_enter Try.func26, Try.ntmps26
  go_wp2
  all_goals (go_ret; refine ⟨ret_int ?_, rfl⟩; first | rfl | rw [if_pos (by omega)] | rw [if_neg (by omega)])

theorem take_succ_eq {α : Type} (l m : List α) (k : Nat) (h : l.take k = m.take k) (hl : k < l.length) (hm : k < m.length) (he : l[k] = m[k]) : l.take (k+1) = m.take (k+1) := by
  rw [List.take_succ_eq_append_getElem hl, List.take_succ_eq_append_getElem hm, h, he]

set_option maxHeartbeats 400000 in
theorem eqIntS_c (l m : List Int) (A B : Option Addr) (n c n' c' : Nat) (w : World) (hl : Rd w 1 A n (isl l)) (hm : Rd w 1 B n' (isl m)) (hb : n ≤ 4194304) (hb' : n' ≤ 4194304) :
    Calls Try.prog 22 #[.slice A n c, .slice B n' c'] w fun e w' => e = .returned (.bool (decide (l = m))) ∧ Below w.heap.size w w' := by
  obtain rfl := hl.len1
  obtain rfl := hm.len1
  by_cases hn : l.length = m.length
  · have hn1 : ((l.length : Int) == (m.length : Int)) = true := by simp [hn]
    have hn2 : ((l.length : Int) != (m.length : Int)) = false := by simp [hn]
    have HN := Lib.hid hn
    clear hn
    go_enter Try.func22, Try.ntmps22
    go_wp2
    go_loopw [5] (fun i wr => ∃ k : Nat, k ≤ l.length ∧ i = .int .i64 k ∧ l.take k = m.take k ∧ Below w.heap.size w wr) (fun i _ => l.length - (intOf i).toNat)
    case atStart => exact ⟨0, Nat.zero_le _, rfl, rfl, Below.refl _ _⟩
    case round =>
      obtain ⟨k, hk, rfl, hpre, hbw⟩ := hrel
      have HPRE := Lib.hid hpre
      clear hpre hn1 hn2
      by_cases hlt : k < l.length
      · have hlt' : k < m.length := by rw [← HN.out]; exact hlt
        obtain ⟨g, off, rfl, hg, c0⟩ := (hl.below hbw (Nat.le_refl _)).ints hlt
        obtain ⟨g', off', rfl, hg', c0'⟩ := (hm.below hbw (Nat.le_refl _)).ints hlt'
        have k0 : (0 : Int) ≤ (k : Int) := by omega
        have k1 : (k : Int) < (l.length : Int) := by omega
        have k2 : (k : Int) < (m.length : Int) := by omega
        by_cases he : l[k] = m[k]
        · have he1 : (l[k] == m[k]) = true := by simp [he]
          have he2 : (l[k] != m[k]) = false := by simp [he]
          have HE := Lib.hid he
          clear he
          go_wp2
          go_quiet (fail)
          go_wp2
          go_roundw
          case rel => exact ⟨k + 1, by omega, by go_num, take_succ_eq l m k HPRE.out hlt hlt' HE.out, by first | exact hbw | exact hbw.drew | exact ⟨hbw.os, hbw.tape, hbw.output, hbw.size, hbw.block⟩⟩
          case measure => simp [intOf]; omega
        · have he1 : (l[k] == m[k]) = false := by simp [he]
          have he2 : (l[k] != m[k]) = true := by simp [he]
          have HR := Lib.hid (show decide (l = m) = false by rw [decide_eq_false_iff_not]; rintro rfl; exact he rfl)
          go_wp2
          go_quiet (fail)
          go_wp2
          go_ret
          exact ⟨ret_bool HR.out.symm, by first | exact hbw | exact hbw.drew | exact ⟨hbw.os, hbw.tape, hbw.output, hbw.size, hbw.block⟩⟩
      · obtain rfl : k = l.length := by omega
        have hd : l = m := by
          have h := HPRE.out
          rw [List.take_of_length_le (Nat.le_refl _), List.take_of_length_le (by rw [HN.out]; exact Nat.le_refl _)] at h
          exact h
        have HR := Lib.hid (show decide (l = m) = true by simpa using hd)
        clear hd
        go_wp2
        go_ret
        exact ⟨ret_bool HR.out.symm, hbw⟩
  · have hn1 : ((l.length : Int) == (m.length : Int)) = false := by rw [beq_eq_false_iff_ne]; omega
    have hn2 : ((l.length : Int) != (m.length : Int)) = true := by rw [bne_iff_ne]; omega
    have HR := Lib.hid (show decide (l = m) = false by rw [decide_eq_false_iff_not]; rintro rfl; exact hn rfl)
    go_enter Try.func22, Try.ntmps22
    go_wp2
    go_ret
    exact ⟨ret_bool HR.out.symm, Below.refl _ _⟩

def seqI (k : Int) (n : Nat) : List Int := (List.range n).map fun (i : Nat) => k + (i : Int)
theorem seqI_len (k : Int) (n : Nat) : (seqI k n).length = n := by simp [seqI]
theorem seqI_get (k : Int) (n i : Nat) (h : i < (seqI k n).length) : (seqI k n)[i] = k + (i : Int) := by simp [seqI]

set_option maxHeartbeats 400000 in
theorem markIntS_c (l : List Int) (A : Option Addr) (n c B : Nat) (k0 : Int) (w : World) (hown : w.ownsRow B 3 1 (.slice A n c) n (isl l)) (hb : n ≤ 4194304) (hk0 : 0 ≤ k0) (hk1 : k0 ≤ 1099511627776) :
    Calls Try.prog 24 #[.slice A n c, .int .i64 k0] w fun e w' => e = .returned (.int .i64 (k0 + n)) ∧ w'.ownsRow B 3 1 (.slice A n c) n (isl (seqI k0 n)) ∧ w.grownBy w' (Value.slice A n c).ownBlock ∧ Below B w w' := by
  obtain rfl := (own_rd hown).len1
  go_enter Try.func24, Try.ntmps24
  go_wp2
  go_loopw [1, 5] (fun m i wr => ∃ k : Nat, k ≤ l.length ∧ i = .int .i64 k ∧ m = .int .i64 (k0 + k) ∧ wr.ownsRow B 3 1 (.slice A l.length c) l.length (isl ((seqI k0 l.length).take k ++ l.drop k)) ∧ w.grownBy wr (Value.slice A l.length c).ownBlock ∧ Below B w wr) (fun _ i _ => l.length - (intOf i).toNat)
  case atStart => exact ⟨0, Nat.zero_le _, rfl, by simp, by simpa using hown, grown_refl _ _, Below.refl _ _⟩
  case round =>
    obtain ⟨k, hk, rfl, rfl, hown', hgr, hbw⟩ := hrel
    have HGR := Lib.hid hgr
    clear hown hgr
    by_cases hlt : k < l.length
    · obtain ⟨g, rfl, hg1, hg2⟩ := own_some hown' (by omega)
      have hset := Lib.hid (set_take (seqI k0 l.length) l k (by rw [seqI_len]; exact hlt) (by rw [seqI_len]))
      have hst := hown'.stored k (.int .i64 (k0 + k))
      have HST := Lib.hid hst.1
      clear hst
      have hcell : ∃ u, wr.cell? ⟨g, k, none⟩ = some u := by
        rw [hown'.cellAt k (by omega)]
        exact ⟨_, List.getElem?_eq_getElem (by simp [isl_len, seqI_len]; omega)⟩
      obtain ⟨u0, hcell⟩ := hcell
      have hfr := hown'.frozenAt k
      clear hown'
      go_wp2
      go_roundw
      case rel =>
        refine ⟨k + 1, by omega, by go_num, int_eq (by omega), ?_, grown_set (p := ⟨g, k, none⟩) HGR.out rfl _, hbw.setCell hg1 _⟩
        have h1 := hset.out
        rw [seqI_get] at h1
        rw [← h1]
        have h := HST.out
        simp only [isl, List.map_set] at h ⊢
        exact h
      case measure => simp [intOf]; omega
    · obtain rfl : k = l.length := by omega
      go_wp2
      go_ret
      refine ⟨rfl, ?_, HGR.out, hbw⟩
      have h := hown'
      rw [List.take_of_length_le (by rw [seqI_len]; exact Nat.le_refl _)] at h
      simpa using h

set_option maxHeartbeats 400000 in
theorem heldIntS_c (A : Option Addr) (n c : Nat) (k0 : Int) (w : World) (hrd : Rd w 1 A n (isl (seqI k0 n))) (hb : n ≤ 4194304) (hk0 : 0 ≤ k0) (hk1 : k0 ≤ 1099511627776) :
    Calls Try.prog 25 #[.slice A n c, .int .i64 k0] w fun e w' => e = .returned (.int .i64 (k0 + n)) ∧ Below w.heap.size w w' := by
  go_enter Try.func25, Try.ntmps25
  go_wp2
  go_loopw [1, 5] (fun m i wr => ∃ k : Nat, k ≤ n ∧ i = .int .i64 k ∧ m = .int .i64 (k0 + k) ∧ Below w.heap.size w wr) (fun _ i _ => n - (intOf i).toNat)
  case atStart => exact ⟨0, Nat.zero_le _, rfl, by simp, Below.refl _ _⟩
  case round =>
    obtain ⟨k, hk, rfl, rfl, hbw⟩ := hrel
    by_cases hlt : k < n
    · obtain ⟨g, off, rfl, hg, c0⟩ := (hrd.below hbw (Nat.le_refl _)).ints (k := k) (by rw [seqI_len]; exact hlt)
      rw [seqI_get] at c0
      go_wp2
      go_roundw
      case rel => exact ⟨k + 1, by omega, by go_num, int_eq (by omega), by ((repeat (first | exact Below.refl _ _ | with_reducible assumption | refine Below.alloc0 ?_ _ | refine Below.step0 ?_ (by with_reducible assumption) | refine Below.step ?_ (by with_reducible assumption) ?_ | refine Below.alloc ?_ ?_ _ | refine Below.drew ?_ | refine below_drewN ?_ _ | refine Below.setCell ?_ ?_ _)) <;> (first | omega | exact hsz | exact Below.size (by with_reducible assumption) | (simp; done) | (simp; omega) | (simp at *; omega)))⟩
      case measure => simp [intOf]; omega
    · obtain rfl : k = n := by omega
      go_wp2
      go_ret
      exact ⟨rfl, hbw⟩
end Go.Proofs.Ytgmckbchcpfhcaa
