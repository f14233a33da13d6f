/- Walks over clean states, printed by wg.py. No statement is proved here. -/
import Derived.Test.YtonlghbbdcddoaaC16
import Derived.Test.YtonlghbbdcddoaaClB
namespace Go.Proofs.Ytonlghbbdcddoaa
namespace Cl
open Go.ChangeShapes Go.WideShapes Go.ChangeAt Go.RowKit
set_option maxRecDepth 20000

def tlb (n s : Nat) (b : Bool) : List (List Dom) := if fitD s (dmn (firstI s) b) = true then (tls n (andn s (domS (dmn (firstI s) b)))).map (dmn (firstI s) b :: ·) else []
def tlk (n s : Nat) : Nat → List (List Dom)
  | 0 => []
  | k + 1 => tlk n s k ++ tlb n s (decide (((k : Nat) : Int) = 1))
theorem tls_succ {n s : Nat} (h : s ≠ 0) : tls (n + 1) s = tlk n s 2 := by rw [tls, if_neg h]; rfl
theorem tls_zero {n s : Nat} (h : s = 0) : tls (n + 1) s = [[]] := by rw [tls, if_pos h]
theorem tlk_no {n s k : Nat} {d : Dom} (hd : d = dmn (firstI s) (decide (((k : Nat) : Int) = 1))) (h : fitD s d = false) : tlk n s (k + 1) = tlk n s k := by
  show tlk n s k ++ tlb n s _ = _
  unfold tlb; rw [← hd, h]; simp
theorem tlk_yes {n s k : Nat} {d : Dom} (hd : d = dmn (firstI s) (decide (((k : Nat) : Int) = 1))) (h : fitD s d = true) : tlk n s (k + 1) = tlk n s k ++ (tls n (andn s (domS d))).map (d :: ·) := by
  show tlk n s k ++ tlb n s _ = _
  unfold tlb; rw [← hd, if_pos h]
theorem tlk_le {n s k : Nat} (h0 : s ≠ 0) (hk : k ≤ 2) : (tlk n s k).length ≤ (tls (n + 1) s).length := by
  rw [tls_succ h0]
  match k, hk with
  | 0, _ => exact Nat.zero_le _
  | 1, _ => show _ ≤ (tlk n s 1 ++ _).length; rw [List.length_append]; omega
  | 2, _ => exact Nat.le_refl _
theorem tlk_full {n s k : Nat} (h0 : s ≠ 0) (hk : k ≤ 2) (h : (tls (n + 1) s).length ≤ (tlk n s k).length) : tlk n s k = tls (n + 1) s := by
  rw [tls_succ h0] at h ⊢
  match k, hk, h with
  | 0, _, h => exact (List.eq_nil_of_length_eq_zero (Nat.le_zero.1 h)).symm
  | 1, _, h =>
    have e : tlk n s 2 = tlk n s 1 ++ tlb n s (decide (((1 : Nat) : Int) = 1)) := rfl
    rw [e, List.length_append] at h
    rw [e, List.eq_nil_of_length_eq_zero (l := tlb n s (decide (((1 : Nat) : Int) = 1))) (by omega), List.append_nil]
  | 2, _, _ => rfl
theorem tl_round {n s k : Nat} {L : List (List Dom)} {P : List Dom} {d : Dom} (hd : d = dmn (firstI s) (decide (((k : Nat) : Int) = 1))) (h : fitD s d = true) : (L ++ (tlk n s k).map (P ++ ·)) ++ (tls n (andn s (domS d))).map ((P ++ [d]) ++ ·) = L ++ (tlk n s (k + 1)).map (P ++ ·) := by
  rw [tlk_yes hd h, List.map_append, List.map_map, List.append_assoc]
  congr 2
  apply List.map_congr_left
  intro x _; show (P ++ [d]) ++ x = P ++ (d :: x); rw [List.append_assoc]; rfl
theorem tl_len {n s k : Nat} {d : Dom} (hd : d = dmn (firstI s) (decide (((k : Nat) : Int) = 1))) (h : fitD s d = true) (h0 : s ≠ 0) (hk : k < 2) : (tlk n s k).length + (tls n (andn s (domS d))).length ≤ (tls (n + 1) s).length := by
  have := tlk_le (n := n) h0 (show k + 1 ≤ 2 by omega)
  rw [tlk_yes hd h, List.length_append, List.length_map] at this; exact this
theorem fit_no1 {s : Nat} {d : Dom} (h : okD d = false) : fitD s d = false := by unfold fitD; rw [h]; rfl
theorem set_first {s : Nat} (hlt : s < 18446744073709551616) (h0 : s ≠ 0) : gC (setCells s) 0 = cN (firstI s) ∧ 0 < (setCells s).length := by
  have hf := firstI_lt hlt h0
  have hm : cN (firstI s) ∈ setCells s := set_mem.2 (by unfold hasS; rw [cN_ok hf.1, idx_cN hf.1, hf.2]; rfl)
  have hpos := List.length_pos_of_mem hm
  refine ⟨?_, hpos⟩
  have h1 := set_mem.1 (gC_mem hpos)
  obtain ⟨j, hj, e⟩ := List.getElem_of_mem hm
  rw [← gC_eq hj] at e
  have hi : idx (gC (setCells s) 0) = firstI s := by
    rcases Nat.eq_zero_or_pos j with rfl | hp
    · rw [e, idx_cN hf.1]
    · have := setCells_lt (s := s) hp hj
      rw [e, idx_cN hf.1] at this
      have hb := firstI_min (s := s) this
      unfold hasS at h1; rw [hb] at h1; simp at h1
  have h2 := hasS_ok h1
  rw [← idx_inj h2 (cN_ok hf.1) (by rw [hi, idx_cN hf.1])]
theorem lftE_lt {l : List Int} {P : List Dom} (ho : regOk l = true) : lft l P < 18446744073709551616 := andn_lt (regSet_lt ho)
theorem lft_nil (l : List Int) : lft l [] = regSet l := by unfold lft; exact andn_cov0 _ []
theorem lft_snoc {l : List Int} {P : List Dom} {d : Dom} (hd : okD d = true) : lft l (P ++ [d]) = andn (lft l P) (domS d) := by
  unfold lft; rw [andn_or]; congr 1
  unfold covS; rw [List.foldl_append]; show cov1 _ d = _
  unfold cov1; rw [if_pos hd]
theorem unc_none {l : List Int} {P : List Dom} (ho : regOk l = true) (h : ((unc l P).length : Int) = 0) : lft l P = 0 := by
  rw [← unc_set P ho] at h
  exact popc_nz (lftE_lt ho) (by rw [← popc_len (s := lft l P) (lftE_lt ho)]; exact Int.ofNat.inj h)
theorem unc_some {l : List Int} {P : List Dom} (ho : regOk l = true) (h : ¬ ((unc l P).length : Int) = 0) : lft l P ≠ 0 := by
  intro e
  rw [← unc_set P ho, show andn (regSet l) (covS P) = lft l P from rfl, e] at h
  exact h (by decide)
theorem unc_first {l : List Int} {P : List Dom} (ho : regOk l = true) (h : lft l P ≠ 0) : gC (unc l P) 0 = cN (firstI (lft l P)) ∧ 0 < (unc l P).length := by
  rw [← unc_set P ho]; exact set_first (lftE_lt ho) h
theorem l08_fit {l : List Int} {P : List Dom} {d : Dom} (ho : regOk l = true) (hd : okD d = true) (ha : (lft l P).testBit (idx (ca d)) = true) : fitD (lft l P) d = (hasC l (cb d) && decide (atD P (cb d) < 0)) := by
  unfold fitD; rw [hd, Bool.true_and, show decide (lft l P &&& domS d = domS d) = fits (regSet l) (covS P) d from rfl, fits_iff]
  have ha' : ((regSet l).testBit (idx (ca d)) && !(covS P).testBit (idx (ca d))) = true := by unfold lft at ha; rw [andn_bit] at ha; exact ha
  rw [ha', Bool.true_and, covS_bit P (ok_cb hd), atD_neg]; unfold hasC; rw [ho, ok_cb hd]; simp
theorem l08_bit {l : List Int} {P : List Dom} {b : Bool} (ho : regOk l = true) (h0 : lft l P ≠ 0) : (lft l P).testBit (idx (ca (dmn (firstI (lft l P)) b))) = true := by
  have hf := firstI_lt (lftE_lt (P := P) ho) h0
  rw [ca_dmn b hf.1]; exact hf.2
def ltR (l : List Int) : List (List Dom) := if (decide (1 ≤ cntR l) && decide (cntR l ≤ 300)) = true then tls 33 (regSet l) else []
theorem ltR_no {l : List Int} (h : inB ((cntR l : Nat) : Int) 1 300 = false) : ltR l = [] := by
  unfold ltR; rw [if_neg]; intro e
  simp only [Bool.and_eq_true, decide_eq_true_eq] at e
  have := inB_false.1 h; omega
theorem ltR_yes {l : List Int} (h : inB ((cntR l : Nat) : Int) 1 300 = true) : ltR l = tls 33 (regSet l) ∧ regOk l = true ∧ (tls 33 (regSet l)).length ≤ 300 := by
  have h1 := inB_true.1 h
  have hr : regOk l = true := cntR_reg (by omega)
  refine ⟨?_, hr, ?_⟩
  · unfold ltR; rw [if_pos]; simp only [Bool.and_eq_true, decide_eq_true_eq]; omega
  · rw [tls_len 33 _ (regSet_lt hr) (by have := popc_le (regSet l); omega)]
    have e := cntR_yes hr
    omega
theorem tls_row : ∀ n s, ∀ P ∈ tls n s, P.length ≤ n := by
  intro n
  induction n with
  | zero => intro s P h; simp [tls] at h
  | succ n ih =>
    intro s P h
    unfold tls at h
    split at h
    · simp at h; subst h; simp
    · rw [List.mem_append] at h
      rcases h with h | h
      · split at h
        · obtain ⟨Q, hQ, rfl⟩ := List.mem_map.1 h
          have := ih _ Q hQ; simp; omega
        · simp at h
      · split at h
        · obtain ⟨Q, hQ, rfl⟩ := List.mem_map.1 h
          have := ih _ Q hQ; simp; omega
        · simp at h
theorem ltR_row {l : List Int} {k : Nat} (h : k < (ltR l).length) : (gLd (ltR l) k).length ≤ 33 := by
  rw [gLd_eq h]
  have hm := List.getElem_mem h
  revert hm
  generalize (ltR l)[k] = P
  intro hm
  unfold ltR at hm
  split at hm
  · exact tls_row 33 _ P hm
  · simp at hm
end Cl
end Go.Proofs.Ytonlghbbdcddoaa
