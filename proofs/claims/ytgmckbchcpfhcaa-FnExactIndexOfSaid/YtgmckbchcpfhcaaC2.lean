/- Walks over clean states, printed by wg.py. No statement is proved here. -/
import Derived.Test.YtgmckbchcpfhcaaC1
import Derived.Test.YtgmckbchcpfhcaaCels
import Derived.Test.YtgmckbchcpfhcaaCl24
namespace Go.Proofs.Ytgmckbchcpfhcaa
namespace Cl
open Go.ChangeShapes Go.WideShapes Go.ChangeAt Go.RowKit
set_option maxRecDepth 20000

def blks (l : List Int) (bs : List Cel) : Bool := regOk l && bs.all fun c => black c && hasC l c
theorem blks_no {l : List Int} {bs : List Cel} {k : Nat} (hk : k < bs.length) (h : (black (gC bs k) && hasC l (gC bs k)) = false) : blks l bs = false := by
  unfold blks
  have : (bs.all fun c => black c && hasC l c) = false := by
    rw [List.all_eq_false]; exact ⟨bs[k], List.getElem_mem hk, by rw [gC_eq hk] at h; simp [h]⟩
  rw [this]; simp
def blkT (l : List Int) (bs : List Cel) (k : Nat) : Bool := (bs.take k).all fun c => black c && hasC l c
theorem blkT_snoc {l : List Int} {bs : List Cel} {k : Nat} (hk : k < bs.length) (h : blkT l bs k = true) (h2 : (black (gC bs k) && hasC l (gC bs k)) = true) : blkT l bs (k+1) = true := by
  unfold blkT at *; rw [List.take_succ_eq_append_getElem hk, List.all_append, h, ← gC_eq hk]; simpa using h2
theorem blkT_end {l : List Int} {bs : List Cel} {k : Nat} (hk : ¬ (k : Int) < (bs.length : Int)) (h : blkT l bs k = true) : regOk l = blks l bs := by
  unfold blkT at h; rw [List.take_of_length_le (by omega)] at h; unfold blks; rw [h]; simp
theorem blks_ok {l : List Int} {bs : List Cel} (h : blks l bs = true) : regOk l = true ∧ ∀ k, k < bs.length → okc (gC bs k).x (gC bs k).y = true := by
  unfold blks at h
  simp only [Bool.and_eq_true, List.all_eq_true] at h
  refine ⟨h.1, fun k hk => ?_⟩
  have := (h.2 (gC bs k) (gC_mem hk)).1
  unfold black at this; simp only [Bool.and_eq_true] at this; exact this.1
def addIf (s t : Nat) (w : Cel) : Nat := if hasS s w then addC t w else t
def arB (s t : Nat) (b : Cel) : Nat := (nbs b).foldl (addIf s) t
def aroundS (s : Nat) (bs : List Cel) : Nat := bs.foldl (arB s) 0
theorem addIf_lt {s t : Nat} (ht : t < 18446744073709551616) (w : Cel) : addIf s t w < 18446744073709551616 := by
  unfold addIf; split
  · rename_i h; unfold hasS at h; simp only [Bool.and_eq_true] at h; exact addC_lt ht h.1
  · exact ht
theorem foldl_addIf_lt {s : Nat} (ws : List Cel) : ∀ t, t < 18446744073709551616 → ws.foldl (addIf s) t < 18446744073709551616 := by
  induction ws with
  | nil => intro t h; exact h
  | cons w ws ih => intro t h; exact ih _ (addIf_lt h w)
theorem foldl_arB_lt {s : Nat} (bs : List Cel) : ∀ t, t < 18446744073709551616 → bs.foldl (arB s) t < 18446744073709551616 := by
  induction bs with
  | nil => intro t h; exact h
  | cons b bs ih => intro t h; exact ih _ (foldl_addIf_lt _ _ h)
theorem foldl_snoc {α : Type} (f : Nat → α → Nat) (t : Nat) {l : List α} {k : Nat} (h : k < l.length) : (l.take (k+1)).foldl f t = f ((l.take k).foldl f t) l[k] := by
  rw [List.take_succ_eq_append_getElem h, List.foldl_append]; rfl
theorem foldl_snocC (f : Nat → Cel → Nat) (t : Nat) {l : List Cel} {k : Nat} (h : k < l.length) : (l.take (k+1)).foldl f t = f ((l.take k).foldl f t) (gC l k) := by
  rw [foldl_snoc f t h, gC_eq h]
theorem foldl_endC (f : Nat → Cel → Nat) (t : Nat) {l : List Cel} {k : Nat} (h : ¬ (k : Int) < (l.length : Int)) : (l.take k).foldl f t = l.foldl f t := by
  rw [List.take_of_length_le (by omega)]
theorem addIf_bit (s t : Nat) (w : Cel) (i : Nat) : (addIf s t w).testBit i = (t.testBit i || (hasS s w && decide (idx w = i))) := by
  unfold addIf; split
  · rename_i h; rw [addC_bit, h]; simp
  · rename_i h; simp only [Bool.not_eq_true] at h; rw [h]; simp
theorem foldl_addIf_bit (s : Nat) (ws : List Cel) : ∀ t i, (ws.foldl (addIf s) t).testBit i = (t.testBit i || decide (∃ w ∈ ws, hasS s w = true ∧ idx w = i)) := by
  induction ws with
  | nil => intro t i; simp
  | cons w ws ih =>
    intro t i
    rw [List.foldl_cons, ih, addIf_bit, Bool.or_assoc]
    congr 1
    rw [Bool.eq_iff_iff]; simp
theorem foldl_arB_bit (s : Nat) (bs : List Cel) : ∀ t i, (bs.foldl (arB s) t).testBit i = (t.testBit i || decide (∃ b ∈ bs, ∃ w ∈ nbs b, hasS s w = true ∧ idx w = i)) := by
  induction bs with
  | nil => intro t i; simp
  | cons b bs ih =>
    intro t i
    rw [List.foldl_cons, ih, arB, foldl_addIf_bit, Bool.or_assoc]
    congr 1
    rw [Bool.eq_iff_iff]; simp
theorem mem_nbs {b w : Cel} : w ∈ nbs b ↔ nbr b w = true := by
  rw [← nbs_scan, List.mem_map]
  constructor
  · rintro ⟨k, hk, rfl⟩; exact (List.mem_filter.1 hk).2
  · intro h
    have hw : okc w.x w.y = true := by unfold nbr at h; simp only [Bool.and_eq_true] at h; exact h.1.2
    exact ⟨idx w, List.mem_filter.2 ⟨by simpa using idx_lt hw, by rw [cN_idx hw]; exact h⟩, cN_idx hw⟩
theorem iabs_neg (z : Int) : iabs (-z) = iabs z := by unfold iabs; split <;> split <;> omega
theorem nbr_comm (a b : Cel) : nbr a b = nbr b a := by
  unfold nbr
  rw [show a.x - b.x = -(b.x - a.x) by omega, show a.y - b.y = -(b.y - a.y) by omega, iabs_neg, iabs_neg, Bool.and_comm (okc a.x a.y)]
theorem idx_inj {a b : Cel} (ha : okc a.x a.y = true) (hb : okc b.x b.y = true) (h : idx a = idx b) : a = b := by
  rw [← cN_idx ha, ← cN_idx hb, h]
theorem around_bit {s : Nat} {bs : List Cel} {i : Nat} (hi : i < 64) : (aroundS s bs).testBit i = (s.testBit i && bs.any (nbr (cN i))) := by
  unfold aroundS; rw [foldl_arB_bit, Bool.eq_iff_iff]
  simp only [Nat.zero_testBit, Bool.false_or, decide_eq_true_eq, Bool.and_eq_true, List.any_eq_true]
  constructor
  · rintro ⟨b, hb, w, hw, hs, rfl⟩
    have h := mem_nbs.1 hw
    unfold hasS at hs; simp only [Bool.and_eq_true] at hs
    exact ⟨hs.2, b, hb, by rw [cN_idx hs.1, nbr_comm]; exact h⟩
  · rintro ⟨h1, b, hb, h2⟩
    exact ⟨b, hb, cN i, mem_nbs.2 (by rw [nbr_comm]; exact h2), by unfold hasS; rw [cN_ok hi, idx_cN hi, h1]; rfl, idx_cN hi⟩
def wa (l : List Int) (bs : List Cel) : List Cel := if blks l bs then (cellsOf l).filter (fun c => bs.any (nbr c)) else []
theorem filter_setCells (s : Nat) (p : Cel → Bool) : (setCells s).filter p = ((List.range 64).filter (fun i => s.testBit i && p (cN i))).map cN := by
  unfold setCells
  rw [List.filter_map, List.filter_filter]
  congr 1
  exact List.filter_congr fun k _ => by simp [Bool.and_comm]
theorem wa_around {l : List Int} {bs : List Cel} (h : blks l bs = true) : setCells (aroundS (regSet l) bs) = wa l bs := by
  unfold wa cellsOf; rw [if_pos h, (blks_ok h).1, if_pos rfl, filter_setCells]
  unfold setCells
  congr 1
  exact List.filter_congr fun k hk => around_bit (by simpa using hk)
theorem wa_len (l : List Int) (bs : List Cel) : (wa l bs).length ≤ 64 := by
  unfold wa; split
  · exact Nat.le_trans (List.length_filter_le _ _) (cellsOf_len l)
  · simp
theorem aroundS_lt (s : Nat) (bs : List Cel) : aroundS s bs < 18446744073709551616 := foldl_arB_lt bs 0 (by decide)
theorem any_snocC {p : Cel → Bool} {l : List Cel} {k : Nat} (h : k < l.length) (h1 : (l.take k).any p = false) (h2 : p (gC l k) = false) : (l.take (k+1)).any p = false := by
  rw [List.take_succ_eq_append_getElem h, List.any_append, h1, ← gC_eq h]; simp [h2]
theorem any_atC {p : Cel → Bool} {l : List Cel} {k : Nat} (h : k < l.length) (h2 : p (gC l k) = true) : l.any p = true := List.any_eq_true.2 ⟨gC l k, gC_mem h, h2⟩
theorem any_endC {p : Cel → Bool} {l : List Cel} {k : Nat} (h : ¬ (k : Int) < (l.length : Int)) (h1 : (l.take k).any p = false) : l.any p = false := by rwa [List.take_of_length_le (by omega)] at h1
def hasCel (l : List Cel) (c : Cel) : Bool := decide (c ∈ l)
theorem hasCel_snoc {l : List Cel} {k : Nat} (h : k < l.length) (c : Cel) : hasCel (l.take (k+1)) c = (hasCel (l.take k) c || decide (gC l k = c)) := by
  unfold hasCel
  rw [List.take_succ_eq_append_getElem h, gC_eq h, Bool.eq_iff_iff]
  simp only [decide_eq_true_eq, Bool.or_eq_true, List.mem_append, List.mem_singleton]
  constructor
  · rintro (h | h)
    · exact .inl h
    · exact .inr h.symm
  · rintro (h | h)
    · exact .inl h
    · exact .inr h.symm
theorem hasCel_of {l : List Cel} {k : Nat} (h : k < l.length) {c : Cel} (he : gC l k = c) : hasCel l c = true := by
  unfold hasCel; rw [← he]; simpa using gC_mem h
/-- how many cells a list has, each once -/
def dcount (bs : List Cel) : Nat := (setCells (setL bs)).length
theorem count_add (s : Nat) (j : Nat) (n : Nat) : ((List.range n).filter (s ||| 2 ^ j).testBit).length = ((List.range n).filter s.testBit).length + (if s.testBit j = false ∧ j < n then 1 else 0) := by
  induction n with
  | zero => simp
  | succ n ih =>
    rw [List.range_succ, List.filter_append, List.filter_append, List.length_append, List.length_append, ih]
    have hb : (s ||| 2 ^ j).testBit n = (s.testBit n || decide (j = n)) := by rw [Nat.testBit_or, Nat.testBit_two_pow]
    by_cases hj : j = n
    · subst hj
      rw [List.filter_cons, List.filter_cons, hb]; simp only [decide_true, Bool.or_true, if_true, List.filter_nil]
      cases h : s.testBit j <;> simp
    · have h1 : (j < n + 1) = (j < n) := by rw [eq_iff_iff]; omega
      cases h : s.testBit n <;> simp [hb, h, hj, h1] <;> omega
theorem dcount_snoc {bs : List Cel} {k : Nat} (hk : k < bs.length) (ho : ∀ k, k < bs.length → okc (gC bs k).x (gC bs k).y = true) : dcount (bs.take (k+1)) = dcount (bs.take k) + (if hasCel (bs.take k) (gC bs k) then 0 else 1) := by
  unfold dcount
  rw [setL_snoc hk]
  unfold setCells addC
  rw [List.length_map, List.length_map, count_add]
  congr 1
  have hb : (setL (bs.take k)).testBit (idx (gC bs k)) = hasCel (bs.take k) (gC bs k) := by
    rw [setL_bit]; unfold hasCel
    rw [Bool.eq_iff_iff]; simp only [decide_eq_true_eq]
    constructor
    · rintro ⟨c, hc, he⟩
      obtain ⟨j, hj, rfl⟩ := List.getElem_of_mem hc
      have hj' : j < k ∧ j < bs.length := by simp at hj; omega
      have e : (bs.take k)[j] = gC bs j := by rw [List.getElem_take, gC_eq hj'.2]
      rw [e] at he hc
      rw [← idx_inj (ho j hj'.2) (ho k hk) he]; exact hc
    · intro h; exact ⟨_, h, rfl⟩
  have hlt := idx_lt (ho k hk)
  rw [hb]
  cases hasCel (bs.take k) (gC bs k) <;> simp [hlt]
theorem dcount_le {bs : List Cel} : dcount bs ≤ 64 := setCells_len _
theorem dcount_zero (bs : List Cel) : dcount (bs.take 0) = 0 := by simp [dcount, setL, setCells]
def defi (l : List Int) (bs : List Cel) : Int := if blks l bs then (dcount bs : Int) - (wa l bs).length else 0


theorem cEq_dec {x y x' y' : Int} : cEq x y x' y' = decide ((⟨x, y⟩ : Cel) = ⟨x', y'⟩) := by unfold cEq; simp


end Cl
end Go.Proofs.Ytgmckbchcpfhcaa
