/- Walks over clean states, printed by wg.py. No statement is proved here. -/
import Derived.Test.YtgmkkfdnmdohlaaGreatDoorC20
import Derived.Test.YtgmkkfdnmdohlaaGreatDoorC1
import Derived.Test.YtgmkkfdnmdohlaaGreatDoorClB
set_option linter.unusedSimpArgs false
set_option linter.unusedVariables false
namespace Go.Proofs.YtgmkkfdnmdohlaaGreatDoor
namespace Cl
open Go.ChangeShapes Go.WideShapes Go.ChangeAt Go.RowKit
set_option maxRecDepth 20000

theorem hasS_andn (a b : Nat) (w : Cel) : hasS (andn a b) w = (hasS a w && !(hasS b w)) := by
  unfold hasS; rw [andn_bit]; cases okc w.x w.y <;> simp
structure RIn (s : Nat) (c : Cel) (L : List Cel) (k : Nat) (M : List Cel) (j : Nat) : Prop where
  eq : M = ((nbs (gC L k)).take j).foldl (gst (okS s) (gC L k)) L
  nd : M.Nodup
  ok : ∀ x, x ∈ M → hasS s x = true
  kl : k + 1 ≤ M.length
theorem ginv_has {s : Nat} {c : Cel} {L : List Cel} {k : Nat} (hc : hasS s c = true) (h : GInv nbs (okS s) c L k) {x : Cel} (hx : x ∈ L) : hasS s x = true := PR.has hc (h.rc x hx)
theorem RIn.zero {s : Nat} {c : Cel} {L : List Cel} {k : Nat} (hc : hasS s c = true) (h : GInv nbs (okS s) c L k) (hk : k < L.length) : RIn s c L k L 0 :=
  ⟨rfl, h.nd, fun x hx => ginv_has hc h hx, hk⟩
theorem RIn.len {s : Nat} {c : Cel} {L M : List Cel} {k j : Nat} (h : RIn s c L k M j) : M.length ≤ 64 := by
  have h1 : (M.map idx).Nodup := by
    rw [List.Nodup, List.pairwise_map]
    refine List.Pairwise.imp_of_mem (fun {a b} ha hb hab e => hab ?_) h.nd
    exact idx_inj (hasS_ok (h.ok a ha)) (hasS_ok (h.ok b hb)) e
  have := nodup_len 64 (M.map idx) h1 (fun x hx => by
    obtain ⟨d, hd, rfl⟩ := List.mem_map.1 hx
    exact idx_lt (hasS_ok (h.ok d hd)))
  simpa using this
theorem RIn.lt {s : Nat} {c : Cel} {L M : List Cel} {k j : Nat} (h : RIn s c L k M j) : setL M < 18446744073709551616 := setL_lt fun x hx => hasS_ok (h.ok x hx)
theorem RIn.mem {s : Nat} {c : Cel} {L M : List Cel} {k j : Nat} (h : RIn s c L k M j) {w : Cel} (hw : okc w.x w.y = true) : hasS (setL M) w = true ↔ w ∈ M := setL_has (fun x hx => hasS_ok (h.ok x hx)) hw
theorem nbs_snoc (s : Nat) (own : Cel) (L : List Cel) {j : Nat} (hj : j < (nbs own).length) : ((nbs own).take (j + 1)).foldl (gst (okS s) own) L = gst (okS s) own (((nbs own).take j).foldl (gst (okS s) own) L) (gC (nbs own) j) := by
  rw [List.take_succ_eq_append_getElem hj, List.foldl_append, gC_eq hj]; rfl
theorem RIn.no {s : Nat} {c : Cel} {L M : List Cel} {k j : Nat} (h : RIn s c L k M j) (hj : j < (nbs (gC L k)).length) (h1 : hasS s (gC (nbs (gC L k)) j) = false ∨ hasS (setL M) (gC (nbs (gC L k)) j) = true) : RIn s c L k M (j + 1) := by
  refine ⟨?_, h.nd, h.ok, h.kl⟩
  rw [nbs_snoc s _ L hj, ← h.eq, gst_no]
  exact h1.imp id fun h2 => (h.mem (nbs_ok hj)).1 h2
theorem RIn.out {s : Nat} {c : Cel} {L M : List Cel} {k j : Nat} (hg : GInv nbs (okS s) c L k) (hk : k < L.length) (h : RIn s c L k M j) (hj : ¬ j < (nbs (gC L k)).length) : GInv nbs (okS s) c M (k + 1) := by
  have e := h.eq
  rw [List.take_of_length_le (by omega)] at e
  rw [e, gC_eq hk]
  exact hg.next hk
structure PInv (S t m : Nat) : Prop where
  lt : t < 18446744073709551616
  mem : ∀ w, hasS t w = true ↔ hasS S w = true ∧ ¬ seenP S m w
theorem PInv.zero {S : Nat} (hS : S < 18446744073709551616) : PInv S S 0 := ⟨hS, fun w => ⟨fun h => ⟨h, fun ⟨d, _, h, _⟩ => by omega⟩, fun h => h.1⟩⟩
theorem cells_pos {t : Nat} (ht : t < 18446744073709551616) (h0 : t ≠ 0) : 0 < (setCells t).length := by
  have hf := firstI_lt ht h0
  have hm : cN (firstI t) ∈ setCells t := set_mem.2 (by unfold hasS; rw [cN_ok hf.1, idx_cN hf.1, hf.2]; rfl)
  exact List.length_pos_of_mem hm
theorem cells_min {t : Nat} {d : Cel} (hd : hasS t d = true) : idx (gC (setCells t) 0) ≤ idx d := by
  obtain ⟨j, hj, e⟩ := List.getElem_of_mem (set_mem.2 hd)
  rw [← gC_eq hj] at e
  rcases Nat.eq_zero_or_pos j with rfl | hp
  · rw [e]; exact Nat.le_refl _
  · have := setCells_lt (s := t) hp hj
    rw [e] at this; omega
theorem PInv.next {S t m : Nat} (h : PInv S t m) (h0 : t ≠ 0) : m ≤ idx (gC (setCells t) 0) ∧ idx (gC (setCells t) 0) < 64 ∧ rootsP S (idx (gC (setCells t) 0) + 1) = rootsP S m + 1 ∧ PInv S (andn t (rchS t (gC (setCells t) 0))) (idx (gC (setCells t) 0) + 1) := by
  have hp := cells_pos h.lt h0
  have hc : hasS t (gC (setCells t) 0) = true := set_mem.1 (gC_mem hp)
  obtain ⟨h1, _, h3, h4, h5⟩ := root_of_first h.mem hc fun d hd => cells_min hd
  refine ⟨h1, idx_lt (hasS_ok hc), h3, andn_lt h.lt, fun w => ?_⟩
  rw [hasS_andn, Bool.and_eq_true, Bool.not_eq_true', h.mem w, h4 w]
  have h6 : hasS (rchS t (gC (setCells t) 0)) w = false ↔ ¬ PR S (gC (setCells t) 0) w := by
    rw [← h5 w, ← rchS_has hc]; simp
  rw [h6]
  constructor
  · rintro ⟨⟨a, b⟩, c⟩; exact ⟨a, fun q => q.elim b c⟩
  · rintro ⟨a, b⟩; exact ⟨⟨a, fun q => b (.inl q)⟩, fun q => b (.inr q)⟩
end Cl
end Go.Proofs.YtgmkkfdnmdohlaaGreatDoor
