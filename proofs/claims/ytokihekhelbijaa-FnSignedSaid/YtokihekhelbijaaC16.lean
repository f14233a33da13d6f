/- Walks over clean states, printed by wg.py. No statement is proved here. -/
import Derived.Test.YtokihekhelbijaaC14
import Derived.Test.YtokihekhelbijaaClB
set_option linter.unusedSimpArgs false
set_option linter.unusedVariables false
namespace Go.Proofs.Ytokihekhelbijaa
namespace Cl
open Go.ChangeShapes Go.WideShapes Go.ChangeAt Go.RowKit
set_option maxRecDepth 20000

def ftR (l : List Int) : List Dom := if cntR l = 0 then [] else ftl 33 (regSet l)
structure FT (l : List Int) (s : Nat) (o : List Dom) (n : Nat) : Prop where
  lt : s < 18446744073709551616
  pos : 0 < cnt s
  pc : popc s < 2 * n
  ln : o.length + n = 33
  eq : o ++ ftl n s = ftl 33 (regSet l)
theorem cntR_reg {l : List Int} (h : ¬ cntR l = 0) : regOk l = true := by
  unfold cntR at h
  split at h
  · assumption
  · exact absurd rfl h
theorem popc_len {s : Nat} (hs : s < 18446744073709551616) : (setCells s).length = popc s := by unfold setCells popc; simp
theorem FT.zero {l : List Int} (h : ¬ cntR l = 0) : FT l (regSet l) [] 33 := by
  have hr := cntR_reg h
  have hs := regSet_lt hr
  refine ⟨hs, ?_, ?_, rfl, rfl⟩
  · unfold cntR at h; rw [if_pos hr] at h; omega
  · have := popc_le (regSet l); omega
theorem FT.next {l : List Int} {s : Nat} {o : List Dom} {n : Nat} (h : FT l s o n) (h0 : s ≠ 0) {d : Dom} (hp : pick s = d) : 0 < n ∧ FT l (andn s (domS d)) (o ++ [d]) (n - 1) := by
  subst hp
  obtain ⟨h1, h2⟩ := pick_ok h.lt h0 h.pos
  have hpc := popc_sub h1
  have h3 := h.pc
  have h4 := h.ln
  obtain ⟨m, rfl⟩ : ∃ m, n = m + 1 := ⟨n - 1, by omega⟩
  refine ⟨by omega, andn_lt h.lt, h2, by rw [Nat.add_sub_cancel]; omega, by rw [Nat.add_sub_cancel, List.length_append, List.length_singleton]; omega, ?_⟩
  rw [Nat.add_sub_cancel, ← h.eq, List.append_assoc]
  congr 1
  show [pick s] ++ ftl m _ = ftl (m + 1) s
  rw [ftl, if_neg h0]; rfl
theorem FT.done {l : List Int} {s : Nat} {o : List Dom} {n : Nat} (hc : ¬ cntR l = 0) (h : FT l s o n) (h0 : s = 0) : o = ftR l := by
  unfold ftR; rw [if_neg hc, ← h.eq, h0]
  cases n with
  | zero => unfold ftl; simp
  | succ n => unfold ftl; rw [if_pos rfl]; simp
theorem pick_okd {l : List Int} {s : Nat} {o : List Dom} {n : Nat} (h : FT l s o n) (h0 : s ≠ 0) {d : Dom} (hp : pick s = d) : okD d = true := by
  subst hp; exact (fit_ok (pick_ok h.lt h0 h.pos).1).1
theorem cells_none {l : List Int} (ho : regOk l = true) : (cellsOf l).length = popc (regSet l) := by unfold cellsOf; rw [if_pos ho]; exact popc_len (regSet_lt ho)
theorem popc_nz {s : Nat} (hs : s < 18446744073709551616) (h : popc s = 0) : s = 0 := by
  rcases Nat.eq_zero_or_pos s with h0 | h0
  · exact h0
  · have hf := firstI_lt hs (by omega)
    have hm : cN (firstI s) ∈ setCells s := set_mem.2 (by unfold hasS; rw [cN_ok hf.1, idx_cN hf.1, hf.2]; rfl)
    have := List.length_pos_of_mem hm
    rw [popc_len hs] at this; omega
/-- the reference's first tiling -/
structure FR (l R : List Int) (o : List Dom) (n : Nat) : Prop where
  ok : regOk R = true
  ft : FT l (regSet R) o n
theorem FR.zero {l : List Int} (h : ¬ cntR l = 0) : FR l l [] 33 := ⟨cntR_reg h, FT.zero h⟩
theorem FR.len {l R : List Int} {o : List Dom} {n : Nat} (h : FR l R o n) : R.length ≤ 8 ∧ o.length ≤ 33 := ⟨(regOk_true h.ok).1, by have := h.ft.ln; omega⟩
theorem FR.more {l R : List Int} {o : List Dom} {n : Nat} (h : FR l R o n) (hc : (((cellsOf R).length : Nat) : Int) > 0) : regSet R ≠ 0 := by
  intro e; rw [cells_none h.ok, e] at hc; simp [popc] at hc
theorem FR.end {l R : List Int} {o : List Dom} {n : Nat} (h : FR l R o n) (hc : ¬ (((cellsOf R).length : Nat) : Int) > 0) : regSet R = 0 := by
  rw [cells_none h.ok] at hc; exact popc_nz (regSet_lt h.ok) (by omega)
theorem FR.next {l R : List Int} {o : List Dom} {n : Nat} (h : FR l R o n) (h0 : regSet R ≠ 0) {d : Dom} (hp : pick (regSet R) = d) : 0 < n ∧ FR l (delL (delL R (ca d)) (cb d)) (o ++ [d]) (n - 1) := by
  have hd : okD d = true := pick_okd h.ft h0 hp
  have k1 := delL_ok h.ok (ok_ca hd)
  have k2 := delL_ok k1 (ok_cb hd)
  have := h.ft.next h0 hp
  refine ⟨this.1, k2, ?_⟩
  rw [delL_set k1 (ok_cb hd), delL_set h.ok (ok_ca hd), delC_two]
  exact this.2
end Cl
end Go.Proofs.Ytokihekhelbijaa
