/- Walks over clean states, printed by wg.py. No statement is proved here. -/
import Derived.Test.YtonlghbbdcddoaaE7
import Derived.Test.YtonlghbbdcddoaaClB
namespace Go.Proofs.Ytonlghbbdcddoaa
namespace Cl
open Go.ChangeShapes Go.WideShapes Go.ChangeAt Go.RowKit
set_option maxRecDepth 20000
/-! the list of tilings: order, first one, tilings -/
theorem cov_foldl (i : Nat) : ∀ (P : List Dom) (s : Nat), (∀ d ∈ P, okD d = true) → (P.foldl cov1 s).testBit i = (s.testBit i || P.any (fun d => cin d i)) := by
  intro P
  induction P with
  | nil => intro s _; simp
  | cons d P ih =>
    intro s h
    rw [List.foldl_cons, ih _ (fun e he => h e (by simp [he])), List.any_cons]
    unfold cov1; rw [if_pos (h d (by simp)), Nat.testBit_or, cin_bit, Bool.or_assoc]
theorem covS_any {P : List Dom} (h : ∀ d ∈ P, okD d = true) (i : Nat) : (covS P).testBit i = P.any (fun d => cin d i) := by
  unfold covS; rw [cov_foldl i P 0 h]; simp
theorem til_cov {s : Nat} {P : List Dom} (h : TilS s P) : covS P = s := by
  apply Nat.eq_of_testBit_eq; intro i
  rw [covS_any h.ok]
  have := h.cv i
  cases e : s.testBit i
  · rw [e] at this
    rw [List.any_eq_false]
    intro d hd hc
    have := cvN_pos hd hc
    simp at *; omega
  · rw [e] at this
    obtain ⟨d, hd, hc⟩ := cvN_ex (P := P) (i := i) (by rw [this]; decide)
    exact List.any_eq_true.2 ⟨d, hd, hc⟩
theorem til_bit {s : Nat} {P : List Dom} (h : TilS s P) {d : Dom} (hd : d ∈ P) {i : Nat} (hc : cin d i = true) : s.testBit i = true := by
  have hp := cvN_pos hd hc
  rw [h.cv] at hp
  cases hz : s.testBit i
  · rw [hz] at hp; simp at hp
  · rfl
theorem til_isTil {l : List Int} {P : List Dom} (ho : regOk l = true) (h : TilS (regSet l) P) : isTil l P = true := by
  have hn := SO_nodup h.so
  have hcov : ∀ k, k < P.length → ∀ i, cin (gD P k) i = true → (covS (P.take k)).testBit i = false := fun k hk i hc => by
    rw [covS_any (fun d hd => h.ok d (List.mem_of_mem_take hd)), List.any_eq_false]
    intro d hd hcd
    have e := til_uniq h (List.mem_of_mem_take hd) (gD_mem hk) hcd hc
    obtain ⟨j, hj, rfl⟩ := List.getElem_of_mem hd
    rw [List.length_take] at hj
    rw [List.getElem_take, gD_eq hk] at e
    have := (List.getElem_inj hn).1 e
    omega
  unfold isTil
  rw [til_cov h, decide_eq_true rfl, Bool.and_true]
  unfold isPar parT
  rw [ho, Bool.true_and, List.all_eq_true]
  intro k hk
  have hk : k < P.length := by simpa using hk
  have hok := h.ok _ (gD_mem hk)
  unfold stepOk
  rw [hok, Bool.true_and, fits_iff, til_bit h (gD_mem hk) (cin_a _), til_bit h (gD_mem hk) (cin_b _), hcov k hk _ (cin_a _), hcov k hk _ (cin_b _)]
  rcases Nat.eq_zero_or_pos k with rfl | hp
  · rfl
  · have hso := List.pairwise_iff_getElem.1 h.so (k - 1) k (by omega) hk (by omega)
    rw [← gD_eq (by omega), ← gD_eq hk] at hso
    unfold bef
    rw [h.ok _ (gD_mem (by omega)), hok, decide_eq_true hso]; simp
end Cl
end Go.Proofs.Ytonlghbbdcddoaa
