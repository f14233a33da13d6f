/- Walks over clean states, printed by wg.py. No statement is proved here. -/
import Derived.Test.YtokihekhelbijaaE7
import Derived.Test.YtokihekhelbijaaClB
namespace Go.Proofs.Ytokihekhelbijaa
namespace Cl
open Go.ChangeShapes Go.WideShapes Go.ChangeAt Go.RowKit
set_option maxRecDepth 20000
/-! the list of tilings: order, first one, tilings -/
def LexN (P Q : List Dom) : Prop := ∃ (C : List Dom) (f : Nat) (P' Q' : List Dom), P = C ++ dmn f false :: P' ∧ Q = C ++ dmn f true :: Q'
theorem tls_lex : ∀ n s, (tls n s).Pairwise LexN := by
  intro n
  induction n with
  | zero => intro s; simp [tls]
  | succ n ih =>
    intro s
    by_cases h0 : s = 0
    · rw [tls_zero h0]; simp
    · rw [tls_two h0]
      have hb : ∀ b, (tlb n s b).Pairwise LexN := by
        intro b; unfold tlb; split
        · refine List.Pairwise.map _ (fun P Q h => ?_) (ih _)
          obtain ⟨C, f, P', Q', rfl, rfl⟩ := h
          exact ⟨dmn (firstI s) b :: C, f, P', Q', rfl, rfl⟩
        · exact List.Pairwise.nil
      refine List.pairwise_append.2 ⟨hb _, hb _, fun P hP Q hQ => ?_⟩
      cases P with
      | nil => exact absurd hP tlb_nil
      | cons d P =>
        cases Q with
        | nil => exact absurd hQ tlb_nil
        | cons e Q =>
          have h1 := (tlb_mem.1 hP).2.1
          have h2 := (tlb_mem.1 hQ).2.1
          exact ⟨[], firstI s, P, Q, by rw [h1]; rfl, by rw [h2]; rfl⟩
theorem tilR_len : ∀ (P : List Dom) (s : Nat), TilR s P → 2 * P.length = popc s := by
  intro P
  induction P with
  | nil => intro s h; have h : s = 0 := h; subst h; show 2 * 0 = popc 0; decide
  | cons d P ih =>
    intro s ⟨_, h1, _, h3⟩
    have := ih _ h3
    have := popc_sub h1
    simp only [List.length_cons]; omega
theorem til_len {s : Nat} {P : List Dom} (hs : s < 18446744073709551616) (h : TilS s P) : 2 * P.length = popc s := tilR_len P s ((til_iff hs).2 h)
/-- the first place where two tilings of a list differ -/
theorem ltR_lex {l : List Int} {i j : Nat} (hij : i < j) (hj : j < (ltR l).length) : LexN (gLd (ltR l) i) (gLd (ltR l) j) := by
  rw [gLd_eq (by omega), gLd_eq hj]
  have : (ltR l).Pairwise LexN := by unfold ltR; split
                                     · exact tls_lex _ _
                                     · exact List.Pairwise.nil
  exact List.pairwise_iff_getElem.1 this i j (by omega) hj hij
theorem tls_ne {n s : Nat} (hs : s < 18446744073709551616) (hp : popc s < 2 * n) : tls n s = [] ↔ cnt s = 0 := by
  rw [← tls_len n s hs hp]
  exact List.length_eq_zero_iff.symm
theorem tls_first : ∀ (n s : Nat), s < 18446744073709551616 → popc s < 2 * n → 0 < cnt s → gLd (tls n s) 0 = ftl n s := by
  intro n
  induction n with
  | zero => intro s _ h; omega
  | succ n ih =>
    intro s hs hp hc
    by_cases h0 : s = 0
    · rw [tls_zero h0, ftl, if_pos h0]; rfl
    · obtain ⟨h1, h2⟩ := pick_ok hs h0 hc
      have hq := popc_sub h1
      have hi := ih _ (andn_lt hs) (by omega) h2
      have hne : tls n (andn s (domS (pick s))) ≠ [] := fun e => by rw [tls_ne (andn_lt hs) (by omega)] at e; omega
      rw [tls_two h0, ftl, if_neg h0]
      obtain ⟨P, L, hL⟩ := List.exists_cons_of_ne_nil hne
      rw [hL] at hi
      have hi : P = ftl n (andn s (domS (pick s))) := hi
      have hb : ∀ b, pick s = dmn (firstI s) b → tlb n s b = (pick s :: P) :: L.map (pick s :: ·) := fun b e => by
        unfold tlb; rw [← e, if_pos h1, hL]; rfl
      by_cases hk : (fitD s (dmn (firstI s) false) && !decide (cnt (andn s (domS (dmn (firstI s) false))) = 0)) = true
      · have e : pick s = dmn (firstI s) false := by unfold pick; rw [if_pos hk]
        rw [hb _ e, ← hi]; rfl
      · have e : pick s = dmn (firstI s) true := by unfold pick; rw [if_neg hk]
        have hz : tlb n s false = [] := by
          unfold tlb; split
          · rename_i hf
            have hq2 := popc_sub hf
            rw [hf, Bool.true_and, Bool.not_eq_true', decide_eq_false_iff_not, Classical.not_not] at hk
            rw [(tls_ne (andn_lt hs) (by omega)).2 hk]; rfl
          · rfl
        rw [hz, hb _ e, ← hi]; rfl
theorem cov_foldl (i : Nat) : ∀ (P : List Dom) (s : Nat), (∀ d ∈ P, okD d = true) → (P.foldl cov1 s).testBit i = (s.testBit i || P.any (fun d => cin d i)) := by
  intro P
  induction P with
  | nil => intro s _; simp
  | cons d P ih =>
    intro s h
    rw [List.foldl_cons, ih _ (fun e he => h e (by simp [he])), List.any_cons]
    unfold cov1; rw [if_pos (h d (by simp)), Nat.testBit_or, cin_bit, Bool.or_assoc]
theorem covS_any {P : List Dom} (h : ∀ d ∈ P, okD d = true) (i : Nat) : (covS P).testBit i = P.any (fun d => cin d i) := by
  unfold covS; rw [cov_foldl i P 0 h]; simp
theorem til_cov {s : Nat} {P : List Dom} (h : TilS s P) : covS P = s := by
  apply Nat.eq_of_testBit_eq; intro i
  rw [covS_any h.ok]
  have := h.cv i
  cases e : s.testBit i
  · rw [e] at this
    rw [List.any_eq_false]
    intro d hd hc
    have := cvN_pos hd hc
    simp at *; omega
  · rw [e] at this
    obtain ⟨d, hd, hc⟩ := cvN_ex (P := P) (i := i) (by rw [this]; decide)
    exact List.any_eq_true.2 ⟨d, hd, hc⟩
theorem til_bit {s : Nat} {P : List Dom} (h : TilS s P) {d : Dom} (hd : d ∈ P) {i : Nat} (hc : cin d i = true) : s.testBit i = true := by
  have hp := cvN_pos hd hc
  rw [h.cv] at hp
  cases hz : s.testBit i
  · rw [hz] at hp; simp at hp
  · rfl
theorem til_isTil {l : List Int} {P : List Dom} (ho : regOk l = true) (h : TilS (regSet l) P) : isTil l P = true := by
  have hn := SO_nodup h.so
  have hcov : ∀ k, k < P.length → ∀ i, cin (gD P k) i = true → (covS (P.take k)).testBit i = false := fun k hk i hc => by
    rw [covS_any (fun d hd => h.ok d (List.mem_of_mem_take hd)), List.any_eq_false]
    intro d hd hcd
    have e := til_uniq h (List.mem_of_mem_take hd) (gD_mem hk) hcd hc
    obtain ⟨j, hj, rfl⟩ := List.getElem_of_mem hd
    rw [List.length_take] at hj
    rw [List.getElem_take, gD_eq hk] at e
    have := (List.getElem_inj hn).1 e
    omega
  unfold isTil
  rw [til_cov h, decide_eq_true rfl, Bool.and_true]
  unfold isPar parT
  rw [ho, Bool.true_and, List.all_eq_true]
  intro k hk
  have hk : k < P.length := by simpa using hk
  have hok := h.ok _ (gD_mem hk)
  unfold stepOk
  rw [hok, Bool.true_and, fits_iff, til_bit h (gD_mem hk) (cin_a _), til_bit h (gD_mem hk) (cin_b _), hcov k hk _ (cin_a _), hcov k hk _ (cin_b _)]
  rcases Nat.eq_zero_or_pos k with rfl | hp
  · rfl
  · have hso := List.pairwise_iff_getElem.1 h.so (k - 1) k (by omega) hk (by omega)
    rw [← gD_eq (by omega), ← gD_eq hk] at hso
    unfold bef
    rw [h.ok _ (gD_mem (by omega)), hok, decide_eq_true hso]; simp
theorem ixT_self {a : List (List Dom)} (hn : a.Nodup) {k : Nat} (hk : k < a.length) : ixT a (gLd a k) = (k : Int) := by
  refine (ixT_yes hk (fun i hi e => ?_) rfl).symm
  have : i = k := by
    rw [gLd_eq (by omega), gLd_eq hk] at e
    exact (List.getElem_inj hn).1 e
  omega


end Cl
end Go.Proofs.Ytokihekhelbijaa
