/- Parts put together: E1, E2, E3, E6. -/
import Derived.Test.YtokihekhelbijaaC16
import Derived.Test.YtokihekhelbijaaClB
import Derived.Test.YtokihekhelbijaaC3w
set_option linter.unusedSimpArgs false
set_option linter.unusedVariables false
namespace Go.Proofs.Ytokihekhelbijaa
namespace Cl
open Go.ChangeShapes Go.WideShapes Go.ChangeAt Go.RowKit
set_option maxRecDepth 20000

def tlb (n s : Nat) (b : Bool) : List (List Dom) := if fitD s (dmn (firstI s) b) = true then (tls n (andn s (domS (dmn (firstI s) b)))).map (dmn (firstI s) b :: ·) else []
theorem tls_zero {n s : Nat} (h : s = 0) : tls (n + 1) s = [[]] := by rw [tls, if_pos h]
def ltR (l : List Int) : List (List Dom) := if (decide (1 ≤ cntR l) && decide (cntR l ≤ 300)) = true then tls 33 (regSet l) else []
theorem ltR_no {l : List Int} (h : inB ((cntR l : Nat) : Int) 1 300 = false) : ltR l = [] := by
  unfold ltR; rw [if_neg]; intro e
  simp only [Bool.and_eq_true, decide_eq_true_eq] at e
  have := inB_false.1 h; omega
theorem ltR_yes {l : List Int} (h : inB ((cntR l : Nat) : Int) 1 300 = true) : ltR l = tls 33 (regSet l) ∧ regOk l = true ∧ (tls 33 (regSet l)).length ≤ 300 := by
  have h1 := inB_true.1 h
  have hr : regOk l = true := cntR_reg (by omega)
  refine ⟨?_, hr, ?_⟩
  · unfold ltR; rw [if_pos]; simp only [Bool.and_eq_true, decide_eq_true_eq]; omega
  · rw [tls_len 33 _ (regSet_lt hr) (by have := popc_le (regSet l); omega)]
    have e := cntR_yes hr
    omega
theorem tls_row : ∀ n s, ∀ P ∈ tls n s, P.length ≤ n := by
  intro n
  induction n with
  | zero => intro s P h; simp [tls] at h
  | succ n ih =>
    intro s P h
    unfold tls at h
    split at h
    · simp at h; subst h; simp
    · rw [List.mem_append] at h
      rcases h with h | h
      · split at h
        · obtain ⟨Q, hQ, rfl⟩ := List.mem_map.1 h
          have := ih _ Q hQ; simp; omega
        · simp at h
      · split at h
        · obtain ⟨Q, hQ, rfl⟩ := List.mem_map.1 h
          have := ih _ Q hQ; simp; omega
        · simp at h
theorem ltR_row {l : List Int} {k : Nat} (h : k < (ltR l).length) : (gLd (ltR l) k).length ≤ 33 := by
  rw [gLd_eq h]
  have hm := List.getElem_mem h
  revert hm
  generalize (ltR l)[k] = P
  intro hm
  unfold ltR at hm
  split at hm
  · exact tls_row 33 _ P hm
  · simp at hm
end Cl
end Go.Proofs.Ytokihekhelbijaa

namespace Go.Proofs.Ytokihekhelbijaa
namespace Cl
open Go.ChangeShapes Go.WideShapes Go.ChangeAt Go.RowKit
set_option maxRecDepth 20000


end Cl
end Go.Proofs.Ytokihekhelbijaa

namespace Go.Proofs.Ytokihekhelbijaa
namespace Cl
open Go.ChangeShapes Go.WideShapes Go.ChangeAt Go.RowKit
set_option maxRecDepth 20000

end Cl
end Go.Proofs.Ytokihekhelbijaa

namespace Go.Proofs.Ytokihekhelbijaa
namespace Cl
open Go.ChangeShapes Go.WideShapes Go.ChangeAt Go.RowKit
set_option maxRecDepth 20000
/-! tilings as lists of dominoes -/
def cin (d : Dom) (i : Nat) : Bool := decide (idx (ca d) = i) || decide (idx (cb d) = i)
theorem cin_bit (d : Dom) (i : Nat) : (domS d).testBit i = cin d i := domS_bit d i
def cvN (P : List Dom) (i : Nat) : Nat := P.countP (fun d => cin d i)
theorem cvN_cons (d : Dom) (P : List Dom) (i : Nat) : cvN (d :: P) i = cvN P i + (if cin d i = true then 1 else 0) := by unfold cvN; rw [List.countP_cons]
theorem cvN_pos {P : List Dom} {d : Dom} {i : Nat} (h : d ∈ P) (hc : cin d i = true) : 0 < cvN P i := List.countP_pos_iff.2 ⟨d, h, hc⟩
theorem cvN_ex {P : List Dom} {i : Nat} (h : 0 < cvN P i) : ∃ d ∈ P, cin d i = true := List.countP_pos_iff.1 h
def SO (P : List Dom) : Prop := P.Pairwise (fun a b => ord a < ord b)
structure TilS (s : Nat) (P : List Dom) : Prop where
  ok : ∀ d ∈ P, okD d = true
  cv : ∀ i, cvN P i = if s.testBit i = true then 1 else 0
  so : SO P
def TilR : Nat → List Dom → Prop
  | s, [] => s = 0
  | s, d :: P => s ≠ 0 ∧ fitD s d = true ∧ d = dmn (firstI s) d.d ∧ TilR (andn s (domS d)) P
theorem tls_two {n s : Nat} (h : s ≠ 0) : tls (n + 1) s = tlb n s false ++ tlb n s true := by rw [tls, if_neg h]; rfl
theorem tlb_mem {n s : Nat} {b : Bool} {d : Dom} {P : List Dom} : (d :: P) ∈ tlb n s b ↔ fitD s (dmn (firstI s) b) = true ∧ d = dmn (firstI s) b ∧ P ∈ tls n (andn s (domS (dmn (firstI s) b))) := by
  unfold tlb
  split
  · rename_i h
    rw [List.mem_map]
    constructor
    · rintro ⟨Q, hQ, e⟩
      injection e with e1 e2
      subst e2
      exact ⟨h, e1.symm, hQ⟩
    · rintro ⟨_, rfl, hP⟩; exact ⟨P, hP, rfl⟩
  · rename_i h
    constructor
    · intro e; cases e
    · intro e; exact absurd e.1 h
theorem tlb_nil {n s : Nat} {b : Bool} : ¬ [] ∈ tlb n s b := by
  unfold tlb
  split
  · rw [List.mem_map]; rintro ⟨Q, _, e⟩; cases e
  · intro e; cases e
theorem tls_mem : ∀ (n s : Nat) (P : List Dom), s < 18446744073709551616 → popc s < 2 * n → (P ∈ tls n s ↔ TilR s P) := by
  intro n
  induction n with
  | zero => intro s P _ h; omega
  | succ n ih =>
    intro s P hs hp
    by_cases h0 : s = 0
    · rw [tls_zero h0]
      cases P with
      | nil => simp [TilR, h0]
      | cons d P => simp [TilR, h0]
    · rw [tls_two h0, List.mem_append]
      cases P with
      | nil =>
        constructor
        · rintro (h | h) <;> exact absurd h tlb_nil
        · intro h; exact absurd h h0
      | cons d P =>
        rw [tlb_mem, tlb_mem]
        have key : ∀ b, (fitD s (dmn (firstI s) b) = true ∧ d = dmn (firstI s) b ∧ P ∈ tls n (andn s (domS (dmn (firstI s) b)))) ↔ (d.d = b ∧ TilR s (d :: P)) := by
          intro b
          constructor
          · rintro ⟨h1, rfl, h3⟩
            have := popc_sub h1
            exact ⟨rfl, h0, h1, rfl, (ih _ _ (andn_lt hs) (by omega)).1 h3⟩
          · rintro ⟨rfl, _, h1, h2, h3⟩
            have := popc_sub h1
            rw [← h2]
            exact ⟨h1, rfl, (ih _ _ (andn_lt hs) (by omega)).2 h3⟩
        rw [key, key]
        constructor
        · rintro (h | h) <;> exact h.2
        · intro h; cases e : d.d
          · exact .inl ⟨rfl, h⟩
          · exact .inr ⟨rfl, h⟩
theorem tls_nodup : ∀ (n s : Nat), (tls n s).Nodup := by
  intro n
  induction n with
  | zero => intro s; simp [tls]
  | succ n ih =>
    intro s
    by_cases h0 : s = 0
    · rw [tls_zero h0]; simp
    · rw [tls_two h0]
      have hb : ∀ b, (tlb n s b).Nodup := by
        intro b; unfold tlb; split
        · exact List.Pairwise.map _ (fun a c h e => h (by injection e)) (ih _)
        · simp
      refine List.nodup_append.2 ⟨hb _, hb _, ?_⟩
      intro P hP Q hQ e
      subst e
      cases P with
      | nil => exact tlb_nil hP
      | cons d P =>
        have h1 := (tlb_mem.1 hP).2.1
        have h2 := (tlb_mem.1 hQ).2.1
        rw [h1] at h2
        unfold dmn at h2; simp at h2
theorem cin_a (d : Dom) : cin d (idx (ca d)) = true := by simp [cin]
theorem cin_b (d : Dom) : cin d (idx (cb d)) = true := by simp [cin]
theorem ca_lt_cb {d : Dom} (h : okD d = true) : idx (ca d) < idx (cb d) := by
  have hb := okD_bd h
  unfold idx ca cb; cases e : d.d <;> simp [e] <;> omega
theorem fit_cin {s : Nat} {d : Dom} (h : fitD s d = true) {i : Nat} (hc : cin d i = true) : s.testBit i = true := by
  obtain ⟨_, h1, h2⟩ := fit_ok h
  unfold cin at hc; simp only [Bool.or_eq_true, decide_eq_true_eq] at hc
  rcases hc with rfl | rfl
  · exact h1
  · exact h2
theorem first_le {s i : Nat} (h : s.testBit i = true) : firstI s ≤ i := by
  rcases Nat.lt_or_ge i (firstI s) with h1 | h1
  · rw [firstI_min h1] at h; cases h
  · exact h1
theorem dmn_ord {d : Dom} {i : Nat} (hi : i < 64) (h : d = dmn i d.d) : idx (ca d) = i := by rw [h]; exact ca_dmn _ hi
theorem tilR_S : ∀ (P : List Dom) (s : Nat), s < 18446744073709551616 → TilR s P → TilS s P := by
  intro P
  induction P with
  | nil =>
    intro s _ h
    have h : s = 0 := h
    subst h
    exact ⟨by simp, fun i => by rw [Nat.zero_testBit]; rfl, List.Pairwise.nil⟩
  | cons d P ih =>
    intro s hs ⟨h0, hf, hd, hr⟩
    have hI := ih _ (andn_lt hs) hr
    have hfi := firstI_lt hs h0
    have hda : idx (ca d) = firstI s := dmn_ord hfi.1 hd
    refine ⟨fun e he => ?_, fun i => ?_, List.pairwise_cons.2 ⟨fun e he => ?_, hI.so⟩⟩
    · rcases List.mem_cons.1 he with rfl | he
      · exact (fit_ok hf).1
      · exact hI.ok e he
    · rw [cvN_cons, hI.cv, andn_bit, cin_bit]
      cases hc : cin d i
      · simp
      · have := fit_cin hf hc
        simp [this]
    · have hp := cvN_pos he (cin_a e)
      rw [hI.cv, andn_bit, cin_bit] at hp
      have hq : (s.testBit (idx (ca e)) && !cin d (idx (ca e))) = true := by
        cases hz : (s.testBit (idx (ca e)) && !cin d (idx (ca e)))
        · rw [hz] at hp; simp at hp
        · rfl
      simp only [Bool.and_eq_true, Bool.not_eq_true'] at hq
      have h1 := first_le hq.1
      have h2 : idx (ca e) ≠ firstI s := fun e' => by
        rw [e', ← hda, cin_a] at hq; exact absurd hq.2 (by simp)
      unfold ord; rw [hda]
      split <;> split <;> omega
theorem tilS_R : ∀ (P : List Dom) (s : Nat), s < 18446744073709551616 → TilS s P → TilR s P := by
  intro P
  induction P with
  | nil =>
    intro s hs h
    rcases Nat.eq_zero_or_pos s with h0 | h0
    · exact h0
    · have hf := firstI_lt hs (by omega)
      have := h.cv (firstI s)
      rw [hf.2] at this; simp [cvN] at this
  | cons d P ih =>
    intro s hs h
    have hbit : ∀ e ∈ d :: P, ∀ i, cin e i = true → s.testBit i = true := fun e he i hc => by
      have hp := cvN_pos he hc
      rw [h.cv] at hp
      cases hz : s.testBit i
      · rw [hz] at hp; simp at hp
      · rfl
    have hda := hbit d (by simp) _ (cin_a d)
    have hdb := hbit d (by simp) _ (cin_b d)
    have h0 : s ≠ 0 := fun e => by rw [e, Nat.zero_testBit] at hda; cases hda
    have hfi := firstI_lt hs h0
    have hokd := h.ok d (by simp)
    have hfit : fitD s d = true := by unfold fitD; rw [hokd, fit_bits, hda, hdb]; rfl
    obtain ⟨hhead, hso⟩ := List.pairwise_cons.1 h.so
    have hd : idx (ca d) = firstI s := by
      have hp : 0 < cvN (d :: P) (firstI s) := by rw [h.cv, hfi.2]; simp
      obtain ⟨e, he, hc⟩ := cvN_ex hp
      have hoe := h.ok e he
      have hea : idx (ca e) = firstI s := by
        unfold cin at hc; simp only [Bool.or_eq_true, decide_eq_true_eq] at hc
        rcases hc with hc | hc
        · exact hc
        · have h1 := first_le (hbit e he _ (cin_a e))
          have h2 := ca_lt_cb hoe
          omega
      rcases List.mem_cons.1 he with rfl | he'
      · exact hea
      · have h1 := hhead e he'
        have h2 := first_le hda
        unfold ord at h1
        rw [hea] at h1
        cases e1 : d.d <;> cases e2 : e.d <;> simp [e1, e2] at h1 <;> omega
    have hdm : d = dmn (firstI s) d.d := by
      have hc : ca d = cN (firstI s) := idx_inj (ok_ca hokd) (cN_ok hfi.1) (by rw [hd, idx_cN hfi.1])
      unfold ca at hc; unfold dmn; rw [← hc]
    refine ⟨h0, hfit, hdm, ih _ (andn_lt hs) ⟨fun e he => h.ok e (by simp [he]), fun i => ?_, hso⟩⟩
    have := h.cv i
    rw [cvN_cons] at this
    rw [andn_bit, cin_bit]
    cases hc : cin d i
    · rw [hc] at this; simpa using this
    · rw [hc, hbit d (by simp) i hc] at this
      simp at this; simp [this]
theorem til_iff {s : Nat} {P : List Dom} (hs : s < 18446744073709551616) : TilR s P ↔ TilS s P := ⟨tilR_S P s hs, tilS_R P s hs⟩
theorem ltR_mem {l : List Int} {P : List Dom} (h : P ∈ ltR l) : regOk l = true ∧ TilS (regSet l) P := by
  rcases Bool.eq_false_or_eq_true (inB ((cntR l : Nat) : Int) 1 300) with e | e
  · obtain ⟨h1, h2, h3⟩ := ltR_yes e
    rw [h1] at h
    have hs := regSet_lt h2
    exact ⟨h2, (til_iff hs).1 ((tls_mem 33 _ P hs (by have := popc_le (regSet l); omega)).1 h)⟩
  · rw [ltR_no e] at h; cases h
theorem ltR_of {l : List Int} {P Q : List Dom} (h : P ∈ ltR l) (hQ : TilS (regSet l) Q) : Q ∈ ltR l := by
  rcases Bool.eq_false_or_eq_true (inB ((cntR l : Nat) : Int) 1 300) with e | e
  · obtain ⟨h1, h2, h3⟩ := ltR_yes e
    have hs := regSet_lt h2
    rw [h1]
    exact (tls_mem 33 _ Q hs (by have := popc_le (regSet l); omega)).2 ((til_iff hs).2 hQ)
  · rw [ltR_no e] at h; cases h
theorem ltR_nodup (l : List Int) : (ltR l).Nodup := by
  unfold ltR; split
  · exact tls_nodup _ _
  · simp
theorem SO_nodup {P : List Dom} (h : SO P) : P.Nodup := h.imp fun {a b} h e => by rw [e] at h; omega


end Cl
end Go.Proofs.Ytokihekhelbijaa
