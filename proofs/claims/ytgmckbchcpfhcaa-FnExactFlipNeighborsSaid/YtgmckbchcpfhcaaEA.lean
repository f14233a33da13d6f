/- Parts put together: E6, E7, E8p, E8. -/
import Derived.Test.YtgmckbchcpfhcaaE1
import Derived.Test.YtgmckbchcpfhcaaClB
import Derived.Test.YtgmckbchcpfhcaaE5
import Derived.Test.YtgmckbchcpfhcaaCA
namespace Go.Proofs.Ytgmckbchcpfhcaa
namespace Cl
open Go.ChangeShapes Go.WideShapes Go.ChangeAt Go.RowKit
set_option maxRecDepth 20000
/-! tilings as lists of dominoes -/
def cin (d : Dom) (i : Nat) : Bool := decide (idx (ca d) = i) || decide (idx (cb d) = i)
theorem cin_bit (d : Dom) (i : Nat) : (domS d).testBit i = cin d i := domS_bit d i
def cvN (P : List Dom) (i : Nat) : Nat := P.countP (fun d => cin d i)
theorem cvN_cons (d : Dom) (P : List Dom) (i : Nat) : cvN (d :: P) i = cvN P i + (if cin d i = true then 1 else 0) := by unfold cvN; rw [List.countP_cons]
theorem cvN_pos {P : List Dom} {d : Dom} {i : Nat} (h : d ∈ P) (hc : cin d i = true) : 0 < cvN P i := List.countP_pos_iff.2 ⟨d, h, hc⟩
theorem cvN_ex {P : List Dom} {i : Nat} (h : 0 < cvN P i) : ∃ d ∈ P, cin d i = true := List.countP_pos_iff.1 h
def SO (P : List Dom) : Prop := P.Pairwise (fun a b => ord a < ord b)
structure TilS (s : Nat) (P : List Dom) : Prop where
  ok : ∀ d ∈ P, okD d = true
  cv : ∀ i, cvN P i = if s.testBit i = true then 1 else 0
  so : SO P
def TilR : Nat → List Dom → Prop
  | s, [] => s = 0
  | s, d :: P => s ≠ 0 ∧ fitD s d = true ∧ d = dmn (firstI s) d.d ∧ TilR (andn s (domS d)) P
theorem tls_two {n s : Nat} (h : s ≠ 0) : tls (n + 1) s = tlb n s false ++ tlb n s true := by rw [tls, if_neg h]; rfl
theorem tlb_mem {n s : Nat} {b : Bool} {d : Dom} {P : List Dom} : (d :: P) ∈ tlb n s b ↔ fitD s (dmn (firstI s) b) = true ∧ d = dmn (firstI s) b ∧ P ∈ tls n (andn s (domS (dmn (firstI s) b))) := by
  unfold tlb
  split
  · rename_i h
    rw [List.mem_map]
    constructor
    · rintro ⟨Q, hQ, e⟩
      injection e with e1 e2
      subst e2
      exact ⟨h, e1.symm, hQ⟩
    · rintro ⟨_, rfl, hP⟩; exact ⟨P, hP, rfl⟩
  · rename_i h
    constructor
    · intro e; cases e
    · intro e; exact absurd e.1 h
theorem tlb_nil {n s : Nat} {b : Bool} : ¬ [] ∈ tlb n s b := by
  unfold tlb
  split
  · rw [List.mem_map]; rintro ⟨Q, _, e⟩; cases e
  · intro e; cases e
theorem tls_mem : ∀ (n s : Nat) (P : List Dom), s < 18446744073709551616 → popc s < 2 * n → (P ∈ tls n s ↔ TilR s P) := by
  intro n
  induction n with
  | zero => intro s P _ h; omega
  | succ n ih =>
    intro s P hs hp
    by_cases h0 : s = 0
    · rw [tls_zero h0]
      cases P with
      | nil => simp [TilR, h0]
      | cons d P => simp [TilR, h0]
    · rw [tls_two h0, List.mem_append]
      cases P with
      | nil =>
        constructor
        · rintro (h | h) <;> exact absurd h tlb_nil
        · intro h; exact absurd h h0
      | cons d P =>
        rw [tlb_mem, tlb_mem]
        have key : ∀ b, (fitD s (dmn (firstI s) b) = true ∧ d = dmn (firstI s) b ∧ P ∈ tls n (andn s (domS (dmn (firstI s) b)))) ↔ (d.d = b ∧ TilR s (d :: P)) := by
          intro b
          constructor
          · rintro ⟨h1, rfl, h3⟩
            have := popc_sub h1
            exact ⟨rfl, h0, h1, rfl, (ih _ _ (andn_lt hs) (by omega)).1 h3⟩
          · rintro ⟨rfl, _, h1, h2, h3⟩
            have := popc_sub h1
            rw [← h2]
            exact ⟨h1, rfl, (ih _ _ (andn_lt hs) (by omega)).2 h3⟩
        rw [key, key]
        constructor
        · rintro (h | h) <;> exact h.2
        · intro h; cases e : d.d
          · exact .inl ⟨rfl, h⟩
          · exact .inr ⟨rfl, h⟩
theorem tls_nodup : ∀ (n s : Nat), (tls n s).Nodup := by
  intro n
  induction n with
  | zero => intro s; simp [tls]
  | succ n ih =>
    intro s
    by_cases h0 : s = 0
    · rw [tls_zero h0]; simp
    · rw [tls_two h0]
      have hb : ∀ b, (tlb n s b).Nodup := by
        intro b; unfold tlb; split
        · exact List.Pairwise.map _ (fun a c h e => h (by injection e)) (ih _)
        · simp
      refine List.nodup_append.2 ⟨hb _, hb _, ?_⟩
      intro P hP Q hQ e
      subst e
      cases P with
      | nil => exact tlb_nil hP
      | cons d P =>
        have h1 := (tlb_mem.1 hP).2.1
        have h2 := (tlb_mem.1 hQ).2.1
        rw [h1] at h2
        unfold dmn at h2; simp at h2
theorem cin_a (d : Dom) : cin d (idx (ca d)) = true := by simp [cin]
theorem cin_b (d : Dom) : cin d (idx (cb d)) = true := by simp [cin]
theorem ca_lt_cb {d : Dom} (h : okD d = true) : idx (ca d) < idx (cb d) := by
  have hb := okD_bd h
  unfold idx ca cb; cases e : d.d <;> simp [e] <;> omega
theorem fit_cin {s : Nat} {d : Dom} (h : fitD s d = true) {i : Nat} (hc : cin d i = true) : s.testBit i = true := by
  obtain ⟨_, h1, h2⟩ := fit_ok h
  unfold cin at hc; simp only [Bool.or_eq_true, decide_eq_true_eq] at hc
  rcases hc with rfl | rfl
  · exact h1
  · exact h2
theorem first_le {s i : Nat} (h : s.testBit i = true) : firstI s ≤ i := by
  rcases Nat.lt_or_ge i (firstI s) with h1 | h1
  · rw [firstI_min h1] at h; cases h
  · exact h1
theorem dmn_ord {d : Dom} {i : Nat} (hi : i < 64) (h : d = dmn i d.d) : idx (ca d) = i := by rw [h]; exact ca_dmn _ hi
theorem tilR_S : ∀ (P : List Dom) (s : Nat), s < 18446744073709551616 → TilR s P → TilS s P := by
  intro P
  induction P with
  | nil =>
    intro s _ h
    have h : s = 0 := h
    subst h
    exact ⟨by simp, fun i => by rw [Nat.zero_testBit]; rfl, List.Pairwise.nil⟩
  | cons d P ih =>
    intro s hs ⟨h0, hf, hd, hr⟩
    have hI := ih _ (andn_lt hs) hr
    have hfi := firstI_lt hs h0
    have hda : idx (ca d) = firstI s := dmn_ord hfi.1 hd
    refine ⟨fun e he => ?_, fun i => ?_, List.pairwise_cons.2 ⟨fun e he => ?_, hI.so⟩⟩
    · rcases List.mem_cons.1 he with rfl | he
      · exact (fit_ok hf).1
      · exact hI.ok e he
    · rw [cvN_cons, hI.cv, andn_bit, cin_bit]
      cases hc : cin d i
      · simp
      · have := fit_cin hf hc
        simp [this]
    · have hp := cvN_pos he (cin_a e)
      rw [hI.cv, andn_bit, cin_bit] at hp
      have hq : (s.testBit (idx (ca e)) && !cin d (idx (ca e))) = true := by
        cases hz : (s.testBit (idx (ca e)) && !cin d (idx (ca e)))
        · rw [hz] at hp; simp at hp
        · rfl
      simp only [Bool.and_eq_true, Bool.not_eq_true'] at hq
      have h1 := first_le hq.1
      have h2 : idx (ca e) ≠ firstI s := fun e' => by
        rw [e', ← hda, cin_a] at hq; exact absurd hq.2 (by simp)
      unfold ord; rw [hda]
      split <;> split <;> omega
theorem tilS_R : ∀ (P : List Dom) (s : Nat), s < 18446744073709551616 → TilS s P → TilR s P := by
  intro P
  induction P with
  | nil =>
    intro s hs h
    rcases Nat.eq_zero_or_pos s with h0 | h0
    · exact h0
    · have hf := firstI_lt hs (by omega)
      have := h.cv (firstI s)
      rw [hf.2] at this; simp [cvN] at this
  | cons d P ih =>
    intro s hs h
    have hbit : ∀ e ∈ d :: P, ∀ i, cin e i = true → s.testBit i = true := fun e he i hc => by
      have hp := cvN_pos he hc
      rw [h.cv] at hp
      cases hz : s.testBit i
      · rw [hz] at hp; simp at hp
      · rfl
    have hda := hbit d (by simp) _ (cin_a d)
    have hdb := hbit d (by simp) _ (cin_b d)
    have h0 : s ≠ 0 := fun e => by rw [e, Nat.zero_testBit] at hda; cases hda
    have hfi := firstI_lt hs h0
    have hokd := h.ok d (by simp)
    have hfit : fitD s d = true := by unfold fitD; rw [hokd, fit_bits, hda, hdb]; rfl
    obtain ⟨hhead, hso⟩ := List.pairwise_cons.1 h.so
    have hd : idx (ca d) = firstI s := by
      have hp : 0 < cvN (d :: P) (firstI s) := by rw [h.cv, hfi.2]; simp
      obtain ⟨e, he, hc⟩ := cvN_ex hp
      have hoe := h.ok e he
      have hea : idx (ca e) = firstI s := by
        unfold cin at hc; simp only [Bool.or_eq_true, decide_eq_true_eq] at hc
        rcases hc with hc | hc
        · exact hc
        · have h1 := first_le (hbit e he _ (cin_a e))
          have h2 := ca_lt_cb hoe
          omega
      rcases List.mem_cons.1 he with rfl | he'
      · exact hea
      · have h1 := hhead e he'
        have h2 := first_le hda
        unfold ord at h1
        rw [hea] at h1
        cases e1 : d.d <;> cases e2 : e.d <;> simp [e1, e2] at h1 <;> omega
    have hdm : d = dmn (firstI s) d.d := by
      have hc : ca d = cN (firstI s) := idx_inj (ok_ca hokd) (cN_ok hfi.1) (by rw [hd, idx_cN hfi.1])
      unfold ca at hc; unfold dmn; rw [← hc]
    refine ⟨h0, hfit, hdm, ih _ (andn_lt hs) ⟨fun e he => h.ok e (by simp [he]), fun i => ?_, hso⟩⟩
    have := h.cv i
    rw [cvN_cons] at this
    rw [andn_bit, cin_bit]
    cases hc : cin d i
    · rw [hc] at this; simpa using this
    · rw [hc, hbit d (by simp) i hc] at this
      simp at this; simp [this]
theorem til_iff {s : Nat} {P : List Dom} (hs : s < 18446744073709551616) : TilR s P ↔ TilS s P := ⟨tilR_S P s hs, tilS_R P s hs⟩
theorem ltR_mem {l : List Int} {P : List Dom} (h : P ∈ ltR l) : regOk l = true ∧ TilS (regSet l) P := by
  rcases Bool.eq_false_or_eq_true (inB ((cntR l : Nat) : Int) 1 300) with e | e
  · obtain ⟨h1, h2, h3⟩ := ltR_yes e
    rw [h1] at h
    have hs := regSet_lt h2
    exact ⟨h2, (til_iff hs).1 ((tls_mem 33 _ P hs (by have := popc_le (regSet l); omega)).1 h)⟩
  · rw [ltR_no e] at h; cases h
theorem ltR_of {l : List Int} {P Q : List Dom} (h : P ∈ ltR l) (hQ : TilS (regSet l) Q) : Q ∈ ltR l := by
  rcases Bool.eq_false_or_eq_true (inB ((cntR l : Nat) : Int) 1 300) with e | e
  · obtain ⟨h1, h2, h3⟩ := ltR_yes e
    have hs := regSet_lt h2
    rw [h1]
    exact (tls_mem 33 _ Q hs (by have := popc_le (regSet l); omega)).2 ((til_iff hs).2 hQ)
  · rw [ltR_no e] at h; cases h
theorem ltR_nodup (l : List Int) : (ltR l).Nodup := by
  unfold ltR; split
  · exact tls_nodup _ _
  · simp
theorem SO_nodup {P : List Dom} (h : SO P) : P.Nodup := h.imp fun {a b} h e => by rw [e] at h; omega


end Cl
end Go.Proofs.Ytgmckbchcpfhcaa

namespace Go.Proofs.Ytgmckbchcpfhcaa
namespace Cl
open Go.ChangeShapes Go.WideShapes Go.ChangeAt Go.RowKit
set_option maxRecDepth 20000
/-! a flip of a tiling is a tiling -/
theorem ord_ord {d : Dom} (h : okD d = true) : d.ord = ((ord d : Nat) : Int) := by rw [ord_val h]; unfold Dom.ord; omega
theorem okD_valid {d : Dom} (h : okD d = true) : d.valid := by have := okD_bd h; unfold Dom.valid; omega
theorem insD_perm {out : List Dom} {d : Dom} (h : ∀ e ∈ out, e.ord ≠ d.ord) : (insD out d).Perm (d :: out) := by
  unfold insD
  refine List.perm_middle.trans (List.Perm.cons _ ?_)
  induction out with
  | nil => exact List.Perm.nil
  | cons e out ih =>
    have hi := ih (fun x hx => h x (by simp [hx]))
    have he := h e (by simp)
    rw [List.filter_cons, List.filter_cons]
    rcases Int.lt_or_le e.ord d.ord with h1 | h1
    · rw [if_pos (decide_eq_true h1), if_neg (by simp; omega)]
      exact List.Perm.cons _ hi
    · rw [if_neg (by simp; omega), if_pos (decide_eq_true (by omega))]
      exact List.perm_middle.trans (List.Perm.cons _ hi)
theorem foldl_perm : ∀ (l out : List Dom), (∀ e ∈ l, okD e = true) → (∀ e ∈ out, okD e = true) → (l ++ out).Nodup → (l.foldl insD out).Perm (l ++ out) := by
  intro l
  induction l with
  | nil => intro out _ _ _; exact List.Perm.refl _
  | cons d l ih =>
    intro out hl ho hn
    have hd : d ∉ l ++ out := (List.nodup_cons.1 hn).1
    have hp : (insD out d).Perm (d :: out) := insD_perm (fun e he e' => by
      have h1 := ho e he; have h2 := hl d (by simp)
      rw [ord_ord h1, ord_ord h2] at e'
      have := ord_inj h1 h2 (Int.ofNat.inj e')
      exact hd (by rw [← this]; simp [he]))
    have hperm : (l ++ insD out d).Perm (d :: (l ++ out)) := (List.Perm.append_left l hp).trans List.perm_middle
    rw [List.foldl_cons]
    exact (ih (insD out d) (fun e he => hl e (by simp [he])) (fun e he => by
      rcases List.mem_cons.1 (hp.mem_iff.1 he) with rfl | h
      · exact hl _ (by simp)
      · exact ho e h) (hperm.symm.nodup hn)).trans hperm
theorem sortD_perm {l : List Dom} (hl : ∀ e ∈ l, okD e = true) (hn : l.Nodup) : (sortD l).Perm l := by
  unfold sortD sortBy
  rw [List.filter_eq_self.2 (show ∀ e ∈ l, Dom.ok e = true from fun e he => hl e he)]
  have := foldl_perm l [] hl (by simp) (by simpa using hn)
  simpa using this
theorem sortD_SO (l : List Dom) : SO (sortD l) := by
  have h := (sortBy_SS (ok := Dom.ok) (fun d hd => okD_valid hd) l).1
  have ho := sortBy_ok (ok := Dom.ok) l
  unfold SO
  refine List.Pairwise.imp_of_mem (fun {a b} ha hb hab => ?_) h
  rw [ord_ord (ho a ha), ord_ord (ho b hb)] at hab
  omega
theorem hasB_iff {l : List Dom} {x y : Int} {d : Bool} : hasB l x y d = true ↔ (⟨x, y, d⟩ : Dom) ∈ l := by unfold hasB; exact decide_eq_true_iff
theorem can_gone {P : List Dom} {c : Cel} (h : canB P c.x c.y = true) : pr0 c (!(acB P c.x c.y)) ∈ P ∧ pr1 c (!(acB P c.x c.y)) ∈ P := by
  unfold canB at h
  simp only [Bool.and_eq_true, Bool.or_eq_true] at h
  cases e : acB P c.x c.y
  · rw [e] at h
    have h2 : Go.Proofs.Ytgmckbchcpfhcaa.dnB P c.x c.y = true := h.2.resolve_left (by simp)
    unfold Go.Proofs.Ytgmckbchcpfhcaa.dnB at h2
    simp only [Bool.and_eq_true, hasB_iff] at h2
    exact h2
  · have e2 := e
    unfold acB at e2
    simp only [Bool.and_eq_true, hasB_iff] at e2
    exact e2
theorem pr_cin {c : Cel} (hb : 0 ≤ c.x ∧ c.x ≤ 6 ∧ 0 ≤ c.y ∧ c.y ≤ 6) (b : Bool) (i : Nat) : (if cin (pr0 c b) i = true then 1 else 0) + (if cin (pr1 c b) i = true then 1 else 0) = if i = idx c ∨ i = idx c + 1 ∨ i = idx c + 8 ∨ i = idx c + 9 then 1 else 0 := by
  have e0 : idx (ca (pr0 c b)) = idx c := by cases b <;> rfl
  have e1 : idx (cb (pr0 c b)) = if b then idx c + 8 else idx c + 1 := by unfold pr0 cb idx; cases b <;> simp <;> omega
  have e2 : idx (ca (pr1 c b)) = if b then idx c + 1 else idx c + 8 := by unfold pr1 ca idx; cases b <;> simp <;> omega
  have e3 : idx (cb (pr1 c b)) = idx c + 9 := by unfold pr1 cb idx; cases b <;> simp <;> omega
  unfold cin
  rw [e0, e1, e2, e3]
  simp only [Bool.or_eq_true, decide_eq_true_eq]
  cases b <;> simp only [if_true, if_false, Bool.false_eq_true] <;> (repeat' split) <;> omega
theorem pr_ok {c : Cel} (hb : 0 ≤ c.x ∧ c.x ≤ 6 ∧ 0 ≤ c.y ∧ c.y ≤ 6) (b : Bool) : okD (pr0 c b) = true ∧ okD (pr1 c b) = true := by
  unfold okD pr0 pr1
  cases b <;> exact ⟨okd_true.2 (by simp; omega), okd_true.2 (by simp; omega)⟩
theorem pr_ne (c : Cel) (b b' : Bool) : pr0 c b ≠ pr1 c b' := by
  unfold pr0 pr1; cases b <;> cases b' <;> simp <;> omega
theorem pr_ne0 (c : Cel) (b : Bool) : pr0 c b ≠ pr0 c (!b) ∧ pr1 c b ≠ pr1 c (!b) := by
  unfold pr0 pr1; cases b <;> simp
theorem kp_eq (g0 g1 z : Dom) : kp g0 g1 z = ((z != g0) && (z != g1)) := by
  unfold kp; rw [dEq_dom, dEq_dom, Bool.eq_iff_iff]; simp
theorem perm_out2 {P : List Dom} (hn : P.Nodup) {a b : Dom} (ha : a ∈ P) (hb : b ∈ P) (hab : a ≠ b) : P.Perm (a :: b :: P.filter (kp a b)) := by
  have h1 := List.perm_cons_erase ha
  have h2 : b ∈ P.erase a := (List.mem_erase_of_ne (fun e => hab e.symm)).2 hb
  have h3 := List.perm_cons_erase h2
  have e : (P.erase a).erase b = P.filter (kp a b) := by
    rw [(hn.erase a).erase_eq_filter, hn.erase_eq_filter, List.filter_filter]
    apply List.filter_congr
    intro z _
    rw [kp_eq, Bool.and_comm]
  rw [e] at h3
  exact h1.trans (List.Perm.cons _ h3)
theorem cvN_perm {P Q : List Dom} (h : P.Perm Q) (i : Nat) : cvN P i = cvN Q i := h.countP_eq _
theorem cvN_two {P : List Dom} (hn : P.Nodup) {a b : Dom} (ha : a ∈ P) (hb : b ∈ P) (hab : a ≠ b) {i : Nat} (h1 : cin a i = true) (h2 : cin b i = true) : 2 ≤ cvN P i := by
  rw [cvN_perm (perm_out2 hn ha hb hab), cvN_cons, cvN_cons, if_pos h1, if_pos h2]; omega
theorem cv_le {s : Nat} {P : List Dom} (h : TilS s P) (i : Nat) : cvN P i ≤ 1 := by rw [h.cv]; split <;> omega
theorem til_uniq {s : Nat} {P : List Dom} (h : TilS s P) {a b : Dom} (ha : a ∈ P) (hb : b ∈ P) {i : Nat} (h1 : cin a i = true) (h2 : cin b i = true) : a = b := by
  by_cases e : a = b
  · exact e
  · have := cvN_two (SO_nodup h.so) ha hb e h1 h2
    have := cv_le h i; omega
/-- what a flip does, as sets -/
theorem flip_parts {s : Nat} {P : List Dom} {c : Cel} (h : TilS s P) (hc : canB P c.x c.y = true) :
    P.Perm (pr0 c (!(acB P c.x c.y)) :: pr1 c (!(acB P c.x c.y)) :: P.filter (kp (pr0 c (!(acB P c.x c.y))) (pr1 c (!(acB P c.x c.y))))) ∧
    (flipD P c).Perm (pr0 c (acB P c.x c.y) :: pr1 c (acB P c.x c.y) :: P.filter (kp (pr0 c (!(acB P c.x c.y))) (pr1 c (!(acB P c.x c.y))))) ∧ pr0 c (acB P c.x c.y) ∉ P ∧ pr1 c (acB P c.x c.y) ∉ P := by
  have hb := canB_bd hc
  obtain ⟨g0, g1⟩ := can_gone hc
  have hn := SO_nodup h.so
  revert g0 g1
  unfold flipD
  generalize acB P c.x c.y = b
  intro g0 g1
  have hp := perm_out2 hn g0 g1 (pr_ne c _ _)
  have hk : cin (pr0 c b) (idx c) = true ∧ cin (pr0 c (!b)) (idx c) = true := ⟨cin_a (pr0 c b), cin_a (pr0 c !b)⟩
  have e3 : ∀ b, idx (cb (pr1 c b)) = idx c + 9 := fun b => by unfold pr1 cb idx; cases b <;> simp <;> omega
  have hk9 : cin (pr1 c b) (idx c + 9) = true ∧ cin (pr1 c (!b)) (idx c + 9) = true := ⟨by rw [← e3 b]; exact cin_b _, by rw [← e3 (!b)]; exact cin_b _⟩
  have n0 : pr0 c b ∉ P := fun hm => (pr_ne0 c b).1 (til_uniq h hm g0 hk.1 hk.2)
  have n1 : pr1 c b ∉ P := fun hm => (pr_ne0 c b).2 (til_uniq h hm g1 hk9.1 hk9.2)
  refine ⟨hp, ?_, n0, n1⟩
  refine sortD_perm (fun e he => ?_) ?_
  · simp only [List.cons_append, List.nil_append, List.mem_cons] at he
    rcases he with rfl | rfl | he
    · exact (pr_ok hb b).1
    · exact (pr_ok hb b).2
    · exact h.ok e (List.mem_filter.1 he).1
  · simp only [List.cons_append, List.nil_append]
    refine List.nodup_cons.2 ⟨fun hm => ?_, List.nodup_cons.2 ⟨fun hm => n1 (List.mem_filter.1 hm).1, hn.filter _⟩⟩
    rcases List.mem_cons.1 hm with e | hm
    · exact pr_ne c _ _ e
    · exact n0 (List.mem_filter.1 hm).1
theorem flip_til {s : Nat} {P : List Dom} {c : Cel} (h : TilS s P) (hc : canB P c.x c.y = true) : TilS s (flipD P c) := by
  obtain ⟨h1, h2, _, _⟩ := flip_parts h hc
  have hb := canB_bd hc
  refine ⟨fun d hd => ?_, fun i => ?_, sortD_SO _⟩
  · rcases List.mem_cons.1 (h2.mem_iff.1 hd) with rfl | hd
    · exact (pr_ok hb _).1
    · rcases List.mem_cons.1 hd with rfl | hd
      · exact (pr_ok hb _).2
      · exact h.ok d (List.mem_filter.1 hd).1
  · have e1 := cvN_perm h1 i
    have e2 := cvN_perm h2 i
    rw [cvN_cons, cvN_cons] at e1 e2
    have q1 := pr_cin hb (acB P c.x c.y) i
    have q2 := pr_cin hb (!(acB P c.x c.y)) i
    have := h.cv i
    omega
theorem flipAt_til {s : Nat} {P : List Dom} {c : Cel} (h : TilS s P) (hc : canB P c.x c.y = true) : TilS s (flipAt P c) := by
  unfold flipAt; rw [if_pos hc]; exact flip_til h hc
theorem pr_inj {c c' : Cel} {b b' : Bool} (h0 : pr0 c b = pr0 c' b' ∨ pr0 c b = pr1 c' b') (h1 : pr1 c b = pr0 c' b' ∨ pr1 c b = pr1 c' b') : c = c' := by
  obtain ⟨x, y⟩ := c
  obtain ⟨x', y'⟩ := c'
  unfold pr0 pr1 at *
  cases b <;> cases b' <;> simp at h0 h1 ⊢ <;> omega
/-- flips at two cells differ -/
theorem flip_inj {s : Nat} {P : List Dom} {c c' : Cel} (h : TilS s P) (hc : canB P c.x c.y = true) (hc' : canB P c'.x c'.y = true) (he : flipAt P c = flipAt P c') : c = c' := by
  unfold flipAt at he; rw [if_pos hc, if_pos hc'] at he
  have gone : ∀ {c c' : Cel}, canB P c.x c.y = true → canB P c'.x c'.y = true → flipD P c = flipD P c' → ∀ g, (g = pr0 c (!(acB P c.x c.y)) ∨ g = pr1 c (!(acB P c.x c.y))) → (g = pr0 c' (!(acB P c'.x c'.y)) ∨ g = pr1 c' (!(acB P c'.x c'.y))) := by
    intro c c' hc hc' he g hg
    obtain ⟨p1, p2, m0, m1⟩ := flip_parts h hc
    obtain ⟨p1', p2', m0', m1'⟩ := flip_parts h hc'
    obtain ⟨g0, g1⟩ := can_gone hc
    have hgP : g ∈ P := by rcases hg with rfl | rfl <;> assumption
    have hgQ : g ∉ flipD P c := by
      intro hm
      rcases List.mem_cons.1 (p2.mem_iff.1 hm) with e | hm
      · exact m0 (e ▸ hgP)
      · rcases List.mem_cons.1 hm with e | hm
        · exact m1 (e ▸ hgP)
        · have := (List.mem_filter.1 hm).2
          rw [kp_eq] at this
          simp only [Bool.and_eq_true, bne_iff_ne] at this
          rcases hg with rfl | rfl
          · exact this.1 rfl
          · exact this.2 rfl
    rw [he] at hgQ
    rcases List.mem_cons.1 (p1'.mem_iff.1 hgP) with e | hm
    · exact .inl e
    · rcases List.mem_cons.1 hm with e | hm
      · exact .inr e
      · exact absurd (p2'.mem_iff.2 (by simp [hm])) hgQ
  exact pr_inj (gone hc hc' he _ (.inl rfl)) (gone hc hc' he _ (.inr rfl))


end Cl
end Go.Proofs.Ytgmckbchcpfhcaa

namespace Go.Proofs.Ytgmckbchcpfhcaa
namespace Cl
open Go.ChangeShapes Go.WideShapes Go.ChangeAt Go.RowKit
set_option maxRecDepth 20000
/-! numbers in order -/
def putL : List Int → Int → List Int
  | [], n => [n]
  | a :: L, n => if a < n then a :: putL L n else n :: a :: L
def srt (L : List Int) : List Int := L.foldl putL []
def LE (L : List Int) : Prop := L.Pairwise (· ≤ ·)
theorem putL_perm (L : List Int) (n : Int) : (putL L n).Perm (n :: L) := by
  induction L with
  | nil => exact List.Perm.refl _
  | cons a L ih =>
    unfold putL; split
    · exact (List.Perm.cons _ ih).trans (List.Perm.swap _ _ _)
    · exact List.Perm.refl _
theorem putL_len (L : List Int) (n : Int) : (putL L n).length = L.length + 1 := by rw [(putL_perm L n).length_eq]; rfl
theorem putL_LE {L : List Int} (h : LE L) (n : Int) : LE (putL L n) := by
  induction L with
  | nil => unfold putL LE; simp
  | cons a L ih =>
    obtain ⟨h1, h2⟩ := List.pairwise_cons.1 h
    unfold putL; split
    · refine List.pairwise_cons.2 ⟨fun b hb => ?_, ih h2⟩
      have := (putL_perm L n).mem_iff.1 hb
      rcases List.mem_cons.1 this with rfl | hb
      · omega
      · exact h1 b hb
    · refine List.pairwise_cons.2 ⟨fun b hb => ?_, h⟩
      rcases List.mem_cons.1 hb with rfl | hb
      · omega
      · have := h1 b hb; omega
theorem srt_all : ∀ (L out : List Int), LE out → LE (L.foldl putL out) ∧ (L.foldl putL out).Perm (L ++ out) := by
  intro L
  induction L with
  | nil => intro out h; exact ⟨h, List.Perm.refl _⟩
  | cons a L ih =>
    intro out h
    obtain ⟨h1, h2⟩ := ih (putL out a) (putL_LE h a)
    exact ⟨h1, h2.trans (((List.Perm.append_left L (putL_perm out a)).trans List.perm_middle))⟩
theorem srt_LE (L : List Int) : LE (srt L) := (srt_all L [] List.Pairwise.nil).1
theorem srt_perm (L : List Int) : (srt L).Perm L := by have := (srt_all L [] List.Pairwise.nil).2; rw [List.append_nil] at this; exact this
theorem LE_uniq {L M : List Int} (h1 : LE L) (h2 : LE M) (hp : L.Perm M) : L = M := hp.eq_of_pairwise (fun a b _ _ h h' => Int.le_antisymm h h') h1 h2
theorem srt_eq {L M : List Int} (h : LE M) (hp : M.Perm L) : M = srt L := LE_uniq h (srt_LE L) (hp.trans (srt_perm L).symm)
theorem srt_snoc (L : List Int) (k : Nat) (h : k < L.length) : srt (L.take (k + 1)) = putL (srt (L.take k)) (gI L k) := by
  unfold srt; rw [List.take_succ_eq_append_getElem h, List.foldl_append, gI_eq h]; rfl
theorem srt_len (L : List Int) : (srt L).length = L.length := (srt_perm L).length_eq
/-- insertion as the program does it: before the first that is not less -/
theorem take_snocI {L : List Int} {k : Nat} (h : k < L.length) : L.take (k + 1) = L.take k ++ [gI L k] := by rw [List.take_succ_eq_append_getElem h, gI_eq h]
theorem putL_none {L : List Int} {n : Int} (h : ∀ x ∈ L, ¬ n ≤ x) : putL L n = L ++ [n] := by
  induction L with
  | nil => rfl
  | cons a L ih => unfold putL; rw [if_pos (by have := h a (by simp); omega), ih (fun x hx => h x (by simp [hx]))]; rfl
theorem putL_app {L : List Int} {n : Int} (M : List Int) (h : ∃ x ∈ L, n ≤ x) : putL (L ++ M) n = putL L n ++ M := by
  induction L with
  | nil => obtain ⟨x, hx, _⟩ := h; cases hx
  | cons a L ih =>
    rw [List.cons_append]
    unfold putL
    rcases Int.lt_or_le a n with hl | hl
    · have h2 : ∃ x ∈ L, n ≤ x := by
        obtain ⟨x, hx, hn⟩ := h
        rcases List.mem_cons.1 hx with rfl | hx
        · omega
        · exact ⟨x, hx, hn⟩
      rw [if_pos hl, if_pos hl, ih h2]; rfl
    · rw [if_neg (by omega), if_neg (by omega)]; rfl
def insJ (L : List Int) (i j : Nat) : List Int := L.take (j + 1) ++ (L.drop j).take (i - j) ++ L.drop (i + 1)
theorem insJ_start {L : List Int} {i : Nat} : insJ L i i = L := by
  unfold insJ; rw [Nat.sub_self, List.take_zero, List.append_nil, List.take_append_drop]
theorem insJ_len {L : List Int} {i j : Nat} (hi : i < L.length) (hj : j ≤ i) : (insJ L i j).length = L.length := by
  unfold insJ; simp only [List.length_append, List.length_take, List.length_drop]; omega
theorem insJ_get {L : List Int} {i j k : Nat} (hi : i < L.length) (hj : j ≤ i) (hk : k ≤ j) : gI (insJ L i j) k = gI L k := by
  unfold gI insJ
  rw [List.getD_eq_getElem?_getD, List.getD_eq_getElem?_getD, List.getElem?_append_left (by simp only [List.length_append, List.length_take, List.length_drop]; omega), List.getElem?_append_left (by rw [List.length_take]; omega), List.getElem?_take, if_pos (by omega)]
theorem insJ_step {L : List Int} {i j : Nat} (hi : i < L.length) (hj : j + 1 ≤ i) : (insJ L i (j + 1)).set (j + 1) (gI L j) = insJ L i j := by
  unfold insJ
  have e1 : L.take (j + 1 + 1) = L.take (j + 1) ++ [gI L (j + 1)] := take_snocI (by omega)
  have e2 : (L.drop j).take (i - j) = gI L j :: (L.drop (j + 1)).take (i - (j + 1)) := by
    rw [List.drop_eq_getElem_cons (by omega : j < L.length), gI_eq (by omega), show i - j = (i - (j + 1)) + 1 by omega, List.take_succ_cons]
  rw [e1, e2, List.append_assoc, List.append_assoc, List.append_assoc, List.set_append_right _ _ (by rw [List.length_take]; omega), List.length_take, Nat.min_eq_left (by omega), Nat.sub_self]
  rfl
theorem insJ_fin {L : List Int} {i j : Nat} (hi : i < L.length) (hj : j ≤ i) : (insJ L i j).set j (gI L i) = L.take j ++ gI L i :: ((L.drop j).take (i - j) ++ L.drop (i + 1)) := by
  unfold insJ
  rw [take_snocI (by omega), List.append_assoc, List.append_assoc, List.set_append_right _ _ (by rw [List.length_take]; omega), List.length_take, Nat.min_eq_left (by omega), Nat.sub_self]
  rfl
theorem split_ij {L : List Int} {i j : Nat} (hi : i < L.length) (hj : j ≤ i) : L = L.take j ++ ((L.drop j).take (i - j) ++ gI L i :: L.drop (i + 1)) := by
  have e : L.drop j = (L.drop j).take (i - j) ++ gI L i :: L.drop (i + 1) := by
    have h1 := (List.take_append_drop (i - j) (L.drop j)).symm
    rw [List.drop_drop, show j + (i - j) = i by omega, List.drop_eq_getElem_cons hi, ← gI_eq hi] at h1
    exact h1
  rw [← e, List.take_append_drop]
theorem insJ_perm {L : List Int} {i j : Nat} (hi : i < L.length) (hj : j ≤ i) : ((insJ L i j).set j (gI L i)).Perm L := by
  rw [insJ_fin hi hj]
  refine List.Perm.trans ?_ (List.Perm.of_eq (split_ij hi hj).symm)
  refine List.Perm.append_left _ ?_
  exact List.perm_middle.symm
theorem take_ij {L : List Int} {i j : Nat} (hi : i < L.length) (hj : j ≤ i) : ((insJ L i j).set j (gI L i)).take (i + 1) = L.take j ++ gI L i :: (L.drop j).take (i - j) := by
  rw [insJ_fin hi hj, show L.take j ++ gI L i :: ((L.drop j).take (i - j) ++ L.drop (i + 1)) = (L.take j ++ gI L i :: (L.drop j).take (i - j)) ++ L.drop (i + 1) by simp]
  have hl : (L.take j ++ gI L i :: (L.drop j).take (i - j)).length = i + 1 := by simp only [List.length_append, List.length_cons, List.length_take, List.length_drop]; omega
  rw [← hl, List.take_left']
  rfl
theorem insJ_LE {L : List Int} {i j : Nat} (hi : i < L.length) (hj : j ≤ i) (h : LE (L.take i)) (h1 : ∀ k, j ≤ k → k < i → gI L i ≤ gI L k) (h2 : j = 0 ∨ gI L (j - 1) ≤ gI L i) : LE (((insJ L i j).set j (gI L i)).take (i + 1)) := by
  rw [take_ij hi hj]
  have hs : L.take i = L.take j ++ (L.drop j).take (i - j) := by
    have h1 := (List.take_append_drop j (L.take i)).symm
    rw [List.take_take, Nat.min_eq_left hj, List.drop_take] at h1
    exact h1
  have hle : ∀ a b, a ≤ b → b < i → gI L a ≤ gI L b := by
    intro a b hab hb
    rcases Nat.lt_or_ge a b with hlt | hge
    · have := List.pairwise_iff_getElem.1 h a b (by rw [List.length_take]; omega) (by rw [List.length_take]; omega) hlt
      rw [List.getElem_take, List.getElem_take, ← gI_eq (by omega), ← gI_eq (by omega)] at this
      exact this
    · rw [show a = b by omega]; exact Int.le_refl _
  have hjle : ∀ a, a < j → gI L a ≤ gI L i := by
    intro a ha
    rcases h2 with rfl | h2
    · omega
    · exact Int.le_trans (hle a (j - 1) (by omega) (by omega)) h2
  unfold LE at h ⊢
  rw [hs] at h
  obtain ⟨q1, q2, q3⟩ := List.pairwise_append.1 h
  refine List.pairwise_append.2 ⟨q1, List.pairwise_cons.2 ⟨fun x hx => ?_, q2⟩, fun a ha b hb => ?_⟩
  · obtain ⟨k, hk, rfl⟩ := List.getElem_of_mem hx
    have hk' : k < i - j := by rw [List.length_take] at hk; omega
    rw [List.getElem_take, List.getElem_drop, ← gI_eq (by omega)]
    exact h1 _ (by omega) (by omega)
  · rcases List.mem_cons.1 hb with rfl | hb
    · obtain ⟨k, hk, rfl⟩ := List.getElem_of_mem ha
      have hk' : k < j := by rw [List.length_take] at hk; omega
      rw [List.getElem_take, ← gI_eq (by omega)]
      exact hjle k hk'
    · exact q3 a ha b hb


end Cl
end Go.Proofs.Ytgmckbchcpfhcaa

namespace Go.Proofs.Ytgmckbchcpfhcaa
namespace Cl
open Go.ChangeShapes Go.WideShapes Go.ChangeAt Go.RowKit
set_option maxRecDepth 20000
/-! neighbors by flips -/
def posI (L : List Int) (n : Int) : Int := if L.any (fun x => decide (x = n)) then ((L.findIdx (fun x => decide (x = n)) : Nat) : Int) else -1
theorem posI_yes {L : List Int} {n : Int} {k : Nat} (hk : k < L.length) (h : ∀ i, i < k → gI L i ≠ n) (he : gI L k = n) : (k : Int) = posI L n := by
  unfold posI
  have h1 : L.any (fun x => decide (x = n)) = true := List.any_eq_true.2 ⟨L[k], List.getElem_mem hk, by rw [← gI_eq hk]; exact decide_eq_true he⟩
  rw [if_pos h1]
  have : L.findIdx (fun x => decide (x = n)) = k := by
    rw [List.findIdx_eq hk]
    refine ⟨by rw [← gI_eq hk]; exact decide_eq_true he, fun j hj => ?_⟩
    have := h j hj
    rw [gI_eq (by omega)] at this
    exact decide_eq_false this
  rw [this]
theorem posI_no {L : List Int} {n : Int} {k : Nat} (hk : ¬ k < L.length) (h : ∀ i, i < k → gI L i ≠ n) : (-1 : Int) = posI L n := by
  unfold posI
  rw [if_neg]
  intro e
  obtain ⟨x, hx, hq⟩ := List.any_eq_true.1 e
  obtain ⟨j, hj, rfl⟩ := List.getElem_of_mem hx
  refine h j (by omega) ?_
  rw [gI_eq hj]; exact of_decide_eq_true hq
theorem posI_neg {L : List Int} {n : Int} (h : n ∉ L) : decide (posI L n < 0) = true := by
  unfold posI
  rw [if_neg]
  · exact decide_eq_true (by decide)
  · intro e
    obtain ⟨x, hx, hq⟩ := List.any_eq_true.1 e
    exact h (of_decide_eq_true hq ▸ hx)
theorem neI_s {L : List Int} {n : Int} {k : Nat} (h : ∀ i, i < k → gI L i ≠ n) (h2 : gI L k ≠ n) : ∀ i, i < k + 1 → gI L i ≠ n := by
  intro i hi
  rcases Nat.lt_or_ge i k with h3 | h3
  · exact h i h3
  · rw [show i = k by omega]; exact h2
structure PutI (L : List Int) (n : Int) (k : Nat) (b : Bool) (o : List Int) : Prop where
  t : b = true → (∃ x ∈ L.take k, n ≤ x) ∧ o = putL (L.take k) n
  f : b = false → (∀ x ∈ L.take k, ¬ n ≤ x) ∧ o = L.take k
theorem PutI.zero (L : List Int) (n : Int) : PutI L n 0 false [] := ⟨fun h => (by cases h), fun _ => ⟨by simp, by simp⟩⟩
theorem PutI.len {L : List Int} {n : Int} {k : Nat} {b : Bool} {o : List Int} (h : PutI L n k b o) : o.length ≤ k + 1 := by
  cases b
  · rw [(h.f rfl).2, List.length_take]; omega
  · rw [(h.t rfl).2, putL_len, List.length_take]; omega
theorem PutI.on {L : List Int} {n : Int} {k : Nat} {b : Bool} {o : List Int} (h : PutI L n k b o) (hk : k < L.length) (hb : b = true) : PutI L n (k + 1) true (o ++ [gI L k]) := by
  obtain ⟨h1, h2⟩ := h.t hb
  refine ⟨fun _ => ⟨?_, ?_⟩, fun h => by cases h⟩
  · obtain ⟨x, hx, hn⟩ := h1
    exact ⟨x, by rw [take_snocI hk]; simp [hx], hn⟩
  · rw [h2, take_snocI hk, putL_app _ h1]
theorem PutI.off {L : List Int} {n : Int} {k : Nat} {b : Bool} {o : List Int} (h : PutI L n k b o) (hk : k < L.length) (hb : b = false) (hn : ¬ n ≤ gI L k) : PutI L n (k + 1) false (o ++ [gI L k]) := by
  obtain ⟨h1, h2⟩ := h.f hb
  refine ⟨fun h => (by cases h), fun _ => ⟨fun x hx => ?_, by rw [h2, take_snocI hk]⟩⟩
  rw [take_snocI hk] at hx
  rcases List.mem_append.1 hx with hx | hx
  · exact h1 x hx
  · simp at hx; subst hx; exact hn
theorem PutI.now {L : List Int} {n : Int} {k : Nat} {b : Bool} {o : List Int} (h : PutI L n k b o) (hk : k < L.length) (hb : b = false) (hn : n ≤ gI L k) : PutI L n (k + 1) true ((o ++ [n]) ++ [gI L k]) := by
  obtain ⟨h1, h2⟩ := h.f hb
  refine ⟨fun _ => ⟨⟨gI L k, by rw [take_snocI hk]; simp, hn⟩, ?_⟩, fun h => by cases h⟩
  rw [h2, take_snocI hk]
  have : ∀ M : List Int, (∀ x ∈ M, ¬ n ≤ x) → putL (M ++ [gI L k]) n = M ++ [n] ++ [gI L k] := by
    intro M
    induction M with
    | nil => intro _; unfold putL; rw [List.nil_append]; simp only; rw [if_neg (by omega)]; rfl
    | cons a M ih =>
      intro hM
      rw [List.cons_append]; unfold putL
      rw [if_pos (by have := hM a (by simp); omega), ih (fun x hx => hM x (by simp [hx]))]; rfl
  exact (this _ h1).symm
theorem PutI.end_t {L : List Int} {n : Int} {k : Nat} {b : Bool} {o : List Int} (h : PutI L n k b o) (hk : ¬ k < L.length) (hb : b = true) : o = putL L n := by rw [(h.t hb).2, List.take_of_length_le (by omega)]
theorem PutI.end_f {L : List Int} {n : Int} {k : Nat} {b : Bool} {o : List Int} (h : PutI L n k b o) (hk : ¬ k < L.length) (hb : b = false) : o ++ [n] = putL L n := by
  obtain ⟨h1, h2⟩ := h.f hb
  rw [List.take_of_length_le (by omega)] at h1 h2
  rw [h2, putL_none h1]
def mtK (a : List (List Dom)) (q : List Dom) (j : Nat) : List Int := ((List.range j).filter (fun i => decide (gLd a i = q))).map (fun i : Nat => (i : Int))
def mtc (a : List (List Dom)) (q : List Dom) : List Int := mtK a q a.length
theorem mtK_yes {a : List (List Dom)} {q : List Dom} {j : Nat} (h : gLd a j = q) : mtK a q (j + 1) = mtK a q j ++ [(j : Int)] := by
  unfold mtK; rw [List.range_succ, List.filter_append, List.map_append, List.filter_cons, if_pos (decide_eq_true h)]; rfl
theorem mtK_no {a : List (List Dom)} {q : List Dom} {j : Nat} (h : gLd a j ≠ q) : mtK a q (j + 1) = mtK a q j := by
  unfold mtK; rw [List.range_succ, List.filter_append, List.map_append, List.filter_cons, if_neg (by rw [decide_eq_true_eq]; exact h)]; simp
theorem mtK_len (a : List (List Dom)) (q : List Dom) (j : Nat) : (mtK a q j).length ≤ j := by
  unfold mtK; rw [List.length_map]; have := List.length_filter_le (fun i => decide (gLd a i = q)) (List.range j); rwa [List.length_range] at this
def lkK (a : List (List Dom)) (P : List Dom) (i : Nat) : List Int := ((flipsOf P).take i).flatMap (fun c => mtc a (flipAt P c))
def lkR (a : List (List Dom)) (P : List Dom) : List Int := (flipsOf P).flatMap (fun c => mtc a (flipAt P c))
theorem lkK_snoc {a : List (List Dom)} {P : List Dom} {i : Nat} (h : i < (flipsOf P).length) : lkK a P (i + 1) = lkK a P i ++ mtc a (flipAt P (gC (flipsOf P) i)) := by
  unfold lkK; rw [List.take_succ_eq_append_getElem h, List.flatMap_append, gC_eq h]; simp
theorem lkK_end {a : List (List Dom)} {P : List Dom} {i : Nat} (h : ¬ i < (flipsOf P).length) : lkK a P i = lkR a P := by unfold lkK lkR; rw [List.take_of_length_le (by omega)]
theorem lkK_len {a : List (List Dom)} {P : List Dom} (ha : a.length ≤ 300) : ∀ i, i ≤ (flipsOf P).length → (lkK a P i).length ≤ 300 * i := by
  intro i
  induction i with
  | zero => intro _; simp [lkK]
  | succ i ih =>
    intro h
    rw [lkK_snoc (by omega), List.length_append]
    have := ih (by omega)
    have := mtK_len a (flipAt P (gC (flipsOf P) i)) a.length
    unfold mtc; omega
theorem flips_len (P : List Dom) : (flipsOf P).length ≤ 64 := flN_len P 64
def lkM (a : List (List Dom)) : List (List Int) := a.map (lkR a)
theorem lkM_len (a : List (List Dom)) : (lkM a).length = a.length := by simp [lkM]
theorem lkM_row {a : List (List Dom)} {k : Nat} (h : k < a.length) : gLs (lkM a) k = lkR a (gLd a k) := by
  rw [gLs_eq (by rw [lkM_len]; exact h), gLd_eq h]; simp [lkM]
def lkT (a : List (List Dom)) (k : Nat) : List (List Int) := (a.take k).map (lkR a)
theorem lkT_snoc {a : List (List Dom)} {k : Nat} (h : k < a.length) : lkT a k ++ [lkR a (gLd a k)] = lkT a (k + 1) := by
  unfold lkT; rw [List.take_succ_eq_append_getElem h, List.map_append, gLd_eq h]; rfl
theorem lkT_end {a : List (List Dom)} {k : Nat} (h : ¬ k < a.length) : lkT a k = lkM a := by unfold lkT lkM; rw [List.take_of_length_le (by omega)]
theorem lkT_len {a : List (List Dom)} {k : Nat} (h : k ≤ a.length) : (lkT a k).length = k := by unfold lkT; rw [List.length_map, List.length_take]; omega
theorem gLd_inj {a : List (List Dom)} (hn : a.Nodup) {i j : Nat} (hi : i < a.length) (hj : j < a.length) (h : gLd a i = gLd a j) : i = j := by
  rw [gLd_eq hi, gLd_eq hj] at h
  exact (List.getElem_inj hn).1 h
theorem mtK_one {a : List (List Dom)} (hn : a.Nodup) {k : Nat} (hk : k < a.length) : ∀ j, j ≤ a.length → mtK a (gLd a k) j = if k < j then [(k : Int)] else [] := by
  intro j
  induction j with
  | zero => intro _; rfl
  | succ j ih =>
    intro hj
    by_cases e : k = j
    · subst e
      rw [mtK_yes rfl, ih (by omega), if_neg (by omega), if_pos (by omega)]; rfl
    · rw [mtK_no (fun h => e (gLd_inj hn hk (by omega) h.symm)), ih (by omega)]
      split <;> split <;> first | rfl | (exfalso; omega)
theorem ixT_mem {a : List (List Dom)} {q : List Dom} (h : q ∈ a) : 0 ≤ ixT a q := by
  unfold ixT; rw [if_pos (List.any_eq_true.2 ⟨q, h, decide_eq_true rfl⟩)]; omega
theorem mtc_one {a : List (List Dom)} (hn : a.Nodup) {q : List Dom} (h : q ∈ a) : mtc a q = [ixT a q] := by
  have h0 := ixT_mem h
  obtain ⟨h1, h2⟩ := ixT_at h0
  have := mtK_one hn h1 a.length (Nat.le_refl _)
  rw [h2, if_pos h1] at this
  unfold mtc; rw [this]; congr 1; omega
def nbI (a : List (List Dom)) (P : List Dom) : List Int := (flipsOf P).map (fun c => ixT a (flipAt P c))
theorem nbI_len (a : List (List Dom)) (P : List Dom) : (nbI a P).length = (flipsOf P).length := by simp [nbI]
theorem nbI_at {a : List (List Dom)} {P : List Dom} {k : Nat} (h : k < (flipsOf P).length) : gI (nbI a P) k = ixT a (flipAt P (gC (flipsOf P) k)) := by
  rw [gI_eq (by rw [nbI_len]; exact h), gC_eq h]; simp [nbI]
theorem flips_can {P : List Dom} {c : Cel} (h : c ∈ flipsOf P) : canB P c.x c.y = true := by
  unfold flipsOf flN at h
  obtain ⟨i, hi, rfl⟩ := List.mem_map.1 h
  exact (List.mem_filter.1 hi).2
theorem flips_nodup (P : List Dom) : (flipsOf P).Nodup := by
  unfold flipsOf flN
  refine List.Pairwise.map _ (fun i j (h : i ≠ j) e => h ?_) ((List.nodup_range).filter _)
  unfold cellN at e
  simp only [Cel.mk.injEq] at e
  omega
/-- a list of tilings that flips do not leave -/
structure FlipA (s : Nat) (a : List (List Dom)) : Prop where
  nd : a.Nodup
  ti : ∀ P ∈ a, TilS s P
  cl : ∀ Q, (∃ P, P ∈ a) → TilS s Q → Q ∈ a
theorem FlipA.of (l : List Int) : FlipA (regSet l) (ltR l) := ⟨ltR_nodup l, fun _ h => (ltR_mem h).2, fun _ ⟨_, h⟩ hQ => ltR_of h hQ⟩
theorem FlipA.flip {s : Nat} {a : List (List Dom)} (h : FlipA s a) {P : List Dom} (hP : P ∈ a) {c : Cel} (hc : c ∈ flipsOf P) : flipAt P c ∈ a := h.cl _ ⟨P, hP⟩ (flipAt_til (h.ti P hP) (flips_can hc))
theorem lkR_nb {s : Nat} {a : List (List Dom)} (h : FlipA s a) {P : List Dom} (hP : P ∈ a) : lkR a P = nbI a P := by
  unfold lkR nbI
  have : ∀ L : List Cel, (∀ c ∈ L, c ∈ flipsOf P) → L.flatMap (fun c => mtc a (flipAt P c)) = L.map (fun c => ixT a (flipAt P c)) := by
    intro L
    induction L with
    | nil => intro _; rfl
    | cons c L ih =>
      intro hL
      rw [List.flatMap_cons, List.map_cons, ih (fun x hx => hL x (by simp [hx])), mtc_one h.nd (h.flip hP (hL c (by simp)))]; rfl
  exact this _ fun c hc => hc
theorem nb_nodup {s : Nat} {a : List (List Dom)} (h : FlipA s a) {P : List Dom} (hP : P ∈ a) : (nbI a P).Nodup := by
  unfold nbI
  refine List.pairwise_map.2 ((flips_nodup P).imp_of_mem fun {c c'} hc hc' hne e => hne ?_)
  have h1 := (ixT_at (ixT_mem (h.flip hP hc))).2
  have h2 := (ixT_at (ixT_mem (h.flip hP hc'))).2
  rw [e, h2] at h1
  exact (flip_inj (h.ti P hP) (flips_can hc') (flips_can hc) h1).symm
theorem nb_new {s : Nat} {a : List (List Dom)} (h : FlipA s a) {P : List Dom} (hP : P ∈ a) {k : Nat} (hk : k < (flipsOf P).length) : decide (posI (srt ((nbI a P).take k)) (ixT a (flipAt P (gC (flipsOf P) k))) < 0) = true := by
  refine posI_neg fun hm => ?_
  have hm := (srt_perm _).mem_iff.1 hm
  rw [← nbI_at hk] at hm
  have hk' : k < (nbI a P).length := by rw [nbI_len]; exact hk
  obtain ⟨j, hj, e⟩ := List.getElem_of_mem hm
  rw [List.length_take] at hj
  rw [List.getElem_take, gI_eq hk'] at e
  have := (List.getElem_inj (nb_nodup h hP)).1 e
  omega
def fnR (l : List Int) (q : List Dom) : List Int := if ixT (ltR l) q < 0 then [] else srt (nbI (ltR l) q)
theorem fnR_no {l : List Int} {q : List Dom} (h : ixT (ltR l) q < 0) : fnR l q = [] := by unfold fnR; rw [if_pos h]
theorem fnR_yes {l : List Int} {q : List Dom} (h : ¬ ixT (ltR l) q < 0) : fnR l q = srt (nbI (ltR l) q) := by unfold fnR; rw [if_neg h]
theorem fnR_len (l : List Int) (q : List Dom) : (fnR l q).length ≤ 64 := by
  unfold fnR; split
  · simp
  · rw [srt_len, nbI_len]; exact flips_len q
theorem ix_in {l : List Int} {q : List Dom} (h : ¬ ixT (ltR l) q < 0) : q ∈ ltR l ∧ gLd (ltR l) (ixT (ltR l) q).toNat = q ∧ (ixT (ltR l) q).toNat < (ltR l).length := by
  obtain ⟨h1, h2⟩ := ixT_at (a := ltR l) (q := q) (by omega)
  exact ⟨by rw [gLd_eq h1] at h2; exact h2 ▸ List.getElem_mem h1, h2, h1⟩
theorem lkM_ix {l : List Int} {q : List Dom} (h : ¬ ixT (ltR l) q < 0) : gLs (lkM (ltR l)) (ixT (ltR l) q).toNat = nbI (ltR l) q := by
  obtain ⟨h1, h2, h3⟩ := ix_in h
  rw [lkM_row h3, h2, lkR_nb (FlipA.of l) h1]
theorem LE_one (L : List Int) : LE (L.take 1) := by
  match L with
  | [] => exact List.Pairwise.nil
  | a :: L => unfold LE; simp
theorem ins_done {L0 L : List Int} {i : Nat} (hp : L.Perm L0) (h : LE (L.take i)) (hi : ¬ i < L.length) : L = srt L0 := by
  rw [List.take_of_length_le (by omega)] at h
  exact srt_eq h hp
theorem insJ_back {L : List Int} {i j : Nat} (hi : i < L.length) (hj : j ≤ i) (h0 : 0 < j) : (insJ L i j).set j (gI (insJ L i j) (((j : Nat) : Int) - 1).toNat) = insJ L i (j - 1) := by
  obtain ⟨m, rfl⟩ : ∃ m, j = m + 1 := ⟨j - 1, by omega⟩
  rw [show ((((m + 1 : Nat) : Nat) : Int) - 1).toNat = m by omega, insJ_get hi hj (by omega), insJ_step hi hj]; rfl
theorem insJ_gt {L : List Int} {i j : Nat} (hi : i < L.length) (hj : j ≤ i) (h0 : 0 < j) : gI (insJ L i j) (((j : Nat) : Int) - 1).toNat = gI L (j - 1) := by
  rw [show (((j : Nat) : Int) - 1).toNat = j - 1 by omega, insJ_get hi hj (by omega)]
theorem ins_more {L : List Int} {i j : Nat} (h : ∀ k, j ≤ k → k < i → gI L i < gI L k) (h2 : gI L i < gI L (j - 1)) : ∀ k, j - 1 ≤ k → k < i → gI L i < gI L k := by
  intro k h1 h3
  rcases Nat.lt_or_ge k j with h4 | h4
  · rw [show k = j - 1 by omega]; exact h2
  · exact h k h4 h3
theorem insJ_LE' {L : List Int} {i j : Nat} (hi : i < L.length) (hj : j ≤ i) (h : LE (L.take i)) (h1 : ∀ k, j ≤ k → k < i → gI L i < gI L k) (h2 : j = 0 ∨ ¬ gI L i < gI L (j - 1)) : LE (((insJ L i j).set j (gI L i)).take (i + 1)) :=
  insJ_LE hi hj h (fun k a b => Int.le_of_lt (h1 k a b)) (h2.imp id fun q => by omega)

theorem qE8_sz_22 : (Try.prog.info? 22).map (·.size) = some 1 := by kernel_rfl
theorem qE8_sz_3 : (Try.prog.info? 3).map (·.size) = some 1 := by kernel_rfl
theorem qE8_sz_38 : (Try.prog.info? 38).map (·.size) = some 1 := by kernel_rfl
theorem qE8_sz_67 : (Try.prog.info? 67).map (·.size) = some 2 := by kernel_rfl
theorem qE8_ti_22 : TI Try.prog 22 false 1 := ⟨⟨_, Try.underlying22, rfl⟩, by kernel_rfl⟩
theorem qE8_ti_28 : TI Try.prog 28 true 1 := ⟨⟨_, Try.underlying28, rfl⟩, by kernel_rfl⟩
theorem qE8_ti_3 : TI Try.prog 3 false 1 := ⟨⟨_, Try.underlying3, rfl⟩, by kernel_rfl⟩
theorem qE8_ti_38 : TI Try.prog 38 false 1 := ⟨⟨_, Try.underlying38, rfl⟩, by kernel_rfl⟩
theorem qE8_ti_67 : TI Try.prog 67 true 2 := ⟨⟨_, Try.underlying67, rfl⟩, by kernel_rfl⟩
theorem qE8_un_22 : Try.prog.underlying 22 = some (.slice 3) := Try.underlying22
theorem qE8_un_26 : Try.prog.underlying 26 = some (.slice 38) := Try.underlying26
theorem qE8_un_62 : Try.prog.underlying 62 = some (.slice 22) := Try.underlying62
theorem qE8_un_64 : Try.prog.underlying 64 = some (.slice 67) := Try.underlying64
theorem qE8_zi_22 : ZI Try.prog 22 (.slice none 0 0) 1 24 := by unfold ZI; kernel_rfl
theorem qE8_zi_3 : ZI Try.prog 3 (.int .i64 0) 1 8 := by unfold ZI; kernel_rfl
theorem qE8_zi_67 : ZI Try.prog 67 (.agg #[.int .i64 0, .int .i64 0]) 2 16 := by unfold ZI; kernel_rfl
set_option maxHeartbeats 4000000 in
set_option maxRecDepth 100000 in
theorem impl_put_fn (L : List Int) (n : Int) (hl : L.length ≤ 4194000) : Fn Try.prog 46 [.a (.slv L.length 1 (isl L)), .a (.val (.int .i64 n))] [.row 3 1 (putL L n).length (isl (putL L n))] := by
 refine fn_intro (N := 39) Try.func46 rfl (by kernel_rfl) rfl (Nat.le_of_ble_eq_true rfl) [9, 11, 25, 26, 29, 30, 36, 37] (ret1 rfl) (fun W => ?_)
 show Wp _ _ _ [kV 0 (V.b (.a (.slv L.length 1 (isl L)))), kI 1 n, kF 9, kF 11, kF 25, kF 26, kF 29, kF 30, kF 36, kF 37]
 refine sq (rg (zk (nl (sq (rg ?_)))))
 refine z ?_ (h := fun ν => b0I (h := 9) ν qE8_un_22 qE8_zi_3)
 refine za (zk (nl (sq (sq (rg (zm ?_))))))
 refine z ?_ (h := fun ν => lnV ν qE8_un_22)
 refine z ?_ (h := fun ν => mc ν)
 refine nl (bkk ?_)
 refine wp_loop' (fun ((k, b, o) : Nat × Bool × (List Int)) => k ≤ L.length ∧ PutI L n k b o) (fun ((k, b, o) : Nat × Bool × (List Int)) => [kI 1 n, kS 5 9 0 o.length, kB 6 b, kV 10 (V.b (.a (.slv L.length 1 (isl L)))), kI 11 ((L.length : Nat) : Int), kI 12 ((k : Nat) : Int), kO 9 3 1 true (pl (isl o)), kF 11, kF 25, kF 26, kF 29, kF 30, kF 36, kF 37]) (fun ((k, b, o) : Nat × Bool × (List Int)) => L.length - k) ((0 : Nat), (false : Bool), ([] : List Int)) (by exact ⟨Nat.zero_le _, PutI.zero L n⟩) (wkf id (wS <| wE (e := (vsl (by first | rfl | (simp; done) | (simp; omega) | omega | (exact congrArg List.length (by first | rfl | omega | (simp; done) | (simp; omega)))) rfl)) <| wS <| wS <| wS <| wE (e := (vint (by first | rfl | omega | (simp; done) | (simp; omega)))) <| wP <| wF <| wF <| wF <| wF <| wF <| wF <| wF <| wN)) ?_
 rintro ⟨k, b, o⟩ inv1
 replace inv1 : k ≤ L.length ∧ PutI L n k b o := inv1
 obtain ⟨hk, hP⟩ := inv1
 have hol := hP.len
 refine sq (rg ?_)
 refine z ?_ (h := fun ν => acts_bin ν vt vt (r_lss rfl))
 refine nl (sq ?_)
 refine wi (fun c2 => ?_) (fun c2 => ?_)
 ·skip
  have c2P := of_decide_eq_true c2
  refine sk (sq (bkk (sq (rg ?_))))
  refine z ?_ (h := fun ν => ixv ν qE8_un_22 qE8_sz_3 vt)
  refine z ?_ (h := fun ν => uI ν qE8_ti_3)
  refine za (nl (sq (sq ?_)))
  rcases Bool.eq_false_or_eq_true (b) with c3 | c3
  ·skip
   rw [c3]
   refine rg (zm ?_)
   refine z ?_ (h := fun ν => acts_un ν vt (r_not (c := false) rfl))
   refine zm (zo (zo (zo ?_)))
   refine z ?_ (h := fun ν => acts_pick_f ν vt xc)
   refine nl (wf (sk (rg (zm (zm ?_)))))
   refine z ?_ (h := fun ν => acts_buildSlice' (h := 29) (xs := isl ([(gI L k)] : List Int)) ν qE8_un_22 qE8_zi_3 (.cons vt OpVs.nil) (by decide) (by decide) (by kernel_rfl) rfl)
   refine z ?_ (h := fun ν => aI_ (h2 := 30) (L3 := (o ++ [(gI L k)])) ν qE8_un_22 qE8_zi_3 (by first | exact rfl | (simp; done) | (simp; omega) | omega) rfl (by first | exact rfl | (simp; done) | (simp; omega) | omega) (by first | omega | (simp; omega) | (simp at *; omega)))
   refine za (nl (rg ?_))
   refine z ?_ (h := fun ν => acts_bin ν vt vc rA)
   refine zm (nl ?_)
   exact loop_back ((k + 1), true, (o ++ [(gI L k)])) (by refine ⟨by omega, ?_⟩; first | exact hP.on (by omega) (by assumption) | exact hP.now (by omega) (by assumption) (by omega) | exact hP.off (by omega) (by assumption) (by omega)) (by show L.length - (k + 1) < L.length - k; omega) (wkf (subst1 [(9, 30)]) (wS <| wS <| wS <| wS <| wS <| wE (e := (vint (by first | rfl | omega | (simp; done) | (simp; omega)))) <| wP <| wF <| wF <| wF <| wF <| wF <| wF <| wF <| wN))
  ·skip
   rw [c3]
   refine rg (zm ?_)
   refine z ?_ (h := fun ν => acts_un ν vt (r_not (c := true) rfl))
   refine zm ?_
   refine zg ?_ (h := fun ν => step_on rfl rfl (mt ν))
   refine zg ?_ (h := fun ν => step_on rfl rfl (mt ν))
   refine zg ?_ (h := fun ν => step_on rfl rfl (acts_bin ν vt vt (r_leq rfl)))
   refine z ?_ (h := fun ν => acts_pick_t ν vt xt)
   refine nl ?_
   refine wi (fun c4 => ?_) (fun c4 => ?_)
   ·skip
    have c4P := of_decide_eq_true c4
    refine sq (rg (zm (zm ?_)))
    refine z ?_ (h := fun ν => acts_buildSlice' (h := 25) (xs := isl ([n] : List Int)) ν qE8_un_22 qE8_zi_3 (.cons vt OpVs.nil) (by decide) (by decide) (by kernel_rfl) rfl)
    refine z ?_ (h := fun ν => aI_ (h2 := 26) (L3 := (o ++ [n])) ν qE8_un_22 qE8_zi_3 (by first | exact rfl | (simp; done) | (simp; omega) | omega) rfl (by first | exact rfl | (simp; done) | (simp; omega) | omega) (by first | omega | (simp; omega) | (simp at *; omega)))
    refine za (nl (rg (zk (nl (rg (zm (zm ?_)))))))
    refine z ?_ (h := fun ν => acts_buildSlice' (h := 29) (xs := isl ([(gI L k)] : List Int)) ν qE8_un_22 qE8_zi_3 (.cons vt OpVs.nil) (by decide) (by decide) (by kernel_rfl) rfl)
    refine z ?_ (h := fun ν => aI_ (h2 := 30) (L3 := ((o ++ [n]) ++ [(gI L k)])) ν qE8_un_22 qE8_zi_3 (by first | exact rfl | (simp; done) | (simp; omega) | omega) rfl (by first | exact rfl | (simp; done) | (simp; omega) | omega) (by first | omega | (simp; omega) | (simp at *; omega)))
    refine za (nl (rg ?_))
    refine z ?_ (h := fun ν => acts_bin ν vt vc rA)
    refine zm (nl ?_)
    exact loop_back ((k + 1), true, ((o ++ [n]) ++ [(gI L k)])) (by refine ⟨by omega, ?_⟩; first | exact hP.on (by omega) (by assumption) | exact hP.now (by omega) (by assumption) (by omega) | exact hP.off (by omega) (by assumption) (by omega)) (by show L.length - (k + 1) < L.length - k; omega) (wkf (subst1 [(9, 30)]) (wS <| wS <| wS <| wS <| wS <| wE (e := (vint (by first | rfl | omega | (simp; done) | (simp; omega)))) <| wP <| wF <| wF <| wF <| wF <| wF <| wF <| wF <| wN))
   ·skip
    have c4P := of_decide_eq_false c4
    refine sk (rg (zm (zm ?_)))
    refine z ?_ (h := fun ν => acts_buildSlice' (h := 29) (xs := isl ([(gI L k)] : List Int)) ν qE8_un_22 qE8_zi_3 (.cons vt OpVs.nil) (by decide) (by decide) (by kernel_rfl) rfl)
    refine z ?_ (h := fun ν => aI_ (h2 := 30) (L3 := (o ++ [(gI L k)])) ν qE8_un_22 qE8_zi_3 (by first | exact rfl | (simp; done) | (simp; omega) | omega) rfl (by first | exact rfl | (simp; done) | (simp; omega) | omega) (by first | omega | (simp; omega) | (simp at *; omega)))
    refine za (nl (rg ?_))
    refine z ?_ (h := fun ν => acts_bin ν vt vc rA)
    refine zm (nl ?_)
    exact loop_back ((k + 1), false, (o ++ [(gI L k)])) (by refine ⟨by omega, ?_⟩; first | exact hP.on (by omega) (by assumption) | exact hP.now (by omega) (by assumption) (by omega) | exact hP.off (by omega) (by assumption) (by omega)) (by show L.length - (k + 1) < L.length - k; omega) (wkf (subst1 [(9, 30)]) (wS <| wS <| wS <| wS <| wS <| wE (e := (vint (by first | rfl | omega | (simp; done) | (simp; omega)))) <| wP <| wF <| wF <| wF <| wF <| wF <| wF <| wF <| wN))
 ·skip
  have c2P := of_decide_eq_false c2
  refine wp_exit' (sq (sq (rg (zm ?_))))
  refine z ?_ (h := fun ν => acts_un ν vt (r_not rfl))
  refine nl ?_
  refine wi (b := (!b)) (fun c5 => ?_) (fun c5 => ?_)
  ·skip
   have c6 : b = false := by first | (rw [← Bool.not_eq_true']; exact c5) | simpa using c5
   refine rg (zm (zm ?_))
   refine z ?_ (h := fun ν => acts_buildSlice' (h := 36) (xs := isl ([n] : List Int)) ν qE8_un_22 qE8_zi_3 (.cons vt OpVs.nil) (by decide) (by decide) (by kernel_rfl) rfl)
   refine z ?_ (h := fun ν => aI_ (h2 := 37) (L3 := (o ++ [n])) ν qE8_un_22 qE8_zi_3 (by first | exact rfl | (simp; done) | (simp; omega) | omega) rfl (by first | exact rfl | (simp; done) | (simp; omega) | omega) (by first | omega | (simp; omega) | (simp at *; omega)))
   refine za (nl (sq (rg (zm (za (nl (wp_ret' ?_)))))))
   exact VRes.tmp _ _ _ (by exact rfl) (brow_ints (h := 37) (L := (o ++ [n])) (by kernel_rfl) (by first | exact hP.end_t (by omega) (by assumption) | exact hP.end_f (by omega) (by assumption)) (by first | rfl | (simp; done) | (simp; omega)))
  ·skip
   have c7 : b = true := by first | (rw [← Bool.not_eq_false']; exact c5) | simpa using c5
   refine sk (sq (rg (zm (za (nl (wp_ret' ?_))))))
   exact VRes.tmp _ _ _ (by exact rfl) (brow_ints (h := 9) (L := o) (by kernel_rfl) (by first | exact hP.end_t (by omega) (by assumption) | exact hP.end_f (by omega) (by assumption)) (by first | rfl | (simp; done) | (simp; omega)))

set_option maxHeartbeats 4000000 in
set_option maxRecDepth 100000 in
theorem impl_indexOf_fn (L : List Int) (n : Int) (hl : L.length ≤ 4194304) : Fn Try.prog 45 [.a (.slv L.length 1 (isl L)), .a (.val (.int .i64 n))] [.val (.int .i64 (posI L n))] := by
 refine fn_intro (N := 19) Try.func45 rfl (by kernel_rfl) rfl (Nat.le_of_ble_eq_true rfl) [8] (ret1 rfl) (fun W => ?_)
 show Wp _ _ _ [kV 0 (V.b (.a (.slv L.length 1 (isl L)))), kI 1 n, kF 8]
 refine sq (rg (zk (nl (sq (sq (rg (zm ?_)))))))
 refine z ?_ (h := fun ν => lnV ν qE8_un_22)
 refine z ?_ (h := fun ν => mc ν)
 refine nl (bkk ?_)
 refine wp_loop' (fun (k : Nat) => k ≤ L.length ∧ ∀ i, i < k → gI L i ≠ n) (fun (k : Nat) => [kI 1 n, kV 7 (V.b (.a (.slv L.length 1 (isl L)))), kI 8 ((L.length : Nat) : Int), kI 9 ((k : Nat) : Int), kF 8]) (fun (k : Nat) => L.length - k) ((0 : Nat)) (by exact ⟨Nat.zero_le _, fun i hi => absurd hi (Nat.not_lt_zero i)⟩) (wkf id (wS <| wS <| wS <| wE (e := (vint (by first | rfl | omega | (simp; done) | (simp; omega)))) <| wF <| wN)) ?_
 rintro k inv1
 replace inv1 : k ≤ L.length ∧ ∀ i, i < k → gI L i ≠ n := inv1
 obtain ⟨inv1_0, inv1_1⟩ := inv1
 refine sq (rg ?_)
 refine z ?_ (h := fun ν => acts_bin ν vt vt (r_lss rfl))
 refine nl (sq ?_)
 refine wi (fun c2 => ?_) (fun c2 => ?_)
 ·skip
  have c2P := of_decide_eq_true c2
  refine sk (sq (bkk (sq (rg (zm ?_)))))
  refine z ?_ (h := fun ν => ixv ν qE8_un_22 qE8_sz_3 vt)
  refine z ?_ (h := fun ν => uI ν qE8_ti_3)
  refine za (za (nl (sq (rg (zm (zm ?_))))))
  refine z ?_ (h := fun ν => acts_bin ν vt vt (r_eql rfl))
  refine nl ?_
  refine wi (fun c3 => ?_) (fun c3 => ?_)
  ·skip
   have c3P := of_decide_eq_true c3
   refine sq (rg (zm (za (nl (wp_ret' ?_)))))
   exact VRes.tmp _ _ _ (by exact rfl) (bval (congrArg (Value.int .i64) (by exact posI_yes (k := k) (by omega) (by assumption) (by omega))))
  ·skip
   have c3P := of_decide_eq_false c3
   refine sk (rg ?_)
   refine z ?_ (h := fun ν => acts_bin ν vt vc rA)
   refine zm (nl ?_)
   exact loop_back ((k + 1)) (by exact ⟨by omega, neI_s (by assumption) (by omega)⟩) (by show L.length - (k + 1) < L.length - k; omega) (wkf id (wS <| wS <| wS <| wE (e := (vint (by first | rfl | omega | (simp; done) | (simp; omega)))) <| wF <| wN))
 ·skip
  have c2P := of_decide_eq_false c2
  refine wp_exit' (sq (rg (zk (nl (wp_ret' ?_)))))
  exact VRes.tmp _ _ _ (by exact rfl) (bval (congrArg (Value.int .i64) (by exact posI_no (k := k) (by omega) (by assumption))))

set_option maxHeartbeats 4000000 in
set_option maxRecDepth 100000 in
theorem spec_l12Links_fn (a : List (List Dom)) (ha : a.length ≤ 300) (hr : ∀ k, k < a.length → (gLd a k).length ≤ 64) : FnO Try.prog 42 [.a (.slvv 3 (vwD a))] [] (V.b (.a (.slvv 1 (vwI (lkM a))))) [] [] := by
 refine fn_introO (N := 63) Try.func42 rfl (by kernel_rfl) rfl (Nat.le_of_ble_eq_true rfl) rfl rfl (by kernel_rfl) (by kernel_rfl) trivial [11, 14, 22, 23, 26, 39, 44, 53, 56, 57, 60, 61, 63, 64, 65, 66] (retO1 rfl) (fun W own kp im0 => ?_)
 show Wp _ _ _ [kV 0 (V.b (.a (.slvv 3 (vwD a)))), kF 11, kF 14, kF 22, kF 23, kF 26, kF 39, kF 44, kF 53, kF 56, kF 57, kF 60, kF 61, kF 63, kF 64, kF 65, kF 66]
 refine sq (rg (zk (nl (sq (rg ?_)))))
 refine z ?_ (h := fun ν => b0Q (h := 11) (T := 3) ν qE8_un_62 qE8_zi_22)
 refine za (nl (sq (sq (rg (zk (nl (bkk ?_)))))))
 refine wp_loop' (fun (k : Nat) => k ≤ a.length) (fun (k : Nat) => [kV 0 (V.b (.a (.slvv 3 (vwD a)))), kS 3 11 0 ((lkT a k).length), kI 4 ((k : Nat) : Int), kO 11 22 1 true (rwI 3 (lkT a k)), kF 14, kF 22, kF 23, kF 26, kF 39, kF 44, kF 53, kF 56, kF 57, kF 60, kF 61, kF 63, kF 64, kF 65, kF 66]) (fun (k : Nat) => a.length - k) ((0 : Nat)) (by exact (Nat.zero_le _ : 0 ≤ _)) (wkf id (wS <| wE (e := (vsl (by first | rfl | (simp; done) | (simp; omega) | omega | (exact congrArg List.length (by first | rfl | omega | (rw [hle]; exact lkT_snoc (by omega)) | (rw [hle]; exact Eq.symm (lkT_snoc (by omega)))))) rfl)) <| wE (e := (vint (by first | rfl | omega | (rw [hle]; exact lkT_snoc (by omega)) | (rw [hle]; exact Eq.symm (lkT_snoc (by omega)))))) <| wQI (e := (by first | rfl | omega | (rw [hle]; exact lkT_snoc (by omega)) | (rw [hle]; exact Eq.symm (lkT_snoc (by omega))))) <| by (iterate 15 refine wF ?_); exact wN)) ?_
 rintro k inv1
 replace inv1 : k ≤ a.length := inv1
 have invk := inv1
 have htl := lkT_len invk
 refine sq (sq (rg (zm (zm ?_))))
 refine z ?_ (h := fun ν => lnD ν qE8_un_26)
 refine z ?_ (h := fun ν => acts_bin ν vt vt (r_lss rfl))
 refine nl ?_
 refine wi (fun c2 => ?_) (fun c2 => ?_)
 ·skip
  have c2P := of_decide_eq_true c2
  have hrk := hr k (by omega)
  have hfl := flips_len (gLd a k)
  refine sk (sq (bkk (sq (rg (zm (zm ?_))))))
  refine z ?_ (h := fun ν => xvv ν qE8_un_26 qE8_sz_38 vt (hlt := (by simp only [vwI_len, vwD_len]; first | omega | assumption | exact hr _ (by omega) | exact Nat.le_trans (hr _ (by omega)) (by decide))))
  refine z ?_ (h := fun ν => lvD ν qE8_ti_38 (by first | omega | assumption | exact hr _ (by omega) | exact Nat.le_trans (hr _ (by omega)) (by decide)))
  refine z ?_ (h := fun ν => acts_call1 ν (spec_FlipsOf_fn (gLd a k) (by first | omega | assumption | exact hr _ (by omega) | exact Nat.le_trans (hr _ (by omega)) (by decide))) (ac (ArgV.slv _ _ _ _) an) (ResV.row _ _ _ _ 22))
  refine za (nl (sq (rg ?_)))
  refine z ?_ (h := fun ν => b0I (h := 23) ν qE8_un_22 qE8_zi_3)
  refine za (nl (sq (sq (rg (zk (nl (bkk ?_)))))))
  refine wp_loop' (fun (i : Nat) => i ≤ (flipsOf (gLd a k)).length) (fun (i : Nat) => [kV 0 (V.b (.a (.slvv 3 (vwD a)))), kS 3 11 0 ((lkT a k).length), kI 4 ((k : Nat) : Int), kS 5 22 0 ((flipsOf (gLd a k)).length), kS 6 23 0 ((lkK a (gLd a k) i).length), kI 7 ((i : Nat) : Int), kO 11 22 1 true (rwI 3 (lkT a k)), kO 22 67 2 true (pl (csl (flipsOf (gLd a k)))), kO 23 3 1 true (pl (isl (lkK a (gLd a k) i))), kF 14, kF 26, kF 39, kF 44, kF 53, kF 56, kF 57, kF 60, kF 61, kF 63, kF 64, kF 65, kF 66]) (fun (i : Nat) => (flipsOf (gLd a k)).length - i) ((0 : Nat)) (by exact (Nat.zero_le _ : 0 ≤ _)) (wkf id (wS <| wS <| wS <| wS <| wE (e := (vsl (by first | rfl | (simp; done) | (simp; omega) | omega | (exact congrArg List.length (by first | rfl | omega | (have e : j = a.length := by omega); subst e; exact hsn.symm | (have e : j = a.length := by omega); subst e; exact hsn))) rfl)) <| wE (e := (vint (by first | rfl | omega | (have e : j = a.length := by omega); subst e; exact hsn.symm | (have e : j = a.length := by omega); subst e; exact hsn))) <| wQI <| wP <| wO (e := renob_eq (fun h => h) (congrArg isl (by first | rfl | omega | (have e : j = a.length := by omega); subst e; exact hsn.symm | (have e : j = a.length := by omega); subst e; exact hsn))) <| by (iterate 13 refine wF ?_); exact wN)) ?_
  rintro i inv3
  replace inv3 : i ≤ (flipsOf (gLd a k)).length := inv3
  have invi := inv3
  have hkl := lkK_len (a := a) (P := (gLd a k)) ha i invi
  refine sq (sq (rg (zm (zm ?_))))
  refine z ?_ (h := fun ν => lnS ν qE8_un_64)
  refine z ?_ (h := fun ν => acts_bin ν vt vt (r_lss rfl))
  refine nl ?_
  refine wi (fun c4 => ?_) (fun c4 => ?_)
  ·skip
   have c4P := of_decide_eq_true c4
   have hfa := flipAt_len (gLd a k) (gC (flipsOf (gLd a k)) i)
   have hsn := lkK_snoc (a := a) (P := (gLd a k)) (i := i) (by omega)
   refine sk (sq (bkk (sq (wp_dr (zdm (zdm ?_))))))
   refine zd ?_ (h := fun ν => xvv ν qE8_un_26 qE8_sz_38 vt (hlt := (by simp only [vwI_len, vwD_len]; first | omega | assumption | exact hr _ (by omega) | exact Nat.le_trans (hr _ (by omega)) (by decide))))
   refine zd ?_ (h := fun ν => lvD ν qE8_ti_38 (by first | omega | assumption | exact hr _ (by omega) | exact Nat.le_trans (hr _ (by omega)) (by decide)))
   refine zdm (zdm ?_)
   refine zd ?_ (h := fun ν => ix0 ν qE8_un_64 qE8_sz_67 vt (hlt := (by first | omega | assumption | exact hr _ (by omega) | exact Nat.le_trans (hr _ (by omega)) (by decide))))
   refine zd ?_ (h := fun ν => lC ν qE8_ti_67 (by first | omega | assumption | exact hr _ (by omega) | exact Nat.le_trans (hr _ (by omega)) (by decide)))
   refine zd ?_ (h := fun ν => acts_call2 ν (spec_FlipAt_fn (gLd a k) (gC (flipsOf (gLd a k)) i) (by first | omega | assumption | exact hr _ (by omega) | exact Nat.le_trans (hr _ (by omega)) (by decide))) (ac (ArgV.slv _ _ _ _) (ac (ArgV.va va) an)) (ResV.row _ _ _ _ 39) rv)
   refine zdm ?_
   refine zd ?_ (h := fun ν => acts_extract ν (by exact rfl))
   refine zd ?_ (h := fun ν => acts_extract ν (by exact rfl))
   refine zd ?_ (h := fun ν => gt ν)
   refine zd ?_ (h := fun ν => gt ν)
   refine dw_nil (sq (rg (zk (nl (bkk ?_)))))
   refine wp_loop' (fun (j : Nat) => j ≤ a.length) (fun (j : Nat) => [kV 0 (V.b (.a (.slvv 3 (vwD a)))), kS 3 11 0 ((lkT a k).length), kI 4 ((k : Nat) : Int), kS 5 22 0 ((flipsOf (gLd a k)).length), kS 6 23 0 ((lkK a (gLd a k) i ++ mtK a (flipAt (gLd a k) (gC (flipsOf (gLd a k)) i)) j).length), kI 7 ((i : Nat) : Int), kS 8 39 0 ((flipAt (gLd a k) (gC (flipsOf (gLd a k)) i)).length), kI 10 ((j : Nat) : Int), kO 11 22 1 true (rwI 3 (lkT a k)), kO 22 67 2 true (pl (csl (flipsOf (gLd a k)))), kO 23 3 1 true (pl (isl (lkK a (gLd a k) i ++ mtK a (flipAt (gLd a k) (gC (flipsOf (gLd a k)) i)) j))), kO 39 57 3 true (pl (dsl (flipAt (gLd a k) (gC (flipsOf (gLd a k)) i)))), kF 14, kF 26, kF 44, kF 53, kF 56, kF 57, kF 60, kF 61, kF 63, kF 64, kF 65, kF 66]) (fun (j : Nat) => a.length - j) ((0 : Nat)) (by exact (Nat.zero_le _ : 0 ≤ _)) (wkf id (wS <| wS <| wS <| wS <| wE (e := (vsl (by first | rfl | (simp; done) | (simp; omega) | omega | (exact congrArg List.length (by first | rfl | omega | (rw [hmt, List.append_assoc]; done) | (rw [hmt]; done) | (simp [mtK]; done)))) rfl)) <| wS <| wS <| wE (e := (vint (by first | rfl | omega | (rw [hmt, List.append_assoc]; done) | (rw [hmt]; done) | (simp [mtK]; done)))) <| wQI <| wP <| wO (e := renob_eq (fun h => h) (congrArg isl (by first | rfl | omega | (rw [hmt, List.append_assoc]; done) | (rw [hmt]; done) | (simp [mtK]; done)))) <| wP <| by (iterate 12 refine wF ?_); exact wN)) ?_
   rintro j inv5
   replace inv5 : j ≤ a.length := inv5
   have invj := inv5
   have hml := mtK_len a (flipAt (gLd a k) (gC (flipsOf (gLd a k)) i)) j
   refine sq (sq (rg (zm (zm ?_))))
   refine z ?_ (h := fun ν => lnD ν qE8_un_26)
   refine z ?_ (h := fun ν => acts_bin ν vt vt (r_lss rfl))
   refine nl ?_
   refine wi (fun c6 => ?_) (fun c6 => ?_)
   ·skip
    have c6P := of_decide_eq_true c6
    refine sk (sq (bkk (sq (rg (zm (zm ?_))))))
    refine z ?_ (h := fun ν => xvv ν qE8_un_26 qE8_sz_38 vt (hlt := (by simp only [vwI_len, vwD_len]; first | omega | assumption | exact hr _ (by omega) | exact Nat.le_trans (hr _ (by omega)) (by decide))))
    refine z ?_ (h := fun ν => lvD ν qE8_ti_38 (by first | omega | assumption | exact hr _ (by omega) | exact Nat.le_trans (hr _ (by omega)) (by decide)))
    refine zm ?_
    refine z ?_ (h := fun ν => acts_call1 ν (spec_SameDominoes_fn (gLd a j) (flipAt (gLd a k) (gC (flipsOf (gLd a k)) i)) (by first | omega | assumption | exact hr _ (by omega) | exact Nat.le_trans (hr _ (by omega)) (by decide)) (by first | omega | assumption | exact hr _ (by omega) | exact Nat.le_trans (hr _ (by omega)) (by decide))) (ac (ArgV.slv _ _ _ _) (ac (argv_own (by first | exact dsl_len _ | (simp [isl_len, bsl_len, dsl_len, csl_len]; done) | (simp [isl_len, bsl_len, dsl_len, csl_len]; omega))) an)) rv)
    refine nl ?_
    refine wi (b := (decide ((gLd a j) = (flipAt (gLd a k) (gC (flipsOf (gLd a k)) i))))) (fun c7 => ?_) (fun c7 => ?_)
    ·skip
     have hmt := mtK_yes (a := a) (of_decide_eq_true c7)
     refine rg (zm (zm ?_))
     refine z ?_ (h := fun ν => acts_buildSlice' (h := 56) (xs := isl ([((j : Nat) : Int)] : List Int)) ν qE8_un_22 qE8_zi_3 (.cons vt OpVs.nil) (by decide) (by decide) (by kernel_rfl) rfl)
     refine z ?_ (h := fun ν => aI_ (h2 := 57) (L3 := ((lkK a (gLd a k) i ++ mtK a (flipAt (gLd a k) (gC (flipsOf (gLd a k)) i)) j) ++ [((j : Nat) : Int)])) ν qE8_un_22 qE8_zi_3 (by first | exact rfl | (simp; done) | (simp; omega) | omega) rfl (by first | exact rfl | (simp; done) | (simp; omega) | omega) (by first | omega | (simp; omega) | (simp at *; omega)))
     refine za (nl (rg (zm ?_)))
     refine z ?_ (h := fun ν => acts_bin ν vt vc (rA (by first | omega | assumption | exact hr _ (by omega) | exact Nat.le_trans (hr _ (by omega)) (by decide)) (by first | omega | assumption | exact hr _ (by omega) | exact Nat.le_trans (hr _ (by omega)) (by decide))))
     refine za (nl ?_)
     exact loop_back ((j + 1)) (by show _ ≤ _; omega) (by show a.length - (j + 1) < a.length - j; omega) (wkf (subst1 [(23, 57)]) (wS <| wS <| wS <| wS <| wE (e := (vsl (by first | rfl | (simp; done) | (simp; omega) | omega | (exact congrArg List.length (by first | rfl | omega | (rw [hmt, List.append_assoc]; done) | (rw [hmt]; done) | (simp [mtK]; done)))) rfl)) <| wS <| wS <| wE (e := (vint (by first | rfl | omega | (rw [hmt, List.append_assoc]; done) | (rw [hmt]; done) | (simp [mtK]; done)))) <| wQI <| wP <| wO (e := renob_eq (fun h => h) (congrArg isl (by first | rfl | omega | (rw [hmt, List.append_assoc]; done) | (rw [hmt]; done) | (simp [mtK]; done)))) <| wP <| by (iterate 12 refine wF ?_); exact wN))
    ·skip
     have hmt := mtK_no (a := a) (of_decide_eq_false c7)
     refine sk (rg (zm ?_))
     refine z ?_ (h := fun ν => acts_bin ν vt vc (rA (by first | omega | assumption | exact hr _ (by omega) | exact Nat.le_trans (hr _ (by omega)) (by decide)) (by first | omega | assumption | exact hr _ (by omega) | exact Nat.le_trans (hr _ (by omega)) (by decide))))
     refine za (nl ?_)
     exact loop_back ((j + 1)) (by show _ ≤ _; omega) (by show a.length - (j + 1) < a.length - j; omega) (wkf id (wS <| wS <| wS <| wS <| wE (e := (vsl (by first | rfl | (simp; done) | (simp; omega) | omega | (exact congrArg List.length (by first | rfl | omega | (rw [hmt, List.append_assoc]; done) | (rw [hmt]; done) | (simp [mtK]; done)))) rfl)) <| wS <| wS <| wE (e := (vint (by first | rfl | omega | (rw [hmt, List.append_assoc]; done) | (rw [hmt]; done) | (simp [mtK]; done)))) <| wQI <| wP <| wO (e := renob_eq (fun h => h) (congrArg isl (by first | rfl | omega | (rw [hmt, List.append_assoc]; done) | (rw [hmt]; done) | (simp [mtK]; done)))) <| wP <| by (iterate 12 refine wF ?_); exact wN))
   ·skip
    have c6P := of_decide_eq_false c6
    refine wp_exit' (rg (zm ?_))
    refine z ?_ (h := fun ν => acts_bin ν vt vc (rA (by first | omega | assumption | exact hr _ (by omega) | exact Nat.le_trans (hr _ (by omega)) (by decide)) (by first | omega | assumption | exact hr _ (by omega) | exact Nat.le_trans (hr _ (by omega)) (by decide))))
    refine za (nl ?_)
    exact loop_back ((i + 1)) (by show _ ≤ _; omega) (by show (flipsOf (gLd a k)).length - (i + 1) < (flipsOf (gLd a k)).length - i; omega) (wkf id (wS <| wS <| wS <| wS <| wE (e := (vsl (by first | rfl | (simp; done) | (simp; omega) | omega | (exact congrArg List.length (by first | rfl | omega | (have e : j = a.length := by omega); subst e; exact hsn.symm | (have e : j = a.length := by omega); subst e; exact hsn))) rfl)) <| wE (e := (vint (by first | rfl | omega | (have e : j = a.length := by omega); subst e; exact hsn.symm | (have e : j = a.length := by omega); subst e; exact hsn))) <| wQI <| wP <| wO (e := renob_eq (fun h => h) (congrArg isl (by first | rfl | omega | (have e : j = a.length := by omega); subst e; exact hsn.symm | (have e : j = a.length := by omega); subst e; exact hsn))) <| by (iterate 13 refine wF ?_); exact wN))
  ·skip
   have c4P := of_decide_eq_false c4
   have hle := lkK_end (a := a) (P := (gLd a k)) (i := i) (by omega)
   refine wp_exit' (rg (zm (zm ?_)))
   refine z ?_ (h := fun ν => bs1 (h := 60) ν qE8_un_62 qE8_zi_22 (by exact ⟨_, _, _, .inl rfl⟩))
   refine z ?_ (h := fun ν => aQ (h2 := 61) (nm := ((lkT a k) ++ [(lkK a (gLd a k) i)]).length) ν qE8_un_62 qE8_zi_22 (by exact ⟨_, _, _, .inl rfl⟩) (by simp [rwI_len, rwD_len]) (by first | omega | (simp; omega) | (first | omega | assumption | exact hr _ (by omega) | exact Nat.le_trans (hr _ (by omega)) (by decide))) (by simp))
   refine za (nl ?_)
   refine wp_weak (pkI (h := 61) (h1 := 23) (T := 3) (T0 := 22) (s0 := 1) (ex0 := true) (n := ((lkK a (gLd a k) i).length)) (L := (lkT a k)) (r := (lkK a (gLd a k) i))) ?_
   refine rg (zm ?_)
   refine z ?_ (h := fun ν => acts_bin ν vt vc (rA (by first | omega | assumption | exact hr _ (by omega) | exact Nat.le_trans (hr _ (by omega)) (by decide)) (by first | omega | assumption | exact hr _ (by omega) | exact Nat.le_trans (hr _ (by omega)) (by decide))))
   refine za (nl ?_)
   exact loop_back ((k + 1)) (by show _ ≤ _; omega) (by show a.length - (k + 1) < a.length - k; omega) (wkf (subst1 [(11, 61)]) (wS <| wE (e := (vsl (by first | rfl | (simp; done) | (simp; omega) | omega | (exact congrArg List.length (by first | rfl | omega | (rw [hle]; exact lkT_snoc (by omega)) | (rw [hle]; exact Eq.symm (lkT_snoc (by omega)))))) rfl)) <| wE (e := (vint (by first | rfl | omega | (rw [hle]; exact lkT_snoc (by omega)) | (rw [hle]; exact Eq.symm (lkT_snoc (by omega)))))) <| wQI (e := (by first | rfl | omega | (rw [hle]; exact lkT_snoc (by omega)) | (rw [hle]; exact Eq.symm (lkT_snoc (by omega))))) <| by (iterate 15 refine wF ?_); exact wN))
 ·skip
  have c2P := of_decide_eq_false c2
  refine wp_exit' (sq (rg (zm (za (nl ?_)))))
  refine wp_weak (fzI (k := 2) (h := 11) (T0 := 22) (T := 3) (ex0 := true) (n := ((lkT a k).length)) (L := (lkT a k)) (hn := by rfl)) ?_
  refine wp_ret' ?_
  exact ⟨_, weak_id, trivial, vo_eq 2 (.a (.slvv 1 (vwI (lkT a k)))) (.a (.slvv 1 (vwI (lkM a)))) (by kernel_rfl) (congrArg (fun z => B.a (.slvv 1 (vwI z))) (by exact lkT_end (by omega)))⟩

set_option maxHeartbeats 4000000 in
set_option maxRecDepth 100000 in
theorem impl_FlipNeighbors_fn (l : List Int) (q : List Dom) (hl : l.length ≤ 4194304) (hq : q.length ≤ 4194304) : FnO Try.prog 21 [.agg [(.sl 800 0 l.length : A)], .a (.sl 801 0 q.length)] [(.o 800, some (.o ⟨3, 1, true, pl (isl l)⟩)), (.o 801, some (.o ⟨57, 3, true, pl (dsl q)⟩))] (V.b (.a (.sl 900 0 ((fnR l q).length)))) [(.o 800, some (.o ⟨3, 1, true, pl (isl l)⟩)), (.o 801, some (.o ⟨57, 3, true, pl (dsl q)⟩)), (.o 900, some (.o ⟨3, 1, true, pl (isl (fnR l q))⟩))] [800, 801] := by
 have hll := ltR_len l
 have hlr : ∀ k, k < (ltR l).length → (gLd (ltR l) k).length ≤ 4194304 := fun k hk => Nat.le_trans (ltR_row hk) (by decide)
 have hl64 : ∀ k, k < (ltR l).length → (gLd (ltR l) k).length ≤ 64 := fun k hk => Nat.le_trans (ltR_row hk) (by decide)
 have hA := FlipA.of l
 refine fn_introO (N := 46) Try.func21 rfl (by kernel_rfl) rfl (Nat.le_of_ble_eq_true rfl) rfl rfl (by kernel_rfl) (by kernel_rfl) ⟨oc_pl (fun _ => rfl), oc_pl (fun _ => rfl), trivial⟩ [2, 9, 14, 17, 20, 22, 23, 31, 36, 39, 43, 46, 47, 48, 49] (retO1 rfl) (fun W own kp im0 => ?_)
 show Wp _ _ _ [kV 0 (V.b (.agg [(.sl 800 0 l.length : A)])), kS 1 801 0 q.length, kO 800 3 1 true (pl (isl l)), kO 801 57 3 true (pl (dsl q)), kF 2, kF 9, kF 14, kF 17, kF 20, kF 22, kF 23, kF 31, kF 36, kF 39, kF 43, kF 46, kF 47, kF 48, kF 49]
 refine sq (rg ?_)
 refine z ?_ (h := fun ν => acts_box (h := 2) ν xt (by exact ob1 rfl))
 refine zk (nl (sq (rg ?_)))
 refine z ?_ (h := fun ν => acts_load_owns (xs := [(.sl 800 0 l.length : A)]) ν qE8_ti_28 rfl (by decide) rfl)
 refine z ?_ (h := fun ν => acts_callO (d := 14) (f := 9) (os := [(.o 800, some (.o ⟨3, 1, true, pl (isl l)⟩))]) (os' := [(.o 800, some (.o ⟨3, 1, true, pl (isl l)⟩)), (.o 9, some (.o ⟨38, 1, true, rwD 57 (ltR l)⟩))]) (r := V.b (.a (.sl 9 0 ((ltR l).length)))) (bs := [.agg [(.sl 800 0 l.length : A)]]) (keep := [800]) (new := [9]) (dead := []) ν (FnO.ren' (impl_ListTilings_fn l (by first | omega | assumption)) (subst1 [(900, 9)]) rfl rfl (by kernel_rfl) (by kernel_rfl) ⟨oc_pl (fun _ => rfl), oc_rwD, trivial⟩ (by kernel_rfl) rfl (by simp only [renS, Ob.ren, pl_ren, rws_ren_doms, rws_ren_ints, rws_ren_cels, rwI_ren, rwD_ren]; first | done | rfl) (by simp only [renS, Ob.ren, pl_ren, rws_ren_doms, rws_ren_ints, rws_ren_cels, rwI_ren, rwD_ren]; first | done | rfl) rfl rfl) (by kernel_rfl) ⟨oc_pl (fun _ => rfl), oc_rwD, trivial⟩ (by kernel_rfl) (ArgOs.cons (ArgO.slot 13 (.agg [(.sl 800 0 l.length : A)])) (ArgOs.nil)))
 refine za (nl (sq (rg (zm (zm ?_)))))
 refine z ?_ (h := fun ν => acts_call1 ν (impl_indexIn_fn (ltR l) q (by first | omega | assumption) (by first | omega | assumption) (by first | omega | assumption)) (ac (dvD (L := (ltR l))) (ac (argv_own (by first | exact dsl_len _ | (simp [isl_len, bsl_len, dsl_len, csl_len]; done) | (simp [isl_len, bsl_len, dsl_len, csl_len]; omega))) an)) rv)
 refine za (nl (sq (sq (rg (zm ?_)))))
 refine z ?_ (h := fun ν => acts_bin ν vt vc (r_lss rfl))
 refine nl ?_
 refine wi (fun c1 => ?_) (fun c1 => ?_)
 ·skip
  have c1P := of_decide_eq_true c1
  have hno := fnR_no (l := l) (q := q) (by omega)
  refine sq (rg (zk (nl ?_)))
  refine wp_weak (wnI (k := 4) (h := 14) (T := 3) (by kernel_rfl) (by kernel_rfl)) ?_
  refine wp_ret' ?_
  exact ⟨[kS 4 900 0 0, kO 800 3 1 true (pl (isl l)), kO 801 57 3 true (pl (dsl q)), kO 900 3 1 true (pl (isl [])), kF 2, kF 9, kF 14, kF 17, kF 20, kF 22, kF 23, kF 31, kF 36, kF 39, kF 43, kF 46, kF 47, kF 48, kF 49], wkf (subst1 [(900, 14)]) (wS <| wP <| wP <| wP <| by (iterate 15 refine wF ?_); exact wN), ⟨by kernel_rfl, by kernel_rfl, obj_eq (c := pl (isl [])) (by kernel_rfl) (congrArg (fun z => pl (isl z)) (by rw [hno])), trivial⟩, vo_eq 4 (.a (.sl 900 0 0)) (.a (.sl 900 0 ((fnR l q).length))) (by kernel_rfl) (congrArg (fun z : Nat => B.a (.sl 900 0 z)) (by rw [hno]; rfl))⟩
 ·skip
  have c1P := of_decide_eq_false c1
  have hyes := fnR_yes (l := l) (q := q) (by omega)
  obtain ⟨hin, hat, hlt⟩ := ix_in (l := l) (q := q) (by omega)
  have hfl := flips_len q
  have hq64 : q.length ≤ 64 := by have := hl64 _ hlt; rw [hat] at this; exact this
  refine sk (sq (rg ?_))
  refine z ?_ (h := fun ν => b0I (h := 20) ν qE8_un_22 qE8_zi_3)
  refine za (nl (sq (sq (rg (zm ?_)))))
  refine z ?_ (h := fun ν => acts_call1 ν (impl_FlipsOf_fn q (by first | omega | assumption)) (ac (argv_own (by first | exact dsl_len _ | (simp [isl_len, bsl_len, dsl_len, csl_len]; done) | (simp [isl_len, bsl_len, dsl_len, csl_len]; omega))) an) (ResV.row _ _ _ _ 22))
  refine z ?_ (h := fun ν => lnS ν qE8_un_64)
  refine z ?_ (h := fun ν => mc ν)
  refine nl (bkk ?_)
  refine wp_loop' (fun (k : Nat) => k ≤ (flipsOf q).length) (fun (k : Nat) => [kS 1 801 0 q.length, kS 5 9 0 ((ltR l).length), kS 7 20 0 ((srt ((nbI (ltR l) q).take k)).length), kS 22 22 0 ((flipsOf q).length), kI 23 (((flipsOf q).length : Nat) : Int), kI 24 ((k : Nat) : Int), kO 9 38 1 true (rwD 57 (ltR l)), kO 20 3 1 true (pl (isl (srt ((nbI (ltR l) q).take k)))), kO 22 67 2 true (pl (csl (flipsOf q))), kO 800 3 1 true (pl (isl l)), kO 801 57 3 true (pl (dsl q)), kF 2, kF 14, kF 17, kF 23, kF 31, kF 36, kF 39, kF 43, kF 46, kF 47, kF 48, kF 49]) (fun (k : Nat) => (flipsOf q).length - k) ((0 : Nat)) (by exact (Nat.zero_le _ : 0 ≤ _)) (wkf id (wS <| wS <| wE (e := (vsl (by first | rfl | (simp; done) | (simp; omega) | omega | (exact congrArg List.length (by first | rfl | omega | exact hsn | exact hsn.symm | (simp [srt]; done)))) rfl)) <| wS <| wS <| wE (e := (vint (by first | rfl | omega | exact hsn | exact hsn.symm | (simp [srt]; done)))) <| wQD <| wO (e := renob_eq (fun h => h) (congrArg isl (by first | rfl | omega | exact hsn | exact hsn.symm | (simp [srt]; done)))) <| wP <| wP <| wP <| by (iterate 12 refine wF ?_); exact wN)) ?_
  rintro k inv2
  replace inv2 : k ≤ (flipsOf q).length := inv2
  have invk := inv2
  have hsl := srt_len ((nbI (ltR l) q).take k)
  rw [List.length_take, nbI_len] at hsl
  refine sq (rg ?_)
  refine z ?_ (h := fun ν => acts_bin ν vt vt (r_lss rfl))
  refine nl (sq ?_)
  refine wi (fun c3 => ?_) (fun c3 => ?_)
  ·skip
   have c3P := of_decide_eq_true c3
   have hnew := nb_new hA hin (k := k) (by omega)
   have hfa := flipAt_len q (gC (flipsOf q) k)
   have hsn := srt_snoc (nbI (ltR l) q) k (by rw [nbI_len]; omega)
   rw [nbI_at (by omega)] at hsn
   refine sk (sq (bkk (sq (rg ?_))))
   refine z ?_ (h := fun ν => ix0 ν qE8_un_64 qE8_sz_67 vt (hlt := (by first | omega | assumption)))
   refine z ?_ (h := fun ν => lC ν qE8_ti_67 (by first | omega | assumption))
   refine z ?_ (h := fun ν => acts_alloc' (h := 2) (cap := 1) (s := 2) (cells := [aI 0, aI 0]) ν qE8_zi_67 rfl rfl (by decide))
   refine z ?_ (h := fun _ => acts_store (cells := [aI ((gC (flipsOf q) k).x), aI ((gC (flipsOf q) k).y)]) qE8_ti_67 xt (by exact rfl) (by decide) (by exact ob1 rfl) (by exact Nat.le_of_ble_eq_true rfl) (by exact rfl))
   refine nl (sq (rg (zm ?_)))
   refine z ?_ (h := fun ν => acts_load_owns (xs := [vI ((gC (flipsOf q) k).x), vI ((gC (flipsOf q) k).y)].map A.val) ν qE8_ti_67 rfl (by decide) rfl)
   refine z ?_ (h := fun ν => acts_call2 ν (impl_FlipAt_fn q (gC (flipsOf q) k) (by first | omega | assumption)) (ac (argv_own (by first | exact dsl_len _ | (simp [isl_len, bsl_len, dsl_len, csl_len]; done) | (simp [isl_len, bsl_len, dsl_len, csl_len]; omega))) (ac (ArgV.va va) an)) (ResV.row _ _ _ _ 31) rv)
   refine zm ?_
   refine z ?_ (h := fun ν => acts_extract ν (by exact rfl))
   refine z ?_ (h := fun ν => acts_extract ν (by exact rfl))
   refine za (za (nl (sq (rg (zm (zm ?_))))))
   refine z ?_ (h := fun ν => acts_call1 ν (impl_indexIn_fn (ltR l) (flipAt q (gC (flipsOf q) k)) (by first | omega | assumption) (by first | omega | assumption) (by first | omega | assumption)) (ac (dvD (L := (ltR l))) (ac (argv_own (by first | exact dsl_len _ | (simp [isl_len, bsl_len, dsl_len, csl_len]; done) | (simp [isl_len, bsl_len, dsl_len, csl_len]; omega))) an)) rv)
   refine za (nl (sq (rg (zm (zm ?_)))))
   refine z ?_ (h := fun ν => acts_call1 ν (impl_indexOf_fn (srt ((nbI (ltR l) q).take k)) (ixT (ltR l) (flipAt q (gC (flipsOf q) k))) (by first | omega | assumption)) (ac (argv_own (by first | exact isl_len _ | (simp [isl_len, bsl_len, dsl_len, csl_len]; done) | (simp [isl_len, bsl_len, dsl_len, csl_len]; omega))) (ac (ArgV.v vt) an)) rv)
   refine z ?_ (h := fun ν => acts_bin ν vt vc (r_lss (c := true) hnew))
   refine nl (wt (rg (zm (zm ?_))))
   refine z ?_ (h := fun ν => acts_call1 ν (impl_put_fn (srt ((nbI (ltR l) q).take k)) (ixT (ltR l) (flipAt q (gC (flipsOf q) k))) (by first | omega | assumption)) (ac (argv_own (by first | exact isl_len _ | (simp [isl_len, bsl_len, dsl_len, csl_len]; done) | (simp [isl_len, bsl_len, dsl_len, csl_len]; omega))) (ac (ArgV.v vt) an)) (ResV.row _ _ _ _ 43))
   refine za (nl (rg ?_))
   refine z ?_ (h := fun ν => acts_bin ν vt vc (rA (by first | omega | assumption) (by first | omega | assumption)))
   refine zm (nl ?_)
   exact loop_back ((k + 1)) (by show _ ≤ _; omega) (by show (flipsOf q).length - (k + 1) < (flipsOf q).length - k; omega) (wkf (subst1 [(20, 43)]) (wS <| wS <| wE (e := (vsl (by first | rfl | (simp; done) | (simp; omega) | omega | (exact congrArg List.length (by first | rfl | omega | exact hsn | exact hsn.symm | (simp [srt]; done)))) rfl)) <| wS <| wS <| wE (e := (vint (by first | rfl | omega | exact hsn | exact hsn.symm | (simp [srt]; done)))) <| wQD <| wO (e := renob_eq (fun h => h) (congrArg isl (by first | rfl | omega | exact hsn | exact hsn.symm | (simp [srt]; done)))) <| wP <| wP <| wP <| by (iterate 12 refine wF ?_); exact wN))
  ·skip
   have c3P := of_decide_eq_false c3
   refine wp_exit' (sq (rg (zm (za (nl (wp_ret' ?_))))))
   exact ⟨[kS 4 900 0 ((srt ((nbI (ltR l) q).take k)).length), kO 800 3 1 true (pl (isl l)), kO 801 57 3 true (pl (dsl q)), kO 900 3 1 true (pl (isl (srt ((nbI (ltR l) q).take k)))), kF 2, kF 9, kF 14, kF 17, kF 20, kF 22, kF 23, kF 31, kF 36, kF 39, kF 43, kF 46, kF 47, kF 48, kF 49], wkf (subst1 [(900, 20)]) (wS <| wP <| wP <| wP <| by (iterate 15 refine wF ?_); exact wN), ⟨by kernel_rfl, by kernel_rfl, obj_eq (c := pl (isl (srt ((nbI (ltR l) q).take k)))) (by kernel_rfl) (congrArg (fun z => pl (isl z)) (by (rw [hyes, List.take_of_length_le (by rw [nbI_len]; omega)]))), trivial⟩, vo_eq 4 (.a (.sl 900 0 ((srt ((nbI (ltR l) q).take k)).length))) (.a (.sl 900 0 ((fnR l q).length))) (by kernel_rfl) (congrArg (fun z : Nat => B.a (.sl 900 0 z)) (by (rw [hyes, List.take_of_length_le (by rw [nbI_len]; omega)])))⟩

set_option maxHeartbeats 4000000 in
set_option maxRecDepth 100000 in
theorem spec_FlipNeighbors_fn (l : List Int) (q : List Dom) (hl : l.length ≤ 4194304) (hq : q.length ≤ 4194304) : FnO Try.prog 20 [.agg [(.sl 800 0 l.length : A)], .a (.sl 801 0 q.length)] [(.o 800, some (.o ⟨3, 1, true, pl (isl l)⟩)), (.o 801, some (.o ⟨57, 3, true, pl (dsl q)⟩))] (V.b (.a (.sl 900 0 ((fnR l q).length)))) [(.o 800, some (.o ⟨3, 1, true, pl (isl l)⟩)), (.o 801, some (.o ⟨57, 3, true, pl (dsl q)⟩)), (.o 900, some (.o ⟨3, 1, true, pl (isl (fnR l q))⟩))] [800, 801] := by
 have hll := ltR_len l
 have hlr : ∀ k, k < (ltR l).length → (gLd (ltR l) k).length ≤ 4194304 := fun k hk => Nat.le_trans (ltR_row hk) (by decide)
 have hl64 : ∀ k, k < (ltR l).length → (gLd (ltR l) k).length ≤ 64 := fun k hk => Nat.le_trans (ltR_row hk) (by decide)
 have hA := FlipA.of l
 have hml := lkM_len (ltR l)
 refine fn_introO (N := 63) Try.func20 rfl (by kernel_rfl) rfl (Nat.le_of_ble_eq_true rfl) rfl rfl (by kernel_rfl) (by kernel_rfl) ⟨oc_pl (fun _ => rfl), oc_pl (fun _ => rfl), trivial⟩ [2, 13, 16, 18, 19, 23, 25, 28, 63, 64, 65, 66] (retO1 rfl) (fun W own kp im0 => ?_)
 show Wp _ _ _ [kV 0 (V.b (.agg [(.sl 800 0 l.length : A)])), kS 1 801 0 q.length, kO 800 3 1 true (pl (isl l)), kO 801 57 3 true (pl (dsl q)), kF 2, kF 13, kF 16, kF 18, kF 19, kF 23, kF 25, kF 28, kF 63, kF 64, kF 65, kF 66]
 refine sq (rg ?_)
 refine z ?_ (h := fun ν => acts_box (h := 2) ν xt (by exact ob1 rfl))
 refine zk (nl (sq (rg ?_)))
 refine z ?_ (h := fun ν => acts_load_owns (xs := [(.sl 800 0 l.length : A)]) ν qE8_ti_28 rfl (by decide) rfl)
 refine zm ?_
 refine z ?_ (h := fun ν => acts_callO (d := 13) (f := 16) (os := [(.o 800, some (.o ⟨3, 1, true, pl (isl l)⟩)), (.o 801, some (.o ⟨57, 3, true, pl (dsl q)⟩))]) (os' := [(.o 800, some (.o ⟨3, 1, true, pl (isl l)⟩)), (.o 801, some (.o ⟨57, 3, true, pl (dsl q)⟩))]) (r := V.v (.int .i64 (ixT (ltR l) q))) (bs := [.agg [(.sl 800 0 l.length : A)], .a (.sl 801 0 q.length)]) (keep := [800, 801]) (new := []) (dead := []) ν ((spec_IndexOf_fn l q (by first | omega | assumption | exact hl64 _ (by assumption) | (simp only [List.length_set]; omega) | (rw [insJ_len (by omega) (by omega)]; omega)) (by first | omega | assumption | exact hl64 _ (by assumption) | (simp only [List.length_set]; omega) | (rw [insJ_len (by omega) (by omega)]; omega)))) (by kernel_rfl) ⟨oc_pl (fun _ => rfl), oc_pl (fun _ => rfl), trivial⟩ (by kernel_rfl) (ArgOs.cons (ArgO.slot 11 (.agg [(.sl 800 0 l.length : A)])) (ArgOs.cons (ArgO.slot 12 (.a (.sl 801 0 q.length))) (ArgOs.nil))))
 refine za (nl (sq (sq (rg (zm ?_)))))
 refine z ?_ (h := fun ν => acts_bin ν vt vc (r_lss rfl))
 refine nl ?_
 refine wi (fun c1 => ?_) (fun c1 => ?_)
 ·skip
  have c1P := of_decide_eq_true c1
  have hno := fnR_no (l := l) (q := q) (by omega)
  refine sq (rg ?_)
  refine z ?_ (h := fun ν => b0I (h := 16) ν qE8_un_22 qE8_zi_3)
  refine za (nl (wp_ret' ?_))
  exact ⟨[kS 4 900 0 0, kO 800 3 1 true (pl (isl l)), kO 801 57 3 true (pl (dsl q)), kO 900 3 1 true (pl (isl [])), kF 2, kF 13, kF 16, kF 18, kF 19, kF 23, kF 25, kF 28, kF 63, kF 64, kF 65, kF 66], wkf (subst1 [(900, 16)]) (wS <| wP <| wP <| wP <| by (iterate 12 refine wF ?_); exact wN), ⟨by kernel_rfl, by kernel_rfl, obj_eq (c := pl (isl [])) (by kernel_rfl) (congrArg (fun z => pl (isl z)) (by exact hno.symm)), trivial⟩, vo_eq 4 (.a (.sl 900 0 0)) (.a (.sl 900 0 ((fnR l q).length))) (by kernel_rfl) (congrArg (fun z : Nat => B.a (.sl 900 0 z)) (by rw [hno]; rfl))⟩
 ·skip
  have c1P := of_decide_eq_false c1
  have hyes := fnR_yes (l := l) (q := q) (by omega)
  obtain ⟨hin, hat, hlt⟩ := ix_in (l := l) (q := q) (by omega)
  have hfl := flips_len q
  have hlx := lkM_ix (l := l) (q := q) (by omega)
  have hrl : (gLs (lkM (ltR l)) (ixT (ltR l) q).toNat).length = (flipsOf q).length := by rw [hlx, nbI_len]
  have hnl := nbI_len (ltR l) q
  refine sk (sq (rg ?_))
  refine z ?_ (h := fun ν => acts_load_owns (xs := [(.sl 800 0 l.length : A)]) ν qE8_ti_28 rfl (by decide) rfl)
  refine z ?_ (h := fun ν => acts_callO (d := 18) (f := 7) (os := [(.o 800, some (.o ⟨3, 1, true, pl (isl l)⟩))]) (os' := [(.o 800, some (.o ⟨3, 1, true, pl (isl l)⟩))]) (r := V.b (.a (.slvv 3 (vwD (ltR l))))) (bs := [.agg [(.sl 800 0 l.length : A)]]) (keep := [800]) (new := []) (dead := []) ν ((spec_ListTilings_fn l (by first | omega | assumption | exact hl64 _ (by assumption) | (simp only [List.length_set]; omega) | (rw [insJ_len (by omega) (by omega)]; omega)))) (by kernel_rfl) ⟨oc_pl (fun _ => rfl), trivial⟩ (by kernel_rfl) (ArgOs.cons (ArgO.slot 17 (.agg [(.sl 800 0 l.length : A)])) (ArgOs.nil)))
  refine z ?_ (h := fun ν => acts_callO (d := 19) (f := 42) (os := []) (os' := []) (r := V.b (.a (.slvv 1 (vwI (lkM (ltR l)))))) (bs := [.a (.slvv 3 (vwD (ltR l)))]) (keep := []) (new := []) (dead := []) ν ((spec_l12Links_fn (ltR l) (by first | omega | assumption | exact hl64 _ (by assumption) | (simp only [List.length_set]; omega) | (rw [insJ_len (by omega) (by omega)]; omega)) (by first | omega | assumption | exact hl64 _ (by assumption) | (simp only [List.length_set]; omega) | (rw [insJ_len (by omega) (by omega)]; omega)))) (by kernel_rfl) trivial (by kernel_rfl) (ArgOs.cons (ArgO.slot 18 (.a (.slvv 3 (vwD (ltR l))))) (ArgOs.nil)))
  refine zm ?_
  refine z ?_ (h := fun ν => xvv (k := (ixT (ltR l) q).toNat) ν qE8_un_62 qE8_sz_22 vt (Int.toNat_of_nonneg (by first | omega | assumption | exact hl64 _ (by assumption) | (simp only [List.length_set]; omega) | (rw [insJ_len (by omega) (by omega)]; omega))).symm (hlt := (by simp only [vwI_len, vwD_len]; first | omega | assumption | exact hl64 _ (by assumption) | (simp only [List.length_set]; omega) | (rw [insJ_len (by omega) (by omega)]; omega))))
  refine z ?_ (h := fun ν => lvI ν qE8_ti_22 (by first | omega | assumption | exact hl64 _ (by assumption) | (simp only [List.length_set]; omega) | (rw [insJ_len (by omega) (by omega)]; omega)))
  refine za (nl (sq (rg ?_)))
  refine z ?_ (h := fun ν => b0I (h := 23) ν qE8_un_22 qE8_zi_3)
  refine zm ?_
  refine z ?_ (h := fun ν => acts_app (h2 := 25) (m := ((gLs (lkM (ltR l)) ((ixT (ltR l) q).toNat)).length)) (nm := ((gLs (lkM (ltR l)) ((ixT (ltR l) q).toNat)).length)) (X := .slv ((gLs (lkM (ltR l)) ((ixT (ltR l) q).toNat)).length) 1 (isl (gLs (lkM (ltR l)) ((ixT (ltR l) q).toNat)))) (xs := isl []) (ys := isl (gLs (lkM (ltR l)) ((ixT (ltR l) q).toNat))) (zs := isl (gLs (lkM (ltR l)) ((ixT (ltR l) q).toNat))) ν qE8_un_22 qE8_zi_3 rfl (by decide) (by decide) (by first | exact isl_len _ | (simp [isl_len, bsl_len, dsl_len, csl_len]; done) | (simp [isl_len, bsl_len, dsl_len, csl_len]; omega)) xt (Src.slv _ _ _) (isl_one' _) (by first | omega | (simp; omega) | (simp at *; omega)) (by first | exact (isl_append _ _).symm | rfl | simp [isl_append]) (by first | rfl | (simp; done) | (simp; omega) | omega))
  refine za (nl (sq (sq (rg (zk (nl (bkk ?_)))))))
  refine wp_loop' (fun ((i, L) : Nat × (List Int)) => 1 ≤ i ∧ L.Perm (nbI (ltR l) q) ∧ LE (L.take i) ∧ i ≤ L.length + 1) (fun ((i, L) : Nat × (List Int)) => [kS 7 25 0 L.length, kI 8 ((i : Nat) : Int), kO 25 3 1 true (pl (isl L)), kO 800 3 1 true (pl (isl l)), kO 801 57 3 true (pl (dsl q)), kF 2, kF 13, kF 16, kF 18, kF 19, kF 28, kF 63, kF 64, kF 65, kF 66]) (fun ((i, L) : Nat × (List Int)) => L.length + 1 - i) ((1 : Nat), ((nbI (ltR l) q) : List Int)) (by exact ⟨Nat.le_refl _, List.Perm.refl _, LE_one _, by omega⟩) (wkf id (wE (e := (vsl (by first | rfl | (simp; done) | (simp; omega) | omega | (exact congrArg List.length (by first | rfl | omega | exact hlx | exact hlx.symm | (simp [hlx]; done)))) rfl)) <| wE (e := (vint (by first | rfl | omega | exact hlx | exact hlx.symm | (simp [hlx]; done)))) <| wO (e := renob_eq (fun h => h) (congrArg isl (by first | rfl | omega | exact hlx | exact hlx.symm | (simp [hlx]; done)))) <| wP <| wP <| by (iterate 10 refine wF ?_); exact wN)) ?_
  rintro ⟨i, L⟩ inv2
  replace inv2 : 1 ≤ i ∧ L.Perm (nbI (ltR l) q) ∧ LE (L.take i) ∧ i ≤ L.length + 1 := inv2
  obtain ⟨hi1, hpm, hle, hil⟩ := inv2
  have hpl := hpm.length_eq
  refine sq (sq (rg (zm (zm ?_))))
  refine z ?_ (h := fun ν => lnS ν qE8_un_22)
  refine z ?_ (h := fun ν => acts_bin ν vt vt (r_lss rfl))
  refine nl ?_
  refine wi (fun c3 => ?_) (fun c3 => ?_)
  ·skip
   have c3P := of_decide_eq_true c3
   refine sk (sq (bkk (sq (rg (zm (zm ?_))))))
   refine z ?_ (h := fun ν => ix0 ν qE8_un_22 qE8_sz_3 vt (hlt := (by first | omega | assumption | exact hl64 _ (by assumption) | (simp only [List.length_set]; omega) | (rw [insJ_len (by omega) (by omega)]; omega))))
   refine z ?_ (h := fun ν => lI ν qE8_ti_3 (by first | omega | assumption | exact hl64 _ (by assumption) | (simp only [List.length_set]; omega) | (rw [insJ_len (by omega) (by omega)]; omega)))
   refine za (nl (sq (rg (zm (za (nl (sq (bkk ?_))))))))
   refine wp_loop' (fun (j : Nat) => j ≤ i ∧ ∀ k, j ≤ k → k < i → gI L i < gI L k) (fun (j : Nat) => [kS 7 25 0 ((insJ L i j).length), kI 8 ((i : Nat) : Int), kI 9 (gI L i), kI 10 ((j : Nat) : Int), kO 25 3 1 true (pl (isl (insJ L i j))), kO 800 3 1 true (pl (isl l)), kO 801 57 3 true (pl (dsl q)), kF 2, kF 13, kF 16, kF 18, kF 19, kF 28, kF 63, kF 64, kF 65, kF 66]) (fun (j : Nat) => j) ((i : Nat)) (by exact ⟨Nat.le_refl _, fun k h1 h2 => absurd h1 (by omega)⟩) (wkf id (wE (e := (vsl (by first | rfl | (simp; done) | (simp; omega) | omega | (exact congrArg List.length (by first | rfl | omega | exact insJ_start | exact insJ_start.symm | exact insJ_back (by omega) (by omega) (by omega) | exact Eq.symm (insJ_back (by omega) (by omega) (by omega))))) rfl)) <| wS <| wS <| wS <| wO (e := renob_eq (fun h => h) (congrArg isl (by first | rfl | omega | exact insJ_start | exact insJ_start.symm | exact insJ_back (by omega) (by omega) (by omega) | exact Eq.symm (insJ_back (by omega) (by omega) (by omega))))) <| wP <| wP <| by (iterate 10 refine wF ?_); exact wN)) ?_
   rintro j inv4
   replace inv4 : j ≤ i ∧ ∀ k, j ≤ k → k < i → gI L i < gI L k := inv4
   obtain ⟨hji, hjg⟩ := inv4
   have hjl := insJ_len (L := L) (i := i) (j := j) (by omega) hji
   refine sq (sq ?_)
   rcases Bool.eq_false_or_eq_true (decide (0 < ((j : Nat) : Int))) with c5 | c5
   ·skip
    have c5P := of_decide_eq_true c5
    have hgt := insJ_gt (L := L) (i := i) (j := j) (by omega) (by omega) (by omega)
    have hjl2 := insJ_len (L := L) (i := i) (j := j - 1) (by omega) (by omega)
    refine rg (zm ?_)
    refine z ?_ (h := fun ν => acts_bin ν vt vc (r_gtr (c := true) c5))
    refine zm ?_
    refine zg ?_ (h := fun ν => step_on rfl rfl (mt ν))
    refine zg ?_ (h := fun ν => step_on rfl rfl (mt ν))
    refine zg ?_ (h := fun ν => step_on rfl rfl (acts_bin ν vt vc (rS (by first | omega | assumption | exact hl64 _ (by assumption) | (simp only [List.length_set]; omega) | (rw [insJ_len (by omega) (by omega)]; omega)) (by first | omega | assumption | exact hl64 _ (by assumption) | (simp only [List.length_set]; omega) | (rw [insJ_len (by omega) (by omega)]; omega)))))
    refine zg ?_ (h := fun ν => step_on rfl rfl (ix0 (k := (((j : Nat) : Int) - 1).toNat) ν qE8_un_22 qE8_sz_3 vt (Int.toNat_of_nonneg (by first | omega | assumption | exact hl64 _ (by assumption) | (simp only [List.length_set]; omega) | (rw [insJ_len (by omega) (by omega)]; omega))).symm (by first | omega | assumption | exact hl64 _ (by assumption) | (simp only [List.length_set]; omega) | (rw [insJ_len (by omega) (by omega)]; omega))))
    refine zg ?_ (h := fun ν => step_on rfl rfl (lI ν qE8_ti_3 (by first | omega | assumption | exact hl64 _ (by assumption) | (simp only [List.length_set]; omega) | (rw [insJ_len (by omega) (by omega)]; omega))))
    refine zg ?_ (h := fun ν => step_on rfl rfl (mt ν))
    refine zg ?_ (h := fun ν => step_on rfl rfl (acts_bin ν vt vt (r_gtr rfl)))
    refine z ?_ (h := fun ν => acts_pick_t ν vt xt)
    refine nl ?_
    refine wi (fun c6 => ?_) (fun c6 => ?_)
    ·skip
     have c6P := of_decide_eq_true c6
     have hgq : gI L i < gI L (j - 1) := by omega
     refine sk (bkk (sq (rg (zm (zm (zm (zm ?_)))))))
     refine z ?_ (h := fun ν => acts_bin ν vt vc (rS (by first | omega | assumption | exact hl64 _ (by assumption) | (simp only [List.length_set]; omega) | (rw [insJ_len (by omega) (by omega)]; omega)) (by first | omega | assumption | exact hl64 _ (by assumption) | (simp only [List.length_set]; omega) | (rw [insJ_len (by omega) (by omega)]; omega))))
     refine z ?_ (h := fun ν => ix0 (k := (((j : Nat) : Int) - 1).toNat) ν qE8_un_22 qE8_sz_3 vt (Int.toNat_of_nonneg (by first | omega | assumption | exact hl64 _ (by assumption) | (simp only [List.length_set]; omega) | (rw [insJ_len (by omega) (by omega)]; omega))).symm (by first | omega | assumption | exact hl64 _ (by assumption) | (simp only [List.length_set]; omega) | (rw [insJ_len (by omega) (by omega)]; omega)))
     refine z ?_ (h := fun ν => lI ν qE8_ti_3 (by first | omega | assumption | exact hl64 _ (by assumption) | (simp only [List.length_set]; omega) | (rw [insJ_len (by omega) (by omega)]; omega)))
     refine z ?_ (h := fun ν => ix0 ν qE8_un_22 qE8_sz_3 vt (hlt := (by first | omega | assumption | exact hl64 _ (by assumption) | (simp only [List.length_set]; omega) | (rw [insJ_len (by omega) (by omega)]; omega))))
     refine z ?_ (h := fun _ => sI qE8_ti_3 xt (by first | omega | assumption | exact hl64 _ (by assumption) | (simp only [List.length_set]; omega) | (rw [insJ_len (by omega) (by omega)]; omega)))
     refine nl (rg (zm ?_))
     refine z ?_ (h := fun ν => acts_bin ν vt vc (rS (by first | omega | assumption | exact hl64 _ (by assumption) | (simp only [List.length_set]; omega) | (rw [insJ_len (by omega) (by omega)]; omega)) (by first | omega | assumption | exact hl64 _ (by assumption) | (simp only [List.length_set]; omega) | (rw [insJ_len (by omega) (by omega)]; omega))))
     refine za (nl ?_)
     exact Exists.intro ((j - 1)) (And.intro (by exact ⟨by omega, ins_more hjg hgq⟩) (And.intro (by show j - 1 < j; omega) (wkf id (wE (e := (vsl (by first | rfl | (simp; done) | (simp; omega) | omega | (exact congrArg List.length (by first | rfl | omega | exact insJ_start | exact insJ_start.symm | exact insJ_back (by omega) (by omega) (by omega) | exact Eq.symm (insJ_back (by omega) (by omega) (by omega))))) rfl)) <| wS <| wS <| wE (e := (vint (by first | rfl | omega | exact insJ_start | exact insJ_start.symm | exact insJ_back (by omega) (by omega) (by omega) | exact Eq.symm (insJ_back (by omega) (by omega) (by omega))))) <| wO (e := renob_eq (fun h => h) (congrArg isl (by first | rfl | omega | exact insJ_start | exact insJ_start.symm | exact insJ_back (by omega) (by omega) (by omega) | exact Eq.symm (insJ_back (by omega) (by omega) (by omega))))) <| wP <| wP <| by (iterate 10 refine wF ?_); exact wN))))
    ·skip
     have c6P := of_decide_eq_false c6
     have hend : j = 0 ∨ ¬ gI L i < gI L (j - 1) := .inr (by omega)
     refine wp_exit' (rg (zm (zm (zm ?_))))
     refine z ?_ (h := fun ν => ix0 ν qE8_un_22 qE8_sz_3 vt (hlt := (by first | omega | assumption | exact hl64 _ (by assumption) | (simp only [List.length_set]; omega) | (rw [insJ_len (by omega) (by omega)]; omega))))
     refine z ?_ (h := fun _ => sI qE8_ti_3 xt (by first | omega | assumption | exact hl64 _ (by assumption) | (simp only [List.length_set]; omega) | (rw [insJ_len (by omega) (by omega)]; omega)))
     refine nl (rg (zm ?_))
     refine z ?_ (h := fun ν => acts_bin ν vt vc (rA (by first | omega | assumption | exact hl64 _ (by assumption) | (simp only [List.length_set]; omega) | (rw [insJ_len (by omega) (by omega)]; omega)) (by first | omega | assumption | exact hl64 _ (by assumption) | (simp only [List.length_set]; omega) | (rw [insJ_len (by omega) (by omega)]; omega))))
     refine za (nl ?_)
     exact loop_back ((i + 1), ((insJ L i j).set j (gI L i))) (by refine ⟨by omega, (insJ_perm (by omega) (by omega)).trans hpm, insJ_LE' (by omega) (by omega) hle (by assumption) (by assumption), ?_⟩; rw [List.length_set, insJ_len (by omega) (by omega)]; omega) (by show ((insJ L i j).set j (gI L i)).length + 1 - (i + 1) < L.length + 1 - i; rw [List.length_set, insJ_len (by omega) (by omega)]; omega) (wkf id (wE (e := (vsl (by first | rfl | (simp; done) | (simp; omega) | omega | (exact congrArg List.length (by first | rfl | omega | exact hlx | exact hlx.symm | (simp [hlx]; done)))) rfl)) <| wE (e := (vint (by first | rfl | omega | exact hlx | exact hlx.symm | (simp [hlx]; done)))) <| wP <| wP <| wP <| by (iterate 10 refine wF ?_); exact wN))
   ·skip
    have c5P := of_decide_eq_false c5
    have hend : j = 0 ∨ ¬ gI L i < gI L (j - 1) := .inl (by omega)
    refine rg (zm ?_)
    refine z ?_ (h := fun ν => acts_bin ν vt vc (r_gtr (c := false) c5))
    refine zm (zo (zo (zo (zo (zo (zo (zo ?_)))))))
    refine z ?_ (h := fun ν => acts_pick_f ν vt xc)
    refine nl (wf (wp_exit' (rg (zm (zm (zm ?_))))))
    refine z ?_ (h := fun ν => ix0 ν qE8_un_22 qE8_sz_3 vt (hlt := (by first | omega | assumption | exact hl64 _ (by assumption) | (simp only [List.length_set]; omega) | (rw [insJ_len (by omega) (by omega)]; omega))))
    refine z ?_ (h := fun _ => sI qE8_ti_3 xt (by first | omega | assumption | exact hl64 _ (by assumption) | (simp only [List.length_set]; omega) | (rw [insJ_len (by omega) (by omega)]; omega)))
    refine nl (rg (zm ?_))
    refine z ?_ (h := fun ν => acts_bin ν vt vc (rA (by first | omega | assumption | exact hl64 _ (by assumption) | (simp only [List.length_set]; omega) | (rw [insJ_len (by omega) (by omega)]; omega)) (by first | omega | assumption | exact hl64 _ (by assumption) | (simp only [List.length_set]; omega) | (rw [insJ_len (by omega) (by omega)]; omega))))
    refine za (nl ?_)
    exact loop_back ((i + 1), ((insJ L i j).set j (gI L i))) (by refine ⟨by omega, (insJ_perm (by omega) (by omega)).trans hpm, insJ_LE' (by omega) (by omega) hle (by assumption) (by assumption), ?_⟩; rw [List.length_set, insJ_len (by omega) (by omega)]; omega) (by show ((insJ L i j).set j (gI L i)).length + 1 - (i + 1) < L.length + 1 - i; rw [List.length_set, insJ_len (by omega) (by omega)]; omega) (wkf id (wE (e := (vsl (by first | rfl | (simp; done) | (simp; omega) | omega | (exact congrArg List.length (by first | rfl | omega | exact hlx | exact hlx.symm | (simp [hlx]; done)))) rfl)) <| wE (e := (vint (by first | rfl | omega | exact hlx | exact hlx.symm | (simp [hlx]; done)))) <| wP <| wP <| wP <| by (iterate 10 refine wF ?_); exact wN))
  ·skip
   have c3P := of_decide_eq_false c3
   refine wp_exit' (sq (rg (zm (za (nl (wp_ret' ?_))))))
   exact ⟨[kS 4 900 0 L.length, kO 800 3 1 true (pl (isl l)), kO 801 57 3 true (pl (dsl q)), kO 900 3 1 true (pl (isl L)), kF 2, kF 13, kF 16, kF 18, kF 19, kF 25, kF 28, kF 63, kF 64, kF 65, kF 66], wkf (subst1 [(900, 25)]) (wS <| wP <| wP <| wP <| by (iterate 11 refine wF ?_); exact wN), ⟨by kernel_rfl, by kernel_rfl, obj_eq (c := pl (isl L)) (by kernel_rfl) (congrArg (fun z => pl (isl z)) (by (rw [hyes]; exact ins_done hpm hle (by omega)))), trivial⟩, vo_eq 4 (.a (.sl 900 0 L.length)) (.a (.sl 900 0 ((fnR l q).length))) (by kernel_rfl) (congrArg (fun z : Nat => B.a (.sl 900 0 z)) (by (rw [hyes, ← ins_done hpm hle (by omega)])))⟩
end Cl
end Go.Proofs.Ytgmckbchcpfhcaa
