/- Walks over clean states, printed by wg.py. No statement is proved here. -/
import Derived.Test.YtgmkkfdnmdohlaaGreatDoorE5
import Derived.Test.YtgmkkfdnmdohlaaGreatDoorEA
import Derived.Test.YtgmkkfdnmdohlaaGreatDoorClB
set_option linter.unusedSimpArgs false
set_option linter.unusedVariables false
namespace Go.Proofs.YtgmkkfdnmdohlaaGreatDoor
namespace Cl
open Go.ChangeShapes Go.WideShapes Go.ChangeAt Go.RowKit
set_option maxRecDepth 20000
/-! a flip of a tiling is a tiling -/
theorem ord_ord {d : Dom} (h : okD d = true) : d.ord = ((ord d : Nat) : Int) := by rw [ord_val h]; unfold Dom.ord; omega
theorem okD_valid {d : Dom} (h : okD d = true) : d.valid := by have := okD_bd h; unfold Dom.valid; omega
theorem insD_perm {out : List Dom} {d : Dom} (h : ∀ e ∈ out, e.ord ≠ d.ord) : (insD out d).Perm (d :: out) := by
  unfold insD
  refine List.perm_middle.trans (List.Perm.cons _ ?_)
  induction out with
  | nil => exact List.Perm.nil
  | cons e out ih =>
    have hi := ih (fun x hx => h x (by simp [hx]))
    have he := h e (by simp)
    rw [List.filter_cons, List.filter_cons]
    rcases Int.lt_or_le e.ord d.ord with h1 | h1
    · rw [if_pos (decide_eq_true h1), if_neg (by simp; omega)]
      exact List.Perm.cons _ hi
    · rw [if_neg (by simp; omega), if_pos (decide_eq_true (by omega))]
      exact List.perm_middle.trans (List.Perm.cons _ hi)
theorem foldl_perm : ∀ (l out : List Dom), (∀ e ∈ l, okD e = true) → (∀ e ∈ out, okD e = true) → (l ++ out).Nodup → (l.foldl insD out).Perm (l ++ out) := by
  intro l
  induction l with
  | nil => intro out _ _ _; exact List.Perm.refl _
  | cons d l ih =>
    intro out hl ho hn
    have hd : d ∉ l ++ out := (List.nodup_cons.1 hn).1
    have hp : (insD out d).Perm (d :: out) := insD_perm (fun e he e' => by
      have h1 := ho e he; have h2 := hl d (by simp)
      rw [ord_ord h1, ord_ord h2] at e'
      have := ord_inj h1 h2 (Int.ofNat.inj e')
      exact hd (by rw [← this]; simp [he]))
    have hperm : (l ++ insD out d).Perm (d :: (l ++ out)) := (List.Perm.append_left l hp).trans List.perm_middle
    rw [List.foldl_cons]
    exact (ih (insD out d) (fun e he => hl e (by simp [he])) (fun e he => by
      rcases List.mem_cons.1 (hp.mem_iff.1 he) with rfl | h
      · exact hl _ (by simp)
      · exact ho e h) (hperm.symm.nodup hn)).trans hperm
theorem sortD_perm {l : List Dom} (hl : ∀ e ∈ l, okD e = true) (hn : l.Nodup) : (sortD l).Perm l := by
  unfold sortD sortBy
  rw [List.filter_eq_self.2 (show ∀ e ∈ l, Dom.ok e = true from fun e he => hl e he)]
  have := foldl_perm l [] hl (by simp) (by simpa using hn)
  simpa using this
theorem sortD_SO (l : List Dom) : SO (sortD l) := by
  have h := (sortBy_SS (ok := Dom.ok) (fun d hd => okD_valid hd) l).1
  have ho := sortBy_ok (ok := Dom.ok) l
  unfold SO
  refine List.Pairwise.imp_of_mem (fun {a b} ha hb hab => ?_) h
  rw [ord_ord (ho a ha), ord_ord (ho b hb)] at hab
  omega
theorem hasB_iff {l : List Dom} {x y : Int} {d : Bool} : hasB l x y d = true ↔ (⟨x, y, d⟩ : Dom) ∈ l := by unfold hasB; exact decide_eq_true_iff
theorem can_gone {P : List Dom} {c : Cel} (h : canB P c.x c.y = true) : pr0 c (!(acB P c.x c.y)) ∈ P ∧ pr1 c (!(acB P c.x c.y)) ∈ P := by
  unfold canB at h
  simp only [Bool.and_eq_true, Bool.or_eq_true] at h
  cases e : acB P c.x c.y
  · rw [e] at h
    have h2 : Go.Proofs.YtgmkkfdnmdohlaaGreatDoor.dnB P c.x c.y = true := h.2.resolve_left (by simp)
    unfold Go.Proofs.YtgmkkfdnmdohlaaGreatDoor.dnB at h2
    simp only [Bool.and_eq_true, hasB_iff] at h2
    exact h2
  · have e2 := e
    unfold acB at e2
    simp only [Bool.and_eq_true, hasB_iff] at e2
    exact e2
theorem pr_cin {c : Cel} (hb : 0 ≤ c.x ∧ c.x ≤ 6 ∧ 0 ≤ c.y ∧ c.y ≤ 6) (b : Bool) (i : Nat) : (if cin (pr0 c b) i = true then 1 else 0) + (if cin (pr1 c b) i = true then 1 else 0) = if i = idx c ∨ i = idx c + 1 ∨ i = idx c + 8 ∨ i = idx c + 9 then 1 else 0 := by
  have e0 : idx (ca (pr0 c b)) = idx c := by cases b <;> rfl
  have e1 : idx (cb (pr0 c b)) = if b then idx c + 8 else idx c + 1 := by unfold pr0 cb idx; cases b <;> simp <;> omega
  have e2 : idx (ca (pr1 c b)) = if b then idx c + 1 else idx c + 8 := by unfold pr1 ca idx; cases b <;> simp <;> omega
  have e3 : idx (cb (pr1 c b)) = idx c + 9 := by unfold pr1 cb idx; cases b <;> simp <;> omega
  unfold cin
  rw [e0, e1, e2, e3]
  simp only [Bool.or_eq_true, decide_eq_true_eq]
  cases b <;> simp only [if_true, if_false, Bool.false_eq_true] <;> (repeat' split) <;> omega
theorem pr_ok {c : Cel} (hb : 0 ≤ c.x ∧ c.x ≤ 6 ∧ 0 ≤ c.y ∧ c.y ≤ 6) (b : Bool) : okD (pr0 c b) = true ∧ okD (pr1 c b) = true := by
  unfold okD pr0 pr1
  cases b <;> exact ⟨okd_true.2 (by simp; omega), okd_true.2 (by simp; omega)⟩
theorem pr_ne (c : Cel) (b b' : Bool) : pr0 c b ≠ pr1 c b' := by
  unfold pr0 pr1; cases b <;> cases b' <;> simp <;> omega
theorem pr_ne0 (c : Cel) (b : Bool) : pr0 c b ≠ pr0 c (!b) ∧ pr1 c b ≠ pr1 c (!b) := by
  unfold pr0 pr1; cases b <;> simp
theorem kp_eq (g0 g1 z : Dom) : kp g0 g1 z = ((z != g0) && (z != g1)) := by
  unfold kp; rw [dEq_dom, dEq_dom, Bool.eq_iff_iff]; simp
theorem perm_out2 {P : List Dom} (hn : P.Nodup) {a b : Dom} (ha : a ∈ P) (hb : b ∈ P) (hab : a ≠ b) : P.Perm (a :: b :: P.filter (kp a b)) := by
  have h1 := List.perm_cons_erase ha
  have h2 : b ∈ P.erase a := (List.mem_erase_of_ne (fun e => hab e.symm)).2 hb
  have h3 := List.perm_cons_erase h2
  have e : (P.erase a).erase b = P.filter (kp a b) := by
    rw [(hn.erase a).erase_eq_filter, hn.erase_eq_filter, List.filter_filter]
    apply List.filter_congr
    intro z _
    rw [kp_eq, Bool.and_comm]
  rw [e] at h3
  exact h1.trans (List.Perm.cons _ h3)
theorem cvN_perm {P Q : List Dom} (h : P.Perm Q) (i : Nat) : cvN P i = cvN Q i := h.countP_eq _
theorem cvN_two {P : List Dom} (hn : P.Nodup) {a b : Dom} (ha : a ∈ P) (hb : b ∈ P) (hab : a ≠ b) {i : Nat} (h1 : cin a i = true) (h2 : cin b i = true) : 2 ≤ cvN P i := by
  rw [cvN_perm (perm_out2 hn ha hb hab), cvN_cons, cvN_cons, if_pos h1, if_pos h2]; omega
theorem cv_le {s : Nat} {P : List Dom} (h : TilS s P) (i : Nat) : cvN P i ≤ 1 := by rw [h.cv]; split <;> omega
theorem til_uniq {s : Nat} {P : List Dom} (h : TilS s P) {a b : Dom} (ha : a ∈ P) (hb : b ∈ P) {i : Nat} (h1 : cin a i = true) (h2 : cin b i = true) : a = b := by
  by_cases e : a = b
  · exact e
  · have := cvN_two (SO_nodup h.so) ha hb e h1 h2
    have := cv_le h i; omega
/-- what a flip does, as sets -/
theorem flip_parts {s : Nat} {P : List Dom} {c : Cel} (h : TilS s P) (hc : canB P c.x c.y = true) :
    P.Perm (pr0 c (!(acB P c.x c.y)) :: pr1 c (!(acB P c.x c.y)) :: P.filter (kp (pr0 c (!(acB P c.x c.y))) (pr1 c (!(acB P c.x c.y))))) ∧
    (flipD P c).Perm (pr0 c (acB P c.x c.y) :: pr1 c (acB P c.x c.y) :: P.filter (kp (pr0 c (!(acB P c.x c.y))) (pr1 c (!(acB P c.x c.y))))) ∧ pr0 c (acB P c.x c.y) ∉ P ∧ pr1 c (acB P c.x c.y) ∉ P := by
  have hb := canB_bd hc
  obtain ⟨g0, g1⟩ := can_gone hc
  have hn := SO_nodup h.so
  revert g0 g1
  unfold flipD
  generalize acB P c.x c.y = b
  intro g0 g1
  have hp := perm_out2 hn g0 g1 (pr_ne c _ _)
  have hk : cin (pr0 c b) (idx c) = true ∧ cin (pr0 c (!b)) (idx c) = true := ⟨cin_a (pr0 c b), cin_a (pr0 c !b)⟩
  have e3 : ∀ b, idx (cb (pr1 c b)) = idx c + 9 := fun b => by unfold pr1 cb idx; cases b <;> simp <;> omega
  have hk9 : cin (pr1 c b) (idx c + 9) = true ∧ cin (pr1 c (!b)) (idx c + 9) = true := ⟨by rw [← e3 b]; exact cin_b _, by rw [← e3 (!b)]; exact cin_b _⟩
  have n0 : pr0 c b ∉ P := fun hm => (pr_ne0 c b).1 (til_uniq h hm g0 hk.1 hk.2)
  have n1 : pr1 c b ∉ P := fun hm => (pr_ne0 c b).2 (til_uniq h hm g1 hk9.1 hk9.2)
  refine ⟨hp, ?_, n0, n1⟩
  refine sortD_perm (fun e he => ?_) ?_
  · simp only [List.cons_append, List.nil_append, List.mem_cons] at he
    rcases he with rfl | rfl | he
    · exact (pr_ok hb b).1
    · exact (pr_ok hb b).2
    · exact h.ok e (List.mem_filter.1 he).1
  · simp only [List.cons_append, List.nil_append]
    refine List.nodup_cons.2 ⟨fun hm => ?_, List.nodup_cons.2 ⟨fun hm => n1 (List.mem_filter.1 hm).1, hn.filter _⟩⟩
    rcases List.mem_cons.1 hm with e | hm
    · exact pr_ne c _ _ e
    · exact n0 (List.mem_filter.1 hm).1
theorem flip_til {s : Nat} {P : List Dom} {c : Cel} (h : TilS s P) (hc : canB P c.x c.y = true) : TilS s (flipD P c) := by
  obtain ⟨h1, h2, _, _⟩ := flip_parts h hc
  have hb := canB_bd hc
  refine ⟨fun d hd => ?_, fun i => ?_, sortD_SO _⟩
  · rcases List.mem_cons.1 (h2.mem_iff.1 hd) with rfl | hd
    · exact (pr_ok hb _).1
    · rcases List.mem_cons.1 hd with rfl | hd
      · exact (pr_ok hb _).2
      · exact h.ok d (List.mem_filter.1 hd).1
  · have e1 := cvN_perm h1 i
    have e2 := cvN_perm h2 i
    rw [cvN_cons, cvN_cons] at e1 e2
    have q1 := pr_cin hb (acB P c.x c.y) i
    have q2 := pr_cin hb (!(acB P c.x c.y)) i
    have := h.cv i
    omega
theorem flipAt_til {s : Nat} {P : List Dom} {c : Cel} (h : TilS s P) (hc : canB P c.x c.y = true) : TilS s (flipAt P c) := by
  unfold flipAt; rw [if_pos hc]; exact flip_til h hc
end Cl
end Go.Proofs.YtgmkkfdnmdohlaaGreatDoor
