/- Walks over clean states, printed by wg.py. No statement is proved here. -/
import Derived.Test.YtjgjeflidcembaaP5
import Derived.Test.YtjgjeflidcembaaP3
import Derived.Test.YtjgjeflidcembaaClB
namespace Go.Proofs.Ytjgjeflidcembaa
namespace Cl
open Go.ChangeShapes Go.WideShapes Go.ChangeAt Go.RowKit
set_option maxRecDepth 20000
/-! dominoes laid one after the other -/
def grT (R : List Int) (P : List Dom) (d : Dom) : Bool := okD d && (hasC R (cb d) && decide (atD P (cb d) < 0))
def gr2 (R : List Int) (P : List Dom) (x : Cel) (e : Bool) : List Dom := if grT R P ⟨x.x, x.y, e⟩ then P ++ [⟨x.x, x.y, e⟩] else if grT R P ⟨x.x, x.y, !e⟩ then P ++ [⟨x.x, x.y, !e⟩] else P
def grL (b : List Nat) (R : List Int) : List Cel → Cu → List Dom → List Dom × Cu
  | [], c, P => (P, c)
  | x :: xs, c, P => if 0 ≤ atD P x then grL b R xs c P else grL b R xs (cuN b c 2) (gr2 R P x (decide (cuX b c 2 = 0)))
theorem grT_ok {R : List Int} {P : List Dom} {d : Dom} (h : grT R P d = true) : okD d = true ∧ hasC R (cb d) = true ∧ P.any (cvr (cb d)) = false := by
  unfold grT at h
  simp only [Bool.and_eq_true] at h
  have := atD_t h.2.2
  exact ⟨h.1, h.2.1, by simpa using this⟩
theorem cvN_zero {P : List Dom} (hok : ∀ d ∈ P, okD d = true) {c : Cel} (hc : okc c.x c.y = true) (h : P.any (cvr c) = false) : cvN P (idx c) = 0 := by
  rcases Nat.eq_zero_or_pos (cvN P (idx c)) with h0 | h0
  · exact h0
  · exfalso
    obtain ⟨d, hd, hi⟩ := cvN_ex h0
    rw [List.any_eq_false] at h
    apply h d hd
    unfold cvr
    unfold cin at hi
    simp only [Bool.and_eq_true, Bool.or_eq_true, decide_eq_true_eq] at hi ⊢
    have ho := hok d hd
    refine ⟨ho, ?_⟩
    rcases hi with hi | hi
    · exact .inl (idx_inj (ok_ca ho) hc hi)
    · exact .inr (idx_inj (ok_cb ho) hc hi)
theorem cvN_app (P Q : List Dom) (i : Nat) : cvN (P ++ Q) i = cvN P i + cvN Q i := by unfold cvN; rw [List.countP_append]
theorem cvN_sing (d : Dom) (i : Nat) : cvN [d] i = if cin d i = true then 1 else 0 := by rw [cvN_cons]; unfold cvN; simp
/-- a domino more -/
theorem ParS.app {s : Nat} {P : List Dom} (h : ParS s P) {d : Dom} (hd : okD d = true) (ha : hasS s (ca d) = true) (hb : hasS s (cb d) = true) (na : P.any (cvr (ca d)) = false) (nb : P.any (cvr (cb d)) = false) : ParS s (P ++ [d]) := by
  refine ⟨fun e he => ?_, fun i => ?_⟩
  · rcases List.mem_append.1 he with h1 | h1
    · exact h.ok e h1
    · rw [List.mem_singleton] at h1; rw [h1]; exact hd
  · rw [cvN_app, cvN_sing]
    by_cases hc : cin d i = true
    · rw [if_pos hc]
      unfold cin at hc
      simp only [Bool.or_eq_true, decide_eq_true_eq] at hc
      rcases hc with rfl | rfl
      · rw [cvN_zero h.ok (ok_ca hd) na, ← has_bit (ok_ca hd), ha]; simp
      · rw [cvN_zero h.ok (ok_cb hd) nb, ← has_bit (ok_cb hd), hb]; simp
    · rw [if_neg hc]; have := h.cv i; omega
theorem SO_app {P : List Dom} {d : Dom} (h : SO P) (hl : ∀ e ∈ P, ord e < ord d) : SO (P ++ [d]) := by
  unfold SO
  rw [List.pairwise_append]
  exact ⟨h, List.pairwise_singleton _ _, fun a ha b hb => by rw [List.mem_singleton] at hb; rw [hb]; exact hl a ha⟩
theorem gr_ok {b : List Nat} {R : List Int} (ho : regOk R = true) : ∀ (xs : List Cel) (c : Cu) (P : List Dom), (∀ x ∈ xs, hasS (regSet R) x = true) → xs.Pairwise (fun x y => idx x < idx y) → ParS (regSet R) P → SO P → (∀ e ∈ P, ∀ x ∈ xs, idx (ca e) < idx x) →
    ParS (regSet R) (grL b R xs c P).1 ∧ SO (grL b R xs c P).1 := by
  intro xs
  induction xs with
  | nil => intro c P _ _ h1 h2 _; exact ⟨h1, h2⟩
  | cons x xs ih =>
    intro c P hx hp h1 h2 h3
    obtain ⟨p1, p2⟩ := List.pairwise_cons.1 hp
    have hx' : ∀ y ∈ xs, hasS (regSet R) y = true := fun y hy => hx y (List.mem_cons_of_mem _ hy)
    have h3' : ∀ e ∈ P, ∀ y ∈ xs, idx (ca e) < idx y := fun e he y hy => h3 e he y (List.mem_cons_of_mem _ hy)
    rw [grL]
    by_cases ha : 0 ≤ atD P x
    · rw [if_pos ha]; exact ih c P hx' p2 h1 h2 h3'
    · rw [if_neg ha]
      have hxs := hx x (List.mem_cons_self ..)
      have nax : P.any (cvr x) = false := by
        have := atD_t (ds := P) (c := x) (decide_eq_true (by omega)); simpa using this
      have key : ∀ e, grT R P ⟨x.x, x.y, e⟩ = true → ParS (regSet R) (grL b R xs (cuN b c 2) (P ++ [⟨x.x, x.y, e⟩])).1 ∧ SO (grL b R xs (cuN b c 2) (P ++ [⟨x.x, x.y, e⟩])).1 := by
        intro e hT
        obtain ⟨t1, t2, t3⟩ := grT_ok hT
        have eca : ca (⟨x.x, x.y, e⟩ : Dom) = x := rfl
        have hcb : hasS (regSet R) (cb ⟨x.x, x.y, e⟩) = true := by
          unfold hasC at t2; simp only [Bool.and_eq_true] at t2
          rw [has_bit t2.2.1]; exact t2.2.2
        refine ih _ _ hx' p2 (h1.app t1 (by rw [eca]; exact hxs) hcb (by rw [eca]; exact nax) t3) (SO_app h2 fun d hd => ?_) (fun d hd y hy => ?_)
        · have q3 := h3 d hd x (List.mem_cons_self ..)
          unfold ord; rw [eca]; split <;> split <;> omega
        · rcases List.mem_append.1 hd with h | h
          · exact h3' d h y hy
          · rw [List.mem_singleton] at h; rw [h, eca]; exact p1 y hy
      unfold gr2
      split
      · exact key _ (by assumption)
      · split
        · exact key _ (by assumption)
        · exact ih _ P hx' p2 h1 h2 h3'
theorem gr_all {b : List Nat} {R : List Int} (ho : regOk R = true) (c : Cu) : ParS (regSet R) (grL b R (cellsOf R) c []).1 ∧ SO (grL b R (cellsOf R) c []).1 := by
  have e : cellsOf R = setCells (regSet R) := by unfold cellsOf; rw [if_pos ho]
  rw [e]
  refine gr_ok ho _ c [] (fun x hx => set_mem.1 hx) ?_ ⟨fun d hd => absurd hd (by simp), fun i => by unfold cvN; simp⟩ List.Pairwise.nil (fun e he => absurd he (by simp))
  rw [List.pairwise_iff_getElem]
  intro i j hi hj hij
  have := setCells_lt hij hj
  rw [gC_eq hi, gC_eq hj] at this; exact this
end Cl
end Go.Proofs.Ytjgjeflidcembaa
