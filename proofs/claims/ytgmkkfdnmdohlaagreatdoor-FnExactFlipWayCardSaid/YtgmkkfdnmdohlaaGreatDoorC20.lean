/- Walks over clean states, printed by wg.py. No statement is proved here. -/
import Derived.Test.YtgmkkfdnmdohlaaGreatDoorC3
import Derived.Test.YtgmkkfdnmdohlaaGreatDoorClB
import Derived.Test.YtgmkkfdnmdohlaaGreatDoorC10
set_option linter.unusedSimpArgs false
set_option linter.unusedVariables false
namespace Go.Proofs.YtgmkkfdnmdohlaaGreatDoor
namespace Cl
open Go.ChangeShapes Go.WideShapes Go.ChangeAt Go.RowKit
set_option maxRecDepth 20000

section
set_option linter.unusedSectionVars false
variable {α : Type} [DecidableEq α]
/-- a search with a list of what has been found -/
def gst (ok : α → α → Bool) (own : α) (L : List α) (w : α) : List α := if (ok own w && !decide (w ∈ L)) = true then L ++ [w] else L
def grnd (nb : α → List α) (ok : α → α → Bool) (L : List α) (own : α) : List α := (nb own).foldl (gst ok own) L
inductive GReach (nb : α → List α) (ok : α → α → Bool) (a : α) : α → Prop
  | root : GReach nb ok a a
  | step (p q : α) (hp : GReach nb ok a p) (hq : q ∈ nb p) (h : ok p q = true) : GReach nb ok a q
theorem GReach.trans {nb : α → List α} {ok : α → α → Bool} {a b c : α} (h1 : GReach nb ok a b) (h2 : GReach nb ok b c) : GReach nb ok a c := by
  induction h2 with
  | root => exact h1
  | step p q _ hq hok ih => exact .step p q ih hq hok
theorem gst_yes {ok : α → α → Bool} {own w : α} {L : List α} (h : ok own w = true) (h2 : w ∉ L) : gst ok own L w = L ++ [w] := by unfold gst; rw [if_pos (by simp [h, h2])]
theorem gst_no {ok : α → α → Bool} {own w : α} {L : List α} (h : ok own w = false ∨ w ∈ L) : gst ok own L w = L := by
  unfold gst; rw [if_neg]; rcases h with h | h <;> simp [h]
theorem gst_sub {ok : α → α → Bool} {own w : α} {L : List α} {x : α} (h : x ∈ L) : x ∈ gst ok own L w := by
  unfold gst; split
  · simp [h]
  · exact h
theorem gst_pre (ok : α → α → Bool) (own w : α) (L : List α) : ∃ e, gst ok own L w = L ++ e := by
  unfold gst; split
  · exact ⟨_, rfl⟩
  · exact ⟨[], by simp⟩
theorem foldl_pre (ok : α → α → Bool) (own : α) : ∀ (ws L : List α), ∃ e, ws.foldl (gst ok own) L = L ++ e := by
  intro ws
  induction ws with
  | nil => intro L; exact ⟨[], by simp⟩
  | cons w ws ih =>
    intro L
    obtain ⟨e1, h1⟩ := gst_pre ok own w L
    obtain ⟨e2, h2⟩ := ih (gst ok own L w)
    exact ⟨e1 ++ e2, by rw [List.foldl_cons, h2, h1, List.append_assoc]⟩
theorem foldl_sub {ok : α → α → Bool} {own : α} {ws L : List α} {x : α} (h : x ∈ L) : x ∈ ws.foldl (gst ok own) L := by
  obtain ⟨e, he⟩ := foldl_pre ok own ws L
  rw [he]; simp [h]
theorem foldl_all {ok : α → α → Bool} {own : α} : ∀ (ws L : List α) (w : α), w ∈ ws → ok own w = true → w ∈ ws.foldl (gst ok own) L := by
  intro ws
  induction ws with
  | nil => intro L w h; cases h
  | cons v ws ih =>
    intro L w h hok
    rw [List.foldl_cons]
    rcases List.mem_cons.1 h with rfl | h
    · by_cases hm : w ∈ L
      · exact foldl_sub (gst_sub hm)
      · rw [gst_yes hok hm]; exact foldl_sub (by simp)
    · exact ih _ w h hok
theorem foldl_in {ok : α → α → Bool} {own : α} : ∀ (ws L : List α) (x : α), x ∈ ws.foldl (gst ok own) L → x ∈ L ∨ (x ∈ ws ∧ ok own x = true) := by
  intro ws
  induction ws with
  | nil => intro L x h; exact .inl h
  | cons v ws ih =>
    intro L x h
    rw [List.foldl_cons] at h
    rcases ih _ x h with h | h
    · unfold gst at h
      split at h
      · rename_i hc
        rw [Bool.and_eq_true] at hc
        rcases List.mem_append.1 h with h | h
        · exact .inl h
        · rw [List.mem_singleton] at h; subst h; exact .inr ⟨by simp, hc.1⟩
      · exact .inl h
    · exact .inr ⟨by simp [h.1], h.2⟩
theorem gst_nodup {ok : α → α → Bool} {own w : α} {L : List α} (h : L.Nodup) : (gst ok own L w).Nodup := by
  unfold gst; split
  · rename_i hc
    simp only [Bool.and_eq_true, Bool.not_eq_true', decide_eq_false_iff_not] at hc
    rw [List.nodup_append]
    refine ⟨h, by simp, fun a ha b hb => ?_⟩
    rw [List.mem_singleton] at hb
    subst hb
    rintro rfl
    exact hc.2 ha
  · exact h
theorem foldl_nodup {ok : α → α → Bool} {own : α} : ∀ (ws L : List α), L.Nodup → (ws.foldl (gst ok own) L).Nodup := by
  intro ws
  induction ws with
  | nil => intro L h; exact h
  | cons v ws ih => intro L h; exact ih _ (gst_nodup h)
/-- what the search keeps: every found one is reached, and behind the first k nothing is missing -/
structure GInv (nb : α → List α) (ok : α → α → Bool) (a : α) (L : List α) (k : Nat) : Prop where
  a0 : a ∈ L
  nd : L.Nodup
  rc : ∀ x, x ∈ L → GReach nb ok a x
  cl : ∀ x, x ∈ L.take k → ∀ w, w ∈ nb x → ok x w = true → w ∈ L
  le : k ≤ L.length
theorem GInv.init (nb : α → List α) (ok : α → α → Bool) (a : α) : GInv nb ok a [a] 0 :=
  ⟨by simp, by simp, fun x hx => by rw [List.mem_singleton] at hx; subst hx; exact .root, fun x hx => by simp at hx, by simp⟩
theorem GInv.next {nb : α → List α} {ok : α → α → Bool} {a : α} {L : List α} {k : Nat} (h : GInv nb ok a L k) (hk : k < L.length) : GInv nb ok a (grnd nb ok L L[k]) (k + 1) := by
  obtain ⟨e, he⟩ := foldl_pre ok L[k] (nb L[k]) L
  have hown : L[k] ∈ L := List.getElem_mem hk
  refine ⟨foldl_sub h.a0, foldl_nodup _ _ h.nd, fun x hx => ?_, fun x hx w hw hok => ?_, ?_⟩
  · rcases foldl_in _ _ _ hx with hx | ⟨hx, hok⟩
    · exact h.rc x hx
    · exact .step _ _ (h.rc _ hown) hx hok
  · have ht : (grnd nb ok L L[k]).take (k + 1) = L.take k ++ [L[k]] := by
      unfold grnd
      rw [he, List.take_append_of_le_length (by omega), List.take_succ_eq_append_getElem hk]
    rw [ht, List.mem_append, List.mem_singleton] at hx
    rcases hx with hx | rfl
    · exact foldl_sub (h.cl x hx w hw hok)
    · exact foldl_all _ _ w hw hok
  · unfold grnd; rw [he, List.length_append]; omega
theorem GInv.done {nb : α → List α} {ok : α → α → Bool} {a : α} {L : List α} {k : Nat} (h : GInv nb ok a L k) (hk : ¬ k < L.length) (x : α) : x ∈ L ↔ GReach nb ok a x := by
  refine ⟨h.rc x, fun hx => ?_⟩
  induction hx with
  | root => exact h.a0
  | step p q _ hq hok ih => exact h.cl p (by rw [List.take_of_length_le (by omega)]; exact ih) q hq hok
/-- reached both ways -/
theorem GReach.symm {nb : α → List α} {ok : α → α → Bool} (hs : ∀ p q, q ∈ nb p → ok p q = true → p ∈ nb q ∧ ok q p = true) {a b : α} (h : GReach nb ok a b) : GReach nb ok b a := by
  induction h with
  | root => exact .root
  | step p q _ hq hok ih =>
    obtain ⟨h1, h2⟩ := hs p q hq hok
    exact GReach.trans (.step q p .root h1 h2) ih
end

theorem nodup_len : ∀ (N : Nat) (L : List Nat), L.Nodup → (∀ x, x ∈ L → x < N) → L.length ≤ N := by
  intro N
  induction N with
  | zero =>
    intro L _ h
    cases L with
    | nil => simp
    | cons a L => exact absurd (h a (by simp)) (by omega)
  | succ N ih =>
    intro L hn h
    by_cases hm : N ∈ L
    · have h1 := ih (L.erase N) (hn.erase N) (fun x hx => by
        have h2 := h x (List.mem_of_mem_erase hx)
        have h3 : x ≠ N := by rintro rfl; exact (List.Nodup.not_mem_erase hn) hx
        omega)
      rw [List.length_erase_of_mem hm] at h1
      omega
    · have h1 := ih L hn (fun x hx => by
        have h2 := h x hx
        have h3 : x ≠ N := by rintro rfl; exact hm hx
        omega)
      omega
section
variable (nb : Nat → List Nat) (ok : Nat → Bool)
/-- a search that goes deep first; what has been seen is a list -/
def dfsW (rec : List Nat → Nat → List Nat) (L : List Nat) (w : Nat) : List Nat := if (ok w && !decide (w ∈ L)) = true then rec L w else L
def dfs : Nat → List Nat → Nat → List Nat
  | 0, L, _ => L
  | n + 1, L, a => (nb a).foldl (dfsW ok (dfs n)) (L ++ [a])
end
def okE (ok : Nat → Bool) (_ w : Nat) : Bool := ok w
structure DInv (nb : Nat → List Nat) (ok : Nat → Bool) (N : Nat) (L : List Nat) (a : Nat) (M e : List Nat) : Prop where
  eq : M = L ++ [a] ++ e
  nd : M.Nodup
  lt : ∀ x, x ∈ M → x < N
  rc : ∀ x, x ∈ e → GReach nb (okE ok) a x
  cl : ∀ x, x ∈ e → ∀ w, w ∈ nb x → ok w = true → w ∈ M
theorem dfs_inv {nb : Nat → List Nat} {ok : Nat → Bool} {N : Nat} (hnb : ∀ a w, w ∈ nb a → w < N) : ∀ n L a, L.Nodup → (∀ x, x ∈ L → x < N) → a ∉ L → a < N → N < n + L.length →
    ∃ e, DInv nb ok N L a (dfs nb ok n L a) e ∧ ∀ w, w ∈ nb a → ok w = true → w ∈ dfs nb ok n L a := by
  intro n
  induction n with
  | zero =>
    intro L a hn hl ha _ hN
    have := nodup_len N L hn hl
    omega
  | succ n ih =>
    intro L a hn hl ha haN hN
    have fold : ∀ (ws : List Nat), (∀ w, w ∈ ws → w < N) → ∀ M e, DInv nb ok N L a M e → (∀ w, w ∈ ws → w ∈ nb a) → ∃ e', DInv nb ok N L a (ws.foldl (dfsW ok (dfs nb ok n)) M) e' ∧ (∀ x, x ∈ M → x ∈ ws.foldl (dfsW ok (dfs nb ok n)) M) ∧ ∀ w, w ∈ ws → ok w = true → w ∈ ws.foldl (dfsW ok (dfs nb ok n)) M := by
      intro ws
      induction ws with
      | nil => intro _ M e hM _; exact ⟨e, hM, fun x h => h, fun w h => by cases h⟩
      | cons v ws ih2 =>
        intro hws M e hM hsub
        rw [List.foldl_cons]
        by_cases hc : (ok v && !decide (v ∈ M)) = true
        · have e1 : dfsW ok (dfs nb ok n) M v = dfs nb ok n M v := by unfold dfsW; rw [if_pos hc]
          rw [e1]
          simp only [Bool.and_eq_true, Bool.not_eq_true', decide_eq_false_iff_not] at hc
          have hML : M.length = L.length + 1 + e.length := by rw [hM.eq]; simp; omega
          obtain ⟨e2, d2, c2⟩ := ih M v hM.nd hM.lt hc.2 (hws v (by simp)) (by omega)
          have hsubM : ∀ x, x ∈ M → x ∈ dfs nb ok n M v := fun x hx => by rw [d2.eq]; simp [hx]
          have hav : GReach nb (okE ok) a v := .step a v .root (hsub v (by simp)) hc.1
          obtain ⟨e3, d3, s3, a3⟩ := ih2 (fun w hw => hws w (by simp [hw])) (dfs nb ok n M v) (e ++ [v] ++ e2) ⟨by rw [d2.eq, hM.eq]; simp, d2.nd, d2.lt, fun x hx => by
              simp only [List.mem_append, List.mem_singleton] at hx
              rcases hx with (hx | rfl) | hx
              · exact hM.rc x hx
              · exact hav
              · exact hav.trans (d2.rc x hx), fun x hx w hw hok => by
              simp only [List.mem_append, List.mem_singleton] at hx
              rcases hx with (hx | rfl) | hx
              · exact hsubM w (hM.cl x hx w hw hok)
              · exact c2 w hw hok
              · exact d2.cl x hx w hw hok⟩ (fun w hw => hsub w (by simp [hw]))
          refine ⟨e3, d3, fun x hx => s3 x (hsubM x hx), fun w hw hok => ?_⟩
          rcases List.mem_cons.1 hw with rfl | hw
          · refine s3 w ?_; rw [d2.eq]; simp
          · exact a3 w hw hok
        · have e1 : dfsW ok (dfs nb ok n) M v = M := by unfold dfsW; rw [if_neg hc]
          rw [e1]
          obtain ⟨e3, d3, s3, a3⟩ := ih2 (fun w hw => hws w (by simp [hw])) M e hM (fun w hw => hsub w (by simp [hw]))
          refine ⟨e3, d3, s3, fun w hw hok => ?_⟩
          rcases List.mem_cons.1 hw with rfl | hw
          · rw [hok] at hc
            simp only [Bool.true_and, Bool.not_eq_true', decide_eq_false_iff_not, Classical.not_not] at hc
            exact s3 w hc
          · exact a3 w hw hok
    obtain ⟨e, d, _, c⟩ := fold (nb a) (hnb a) (L ++ [a]) [] ⟨by simp, by
        rw [List.nodup_append]
        refine ⟨hn, by simp, fun x hx y hy => ?_⟩
        rw [List.mem_singleton] at hy; subst hy
        rintro rfl; exact ha hx, fun x hx => by
        simp only [List.mem_append, List.mem_singleton] at hx
        rcases hx with hx | rfl
        · exact hl x hx
        · exact haN, fun x hx => (by cases hx), fun x hx => (by cases hx)⟩ (fun w hw => hw)
    exact ⟨e, d, c⟩
/-- what has been seen: nothing that hangs on it is missing -/
def Closed (nb : Nat → List Nat) (ok : Nat → Bool) (S : Nat → Prop) : Prop := ∀ x, S x → ∀ w, w ∈ nb x → ok w = true → S w
theorem Closed.reach {nb : Nat → List Nat} {ok : Nat → Bool} {S : Nat → Prop} (h : Closed nb ok S) {a x : Nat} (ha : S a) (hx : GReach nb (okE ok) a x) : S x := by
  induction hx with
  | root => exact ha
  | step p q _ hq hok ih => exact h p ih q hq hok
theorem dfs_done {nb : Nat → List Nat} {ok : Nat → Bool} {N : Nat} (hnb : ∀ a w, w ∈ nb a → w < N) {L : List Nat} {a n : Nat} (hn : L.Nodup) (hl : ∀ x, x ∈ L → x < N) (ha : a ∉ L) (haN : a < N) (hN : N < n + L.length) (hc : Closed nb ok (· ∈ L)) (x : Nat) :
    x ∈ dfs nb ok n L a ↔ (x ∈ L ∨ GReach nb (okE ok) a x) := by
  obtain ⟨e, d, c⟩ := dfs_inv hnb n L a hn hl ha haN hN
  have hcl : Closed nb ok (· ∈ dfs nb ok n L a) := by
    intro v hv w hw hok
    rw [d.eq] at hv
    simp only [List.mem_append, List.mem_singleton] at hv
    rcases hv with (hv | rfl) | hv
    · have := hc v hv w hw hok
      rw [d.eq]; simp [this]
    · exact c w hw hok
    · exact d.cl v hv w hw hok
  constructor
  · intro h
    rw [d.eq] at h
    simp only [List.mem_append, List.mem_singleton] at h
    rcases h with (h | rfl) | h
    · exact .inl h
    · exact .inr .root
    · exact .inr (d.rc x h)
  · rintro (h | h)
    · rw [d.eq]; simp [h]
    · exact hcl.reach (by rw [d.eq]; simp) h
/-- the first of those that hang together -/
def rootB (nb : Nat → List Nat) (ok : Nat → Bool) (j : Nat) : Prop := ok j = true ∧ ∀ i, i < j → ok i = true → ¬ GReach nb (okE ok) i j
open Classical in
noncomputable def roots (nb : Nat → List Nat) (ok : Nat → Bool) (k : Nat) : Nat := ((List.range k).filter (fun j => decide (rootB nb ok j))).length
def seenB (nb : Nat → List Nat) (ok : Nat → Bool) (k x : Nat) : Prop := ∃ j, j < k ∧ ok j = true ∧ GReach nb (okE ok) j x
theorem seenB_closed (nb : Nat → List Nat) (ok : Nat → Bool) (k : Nat) : Closed nb ok (seenB nb ok k) := by
  rintro x ⟨j, h1, h2, h3⟩ w hw hok
  exact ⟨j, h1, h2, .step x w h3 hw hok⟩
theorem seenB_root {nb : Nat → List Nat} {ok : Nat → Bool} {k : Nat} (h : ok k = true) : rootB nb ok k ↔ ¬ seenB nb ok k k := by
  unfold rootB seenB
  constructor
  · rintro ⟨_, h2⟩ ⟨j, h3, h4, h5⟩; exact h2 j h3 h4 h5
  · intro h2; exact ⟨h, fun i hi hok hr => h2 ⟨i, hi, hok, hr⟩⟩
theorem seenB_new {nb : Nat → List Nat} {ok : Nat → Bool} {k : Nat} (h : ok k = true) (x : Nat) : seenB nb ok (k + 1) x ↔ (seenB nb ok k x ∨ GReach nb (okE ok) k x) := by
  unfold seenB
  constructor
  · rintro ⟨j, h1, h2, h3⟩
    rcases Nat.lt_or_ge j k with h4 | h4
    · exact .inl ⟨j, h4, h2, h3⟩
    · have : j = k := by omega
      subst this; exact .inr h3
  · rintro (⟨j, h1, h2, h3⟩ | h3)
    · exact ⟨j, by omega, h2, h3⟩
    · exact ⟨k, by omega, h, h3⟩
theorem seenB_old {nb : Nat → List Nat} {ok : Nat → Bool} {k : Nat} (h : ok k = false ∨ seenB nb ok k k) (x : Nat) : seenB nb ok (k + 1) x ↔ seenB nb ok k x := by
  constructor
  · rintro ⟨j, h1, h2, h3⟩
    rcases Nat.lt_or_ge j k with h4 | h4
    · exact ⟨j, h4, h2, h3⟩
    · have : j = k := by omega
      subst this
      rcases h with h | h
      · rw [h] at h2; cases h2
      · exact (seenB_closed nb ok j).reach h h3
  · rintro ⟨j, h1, h2, h3⟩; exact ⟨j, by omega, h2, h3⟩
/-- one root: everything hangs together -/
theorem one_root {nb : Nat → List Nat} {ok : Nat → Bool} {N : Nat} (h0 : ok 0 = true) (h : roots nb ok N = 1) : ∀ x, x < N → ok x = true → GReach nb (okE ok) 0 x := by
  classical
  have h00 : rootB nb ok 0 := ⟨h0, fun i hi => by omega⟩
  have hall : ∀ x, x < N → rootB nb ok x → x = 0 := by
    intro x hx hr
    unfold roots at h
    rcases Nat.eq_zero_or_pos x with h1 | h1
    · exact h1
    · exfalso
      have hs : [0, x].Sublist ((List.range N).filter (fun j => decide (rootB nb ok j))) := by
        have h2 : [0, x].Sublist (List.range N) := by
          have e : List.range N = List.range x ++ (x :: (List.range' (x + 1) (N - x - 1))) := by
            rw [List.range_eq_range', List.range_eq_range']
            have e1 : N = x + (N - x - 1 + 1) := by omega
            conv => lhs; rw [e1]
            rw [← List.range'_append_1, List.range'_succ]
            simp
          rw [e]
          exact List.Sublist.append (List.singleton_sublist.2 (List.mem_range.2 h1) : [0].Sublist (List.range x)) (List.singleton_sublist.2 (List.mem_cons_self) : [x].Sublist (x :: List.range' (x + 1) (N - x - 1)))
        have h3 := h2.filter (fun j => decide (rootB nb ok j))
        have e2 : [0, x].filter (fun j => decide (rootB nb ok j)) = [0, x] := by simp [h00, hr]
        rwa [e2] at h3
      have := hs.length_le
      rw [h] at this
      simp at this
  intro x
  induction x using Nat.strongRecOn with
  | _ x ih =>
    intro hx hok
    by_cases hr : rootB nb ok x
    · rw [hall x hx hr]; exact .root
    · unfold rootB at hr
      rw [not_and] at hr
      have := hr hok
      simp only [Classical.not_forall, Classical.not_not] at this
      obtain ⟨i, hi, hio, hir⟩ := this
      exact (ih i hi (by omega) hio).trans hir

/-- numbers at the sides of a board's squares -/
structure Form where
  H : Nat → Nat → Int
  V : Nat → Nat → Int
def circ (f : Form) (c : Nat × Nat) : Int := f.H c.1 c.2 + f.V (c.1 + 1) c.2 - f.H c.1 (c.2 + 1) - f.V c.1 c.2
def Adj4 (c d : Nat × Nat) : Prop := (d.1 = c.1 + 1 ∧ d.2 = c.2) ∨ (c.1 = d.1 + 1 ∧ d.2 = c.2) ∨ (d.1 = c.1 ∧ d.2 = c.2 + 1) ∨ (d.1 = c.1 ∧ c.2 = d.2 + 1)
theorem Adj4.symm {c d : Nat × Nat} (h : Adj4 c d) : Adj4 d c := by unfold Adj4 at *; omega
structure KeepR (R : Nat × Nat → Prop) (f g : Form) : Prop where
  h0 : ∀ x y, R (x, y) → g.H x y = f.H x y
  h1 : ∀ x y, R (x, y) → g.H x (y + 1) = f.H x (y + 1)
  v0 : ∀ x y, R (x, y) → g.V x y = f.V x y
  v1 : ∀ x y, R (x, y) → g.V (x + 1) y = f.V (x + 1) y
theorem KeepR.trans {R : Nat × Nat → Prop} {f g k : Form} (h : KeepR R f g) (h' : KeepR R g k) : KeepR R f k :=
  ⟨fun x y q => (h'.h0 x y q).trans (h.h0 x y q), fun x y q => (h'.h1 x y q).trans (h.h1 x y q), fun x y q => (h'.v0 x y q).trans (h.v0 x y q), fun x y q => (h'.v1 x y q).trans (h.v1 x y q)⟩
theorem adjust {R : Nat × Nat → Prop} (f : Form) {c d : Nat × Nat} (ha : Adj4 c d) (hc : ¬ R c) (hd : ¬ R d) (δ : Int) :
    ∃ g, KeepR R f g ∧ circ g c = circ f c + δ ∧ ∀ e, e ≠ c → e ≠ d → circ g e = circ f e := by
  have key : ∀ (x y : Nat) (δ : Int), ¬ R (x, y) → ¬ R (x + 1, y) → ∃ g, KeepR R f g ∧ circ g (x, y) = circ f (x, y) + δ ∧ circ g (x + 1, y) = circ f (x + 1, y) - δ ∧ ∀ e, e ≠ (x, y) → e ≠ (x + 1, y) → circ g e = circ f e := by
    intro x y δ h1 h2
    refine ⟨⟨f.H, fun a b => if a = x + 1 ∧ b = y then f.V a b + δ else f.V a b⟩, ⟨fun _ _ _ => rfl, fun _ _ _ => rfl, fun a b q => ?_, fun a b q => ?_⟩, ?_, ?_, fun e e1 e2 => ?_⟩
    · show (if a = x + 1 ∧ b = y then f.V a b + δ else f.V a b) = f.V a b
      rw [if_neg]
      rintro ⟨rfl, rfl⟩
      exact h2 q
    · show (if a + 1 = x + 1 ∧ b = y then f.V (a + 1) b + δ else f.V (a + 1) b) = f.V (a + 1) b
      rw [if_neg]
      rintro ⟨h3, rfl⟩
      have : a = x := by omega
      subst this
      exact h1 q
    · unfold circ
      simp only [and_self, if_true]
      rw [if_neg (by omega)]; omega
    · unfold circ
      simp only [and_self, if_true]
      rw [if_neg (by omega)]; omega
    · unfold circ
      obtain ⟨a, b⟩ := e
      simp only [ne_eq, Prod.mk.injEq] at e1 e2
      simp only
      rw [if_neg (by omega), if_neg (by omega)]
  have key2 : ∀ (x y : Nat) (δ : Int), ¬ R (x, y) → ¬ R (x, y + 1) → ∃ g, KeepR R f g ∧ circ g (x, y) = circ f (x, y) + δ ∧ circ g (x, y + 1) = circ f (x, y + 1) - δ ∧ ∀ e, e ≠ (x, y) → e ≠ (x, y + 1) → circ g e = circ f e := by
    intro x y δ h1 h2
    refine ⟨⟨fun a b => if a = x ∧ b = y + 1 then f.H a b - δ else f.H a b, f.V⟩, ⟨fun a b q => ?_, fun a b q => ?_, fun _ _ _ => rfl, fun _ _ _ => rfl⟩, ?_, ?_, fun e e1 e2 => ?_⟩
    · show (if a = x ∧ b = y + 1 then f.H a b - δ else f.H a b) = f.H a b
      rw [if_neg]
      rintro ⟨rfl, rfl⟩
      exact h2 q
    · show (if a = x ∧ b + 1 = y + 1 then f.H a (b + 1) - δ else f.H a (b + 1)) = f.H a (b + 1)
      rw [if_neg]
      rintro ⟨rfl, h3⟩
      have : b = y := by omega
      subst this
      exact h1 q
    · unfold circ
      simp only [and_self, if_true]
      rw [if_neg (by omega)]; omega
    · unfold circ
      simp only [and_self, if_true]
      rw [if_neg (by omega)]; omega
    · unfold circ
      obtain ⟨a, b⟩ := e
      simp only [ne_eq, Prod.mk.injEq] at e1 e2
      simp only
      rw [if_neg (by omega), if_neg (by omega)]
  obtain ⟨cx, cy⟩ := c
  obtain ⟨dx, dy⟩ := d
  unfold Adj4 at ha
  simp only at ha
  rcases ha with ⟨rfl, rfl⟩ | ⟨rfl, rfl⟩ | ⟨rfl, rfl⟩ | ⟨rfl, rfl⟩
  · obtain ⟨g, k, p, _, r⟩ := key cx dy δ hc hd; exact ⟨g, k, p, r⟩
  · obtain ⟨g, k, _, q, r⟩ := key dx dy (-δ) hd hc; exact ⟨g, k, by rw [q]; omega, fun e e1 e2 => r e e2 e1⟩
  · obtain ⟨g, k, p, _, r⟩ := key2 dx cy δ hc hd; exact ⟨g, k, p, r⟩
  · obtain ⟨g, k, _, q, r⟩ := key2 dx dy (-δ) hd hc; exact ⟨g, k, by rw [q]; omega, fun e e1 e2 => r e e2 e1⟩
/-- cells laid one beside another, from the first corner on -/
inductive Laid : List (Nat × Nat) → Prop
  | one : Laid [(0, 0)]
  | more (c p : Nat × Nat) (L : List (Nat × Nat)) (h : Laid L) (hp : p ∈ L) (ha : Adj4 p c) (hc : c ∉ L) : Laid (c :: L)
theorem extend {R : Nat × Nat → Prop} {L : List (Nat × Nat)} (h : Laid L) : (∀ c ∈ L, ¬ R c) → ∀ f : Form, ∃ g, KeepR R f g ∧ (∀ c ∈ L, circ g c = 0) ∧ ∀ c, c ∉ L → circ g c = circ f c := by
  induction h with
  | one =>
    intro hR f
    have h0 : ¬ R (0, 0) := hR _ (by simp)
    refine ⟨⟨fun a b => if a = 0 ∧ b = 0 then f.H a b - circ f (0, 0) else f.H a b, f.V⟩, ⟨fun a b q => ?_, fun a b q => ?_, fun _ _ _ => rfl, fun _ _ _ => rfl⟩, fun c hc => ?_, fun c hc => ?_⟩
    · show (if a = 0 ∧ b = 0 then f.H a b - circ f (0, 0) else f.H a b) = f.H a b
      rw [if_neg]
      rintro ⟨rfl, rfl⟩
      exact h0 q
    · show (if a = 0 ∧ b + 1 = 0 then f.H a (b + 1) - circ f (0, 0) else f.H a (b + 1)) = f.H a (b + 1)
      rw [if_neg (by omega)]
    · simp only [List.mem_singleton] at hc
      subst hc
      unfold circ
      simp only [and_self, if_true]
      rw [if_neg (by omega)]; omega
    · obtain ⟨a, b⟩ := c
      simp only [List.mem_singleton, Prod.mk.injEq] at hc
      unfold circ
      simp only
      rw [if_neg hc, if_neg (by omega)]
  | more c p L hL hp ha hc ih =>
    intro hR f
    obtain ⟨g1, k1, z1, r1⟩ := adjust (R := R) f ha.symm (hR c (by simp)) (hR p (by simp [hp])) (-circ f c)
    obtain ⟨g2, k2, z2, r2⟩ := ih (fun d hd => hR d (by simp [hd])) g1
    refine ⟨g2, k1.trans k2, fun d hd => ?_, fun d hd => ?_⟩
    · rcases List.mem_cons.1 hd with rfl | hd
      · rw [r2 d hc, z1]; omega
      · exact z2 d hd
    · rw [List.mem_cons] at hd
      rw [r2 d (fun h => hd (.inr h)), r1 d (fun h => hd (.inl h)) (fun h => hd (.inr (h ▸ hp)))]
/-- a sum over the first numbers -/
def sumI (f : Nat → Int) : Nat → Int
  | 0 => 0
  | n + 1 => sumI f n + f n
theorem potential {f : Form} {n : Nat} (h : ∀ x y, x < n → y < n → circ f (x, y) = 0) : ∃ p : Nat → Nat → Int, (∀ x y, x < n → y ≤ n → p (x + 1) y = p x y + f.H x y) ∧ ∀ x y, p x (y + 1) = p x y + f.V x y := by
  refine ⟨fun x y => sumI (fun j => f.H j 0) x + sumI (f.V x) y, fun x y hx hy => ?_, fun x y => ?_⟩
  · induction y with
    | zero => simp only [sumI]; omega
    | succ y ih =>
      have h1 := ih (by omega)
      have h2 := h x y hx (by omega)
      unfold circ at h2
      simp only [sumI] at h1 h2 ⊢
      omega
  · simp only [sumI]; omega
inductive Reach4 (X : Nat × Nat → Prop) : Nat × Nat → Prop
  | root : Reach4 X (0, 0)
  | step (p q : Nat × Nat) (hp : Reach4 X p) (ha : Adj4 p q) (hq : X q) : Reach4 X q
theorem leave {X : Nat × Nat → Prop} {L : List (Nat × Nat)} (h0 : (0, 0) ∈ L) {c : Nat × Nat} (h : Reach4 X c) : c ∉ L → ∃ p q, p ∈ L ∧ q ∉ L ∧ X q ∧ Adj4 p q := by
  induction h with
  | root => intro h; exact absurd h0 h
  | step p q hp ha hq ih =>
    intro h
    by_cases h1 : p ∈ L
    · exact ⟨p, q, h1, h, hq, ha⟩
    · exact ih h1
theorem Laid.root {L : List (Nat × Nat)} (h : Laid L) : (0, 0) ∈ L := by
  induction h with
  | one => simp
  | more c p L _ _ _ _ ih => simp [ih]
theorem laid_all {X : Nat × Nat → Prop} {U : List (Nat × Nat)} (hU : ∀ c, X c → c ∈ U) (h0 : X (0, 0)) (hr : ∀ c, X c → Reach4 X c) : ∃ L, Laid L ∧ ∀ c, c ∈ L ↔ X c := by
  classical
  have key : ∀ n (L : List (Nat × Nat)), Laid L → (∀ c ∈ L, X c) → (U.filter (fun c => decide (c ∉ L))).length ≤ n → ∃ L, Laid L ∧ ∀ c, c ∈ L ↔ X c := by
    intro n
    induction n with
    | zero =>
      intro L hL hX hn
      refine ⟨L, hL, fun c => ⟨hX c, fun hc => ?_⟩⟩
      have : U.filter (fun c => decide (c ∉ L)) = [] := List.eq_nil_of_length_eq_zero (by omega)
      rw [List.filter_eq_nil_iff] at this
      have := this c (hU c hc)
      simpa using this
    | succ n ih =>
      intro L hL hX hn
      by_cases h : ∀ c, X c → c ∈ L
      · exact ⟨L, hL, fun c => ⟨hX c, h c⟩⟩
      · simp only [Classical.not_forall] at h
        obtain ⟨c, hc, hcL⟩ := h
        obtain ⟨p, q, hp, hq, hxq, ha⟩ := leave hL.root (hr c hc) hcL
        refine ih (q :: L) (.more q p L hL hp ha hq) (fun d hd => ?_) ?_
        · rcases List.mem_cons.1 hd with rfl | hd
          · exact hxq
          · exact hX d hd
        · have hlt : (U.filter (fun c => decide (c ∉ q :: L))).length < (U.filter (fun c => decide (c ∉ L))).length := by
            have e : U.filter (fun c => decide (c ∉ q :: L)) = (U.filter (fun c => decide (c ∉ L))).filter (fun c => decide (c ≠ q)) := by
              rw [List.filter_filter]
              refine List.filter_congr fun c _ => ?_
              rw [Bool.eq_iff_iff]; simp
            rw [e]
            refine List.length_filter_lt_length_iff_exists.2 ⟨q, ?_, by simp⟩
            simp [hU q hxq, hq]
          omega
  exact key _ [(0, 0)] .one (fun c hc => by simp only [List.mem_singleton] at hc; subst hc; exact h0) (Nat.le_refl _)
/-- a form without circulation at the cells of a set is the difference of heights there, where the rest hangs together -/
theorem heights_exist {R : Nat × Nat → Prop} {n : Nat} (f : Form) (h0 : ¬ R (0, 0)) (hn : 0 < n) (hc : ∀ c, R c → circ f c = 0) (hr : ∀ c, c.1 < n → c.2 < n → ¬ R c → Reach4 (fun c => (c.1 < n ∧ c.2 < n) ∧ ¬ R c) c) :
    ∃ p : Nat → Nat → Int, ∀ x y, x < n → y < n → R (x, y) → p (x + 1) y = p x y + f.H x y ∧ p (x + 1) (y + 1) = p x (y + 1) + f.H x (y + 1) ∧ p x (y + 1) = p x y + f.V x y ∧ p (x + 1) (y + 1) = p (x + 1) y + f.V (x + 1) y := by
  obtain ⟨L, hL, hX⟩ := laid_all (X := fun c => (c.1 < n ∧ c.2 < n) ∧ ¬ R c) (U := (List.range n).flatMap fun x => (List.range n).map fun y => (x, y)) (fun c hc => by
    rw [List.mem_flatMap]
    exact ⟨c.1, by simpa using hc.1.1, by rw [List.mem_map]; exact ⟨c.2, by simpa using hc.1.2, rfl⟩⟩) ⟨⟨hn, hn⟩, h0⟩ (fun c hc => hr c hc.1.1 hc.1.2 hc.2)
  obtain ⟨g, k, z, r⟩ := extend hL (R := R) (fun c hcL => ((hX c).1 hcL).2) f
  obtain ⟨p, p1, p2⟩ := potential (f := g) (n := n) (fun x y hx hy => by
    by_cases hm : (x, y) ∈ L
    · exact z _ hm
    · rw [r _ hm]
      refine hc _ ?_
      rcases Classical.em (R (x, y)) with h | h
      · exact h
      · exact absurd ((hX _).2 ⟨⟨hx, hy⟩, h⟩) hm)
  refine ⟨p, fun x y hx hy hR => ⟨?_, ?_, ?_, ?_⟩⟩
  · rw [p1 x y hx (by omega), k.h0 x y hR]
  · rw [p1 x (y + 1) hx (by omega), k.h1 x y hR]
  · rw [p2 x y, k.v0 x y hR]
  · rw [p2 (x + 1) y, k.v1 x y hR]

/-- the square with a ring around it -/
def c10 (k : Nat) : Cel := ⟨((k % 10 : Nat) : Int) - 1, ((k / 10 : Nat) : Int) - 1⟩
def free10 (s k : Nat) : Bool := decide (k < 100) && !hasS s (c10 k)
def off10 (k t : Nat) : Bool := decide (1 ≤ k % 10 + t % 3) && decide (k % 10 + t % 3 ≤ 10) && (decide (1 ≤ k / 10 + t / 3) && decide (k / 10 + t / 3 ≤ 10))
def at10 (k t : Nat) : Nat := (k / 10 + t / 3 - 1) * 10 + (k % 10 + t % 3 - 1)
def nb10 (k : Nat) : List Nat := ((List.range 9).filter (off10 k)).map (at10 k)
theorem mem_nb10 {k w : Nat} (_hk : k < 100) : w ∈ nb10 k ↔ w < 100 ∧ (w % 10 ≤ k % 10 + 1 ∧ k % 10 ≤ w % 10 + 1) ∧ (w / 10 ≤ k / 10 + 1 ∧ k / 10 ≤ w / 10 + 1) := by
  unfold nb10
  rw [List.mem_map]
  constructor
  · rintro ⟨t, ht, rfl⟩
    rw [List.mem_filter, List.mem_range] at ht
    obtain ⟨h9, ho⟩ := ht
    unfold off10 at ho
    simp only [Bool.and_eq_true, decide_eq_true_eq] at ho
    have h3 : t / 3 < 3 := by omega
    unfold at10
    generalize ha : t / 3 = a at *
    generalize hb : t % 3 = b at *
    generalize hc : k / 10 = c at *
    generalize hd : k % 10 = d at *
    have : b < 3 := by omega
    omega
  · rintro ⟨h1, h2, h3⟩
    refine ⟨(w / 10 + 1 - k / 10) * 3 + (w % 10 + 1 - k % 10), ?_, ?_⟩
    · rw [List.mem_filter, List.mem_range]
      have e1 : ((w / 10 + 1 - k / 10) * 3 + (w % 10 + 1 - k % 10)) / 3 = w / 10 + 1 - k / 10 := by omega
      have e2 : ((w / 10 + 1 - k / 10) * 3 + (w % 10 + 1 - k % 10)) % 3 = w % 10 + 1 - k % 10 := by omega
      refine ⟨by omega, ?_⟩
      unfold off10
      rw [e1, e2]
      simp only [Bool.and_eq_true, decide_eq_true_eq]
      omega
    · have e1 : ((w / 10 + 1 - k / 10) * 3 + (w % 10 + 1 - k % 10)) / 3 = w / 10 + 1 - k / 10 := by omega
      have e2 : ((w / 10 + 1 - k / 10) * 3 + (w % 10 + 1 - k % 10)) % 3 = w % 10 + 1 - k % 10 := by omega
      unfold at10
      rw [e1, e2]; omega
theorem nb10_lt (a w : Nat) (h : w ∈ nb10 a) : w < 100 := by
  unfold nb10 at h
  rw [List.mem_map] at h
  obtain ⟨t, ht, rfl⟩ := h
  rw [List.mem_filter, List.mem_range] at ht
  obtain ⟨h9, ho⟩ := ht
  unfold off10 at ho
  simp only [Bool.and_eq_true, decide_eq_true_eq] at ho
  unfold at10; omega
theorem free10_lt {s k : Nat} (h : free10 s k = true) : k < 100 := by
  unfold free10 at h; simp only [Bool.and_eq_true, decide_eq_true_eq] at h; exact h.1
noncomputable def holesN (s : Nat) : Nat := roots nb10 (free10 s) 100
def tq (s x y : Nat) : Bool := let a := hasS s ⟨x, y⟩; let b := hasS s ⟨x + 1, y⟩; let c := hasS s ⟨x, y + 1⟩; let d := hasS s ⟨x + 1, y + 1⟩; (decide (a = d) && decide (b = c)) && !decide (a = b)
def tchS (s : Nat) : Bool := (List.range 7).any fun y => (List.range 7).any fun x => tq s x y
theorem tchS_no {s : Nat} (h : tchS s = false) {x y : Nat} (hx : x < 7) (hy : y < 7) : tq s x y = false := by
  unfold tchS at h
  rw [List.any_eq_false] at h
  have h1 := h y (by simpa using hy)
  simp only [Bool.not_eq_true] at h1
  rw [List.any_eq_false] at h1
  have h2 := h1 x (by simpa using hx)
  simpa using h2
def regR (s : Nat) (c : Nat × Nat) : Prop := hasS s ⟨(c.1 : Int) - 1, (c.2 : Int) - 1⟩ = true
theorem free10_at {s : Nat} {c : Nat × Nat} (h1 : c.1 < 10) (h2 : c.2 < 10) : free10 s (c.2 * 10 + c.1) = true ↔ ¬ regR s c := by
  unfold free10 regR c10
  have e1 : (c.2 * 10 + c.1) % 10 = c.1 := by omega
  have e2 : (c.2 * 10 + c.1) / 10 = c.2 := by omega
  rw [e1, e2]
  simp only [Bool.and_eq_true, decide_eq_true_eq, Bool.not_eq_true', Bool.not_eq_true]
  constructor
  · exact fun h => h.2
  · exact fun h => ⟨by omega, h⟩
theorem has_ring {s : Nat} {x y : Int} (h : hasS s ⟨x, y⟩ = true) : (0 ≤ x ∧ x ≤ 7) ∧ (0 ≤ y ∧ y ≤ 7) := okc_true.1 (hasS_ok h)
theorem reach4_of {s : Nat} (hh : holesN s = 1) (ht : tchS s = false) : ∀ c : Nat × Nat, c.1 < 10 → c.2 < 10 → ¬ regR s c → Reach4 (fun c => (c.1 < 10 ∧ c.2 < 10) ∧ ¬ regR s c) c := by
  have f0 : free10 s 0 = true := by
    rw [show (0 : Nat) = (0, 0).2 * 10 + ((0, 0) : Nat × Nat).1 from rfl, free10_at (by decide) (by decide)]
    intro h
    have := has_ring h
    simp at this
  have hall := one_root f0 hh
  have key : ∀ k, GReach nb10 (okE (free10 s)) 0 k → free10 s k = true ∧ Reach4 (fun c => (c.1 < 10 ∧ c.2 < 10) ∧ ¬ regR s c) (k % 10, k / 10) := by
    intro k hk
    induction hk with
    | root => exact ⟨f0, .root⟩
    | step p q hp hq hok ih =>
      obtain ⟨hpf, hpr⟩ := ih
      have hqf : free10 s q = true := hok
      have hp100 := free10_lt hpf
      have hq100 := free10_lt hqf
      refine ⟨hqf, ?_⟩
      rw [mem_nb10 hp100] at hq
      obtain ⟨_, hx, hy⟩ := hq
      have Xf : ∀ a b, a < 10 → b < 10 → free10 s (b * 10 + a) = true → (((a, b) : Nat × Nat).1 < 10 ∧ ((a, b) : Nat × Nat).2 < 10) ∧ ¬ regR s (a, b) := fun a b h1 h2 h3 => ⟨⟨h1, h2⟩, (free10_at (c := (a, b)) h1 h2).1 h3⟩
      have Xq := Xf (q % 10) (q / 10) (by omega) (by omega) (by rw [show q / 10 * 10 + q % 10 = q by omega]; exact hqf)
      have Xp := Xf (p % 10) (p / 10) (by omega) (by omega) (by rw [show p / 10 * 10 + p % 10 = p by omega]; exact hpf)
      by_cases e1 : p % 10 = q % 10
      · by_cases e2 : p / 10 = q / 10
        · rw [← e1, ← e2]; exact hpr
        · exact .step _ _ hpr (by unfold Adj4; simp only; omega) Xq
      · by_cases e2 : p / 10 = q / 10
        · exact .step _ _ hpr (by unfold Adj4; simp only; omega) Xq
        · -- a corner: one of the two others is free
          by_cases r1 : regR s (q % 10, p / 10)
          · by_cases r2 : regR s (p % 10, q / 10)
            · exfalso
              have b1 := has_ring r1
              have b2 := has_ring r2
              simp only at b1 b2
              have n1 := Xp.2
              have n2 := Xq.2
              unfold regR at r1 r2 n1 n2
              simp only [Bool.not_eq_true] at r1 r2 n1 n2
              have hx0 : min (p % 10) (q % 10) - 1 < 7 := by omega
              have hy0 : min (p / 10) (q / 10) - 1 < 7 := by omega
              have hno := tchS_no ht hx0 hy0
              unfold tq at hno
              simp only at hno
              rcases Nat.lt_or_ge (p % 10) (q % 10) with h1 | h1 <;> rcases Nat.lt_or_ge (p / 10) (q / 10) with h2 | h2
              · have g1 : (((min (p % 10) (q % 10) - 1 : Nat)) : Int) = ((p % 10 : Nat) : Int) - 1 := by omega
                have g2 : (((min (p / 10) (q / 10) - 1 : Nat)) : Int) = ((p / 10 : Nat) : Int) - 1 := by omega
                have g3 : ((p % 10 : Nat) : Int) - 1 + 1 = ((q % 10 : Nat) : Int) - 1 := by omega
                have g4 : ((p / 10 : Nat) : Int) - 1 + 1 = ((q / 10 : Nat) : Int) - 1 := by omega
                rw [g1, g2, g3, g4, n1, n2, r1, r2] at hno
                simp at hno
              · have g1 : (((min (p % 10) (q % 10) - 1 : Nat)) : Int) = ((p % 10 : Nat) : Int) - 1 := by omega
                have g2 : (((min (p / 10) (q / 10) - 1 : Nat)) : Int) = ((q / 10 : Nat) : Int) - 1 := by omega
                have g3 : ((p % 10 : Nat) : Int) - 1 + 1 = ((q % 10 : Nat) : Int) - 1 := by omega
                have g4 : ((q / 10 : Nat) : Int) - 1 + 1 = ((p / 10 : Nat) : Int) - 1 := by omega
                rw [g1, g2, g3, g4, n1, n2, r1, r2] at hno
                simp at hno
              · have g1 : (((min (p % 10) (q % 10) - 1 : Nat)) : Int) = ((q % 10 : Nat) : Int) - 1 := by omega
                have g2 : (((min (p / 10) (q / 10) - 1 : Nat)) : Int) = ((p / 10 : Nat) : Int) - 1 := by omega
                have g3 : ((q % 10 : Nat) : Int) - 1 + 1 = ((p % 10 : Nat) : Int) - 1 := by omega
                have g4 : ((p / 10 : Nat) : Int) - 1 + 1 = ((q / 10 : Nat) : Int) - 1 := by omega
                rw [g1, g2, g3, g4, n1, n2, r1, r2] at hno
                simp at hno
              · have g1 : (((min (p % 10) (q % 10) - 1 : Nat)) : Int) = ((q % 10 : Nat) : Int) - 1 := by omega
                have g2 : (((min (p / 10) (q / 10) - 1 : Nat)) : Int) = ((q / 10 : Nat) : Int) - 1 := by omega
                have g3 : ((q % 10 : Nat) : Int) - 1 + 1 = ((p % 10 : Nat) : Int) - 1 := by omega
                have g4 : ((q / 10 : Nat) : Int) - 1 + 1 = ((p / 10 : Nat) : Int) - 1 := by omega
                rw [g1, g2, g3, g4, n1, n2, r1, r2] at hno
                simp at hno
            · have Xr : (((p % 10, q / 10) : Nat × Nat).1 < 10 ∧ ((p % 10, q / 10) : Nat × Nat).2 < 10) ∧ ¬ regR s (p % 10, q / 10) := ⟨⟨by simp only; omega, by simp only; omega⟩, r2⟩
              have a1 : Adj4 (p % 10, p / 10) (p % 10, q / 10) := by unfold Adj4; dsimp only; omega
              have a2 : Adj4 (p % 10, q / 10) (q % 10, q / 10) := by unfold Adj4; dsimp only; omega
              exact .step _ _ (.step _ _ hpr a1 Xr) a2 Xq
          · have Xr : (((q % 10, p / 10) : Nat × Nat).1 < 10 ∧ ((q % 10, p / 10) : Nat × Nat).2 < 10) ∧ ¬ regR s (q % 10, p / 10) := ⟨⟨by simp only; omega, by simp only; omega⟩, r1⟩
            have a1 : Adj4 (p % 10, p / 10) (q % 10, p / 10) := by unfold Adj4; dsimp only; omega
            have a2 : Adj4 (q % 10, p / 10) (q % 10, q / 10) := by unfold Adj4; dsimp only; omega
            exact .step _ _ (.step _ _ hpr a1 Xr) a2 Xq
  intro c h1 h2 h3
  have hf := (free10_at h1 h2).2 h3
  have := (key _ (hall _ (by omega) hf)).2
  rw [show (c.2 * 10 + c.1) % 10 = c.1 by omega, show (c.2 * 10 + c.1) / 10 = c.2 by omega] at this
  exact this

/-- marks of numbers -/
structure ScanI (s k : Nat) (L : List Nat) : Prop where
  nd : L.Nodup
  lt : ∀ x, x ∈ L → x < 100
  se : ∀ x, x ∈ L ↔ seenB nb10 (free10 s) k x
theorem ScanI.zero (s : Nat) : ScanI s 0 [] := ⟨by simp, by simp, fun x => ⟨fun h => by simp at h, fun ⟨j, h, _⟩ => by omega⟩⟩
theorem ScanI.closed {s k : Nat} {L : List Nat} (h : ScanI s k L) : Closed nb10 (free10 s) (· ∈ L) := by
  intro x hx w hw hok
  exact (h.se w).2 (seenB_closed nb10 (free10 s) k x ((h.se x).1 hx) w hw hok)
theorem ScanI.skip {s k : Nat} {L : List Nat} (h : ScanI s k L) (hk : free10 s k = false ∨ k ∈ L) : ScanI s (k + 1) L ∧ ¬ rootB nb10 (free10 s) k := by
  have h1 : free10 s k = false ∨ seenB nb10 (free10 s) k k := hk.imp id (h.se k).1
  refine ⟨⟨h.nd, h.lt, fun x => by rw [h.se x, seenB_old h1]⟩, fun hr => ?_⟩
  rcases h1 with h2 | h2
  · rw [hr.1] at h2; cases h2
  · exact (seenB_root hr.1).1 hr h2
theorem ScanI.deep {s k n : Nat} {L : List Nat} (h : ScanI s k L) (hk : free10 s k = true) (hn : k ∉ L) (hf : 100 < n + L.length) : ScanI s (k + 1) (dfs nb10 (free10 s) n L k) ∧ rootB nb10 (free10 s) k := by
  have hd := dfs_done nb10_lt h.nd h.lt hn (free10_lt hk) hf h.closed
  obtain ⟨e, d, _⟩ := dfs_inv nb10_lt n L k h.nd h.lt hn (free10_lt hk) hf
  refine ⟨⟨d.nd, d.lt, fun x => by rw [hd x, h.se x, seenB_new hk]⟩, (seenB_root hk).2 fun hs => hn ((h.se k).2 hs)⟩
/-- breadth first: what is found now has not been seen before -/
def four_ (c : Cel) : List Dom := [⟨c.x, c.y, false⟩, ⟨c.x, c.y, true⟩, ⟨c.x - 1, c.y, false⟩, ⟨c.x, c.y - 1, true⟩]
theorem cvr_four {c : Cel} {d : Dom} (h : cvr c d = true) : d ∈ four_ c := by
  unfold cvr ca cb at h
  simp only [Bool.and_eq_true, Bool.or_eq_true, decide_eq_true_eq] at h
  obtain ⟨_, h⟩ := h
  obtain ⟨x, y, b⟩ := d
  obtain ⟨cx, cy⟩ := c
  unfold four_
  cases b <;> simp only [Cel.mk.injEq, Bool.false_eq_true, if_false, if_true] at h <;> simp <;> omega
theorem til_cover {l : List Int} {ds : List Dom} (h : isTil l ds = true) {c : Cel} (hc : hasS (regSet l) c = true) : ∃ d, d ∈ ds ∧ cvr c d = true := by
  unfold isTil at h
  simp only [Bool.and_eq_true, decide_eq_true_eq] at h
  have ho := hasS_ok hc
  have h1 := covS_bit ds ho
  rw [h.2] at h1
  unfold hasS at hc
  rw [Bool.and_eq_true] at hc
  rw [hc.2] at h1
  exact List.any_eq_true.1 h1.symm
theorem par_once {l : List Int} {ds : List Dom} (h : isPar l ds = true) {c : Cel} {d e : Dom} (hd : d ∈ ds) (he : e ∈ ds) (h1 : cvr c d = true) (h2 : cvr c e = true) : d = e := by
  obtain ⟨i, hi, rfl⟩ := List.getElem_of_mem hd
  obtain ⟨j, hj, rfl⟩ := List.getElem_of_mem he
  have key : ∀ i j (hi : i < ds.length) (hj : j < ds.length), i < j → cvr c ds[i] = true → cvr c ds[j] = true → False := by
    intro i j hi hj hij h1 h2
    have hs := (isPar_step h).2 j hj
    unfold stepOk at hs
    simp only [Bool.and_eq_true] at hs
    have hf := hs.2.1
    rw [fits_iff, gD_eq hj] at hf
    simp only [Bool.and_eq_true, Bool.not_eq_true'] at hf
    have hok : okD ds[j] = true := by rw [← gD_eq hj]; exact hs.1
    unfold cvr at h2
    simp only [Bool.and_eq_true, Bool.or_eq_true, decide_eq_true_eq] at h2
    have hcb : (covS (ds.take j)).testBit (idx c) = true := by
      have hco : okc c.x c.y = true := by
        rcases h2.2 with e | e
        · rw [← e]; exact ok_ca hok
        · rw [← e]; exact ok_cb hok
      rw [covS_bit _ hco, List.any_eq_true]
      exact ⟨ds[i], List.mem_take_iff_getElem.2 ⟨i, by omega, rfl⟩, h1⟩
    rcases h2.2 with e | e
    · rw [← e, hf.1.2] at hcb; cases hcb
    · rw [← e, hf.2.2] at hcb; cases hcb
  rcases Nat.lt_trichotomy i j with hij | rfl | hij
  · exact (key i j hi hj hij h1 h2).elim
  · rfl
  · exact (key j i hj hi hij h2 h1).elim
theorem cvr_of {c : Cel} {d : Dom} (h : okD d = true) (h2 : ca d = c ∨ cb d = c) : cvr c d = true := by
  unfold cvr; rw [h, Bool.true_and, Bool.or_eq_true, decide_eq_true_eq, decide_eq_true_eq]; exact h2
theorem par_okd {l : List Int} {ds : List Dom} (h : isPar l ds = true) {d : Dom} (hd : d ∈ ds) : okD d = true := by
  obtain ⟨j, hj, rfl⟩ := List.getElem_of_mem hd
  rw [← gD_eq hj]; exact isPar_ok h hj
def sg (n : Int) : Int := if n % 2 = 1 then 1 else -1
theorem sg_succ (n : Int) : sg (n + 1) = -(sg n) := by unfold sg; split <;> split <;> omega
def hE (ds : List Dom) (x y : Int) : Int := if (⟨x, y - 1, true⟩ : Dom) ∈ ds then -3 * sg (x + y) else sg (x + y)
def vE (ds : List Dom) (x y : Int) : Int := if (⟨x - 1, y, false⟩ : Dom) ∈ ds then 3 * sg (x + y) else -(sg (x + y))
def domF (ds : List Dom) : Form := ⟨fun X Y => hE ds ((X : Int) - 1) ((Y : Int) - 1), fun X Y => vE ds ((X : Int) - 1) ((Y : Int) - 1)⟩
theorem circ_zero {l : List Int} {ds : List Dom} (h : isTil l ds = true) (c : Nat × Nat) (hc : regR (regSet l) c) : circ (domF ds) c = 0 := by
  obtain ⟨X, Y⟩ := c
  have hp : isPar l ds = true := by unfold isTil at h; simp only [Bool.and_eq_true] at h; exact h.1
  unfold regR at hc
  simp only at hc
  generalize hx : ((X : Int) - 1) = x at hc
  generalize hy : ((Y : Int) - 1) = y at hc
  obtain ⟨d, hd, hcv⟩ := til_cover h hc
  have h4 := cvr_four hcv
  have e1 : (⟨x, y - 1, true⟩ : Dom) ∈ ds ↔ d = ⟨x, y - 1, true⟩ :=
    ⟨fun h5 => par_once hp hd h5 hcv (cvr_of (par_okd hp h5) (.inr (by unfold cb; simp))), fun h5 => h5 ▸ hd⟩
  have e2 : (⟨x, y, false⟩ : Dom) ∈ ds ↔ d = ⟨x, y, false⟩ :=
    ⟨fun h5 => par_once hp hd h5 hcv (cvr_of (par_okd hp h5) (.inl rfl)), fun h5 => h5 ▸ hd⟩
  have e3 : (⟨x, y, true⟩ : Dom) ∈ ds ↔ d = ⟨x, y, true⟩ :=
    ⟨fun h5 => par_once hp hd h5 hcv (cvr_of (par_okd hp h5) (.inl rfl)), fun h5 => h5 ▸ hd⟩
  have e4 : (⟨x - 1, y, false⟩ : Dom) ∈ ds ↔ d = ⟨x - 1, y, false⟩ :=
    ⟨fun h5 => par_once hp hd h5 hcv (cvr_of (par_okd hp h5) (.inr (by unfold cb; simp))), fun h5 => h5 ▸ hd⟩
  unfold circ domF
  simp only
  have hx1 : (((X + 1 : Nat) : Int) - 1) = x + 1 := by omega
  have hy1 : (((Y + 1 : Nat) : Int) - 1) = y + 1 := by omega
  rw [hx, hy, hx1, hy1]
  unfold hE vE
  rw [show y + 1 - 1 = y by omega, show x + 1 - 1 = x by omega]
  simp only [e1, e2, e3, e4]
  rw [show x + 1 + y = x + y + 1 by omega, show x + (y + 1) = x + y + 1 by omega, sg_succ]
  unfold four_ at h4
  simp only [List.mem_cons, List.not_mem_nil, or_false] at h4
  rcases h4 with rfl | rfl | rfl | rfl <;> simp <;> omega
/-- simple regions -/
theorem pot_exists {l : List Int} {ds : List Dom} (h : isTil l ds = true) (hh : holesN (regSet l) = 1) (ht : tchS (regSet l) = false) :
    ∃ p : Nat → Nat → Int, ∀ x y, x < 10 → y < 10 → regR (regSet l) (x, y) → p (x + 1) y = p x y + (domF ds).H x y ∧ p (x + 1) (y + 1) = p x (y + 1) + (domF ds).H x (y + 1) ∧ p x (y + 1) = p x y + (domF ds).V x y ∧ p (x + 1) (y + 1) = p (x + 1) y + (domF ds).V (x + 1) y :=
  heights_exist (domF ds) (by intro h0; have := has_ring h0; simp at this) (by decide) (circ_zero h) (reach4_of hh ht)
/-- corners by their numbers -/
def cX (u : Nat) : Int := ((u % 9 : Nat) : Int)
def cY (u : Nat) : Int := ((u / 9 : Nat) : Int)
/-- the cells beside a side, and the domino that lies across it -/
def opH (s : Nat) (ds : List Dom) (x y : Int) : Bool := (hasS s ⟨x, y - 1⟩ || hasS s ⟨x, y⟩) && !decide ((⟨x, y - 1, true⟩ : Dom) ∈ ds)
def opV (s : Nat) (ds : List Dom) (x y : Int) : Bool := (hasS s ⟨x - 1, y⟩ || hasS s ⟨x, y⟩) && !decide ((⟨x - 1, y, false⟩ : Dom) ∈ ds)
/-- one may go from a corner to another one -/
def opE (s : Nat) (ds : List Dom) (u v : Nat) : Bool :=
  if cY u = cY v ∧ cX v = cX u + 1 then opH s ds (cX u) (cY u)
  else if cY u = cY v ∧ cX u = cX v + 1 then opH s ds (cX v) (cY v)
  else if cX u = cX v ∧ cY v = cY u + 1 then opV s ds (cX u) (cY u)
  else if cX u = cX v ∧ cY u = cY v + 1 then opV s ds (cX v) (cY v)
  else false
def stE (u v : Nat) : Int := if cY u = cY v then sg (cX u + cY u) else -(sg (cX u + cY u))
theorem opE_pot {l : List Int} {ds : List Dom} {p : Nat → Nat → Int}
    (hp : ∀ x y, x < 10 → y < 10 → regR (regSet l) (x, y) → p (x + 1) y = p x y + (domF ds).H x y ∧ p (x + 1) (y + 1) = p x (y + 1) + (domF ds).H x (y + 1) ∧ p x (y + 1) = p x y + (domF ds).V x y ∧ p (x + 1) (y + 1) = p (x + 1) y + (domF ds).V (x + 1) y)
    {u v : Nat} (hu : u < 81) (hv : v < 81) (h : opE (regSet l) ds u v = true) : p (v % 9 + 1) (v / 9 + 1) = p (u % 9 + 1) (u / 9 + 1) + stE u v := by
  have hH : ∀ x y : Nat, x < 8 → y < 9 → opH (regSet l) ds (x : Int) (y : Int) = true → p (x + 1 + 1) (y + 1) = p (x + 1) (y + 1) + sg ((x : Int) + (y : Int)) := by
    intro x y hx hy ho
    unfold opH at ho
    simp only [Bool.and_eq_true, Bool.or_eq_true, Bool.not_eq_true', decide_eq_false_iff_not] at ho
    obtain ⟨ho, hn⟩ := ho
    have hE1 : (domF ds).H (x + 1) (y + 1) = sg ((x : Int) + (y : Int)) := by
      show hE ds (((x + 1 : Nat) : Int) - 1) (((y + 1 : Nat) : Int) - 1) = _
      rw [show (((x + 1 : Nat) : Int) - 1) = x by omega, show (((y + 1 : Nat) : Int) - 1) = y by omega]
      unfold hE; rw [if_neg hn]
    rcases ho with ho | ho
    · have hr := has_ring ho
      have := (hp (x + 1) y (by omega) (by omega) (by unfold regR; simp only; rw [show (((x + 1 : Nat) : Int) - 1) = x by omega]; exact ho)).2.1
      rw [this, hE1]
    · have := (hp (x + 1) (y + 1) (by omega) (by omega) (by unfold regR; simp only; rw [show (((x + 1 : Nat) : Int) - 1) = x by omega, show (((y + 1 : Nat) : Int) - 1) = y by omega]; exact ho)).1
      rw [this, hE1]
  have hV : ∀ x y : Nat, x < 9 → y < 8 → opV (regSet l) ds (x : Int) (y : Int) = true → p (x + 1) (y + 1 + 1) = p (x + 1) (y + 1) - sg ((x : Int) + (y : Int)) := by
    intro x y hx hy ho
    unfold opV at ho
    simp only [Bool.and_eq_true, Bool.or_eq_true, Bool.not_eq_true', decide_eq_false_iff_not] at ho
    obtain ⟨ho, hn⟩ := ho
    have hE1 : (domF ds).V (x + 1) (y + 1) = -(sg ((x : Int) + (y : Int))) := by
      show vE ds (((x + 1 : Nat) : Int) - 1) (((y + 1 : Nat) : Int) - 1) = _
      rw [show (((x + 1 : Nat) : Int) - 1) = x by omega, show (((y + 1 : Nat) : Int) - 1) = y by omega]
      unfold vE; rw [if_neg hn]
    rcases ho with ho | ho
    · have := (hp x (y + 1) (by omega) (by omega) (by unfold regR; simp only; rw [show (((y + 1 : Nat) : Int) - 1) = y by omega]; exact ho)).2.2.2
      rw [this, hE1]; omega
    · have := (hp (x + 1) (y + 1) (by omega) (by omega) (by unfold regR; simp only; rw [show (((x + 1 : Nat) : Int) - 1) = x by omega, show (((y + 1 : Nat) : Int) - 1) = y by omega]; exact ho)).2.2.1
      rw [this, hE1]; omega
  unfold opE at h
  unfold stE
  unfold cX cY at *
  split at h
  · rename_i hc
    rw [if_pos hc.1]
    have e1 : v % 9 = u % 9 + 1 := by omega
    have e2 : v / 9 = u / 9 := by omega
    rw [e1, e2]
    exact hH (u % 9) (u / 9) (by omega) (by omega) h
  · split at h
    · rename_i hc
      rw [if_pos hc.1]
      have e1 : u % 9 = v % 9 + 1 := by omega
      have e2 : u / 9 = v / 9 := by omega
      have h3 := hH (v % 9) (v / 9) (by omega) (by omega) h
      rw [e1, e2, h3]
      rw [show ((v % 9 + 1 : Nat) : Int) + ((v / 9 : Nat) : Int) = ((v % 9 : Nat) : Int) + ((v / 9 : Nat) : Int) + 1 by omega, sg_succ]; omega
    · split at h
      · rename_i _ _ hc
        rw [if_neg (by omega)]
        have e1 : v / 9 = u / 9 + 1 := by omega
        have e2 : v % 9 = u % 9 := by omega
        have h3 := hV (u % 9) (u / 9) (by omega) (by omega) h
        rw [e1, e2, h3]; omega
      · split at h
        · rename_i _ _ _ hc
          rw [if_neg (by omega)]
          have e1 : u / 9 = v / 9 + 1 := by omega
          have e2 : u % 9 = v % 9 := by omega
          have h3 := hV (v % 9) (v / 9) (by omega) (by omega) h
          rw [e1, e2, h3]
          rw [show ((v % 9 : Nat) : Int) + ((v / 9 + 1 : Nat) : Int) = ((v % 9 : Nat) : Int) + ((v / 9 : Nat) : Int) + 1 by omega, sg_succ]; omega
        · cases h

/-- pieces -/
def okS (s : Nat) (_ w : Cel) : Bool := hasS s w
abbrev PR (s : Nat) (a b : Cel) : Prop := GReach nbs (okS s) a b
theorem PR.has {s : Nat} {a b : Cel} (ha : hasS s a = true) (h : PR s a b) : hasS s b = true := by
  induction h with
  | root => exact ha
  | step p q _ _ hok _ => exact hok
theorem nbs_symm {p q : Cel} (h : q ∈ nbs p) : p ∈ nbs q := by rw [mem_nbs] at *; rw [nbr_comm]; exact h
theorem PR.symm {s : Nat} {a b : Cel} (ha : hasS s a = true) (h : PR s a b) : PR s b a := by
  induction h with
  | root => exact .root
  | step p q hp hq hok ih => exact GReach.trans (.step q p .root (nbs_symm hq) (PR.has ha hp)) ih
open Classical in
noncomputable def rchS (s : Nat) (c : Cel) : Nat := setL ((setCells s).filter (fun w => decide (PR s c w)))
theorem setL_has {L : List Cel} (hL : ∀ c ∈ L, okc c.x c.y = true) {w : Cel} (hw : okc w.x w.y = true) : hasS (setL L) w = true ↔ w ∈ L := by
  unfold hasS
  rw [hw, Bool.true_and, setL_bit, decide_eq_true_eq]
  constructor
  · rintro ⟨c, hc, he⟩; rw [← idx_inj (hL c hc) hw he]; exact hc
  · intro h; exact ⟨w, h, rfl⟩
theorem rchS_has {s : Nat} {c w : Cel} (hc : hasS s c = true) : hasS (rchS s c) w = true ↔ PR s c w := by
  have hL : ∀ d ∈ (setCells s).filter (fun w => @decide (PR s c w) (Classical.propDecidable _)), okc d.x d.y = true := fun d hd => hasS_ok (set_mem.1 (List.mem_filter.1 hd).1)
  constructor
  · intro h
    have hw := hasS_ok h
    have := (setL_has hL hw).1 h
    simpa using (List.mem_filter.1 this).2
  · intro h
    have hs := PR.has hc h
    refine (setL_has hL (hasS_ok hs)).2 (List.mem_filter.2 ⟨set_mem.2 hs, by simpa using h⟩)
def rootC (s : Nat) (c : Cel) : Prop := ∀ d, hasS s d = true → idx d < idx c → ¬ PR s d c
open Classical in
noncomputable def rootsP (s m : Nat) : Nat := ((setCells s).filter (fun c => decide (idx c < m ∧ rootC s c))).length
noncomputable def piecesN (s : Nat) : Nat := rootsP s 64
def seenP (s m : Nat) (w : Cel) : Prop := ∃ d, hasS s d = true ∧ idx d < m ∧ PR s d w
theorem filter_one {L : List Cel} (hn : L.Nodup) {c : Cel} (hc : c ∈ L) (p q : Cel → Bool) (h1 : p c = false) (h2 : q c = true) (h3 : ∀ d, d ∈ L → d ≠ c → p d = q d) : (L.filter q).length = (L.filter p).length + 1 := by
  induction L with
  | nil => cases hc
  | cons a L ih =>
    rw [List.nodup_cons] at hn
    rcases List.mem_cons.1 hc with rfl | hc'
    · rw [List.filter_cons_of_pos h2, List.filter_cons_of_neg (by simp [h1]), List.length_cons]
      congr 1
      congr 1
      exact List.filter_congr fun d hd => (h3 d (by simp [hd]) (by rintro rfl; exact hn.1 hd)).symm
    · have hne : a ≠ c := by rintro rfl; exact hn.1 hc'
      have ih' := ih hn.2 hc' (fun d hd => h3 d (by simp [hd]))
      have e := h3 a (by simp) hne
      cases hq : q a
      · rw [hq] at e; rw [List.filter_cons_of_neg (by simp [hq]), List.filter_cons_of_neg (by simp [e]), ih']
      · rw [hq] at e; rw [List.filter_cons_of_pos hq, List.filter_cons_of_pos e, List.length_cons, List.length_cons, ih']
theorem setCells_nodup (s : Nat) : (setCells s).Nodup := by
  unfold setCells
  rw [List.Nodup, List.pairwise_map]
  have h := (List.nodup_range (n := 64)).filter s.testBit
  refine List.Pairwise.imp_of_mem (fun {a b} ha hb hab e => hab ?_) h
  rw [List.mem_filter, List.mem_range] at ha hb
  rw [← idx_cN ha.1, ← idx_cN hb.1, e]
theorem root_of_first {s t m : Nat} (ht : ∀ w, hasS t w = true ↔ hasS s w = true ∧ ¬ seenP s m w) {c : Cel} (hc : hasS t c = true) (hmin : ∀ d, hasS t d = true → idx c ≤ idx d) :
    m ≤ idx c ∧ rootC s c ∧ rootsP s (idx c + 1) = rootsP s m + 1 ∧ (∀ w, seenP s (idx c + 1) w ↔ seenP s m w ∨ PR s c w) ∧ ∀ w, PR t c w ↔ PR s c w := by
  have hcs := (ht c).1 hc
  have hm : m ≤ idx c := by
    rcases Nat.lt_or_ge (idx c) m with h | h
    · exact absurd ⟨c, hcs.1, h, .root⟩ hcs.2
    · exact h
  have hbel : ∀ d, hasS s d = true → idx d < idx c → seenP s m d := by
    intro d hd hlt
    rcases Classical.em (seenP s m d) with h | h
    · exact h
    · have := hmin d ((ht d).2 ⟨hd, h⟩); omega
  have hroot : rootC s c := by
    intro d hd hlt hr
    obtain ⟨e, he, hem, her⟩ := hbel d hd hlt
    exact hcs.2 ⟨e, he, hem, her.trans hr⟩
  refine ⟨hm, hroot, ?_, fun w => ?_, fun w => ?_⟩
  · unfold rootsP
    refine filter_one (setCells_nodup s) (set_mem.2 hcs.1) _ _ (by simp; omega) (by simp [hroot]) fun d hd hne => ?_
    rw [decide_eq_decide]
    have hds := set_mem.1 hd
    constructor
    · rintro ⟨h1, h2⟩; exact ⟨by omega, h2⟩
    · rintro ⟨h1, h2⟩
      refine ⟨?_, h2⟩
      rcases Nat.lt_or_ge (idx d) m with h3 | h3
      · exact h3
      · have hlt : idx d < idx c := by
          rcases Nat.lt_or_ge (idx d) (idx c) with h4 | h4
          · exact h4
          · exact absurd (idx_inj (hasS_ok hds) (hasS_ok hcs.1) (by omega)) hne
        obtain ⟨e, he, hem, her⟩ := hbel d hds hlt
        exact absurd her (h2 e he (by omega))
  · constructor
    · rintro ⟨d, hd, hlt, hr⟩
      rcases Nat.lt_or_ge (idx d) (idx c) with h4 | h4
      · obtain ⟨e, he, hem, her⟩ := hbel d hd h4
        exact .inl ⟨e, he, hem, her.trans hr⟩
      · rw [idx_inj (hasS_ok hd) (hasS_ok hcs.1) (by omega)] at hr; exact .inr hr
    · rintro (⟨d, hd, hlt, hr⟩ | hr)
      · exact ⟨d, hd, by omega, hr⟩
      · exact ⟨c, hcs.1, by omega, hr⟩
  · constructor
    · intro h
      induction h with
      | root => exact .root
      | step p q _ hq hok ih => exact .step p q ih hq ((ht q).1 hok).1
    · intro h
      induction h with
      | root => exact .root
      | step p q hp hq hok ih =>
        refine .step p q ih hq ((ht q).2 ⟨hok, ?_⟩)
        rintro ⟨d, hd, hlt, hr⟩
        have h1 : PR s q c := PR.symm hcs.1 (.step p q hp hq hok)
        exact hcs.2 ⟨d, hd, hlt, hr.trans h1⟩
open Classical in
noncomputable def simB (l : List Int) : Bool := regOk l && (decide (piecesN (regSet l) = 1) && (decide (holesN (regSet l) = 1) && !tchS (regSet l)))
theorem simB_ok {l : List Int} (h : simB l = true) : regOk l = true ∧ piecesN (regSet l) = 1 ∧ holesN (regSet l) = 1 ∧ tchS (regSet l) = false := by
  unfold simB at h; simp only [Bool.and_eq_true, decide_eq_true_eq, Bool.not_eq_true'] at h; exact h
def inD (u : Nat) (d : Int × Int) : Bool := inB (cX u + d.1) 0 8 && inB (cY u + d.2) 0 8
def atU (u : Nat) (d : Int × Int) : Nat := ((cY u + d.2) * 9 + (cX u + d.1)).toNat
def hnbT (dir : Nat → Int × Int) (u t : Nat) : List Nat := ((List.range t).filter (fun j => inD u (dir j))).map (fun j => atU u (dir j))
def hnb (dir : Nat → Int × Int) (u : Nat) : List Nat := hnbT dir u 4
theorem hnbT_yes {dir : Nat → Int × Int} {u t : Nat} (h : inD u (dir t) = true) : hnbT dir u (t + 1) = hnbT dir u t ++ [atU u (dir t)] := by
  unfold hnbT; rw [List.range_succ, List.filter_append, List.map_append]; simp [h]
theorem hnbT_no {dir : Nat → Int × Int} {u t : Nat} (h : inD u (dir t) = false) : hnbT dir u (t + 1) = hnbT dir u t := by
  unfold hnbT; rw [List.range_succ, List.filter_append, List.map_append]; simp [h]
theorem atU_lt {u : Nat} {d : Int × Int} (h : inD u d = true) : atU u d < 81 ∧ cX (atU u d) = cX u + d.1 ∧ cY (atU u d) = cY u + d.2 := by
  unfold inD at h
  rw [Bool.and_eq_true, inB_true, inB_true] at h
  unfold atU cX cY at *
  omega
def PotOk (l : List Int) (ds : List Dom) (P : Nat → Int) : Prop := ∀ u v, u < 81 → v < 81 → opE (regSet l) ds u v = true → P v = P u + stE u v
theorem pot_ex {l : List Int} {ds : List Dom} (h : isTil l ds = true) (hs : simB l = true) : ∃ P, PotOk l ds P := by
  obtain ⟨_, _, hh, ht⟩ := simB_ok hs
  obtain ⟨p, hp⟩ := pot_exists h hh ht
  exact ⟨fun u => p (u % 9 + 1) (u / 9 + 1), fun u v hu hv ho => opE_pot hp hu hv ho⟩
open Classical in
noncomputable def potF (l : List Int) (ds : List Dom) : Nat → Int := Classical.epsilon (PotOk l ds)
theorem potF_ok {l : List Int} {ds : List Dom} (h : isTil l ds = true) (hs : simB l = true) : PotOk l ds (potF l ds) := Classical.epsilon_spec (pot_ex h hs)
/-- the first corner -/
def stU (s : Nat) : Nat := firstI s / 8 * 9 + firstI s % 8
noncomputable def valF (l : List Int) (ds : List Dom) (v : Nat) : Int := potF l ds v - potF l ds (stU (regSet l))
theorem valF_step {l : List Int} {ds : List Dom} (h : isTil l ds = true) (hs : simB l = true) {u v : Nat} (hu : u < 81) (hv : v < 81) (ho : opE (regSet l) ds u v = true) : valF l ds v = valF l ds u + stE u v := by
  unfold valF; rw [potF_ok h hs u v hu hv ho]; omega
theorem valF_start (l : List Int) (ds : List Dom) : valF l ds (stU (regSet l)) = 0 := by unfold valF; omega
theorem stE_one (u v : Nat) : stE u v = 1 ∨ stE u v = -1 := by unfold stE sg; split <;> split <;> simp
/-- the list of heights, by the corners that have been found -/
noncomputable def hsL (l : List Int) (ds : List Dom) (L : List Nat) : List Int := (List.range 81).map (fun v => if v ∈ L then valF l ds v else -1000)
theorem hsL_len (l : List Int) (ds : List Dom) (L : List Nat) : (hsL l ds L).length = 81 := by unfold hsL; simp
theorem gI_hsL {l : List Int} {ds : List Dom} {L : List Nat} {v : Nat} (hv : v < 81) : gI (hsL l ds L) v = if v ∈ L then valF l ds v else -1000 := by
  rw [gI_eq (by rw [hsL_len]; exact hv)]; unfold hsL; simp
theorem hsL_add {l : List Int} {ds : List Dom} {L : List Nat} {v : Nat} (hv : v < 81) : hsL l ds (L ++ [v]) = (hsL l ds L).set v (valF l ds v) := by
  apply List.ext_getElem
  · simp [hsL]
  · intro i h1 h2
    have hi : i < 81 := by simpa [hsL] using h1
    rw [List.getElem_set]
    unfold hsL
    simp only [List.getElem_map, List.getElem_range, List.mem_append, List.mem_singleton]
    by_cases e : v = i
    · subst e; simp
    · rw [if_neg e]
      have : ¬ i = v := fun h => e h.symm
      simp [this]
structure HInv (dir : Nat → Int × Int) (l : List Int) (ds : List Dom) (L : List Nat) (k : Nat) : Prop where
  g : GInv (hnb dir) (opE (regSet l) ds) (stU (regSet l)) L k
  lt : ∀ u, u ∈ L → u < 81
  bd : ∀ u, u ∈ L → -((L.length : Int) - 1) ≤ valF l ds u ∧ valF l ds u ≤ (L.length : Int) - 1
theorem HInv.len {dir : Nat → Int × Int} {l : List Int} {ds : List Dom} {L : List Nat} {k : Nat} (h : HInv dir l ds L k) : L.length ≤ 81 := nodup_len 81 L h.g.nd h.lt
theorem HInv.init (dir : Nat → Int × Int) (l : List Int) (ds : List Dom) (h : stU (regSet l) < 81) : HInv dir l ds [stU (regSet l)] 0 :=
  ⟨GInv.init _ _ _, fun u hu => by rw [List.mem_singleton] at hu; subst hu; exact h, fun u hu => by rw [List.mem_singleton] at hu; subst hu; rw [valF_start]; simp⟩
theorem HInv.val {dir : Nat → Int × Int} {l : List Int} {ds : List Dom} {L : List Nat} {k : Nat} (h : HInv dir l ds L k) {v : Nat} (hv : v < 81) : gI (hsL l ds L) v = -1000 ↔ v ∉ L := by
  rw [gI_hsL hv]
  by_cases hm : v ∈ L
  · rw [if_pos hm]
    have h1 := h.bd v hm
    have h2 := h.len
    constructor
    · intro e; omega
    · intro h; exact absurd hm h
  · rw [if_neg hm]; simp [hm]
/-- what is found on the way from one corner -/
structure HIn (dir : Nat → Int × Int) (l : List Int) (ds : List Dom) (L : List Nat) (u t : Nat) (M : List Nat) : Prop where
  eq : M = (hnbT dir u t).foldl (gst (opE (regSet l) ds) u) L
  lt : ∀ v, v ∈ M → v < 81
  nd : M.Nodup
  le : L.length ≤ M.length
  bd : ∀ v, v ∈ M → -((M.length : Int) - 1) ≤ valF l ds v ∧ valF l ds v ≤ (M.length : Int) - 1
theorem HInv.into {dir : Nat → Int × Int} {l : List Int} {ds : List Dom} {L : List Nat} {k : Nat} (h : HInv dir l ds L k) (u : Nat) : HIn dir l ds L u 0 L := ⟨rfl, h.lt, h.g.nd, Nat.le_refl _, h.bd⟩
theorem HIn.len {dir : Nat → Int × Int} {l : List Int} {ds : List Dom} {L M : List Nat} {u t : Nat} (h : HIn dir l ds L u t M) : M.length ≤ 81 := nodup_len 81 M h.nd h.lt
theorem HIn.val {dir : Nat → Int × Int} {l : List Int} {ds : List Dom} {L M : List Nat} {u t : Nat} (h : HIn dir l ds L u t M) {v : Nat} (hv : v < 81) : gI (hsL l ds M) v = -1000 ↔ v ∉ M := by
  rw [gI_hsL hv]
  by_cases hm : v ∈ M
  · rw [if_pos hm]
    have h1 := h.bd v hm
    have h2 := h.len
    constructor
    · intro e; omega
    · intro h; exact absurd hm h
  · rw [if_neg hm]; simp [hm]
theorem HIn.sub {dir : Nat → Int × Int} {l : List Int} {ds : List Dom} {L M : List Nat} {u t : Nat} (h : HIn dir l ds L u t M) {v : Nat} (hv : v ∈ L) : v ∈ M := by rw [h.eq]; exact foldl_sub hv
/-- a side that is not gone -/
theorem HIn.skip {dir : Nat → Int × Int} {l : List Int} {ds : List Dom} {L M : List Nat} {u t : Nat} (h : HIn dir l ds L u t M) (hn : inD u (dir t) = false ∨ atU u (dir t) ∈ M ∨ opE (regSet l) ds u (atU u (dir t)) = false) : HIn dir l ds L u (t + 1) M := by
  refine ⟨?_, h.lt, h.nd, h.le, h.bd⟩
  rcases Bool.eq_false_or_eq_true (inD u (dir t)) with hi | hi
  · rw [hnbT_yes hi, List.foldl_append, ← h.eq]
    show M = gst _ u M _
    rw [gst_no]
    rcases hn with hn | hn | hn
    · rw [hi] at hn; cases hn
    · exact .inr hn
    · exact .inl hn
  · rw [hnbT_no hi]; exact h.eq
/-- a side that is gone -/
theorem HIn.go {dir : Nat → Int × Int} {l : List Int} {ds : List Dom} {L M : List Nat} {u t : Nat} (h : HIn dir l ds L u t M) (ht : isTil l ds = true) (hs : simB l = true) (hu : u ∈ L) (hi : inD u (dir t) = true) (hn : atU u (dir t) ∉ M) (ho : opE (regSet l) ds u (atU u (dir t)) = true) :
    HIn dir l ds L u (t + 1) (M ++ [atU u (dir t)]) ∧ hsL l ds (M ++ [atU u (dir t)]) = (hsL l ds M).set (atU u (dir t)) (gI (hsL l ds M) u + stE u (atU u (dir t))) := by
  have hu81 := h.lt u (h.sub hu)
  have hw := (atU_lt hi).1
  have hval := valF_step ht hs hu81 hw ho
  refine ⟨⟨?_, fun v hv => ?_, ?_, ?_, fun v hv => ?_⟩, ?_⟩
  · rw [hnbT_yes hi, List.foldl_append, ← h.eq]
    show _ = gst _ u M _
    rw [gst_yes ho hn]
  · rw [List.mem_append, List.mem_singleton] at hv
    rcases hv with hv | rfl
    · exact h.lt v hv
    · exact hw
  · rw [List.nodup_append]
    refine ⟨h.nd, by simp, fun a ha b hb => ?_⟩
    rw [List.mem_singleton] at hb
    subst hb
    rintro rfl
    exact hn ha
  · rw [List.length_append]; have := h.le; omega
  · rw [List.length_append, List.length_singleton]
    rw [List.mem_append, List.mem_singleton] at hv
    rcases hv with hv | rfl
    · have := h.bd v hv; omega
    · have h1 := h.bd u (h.sub hu)
      have h2 := stE_one u (atU u (dir t))
      omega
  · rw [hsL_add hw, gI_hsL hu81, if_pos (h.sub hu), hval]
theorem HIn.out {dir : Nat → Int × Int} {l : List Int} {ds : List Dom} {L M : List Nat} {k : Nat} (h : HInv dir l ds L k) (hk : k < L.length) (hM : HIn dir l ds L L[k] 4 M) : HInv dir l ds M (k + 1) := by
  have e : M = grnd (hnb dir) (opE (regSet l) ds) L L[k] := hM.eq
  exact ⟨by rw [e]; exact h.g.next hk, hM.lt, hM.bd⟩
end Cl
end Go.Proofs.YtgmkkfdnmdohlaaGreatDoor
