/- Walks over clean states, printed by wg.py. No statement is proved here. -/
import Derived.Test.YtokihekhelbijaaE7
import Derived.Test.YtokihekhelbijaaE8p
import Derived.Test.YtokihekhelbijaaClB
namespace Go.Proofs.Ytokihekhelbijaa
namespace Cl
open Go.ChangeShapes Go.WideShapes Go.ChangeAt Go.RowKit
set_option maxRecDepth 20000
/-! neighbors by flips -/
structure PutI (L : List Int) (n : Int) (k : Nat) (b : Bool) (o : List Int) : Prop where
  t : b = true → (∃ x ∈ L.take k, n ≤ x) ∧ o = putL (L.take k) n
  f : b = false → (∀ x ∈ L.take k, ¬ n ≤ x) ∧ o = L.take k
theorem PutI.zero (L : List Int) (n : Int) : PutI L n 0 false [] := ⟨fun h => (by cases h), fun _ => ⟨by simp, by simp⟩⟩
theorem PutI.len {L : List Int} {n : Int} {k : Nat} {b : Bool} {o : List Int} (h : PutI L n k b o) : o.length ≤ k + 1 := by
  cases b
  · rw [(h.f rfl).2, List.length_take]; omega
  · rw [(h.t rfl).2, putL_len, List.length_take]; omega
theorem PutI.on {L : List Int} {n : Int} {k : Nat} {b : Bool} {o : List Int} (h : PutI L n k b o) (hk : k < L.length) (hb : b = true) : PutI L n (k + 1) true (o ++ [gI L k]) := by
  obtain ⟨h1, h2⟩ := h.t hb
  refine ⟨fun _ => ⟨?_, ?_⟩, fun h => by cases h⟩
  · obtain ⟨x, hx, hn⟩ := h1
    exact ⟨x, by rw [take_snocI hk]; simp [hx], hn⟩
  · rw [h2, take_snocI hk, putL_app _ h1]
theorem PutI.off {L : List Int} {n : Int} {k : Nat} {b : Bool} {o : List Int} (h : PutI L n k b o) (hk : k < L.length) (hb : b = false) (hn : ¬ n ≤ gI L k) : PutI L n (k + 1) false (o ++ [gI L k]) := by
  obtain ⟨h1, h2⟩ := h.f hb
  refine ⟨fun h => (by cases h), fun _ => ⟨fun x hx => ?_, by rw [h2, take_snocI hk]⟩⟩
  rw [take_snocI hk] at hx
  rcases List.mem_append.1 hx with hx | hx
  · exact h1 x hx
  · simp at hx; subst hx; exact hn
theorem PutI.now {L : List Int} {n : Int} {k : Nat} {b : Bool} {o : List Int} (h : PutI L n k b o) (hk : k < L.length) (hb : b = false) (hn : n ≤ gI L k) : PutI L n (k + 1) true ((o ++ [n]) ++ [gI L k]) := by
  obtain ⟨h1, h2⟩ := h.f hb
  refine ⟨fun _ => ⟨⟨gI L k, by rw [take_snocI hk]; simp, hn⟩, ?_⟩, fun h => by cases h⟩
  rw [h2, take_snocI hk]
  have : ∀ M : List Int, (∀ x ∈ M, ¬ n ≤ x) → putL (M ++ [gI L k]) n = M ++ [n] ++ [gI L k] := by
    intro M
    induction M with
    | nil => intro _; unfold putL; rw [List.nil_append]; simp only; rw [if_neg (by omega)]; rfl
    | cons a M ih =>
      intro hM
      rw [List.cons_append]; unfold putL
      rw [if_pos (by have := hM a (by simp); omega), ih (fun x hx => hM x (by simp [hx]))]; rfl
  exact (this _ h1).symm
theorem flips_can {P : List Dom} {c : Cel} (h : c ∈ flipsOf P) : canB P c.x c.y = true := by
  unfold flipsOf flN at h
  obtain ⟨i, hi, rfl⟩ := List.mem_map.1 h
  exact (List.mem_filter.1 hi).2
structure FlipA (s : Nat) (a : List (List Dom)) : Prop where
  nd : a.Nodup
  ti : ∀ P ∈ a, TilS s P
  cl : ∀ Q, (∃ P, P ∈ a) → TilS s Q → Q ∈ a
theorem FlipA.of (l : List Int) : FlipA (regSet l) (ltR l) := ⟨ltR_nodup l, fun _ h => (ltR_mem h).2, fun _ ⟨_, h⟩ hQ => ltR_of h hQ⟩
theorem FlipA.flip {s : Nat} {a : List (List Dom)} (h : FlipA s a) {P : List Dom} (hP : P ∈ a) {c : Cel} (hc : c ∈ flipsOf P) : flipAt P c ∈ a := h.cl _ ⟨P, hP⟩ (flipAt_til (h.ti P hP) (flips_can hc))
end Cl
end Go.Proofs.Ytokihekhelbijaa
