
/- Freezing inside an own object. -/
import Derived.Test.YtabgfoindidigaaCl17
namespace Go.Proofs.Ytabgfoindidigaa
namespace Cl
open Go.ChangeShapes Go.WideShapes Go.ChangeAt Go.RowKit
theorem Sat.rnob {Γ : Cx} {σ : St} {a : Act} {w : World} {ρ : Nat → Option Place} {I : Nat → Prop} (hs : Sat Γ σ a w ρ I) {j T s : Nat} {ex : Bool} {cs cs' : List A} (ho : get σ (.o j) = some (.o ⟨T, s, ex, cs⟩)) (hl : cs'.length = cs.length)
    (hr : ∀ (i : Nat) (x' : A), cs'[i]? = some x' → ∃ x, cs[i]? = some x ∧ ∀ u, RelA ρ I w x u → RelA ρ I w x' u) : Sat Γ ((.o j, some (.o ⟨T, s, ex, cs'⟩)) :: σ) a w ρ I := by
  have hgs : ∀ k, get ((Key.o j, some (Cell.o ⟨T, s, ex, cs'⟩)) :: σ) (.s k) = get σ (.s k) := fun k => get_cons_ne rfl
  have hgo : ∀ y, y ≠ j → get ((Key.o j, some (Cell.o ⟨T, s, ex, cs'⟩)) :: σ) (.o y) = get σ (.o y) := fun y hy => get_cons_ne (key_neo (fun e => hy e.symm))
  have hback : ∀ y o, get ((Key.o j, some (Cell.o ⟨T, s, ex, cs'⟩)) :: σ) (.o y) = some (.o o) → ∃ o', get σ (.o y) = some (.o o') := by
    intro y o hy
    by_cases e : y = j
    · subst e; exact ⟨_, ho⟩
    · rw [hgo y e] at hy; exact ⟨_, hy⟩
  refine ⟨hs.n, hs.d, fun k x h' hk hg hh => hs.fx k x h' hk ((hgs k) ▸ hg) hh, hs.kp, fun k v hk => hs.sl k v ((hgs k) ▸ hk), ?_⟩
  refine ⟨fun y o' hy => ?_, fun y hy => ?_, fun y p' o' hy => ?_, fun y z p1 p2 o1 o2 hy hz => ?_, hs.m.im, hs.m.fm⟩
  · by_cases e : y = j
    · subst e
      rw [get_cons_eq] at hy
      injection hy with hy; injection hy with hy
      subst hy
      obtain ⟨p, hp, q1, q2, q3, qz, q4⟩ := hs.m.ow y _ ho
      refine ⟨p, hp, q1, ?_, q3, qz, fun hlv => ?_⟩
      · show cs'.length ≤ _; rw [hl]; exact q2
      · obtain ⟨cur, c1, c2, c3, c4⟩ := q4 hlv
        refine ⟨cur, c1, c2, c3, fun i x' hx' => ?_⟩
        obtain ⟨x, hx, hu⟩ := hr i x' hx'
        obtain ⟨u, hu1, hu2⟩ := c4 i x hx
        exact ⟨u, hu1, hu u hu2⟩
    · rw [hgo y e] at hy; exact hs.m.ow y o' hy
  · by_cases e : y = j
    · subst e; rw [get_cons_eq] at hy; injection hy with hy; cases hy
    · rw [hgo y e] at hy; exact hs.m.fr y hy
  · intro h1 h2
    obtain ⟨o'', ho''⟩ := hback y o' hy
    exact hs.m.pl y p' o'' ho'' h1 h2
  · obtain ⟨o1', h1'⟩ := hback y o1 hy
    obtain ⟨o2', h2'⟩ := hback z o2 hz
    exact hs.m.inj y z p1 p2 o1' o2' h1' h2'
/-- a slice in an own variable that nobody writes any more -/
theorem weak_freeze_osl {Γ : Cx} {σ : St} {j To so h T s off n : Nat} {ex exo : Bool} {xs ys : List Value} (hjh : (j == h) = false) (hj : get σ (.o j) = some (.o ⟨To, so, exo, [.sl h off n]⟩)) (ho : get σ (.o h) = some (.o ⟨T, s, ex, pl xs⟩)) (hx : (off + n) * s ≤ xs.length) (hs0 : 0 < s) (hy : (xs.drop (off * s)).take (n * s) = ys) :
    Weak Γ σ ((.o j, some (.o ⟨To, so, exo, [.slv n s ys]⟩)) :: (.o h, none) :: σ) := by
  intro a w ⟨ρ, I, hs⟩
  have hyl : ys.length = n * s := by rw [← hy]; simp only [List.length_take, List.length_drop]; rw [Nat.add_mul] at hx; omega
  have hne : j ≠ h := fun e => by subst e; simp at hjh
  have hgj : get ((Key.o h, none) :: σ) (.o j) = some (.o ⟨To, so, exo, [.sl h off n]⟩) := by
    rw [get_cons_ne (key_neo (fun e => hne e.symm))]; exact hj
  have one : ∀ i (x' : A), ([A.slv n s ys] : List A)[i]? = some x' → i = 0 ∧ x' = .slv n s ys := by
    intro i x' hi
    match i, hi with
    | 0, hi => simp at hi; exact ⟨rfl, hi.symm⟩
    | i + 1, hi => simp at hi
  rcases Nat.eq_zero_or_pos n with hn | hn
  · refine ⟨ρ, I, (hs.drop h).rnob hgj rfl fun i x' hx' => ?_⟩
    obtain ⟨rfl, rfl⟩ := one i x' hx'
    refine ⟨_, rfl, fun u hu => ?_⟩
    obtain ⟨p', A0, hp', he, hcap, hA⟩ := hu
    exact ⟨hyl, A0, p'.cap - off, he, by omega, fun h => by omega⟩
  · have hpos : 0 < xs.length := Nat.lt_of_lt_of_le (Nat.mul_pos (by omega) hs0) hx
    obtain ⟨p, hp, hl, hsz, hc⟩ := own_cells (hs.m.ow h _ ho) hpos
    refine ⟨ρ, _, (hs.freeze ho hp hl).rnob hgj rfl fun i x' hx' => ?_⟩
    obtain ⟨rfl, rfl⟩ := one i x' hx'
    refine ⟨_, rfl, fun u hu => ?_⟩
    obtain ⟨p', A0, hp', he, hcap, hA⟩ := hu
    rw [hp] at hp'; injection hp' with hp'; subst hp'
    refine ⟨hyl, A0, p.cap - off, he, by omega, fun _ => ⟨p.block, p.base + off * s, ?_, .inr rfl, fun j x hj => ?_⟩⟩
    · rw [hA (.inr (by omega)), hl, hsz]; rfl
    · rw [Nat.add_assoc]
      apply hc
      rw [← hy, List.getElem?_take] at hj
      split at hj
      · rw [List.getElem?_drop] at hj; exact hj
      · cases hj
end Cl
end Go.Proofs.Ytabgfoindidigaa
