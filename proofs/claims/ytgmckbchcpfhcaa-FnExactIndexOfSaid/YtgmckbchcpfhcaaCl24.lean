
/- Rows of rows that nobody writes: objects whose cells are views; results that are views. -/
import Derived.Test.YtgmckbchcpfhcaaCl23
namespace Go.Proofs.Ytgmckbchcpfhcaa
namespace Cl
open Go.ChangeShapes Go.WideShapes Go.ChangeAt Go.RowKit

def rvD (L : List (List Dom)) : List A := L.map fun r => .slv r.length 3 (dsl r)
theorem rvD_len (L : List (List Dom)) : (rvD L).length = L.length := by simp [rvD]
theorem rvD_app (L M : List (List Dom)) : rvD (L ++ M) = rvD L ++ rvD M := by simp [rvD]
theorem rvD_ren {π : Nat → Nat} (L : List (List Dom)) : (rvD L).map (A.ren π) = rvD L := by unfold rvD; rw [List.map_map]; rfl
theorem oc_rvD {os : St} {L : List (List Dom)} : ∀ x ∈ rvD L, A.hOk os x = true := fun x hx => by unfold rvD at hx; obtain ⟨v, _, rfl⟩ := List.mem_map.1 hx; rfl
theorem rvD_one {L : List (List Dom)} : ∀ x ∈ rvD L, x.one = true := fun x hx => by unfold rvD at hx; obtain ⟨v, _, rfl⟩ := List.mem_map.1 hx; rfl
theorem rvD_vw (L : List (List Dom)) : (vwD L).map (fun r => A.slv r.1 3 r.2) = rvD L := by unfold vwD rvD; rw [List.map_map]; rfl
theorem wQV {σ : St} {π : Nat → Nat} {F : List Nat} {x T s : Nat} {ex : Bool} {L L' : List (List Dom)} {r : St} (h : Wk σ π F r) (h1 : get σ (.o (π x)) = some (.o ⟨T, s, ex, rvD L'⟩) := by exact rfl) (e : L = L' := by rfl) (h3 : F.contains x = false := by kernel_rfl) : Wk σ π F ((.o x, some (.o ⟨T, s, ex, rvD L⟩)) :: r) :=
  wk_o h1 ⟨rfl, rfl, fun h => h, by subst e; exact (rvD_ren L).symm, fun y hy => by unfold rvD at hy; obtain ⟨v, _, rfl⟩ := List.mem_map.1 hy; rfl⟩ h3 h
/-- an object of views is read only from now on -/
theorem fzV {Γ : Cx} {σ : St} {k h T0 n : Nat} {ex0 : Bool} {L : List (List Dom)} (hk : get σ (.s k) = some (.s (.b (.a (.sl h 0 n)))) := by kernel_rfl) (ho : get σ (.o h) = some (.o ⟨T0, 1, ex0, rvD L⟩) := by kernel_rfl) (hn : n = L.length := by simp) :
    Weak Γ σ ((.s k, some (.s (.b (.a (.slvv 3 (vwD L)))))) :: (.o h, none) :: σ) := by
  subst hn
  intro a w ⟨ρ, I, hs⟩
  obtain ⟨p', A0, hp', he, hcap, hA⟩ := hs.sl k _ hk
  obtain ⟨p, hp, ps, pl0, pe, pz, pc⟩ := hs.m.ow h _ ho
  rw [hp] at hp'; injection hp' with hp'; subst hp'
  have hhd : ∀ x, V.b (B.a (A.slvv 3 (vwD L))) = V.b (B.a x) → ∀ h', ¬ x.hd h' := fun x hx h' => by
    injection hx with hx; injection hx with hx; subst hx; exact id
  have hl := vwD_len L
  rcases Nat.eq_zero_or_pos L.length with hn | hn
  · exact ⟨ρ, I, (hs.drop h).rename ⟨A0, p.cap - 0, by rw [hl]; exact he, by rw [hl]; omega, fun h => by rw [hl] at h; omega⟩ hhd⟩
  · have hlv : p.live = true := by
      rcases Bool.eq_false_or_eq_true p.live with q | q
      · exact q
      · have := pz q; omega
    have hA' := hA (.inr (by omega))
    rw [hlv, if_pos rfl] at hA'
    obtain ⟨cur, c1, c2, c3, c4⟩ := pc hlv
    refine ⟨ρ, _, (hs.freeze ho hp hlv).rename ⟨A0, p.cap - 0, by rw [hl]; exact he, by rw [hl]; omega, fun _ => ⟨p.block, p.base, by rw [hA']; simp, .inr rfl, fun j r hj => ?_⟩⟩ hhd⟩
    have hx : ∃ x, (rvD L)[j]? = some (.slv r.1 3 r.2) ∧ L[j]? = some x := by
      unfold vwD at hj; rw [List.getElem?_map] at hj
      cases hq : L[j]? with
      | none => rw [hq] at hj; simp at hj
      | some x => rw [hq] at hj; simp at hj; subst hj; exact ⟨x, by unfold rvD; rw [List.getElem?_map, hq]; rfl, rfl⟩
    obtain ⟨x, hx, _⟩ := hx
    obtain ⟨v, hv, hxl, A1, k1, e, hle, hx⟩ := c4 j _ hx
    subst e
    refine ⟨hxl, A1, k1, ?_, hle, fun hr => ?_⟩
    · simp only [World.cell?, c1]; exact hv
    · obtain ⟨g, o, e1, e2, e3⟩ := hx hr
      exact ⟨g, o, e1, .inl e2, e3⟩
/-- nil as a view -/
theorem wnv {Γ : Cx} {σ : St} {k : Nat} (s : Nat) (hk : get σ (.s k) = some (.s (V.v (.slice none 0 0))) := by kernel_rfl) : Weak Γ σ ((.s k, some (.s (.b (.a (.slv 0 s []))))) :: σ) := by
  intro a w ⟨ρ, I, hs⟩
  have hv : a.tmps.getD k undef = .slice none 0 0 := hs.sl k _ hk
  refine ⟨ρ, I, hs.rename ⟨by simp, none, 0, hv, Nat.le_refl _, fun h => by omega⟩ fun x hx h' => ?_⟩
  injection hx with hx; injection hx with hx; subst hx; exact id
theorem wnvv {Γ : Cx} {σ : St} {k : Nat} (s : Nat) (hk : get σ (.s k) = some (.s (V.v (.slice none 0 0))) := by kernel_rfl) : Weak Γ σ ((.s k, some (.s (.b (.a (.slvv s []))))) :: σ) := by
  intro a w ⟨ρ, I, hs⟩
  have hv : a.tmps.getD k undef = .slice none 0 0 := hs.sl k _ hk
  refine ⟨ρ, I, hs.rename ⟨none, 0, hv, Nat.le_refl _, fun h => by simp at h⟩ fun x hx h' => ?_⟩
  injection hx with hx; injection hx with hx; subst hx; exact id
theorem slvD_eq {L M : List Dom} (h : L = M) : B.a (.slv L.length 3 (dsl L)) = B.a (.slv M.length 3 (dsl M)) := by rw [h]
theorem slvI_eq {L M : List Int} (h : L = M) : B.a (.slv L.length 1 (isl L)) = B.a (.slv M.length 1 (isl M)) := by rw [h]
theorem slvC_eq {L M : List Cel} (h : L = M) : B.a (.slv L.length 2 (csl L)) = B.a (.slv M.length 2 (csl M)) := by rw [h]
section
variable {Γ : Cx} {d : Nat} {ty : TypeId} {pos : String} {af : Array Edge} {g : Option (Nat × Bool)}
theorem aV {x h h2 n nm t e b y : Nat} {L M : List (List Dom)} (hN : Γ.ok d) (ht : Γ.P.underlying t = some (.slice e)) (hz : ZI Γ.P e (.slice none 0 0) 1 b) (hl : L.length = n) (hn : n + M.length ≤ 4194304) (hnm : n + M.length = nm) (hb : b ≤ 1000 := by decide) :
    Acts Γ ⟨some d, .call { callee := .builtin .append, args := #[.tmp x, .tmp y], argTypes := #[t, t] }, ty, pos, af, g⟩ ((.s x, .s (.b (.a (.sl h 0 n)))) :: (.o h, .o ⟨e, 1, true, rvD L⟩) :: (.o h2, .free) :: ([(.s y, .s (V.b (.a (.slvv 3 (vwD M)))))] ++ []))
      [(.s d, some (.s (.b (.a (.sl h2 0 nm))))), (.o h2, some (.o ⟨e, 1, true, rvD (L ++ M)⟩)), (.o h, none)] := by
  obtain ⟨i, hi, hz, hs, hib⟩ := hz.get
  subst hnm
  exact acts_append (i := i) (z := .slice none 0 0) (o := ⟨e, 1, true, rvD L⟩) (X := .slvv 3 (vwD M)) (m := M.length) (off := 0) (xs := rvD L) (ys := rvD M) (zs := rvD (L ++ M)) (ex := true) hN ht hi hz (by rw [hs]; rfl) hs Nat.one_pos rfl (by simp only [rvD_len]; omega) (by simp only [Nat.zero_mul, List.drop_zero]; exact List.take_of_length_le (by rw [rvD_len]; omega)) (fun _ => ⟨rfl, rfl⟩) xt (by have := Src.slvv 3 (vwD M); rw [rvD_vw, vwD_len] at this; exact this) rvD_one (by unfold maxLen; omega) (by rw [hib]; exact Nat.le_trans (Nat.mul_le_mul hn hb) (by omega)) (rvD_app L M).symm
end
end Cl
end Go.Proofs.Ytgmckbchcpfhcaa
