
/- Rows of rows: one or two rows in use at once. -/
import Derived.Test.YtgmckbchcpfhcaaCl22
namespace Go.Proofs.Ytgmckbchcpfhcaa
namespace Cl
open Go.ChangeShapes Go.WideShapes Go.ChangeAt Go.RowKit

theorem weak_trans {Γ : Cx} {σ τ υ : St} (h1 : Weak Γ σ τ) (h2 : Weak Γ τ υ) : Weak Γ σ υ := fun a w h => h2 a w (h1 a w h)
theorem isl_one' (l : List Int) : ∀ v ∈ isl l, v.oneCell' = true := by
  intro v hv
  obtain ⟨x, _, rfl⟩ := List.mem_map.1 hv
  rfl
theorem set_gLs {L : List (List Int)} {i : Nat} (h : i < L.length) : L.set i (gLs L i) = L := by rw [gLs_eq h, List.set_getElem_self]
theorem gLs_set_ne {L : List (List Int)} {i j : Nat} {r : List Int} (hij : i ≠ j) : gLs (L.set i r) j = gLs L j := by
  unfold gLs; rw [List.getD_eq_getElem?_getD, List.getD_eq_getElem?_getD, List.getElem?_set_ne hij]
theorem gLs_set_eq {L : List (List Int)} {i : Nat} {r : List Int} (h : i < L.length) : gLs (L.set i r) i = r := by
  unfold gLs; rw [List.getD_eq_getElem?_getD, List.getElem?_set_self h]; rfl
theorem set_gLs2 {L : List (List Int)} {i j : Nat} {r : List Int} (hij : i ≠ j) (h : i < L.length) : (L.set j r).set i (gLs L i) = L.set j r := by
  rw [List.set_comm _ _ (Ne.symm hij), set_gLs h]
/-- rows put back: the outer one, then the inner one -/
theorem qk1 {Γ : Cx} {σ : St} {h h1 T T0 s0 n : Nat} {ex0 : Bool} {L L2 : List (List Int)} {r : List Int} (i : Nat) (hi : i < L.length) (hn : n = r.length) (hr : L.set i r = L2) (ho : get σ (.o h) = some (.o ⟨T0, s0, ex0, (rwI T L).set i (.sl h1 0 n)⟩) := by kernel_rfl) (ho1 : get σ (.o h1) = some (.o ⟨T, 1, true, pl (isl r)⟩) := by kernel_rfl) (hne : Nat.beq h h1 = false := by kernel_rfl) :
    Weak Γ σ ((.o h, some (.o ⟨T0, s0, ex0, rwI T L2⟩)) :: (.o h1, none) :: σ) := by
  subst hr; exact pk1 i hi hn ho ho1 hne
theorem qk2 {Γ : Cx} {σ : St} {h h1 T T0 s0 n : Nat} {ex0 : Bool} {L L2 : List (List Int)} {r : List Int} {i : Nat} {a : A} (j : Nat) (hj : j < L.length) (hij : i ≠ j) (hn : n = r.length) (hr : L.set j r = L2) (ho : get σ (.o h) = some (.o ⟨T0, s0, ex0, ((rwI T L).set i a).set j (.sl h1 0 n)⟩) := by kernel_rfl) (ho1 : get σ (.o h1) = some (.o ⟨T, 1, true, pl (isl r)⟩) := by kernel_rfl) (hne : Nat.beq h h1 = false := by kernel_rfl) :
    Weak Γ σ ((.o h, some (.o ⟨T0, s0, ex0, (rwI T L2).set i a⟩)) :: (.o h1, none) :: σ) := by
  subst hr; exact pk2 j hj hij hn ho ho1 hne
section
variable {Γ : Cx} {d : Nat} {ty : TypeId} {pos : String} {af : Array Edge} {g : Option (Nat × Bool)}
/-- the header of the outer row -/
theorem lw2 {t T n h i j T0 s0 : Nat} {ex : Bool} {c : List A} {a b : A} (hN : Γ.ok d) (q : TI Γ.P T false n) (hj : j < c.length) : Acts Γ ⟨some d, .load T (.tmp t), ty, pos, af, g⟩ [(.s t, .s (V.p h (j * 1))), (.o h, .o ⟨T0, s0, ex, (c.set i a).set j b⟩)] [(.s d, some (.s (.b (.a b))))] :=
  lu1 hN q (by rw [List.length_set]; exact hj)
theorem sw2 {t T n h i j T0 s0 : Nat} {ex : Bool} {c : List A} {a b e : A} {x : Operand} {R : List (Key × Cell)} (q : TI Γ.P T false n) (hx : OpX x (.b (.a e)) R) (hj : j < c.length) (h1 : e.one = true := by exact rfl) (hn : n = 1 := by exact rfl) :
    Acts Γ ⟨none, .store T (.tmp t) x, ty, pos, af, g⟩ ((.s t, .s (V.p h (j * 1))) :: (.o h, .o ⟨T0, s0, ex, (c.set i a).set j b⟩) :: R) [(.o h, some (.o ⟨T0, s0, ex, (c.set i a).set j e⟩))] :=
  su1 q hx (by rw [List.length_set]; exact hj) h1 hn
end
/-! arithmetic as the machine does it -/
def mW (a b : Int) : Int := IntKind.i64.wrap (a * b)
def qW (a b : Int) : Int := IntKind.i64.wrap (a.tdiv b)
end Cl
end Go.Proofs.Ytgmckbchcpfhcaa
