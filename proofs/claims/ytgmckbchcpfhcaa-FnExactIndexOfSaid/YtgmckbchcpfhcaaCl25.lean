
/- Rows of rows of dominoes: single rows in use. -/
import Derived.Test.YtgmckbchcpfhcaaCl24
namespace Go.Proofs.Ytgmckbchcpfhcaa
namespace Cl
open Go.ChangeShapes Go.WideShapes Go.ChangeAt Go.RowKit

theorem rwD_set {T : Nat} {L : List (List Dom)} {i : Nat} {r : List Dom} : (rwD T L).set i (.row T r.length 3 (dsl r)) = rwD T (L.set i r) := by unfold rwD; rw [List.map_set]
theorem up1D {Γ : Cx} {σ : St} {h h1 T T0 s0 : Nat} {ex0 : Bool} {L : List (List Dom)} (i : Nat) (hi : i < L.length) (ho : get σ (.o h) = some (.o ⟨T0, s0, ex0, rwD T L⟩) := by kernel_rfl) (hfr : get σ (.o h1) = some .free := by kernel_rfl) :
    Weak Γ σ ((.o h, some (.o ⟨T0, s0, ex0, (rwD T L).set i (.sl h1 0 (gLd L i).length)⟩)) :: (.o h1, some (.o ⟨T, 3, true, pl (dsl (gLd L i))⟩)) :: σ) := weak_unpack ho hfr (rwD_at hi) rfl
theorem pk1D {Γ : Cx} {σ : St} {h h1 T T0 s0 n : Nat} {ex0 : Bool} {L : List (List Dom)} {r : List Dom} (i : Nat) (hi : i < L.length) (hn : n = r.length) (ho : get σ (.o h) = some (.o ⟨T0, s0, ex0, (rwD T L).set i (.sl h1 0 n)⟩) := by kernel_rfl) (ho1 : get σ (.o h1) = some (.o ⟨T, 3, true, pl (dsl r)⟩) := by kernel_rfl) (hne : Nat.beq h h1 = false := by kernel_rfl) :
    Weak Γ σ ((.o h, some (.o ⟨T0, s0, ex0, rwD T (L.set i r)⟩)) :: (.o h1, none) :: σ) := by
  subst hn
  exact weak_pack (j := i) (n := r.length) (T := T) (s := 3) (xs := dsl r) ho ho1 hne (List.getElem?_set_self (by rw [rwD_len]; exact hi)) (by rw [dsl_len]) (by rw [List.set_set, rwD_set])
theorem qk1D {Γ : Cx} {σ : St} {h h1 T T0 s0 n : Nat} {ex0 : Bool} {L L2 : List (List Dom)} {r : List Dom} (i : Nat) (hi : i < L.length) (hn : n = r.length) (hr : L.set i r = L2) (ho : get σ (.o h) = some (.o ⟨T0, s0, ex0, (rwD T L).set i (.sl h1 0 n)⟩) := by kernel_rfl) (ho1 : get σ (.o h1) = some (.o ⟨T, 3, true, pl (dsl r)⟩) := by kernel_rfl) (hne : Nat.beq h h1 = false := by kernel_rfl) :
    Weak Γ σ ((.o h, some (.o ⟨T0, s0, ex0, rwD T L2⟩)) :: (.o h1, none) :: σ) := by
  subst hr; exact pk1D i hi hn ho ho1 hne
theorem set_gLd {L : List (List Dom)} {i : Nat} (h : i < L.length) : L.set i (gLd L i) = L := by rw [gLd_eq h, List.set_getElem_self]
theorem gLd_set_eq {L : List (List Dom)} {i : Nat} {r : List Dom} (h : i < L.length) : gLd (L.set i r) i = r := by
  unfold gLd; rw [List.getD_eq_getElem?_getD, List.getElem?_set_self h]; rfl
end Cl
end Go.Proofs.Ytgmckbchcpfhcaa
