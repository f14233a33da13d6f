
/- More operations over clean states. -/
import Derived.Test.YtjgimiicfekcpaaCl16
namespace Go.Proofs.Ytjgimiicfekcpaa
namespace Cl
open Go.ChangeShapes Go.WideShapes Go.ChangeAt Go.RowKit

section
variable {Γ : Cx} {d : Nat} {ty : TypeId} {pos : String} {af : Array Edge} {g : Option (Nat × Bool)}
end
theorem Sat.drop {Γ : Cx} {σ : St} {a : Act} {w : World} {ρ : Nat → Option Place} {I : Nat → Prop} (hs : Sat Γ σ a w ρ I) (h : Nat) : Sat Γ ((.o h, none) :: σ) a w ρ I := by
  have hgs : ∀ k, get ((Key.o h, none) :: σ) (.s k) = get σ (.s k) := fun k => get_cons_ne rfl
  have hgo : ∀ y, y ≠ h → get ((Key.o h, none) :: σ) (.o y) = get σ (.o y) := fun y hy => get_cons_ne (key_neo (fun e => hy e.symm))
  have hne : ∀ y c, get ((Key.o h, none) :: σ) (.o y) = some c → y ≠ h := fun y c hy e => by subst e; rw [get_cons_eq] at hy; cases hy
  refine ⟨hs.n, hs.d, fun k x h' hk hg hh => hs.fx k x h' hk ((hgs k) ▸ hg) hh, hs.kp, fun k v hk => hs.sl k v ((hgs k) ▸ hk), ?_⟩
  refine ⟨fun y o' hy => ?_, fun y hy => ?_, fun y p' o' hy => ?_, fun y z p1 p2 o1 o2 hy hz => ?_, hs.m.im, hs.m.fm⟩
  · rw [hgo y (hne y _ hy)] at hy; exact hs.m.ow y o' hy
  · rw [hgo y (hne y _ hy)] at hy; exact hs.m.fr y hy
  · rw [hgo y (hne y _ hy)] at hy; exact hs.m.pl y p' o' hy
  · rw [hgo y (hne y _ hy)] at hy; rw [hgo z (hne z _ hz)] at hz; exact hs.m.inj y z p1 p2 o1 o2 hy hz
section
variable {Γ : Cx} {d : Nat} {ty : TypeId} {pos : String} {af : Array Edge} {g : Option (Nat × Bool)}
end
end Cl
end Go.Proofs.Ytjgimiicfekcpaa
