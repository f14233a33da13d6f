
/- Words for contracts of callees that write their caller's objects. -/
import Derived.Test.YtgmckbchcpfhcaaCl15
namespace Go.Proofs.Ytgmckbchcpfhcaa
namespace Cl
open Go.ChangeShapes Go.WideShapes Go.ChangeAt Go.RowKit

/-- rows that nobody writes any more, in a row -/
def rws_doms (L : List (List Dom)) : List A := L.map fun r => .slv r.length 3 (dsl r)
def rws_ints (L : List (List Int)) : List A := L.map fun r => .slv r.length 1 (isl r)
def rws_cels (L : List (List Cel)) : List A := L.map fun r => .slv r.length 2 (csl r)
theorem rws_ren_doms {π : Nat → Nat} (L : List (List Dom)) : (rws_doms L).map (A.ren π) = rws_doms L := by unfold rws_doms; rw [List.map_map]; rfl
theorem rws_ren_ints {π : Nat → Nat} (L : List (List Int)) : (rws_ints L).map (A.ren π) = rws_ints L := by unfold rws_ints; rw [List.map_map]; rfl
theorem rws_ren_cels {π : Nat → Nat} (L : List (List Cel)) : (rws_cels L).map (A.ren π) = rws_cels L := by unfold rws_cels; rw [List.map_map]; rfl
theorem oc_pl {p : A → Prop} {xs : List Value} (h : ∀ v, p (.val v)) : ∀ x ∈ pl xs, p x := fun x hx => by
  unfold pl at hx; obtain ⟨v, _, rfl⟩ := List.mem_map.1 hx; exact h v
theorem oc_rws_doms {os : St} {L : List (List Dom)} : ∀ x ∈ rws_doms L, A.hOk os x = true := fun x hx => by
  unfold rws_doms at hx; obtain ⟨v, _, rfl⟩ := List.mem_map.1 hx; rfl
theorem oc_rws_ints {os : St} {L : List (List Int)} : ∀ x ∈ rws_ints L, A.hOk os x = true := fun x hx => by
  unfold rws_ints at hx; obtain ⟨v, _, rfl⟩ := List.mem_map.1 hx; rfl
theorem ocs {os : St} {cells : List A} (h : cells.all (A.hOk os) = true) : ∀ x ∈ cells, A.hOk os x = true := by rwa [List.all_eq_true] at h
theorem obj_eq {σ : St} {k : Key} {T s : Nat} {ex : Bool} {c c' : List A} (h : get σ k = some (.o ⟨T, s, ex, c⟩)) (e : c = c') : get σ k = some (.o ⟨T, s, ex, c'⟩) := by rw [← e]; exact h
theorem vo_eq {P : Program} {σ : St} (t : Nat) (b b' : B) (hg : get σ (.s t) = some (.s (.b b))) (e : b = b') : VO P σ (.tmp t) b' := by subst e; exact .tmp t b hg
theorem FnO.res {P : Program} {f : Nat} {bs : List B} {os os' : St} {r r' : V} {keep : List Nat} (h : FnO P f bs os r os' keep) (e : r = r') : FnO P f bs os r' os' keep := by subst e; exact h
theorem argo_int {x : Operand} {k : IntKind} {a b : Int} {R : List (Key × Cell)} (h : a = b) (hx : ArgO x (.a (.val (.int k a))) R) : ArgO x (.a (.val (.int k b))) R := by subst h; exact hx
theorem argv_int {x : Operand} {k : IntKind} {a b : Int} {R : List (Key × Cell)} (h : a = b) (hx : ArgV x (.a (.val (.int k a))) R) : ArgV x (.a (.val (.int k b))) R := by subst h; exact hx
end Cl
end Go.Proofs.Ytgmckbchcpfhcaa
