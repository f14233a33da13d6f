
/- Opening of arguments whose rows are rows. -/
import Derived.Test.YtgmkkfdnmdohlaaGreatDoorLaw
import Derived.Test.YtgmkkfdnmdohlaaGreatDoorClB
set_option linter.unusedSimpArgs false
set_option linter.unusedVariables false
namespace Go.Proofs.YtgmkkfdnmdohlaaGreatDoor
open Go.ChangeShapes Go.WideShapes Go.ChangeAt Go.RowKit Go.Deep Cl
set_option maxRecDepth 20000

theorem plain_addr {w : World} {a : Addr} {v : Value} (h : w.cell? a = some v) : a = ⟨a.block, a.off, none⟩ := by
  unfold World.cell? at h
  split at h
  · obtain ⟨b, o, s⟩ := a
    cases s
    · rfl
    · simp at h
  · cases h
theorem plain_add (b o j : Nat) : (⟨b, o, none⟩ : Addr).add j = ⟨b, o + j, none⟩ := by
  unfold Addr.add; split <;> simp_all
theorem rd_plain {w : World} {s n : Nat} {A : Option Addr} {xs : List Value} (hs : 0 < s) (h : RdA w s A n xs) : Rd w s A n xs := by
  refine ⟨h.1, fun hn => ?_⟩
  obtain ⟨a, rfl, hb, hc⟩ := h.2 hn
  have hl : 0 < xs.length := by rw [h.1]; exact Nat.mul_pos hn hs
  have h0 := hc 0 _ (List.getElem?_eq_getElem hl)
  have e0 : a.add 0 = a := by unfold Addr.add; simp
  rw [e0] at h0
  have e := plain_addr h0
  refine ⟨a.block, a.off, by rw [← e], hb, fun j u hu => ?_⟩
  have := hc j u hu
  rw [e, plain_add] at this
  exact this
theorem is_core2 {H : Type} {enc : TypeId × Value → H} {W : World} {n0 : Nat} {a0 : Option Addr} {len cap : Nat} {y : DataW H × List MemPlace} (hf : DataW.trod enc Tryz.prog W 0 (fun _ => true) true n0 22 [.slice a0 len cap] = some y) :
    ∃ l, Rd W 1 a0 len (isl l) ∧ len = l.length ∧ len ≤ cap ∧ len ≤ maxLen ∧ (∀ z ∈ l, (Lit.int .i64 z).wf = true) := by
  obtain ⟨l, h1, h2, h3⟩ := is_core hf
  obtain ⟨d, p⟩ := y
  have hl : len = l.length := by have := h1.1; rw [isl_len] at this; omega
  refine ⟨l, rd_plain (by decide) h1, hl, ?_, h2, h3⟩
  rcases open_ints Tryz.underlying22 Tryz.underlying3 cells_int hf with ⟨hcs, _⟩ | ⟨a, len', cap', zs, hcs, _, hl, _⟩
  · simp at hcs
    obtain ⟨rfl, rfl, rfl⟩ := hcs
    exact Nat.le_refl _
  · simp at hcs
    obtain ⟨rfl, rfl, rfl⟩ := hcs
    exact hl
theorem open_dsB {H : Type} {enc : TypeId × Value → H} {W : World} {r : Reach} {b : Nat} {v : Value} {d : DataW H} {p : List MemPlace} (hok : Value.okWide Tryz.prog W r b 25 v)
    (h : DataW.Trod enc Tryz.prog W 0 (fun _ => true) true 25 v d p) :
    ∃ l : List Dom, RelB ρ0 (I0 W) W (.a (.slv l.length 3 (dsl l))) v ∧ l.length ≤ maxLen ∧ (∀ z ∈ l, (Lit.int .i64 z.x).wf = true ∧ (Lit.int .i64 z.y).wf = true) := by
  obtain ⟨A, n, c, l, rfl, h2, h3, h4, h5⟩ := open_ds2 hok h
  have hl : n = l.length := by have := h2.1; rw [dsl_len] at this; omega
  exact ⟨l, mk_slv' (rd_plain (by decide) h2) h5 hl, by omega, h4⟩
theorem open_regB {H : Type} {enc : TypeId × Value → H} {W : World} {r : Reach} {b : Nat} {v : Value} {d : DataW H} {p : List MemPlace} (hok : Value.okWide Tryz.prog W r b 24 v)
    (h : DataW.Trod enc Tryz.prog W 0 (fun _ => true) true 24 v d p) :
    ∃ l : List Int, RelB ρ0 (I0 W) W (.agg [.slv l.length 1 (isl l)]) v ∧ l.length ≤ maxLen ∧ (∀ z ∈ l, (Lit.int .i64 z).wf = true) := by
  obtain ⟨cs, rfl, hsz⟩ := okWide_struct Tryz.underlying24 hok
  have hC : Tryz.prog.cellsOf 24 = 1 := by kernel_rfl
  rw [hC] at hsz
  obtain ⟨cl⟩ := cs
  match cl, hsz with
  | [c0], _ =>
    obtain ⟨fuel, hf⟩ := h
    obtain ⟨ys, n', _, _, hlen, hyl, hfd⟩ := DataW.trod_struct Tryz.underlying24 hf
    match ys, hyl with
    | [y0], _ =>
      have g0 := hfd 0 _ rfl
      have k1 : Tryz.prog.cellsOf 22 = 1 := by kernel_rfl
      simp only [k1, Value.cells, List.drop, List.take, List.getElem?_cons_zero] at g0
      obtain ⟨a, l, c, e⟩ := Go.Joins.slice_form Tryz.underlying22 g0
      injection e with e
      subst e
      obtain ⟨zs, h1, h2, h3, h4, h5⟩ := is_core2 g0
      exact ⟨zs, mk_regv' h1 h3 h2, by omega, h5⟩
end Go.Proofs.YtgmkkfdnmdohlaaGreatDoor
