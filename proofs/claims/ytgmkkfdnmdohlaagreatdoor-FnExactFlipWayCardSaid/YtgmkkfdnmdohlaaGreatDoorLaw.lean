
/- From a walk of a law to its row: a law over plain data that returns true and leaves all old memory as it was meets its row. Opening of arguments. -/
import Derived.Test.YtgmkkfdnmdohlaaGreatDoorBase
import Derived.Carry
import Derived.Deep.Slices
import Derived.Deep.Fields
import Derived.ChangeSame
import Derived.Lib.SmallJoins
set_option linter.unusedSimpArgs false
set_option linter.unusedVariables false
namespace Go.Proofs.YtgmkkfdnmdohlaaGreatDoor
set_option maxRecDepth 20000
open Go.ChangeShapes Go.WideShapes Go.ChangeAt Go.RowKit Go.Deep

theorem laid_out : laidOutB Tryz.prog = true := by kernel_rfl
theorem own_knob : ownKnob Tryz.prog.godebug = none := by kernel_rfl

theorem trodAll_stays {H : Type} {enc : TypeId × Value → H} {P : Program} (hl : laidOutB P = true) {W W' : World} {sp' : Nat → Bool} {ts : List TypeId} {vs : List Value} {ds : List (DataW H)} {ps : List MemPlace}
    (hr : ∀ t ∈ ts, P.readableRec t = true ∧ t < P.types.size) (h : DataW.TrodAll enc P W 0 (fun _ => true) true ts vs ds ps) (hsame : ∀ p ∈ ps, W.sameAt W' p) (hs : ∀ p ∈ ps, sp' p.block = true) :
    DataW.TrodAll enc P W' 0 sp' true ts vs ds ps := by
  induction ts generalizing vs ds ps with
  | nil =>
    match vs, ds, h with
    | [], [], h => exact h
  | cons t ts ih =>
    match vs, ds, h with
    | v :: vs, d :: ds, ⟨p, q, h1, h2, hp⟩ =>
      subst hp
      refine ⟨p, q, ?_, ?_, rfl⟩
      · exact WideElems.Trod_stays hl (hr t (by simp)).1 (hr t (by simp)).2 h1 (fun x hx => hsame x (by simp [hx])) (fun x hx => hs x (by simp [hx]))
      · exact ih (fun t ht => hr t (by simp [ht])) h2 (fun x hx => hsame x (by simp [hx])) (fun x hx => hs x (by simp [hx]))

theorem post_law {H : Type} {enc : TypeId × Value → H} {P : Program} {f : Func} {s : ChangeSpec} {W W' : World} {args : Array Value} {ds gs : List (DataW H)} {before : List MemPlace} {tb : TypeId}
    (hl : laidOutB P = true) (hr : ∀ t ∈ f.params.toList, P.readableRec t = true ∧ t < P.types.size) (hv : s.vars = []) (hres : f.resultTypes = #[tb]) (hb : P.underlying tb = some .bool)
    (hs : s.fn H (ds ++ gs) = { results := [.lit (.bool true)], args := ds })
    (hW : DataW.Whole enc P f.params.toList s.vars false W args.toList ds gs before) (hbl : Below W.heap.size W W') :
    s.post enc P f false true false false W args (.bool true) W' := by
  have hlt : ∀ p ∈ before, p.block < W.heap.size := fun p hp => hW.lt p hp
  have hW0 := hW
  obtain ⟨p, q, hA, hV, rfl, _, _⟩ := hW
  rw [hv] at hV
  obtain ⟨rfl, rfl⟩ := trodVars_none hV
  refine ⟨ds, [], p ++ [], [], p, [], hW0, ?_, ?_, ?_, ?_, fun h => by cases h⟩
  · rw [hs, hres]
    exact trodAll_cons_mk (shut_bool hb _) trodAll_mk0
  · rw [hs]
    exact trodAll_stays hl hr hA (fun x hx => hbl.same (hlt x (by simp [hx]))) (fun x hx => by simpa using hlt x (by simp [hx]))
  · rw [hs, hv]
    exact rfl
  · exact hbl.frame _

theorem cells_int : Tryz.prog.cellsOf 3 = 1 := by kernel_rfl
theorem cell_lt {w : World} {a : Addr} {v : Value} (h : w.cell? a = some v) : a.block < w.heap.size := by
  rcases Nat.lt_or_ge a.block w.heap.size with hlt | hge
  · exact hlt
  · simp [World.cell?, Array.getElem?_eq_none hge] at h

theorem exists_list {α : Type} {P : Nat → α → Prop} (n : Nat) (h : ∀ i, i < n → ∃ d, P i d) : ∃ l : List α, l.length = n ∧ ∀ (i : Nat) (hi : i < l.length), P i l[i] := by
  induction n with
  | zero => exact ⟨[], rfl, fun i hi => absurd hi (by simp)⟩
  | succ n ih =>
    obtain ⟨l, hl, hp⟩ := ih fun i hi => h i (by omega)
    obtain ⟨d, hd⟩ := h n (by omega)
    refine ⟨l ++ [d], by simp [hl], fun i hi => ?_⟩
    rcases Nat.lt_or_ge i l.length with hlt | hge
    · rw [List.getElem_append_left hlt]; exact hp i hlt
    · have hin : i = l.length := by simp at hi; omega
      subst hin
      simp only [List.getElem_concat_length]
      rw [hl]; exact hd
theorem cells_dom : Tryz.prog.cellsOf 64 = 3 := by kernel_rfl
theorem open_ds2 {H : Type} {enc : TypeId × Value → H} {W : World} {r : Reach} {b : Nat} {v : Value} {d : DataW H} {p : List MemPlace} (hok : Value.okWide Tryz.prog W r b 25 v)
    (h : DataW.Trod enc Tryz.prog W 0 (fun _ => true) true 25 v d p) :
    ∃ A n c l, v = .slice A n c ∧ RdA W 3 A n (dsl l) ∧ n ≤ maxLen ∧ (∀ z ∈ l, (Lit.int .i64 z.x).wf = true ∧ (Lit.int .i64 z.y).wf = true) ∧ n ≤ c := by
  obtain ⟨a0, len, cap, rfl⟩ := okWide_slice Tryz.underlying25 hok
  obtain ⟨fuel, hf⟩ := h
  rcases Go.Deep.open_slice Tryz.underlying25 hf with ⟨hcs, _⟩ | ⟨a, len', cap', m, n, D, Pl, hcs, _, hl, hm, hmm, _, hi⟩
  · simp [Value.cells] at hcs
    obtain ⟨rfl, rfl, rfl⟩ := hcs
    exact ⟨none, 0, 0, [], rfl, ⟨by simp [dsl], fun h => absurd h (by omega)⟩, Nat.zero_le _, by simp, Nat.le_refl _⟩
  · simp [Value.cells] at hcs
    obtain ⟨rfl, rfl, rfl⟩ := hcs
    simp only [if_true] at hmm
    have key : ∀ i, i < len → ∃ z : Dom, (∀ j u, z.cs[j]? = some u → W.cell? (a.add (i * 3 + j)) = some u) ∧ (Lit.int .i64 z.x).wf = true ∧ (Lit.int .i64 z.y).wf = true := by
      intro i hilt
      obtain ⟨cs', hc, ht⟩ := hi i (by omega)
      rw [cells_dom] at hc
      obtain ⟨ys, n', _, _, hlen, hyl, hfd⟩ := DataW.trod_struct Tryz.underlying64 ht
      rw [cells_dom] at hlen
      obtain ⟨_, _, hat⟩ := World.cells?_some hc
      match cs', hlen with
      | [x0, x1, x2], _ =>
        match ys, hyl with
        | [y0, y1, y2], _ =>
          have g0 := hfd 0 _ rfl
          have g1 := hfd 1 _ rfl
          have g2 := hfd 2 _ rfl
          have k1 : Tryz.prog.cellsOf 3 = 1 := by kernel_rfl
          have k2 : Tryz.prog.cellsOf 4 = 1 := by kernel_rfl
          simp only [k1, k2, List.drop, List.take, List.getElem?_cons_zero, List.getElem?_cons_succ] at g0 g1 g2
          obtain ⟨z0, e0, _, w0⟩ := DataW.trod_int Tryz.underlying3 g0
          obtain ⟨z1, e1, _, w1⟩ := DataW.trod_int Tryz.underlying3 g1
          obtain ⟨z2, e2, _⟩ := DataW.trod_bool Tryz.underlying4 g2
          injection e0 with e0; injection e1 with e1; injection e2 with e2
          subst e0; subst e1; subst e2
          refine ⟨⟨z0, z1, z2⟩, fun j u hu => ?_, w0, w1⟩
          have hj : j < 3 := by
            have := (List.getElem?_eq_some_iff.1 hu).1
            simpa [Dom.cs] using this
          have h := hat j (by omega)
          rw [add_of_add] at h
          rw [h]
          exact hu
    obtain ⟨l, hll, hlp⟩ := exists_list len key
    subst hll
    refine ⟨some a, l.length, cap, l, rfl, ⟨dsl_len l, fun hn => ⟨a, rfl, ?_, fun j u hu => ?_⟩⟩, by omega, fun z hz => ?_, hl⟩
    · have := cell_lt ((hlp 0 hn).1 0 _ rfl)
      rwa [block_of_add] at this
    · have hj : j < l.length * 3 := by
        have := (List.getElem?_eq_some_iff.1 hu).1
        rwa [dsl_len] at this
      have hq : j / 3 < l.length := by omega
      have hg := flatMap_get Dom.cs 3 (fun _ => rfl) l (j / 3) (j % 3) hq (by omega)
      rw [show j / 3 * 3 + j % 3 = j by omega] at hg
      have h := (hlp (j/3) hq).1 (j % 3) u (by rw [← hg]; exact hu)
      rwa [show j / 3 * 3 + j % 3 = j by omega] at h
    · obtain ⟨i, hi, rfl⟩ := List.getElem_of_mem hz
      exact (hlp i hi).2
theorem is_core {H : Type} {enc : TypeId × Value → H} {W : World} {n0 : Nat} {a0 : Option Addr} {len cap : Nat} {y : DataW H × List MemPlace} (hf : DataW.trod enc Tryz.prog W 0 (fun _ => true) true n0 22 [.slice a0 len cap] = some y) :
    ∃ l, RdA W 1 a0 len (isl l) ∧ len ≤ maxLen ∧ (∀ z ∈ l, (Lit.int .i64 z).wf = true) := by
  obtain ⟨d, p⟩ := y
  rcases open_ints Tryz.underlying22 Tryz.underlying3 cells_int hf with ⟨hcs, _⟩ | ⟨a, len', cap', zs, hcs, _, hl, hm, hz, _, hcell, hwz⟩
  · simp at hcs
    obtain ⟨rfl, rfl, rfl⟩ := hcs
    exact ⟨[], ⟨by simp [isl], fun h => absurd h (by omega)⟩, Nat.zero_le _, by simp⟩
  · simp at hcs
    obtain ⟨rfl, rfl, rfl⟩ := hcs
    simp only [if_true] at hz
    refine ⟨zs.take len, ⟨by simp [isl]; omega, fun hn => ⟨a, rfl, ?_, ?_⟩⟩, by omega, fun z hz => hwz z (List.mem_of_mem_take hz)⟩
    · have := cell_lt (hcell 0 (by omega))
      rwa [block_of_add] at this
    · intro j u hu
      have hj : j < len := by
        have := (List.getElem?_eq_some_iff.1 hu).1
        simp [isl] at this; omega
      rw [hcell j (by omega), ← hu]
      simp [isl, hj, List.getD, show j < zs.length by omega]
end Go.Proofs.YtgmkkfdnmdohlaaGreatDoor
