
/- The laws of append and copy, over clean states. -/
import Derived.Test.YtgmckbchcpfhcaaCl5
namespace Go.Proofs.Ytgmckbchcpfhcaa
namespace Cl
open Go.ChangeShapes Go.WideShapes Go.ChangeAt Go.RowKit

def RdS (w : World) (s : Nat) (A : Option Addr) (n : Nat) (us : List Value) : Prop :=
  us.length = n * s ∧ (n = 0 ∨ ∃ a, A = some a ∧ ∀ (j : Nat) v, us[j]? = some v → w.cell? (a.add j) = some v)
theorem RdS.first {w : World} {s n c : Nat} {A : Option Addr} {us : List Value} (h : RdS w s A n us) {P : Program} : (Builtin.firstCells s n (.slice A n c)).run P w = .ok us.toArray w := by
  obtain ⟨hl, hr⟩ := h
  rcases hr with rfl | ⟨a, rfl, hc⟩
  · have : us = [] := List.eq_nil_of_length_eq_zero (by simpa using hl)
    subst this
    cases A <;> simp [Builtin.firstCells, loadCells, loadCellsFrom, go_sem]
  · exact run_firstCells_some (P := P) w s n a n c us hl hc
theorem run_append_grown {P : Program} {w : World} {t ty e : TypeId} {i : TypeInfo} {z : Value} (ht : P.underlying t = some (.slice e)) (hi : P.info? e = some i) (hz : i.zero = some z)
    {A B : Option Addr} {n c m c' : Nat} {olds news : List Value} (ho : RdS w i.size A n olds) (hn : RdS w i.size B m news) (hg : c < n + m) (h63 : ((n + m : Nat) : Int) ≤ 9223372036854775807) (hfit : Builtin.nextslicecap (n + m) c * i.bytes ≤ 281474976710656) :
    (Builtin.append_ #[t, t] ty #[.slice A n c, .slice B m c']).run P w =
      .ok (.slice (some ⟨w.heap.size, 0, none⟩) (n + m) (grownCap w (n + m) c e)) (w.drew.alloc (.cells (olds ++ news ++ (Builtin.zeroCells z.cells (grownCap w (n + m) c e - (n + m))).toList).toArray e)) := by
  have hn' : ¬ (n + m ≤ c) := by omega
  have h63' : ¬ (9223372036854775807 < ((n : Int) + (m : Int))) := by omega
  have h48' : ¬ (281474976710656 < Builtin.nextslicecap (n + m) c * i.bytes) := by omega
  have hf := RdS.first (w := w.drew) (c := c') hn (P := P)
  have hfo := RdS.first (w := w.drew) (c := c) ho (P := P)
  simp [Builtin.append_, run_underlying ht, sizeOf, typeInfo, zeroValue, hi, hz, Builtin.lenOf, hn', h63', h48', Question.forced, hf, hfo, newRow, grownCap]
  congr 2
  apply Array.ext'
  simp
theorem run_append_in {P : Program} {w : World} {t ty e : TypeId} {i : TypeInfo} (ht : P.underlying t = some (.slice e)) (hi : P.info? e = some i)
    {b o n c m c' : Nat} {B : Option Addr} {news : List Value} {cur : Array Value} {T : TypeId} (hg : w.heap[b]? = some (.cells cur T (0, 0))) (hn : RdS w i.size B m news) (h1 : ∀ u ∈ news, u.oneCell' = true) (hroom : n + m ≤ c) (hfit : o + n * i.size + news.length ≤ cur.size) :
    (Builtin.append_ #[t, t] ty #[.slice (some ⟨b, o, none⟩) n c, .slice B m c']).run P w =
      .ok (.slice (some ⟨b, o, none⟩) (n + m) c) (w.setRow b (cur.toList.take (o + n * i.size) ++ news ++ cur.toList.drop (o + n * i.size + news.length)).toArray) := by
  have hf := hn.first (c := c') (P := P)
  have hst := run_storeCells_at P b (o + n * i.size) T news 0 cur w hg (by simpa using hfit) h1
  simp only [Nat.add_zero] at hst
  simp [Builtin.append_, run_underlying ht, sizeOf, typeInfo, hi, Builtin.lenOf, hroom, hf, add_lit, hst]
theorem run_append_zero {P : Program} {w : World} {t ty e : TypeId} {i : TypeInfo} (ht : P.underlying t = some (.slice e)) (hi : P.info? e = some i) {A B : Option Addr} {c' : Nat} :
    (Builtin.append_ #[t, t] ty #[.slice A 0 0, .slice B 0 c']).run P w = .ok (.slice A 0 0) w := by
  cases A <;> cases B <;> simp [Builtin.append_, run_underlying ht, sizeOf, typeInfo, hi, Builtin.lenOf, Builtin.firstCells, loadCells, loadCellsFrom, storeCells, go_sem]
/-- what an append's second operand holds -/
inductive Src : A → List (Key × Cell) → Nat → Nat → List A → Prop
  | slv (m s : Nat) (xs : List Value) : Src (.slv m s xs) [] s m (pl xs)
  | sl (h off m : Nat) (o : Ob) (ys : List A) (hl : off * o.s + m * o.s ≤ o.cells.length) (hy : (o.cells.drop (off * o.s)).take (m * o.s) = ys) : Src (.sl h off m) [(.o h, .o o)] o.s m ys
  | nil (s : Nat) : Src (.val (.slice none 0 0)) [] s 0 []
  | slvv (s : Nat) (rows : List (Nat × List Value)) : Src (.slvv s rows) [] 1 rows.length (rows.map fun r => A.slv r.1 s r.2)
theorem Src.read {X : A} {R : List (Key × Cell)} {s m : Nat} {ys : List A} (h : Src X R s m ys) {a : Act} {w : World} {ρ : Nat → Option Place} {I : Nat → Prop} (hf : Facts R a w ρ I) {u : Value} (hr : RelA ρ I w X u) :
    ∃ B c us, u = .slice B m c ∧ RdS w s B m us ∧ ys.length = m * s ∧ ∀ (j : Nat) y, ys[j]? = some y → ∃ v, us[j]? = some v ∧ RelA ρ I w y v := by
  cases h with
  | slv m s xs =>
    obtain ⟨hl, A, c, rfl, _, h3⟩ := hr
    refine ⟨A, c, xs, rfl, ⟨hl, ?_⟩, by rw [pl_len, hl], fun j y hj => ?_⟩
    · rcases Nat.eq_zero_or_pos m with h0 | h0
      · exact .inl h0
      · obtain ⟨g, o, rfl, _, hc⟩ := h3 h0
        exact .inr ⟨_, rfl, fun j v hv => by rw [add_lit]; exact hc j v hv⟩
    · simp only [pl, List.getElem?_map] at hj
      cases hq : xs[j]? with
      | none => simp [hq] at hj
      | some v => rw [hq] at hj; injection hj with hj; subst hj; exact ⟨v, rfl, rfl⟩
  | nil s =>
    have e : u = .slice none 0 0 := hr
    subst e
    exact ⟨none, 0, [], rfl, ⟨by simp, .inl rfl⟩, by simp, fun j y hj => by simp at hj⟩
  | slvv s rows =>
    obtain ⟨A, c, rfl, _, h3⟩ := hr
    rcases Nat.eq_zero_or_pos rows.length with h0 | h0
    · have e : rows = [] := List.eq_nil_of_length_eq_zero h0
      subst e
      exact ⟨A, c, [], rfl, ⟨by simp, .inl rfl⟩, by simp, fun j y hj => by simp at hj⟩
    · obtain ⟨g, o, rfl, hg, hc⟩ := h3 h0
      let us : List Value := (List.range rows.length).map fun j => (w.cell? ⟨g, o + j, none⟩).getD undef
      have hus : ∀ (j : Nat) r, rows[j]? = some r → ∃ v, us[j]? = some v ∧ w.cell? ⟨g, o + j, none⟩ = some v ∧ RelA ρ I w (.slv r.1 s r.2) v := fun j r hj => by
        obtain ⟨q1, A', c', q2, q3, q4⟩ := hc j r hj
        have hjl : j < rows.length := (List.getElem?_eq_some_iff.1 hj).1
        refine ⟨.slice A' r.1 c', ?_, q2, q1, A', c', rfl, q3, q4⟩
        simp only [us, List.getElem?_map, List.getElem?_range hjl, Option.map_some, q2, Option.getD_some]
      refine ⟨_, c, us, rfl, ⟨by simp [us], .inr ⟨_, rfl, fun j v hv => ?_⟩⟩, by simp, fun j y hj => ?_⟩
      · have hjl : j < rows.length := by have := (List.getElem?_eq_some_iff.1 hv).1; simpa [us] using this
        obtain ⟨v', e1, e2, _⟩ := hus j rows[j] (by simp)
        rw [e1] at hv; injection hv with hv; subst hv
        rw [add_lit]; exact e2
      · rw [List.getElem?_map] at hj
        cases hq : rows[j]? with
        | none => rw [hq] at hj; simp at hj
        | some r =>
          rw [hq] at hj; simp at hj; subst hj
          obtain ⟨v, e1, _, e3⟩ := hus j r hq
          exact ⟨v, e1, e3⟩
  | sl h off m o ys hl hy =>
    obtain ⟨p, A, hp, rfl, h2, h3⟩ := hr
    have ho : Own ρ I w h o := hf (.o h) (.o o) (by simp)
    have hyl : ys.length = m * o.s := by rw [← hy]; simp; omega
    rcases Nat.eq_zero_or_pos (m * o.s) with h0 | h0
    · have hy0 : ys = [] := List.eq_nil_of_length_eq_zero (by omega)
      subst hy0
      rcases Nat.eq_zero_or_pos m with hm | hm
      · exact ⟨A, _, [], rfl, ⟨by simp [hm], .inl hm⟩, by omega, fun j y hj => by simp at hj⟩
      · have h3' := h3 (.inr (by omega))
        obtain ⟨p', hp', _, _, _, hz, _⟩ := ho
        rw [hp] at hp'; injection hp' with hp'; subst hp'
        have hlv : p.live = true := by
          rcases Bool.eq_false_or_eq_true p.live with h | h
          · exact h
          · have := hz h; omega
        rw [hlv, if_pos rfl] at h3'
        subst h3'
        exact ⟨_, _, [], rfl, ⟨by simp [h0], .inr ⟨_, rfl, fun j v hv => by simp at hv⟩⟩, by omega, fun j y hj => by simp at hj⟩
    · obtain ⟨p', cur, hp', hs, hcl, hn0, hg, hsz, _, hc⟩ := own_pos (j := off * o.s) ho (by omega)
      rw [hp] at hp'; injection hp' with hp'; subst hp'
      have hm0 : m ≠ 0 := fun e => by rw [e] at h0; simp at h0
      have h3' := h3 (.inr (by omega))
      rw [hn0, if_pos rfl] at h3'
      subst h3'
      let us : List Value := (cur.toList.drop (p.base + off * p.size)).take (m * o.s)
      have hul : us.length = m * o.s := by simp [us]; rw [hs] at hcl hsz ⊢; omega
      have hug : ∀ (j : Nat) v, us[j]? = some v → cur[p.base + off * p.size + j]? = some v := fun j v hv => by
        have hjn : j < m * o.s := by rw [← hul]; exact (List.getElem?_eq_some_iff.1 hv).1
        simpa [us, List.getElem?_take, hjn, List.getElem?_drop] using hv
      refine ⟨_, _, us, rfl, ⟨hul, .inr ⟨_, rfl, fun j v hv => ?_⟩⟩, hyl, fun j y hj => ?_⟩
      · rw [add_lit]; simp [World.cell?, hg, hug j v hv]
      · have hjn : j < m * o.s := by rw [← hyl]; exact (List.getElem?_eq_some_iff.1 hj).1
        have hoc : o.cells[off * o.s + j]? = some y := by rw [← hy] at hj; simpa [List.getElem?_take, hjn, List.getElem?_drop] using hj
        obtain ⟨v, hv, hrv⟩ := hc _ y hoc
        have hju : j < us.length := by omega
        refine ⟨us[j], by simp, ?_⟩
        have h5 := hug j us[j] (by simp)
        rw [hs, Nat.add_assoc, hv] at h5
        injection h5 with h5
        rw [← h5]; exact hrv
section
variable {Γ : Cx} {d : Nat} {ty : TypeId} {pos : String} {af : Array Edge} {g : Option (Nat × Bool)}
theorem acts_append {x h off n h2 m t e : Nat} {i : TypeInfo} {z : Value} {y : Operand} {o : Ob} {X : A} {R R' : List (Key × Cell)} {xs ys zs : List A} {ex : Bool} (hN : Γ.ok d) (ht : Γ.P.underlying t = some (.slice e)) (hi : Γ.P.info? e = some i) (hz : i.zero = some z) (hzs : z.cells.size = i.size) (hs : i.size = o.s) (hsz : 0 < o.s) (hT : o.T = e)
    (hol : off * o.s + n * o.s ≤ o.cells.length) (hxs : (o.cells.drop (off * o.s)).take (n * o.s) = xs) (hex : ex = true → o.ex = true ∧ off = 0)
    (hy : OpX y (.b (.a X)) R) (hsrc : Src X R' o.s m ys) (h1 : ∀ y ∈ ys, y.one = true) (h63 : n + m ≤ maxLen) (hby : (n + m) * i.bytes ≤ 140737488355328) (hzs' : xs ++ ys = zs) :
    Acts Γ ⟨some d, .call { callee := .builtin .append, args := #[.tmp x, y], argTypes := #[t, t] }, ty, pos, af, g⟩ ((.s x, .s (.b (.a (.sl h off n)))) :: (.o h, .o o) :: (.o h2, .free) :: (R ++ R'))
      [(.s d, some (.s (.b (.a (.sl h2 0 (n + m)))))), (.o h2, some (.o ⟨o.T, o.s, ex, zs⟩)), (.o h, none)] := by
  intro σ a w ρ I hs' hR K Q hK
  have hf := facts_of hs' hR
  obtain ⟨p, A, hp, e1, e2, e3⟩ := hf (.s x) (.s (.b (.a (.sl h off n)))) (by simp)
  have ho : Own ρ I w h o := hf (.o h) (.o o) (by simp)
  have hrX : RelA ρ I w X (a.eval y) := hy.rel (fun k c hk => hf k c (by simp [hk]))
  obtain ⟨B, c', us, eu, hus, hyl, hyr⟩ := hsrc.read (fun k c hk => hf k c (by simp [hk])) hrX
  have hx0 := Src.read (.sl h off n o xs hol hxs) (a := a) (w := w) (ρ := ρ) (I := I) (fun k c hk => by simp at hk; obtain ⟨rfl, rfl⟩ := hk; exact ho) (u := a.eval (.tmp x)) ⟨p, A, hp, e1, e2, e3⟩
  obtain ⟨A0, c0, os, eo, hos, hxl, hxr⟩ := hx0
  have hev : a.eval (.tmp x) = .slice A n (p.cap - off) := e1
  rw [hev] at eo; injection eo with eo1 eo2 eo3
  subst eo1; subst eo3
  obtain ⟨pp, hpp, hps, hpl, hpe, hpz, hpx⟩ := ho
  rw [hp] at hpp; injection hpp with hpp; subst hpp
  have hone : ∀ u ∈ us, u.oneCell' = true := by
    intro u hu
    obtain ⟨j, hj, rfl⟩ := List.getElem_of_mem hu
    have hjy : j < ys.length := by rw [hyl, ← hus.1]; exact hj
    obtain ⟨v, hv, hr⟩ := hyr j ys[j] (by simp)
    have : v = us[j] := by rw [List.getElem?_eq_getElem hj] at hv; injection hv with hv; exact hv.symm
    rw [← this]; exact hr.one (h1 _ (by simp))
  have hzl : zs.length = (n + m) * o.s := by rw [← hzs', List.length_append, hxl, hyl, Nat.add_mul]
  have hzr : ∀ (j : Nat) y, zs[j]? = some y → ∃ v, (os ++ us)[j]? = some v ∧ RelA ρ I w y v := by
    intro j y hj
    rw [← hzs'] at hj
    rcases Nat.lt_or_ge j xs.length with hlt | hge
    · rw [List.getElem?_append_left hlt] at hj
      obtain ⟨v, hv, hr⟩ := hxr j y hj
      exact ⟨v, by rw [List.getElem?_append_left (by rw [hos.1, ← hxl]; exact hlt)]; exact hv, hr⟩
    · rw [List.getElem?_append_right hge] at hj
      obtain ⟨v, hv, hr⟩ := hyr _ y hj
      exact ⟨v, by rw [List.getElem?_append_right (by rw [hos.1, ← hxl]; exact hge), hos.1, ← hxl]; exact hv, hr⟩
  have hkill := hs'.kill (.o h)
  have hne : h2 ≠ h := fun e => by
    have q1 := hR (.o h, .o o) (by simp)
    have q2 := hR (.o h2, .free) (by simp)
    rw [e] at q2
    simp only at q1 q2
    rw [q1] at q2; cases q2
  have hfree : get ((Key.o h, none) :: σ) (.o h2) = some .free := by
    rw [get_cons_ne (key_neo (fun e => hne e.symm))]
    exact hR (.o h2, .free) (by simp)
  have wpk : ∀ v w', (Builtin.append_ #[t, t] ty #[a.eval (.tmp x), a.eval y]).run Γ.P w = .ok v w' → K (a.put (some d) v) w' → Oper.wp Γ.P ⟨some d, .call { callee := .builtin .append, args := #[.tmp x, y], argTypes := #[t, t] }, ty, pos, af, g⟩ a w K Q := by
    intro v w' hrun hk
    unfold Oper.wp
    simp only [execOp, resolve, List.map_toArray, List.map_cons, List.map_nil]
    simp only [Sem.run_bind, Sem.run_pure, Result.andThen_ok, invoke, builtin, hrun]
    exact hk
  rw [hev, eu] at wpk
  have hzrow : ∀ (j : Nat) y, zs[j]? = some y → y.isRow = true → j < n * o.s ∧ o.cells[off * o.s + j]? = some y := by
    intro j y hj hrow
    rw [← hzs'] at hj
    rcases Nat.lt_or_ge j xs.length with hlt | hge
    · rw [List.getElem?_append_left hlt, ← hxs, List.getElem?_take] at hj
      split at hj
      · rename_i hjn
        rw [List.getElem?_drop] at hj; exact ⟨hjn, hj⟩
      · cases hj
    · rw [List.getElem?_append_right hge] at hj
      rw [one_nr (h1 _ (List.mem_of_getElem? hj))] at hrow; cases hrow
  by_cases hroom : n + m ≤ p.cap - off
  · by_cases hc0 : p.cap - off = 0
    · have hn0 : n = 0 := by omega
      have hm0 : m = 0 := by omega
      subst hn0; subst hm0
      rw [hc0] at wpk
      refine wpk _ _ (run_append_zero ht hi) (hK _ _ ?_)
      have hz0 : zs = [] := List.eq_nil_of_length_eq_zero (by rw [hzl]; simp)
      have hznr : ∀ y ∈ zs, y.isRow = false := by rw [hz0]; intro y hy; cases hy
      by_cases hexx : p.x = true ∧ off = 0
      · obtain ⟨hxx, hoo⟩ := hexx
        subst hoo
        have hcap0 : p.cap = 0 := by omega
        have hkl : ∀ y q o', get ((Key.o h, none) :: σ) (.o y) = some (.o o') → ρ y = some q → q.live = true → p.live = true → q.block ≠ p.block := by
          intro y q o' hy hq hnq hn0 e
          obtain ⟨hyh, hy'⟩ := Sat.get_kill hy
          exact hyh (hs'.m.inj y h q p o' o hy' (hR (.o h, .o o) (by simp)) hq hp hnq hn0 e)
        obtain ⟨ρ', hρ, hx', hs2⟩ := hkill.adopt hfree (p := ⟨p.block, p.base, 0, o.s, p.live, true⟩) (o := ⟨o.T, o.s, ex, zs⟩) rfl (by rw [hz0]; simp) (fun he => ⟨rfl, (hpe (hex he).1).2.1, Nat.zero_le _⟩) (fun _ => rfl)
          (fun hlv => by
            obtain ⟨b1, b2, b3⟩ := hs'.m.pl h p o (hR (.o h, .o o) (by simp)) hp hlv
            obtain ⟨cur, hg, hcs, hce, _⟩ := hpx hlv
            refine ⟨b1, b2, b3, fun y q o' hy hq hnq => hkl y q o' hy hq hnq hlv, cur, hg, by simp only; omega, fun he => ?_, fun j y hj => by rw [hz0] at hj; simp at hj⟩
            have := hce (hex he).1
            rw [hcap0] at this; simpa using this) (RowFit.no hznr) (fun hlv {_ _ _ _ _ _ _ _} hr => (show p.block ≠ _ from hs'.m.rs.sep (p' := p) (RowIn.unkill hs'.m (p := p) (hR (.o h, .o o) (by simp)) hp hlv (fun _ _ _ => rfl) hr).2 (hR (.o h, .o o) (by simp)) hp hlv)) (fun _ {j _ _ _ _ _ _} (h1 : zs[j]? = _) => by rw [hz0] at h1; simp at h1)
        refine ⟨ρ', I, hs2.put (V := .b (.a (.sl h2 0 (0 + 0)))) hN ⟨_, A, hx', by simp, by simp, fun _ => ?_⟩⟩
        have := e3 (.inl ⟨hxx, rfl⟩)
        simpa using this
      · obtain ⟨ρ', hρ, hx', hs2⟩ := hkill.adopt hfree (p := ⟨p.block, 0, 0, o.s, false, false⟩) (o := ⟨o.T, o.s, ex, zs⟩) rfl (by rw [hz0]; simp) (fun he => absurd ⟨(hpe (hex he).1).1, (hex he).2⟩ hexx) (fun _ => rfl) (fun hne' => by simp at hne') (RowFit.no hznr) (fun hne' => by simp at hne') (fun hne' => by simp at hne')
        exact ⟨ρ', I, hs2.put (V := .b (.a (.sl h2 0 (0 + 0)))) hN ⟨_, A, hx', by simp, by simp, fun h => by simp at h⟩⟩
    · have hn0 : p.live = true := by
        rcases Bool.eq_false_or_eq_true p.live with h | h
        · exact h
        · have := hpz h; omega
      have e3' := e3 (.inr hc0)
      rw [hn0, if_pos rfl] at e3'
      subst e3'
      obtain ⟨cur, hg, hcs, hce, hcc⟩ := hpx hn0
      have hroomc : off * o.s + n * o.s + m * o.s ≤ p.cap * o.s := by rw [← Nat.add_mul, ← Nat.add_mul]; exact Nat.mul_le_mul_right _ (by omega)
      rw [hps] at hcs hce hpl
      have hul := hus.1
      have hrun := run_append_in (w := w) (ty := ty) (o := p.base + off * p.size) (n := n) (c := p.cap - off) (c' := c') ht hi hg (by rw [hs]; exact hus) hone hroom (by rw [hs, hps]; omega)
      rw [hs, hps] at hrun
      rw [hps] at wpk
      refine wpk _ _ hrun (hK _ _ ?_)
      obtain ⟨b1, b2, b3⟩ := hs'.m.pl h p o (hR (.o h, .o o) (by simp)) hp hn0
      have hlive : ∀ y q o', get ((Key.o h, none) :: σ) (.o y) = some (.o o') → ρ y = some q → q.live = true → q.block ≠ p.block := by
        intro y q o' hy hq hnq e
        obtain ⟨hyh, hy'⟩ := Sat.get_kill hy
        exact hyh (hs'.m.inj y h q p o' o hy' (hR (.o h, .o o) (by simp)) hq hp hnq hn0 e)
      have hsc := hkill.scribble b1 b2 hlive (fun {_ _ _ _ _ _ _ _} hr e => hs'.m.rs.sep (RowIn.unkill hs'.m (hR (.o h, .o o) (by simp)) hp hn0 (fun _ _ _ => rfl) hr).2 (hR (.o h, .o o) (by simp)) hp hn0 e.symm) (List.take (p.base + off * o.s + n * o.s) cur.toList ++ us ++ List.drop (p.base + off * o.s + n * o.s + us.length) cur.toList).toArray
      have hos' : ∀ (j : Nat) v, os[j]? = some v → cur[p.base + off * o.s + j]? = some v := by
        intro j v hv
        rcases hos.2 with h0 | ⟨ad, e, hc⟩
        · have : os = [] := List.eq_nil_of_length_eq_zero (by rw [hos.1, h0]; simp)
          rw [this] at hv; simp at hv
        · injection e with e
          subst e
          have := hc j v hv
          rw [add_lit, hps] at this
          simpa [World.cell?, hg] using this
      have hcells : ∀ (j : Nat) y, zs[j]? = some y → ∃ u, (List.take (p.base + off * o.s + n * o.s) cur.toList ++ us ++ List.drop (p.base + off * o.s + n * o.s + us.length) cur.toList).toArray[p.base + off * o.s + j]? = some u ∧ RelA ρ I (w.setRow p.block (List.take (p.base + off * o.s + n * o.s) cur.toList ++ us ++ List.drop (p.base + off * o.s + n * o.s + us.length) cur.toList).toArray) y u := by
        intro j y hj
        obtain ⟨v, hv, hr⟩ := hzr j y hj
        refine ⟨v, ?_, hr.mono (fun _ _ h => h) (fun b hb => ⟨hb, setRow_other w p.block b _ (fun e => b1 (e ▸ hb))⟩)⟩
        simp only [List.getElem?_toArray]
        have hol' := hos.1
        rcases Nat.lt_or_ge j os.length with hlt | hge
        · rw [List.getElem?_append_left hlt] at hv
          have := hos' j v hv
          rw [List.append_assoc, List.getElem?_append_left (by simp; omega), List.getElem?_take, if_pos (by omega)]
          simpa using this
        · rw [List.getElem?_append_right hge] at hv
          have hjl := (List.getElem?_eq_some_iff.1 hv).1
          rw [List.append_assoc, List.getElem?_append_right (by simp; omega), List.getElem?_append_left (by simp; omega)]
          have : p.base + off * o.s + j - (List.take (p.base + off * o.s + n * o.s) cur.toList).length = j - os.length := by simp; omega
          rw [this]; exact hv
      have hmv := RowFit.moved hs'.m (hR (.o h, .o o) (by simp)) hp hn0 (w' := w.setRow p.block (List.take (p.base + off * o.s + n * o.s) cur.toList ++ us ++ List.drop (p.base + off * o.s + n * o.s + us.length) cur.toList).toArray) (fun b _ hb => setRow_other w p.block b _ hb) (by simp) (d := off * o.s) (zs := zs)
        (val := fun j => (w.setRow p.block (List.take (p.base + off * o.s + n * o.s) cur.toList ++ us ++ List.drop (p.base + off * o.s + n * o.s + us.length) cur.toList).toArray).cell? ⟨p.block, p.base + off * o.s + j, none⟩) (fun j y v hj hrow hv => by
          obtain ⟨q1, q2⟩ := hzrow j y hj hrow
          refine ⟨q2, ?_⟩
          simp only [World.cell?, setRow_heap w p.block cur _ _ _ hg] at hv
          simp only [List.getElem?_toArray] at hv
          have hj2 : p.base + off * o.s + j < p.base + off * o.s + n * o.s := by omega
          have hsz2 : p.base + off * o.s + n * o.s ≤ cur.size := by omega
          rw [List.append_assoc, List.getElem?_append_left (by rw [List.length_take, Array.length_toList]; omega), List.getElem?_take, if_pos hj2] at hv
          simp only [World.cell?, hg]
          rw [← Nat.add_assoc]; rw [Array.getElem?_toList] at hv; exact hv)
      obtain ⟨ρ', hρ, hx', hs2⟩ := hsc.adopt hfree (p := ⟨p.block, p.base + off * o.s, p.cap - off, o.s, true, true⟩) (o := ⟨o.T, o.s, ex, zs⟩) rfl (by simp only; rw [hzl]; exact Nat.mul_le_mul_right _ hroom)
        (fun he => by obtain ⟨q1, q2⟩ := hex he; obtain ⟨_, q3, q4⟩ := hpe q1; subst q2; exact ⟨rfl, by show p.base + 0 * o.s = 0; rw [q3]; simp, by show p.cap - 0 ≤ maxLen; omega⟩) (fun h => by simp at h)
        (fun _ => ⟨b1, b2, by simpa using b3, hlive, _, setRow_heap w p.block cur _ _ _ hg, by
          simp only
          have hbd : p.base + off * o.s + (p.cap - off) * o.s ≤ cur.size := by
            rw [Nat.add_assoc, ← Nat.add_mul]
            refine Nat.le_trans (Nat.add_le_add_left (Nat.mul_le_mul_right _ (by omega : off + (p.cap - off) ≤ p.cap)) _) hcs
          simp; omega, fun he => by
          obtain ⟨q1, q2⟩ := hex he
          have := hce q1
          subst q2
          simp; omega, hcells⟩) hmv.1 (fun _ {_ _ _ _ _ _ _ _} hr => (show p.block ≠ _ from hs'.m.rs.sep (p' := p) (RowIn.unkill hs'.m (p := p) (hR (.o h, .o o) (by simp)) hp hn0 (fun b _ hb => setRow_other w p.block b _ hb) hr).2 (hR (.o h, .o o) (by simp)) hp hn0)) (fun _ {_ _ _ _ _ _ _} h1 h2 => hmv.2 h1 h2)
      exact ⟨ρ', I, hs2.put (V := .b (.a (.sl h2 0 (n + m)))) hN ⟨_, some ⟨p.block, p.base + off * o.s, none⟩, hx', by simp, by simpa using hroom, fun _ => by simp⟩⟩
  · have hcap : p.cap - off < n + m := by omega
    have hsmall : n + m ≤ 9223372036854775807 := by simp only [maxLen] at h63; omega
    have hrun := run_append_grown (w := w) (ty := ty) (c' := c') ht hi hz (by rw [hs]; exact hos) (by rw [hs]; exact hus) hcap (by omega) (growslice_fits hcap hby)
    refine wpk _ _ hrun (hK _ _ ?_)
    have hge := grownCap_ge w (n + m) (p.cap - off) e
    have hcm := grownCap_le_maxLen w (n + m) (p.cap - off) e h63
    have hdr : Sat Γ ((Key.o h, none) :: σ) a w.drew ρ I := hkill.world ⟨rfl, rfl, rfl, Nat.le_refl _, fun _ _ => rfl⟩
    have hlen : (os ++ us).length = (n + m) * o.s := by rw [List.length_append, hos.1, hus.1, Nat.add_mul]
    obtain ⟨ρ', hρ, hx', hs2⟩ := hdr.new hfree (cur := (os ++ us ++ (Builtin.zeroCells z.cells (grownCap w (n + m) (p.cap - off) e - (n + m))).toList).toArray) (T := e) (cap := grownCap w (n + m) (p.cap - off) e) (s := o.s) (ex := ex) (cells := zs)
      (by simp only [List.size_toArray, List.length_append, Array.length_toList, size_zeroCells, hzs, hs]
          have h3 : os.length + us.length = (n + m) * o.s := by rw [← List.length_append]; exact hlen
          rw [h3, ← Nat.add_mul]; congr 1; omega) (by rw [hzl]; exact Nat.mul_le_mul_right _ hge) (fun _ => hcm) (fun j y hj => by
        obtain ⟨v, hv, hr⟩ := hzr j y hj
        refine ⟨v, ?_, hr.mono (fun _ _ h => h) (fun b hb => ⟨hb, rfl⟩)⟩
        simp only [List.getElem?_toArray]
        rw [List.getElem?_append_left (List.getElem?_eq_some_iff.1 hv).1]; exact hv) (by
        by_cases hn00 : n = 0
        · refine RowFit.no fun y hy => ?_
          obtain ⟨j, hj, rfl⟩ := List.getElem_of_mem hy
          rcases Bool.eq_false_or_eq_true (zs[j].isRow) with hq | hq
          · have := (hzrow j _ (List.getElem?_eq_getElem hj) hq).1
            rw [hn00] at this; omega
          · exact hq
        · have hc0 : p.cap - off ≠ 0 := by omega
          have hn0 : p.live = true := by
            rcases Bool.eq_false_or_eq_true p.live with h | h
            · exact h
            · have := hpz h; omega
          have e3' := e3 (.inr hc0)
          rw [hn0, if_pos rfl] at e3'
          obtain ⟨cur, hg, hcs, hce, hcc⟩ := hpx hn0
          refine (RowFit.moved hs'.m (hR (.o h, .o o) (by simp)) hp hn0 (w' := w.drew) (fun _ _ _ => rfl) (Nat.le_refl _) (d := off * o.s) (zs := zs) fun j y v hj hrow hv => ?_).1
          obtain ⟨q1, q2⟩ := hzrow j y hj hrow
          refine ⟨q2, ?_⟩
          simp only [List.getElem?_toArray] at hv
          rw [List.append_assoc, List.getElem?_append_left (by rw [hos.1]; exact q1)] at hv
          rcases hos.2 with h0 | ⟨ad, e, hc⟩
          · exact absurd h0 hn00
          · rw [e3'] at e
            injection e with e
            subst e
            have := hc j v hv
            rw [add_lit, hps, Nat.add_assoc] at this
            exact this)
    rw [hT]
    exact ⟨ρ', I, hs2.put (V := .b (.a (.sl h2 0 (n + m)))) hN ⟨_, some ⟨w.heap.size, 0, none⟩, hx', by simp, by simpa using hge, fun _ => by simp⟩⟩
end
end Cl
end Go.Proofs.Ytgmckbchcpfhcaa
