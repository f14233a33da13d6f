
/- Calls by contracts, over clean states. -/
import Derived.Test.YtgmckbchcpfhcaaCl9
namespace Go.Proofs.Ytgmckbchcpfhcaa
namespace Cl
open Go.ChangeShapes Go.WideShapes Go.ChangeAt Go.RowKit

inductive ArgV : Operand → B → List (Key × Cell) → Prop
  | v {x : Operand} {v : Value} {R : List (Key × Cell)} (h : OpV x v R) : ArgV x (.a (.val v)) R
  | va {x : Operand} {vs : List Value} {R : List (Key × Cell)} (h : OpV x (.agg vs.toArray) R) : ArgV x (.agg (vs.map A.val)) R
  | slv (t n s : Nat) (xs : List Value) : ArgV (.tmp t) (.a (.slv n s xs)) [(.s t, .s (.b (.a (.slv n s xs))))]
  | slvv (t s : Nat) (rows : List (Nat × List Value)) : ArgV (.tmp t) (.a (.slvv s rows)) [(.s t, .s (.b (.a (.slvv s rows))))]
  | regv (t n s : Nat) (xs : List Value) : ArgV (.tmp t) (.agg [.slv n s xs]) [(.s t, .s (.b (.agg [.slv n s xs])))]
  | sl (t h off n : Nat) {T s : Nat} {ex : Bool} {xs ys : List Value} (hl : off * s + n * s ≤ xs.length) (hy : (xs.drop (off * s)).take (n * s) = ys) : ArgV (.tmp t) (.a (.slv n s ys)) [(.s t, .s (.b (.a (.sl h off n)))), (.o h, .o ⟨T, s, ex, pl xs⟩)]
  | reg (t h n : Nat) {T s : Nat} {ex : Bool} {xs ys : List Value} (hl : n * s ≤ xs.length) (hy : xs.take (n * s) = ys) : ArgV (.tmp t) (.agg [.slv n s ys]) [(.s t, .s (.b (.agg [.sl h 0 n]))), (.o h, .o ⟨T, s, ex, pl xs⟩)]
  | nil {x : Operand} {R : List (Key × Cell)} (s : Nat) (h : OpV x (.slice none 0 0) R) : ArgV x (.a (.slv 0 s [])) R
  | regnil (t s : Nat) : ArgV (.tmp t) (.agg [.slv 0 s []]) [(.s t, .s (.b (.agg [.val (.slice none 0 0)])))]
  | fn (f : Nat) : ArgV (.func f) (.a (.fn f [])) []
  | fns (t f : Nat) : ArgV (.tmp t) (.a (.fn f [])) [(.s t, .s (.b (.a (.fn f []))))]
  | deep (t h n s : Nat) {T0 : Nat} {ex : Bool} {cs : List A} {rows : List (Nat × List Value)} (hn : n = rows.length) (hcs : ∀ (j : Nat) r, rows[j]? = some r → ∃ T, cs[j]? = some (.row T r.1 s r.2)) : ArgV (.tmp t) (.a (.slvv s rows)) [(.s t, .s (.b (.a (.sl h 0 n)))), (.o h, .o ⟨T0, 1, ex, cs⟩)]
  | nilnil {x : Operand} {R : List (Key × Cell)} (s : Nat) (h : OpV x (.slice none 0 0) R) : ArgV x (.a (.slvv s [])) R
  | slg (t T g n s : Nat) (xs : List Value) : ArgV (.tmp t) (.a (.slv n s xs)) [(.s t, .s (.b (.a (.slg T g n s xs))))]
theorem sl_view {Γ : Cx} {σ : St} {a : Act} {w : World} {ρ : Nat → Option Place} {I : Nat → Prop} (hs : Sat Γ σ a w ρ I) {h off n T s : Nat} {ex : Bool} {xs ys : List Value} (hg : get σ (.o h) = some (.o ⟨T, s, ex, pl xs⟩)) (hl : off * s + n * s ≤ xs.length) (hy : (xs.drop (off * s)).take (n * s) = ys)
    {u : Value} (hr : RelA ρ I w (.sl h off n) u) : RelA ρ0 (I0 w) w (.slv n s ys) u := by
  obtain ⟨p, A, hp, rfl, h2, h3⟩ := hr
  have hyl : ys.length = n * s := by rw [← hy]; simp; omega
  refine ⟨hyl, A, _, rfl, by omega, fun hn => ?_⟩
  obtain ⟨p', hp', hps, hpl, _, hz, hx⟩ := hs.m.ow h _ hg
  rw [hp] at hp'; injection hp' with hp'; subst hp'
  have hlv : p.live = true := by
    rcases Bool.eq_false_or_eq_true p.live with h | h
    · exact h
    · have := hz h; omega
  have h3' := h3 (.inr (by omega))
  rw [hlv, if_pos rfl] at h3'
  obtain ⟨cur, c1, c2, c3, c4⟩ := hx hlv
  refine ⟨p.block, _, h3', (hs.m.pl h p _ hg hp hlv).2.2, fun j x hj => ?_⟩
  simp only at hps c4
  have hjn : j < n * s := by rw [← hyl]; exact (List.getElem?_eq_some_iff.1 hj).1
  have hxx : xs[off * s + j]? = some x := by rw [← hy] at hj; simpa [List.getElem?_take, hjn, List.getElem?_drop] using hj
  obtain ⟨u, hu, hru⟩ := c4 (off * s + j) (.val x) (pl_get hxx)
  have : u = x := hru
  rw [hps, Nat.add_assoc]
  simp [World.cell?, c1, hu, this]
theorem deep_view {Γ : Cx} {σ : St} {a : Act} {w : World} {ρ : Nat → Option Place} {I : Nat → Prop} (hs : Sat Γ σ a w ρ I) {h T0 s : Nat} {ex0 : Bool} {cs : List A} {rows : List (Nat × List Value)} (ho : get σ (.o h) = some (.o ⟨T0, 1, ex0, cs⟩)) (hcs : ∀ (j : Nat) r, rows[j]? = some r → ∃ T, cs[j]? = some (.row T r.1 s r.2))
    {u : Value} (hu : RelA ρ I w (.sl h 0 rows.length) u) : RelA ρ0 (I0 w) w (.slvv s rows) u := by
  obtain ⟨p, hp, ps, pl0, pe, pz, pc⟩ := hs.m.ow h _ ho
  obtain ⟨p', A0, hp', he, hcap, hA⟩ := hu
  rw [hp] at hp'; injection hp' with hp'; subst hp'
  refine ⟨A0, p.cap - 0, he, by omega, fun hpos => ?_⟩
  have hlv : p.live = true := by
    rcases Bool.eq_false_or_eq_true p.live with q | q
    · exact q
    · have := pz q; omega
  have hA' := hA (.inr (by omega))
  rw [hlv, if_pos rfl] at hA'
  obtain ⟨cur, c1, c2, c3, c4⟩ := pc hlv
  refine ⟨p.block, p.base, by rw [hA']; simp, (hs.m.pl h p _ ho hp hlv).2.2, fun j r hj => ?_⟩
  obtain ⟨T, hT⟩ := hcs j r hj
  obtain ⟨v, hv, hxl, ob, cap, hval, hnc, hob⟩ := c4 j _ hT
  have hcv : w.cell? ⟨p.block, p.base + j, none⟩ = some v := by simp only [World.cell?, c1]; exact hv
  refine ⟨hxl, ob.map fun b => ⟨b, 0, none⟩, cap, by rw [hcv, hval], hnc, fun hr => ?_⟩
  cases ob with
  | none => have := hob rfl; omega
  | some b =>
    have hri : RowIn σ w ρ h j T r.1 s r.2 b cap := ⟨_, p, ho, hp, hlv, hT, by rw [hcv, hval]; rfl⟩
    obtain ⟨⟨cb, k1, k2, k3⟩, k4, k5, k6, k7, k8⟩ := hs.m.rs.ok hri
    exact ⟨b, 0, rfl, k8, fun i x hx => by simp only [World.cell?, k1, Nat.zero_add]; exact k3 i x hx⟩
theorem RelA.nr {ρ : Nat → Option Place} {I I' : Nat → Prop} {w : World} {x : A} {u : Value} (h : RelA ρ I w x u) (hI : ∀ b, I b → I' b) (hx : ∃ v, x = .val v ∨ (∃ n s xs, x = .slv n s xs) ∨ ∃ s rows, x = .slvv s rows) : RelA ρ0 I' w x u := by
  obtain ⟨v, rfl | ⟨n, s, xs, rfl⟩ | ⟨s, rows, rfl⟩⟩ := hx
  · exact h
  · exact RelA.mono (x := .slv n s xs) (ρ := ρ0) (by exact h) (fun _ _ h => h) fun b hb => ⟨hI b hb, rfl⟩
  · exact RelA.mono (x := .slvv s rows) (ρ := ρ0) (by exact h) (fun _ _ h => h) fun b hb => ⟨hI b hb, rfl⟩
/-- a row that nobody writes any more reads as one -/
theorem slg_slv {ρ : Nat → Option Place} {I : Nat → Prop} {w : World} {T g n s : Nat} {xs : List Value} {u : Value} (h : RelA ρ I w (.slg T g n s xs) u) : RelA ρ I w (.slv n s xs) u := by
  obtain ⟨hl, ⟨rfl, rfl⟩ | ⟨cap, cur, rfl, h2, h3, h4, h5, h6, h7⟩⟩ := h
  · exact ⟨hl, none, 0, rfl, Nat.le_refl _, fun h => absurd h (by omega)⟩
  · refine ⟨hl, _, cap, rfl, h4, fun _ => ⟨g, 0, rfl, h2, fun j x hj => ?_⟩⟩
    rw [← h7, List.getElem?_take] at hj
    split at hj
    · simp only [World.cell?, h3, Nat.zero_add]
      simpa using hj
    · cases hj
theorem ArgV.ok {Γ : Cx} {σ : St} {a : Act} {w : World} {ρ : Nat → Option Place} {I : Nat → Prop} (hs : Sat Γ σ a w ρ I) {x : Operand} {b : B} {R : List (Key × Cell)} (h : ArgV x b R) (hR : ∀ kv ∈ R, get σ kv.1 = some kv.2) : RelB ρ0 (I0 w) w b (a.eval x) := by
  have hf := facts_of hs hR
  cases h with
  | v h => exact h.ev hf
  | va h => rw [h.ev hf]; exact relav_mk _
  | slv t n s xs => exact RelA.nr (show RelA ρ I w (.slv n s xs) _ from hf (.s t) _ (List.mem_singleton.2 rfl)) hs.m.im ⟨undef, .inr (.inl ⟨_, _, _, rfl⟩)⟩
  | slvv t s rows => exact RelA.nr (show RelA ρ I w (.slvv s rows) _ from hf (.s t) _ (List.mem_singleton.2 rfl)) hs.m.im ⟨undef, .inr (.inr ⟨_, _, rfl⟩)⟩
  | regv t n s xs =>
    obtain ⟨cs, e, hl, hx⟩ := hf (.s t) (.s (.b (.agg [.slv n s xs]))) (List.mem_singleton.2 rfl)
    refine ⟨cs, e, hl, fun j x c h1 h2 => ?_⟩
    have := hx j x c h1 h2
    match j, h1 with
    | 0, h1 => simp at h1; subst h1; exact RelA.nr this hs.m.im ⟨undef, .inr (.inl ⟨_, _, _, rfl⟩)⟩
  | @sl t h off n T s ex xs ys hl hy => exact sl_view hs (hR (.o h, .o ⟨T, s, ex, pl xs⟩) (by simp)) hl hy (hf (.s t) (.s (.b (.a (.sl h off n)))) (by simp))
  | @reg t h n T s ex xs ys hl hy =>
    obtain ⟨cs, e, hcl, hx⟩ := hf (.s t) (.s (.b (.agg [.sl h 0 n]))) (by simp)
    refine ⟨cs, e, hcl, fun j x c h1 h2 => ?_⟩
    match j, h1 with
    | 0, h1 => simp at h1; subst h1; exact sl_view hs (hR (.o h, .o ⟨T, s, ex, pl xs⟩) (by simp)) (by simpa using hl) (by simpa using hy) (hx 0 _ c rfl h2)
  | nil s h => rw [h.ev hf]; exact ⟨by simp, none, 0, rfl, Nat.le_refl _, fun h => absurd h (by omega)⟩
  | regnil t s =>
    obtain ⟨cs, e, hcl, hx⟩ := hf (.s t) (.s (.b (.agg [.val (.slice none 0 0)]))) (by simp)
    refine ⟨cs, e, hcl, fun j x c h1 h2 => ?_⟩
    match j, h1 with
    | 0, h1 =>
      simp at h1; subst h1
      have : c = .slice none 0 0 := hx 0 _ c rfl h2
      rw [this]; exact ⟨by simp, none, 0, rfl, Nat.le_refl _, fun h => absurd h (by omega)⟩
  | fn f => exact ⟨[], rfl, rfl, fun j h hj => by simp at hj⟩
  | fns t f =>
    obtain ⟨vs, e, hl, _⟩ := (show RelA ρ I w (.fn f []) _ from hf (.s t) _ (List.mem_singleton.2 rfl))
    exact ⟨vs, e, hl, fun j h hj => by simp at hj⟩
  | @deep t h n s T0 ex cs rows hn hcs =>
    subst hn
    exact deep_view hs (hR (.o h, .o ⟨T0, 1, ex, cs⟩) (by simp)) hcs (hf (.s t) (.s (.b (.a (.sl h 0 rows.length)))) (by simp))
  | nilnil s h => rw [h.ev hf]; exact ⟨none, 0, rfl, Nat.le_refl _, fun h => absurd h (by simp)⟩
  | slg t T g n s xs => exact RelA.nr (slg_slv (show RelA ρ I w (.slg T g n s xs) _ from hf (.s t) _ (List.mem_singleton.2 rfl))) hs.m.im ⟨undef, .inr (.inl ⟨_, _, _, rfl⟩)⟩
inductive ArgVs : List Operand → List B → List (Key × Cell) → Prop
  | nil : ArgVs [] [] []
  | cons {x : Operand} {b : B} {R R' : List (Key × Cell)} {xs : List Operand} {bs : List B} (h : ArgV x b R) (hs : ArgVs xs bs R') : ArgVs (x :: xs) (b :: bs) (R ++ R')
theorem ArgVs.ok {Γ : Cx} {σ : St} {a : Act} {w : World} {ρ : Nat → Option Place} {I : Nat → Prop} (hs : Sat Γ σ a w ρ I) {xs : List Operand} {bs : List B} {R : List (Key × Cell)} (h : ArgVs xs bs R) (hR : ∀ kv ∈ R, get σ kv.1 = some kv.2) : Args w bs (xs.map a.eval) := by
  induction h with
  | nil => exact ⟨rfl, fun j b u h => by simp at h⟩
  | cons h hr ih =>
    obtain ⟨h1, h2⟩ := ih fun kv hk => hR kv (by simp [hk])
    refine ⟨by simpa using h1, fun j b u hb hu => ?_⟩
    cases j with
    | zero => simp at hb hu; subst hb; subst hu; exact h.ok hs fun kv hk => hR kv (by simp [hk])
    | succ j => exact h2 j b u (by simpa using hb) (by simpa using hu)
theorem adopt_row {Γ : Cx} {σ : St} {a : Act} {w : World} {ρ : Nat → Option Place} {I : Nat → Prop} (hs : Sat Γ σ a w ρ I) {h : Nat} (hx : get σ (.o h) = some .free) {base T s n : Nat} {u : Value} {xs : List Value} (ho : w.ownsRow base T s u n xs)
    (hb : Γ.W.heap.size ≤ base) (hI : ∀ b, I b → b < base) (hlive : ∀ y q o, get σ (.o y) = some (.o o) → ρ y = some q → q.live = true → u.ownBlock ≠ some q.block) (hrow : ∀ {h j T n s xs b cap}, RowIn σ w ρ h j T n s xs b cap → u.ownBlock ≠ some b) :
    ∃ ρ', (∀ h p, ρ h = some p → ρ' h = some p) ∧ (∃ p, ρ' h = some p ∧ (p.live = true → u.ownBlock = some p.block)) ∧ RelA ρ' I w (.sl h 0 n) u ∧ Sat Γ ((.o h, some (.o ⟨T, s, true, pl xs⟩)) :: σ) a w ρ' I := by
  obtain ⟨hl, hr⟩ := ho
  rcases hr with ⟨rfl, rfl⟩ | ⟨g, cap, cur, rfl, hbg, hg, hn, hm, hcs, htk⟩
  · have hx0 : xs = [] := List.eq_nil_of_length_eq_zero (by simpa using hl)
    subst hx0
    obtain ⟨ρ', hρ, hx', hs2⟩ := hs.adopt hx (p := ⟨0, 0, 0, s, false, true⟩) (o := ⟨T, s, true, pl []⟩) rfl (by simp [pl]) (fun _ => ⟨rfl, rfl, Nat.zero_le _⟩) (fun _ => rfl) (fun h => by simp at h) (RowFit.no pl_nr) (fun h => by simp at h) (fun h => by simp at h)
    exact ⟨ρ', hρ, ⟨_, hx', fun h => by simp at h⟩, ⟨_, none, hx', by simp, by simp, fun _ => by simp⟩, hs2⟩
  · have hglt : g < w.heap.size := by
      rcases Nat.lt_or_ge g w.heap.size with h | h
      · exact h
      · rw [Array.getElem?_eq_none h] at hg; cases hg
    obtain ⟨ρ', hρ, hx', hs2⟩ := hs.adopt hx (p := ⟨g, 0, cap, s, true, true⟩) (o := ⟨T, s, true, pl xs⟩) rfl (by simp only [pl_len, hl]; exact Nat.mul_le_mul_right _ hn) (fun _ => ⟨rfl, rfl, hm⟩) (fun h => by simp at h)
      (fun _ => ⟨fun hi => by have := hI _ hi; simp only at this; omega, .inr (by simp only; omega), hglt, fun y q o hy hq hlv e => hlive y q o hy hq hlv (by simp [Value.ownBlock, e]), cur, hg, by simp only; omega, fun _ => hcs, fun j y hj => by
        simp only [pl, List.getElem?_map] at hj
        cases hq : xs[j]? with
        | none => simp [hq] at hj
        | some v =>
          rw [hq] at hj; injection hj with hj; subst hj
          refine ⟨v, ?_, rfl⟩
          rw [← htk, List.getElem?_take] at hq
          split at hq
          · simpa using hq
          · cases hq⟩) (RowFit.no pl_nr) (fun _ {_ _ _ _ _ _ _ _} hr e => hrow hr (by simp only at e; simp [Value.ownBlock, e])) (fun _ {j _ _ _ _ _ _} h1 => absurd (pl_nr (xs := xs) _ (List.mem_of_getElem? h1)) (by simp [A.isRow]))
    exact ⟨ρ', hρ, ⟨_, hx', fun _ => rfl⟩, ⟨_, some ⟨g, 0, none⟩, hx', by simp, by simpa using hn, fun _ => by simp⟩, hs2⟩
inductive ResV : RB → B → St → List (Key × Cell) → Prop
  | val (v : Value) : ResV (.val v) (.a (.val v)) [] []
  | agg (vs : List Value) : ResV (.val (.agg vs.toArray)) (.agg (vs.map A.val)) [] []
  | row (T s n : Nat) (xs : List Value) (h : Nat) : ResV (.row T s n xs) (.a (.sl h 0 n)) [(.o h, some (.o ⟨T, s, true, pl xs⟩))] [(.o h, .free)]
  | reg (T s n : Nat) (xs : List Value) (h : Nat) : ResV (.reg T s n xs) (.agg [.sl h 0 n]) [(.o h, some (.o ⟨T, s, true, pl xs⟩))] [(.o h, .free)]
theorem ResV.ok {Γ : Cx} {σ : St} {a : Act} {w : World} {ρ : Nat → Option Place} {I : Nat → Prop} (hs : Sat Γ σ a w ρ I) {r : RB} {b : B} {W : St} {R : List (Key × Cell)} (h : ResV r b W R) (hR : ∀ kv ∈ R, get σ kv.1 = some kv.2) {base : Nat} {u : Value} (ho : RBok base w u r)
    (hb : Γ.W.heap.size ≤ base) (hI : ∀ b, I b → b < base) (hlive : ∀ y q o, get σ (.o y) = some (.o o) → ρ y = some q → q.live = true → q.block < base) (hrows : ∀ {h j T n s xs b cap}, RowIn σ w ρ h j T n s xs b cap → b < base) :
    ∃ ρ', (∀ h p, ρ h = some p → ρ' h = some p) ∧ RelB ρ' I w b u ∧ Sat Γ (W ++ σ) a w ρ' I := by
  have hne : ∀ {T s n : Nat} {v : Value} {xs : List Value}, w.ownsRow base T s v n xs → ∀ y q o, get σ (.o y) = some (.o o) → ρ y = some q → q.live = true → v.ownBlock ≠ some q.block := by
    intro T s n v xs how y q o hy hq hlv e
    have h1 := hlive y q o hy hq hlv
    have h2 := (how.lt _ e).1
    omega
  have hnr : ∀ {T s n : Nat} {v : Value} {xs : List Value}, w.ownsRow base T s v n xs → ∀ {h j T n s xs b cap}, RowIn σ w ρ h j T n s xs b cap → v.ownBlock ≠ some b := by
    intro T s n v xs how h j T' n' s' xs' b cap hr e
    have h1 := hrows hr
    have h2 := (how.lt _ e).1
    omega
  cases h with
  | val v => exact ⟨ρ, fun _ _ h => h, ho, hs⟩
  | agg vs =>
    have e : u = .agg vs.toArray := ho
    subst e
    exact ⟨ρ, fun _ _ h => h, relav_mk vs, hs⟩
  | row T s n xs h =>
    obtain ⟨ρ', h1, _, h3, h4⟩ := adopt_row hs (hR (.o h, .free) (by simp)) ho hb hI (hne ho) (hnr ho)
    exact ⟨ρ', h1, h3, h4⟩
  | reg T s n xs h =>
    obtain ⟨v, rfl, ho⟩ := ho
    obtain ⟨ρ', h1, _, h3, h4⟩ := adopt_row hs (hR (.o h, .free) (by simp)) ho hb hI (hne ho) (hnr ho)
    refine ⟨ρ', h1, ⟨[v], rfl, rfl, fun j x c e1 e2 => ?_⟩, h4⟩
    match j, e1, e2 with
    | 0, e1, e2 => simp at e1 e2; subst e1; subst e2; exact h3
section
variable {Γ : Cx} {d : Nat} {ty : TypeId} {pos : String} {af : Array Edge} {g : Option (Nat × Bool)}
theorem run_call {P : Program} {ev : Operand → Value} {o : Oper} {f : Nat} {xs : List Operand} {tys : Array TypeId} (ho : o.op = .call { callee := .value (.func f), args := xs.toArray, argTypes := tys }) (hev : ev (.func f) = .func (.func f) #[] #[]) (hc : Callable P f) (w : World) :
    (execOp ev o).run P w = .ok (.enter f (xs.map ev).toArray) w := by
  obtain ⟨fn, h1, h2, h3⟩ := hc
  simp only [execOp, ho, resolve, hev, Deferred.ofValue, List.map_toArray]
  have h3' : ¬ fn.body.isNone = true := by rw [h3]; simp
  simp only [Sem.run_bind, Sem.run_pure, Result.andThen_ok, invoke, callFunc]
  simp only [program, Sem.run, h1, h2, h3', Result.andThen_ok, if_false, Bool.false_eq_true]
  simp [go_sem]
theorem acts_call1 {f : Nat} {xs : List Operand} {bs : List B} {r : RB} {b : B} {W : St} {R R' : List (Key × Cell)} {tys : Array TypeId} (hN : Γ.ok d) (hF : Fn Γ.P f bs [r]) (hx : ArgVs xs bs R) (hr : ResV r b W R') :
    Acts Γ ⟨some d, .call { callee := .value (.func f), args := xs.toArray, argTypes := tys }, ty, pos, af, g⟩ (R ++ R') ((.s d, some (.s (.b b))) :: W) := by
  intro σ a w ρ I hs hR K Q hK
  obtain ⟨hc, hF⟩ := hF
  have hargs := hx.ok hs fun kv hk => hR kv (by simp [hk])
  unfold Oper.wp
  rw [run_call (f := f) (xs := xs) (tys := tys) rfl rfl hc w]
  rw [Oper.upon_enter]
  refine (hF w _ hargs).mono fun e w' h => ?_
  obtain ⟨v, rfl, hv, hb⟩ := h
  have hs' := hs.world hb
  obtain ⟨ρ', h1, h2, h3⟩ := ResV.ok hs' hr (fun kv hk => hR kv (by simp [hk])) (show RBok w.heap.size w' v r from hv) (hs.m.fm.2.2.2.1) (fun b hb => hs.m.im b hb) (fun y q o hy hq hlv => (hs.m.pl y q o hy hq hlv).2.2) (fun hr => (hs.m.rs.ok (RowIn.back hs.m (fun b hb' => hb.block b hb') hr)).lt)
  exact hK _ _ ⟨ρ', I, h3.put (V := .b b) hN h2⟩
theorem acts_call2 {f : Nat} {xs : List Operand} {bs : List B} {r1 r2 : RB} {b1 b2 : B} {W1 : St} {R R1 : List (Key × Cell)} {tys : Array TypeId} (hN : Γ.ok d) (hF : Fn Γ.P f bs [r1, r2]) (hx : ArgVs xs bs R) (hr1 : ResV r1 b1 W1 R1) (hr2 : ResV r2 b2 [] []) :
    Acts Γ ⟨some d, .call { callee := .value (.func f), args := xs.toArray, argTypes := tys }, ty, pos, af, g⟩ (R ++ R1) ((.s d, some (.s (.tup [b1, b2]))) :: W1) := by
  intro σ a w ρ I hs hR K Q hK
  obtain ⟨hc, hF⟩ := hF
  have hargs := hx.ok hs fun kv hk => hR kv (by simp [hk])
  unfold Oper.wp
  rw [run_call (f := f) (xs := xs) (tys := tys) rfl rfl hc w]
  rw [Oper.upon_enter]
  refine (hF w _ hargs).mono fun e w' h => ?_
  obtain ⟨v, rfl, hv, hb⟩ := h
  have hs' := hs.world hb
  obtain ⟨vs, rfl, hvl, hvr, _⟩ := hv
  match vs, hvl with
  | [v1, v2], _ =>
    obtain ⟨ρ', h1, h2, h3⟩ := ResV.ok hs' hr1 (fun kv hk => hR kv (by simp [hk])) (hvr 0 r1 v1 rfl rfl) (hs.m.fm.2.2.2.1) (fun b hb => hs.m.im b hb) (fun y q o hy hq hlv => (hs.m.pl y q o hy hq hlv).2.2) (fun hr => (hs.m.rs.ok (RowIn.back hs.m (fun b hb' => hb.block b hb') hr)).lt)
    have h4 : RelB ρ' I w' b2 v2 := by
      have hv2 := hvr 1 r2 v2 rfl rfl
      cases hr2 with
      | val v => exact hv2
      | agg vs => have e : v2 = .agg vs.toArray := hv2; subst e; exact relav_mk vs
    refine hK _ _ ⟨ρ', I, h3.put (V := .tup [b1, b2]) hN ⟨[v1, v2], rfl, rfl, fun j x c e1 e2 => ?_⟩⟩
    match j, e1, e2 with
    | 0, e1, e2 => simp at e1 e2; subst e1; subst e2; exact h2
    | 1, e1, e2 => simp at e1 e2; subst e1; subst e2; exact h4
end
/-! contracts in the kit's words -/
theorem argB_v {w : World} {v u : Value} (h : RelB ρ0 (I0 w) w (.a (.val v)) u) : u = v := h
theorem argB_av {w : World} {vs : List Value} {u : Value} (h : RelB ρ0 (I0 w) w (.agg (vs.map A.val)) u) : u = .agg vs.toArray := relav h
theorem argB_slv {w : World} {n s : Nat} {xs : List Value} {u : Value} (h : RelB ρ0 (I0 w) w (.a (.slv n s xs)) u) : ∃ A c, u = .slice A n c ∧ n ≤ c ∧ Rd w s A n xs := by
  obtain ⟨hl, A, c, rfl, hc, hr⟩ := h
  exact ⟨A, c, rfl, hc, hl, fun hn => by obtain ⟨g, o, e, hI, hx⟩ := hr hn; exact ⟨g, o, e, hI, hx⟩⟩
theorem argB_regv {w : World} {n s : Nat} {xs : List Value} {u : Value} (h : RelB ρ0 (I0 w) w (.agg [.slv n s xs]) u) : ∃ A c, u = .agg #[.slice A n c] ∧ n ≤ c ∧ Rd w s A n xs := by
  obtain ⟨cs, rfl, hl, hx⟩ := h
  match cs, hl with
  | [c], _ =>
    obtain ⟨A, c', rfl, hc, hr⟩ := argB_slv (show RelB ρ0 (I0 w) w (.a (.slv n s xs)) c from hx 0 _ c rfl rfl)
    exact ⟨A, c', rfl, hc, hr⟩
theorem mk_slv {w : World} {n s c : Nat} {A : Option Addr} {xs : List Value} (h : Rd w s A n xs) (hc : n ≤ c) : RelB ρ0 (I0 w) w (.a (.slv n s xs)) (.slice A n c) :=
  ⟨h.1, A, c, rfl, hc, fun hn => by obtain ⟨g, o, e, hI, hx⟩ := h.2 hn; exact ⟨g, o, e, hI, hx⟩⟩
theorem mk_regv {w : World} {n s c : Nat} {A : Option Addr} {xs : List Value} (h : Rd w s A n xs) (hc : n ≤ c) : RelB ρ0 (I0 w) w (.agg [.slv n s xs]) (.agg #[.slice A n c]) :=
  ⟨[.slice A n c], rfl, rfl, fun j x v e1 e2 => by
    match j, e1, e2 with
    | 0, e1, e2 => simp at e1 e2; subst e1; subst e2; exact mk_slv h hc⟩
theorem mk_v {w : World} (v : Value) : RelB ρ0 (I0 w) w (.a (.val v)) v := rfl
theorem mk_av {w : World} (vs : List Value) : RelB ρ0 (I0 w) w (.agg (vs.map A.val)) (.agg vs.toArray) := relav_mk vs
def ArgsR (w : World) : List B → List Value → Prop
  | [], [] => True
  | b :: bs, u :: us => RelB ρ0 (I0 w) w b u ∧ ArgsR w bs us
  | _, _ => False
theorem args_iff {w : World} {bs : List B} {us : List Value} : Args w bs us ↔ ArgsR w bs us := by
  induction bs generalizing us with
  | nil => cases us <;> simp [Args, ArgsR]
  | cons b bs ih =>
    cases us with
    | nil => simp [Args, ArgsR]
    | cons u us =>
      simp only [ArgsR, ← ih]
      constructor
      · rintro ⟨h1, h2⟩
        exact ⟨h2 0 b u rfl rfl, by simpa using h1, fun j b u hb hu => h2 (j + 1) b u (by simpa using hb) (by simpa using hu)⟩
      · rintro ⟨h0, h1, h2⟩
        refine ⟨by simpa using h1, fun j b u hb hu => ?_⟩
        cases j with
        | zero => simp at hb hu; subst hb; subst hu; exact h0
        | succ j => exact h2 j b u (by simpa using hb) (by simpa using hu)
end Cl
end Go.Proofs.Ytgmckbchcpfhcaa
