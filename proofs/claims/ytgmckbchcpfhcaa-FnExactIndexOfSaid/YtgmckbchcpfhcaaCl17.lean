
/- More operations over clean states. -/
import Derived.Test.YtgmckbchcpfhcaaCl16
namespace Go.Proofs.Ytgmckbchcpfhcaa
namespace Cl
open Go.ChangeShapes Go.WideShapes Go.ChangeAt Go.RowKit

theorem run_indexVal {P : Program} {t e : TypeId} {n k : Nat} {iv : Int} {vs : List Value} {v : Value} (hu : P.underlying t = some (.array n e)) (he : TI P e false 1) (hk : iv = (k : Int)) (hlt : k < n) (hv : vs[k]? = some v) (w : World) :
    (Instr.index t (.agg vs.toArray) (.int .i64 iv)).run P w = .ok v w := by
  subst hk
  obtain ⟨⟨d, hu', hd⟩, hi⟩ := he
  have hagg : (isAgg e).run P w = .ok false w := by
    unfold isAgg
    rw [Sem.run_bind, run_underlying hu' w]
    cases d <;> simp_all
  cases hq : P.info? e with
  | none => simp [hq] at hi
  | some i =>
    have hs : i.size = 1 := by simpa [hq] using hi
    have hlt' : k < vs.length := (List.getElem?_eq_some_iff.1 hv).1
    have hv' : vs[k] = v := (List.getElem?_eq_some_iff.1 hv).2
    simp [Instr.index, run_underlying hu, asIntOf, sizeOf, typeInfo, hq, hs, hlt, part, hagg, hlt', hv', Sem.run_bind]
section
variable {Γ : Cx} {d : Nat} {ty : TypeId} {pos : String} {af : Array Edge} {g : Option (Nat × Bool)}
theorem acts_index_av {x t e n k : Nat} {i : Operand} {iv : Int} {vs : List Value} {v : Value} {R : List (Key × Cell)} (hN : Γ.ok d) (hu : Γ.P.underlying t = some (.array n e)) (he : TI Γ.P e false 1) (hi : OpV i (.int .i64 iv) R) (hk : iv = (k : Int)) (hlt : k < n) (hv : vs[k]? = some v) :
    Acts Γ ⟨some d, .index t (.tmp x) i, ty, pos, af, g⟩ ((.s x, .s (V.av vs)) :: R) [(.s d, some (.s (V.v v)))] :=
  Acts.pure rfl hN fun a w ρ I hf => by
    have h1 := relav (hf (.s x) (.s (V.av vs)) (by simp))
    have h2 : a.eval i = .int .i64 iv := OpV.ev hi (fun k c hc => hf k c (by simp [hc]))
    refine ⟨v, ?_, rfl⟩
    have h1' : a.eval (.tmp x) = .agg vs.toArray := h1
    simp only [execOp, h1', h2]
    have := run_indexVal hu he hk hlt hv w
    simp [Sem.run_bind, this]
end
theorem Sat.freeze {Γ : Cx} {σ : St} {a : Act} {w : World} {ρ : Nat → Option Place} {I : Nat → Prop} (hs : Sat Γ σ a w ρ I) {h : Nat} {o : Ob} (ho : get σ (.o h) = some (.o o)) {p : Place} (hp : ρ h = some p) (hl : p.live = true) :
    Sat Γ ((.o h, none) :: σ) a w ρ (fun b => I b ∨ b = p.block) := by
  obtain ⟨q1, q2, q3⟩ := hs.m.pl h p o ho hp hl
  have hI : ∀ b, I b → (I b ∨ b = p.block) ∧ w.heap[b]? = w.heap[b]? := fun b hb => ⟨.inl hb, rfl⟩
  have hgs : ∀ k, get ((Key.o h, none) :: σ) (.s k) = get σ (.s k) := fun k => get_cons_ne rfl
  have hgo : ∀ y, y ≠ h → get ((Key.o h, none) :: σ) (.o y) = get σ (.o y) := fun y hy => get_cons_ne (key_neo (fun e => hy e.symm))
  have hne : ∀ y c, get ((Key.o h, none) :: σ) (.o y) = some c → y ≠ h := fun y c hy e => by subst e; rw [get_cons_eq] at hy; cases hy
  refine ⟨hs.n, hs.d, fun k x h' hk hg hh => hs.fx k x h' hk ((hgs k) ▸ hg) hh, ⟨hs.kp.1, fun b hb => ?_⟩, fun k v hk => (hs.sl k v ((hgs k) ▸ hk)).mono (fun _ _ h => h) hI, ?_⟩
  · rcases hb with hb | rfl
    · exact hs.kp.2 b hb
    · exact .inr q2
  · have hrw := hs.m.rows (τ := (.o h, none) :: σ) (w' := w) (ρ' := ρ) (I' := fun b => I b ∨ b = p.block) (fun y o' hy => (Sat.get_kill hy).2) (fun _ _ _ _ h => h) (fun _ _ _ _ _ _ => rfl) fun hr => ⟨rfl, (fun hb => hb.elim (hs.m.rs.ok hr).ni fun e => hs.m.rs.sep hr ho hp hl e.symm), (hs.m.rs.ok hr).lt⟩
    refine ⟨fun y o' hy => ?_, fun y hy => ?_, fun y p' o' hy hp' hl' => ?_, fun y z p1 p2 o1 o2 hy hz hp1 hp2 hl1 hl2 e => ?_, fun b hb => ?_, hrw.1, hrw.2, hs.m.fm⟩
    · have := hne y _ hy
      rw [hgo y this] at hy
      exact (hs.m.ow y o' hy).mono (fun _ _ h => h) hI fun _ _ _ => rfl
    · have := hne y _ hy
      rw [hgo y this] at hy
      exact hs.m.fr y hy
    · have hn := hne y _ hy
      rw [hgo y hn] at hy
      obtain ⟨r1, r2, r3⟩ := hs.m.pl y p' o' hy hp' hl'
      refine ⟨fun hb => ?_, r2, r3⟩
      rcases hb with hb | hb
      · exact r1 hb
      · exact hn (hs.m.inj y h p' p o' o hy ho hp' hp hl' hl hb)
    · have n1 := hne y _ hy
      have n2 := hne z _ hz
      rw [hgo y n1] at hy
      rw [hgo z n2] at hz
      exact hs.m.inj y z p1 p2 o1 o2 hy hz hp1 hp2 hl1 hl2 e
    · rcases hb with hb | rfl
      · exact hs.m.im b hb
      · exact q3
/-- an own object is forgotten -/
theorem Sat.drop {Γ : Cx} {σ : St} {a : Act} {w : World} {ρ : Nat → Option Place} {I : Nat → Prop} (hs : Sat Γ σ a w ρ I) (h : Nat) : Sat Γ ((.o h, none) :: σ) a w ρ I := by
  have hgs : ∀ k, get ((Key.o h, none) :: σ) (.s k) = get σ (.s k) := fun k => get_cons_ne rfl
  have hgo : ∀ y, y ≠ h → get ((Key.o h, none) :: σ) (.o y) = get σ (.o y) := fun y hy => get_cons_ne (key_neo (fun e => hy e.symm))
  have hne : ∀ y c, get ((Key.o h, none) :: σ) (.o y) = some c → y ≠ h := fun y c hy e => by subst e; rw [get_cons_eq] at hy; cases hy
  refine ⟨hs.n, hs.d, fun k x h' hk hg hh => hs.fx k x h' hk ((hgs k) ▸ hg) hh, hs.kp, fun k v hk => hs.sl k v ((hgs k) ▸ hk), ?_⟩
  refine ⟨fun y o' hy => ?_, fun y hy => ?_, fun y p' o' hy => ?_, fun y z p1 p2 o1 o2 hy hz => ?_, hs.m.im, (hs.m.rows0 fun y o hy => (Sat.get_kill hy).2).1, (hs.m.rows0 fun y o hy => (Sat.get_kill hy).2).2, hs.m.fm⟩
  · rw [hgo y (hne y _ hy)] at hy; exact hs.m.ow y o' hy
  · rw [hgo y (hne y _ hy)] at hy; exact hs.m.fr y hy
  · rw [hgo y (hne y _ hy)] at hy; exact hs.m.pl y p' o' hy
  · rw [hgo y (hne y _ hy)] at hy; rw [hgo z (hne z _ hz)] at hz; exact hs.m.inj y z p1 p2 o1 o2 hy hz
/-- a slot takes another name of its value -/
theorem Sat.rename {Γ : Cx} {σ : St} {a : Act} {w : World} {ρ : Nat → Option Place} {I : Nat → Prop} (hs : Sat Γ σ a w ρ I) {k : Nat} {v : V} (hv : RelV ρ I w v (a.tmps.getD k undef)) (hh : ∀ x, v = .b (.a x) → ∀ h, ¬ x.hd h) : Sat Γ ((.s k, some (.s v)) :: σ) a w ρ I := by
  have hg : ∀ x, get ((Key.s k, some (Cell.s v)) :: σ) (.o x) = get σ (.o x) := fun x => get_cons_ne rfl
  refine ⟨hs.n, hs.d, fun k' x h' hf hgx hx => ?_, hs.kp, fun k' v' hk' => ?_, ?_⟩
  · by_cases e : k = k'
    · subst e
      rw [get_cons_eq] at hgx
      injection hgx with hgx; injection hgx with hgx
      exact absurd hx (hh x hgx h')
    · rw [get_cons_ne (key_ne e)] at hgx
      exact hs.fx k' x h' hf hgx hx
  · by_cases e : k = k'
    · subst e
      rw [get_cons_eq] at hk'
      injection hk' with hk'; injection hk' with hk'
      subst hk'
      exact hv
    · rw [get_cons_ne (key_ne e)] at hk'
      exact hs.sl k' v' hk'
  · exact ⟨fun x o ho => hs.m.ow x o ((hg x) ▸ ho), fun x hx => hs.m.fr x ((hg x) ▸ hx), fun x p o ho => hs.m.pl x p o ((hg x) ▸ ho), fun x y p p' o o' h1 h2 => hs.m.inj x y p p' o o' ((hg x) ▸ h1) ((hg y) ▸ h2), hs.m.im, (hs.m.rows0 fun x o ho => (hg x) ▸ ho).1, (hs.m.rows0 fun x o ho => (hg x) ▸ ho).2, hs.m.fm⟩
theorem own_cells {ρ : Nat → Option Place} {I : Nat → Prop} {w : World} {h T s : Nat} {ex : Bool} {xs : List Value} (ho : Own ρ I w h ⟨T, s, ex, pl xs⟩) (hx : 0 < xs.length) : ∃ p, ρ h = some p ∧ p.live = true ∧ p.size = s ∧ ∀ (j : Nat) x, xs[j]? = some x → w.cell? ⟨p.block, p.base + j, none⟩ = some x := by
  obtain ⟨p, hp, q1, q2, q3, qz, q4⟩ := ho
  have hl : p.live = true := by
    rcases Bool.eq_false_or_eq_true p.live with e | e
    · exact e
    · have := qz e
      rw [this, Nat.zero_mul] at q2
      rw [show (⟨T, s, ex, pl xs⟩ : Ob).cells = pl xs from rfl, pl_len] at q2
      omega
  refine ⟨p, hp, hl, q1, fun j x hj => ?_⟩
  obtain ⟨cur, c1, c2, c3, c4⟩ := q4 hl
  obtain ⟨u, hu, hr⟩ := c4 j (.val x) (pl_get hj)
  have hr : u = x := hr
  subst hr
  simp [World.cell?, c1, hu]
/-- an array that nobody writes any more -/
theorem weak_freeze_ptr {Γ : Cx} {σ : St} {k h T s : Nat} {ex : Bool} {xs : List Value} (hk : get σ (.s k) = some (.s (V.p h 0))) (ho : get σ (.o h) = some (.o ⟨T, s, ex, pl xs⟩)) (hx : 0 < xs.length) :
    Weak Γ σ ((.s k, some (.s (.b (.a (.ptrv s xs 0))))) :: (.o h, none) :: σ) := by
  intro a w ⟨ρ, I, hs⟩
  obtain ⟨p, hp, hl, _, hc⟩ := own_cells (hs.m.ow h _ ho) hx
  obtain ⟨p', hp', he⟩ := hs.sl k _ hk
  rw [hp] at hp'; injection hp' with hp'; subst hp'
  have hf := hs.freeze ho hp hl
  refine ⟨ρ, _, hf.rename ⟨p.block, p.base, he, .inr rfl, hc⟩ fun x hx h' => ?_⟩
  injection hx with hx; injection hx with hx; subst hx; exact id
/-- a slice that nobody writes any more -/
theorem weak_freeze_sl {Γ : Cx} {σ : St} {k h T s off n : Nat} {ex : Bool} {xs ys : List Value} (hk : get σ (.s k) = some (.s (.b (.a (.sl h off n))))) (ho : get σ (.o h) = some (.o ⟨T, s, ex, pl xs⟩)) (hx : (off + n) * s ≤ xs.length) (hs0 : 0 < s) (hy : (xs.drop (off * s)).take (n * s) = ys) :
    Weak Γ σ ((.s k, some (.s (.b (.a (.slv n s ys))))) :: (.o h, none) :: σ) := by
  intro a w ⟨ρ, I, hs⟩
  obtain ⟨p', A0, hp', he, hcap, hA⟩ := hs.sl k _ hk
  have hyl : ys.length = n * s := by rw [← hy]; simp only [List.length_take, List.length_drop]; rw [Nat.add_mul] at hx; omega
  have hhd : ∀ x, V.b (B.a (A.slv n s ys)) = V.b (B.a x) → ∀ h', ¬ x.hd h' := fun x hx h' => by
    injection hx with hx; injection hx with hx; subst hx; exact id
  rcases Nat.eq_zero_or_pos n with hn | hn
  · exact ⟨ρ, I, (hs.drop h).rename ⟨hyl, A0, p'.cap - off, he, by omega, fun h => by omega⟩ hhd⟩
  · have hpos : 0 < xs.length := Nat.lt_of_lt_of_le (Nat.mul_pos (by omega) hs0) hx
    obtain ⟨p, hp, hl, hsz, hc⟩ := own_cells (hs.m.ow h _ ho) hpos
    rw [hp] at hp'; injection hp' with hp'; subst hp'
    refine ⟨ρ, _, (hs.freeze ho hp hl).rename ⟨hyl, A0, p.cap - off, he, by omega, fun _ => ⟨p.block, p.base + off * s, ?_, .inr rfl, fun j x hj => ?_⟩⟩ hhd⟩
    · rw [hA (.inr (by omega)), hl, hsz]; rfl
    · rw [Nat.add_assoc]
      apply hc
      rw [← hy, List.getElem?_take] at hj
      split at hj
      · rw [List.getElem?_drop] at hj; exact hj
      · cases hj
section
variable {Γ : Cx} {d : Nat} {ty : TypeId} {pos : String} {af : Array Edge} {g : Option (Nat × Bool)}
theorem acts_index_arr_v {x t e s n k : Nat} {i : Operand} {iv : Int} {xs : List Value} {R : List (Key × Cell)} (hN : Γ.ok d) (hu : Γ.P.underlying t = some (.array n e)) (he : (Γ.P.info? e).map (·.size) = some s) (hi : OpV i (.int .i64 iv) R) (hk : iv = (k : Int)) (hlt : k < n) :
    Acts Γ ⟨some d, .indexAddr t (.tmp x) i, ty, pos, af, g⟩ ((.s x, .s (.b (.a (.ptrv s xs 0)))) :: R) [(.s d, some (.s (.b (.a (.ptrv s xs (k * s))))))] :=
  Acts.pure rfl hN fun a w ρ I hfa => by
    obtain ⟨b, o, h1, hI, hc⟩ := hfa (.s x) (.s (.b (.a (.ptrv s xs 0)))) (by simp)
    have hiv := hi.ev (fun k c hk => hfa k c (by simp [hk]))
    have he' : a.eval (.tmp x) = .pointer (some ⟨b, o, none⟩) := h1
    refine ⟨.pointer (some ⟨b, o + k * s, none⟩), ?_, b, o, rfl, hI, hc⟩
    simp only [execOp, he', hiv]
    rw [Sem.run_bind, run_indexArr hu he hk hlt]
    rfl
theorem acts_slice_arr_v {x t e s n : Nat} {xs : List Value} (hN : Γ.ok d) (hu : Γ.P.underlying t = some (.array n e)) (he : (Γ.P.info? e).map (·.size) = some s) (hl : xs.length = n * s) :
    Acts Γ ⟨some d, .slice t (.tmp x) none none none, ty, pos, af, g⟩ [(.s x, .s (.b (.a (.ptrv s xs 0))))] [(.s d, some (.s (.b (.a (.slv n s xs)))))] :=
  Acts.pure rfl hN fun a w ρ I hfa => by
    obtain ⟨b, o, h1, hI, hc⟩ := hfa (.s x) (.s (.b (.a (.ptrv s xs 0)))) (by simp)
    have he' : a.eval (.tmp x) = .pointer (some ⟨b, o, none⟩) := h1
    refine ⟨.slice (some ⟨b, o, none⟩) n n, ?_, hl, _, n, rfl, Nat.le_refl _, fun _ => ⟨b, o, rfl, hI, hc⟩⟩
    simp only [execOp, he']
    cases hq : Γ.P.info? e with
    | none => simp [hq] at he
    | some i =>
      have hi : i.size = s := by simpa [hq] using he
      simp [Sem.run_bind, Instr.sliceAt, run_underlying hu, Instr.sureAddr, Instr.sliceBounds, sizeOf, typeInfo, hq, hi, add_lit]
theorem acts_slice_arr_v' {x t e s n m : Nat} {xs : List Value} (hN : Γ.ok d) (hu : Γ.P.underlying t = some (.array n e)) (he : (Γ.P.info? e).map (·.size) = some s) (hl : xs.length = n * s) (hm : n = m) :
    Acts Γ ⟨some d, .slice t (.tmp x) none none none, ty, pos, af, g⟩ [(.s x, .s (.b (.a (.ptrv s xs 0))))] [(.s d, some (.s (.b (.a (.slv m s xs)))))] := by
  subst hm; exact acts_slice_arr_v hN hu he hl
end
theorem ren_av {π : Nat → Nat} {xs : List Value} : (V.av xs).ren π = V.av xs := by unfold V.av; simp only [V.ren, B.ren, List.map_map]; rfl
theorem avd_av {F : List Nat} {xs : List Value} : (V.av xs).avd F = true := by unfold V.av; simp only [V.avd, B.avd, List.all_map]; rw [List.all_eq_true]; intro x _; rfl
end Cl
end Go.Proofs.Ytgmckbchcpfhcaa
