
/- Whole functions by contracts over plain data: entry, return and calls, over clean states. -/
import Derived.Test.YtgmckbchcpfhcaaCl8
namespace Go.Proofs.Ytgmckbchcpfhcaa
namespace Cl
open Go.ChangeShapes Go.WideShapes Go.ChangeAt Go.RowKit

def ρ0 : Nat → Option Place := fun _ => none
def I0 (w : World) : Nat → Prop := fun b => b < w.heap.size
def Args (w : World) (bs : List B) (args : List Value) : Prop := args.length = bs.length ∧ ∀ (j : Nat) b u, bs[j]? = some b → args[j]? = some u → RelB ρ0 (I0 w) w b u
inductive RB where
  | val (v : Value)
  | row (T s n : Nat) (xs : List Value)
  | reg (T s n : Nat) (xs : List Value)
def RBok (base : Nat) (w : World) (v : Value) : RB → Prop
  | .val u => v = u
  | .row T s n xs => w.ownsRow base T s v n xs
  | .reg T s n xs => ∃ u, v = .agg #[u] ∧ w.ownsRow base T s u n xs
def ResOk (base : Nat) (w : World) (v : Value) : List RB → Prop
  | [r] => RBok base w v r
  | rs => ∃ vs : List Value, v = .tuple vs.toArray ∧ vs.length = rs.length ∧ (∀ (j : Nat) r u, rs[j]? = some r → vs[j]? = some u → RBok base w u r) ∧
      ∀ (j j' : Nat) u u', j ≠ j' → vs[j]? = some u → vs[j']? = some u' → u.ownBlock = none ∨ u.ownBlock ≠ u'.ownBlock
def Callable (P : Program) (f : Nat) : Prop := ∃ fn, P.funcs[f]? = some fn ∧ (fn.name == "runtime.NumGoroutine") = false ∧ fn.body.isNone = false
def Fn (P : Program) (f : Nat) (bs : List B) (rs : List RB) : Prop :=
  Callable P f ∧ ∀ w args, Args w bs args → Calls P f args.toArray w fun e w' => ∃ v, e = .returned v ∧ ResOk w.heap.size w' v rs ∧ Below w.heap.size w w'
inductive BRes (σ : St) : B → RB → Prop
  | val (v : Value) : BRes σ (.a (.val v)) (.val v)
  | agg (vs : List Value) : BRes σ (.agg (vs.map A.val)) (.val (.agg vs.toArray))
  | row (h n T s : Nat) (xs : List Value) (hg : get σ (.o h) = some (.o ⟨T, s, true, pl xs⟩)) (hl : xs.length = n * s) : BRes σ (.a (.sl h 0 n)) (.row T s n xs)
  | nil (T s : Nat) : BRes σ (.a (.val (.slice none 0 0))) (.row T s 0 [])
  | reg (h n T s : Nat) (xs : List Value) (hg : get σ (.o h) = some (.o ⟨T, s, true, pl xs⟩)) (hl : xs.length = n * s) : BRes σ (.agg [.sl h 0 n]) (.reg T s n xs)
  | regnil (T s : Nat) : BRes σ (.agg [.val (.slice none 0 0)]) (.reg T s 0 [])
theorem own_row {Γ : Cx} {σ : St} {a : Act} {w : World} {ρ : Nat → Option Place} {I : Nat → Prop} (hs : Sat Γ σ a w ρ I) (hw : ∀ b, ¬ Γ.own b) {h n T s : Nat} {xs : List Value} (hg : get σ (.o h) = some (.o ⟨T, s, true, pl xs⟩)) (hl : xs.length = n * s) {u : Value} (hr : RelA ρ I w (.sl h 0 n) u) :
    w.ownsRow Γ.W.heap.size T s u n xs := by
  obtain ⟨p, A, hp, rfl, h2, h3⟩ := hr
  obtain ⟨p', hp', q1, q2, q3, qz, q4⟩ := hs.m.ow h _ hg
  rw [hp] at hp'; injection hp' with hp'; subst hp'
  obtain ⟨x1, x2, x3⟩ := q3 rfl
  have h3' := h3 (.inl ⟨x1, rfl⟩)
  refine ⟨hl, ?_⟩
  rcases Bool.eq_false_or_eq_true p.live with hv | hv
  · rw [hv, if_pos rfl] at h3'
    subst h3'
    obtain ⟨cur, c1, c2, c3, c4⟩ := q4 hv
    obtain ⟨b1, b2, b3⟩ := hs.m.pl h p _ hg hp hv
    refine .inr ⟨p.block, p.cap - 0, cur, by simp [x2], b2.resolve_left (hw _), c1, by omega, by omega, ?_, ?_⟩
    · have h8 := c3 rfl; simp only at q1; rw [h8, q1, Nat.sub_zero]
    · have c3' := c3 rfl
      simp only at q1 c4
      apply List.ext_getElem?
      intro j
      rw [List.getElem?_take]
      by_cases hj : j < n * s
      · rw [if_pos hj]
        have hx : xs[j]? = some (xs[j]'(by omega)) := List.getElem?_eq_getElem (by omega)
        obtain ⟨u, hu, hru⟩ := c4 j (.val (xs[j]'(by omega))) (pl_get hx)
        rw [x2, Nat.zero_add] at hu
        have : u = xs[j]'(by omega) := hru
        rw [hx, ← this]; simpa using hu
      · rw [if_neg hj, List.getElem?_eq_none (by omega)]
  · have hc := qz hv
    rw [hv] at h3'
    simp only [Bool.false_eq_true, if_false] at h3'
    subst h3'
    have hn : n = 0 := by omega
    exact .inl ⟨by rw [hc, hn], hn⟩
theorem BRes.ok {Γ : Cx} {σ : St} {a : Act} {w : World} {ρ : Nat → Option Place} {I : Nat → Prop} (hs : Sat Γ σ a w ρ I) (hw : ∀ b, ¬ Γ.own b) {b : B} {r : RB} (h : BRes σ b r) {u : Value} (hr : RelB ρ I w b u) : RBok Γ.W.heap.size w u r := by
  cases h with
  | val v => exact hr
  | agg vs => exact relav hr
  | row h n T s xs hg hl => exact own_row hs hw hg hl hr
  | nil T s => exact ⟨by simp, .inl ⟨hr, rfl⟩⟩
  | reg h n T s xs hg hl =>
    obtain ⟨cs, rfl, hlen, hx⟩ := hr
    match cs, hlen with
    | [c], _ => exact ⟨c, rfl, own_row hs hw hg hl (hx 0 _ c rfl rfl)⟩
  | regnil T s =>
    obtain ⟨cs, rfl, hlen, hx⟩ := hr
    match cs, hlen with
    | [c], _ => exact ⟨c, rfl, by simp, .inl ⟨hx 0 _ c rfl rfl, rfl⟩⟩
/-- a result variable holds what is claimed -/
inductive VRes (P : Program) (σ : St) : ResultVar → RB → Prop
  | tmp (t : Nat) (b : B) (r : RB) (hg : get σ (.s t) = some (.s (.b b))) (hb : BRes σ b r) : VRes P σ (.tmp t) r
  | cells (t T h : Nat) (o : Ob) (r : RB) (hg : get σ (.s t) = some (.s (V.p h 0))) (ho : get σ (.o h) = some (.o o)) (hT : TI P T true o.cells.length) (hp : 0 < o.cells.length) (hb : BRes σ (.agg o.cells) r) : VRes P σ (.cell t T) r
  | cell (t T h n : Nat) (o : Ob) (x : A) (r : RB) (hg : get σ (.s t) = some (.s (V.p h 0))) (ho : get σ (.o h) = some (.o o)) (hT : TI P T false n) (hx : o.cells[0]? = some x) (hb : BRes σ (.a x) r) : VRes P σ (.cell t T) r
def rvSem (tmps : Array Value) : ResultVar → Sem Value
  | .tmp t => pure (tmps.getD t undef)
  | .cell a t => do loadVar t (← asAddr (tmps.getD a undef))
theorem VRes.run {Γ : Cx} {σ : St} {a : Act} {w : World} {ρ : Nat → Option Place} {I : Nat → Prop} (hs : Sat Γ σ a w ρ I) {rv : ResultVar} {r : RB} (h : VRes Γ.P σ rv r) : ∃ u b, (rvSem a.tmps rv).run Γ.P w = .ok u w ∧ RelB ρ I w b u ∧ BRes σ b r := by
  cases h with
  | tmp t b r hg hb => exact ⟨_, b, rfl, hs.sl t _ hg, hb⟩
  | cells t T h o r hg ho hT hp hb =>
    have hr := acts_load_owns (Γ := Γ) (d := 0) (ty := 0) (pos := "") (af := #[]) (g := none) (t := t) (T := T) (n := o.cells.length) (h := h) (off := 0) (o := o) (xs := o.cells)
    obtain ⟨p, hp', he⟩ := hs.sl t _ hg
    have how := hs.m.ow h o ho
    obtain ⟨p', cur, hpp, _, hl, _, hgg, hsz, _, hc⟩ := own_pos (j := 0) how hp
    rw [hp'] at hpp; injection hpp with hpp; subst hpp
    let cs : List Value := (cur.toList.drop p.base).take o.cells.length
    have hcl : cs.length = o.cells.length := by simp [cs]; omega
    have hcg : ∀ (j : Nat) v, cs[j]? = some v → cur[p.base + j]? = some v := fun j v hv => by
      have hjn : j < o.cells.length := by rw [← hcl]; exact (List.getElem?_eq_some_iff.1 hv).1
      simpa [cs, List.getElem?_take, hjn, List.getElem?_drop] using hv
    refine ⟨.agg cs.toArray, .agg o.cells, ?_, ⟨cs, rfl, hcl, fun j x c h1 h2 => ?_⟩, hb⟩
    · obtain ⟨⟨dd, hu, hd⟩, hi⟩ := hT
      simp only [rvSem]
      have he' : a.tmps.getD t undef = .pointer (some ⟨p.block, p.base, none⟩) := he
      rw [he']
      rw [Sem.run_bind]
      simp only [asAddr, Sem.run_pure, Result.andThen_ok]
      exact run_loadVar_mid w p.block p.base T cs dd (fun j v hv => by simp [World.cell?, hgg, hcg j v hv]) hu hd (by rw [hi, hcl])
    · obtain ⟨u, hu, hru⟩ := hc j x h1
      have := hcg j c h2
      rw [hu] at this; injection this with this
      subst this; exact hru
  | cell t T h n o x r hg ho hT hx hb =>
    obtain ⟨p, hp', he⟩ := hs.sl t _ hg
    have how := hs.m.ow h o ho
    obtain ⟨p', cur, hpp, _, hl, _, hgg, hsz, _, hc⟩ := own_pos (j := 0) how (List.getElem?_eq_some_iff.1 hx).1
    rw [hp'] at hpp; injection hpp with hpp; subst hpp
    obtain ⟨u, hu, hru⟩ := hc 0 x hx
    refine ⟨u, .a x, ?_, hru, hb⟩
    simp only [rvSem]
    have he' : a.tmps.getD t undef = .pointer (some ⟨p.block, p.base, none⟩) := he
    have hl := run_loadAt_one (w := w) (ad := ⟨p.block, p.base, none⟩) (v := u) hT (by simpa [World.cell?, hgg] using hu)
    rw [he', Sem.run_bind]
    simp only [asAddr, Sem.run_pure, Result.andThen_ok]
    simpa [Instr.loadAt, Instr.sureAddr] using hl
section
variable {P : Program} {fn : Func} {tmps : Array Value} {w : World}
theorem results_eq (fn : Func) (tmps : Array Value) : results fn tmps = (do let vs ← fn.results.mapM (rvSem tmps); pure (if h : vs.size = 1 then vs[0] else .tuple vs)) := by
  unfold results
  have e : (fun (x : ResultVar) => (match x with
    | .tmp t => (pure (tmps.getD t undef) : Sem Value)
    | .cell a t => do loadVar t (← asAddr (tmps.getD a undef)))) = rvSem tmps := by funext x; cases x <;> rfl
  exact congrArg (fun f => (do let vs ← fn.results.mapM f; pure (if h : vs.size = 1 then vs[0] else .tuple vs) : Sem Value)) e
theorem results1 {rv : ResultVar} (h : fn.results = #[rv]) {v : Value} (hr : (rvSem tmps rv).run P w = .ok v w) : (results fn tmps).run P w = .ok v w := by
  simp [results_eq, h, hr]
theorem results2 {r1 r2 : ResultVar} (h : fn.results = #[r1, r2]) {v1 v2 : Value} (h1 : (rvSem tmps r1).run P w = .ok v1 w) (h2 : (rvSem tmps r2).run P w = .ok v2 w) : (results fn tmps).run P w = .ok (.tuple #[v1, v2]) w := by
  simp [results_eq, h, h1, h2]
theorem results3 {r1 r2 r3 : ResultVar} (h : fn.results = #[r1, r2, r3]) {v1 v2 v3 : Value} (h1 : (rvSem tmps r1).run P w = .ok v1 w) (h2 : (rvSem tmps r2).run P w = .ok v2 w) (h3 : (rvSem tmps r3).run P w = .ok v3 w) : (results fn tmps).run P w = .ok (.tuple #[v1, v2, v3]) w := by
  simp [results_eq, h, h1, h2, h3]
end
/-- the state at a function's entry -/
def ini (bs : List B) (free : List Nat) : St := (bs.zipIdx.map fun x => (Key.s x.2, some (Cell.s (.b x.1)))) ++ free.map fun h => (Key.o h, some Cell.free)
theorem get_ini_s {bs : List B} {free : List Nat} {k : Nat} {v : V} (h : get (ini bs free) (.s k) = some (.s v)) : ∃ b, bs[k]? = some b ∧ v = .b b := by
  have key : ∀ (l : List (B × Nat)) (fr : List Nat), get ((l.map fun x => (Key.s x.2, some (Cell.s (.b x.1)))) ++ fr.map fun h => (Key.o h, some Cell.free)) (.s k) = some (.s v) → ∃ b, (b, k) ∈ l ∧ v = .b b := by
    intro l
    induction l with
    | nil =>
      intro fr h
      induction fr with
      | nil => cases h
      | cons f fr ih => exact ih h
    | cons x l ih =>
      intro fr h
      simp only [List.map_cons, List.cons_append, get] at h
      rcases Bool.eq_false_or_eq_true (Key.eq (.s x.2) (.s k)) with e | e <;> rw [e] at h
      · have := Key.eq_iff.1 e
        injection this with this
        simp only [cond_true] at h
        injection h with h; injection h with h
        exact ⟨x.1, by rw [← this]; simp, h.symm⟩
      · simp only [cond_false] at h
        obtain ⟨b, hb, e⟩ := ih fr h
        exact ⟨b, by simp [hb], e⟩
  obtain ⟨b, hb, e⟩ := key _ _ h
  exact ⟨b, List.mk_mem_zipIdx_iff_getElem?.1 hb, e⟩
theorem get_ini_o {bs : List B} {free : List Nat} {k : Nat} {o : Ob} (h : get (ini bs free) (.o k) = some (.o o)) : False := by
  have key : ∀ (l : List (B × Nat)) (fr : List Nat), get ((l.map fun x => (Key.s x.2, some (Cell.s (.b x.1)))) ++ fr.map fun h => (Key.o h, some Cell.free)) (.o k) = some (.o o) → False := by
    intro l
    induction l with
    | nil =>
      intro fr h
      induction fr with
      | nil => cases h
      | cons f fr ih =>
        simp only [List.map_nil, List.nil_append, List.map_cons, get] at h
        rcases Bool.eq_false_or_eq_true (Key.eq (.o f) (.o k)) with e | e <;> rw [e] at h
        · cases h
        · exact ih h
    | cons x l ih => intro fr h; exact ih fr h
  exact key _ _ h
def RetK (K : St → Prop) : Exit → St → Prop
  | .ret, σ => K σ
  | .normal, σ => K σ
  | _, _ => False
def cx (P : Program) (N : Nat) (W : World) : Cx := ⟨P, N, W, fun _ => False, fun _ => false, fun _ => none, [], fun _ => none, fun b => b < W.heap.size⟩
theorem fn_intro {P : Program} {f : Nat} {fn : Func} {c : Code} {bs : List B} {rs : List RB} {N : Nat} (hf : P.funcs[f]? = some fn) (hb : fn.body = some c) (hname : (fn.name == "runtime.NumGoroutine") = false) (hN : fn.ntmps = N) (hle : bs.length ≤ N) (free : List Nat) {Q : St → Prop}
    (hQ : ∀ W σ a w ρ I, Sat (cx P N W) σ a w ρ I → Q σ → ∃ v, (results fn a.tmps).run P w = .ok v w ∧ ResOk W.heap.size w v rs)
    (h : ∀ W, Wp (cx P N W) c (RetK Q) (ini bs free)) : Fn P f bs rs := by
  refine ⟨⟨fn, hf, hname, by rw [hb]; rfl⟩, fun w args hargs => ?_⟩
  obtain ⟨hal, har⟩ := hargs
  refine calls_of_wp hf hb (wp_mono (h w _ w ⟨ρ0, I0 w, ?_⟩) fun e a' w' hq => ?_)
  · have htm : ∀ k, k < bs.length → (args.toArray ++ Array.replicate (fn.ntmps - args.toArray.size) undef).getD k undef = args.getD k undef := fun k hk => by
      have : k < args.length := by omega
      simp [Array.getD_eq_getD_getElem?, Array.getElem?_append, this]
    refine ⟨by simp [hN, cx]; omega, rfl, (fun k x h hk => by cases hk), ⟨(fun h hh => by cases hh), fun b hb => .inl hb⟩, fun k v hk => ?_, fun h o ho => (get_ini_o ho).elim, fun h _ => rfl, fun h p o ho => (get_ini_o ho).elim, fun h h' p p' o o' ho => (get_ini_o ho).elim, fun b hb => hb, Rws.nil (fun h o ho => (get_ini_o ho).elim), (fun ⟨_, _, ho, _⟩ => (get_ini_o ho).elim), rfl, rfl, rfl, Nat.le_refl _, fun _ _ _ => rfl⟩
    obtain ⟨b, hb, rfl⟩ := get_ini_s hk
    have hkl := (List.getElem?_eq_some_iff.1 hb).1
    have hka : k < args.length := by omega
    show RelB _ _ _ b _
    rw [htm k hkl]
    exact har k b _ hb (by simp [hka])
  · obtain ⟨σ', ⟨ρ, I, hs⟩, hk⟩ := hq
    have hbel : Below w.heap.size w w' := by
      obtain ⟨h1, h2, h3, h4, h5⟩ := hs.m.fm
      exact ⟨h1, h2, h3, h4, fun b hb => h5 b hb (fun h => h)⟩
    cases e <;> first
      | exact hk.elim
      | (obtain ⟨v, hr, hv⟩ := hQ w σ' a' w' ρ I hs hk
         exact ⟨hs.d, v, hr, v, rfl, hv, hbel⟩)
theorem ret1 {P : Program} {N : Nat} {fn : Func} {rv : ResultVar} {r : RB} (hr : fn.results = #[rv]) : ∀ W σ a w ρ I, Sat (cx P N W) σ a w ρ I → VRes P σ rv r → ∃ v, (results fn a.tmps).run P w = .ok v w ∧ ResOk W.heap.size w v [r] := by
  intro W σ a w ρ I hs h
  obtain ⟨u, b, hu, hb, hbr⟩ := VRes.run hs h
  exact ⟨u, results1 hr hu, BRes.ok hs (fun _ h => h) hbr hb⟩
/-- two results of which one at most is a row -/
def RB.flat : RB → Bool
  | .row .. => false
  | _ => true
theorem RB.flat_none {base : Nat} {w : World} {v : Value} {r : RB} (h : RBok base w v r) (hf : r.flat = true) (hv : ∀ u, r = .val u → u.ownBlock = none) : v.ownBlock = none := by
  cases r with
  | val u => have e : v = u := h; subst e; exact hv _ rfl
  | row T s n xs => cases hf
  | reg T s n xs => obtain ⟨u, rfl, _⟩ := h; rfl
theorem ret2 {P : Program} {N : Nat} {fn : Func} {r1 r2 : ResultVar} {q1 q2 : RB} (hr : fn.results = #[r1, r2]) (hf : q2.flat = true) (hv : ∀ u, q2 = .val u → u.ownBlock = none) :
    ∀ W σ a w ρ I, Sat (cx P N W) σ a w ρ I → (VRes P σ r1 q1 ∧ VRes P σ r2 q2) → ∃ v, (results fn a.tmps).run P w = .ok v w ∧ ResOk W.heap.size w v [q1, q2] := by
  intro W σ a w ρ I hs ⟨h1, h2⟩
  obtain ⟨u1, b1, hu1, hb1, hbr1⟩ := VRes.run hs h1
  obtain ⟨u2, b2, hu2, hb2, hbr2⟩ := VRes.run hs h2
  have k1 : RBok W.heap.size w u1 q1 := BRes.ok hs (fun _ h => h) hbr1 hb1
  have k2 : RBok W.heap.size w u2 q2 := BRes.ok hs (fun _ h => h) hbr2 hb2
  have hn := RB.flat_none k2 hf hv
  refine ⟨.tuple #[u1, u2], results2 hr hu1 hu2, [u1, u2], rfl, rfl, fun j r u e1 e2 => ?_, fun j j' u u' hj e1 e2 => ?_⟩
  · match j, e1, e2 with
    | 0, e1, e2 => simp at e1 e2; subst e1; subst e2; exact k1
    | 1, e1, e2 => simp at e1 e2; subst e1; subst e2; exact k2
  · match j, j', hj, e1, e2 with
    | 0, 0, hj, _, _ => exact absurd rfl hj
    | 0, 1, _, e1, e2 =>
      simp at e1 e2; subst e1; subst e2
      rw [hn]
      cases u1.ownBlock
      · exact .inl rfl
      · exact .inr (by simp)
    | 1, _, _, e1, e2 => simp at e1; subst e1; exact .inl hn
end Cl
end Go.Proofs.Ytgmckbchcpfhcaa
