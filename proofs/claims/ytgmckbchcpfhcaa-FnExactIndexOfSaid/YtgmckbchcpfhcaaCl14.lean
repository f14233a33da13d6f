
/- Callees that write their caller's objects: contracts, entry. -/
import Derived.Test.YtgmckbchcpfhcaaCl13
namespace Go.Proofs.Ytgmckbchcpfhcaa
namespace Cl
open Go.ChangeShapes Go.WideShapes Go.ChangeAt Go.RowKit

def blkO (ρ : Nat → Option Place) (w : World) (os : St) (b : Nat) : Prop := (∃ h o p, get os (.o h) = some (.o o) ∧ ρ h = some p ∧ p.live = true ∧ p.block = b) ∨ ∃ h j T n s xs cap, RowIn os w ρ h j T n s xs b cap
structure Objs (ρ : Nat → Option Place) (I : Nat → Prop) (w : World) (os : St) : Prop where
  ow : ∀ h o, get os (.o h) = some (.o o) → Own ρ I w h o
  pl : ∀ h o p, get os (.o h) = some (.o o) → ρ h = some p → p.live = true → ¬ I p.block ∧ p.block < w.heap.size
  inj : ∀ h h' p p' o o', get os (.o h) = some (.o o) → get os (.o h') = some (.o o') → ρ h = some p → ρ h' = some p' → p.live = true → p'.live = true → p.block = p'.block → h = h'
  im : ∀ b, I b → b < w.heap.size
  rs : Rws os w ρ I
def ArgsO (ρ : Nat → Option Place) (I : Nat → Prop) (w : World) (bs : List B) (args : List Value) : Prop := args.length = bs.length ∧ ∀ (j : Nat) b u, bs[j]? = some b → args[j]? = some u → RelB ρ I w b u
def FrameX (own : Nat → Prop) (w w' : World) : Prop := w'.os = w.os ∧ w'.tape = w.tape ∧ w'.output = w.output ∧ w.heap.size ≤ w'.heap.size ∧ ∀ b, b < w.heap.size → ¬ own b → w'.heap[b]? = w.heap[b]?
/-- what a callee leaves -/
def Left (ρ : Nat → Option Place) (I : Nat → Prop) (w : World) (os : St) (r : V) (os' : St) (keep : List Nat) (u : Value) (w' : World) : Prop :=
  ∃ ρ' I', (∀ h, h ∈ keep → ρ' h = ρ h) ∧ Objs ρ' I' w' os' ∧ RelV ρ' I' w' r u ∧ (∀ b, I' b → I b ∨ blkO ρ w os b ∨ w.heap.size ≤ b) ∧ (∀ b, blkO ρ' w' os' b → blkO ρ w os b ∨ w.heap.size ≤ b) ∧ FrameX (blkO ρ w os) w w'
def FnO (P : Program) (f : Nat) (bs : List B) (os : St) (r : V) (os' : St) (keep : List Nat) : Prop :=
  Callable P f ∧ ∀ w args ρ I, Objs ρ I w os → ArgsO ρ I w bs args → Calls P f args.toArray w fun e w' => ∃ u, e = .returned u ∧ Left ρ I w os r os' keep u w'
def osOk : St → Bool
  | [] => true
  | (.o _, some (.o _)) :: r => osOk r
  | _ => false
theorem osOk_s {os : St} (h : osOk os = true) (k : Nat) : get os (.s k) = none := by
  induction os with
  | nil => rfl
  | cons a r ih =>
    match a, h with
    | (.o x, some (.o o)), h => rw [get_cons_ne (by rfl)]; exact ih h
theorem osOk_hs {os : St} (h : osOk os = true) (k : Nat) : has os (.s k) = false := by
  induction os with
  | nil => rfl
  | cons a r ih =>
    match a, h with
    | (.o x, some (.o o)), h => simp only [has]; rw [ih h]; rfl
theorem osOk_o {os : St} (h : osOk os = true) {x : Nat} (hx : has os (.o x) = true) : ∃ o, get os (.o x) = some (.o o) := by
  induction os with
  | nil => cases hx
  | cons a r ih =>
    match a, h with
    | (.o y, some (.o o)), h =>
      simp only [has, get] at hx ⊢
      rcases Bool.eq_false_or_eq_true (Key.eq (.o y) (.o x)) with e | e
      · rw [e]; exact ⟨o, rfl⟩
      · rw [e] at hx ⊢; exact ih h (by simpa using hx)
theorem has_of_get {os : St} {k : Key} {c : Cell} (h : get os k = some c) : has os k = true := by
  induction os with
  | nil => cases h
  | cons a r ih =>
    obtain ⟨k', c'⟩ := a
    simp only [has, get] at h ⊢
    rcases Bool.eq_false_or_eq_true (Key.eq k' k) with e | e
    · rw [e]; rfl
    · rw [e] at h ⊢; exact ih h
def iniO (bs : List B) (os : St) (free : List Nat) : St := (bs.zipIdx.map fun x => (Key.s x.2, some (Cell.s (.b x.1)))) ++ (os ++ free.map fun h => (Key.o h, some Cell.free))
theorem slots_o (l : List (B × Nat)) (h : Nat) : has (l.map fun x => (Key.s x.2, some (Cell.s (.b x.1)))) (.o h) = false := by
  induction l with
  | nil => rfl
  | cons a l ih => simp only [List.map_cons, has, ih]; rfl
theorem free_s (fr : List Nat) (k : Nat) : get (fr.map fun h => (Key.o h, some Cell.free)) (.s k) = none := by
  induction fr with
  | nil => rfl
  | cons a l ih => rw [List.map_cons, get_cons_ne rfl]; exact ih
theorem free_o {fr : List Nat} {k : Nat} {c : Cell} (h : get (fr.map fun h => (Key.o h, some Cell.free)) (.o k) = some c) : c = .free := by
  induction fr with
  | nil => cases h
  | cons a l ih =>
    simp only [List.map_cons, get] at h
    rcases Bool.eq_false_or_eq_true (Key.eq (.o a) (.o k)) with e | e <;> rw [e] at h
    · injection h with h; exact h.symm
    · exact ih h
theorem iniO_s {bs : List B} {os : St} {free : List Nat} (h : osOk os = true) (k : Nat) : get (iniO bs os free) (.s k) = get (ini bs []) (.s k) := by
  unfold iniO ini
  rw [get_app, get_app, get_app, osOk_s h, free_s]
  by_cases hh : has os (.s k) = true <;> simp [hh, get]
theorem iniO_o {bs : List B} {os : St} {free : List Nat} (k : Nat) : get (iniO bs os free) (.o k) = if has os (.o k) then get os (.o k) else get (free.map fun h => (Key.o h, some Cell.free)) (.o k) := by
  unfold iniO
  rw [get_app, slots_o, get_app]; simp
theorem iniO_ob {bs : List B} {os : St} {free : List Nat} {k : Nat} {o : Ob} (h : get (iniO bs os free) (.o k) = some (.o o)) : get os (.o k) = some (.o o) := by
  rw [iniO_o] at h
  split at h
  · exact h
  · have := free_o h; cases this
theorem iniO_fr {bs : List B} {os : St} {free : List Nat} (hos : osOk os = true) {k : Nat} (h : get (iniO bs os free) (.o k) = some .free) : has os (.o k) = false := by
  rw [iniO_o] at h
  split at h
  · rename_i hh
    obtain ⟨o, ho⟩ := osOk_o hos hh
    rw [ho] at h; cases h
  · rename_i hh; simpa using hh
def cxo (P : Program) (N : Nat) (W : World) (own : Nat → Prop) (keep : List Nat) (kp : Nat → Option Place) (im0 : Nat → Prop) : Cx := ⟨P, N, W, own, fun _ => false, fun _ => none, keep, kp, im0⟩
def A.hOk (os : St) : A → Bool
  | .sl h _ _ => has os (.o h)
  | .ptr h _ => has os (.o h)
  | .fn _ caps => caps.all fun h => has os (.o h)
  | _ => true
def B.hOk (os : St) : B → Bool
  | .a x => x.hOk os
  | .agg xs => xs.all (A.hOk os)
def V.hOk (os : St) : V → Bool
  | .b x => x.hOk os
  | .tup xs => xs.all (B.hOk os)
def rst (ρ : Nat → Option Place) (os : St) : Nat → Option Place := fun h => if has os (.o h) then ρ h else none
theorem rst_of {ρ : Nat → Option Place} {os : St} {h : Nat} (hh : has os (.o h) = true) : rst ρ os h = ρ h := by simp [rst, hh]
theorem rst_some {ρ : Nat → Option Place} {os : St} {h : Nat} {p : Place} (hh : rst ρ os h = some p) : has os (.o h) = true ∧ ρ h = some p := by
  unfold rst at hh; split at hh
  · rename_i h1; exact ⟨h1, hh⟩
  · cases hh
/-- a value whose names are among some objects, under another table of places -/
theorem RelA.to {ρ ρ' : Nat → Option Place} {I I' : Nat → Prop} {w : World} {os : St} {x : A} {u : Value} (h : RelA ρ I w x u) (hx : x.hOk os = true) (hρ : ∀ h p, has os (.o h) = true → ρ h = some p → ρ' h = some p) (hI : ∀ b, I b → I' b) : RelA ρ' I' w x u := by
  cases x with
  | val v => exact h
  | sl h0 off n => obtain ⟨p, A0, hp, r⟩ := h; exact ⟨p, A0, hρ _ _ hx hp, r⟩
  | ptr h0 off => obtain ⟨p, hp, r⟩ := h; exact ⟨p, hρ _ _ hx hp, r⟩
  | slv n s xs => exact RelA.mono (x := .slv n s xs) (ρ := ρ') (I := I) (by exact h) (fun _ _ h => h) fun b hb => ⟨hI b hb, rfl⟩
  | ptrv s xs off => exact RelA.mono (x := .ptrv s xs off) (ρ := ρ') (I := I) (by exact h) (fun _ _ h => h) fun b hb => ⟨hI b hb, rfl⟩
  | slvv s rows => exact RelA.mono (x := .slvv s rows) (ρ := ρ') (I := I) (by exact h) (fun _ _ h => h) fun b hb => ⟨hI b hb, rfl⟩
  | ptrvv s rows k => exact RelA.mono (x := .ptrvv s rows k) (ρ := ρ') (I := I) (by exact h) (fun _ _ h => h) fun b hb => ⟨hI b hb, rfl⟩
  | slg T g n s xs => exact RelA.mono (x := .slg T g n s xs) (ρ := ρ') (I := I) (by exact h) (fun _ _ h => h) fun b hb => ⟨hI b hb, rfl⟩
  | row T n s xs => exact h
  | fn f caps =>
    obtain ⟨vs, e, hl, hc⟩ := h
    refine ⟨vs, e, hl, fun j h hj => ?_⟩
    obtain ⟨p, hp, hq⟩ := hc j h hj
    simp only [A.hOk, List.all_eq_true] at hx
    exact ⟨p, hρ _ _ (hx h (List.mem_of_getElem? hj)) hp, hq⟩
theorem RelB.to {ρ ρ' : Nat → Option Place} {I I' : Nat → Prop} {w : World} {os : St} {x : B} {u : Value} (h : RelB ρ I w x u) (hx : x.hOk os = true) (hρ : ∀ h p, has os (.o h) = true → ρ h = some p → ρ' h = some p) (hI : ∀ b, I b → I' b) : RelB ρ' I' w x u := by
  cases x with
  | a x => exact RelA.to h hx hρ hI
  | agg xs =>
    obtain ⟨cs, e, hl, hc⟩ := h
    simp only [B.hOk, List.all_eq_true] at hx
    exact ⟨cs, e, hl, fun j x c h1 h2 => (hc j x c h1 h2).to (hx x (List.mem_of_getElem? h1)) hρ hI⟩
theorem RelV.to {ρ ρ' : Nat → Option Place} {I I' : Nat → Prop} {w : World} {os : St} {x : V} {u : Value} (h : RelV ρ I w x u) (hx : x.hOk os = true) (hρ : ∀ h p, has os (.o h) = true → ρ h = some p → ρ' h = some p) (hI : ∀ b, I b → I' b) : RelV ρ' I' w x u := by
  cases x with
  | b x => exact RelB.to h hx hρ hI
  | tup xs =>
    obtain ⟨cs, e, hl, hc⟩ := h
    simp only [V.hOk, List.all_eq_true] at hx
    exact ⟨cs, e, hl, fun j x c h1 h2 => (hc j x c h1 h2).to (hx x (List.mem_of_getElem? h1)) hρ hI⟩
theorem Own.to {ρ ρ' : Nat → Option Place} {I I' : Nat → Prop} {w : World} {os : St} {h : Nat} {o : Ob} (ho : Own ρ I w h o) (hh : has os (.o h) = true) (hx : ∀ x ∈ o.cells, x.hOk os = true) (hρ : ∀ h p, has os (.o h) = true → ρ h = some p → ρ' h = some p) (hI : ∀ b, I b → I' b) : Own ρ' I' w h o := by
  obtain ⟨p, hp, q1, q2, q3, qz, q4⟩ := ho
  refine ⟨p, hρ _ _ hh hp, q1, q2, q3, qz, fun hl => ?_⟩
  obtain ⟨cur, c1, c2, c3, c4⟩ := q4 hl
  refine ⟨cur, c1, c2, c3, fun j x hj => ?_⟩
  obtain ⟨u, hu, hr⟩ := c4 j x hj
  exact ⟨u, hu, hr.to (hx x (List.mem_of_getElem? hj)) hρ hI⟩
def OCells (p : A → Prop) : St → Prop
  | [] => True
  | (.o _, some (.o o)) :: r => (∀ x ∈ o.cells, p x) ∧ OCells p r
  | _ :: r => OCells p r
theorem OCells.get {p : A → Prop} {os : St} (h : OCells p os) (hos : osOk os = true) {x : Nat} {o : Ob} (hx : get os (.o x) = some (.o o)) : ∀ y ∈ o.cells, p y := by
  induction os with
  | nil => cases hx
  | cons a r ih =>
    match a, hos, h with
    | (.o y, some (.o o')), hos, h =>
      simp only [Cl.get] at hx
      rcases Bool.eq_false_or_eq_true (Key.eq (.o y) (.o x)) with e | e <;> rw [e] at hx
      · simp only [cond_true] at hx
        injection hx with hx; injection hx with hx
        subst hx
        exact h.1
      · exact ih h.2 hos hx
/-- the end: every object of the contract stands in the state -/
def PostO (σ : St) : St → Prop
  | [] => True
  | (.o h, some (.o o)) :: r => get σ (.o h) = some (.o o) ∧ PostO σ r
  | _ :: r => PostO σ r
theorem PostO.get {σ os : St} (h : PostO σ os) (hos : osOk os = true) {x : Nat} {o : Ob} (hx : get os (.o x) = some (.o o)) : get σ (.o x) = some (.o o) := by
  induction os with
  | nil => cases hx
  | cons a r ih =>
    match a, hos, h with
    | (.o y, some (.o o')), hos, h =>
      simp only [Cl.get] at hx
      rcases Bool.eq_false_or_eq_true (Key.eq (.o y) (.o x)) with e | e <;> rw [e] at hx
      · have := Key.eq_iff.1 e
        injection this with this
        subst this
        simp only [cond_true] at hx
        injection hx with hx; injection hx with hx
        subst hx
        exact h.1
      · exact ih h.2 hos hx
theorem fn_introO {P : Program} {f : Nat} {fn : Func} {c : Code} {bs : List B} {os os' : St} {r : V} {keep : List Nat} {N : Nat} (hf : P.funcs[f]? = some fn) (hb : fn.body = some c) (hname : (fn.name == "runtime.NumGoroutine") = false) (hN : fn.ntmps = N) (hle : bs.length ≤ N)
    (hos : osOk os = true) (hos' : osOk os' = true) (hkeep : (keep.all fun h => has os (.o h)) = true) (hbo : bs.all (B.hOk os) = true) (hco : OCells (fun x => x.hOk os = true) os) (free : List Nat) {Q : St → Prop}
    (hQ : ∀ Γ σ a w ρ I, Γ.P = P → Sat Γ σ a w ρ I → Q σ → ∃ u, (results fn a.tmps).run P w = .ok u w ∧ RelV ρ I w r u)
    (h : ∀ W own kp im0, Wp (cxo P N W own keep kp im0) c (RetK fun σ => ∃ τ, Weak (cxo P N W own keep kp im0) σ τ ∧ PostO τ os' ∧ Q τ) (iniO bs os free)) : FnO P f bs os r os' keep := by
  refine ⟨⟨fn, hf, hname, by rw [hb]; rfl⟩, fun w args ρ I hobj hargs => ?_⟩
  obtain ⟨hal, har⟩ := hargs
  have hto : ∀ h p, has os (.o h) = true → ρ h = some p → rst ρ os h = some p := fun h p hh hp => (rst_of hh).trans hp
  refine calls_of_wp hf hb (wp_mono (h w (blkO ρ w os) (rst ρ os) I _ w ⟨rst ρ os, I, ?_⟩) fun e a' w' hq => ?_)
  · have htm : ∀ k, k < bs.length → (args.toArray ++ Array.replicate (fn.ntmps - args.toArray.size) undef).getD k undef = args.getD k undef := fun k hk => by
      have : k < args.length := by omega
      simp [Array.getD_eq_getD_getElem?, Array.getElem?_append, this]
    refine ⟨by simp [hN, cxo]; omega, rfl, fun k x h' hk => (by cases hk), ⟨fun y hy => ?_, fun b hb => .inl hb⟩, fun k v hk => ?_, fun h o ho => ?_, fun h hfr => ?_, fun h p o ho hp hl => ?_, fun h h' p p' o o' ho ho' hp hp' hl hl' e => hobj.inj h h' p p' o o' (iniO_ob ho) (iniO_ob ho') (rst_some hp).2 (rst_some hp').2 hl hl' e, hobj.im, hobj.rs.same (fun _ _ => iniO_ob) (fun _ _ _ _ hp => (rst_some hp).2) (fun _ _ _ _ _ _ => rfl) (fun hr => ⟨rfl, (hobj.rs.ok hr).ni, (hobj.rs.ok hr).lt⟩), (fun {_ _ _ _ _ _ _ _} ⟨o1, p1, q1, q2, q3⟩ => .inl (.inr ⟨_, _, _, _, _, _, _, o1, p1, iniO_ob q1, (rst_some q2).2, q3⟩)), rfl, rfl, rfl, Nat.le_refl _, fun _ _ _ => rfl⟩
    · rw [List.all_eq_true] at hkeep
      obtain ⟨o, ho⟩ := osOk_o hos (hkeep y hy)
      obtain ⟨p, hp, _⟩ := hobj.ow y o ho
      exact ⟨p, hto _ _ (has_of_get ho) hp, hto _ _ (has_of_get ho) hp⟩
    · rw [iniO_s hos] at hk
      obtain ⟨b, hb, rfl⟩ := get_ini_s hk
      have hkl := (List.getElem?_eq_some_iff.1 hb).1
      have hka : k < args.length := by omega
      show RelB _ _ _ b _
      rw [htm k hkl]
      rw [List.all_eq_true] at hbo
      exact (har k b _ hb (by simp [hka])).to (hbo b (List.mem_of_getElem? hb)) hto (fun _ h => h)
    · have ho' := iniO_ob ho
      exact (hobj.ow h o ho').to (has_of_get ho') (hco.get hos ho') hto (fun _ h => h)
    · have := iniO_fr hos hfr
      simp [rst, this]
    · have ho' := iniO_ob ho
      obtain ⟨g1, g2⟩ := rst_some hp
      obtain ⟨q1, q2⟩ := hobj.pl h o p ho' g2 hl
      exact ⟨q1, .inl (.inl ⟨h, o, p, ho', g2, hl, rfl⟩), q2⟩
  · obtain ⟨σ0, hs0, hk0⟩ := hq
    have fin : (∃ τ, Weak (cxo P N w (blkO ρ w os) keep (rst ρ os) I) σ0 τ ∧ PostO τ os' ∧ Q τ) → ∃ u, (results fn a'.tmps).run P w' = .ok u w' ∧ a'.defers = [] ∧ Left ρ I w os r os' keep u w' := fun ⟨σ', hw, hp, hq⟩ => by
      obtain ⟨ρ', I', hs⟩ := hw a' w' hs0
      have hfr : FrameX (blkO ρ w os) w w' := by
        obtain ⟨h1, h2, h3, h4, h5⟩ := hs.m.fm
        exact ⟨h1, h2, h3, h4, h5⟩
      obtain ⟨u, hu, hr⟩ := hQ _ σ' a' w' ρ' I' rfl hs hq
      have g : ∀ h o, get os' (.o h) = some (.o o) → get σ' (.o h) = some (.o o) := fun h o ho => hp.get hos' ho
      refine ⟨u, hu, hs.d, ρ', I', fun y hy => ?_, ⟨fun h o ho => hs.m.ow h o (g h o ho), fun h o p ho hp hl => ?_, fun h h' p p' o o' ho ho' hp hp' hl hl' e => hs.m.inj h h' p p' o o' (g h o ho) (g h' o' ho') hp hp' hl hl' e, hs.m.im, (hs.m.rows0 g).1⟩, hr, hs.kp.2, fun b hb => ?_, hfr⟩
      · obtain ⟨p, e1, e2⟩ := hs.kp.1 y hy
        rw [e2, ← e1]
        rw [List.all_eq_true] at hkeep
        exact rst_of (hkeep y hy)
      · obtain ⟨q1, q2, q3⟩ := hs.m.pl h p o (g h o ho) hp hl
        exact ⟨q1, q3⟩
      · rcases hb with ⟨h, o, p, ho, hp, hl, e⟩ | ⟨h, j, T, n, s, xs, cap, hr⟩
        · subst e
          exact (hs.m.pl h p o (g h o ho) hp hl).2.1
        · exact (hs.m.rows0 g).2 hr
    cases e <;> first
      | exact hk0.elim
      | (obtain ⟨u, h1, h2, h3⟩ := fin hk0
         exact ⟨h2, u, h1, u, rfl, h3⟩)
theorem weak_id {Γ : Cx} {σ : St} : Weak Γ σ σ := fun _ _ h => h
/-- a result variable holds a value of the state -/
inductive VO (P : Program) (σ : St) : ResultVar → B → Prop
  | tmp (t : Nat) (b : B) (hg : get σ (.s t) = some (.s (.b b))) : VO P σ (.tmp t) b
  | cells (t T h : Nat) (o : Ob) (hg : get σ (.s t) = some (.s (V.p h 0))) (ho : get σ (.o h) = some (.o o)) (hT : TI P T true o.cells.length) (hp : 0 < o.cells.length) : VO P σ (.cell t T) (.agg o.cells)
  | cell (t T h n : Nat) (o : Ob) (x : A) (hg : get σ (.s t) = some (.s (V.p h 0))) (ho : get σ (.o h) = some (.o o)) (hT : TI P T false n) (hx : o.cells[0]? = some x) : VO P σ (.cell t T) (.a x)
theorem VO.run {Γ : Cx} {σ : St} {a : Act} {w : World} {ρ : Nat → Option Place} {I : Nat → Prop} (hs : Sat Γ σ a w ρ I) {rv : ResultVar} {b : B} (h : VO Γ.P σ rv b) : ∃ u, (rvSem a.tmps rv).run Γ.P w = .ok u w ∧ RelB ρ I w b u := by
  cases h with
  | tmp t b hg => exact ⟨_, rfl, hs.sl t _ hg⟩
  | cells t T h o hg ho hT hp =>
    obtain ⟨p, hp', he⟩ := hs.sl t _ hg
    have how := hs.m.ow h o ho
    obtain ⟨p', cur, hpp, _, hl, _, hgg, hsz, _, hc⟩ := own_pos (j := 0) how hp
    rw [hp'] at hpp; injection hpp with hpp; subst hpp
    let cs : List Value := (cur.toList.drop p.base).take o.cells.length
    have hcl : cs.length = o.cells.length := by simp [cs]; omega
    have hcg : ∀ (j : Nat) v, cs[j]? = some v → cur[p.base + j]? = some v := fun j v hv => by
      have hjn : j < o.cells.length := by rw [← hcl]; exact (List.getElem?_eq_some_iff.1 hv).1
      simpa [cs, List.getElem?_take, hjn, List.getElem?_drop] using hv
    refine ⟨.agg cs.toArray, ?_, ⟨cs, rfl, hcl, fun j x c h1 h2 => ?_⟩⟩
    · obtain ⟨⟨dd, hu, hd⟩, hi⟩ := hT
      simp only [rvSem]
      have he' : a.tmps.getD t undef = .pointer (some ⟨p.block, p.base, none⟩) := he
      rw [he']
      rw [Sem.run_bind]
      simp only [asAddr, Sem.run_pure, Result.andThen_ok]
      exact run_loadVar_mid w p.block p.base T cs dd (fun j v hv => by simp [World.cell?, hgg, hcg j v hv]) hu hd (by rw [hi, hcl])
    · obtain ⟨u, hu, hru⟩ := hc j x h1
      have := hcg j c h2
      rw [hu] at this; injection this with this
      subst this; exact hru
  | cell t T h n o x hg ho hT hx =>
    obtain ⟨p, hp', he⟩ := hs.sl t _ hg
    have how := hs.m.ow h o ho
    obtain ⟨p', cur, hpp, _, hl, _, hgg, hsz, _, hc⟩ := own_pos (j := 0) how (List.getElem?_eq_some_iff.1 hx).1
    rw [hp'] at hpp; injection hpp with hpp; subst hpp
    obtain ⟨u, hu, hru⟩ := hc 0 x hx
    refine ⟨u, ?_, hru⟩
    simp only [rvSem]
    have he' : a.tmps.getD t undef = .pointer (some ⟨p.block, p.base, none⟩) := he
    have hl := run_loadAt_one (w := w) (ad := ⟨p.block, p.base, none⟩) (v := u) hT (by simpa [World.cell?, hgg] using hu)
    rw [he', Sem.run_bind]
    simp only [asAddr, Sem.run_pure, Result.andThen_ok]
    simpa [Instr.loadAt, Instr.sureAddr] using hl
theorem retO1 {P : Program} {fn : Func} {rv : ResultVar} {b : B} (hr : fn.results = #[rv]) : ∀ Γ σ a w ρ I, Γ.P = P → Sat Γ σ a w ρ I → VO P σ rv b → ∃ u, (results fn a.tmps).run P w = .ok u w ∧ RelV ρ I w (.b b) u := by
  intro Γ σ a w ρ I hP hs h
  subst hP
  obtain ⟨u, hu, hb⟩ := VO.run hs h
  exact ⟨u, results1 hr hu, hb⟩
theorem retO2 {P : Program} {fn : Func} {r1 r2 : ResultVar} {b1 b2 : B} (hr : fn.results = #[r1, r2]) : ∀ Γ σ a w ρ I, Γ.P = P → Sat Γ σ a w ρ I → (VO P σ r1 b1 ∧ VO P σ r2 b2) → ∃ u, (results fn a.tmps).run P w = .ok u w ∧ RelV ρ I w (.tup [b1, b2]) u := by
  intro Γ σ a w ρ I hP hs ⟨h1, h2⟩
  subst hP
  obtain ⟨u1, hu1, hb1⟩ := VO.run hs h1
  obtain ⟨u2, hu2, hb2⟩ := VO.run hs h2
  refine ⟨_, results2 hr hu1 hu2, [u1, u2], rfl, rfl, fun j x c e1 e2 => ?_⟩
  match j, e1, e2 with
  | 0, e1, e2 => simp at e1 e2; subst e1; subst e2; exact hb1
  | 1, e1, e2 => simp at e1 e2; subst e1; subst e2; exact hb2
theorem retO0 {P : Program} {fn : Func} (hr : fn.results = #[]) : ∀ Γ σ a w ρ I, Γ.P = P → Sat Γ σ a w ρ I → True → ∃ u, (results fn a.tmps).run P w = .ok u w ∧ RelV ρ I w (V.v (.tuple #[])) u := by
  intro Γ σ a w ρ I hP hs _
  exact ⟨.tuple #[], by simp [results_eq, hr], rfl⟩
end Cl
end Go.Proofs.Ytgmckbchcpfhcaa
