
/- A logic of clean states over the walk's rules: slots and own objects by name, every operation by one law, drawn orders by one check. No statement of the program is proved here. -/
import Derived.Test.YtgmckbchcpfhcaaBase
namespace Go.Proofs.Ytgmckbchcpfhcaa
namespace Cl
open Go.ChangeShapes Go.WideShapes Go.ChangeAt Go.RowKit

inductive A where
  | val (v : Value)
  | sl (h off len : Nat)
  | ptr (h off : Nat)
  | slv (n s : Nat) (xs : List Value)
  | ptrv (s : Nat) (xs : List Value) (off : Nat)
  | slvv (s : Nat) (rows : List (Nat × List Value))
  | ptrvv (s : Nat) (rows : List (Nat × List Value)) (k : Nat)
  | fn (f : Nat) (caps : List Nat)
  | slg (T g n s : Nat) (xs : List Value)
  | row (T n s : Nat) (xs : List Value)
inductive B where
  | a (x : A)
  | agg (xs : List A)
inductive V where
  | b (x : B)
  | tup (xs : List B)
structure Ob where
  T : TypeId
  s : Nat
  ex : Bool
  cells : List A
inductive Cell where
  | s (v : V)
  | o (x : Ob)
  | free
inductive Key where
  | s (k : Nat)
  | o (h : Nat)
  deriving DecidableEq
def Key.eq : Key → Key → Bool
  | .s a, .s b => Nat.beq a b
  | .o a, .o b => Nat.beq a b
  | _, _ => false
theorem Key.eq_iff {a b : Key} : Key.eq a b = true ↔ a = b := by
  cases a <;> cases b <;> simp [Key.eq]
theorem key_ne {d k : Nat} (h : ¬ d = k) : Key.eq (.s d) (.s k) = false := by
  rcases Bool.eq_false_or_eq_true (Key.eq (.s d) (.s k)) with e | e
  · exact absurd (Key.eq_iff.1 e) (by simpa using h)
  · exact e
theorem key_neo {d k : Nat} (h : ¬ d = k) : Key.eq (.o d) (.o k) = false := by
  rcases Bool.eq_false_or_eq_true (Key.eq (.o d) (.o k)) with e | e
  · exact absurd (Key.eq_iff.1 e) (by simpa using h)
  · exact e
abbrev St := List (Key × Option Cell)
def get : St → Key → Option Cell
  | [], _ => none
  | (k', c) :: r, k => bif Key.eq k' k then c else get r k
def has : St → Key → Bool
  | [], _ => false
  | (k', _) :: r, k => Key.eq k' k || has r k
theorem get_app (W σ : St) (k : Key) : get (W ++ σ) k = if has W k then get W k else get σ k := by
  induction W with
  | nil => simp [has]
  | cons a W ih =>
    obtain ⟨k', c⟩ := a
    simp only [List.cons_append, get, has, ih]
    rcases Bool.eq_false_or_eq_true (Key.eq k' k) with h | h <;> simp only [h, cond_true, cond_false, Bool.true_or, Bool.false_or, if_true]
theorem get_cons_ne {σ : St} {k k' : Key} {c : Option Cell} (h : Key.eq k' k = false) : get ((k', c) :: σ) k = get σ k := by simp [get, h]
theorem get_cons_eq {σ : St} {k : Key} {c : Option Cell} : get ((k, c) :: σ) k = c := by
  have h : Key.eq k k = true := Key.eq_iff.2 rfl
  simp [get, h]

structure Place where
  block : Nat
  base : Nat
  cap : Nat
  size : Nat
  live : Bool
  x : Bool

/-- a flat value and the value in memory -/
def RelA (ρ : Nat → Option Place) (I : Nat → Prop) (w : World) : A → Value → Prop
  | .val v, u => u = v
  | .sl h off len, u => ∃ p A, ρ h = some p ∧ u = .slice A len (p.cap - off) ∧ off + len ≤ p.cap ∧ ((p.x = true ∧ off = 0) ∨ p.cap - off ≠ 0 → A = if p.live then some ⟨p.block, p.base + off * p.size, none⟩ else none)
  | .ptr h off, u => ∃ p, ρ h = some p ∧ u = .pointer (some ⟨p.block, p.base + off, none⟩)
  | .slv n s xs, u => xs.length = n * s ∧ ∃ A c, u = .slice A n c ∧ n ≤ c ∧ (0 < n → ∃ g o, A = some ⟨g, o, none⟩ ∧ I g ∧ ∀ j x, xs[j]? = some x → w.cell? ⟨g, o + j, none⟩ = some x)
  | .ptrv _ xs off, u => ∃ g o, u = .pointer (some ⟨g, o + off, none⟩) ∧ I g ∧ ∀ j x, xs[j]? = some x → w.cell? ⟨g, o + j, none⟩ = some x
  | .slvv s rows, u => ∃ A c, u = .slice A rows.length c ∧ rows.length ≤ c ∧ (0 < rows.length → ∃ g o, A = some ⟨g, o, none⟩ ∧ I g ∧ ∀ j r, rows[j]? = some r → r.2.length = r.1 * s ∧ ∃ A' c', w.cell? ⟨g, o + j, none⟩ = some (.slice A' r.1 c') ∧ r.1 ≤ c' ∧ (0 < r.1 → ∃ g o, A' = some ⟨g, o, none⟩ ∧ I g ∧ ∀ j x, r.2[j]? = some x → w.cell? ⟨g, o + j, none⟩ = some x))
  | .ptrvv s rows k, u => ∃ g o, u = .pointer (some ⟨g, o + k, none⟩) ∧ I g ∧ ∀ j r, rows[j]? = some r → r.2.length = r.1 * s ∧ ∃ A' c', w.cell? ⟨g, o + j, none⟩ = some (.slice A' r.1 c') ∧ r.1 ≤ c' ∧ (0 < r.1 → ∃ g o, A' = some ⟨g, o, none⟩ ∧ I g ∧ ∀ j x, r.2[j]? = some x → w.cell? ⟨g, o + j, none⟩ = some x)
  | .fn f caps, u => ∃ vs : List Value, u = .func (.func f) #[] vs.toArray ∧ vs.length = caps.length ∧ ∀ (j : Nat) (h : Nat), caps[j]? = some h → ∃ p : Place, ρ h = some p ∧ vs[j]? = some (Value.pointer (some ⟨p.block, p.base, none⟩))
  | .slg T g n s xs, u => xs.length = n * s ∧ ((u = .slice none 0 0 ∧ n = 0) ∨ ∃ cap cur, u = .slice (some ⟨g, 0, none⟩) n cap ∧ I g ∧ w.heap[g]? = some (.cells cur T (0, 0)) ∧ n ≤ cap ∧ cap ≤ maxLen ∧ cur.size = cap * s ∧ cur.toList.take (n * s) = xs)
  | .row _ n s xs, u => xs.length = n * s ∧ ∃ (ob : Option Nat) (cap : Nat), u = .slice (ob.map fun b => ⟨b, 0, none⟩) n cap ∧ n ≤ cap ∧ (ob = none → cap = 0)
def RelB (ρ : Nat → Option Place) (I : Nat → Prop) (w : World) : B → Value → Prop
  | .a x, u => RelA ρ I w x u
  | .agg xs, u => ∃ cs : List Value, u = .agg cs.toArray ∧ cs.length = xs.length ∧ ∀ (j : Nat) x c, xs[j]? = some x → cs[j]? = some c → RelA ρ I w x c
def RelV (ρ : Nat → Option Place) (I : Nat → Prop) (w : World) : V → Value → Prop
  | .b x, u => RelB ρ I w x u
  | .tup xs, u => ∃ cs : List Value, u = .tuple cs.toArray ∧ cs.length = xs.length ∧ ∀ (j : Nat) x c, xs[j]? = some x → cs[j]? = some c → RelB ρ I w x c

/-- an object of the call's own -/
def Own (ρ : Nat → Option Place) (I : Nat → Prop) (w : World) (h : Nat) (o : Ob) : Prop :=
  ∃ p, ρ h = some p ∧ p.size = o.s ∧ o.cells.length ≤ p.cap * p.size ∧ (o.ex = true → p.x = true ∧ p.base = 0 ∧ p.cap ≤ maxLen) ∧ (p.live = false → p.cap = 0) ∧
    (p.live = true → ∃ cur, w.heap[p.block]? = some (.cells cur o.T (0, 0)) ∧ p.base + p.cap * p.size ≤ cur.size ∧ (o.ex = true → cur.size = p.cap * p.size) ∧
      ∀ (j : Nat) x, o.cells[j]? = some x → ∃ u, cur[p.base + j]? = some u ∧ RelA ρ I w x u)

/-- the name that a value hangs on -/
def A.hd : A → Nat → Prop
  | .sl h _ n, h' => h = h' ∧ 0 < n
  | .ptr h _, h' => h = h'
  | _, _ => False
structure Cx where
  P : Program
  N : Nat
  W : World
  own : Nat → Prop
  fix : Nat → Bool
  pp : Nat → Option Place
  keep : List Nat
  kp : Nat → Option Place
  im0 : Nat → Prop
def Cx.okb (Γ : Cx) (d : Nat) : Bool := Nat.blt d Γ.N && !Γ.fix d
def Cx.ok (Γ : Cx) (d : Nat) : Prop := d < Γ.N ∧ Γ.fix d = false

def Frame0 (Γ : Cx) (w : World) : Prop :=
  w.os = Γ.W.os ∧ w.tape = Γ.W.tape ∧ w.output = Γ.W.output ∧ Γ.W.heap.size ≤ w.heap.size ∧ ∀ b, b < Γ.W.heap.size → ¬ Γ.own b → w.heap[b]? = Γ.W.heap[b]?

def A.isRow : A → Bool
  | .row .. => true
  | _ => false
/-- the j-th cell of the object h is a row of its own block b -/
def RowIn (σ : St) (w : World) (ρ : Nat → Option Place) (h j T n s : Nat) (xs : List Value) (b cap : Nat) : Prop :=
  ∃ o p, get σ (.o h) = some (.o o) ∧ ρ h = some p ∧ p.live = true ∧ o.cells[j]? = some (.row T n s xs) ∧ w.cell? ⟨p.block, p.base + j, none⟩ = some (.slice (some ⟨b, 0, none⟩) n cap)
structure RowOk (w : World) (I : Nat → Prop) (T n s : Nat) (xs : List Value) (b cap : Nat) : Prop where
  hp : ∃ cur, w.heap[b]? = some (.cells cur T (0, 0)) ∧ cur.size = cap * s ∧ ∀ (i : Nat) x, xs[i]? = some x → cur[i]? = some x
  le : n ≤ cap
  mx : cap ≤ maxLen
  xl : xs.length = n * s
  ni : ¬ I b
  lt : b < w.heap.size
structure Rws (σ : St) (w : World) (ρ : Nat → Option Place) (I : Nat → Prop) : Prop where
  ok : ∀ {h j T n s xs b cap}, RowIn σ w ρ h j T n s xs b cap → RowOk w I T n s xs b cap
  sep : ∀ {h j T n s xs b cap h' o' p'}, RowIn σ w ρ h j T n s xs b cap → get σ (.o h') = some (.o o') → ρ h' = some p' → p'.live = true → p'.block ≠ b
  inj : ∀ {h j T n s xs b cap h' j' T' n' s' xs' cap'}, RowIn σ w ρ h j T n s xs b cap → RowIn σ w ρ h' j' T' n' s' xs' b cap' → h' = h ∧ j' = j
theorem Rws.nil {σ : St} {w : World} {ρ : Nat → Option Place} {I : Nat → Prop} (h : ∀ h o, ¬ get σ (.o h) = some (.o o)) : Rws σ w ρ I :=
  ⟨fun ⟨o, _, q, _⟩ => absurd q (h _ o), fun ⟨o, _, q, _⟩ => absurd q (h _ o), fun ⟨o, _, q, _⟩ => absurd q (h _ o)⟩
/-- rows that come of rows of another state -/
theorem Rws.map {σ τ : St} {w w' : World} {ρ ρ' : Nat → Option Place} {I I' : Nat → Prop} (H : Rws σ w ρ I) (f : Nat → Nat → Nat × Nat)
    (ho : ∀ {h j T n s xs b cap}, RowIn τ w' ρ' h j T n s xs b cap → RowIn σ w ρ (f h j).1 (f h j).2 T n s xs b cap)
    (hi : ∀ {h j T n s xs b cap h' j' T' n' s' xs' cap'}, RowIn τ w' ρ' h j T n s xs b cap → RowIn τ w' ρ' h' j' T' n' s' xs' b cap' → f h' j' = f h j → h' = h ∧ j' = j)
    (hb : ∀ {h j T n s xs b cap}, RowIn σ w ρ h j T n s xs b cap → w'.heap[b]? = w.heap[b]? ∧ ¬ I' b ∧ b < w'.heap.size)
    (hl : ∀ {h j T n s xs b cap h' o' p'}, RowIn σ w ρ h j T n s xs b cap → get τ (.o h') = some (.o o') → ρ' h' = some p' → p'.live = true → p'.block ≠ b) : Rws τ w' ρ' I' := by
  refine ⟨fun h => ?_, fun h h1 h2 h3 => hl (ho h) h1 h2 h3, fun h h' => ?_⟩
  · obtain ⟨⟨cur, c1, c2, c3⟩, h2, h3, h4, h5, h6⟩ := H.ok (ho h)
    obtain ⟨b1, b2, b3⟩ := hb (ho h)
    exact ⟨⟨cur, b1.trans c1, c2, c3⟩, h2, h3, h4, b2, b3⟩
  · obtain ⟨e1, e2⟩ := H.inj (ho h) (ho h')
    exact hi h h' (Prod.ext e1 e2)
/-- the same rows, or fewer -/
theorem Rws.same {σ τ : St} {w w' : World} {ρ ρ' : Nat → Option Place} {I I' : Nat → Prop} (H : Rws σ w ρ I)
    (hg : ∀ h o, get τ (.o h) = some (.o o) → get σ (.o h) = some (.o o)) (hρ : ∀ h o p, get τ (.o h) = some (.o o) → ρ' h = some p → ρ h = some p)
    (hc : ∀ h o p, get τ (.o h) = some (.o o) → ρ h = some p → p.live = true → w'.heap[p.block]? = w.heap[p.block]?)
    (hb : ∀ {h j T n s xs b cap}, RowIn σ w ρ h j T n s xs b cap → w'.heap[b]? = w.heap[b]? ∧ ¬ I' b ∧ b < w'.heap.size) : Rws τ w' ρ' I' := by
  have ho : ∀ {h j T n s xs b cap}, RowIn τ w' ρ' h j T n s xs b cap → RowIn σ w ρ h j T n s xs b cap := by
    rintro h j T n s xs b cap ⟨o, p, h1, h2, h3, h4, h5⟩
    exact ⟨o, p, hg h o h1, hρ h o p h1 h2, h3, h4, by rw [← World.cell?_of_block (w := w) (w' := w') (hc h o p h1 (hρ h o p h1 h2) h3)]; exact h5⟩
  exact H.map (fun h j => (h, j)) ho (fun _ _ e => by injection e with e1 e2; exact ⟨e1, e2⟩) hb fun h h1 h2 h3 => H.sep h (hg _ _ h1) (hρ _ _ _ h1 h2) h3
/-- the memory's part of a state -/
structure Mem (Γ : Cx) (σ : St) (w : World) (ρ : Nat → Option Place) (I : Nat → Prop) : Prop where
  ow : ∀ h o, get σ (.o h) = some (.o o) → Own ρ I w h o
  fr : ∀ h, get σ (.o h) = some .free → ρ h = none
  pl : ∀ h p o, get σ (.o h) = some (.o o) → ρ h = some p → p.live = true → ¬ I p.block ∧ (Γ.own p.block ∨ Γ.W.heap.size ≤ p.block) ∧ p.block < w.heap.size
  inj : ∀ h h' p p' o o', get σ (.o h) = some (.o o) → get σ (.o h') = some (.o o') → ρ h = some p → ρ h' = some p' → p.live = true → p'.live = true → p.block = p'.block → h = h'
  im : ∀ b, I b → b < w.heap.size
  rs : Rws σ w ρ I
  rp : ∀ {h j T n s xs b cap}, RowIn σ w ρ h j T n s xs b cap → Γ.own b ∨ Γ.W.heap.size ≤ b
  fm : Frame0 Γ w
theorem Mem.rows {Γ : Cx} {σ τ : St} {w w' : World} {ρ ρ' : Nat → Option Place} {I I' : Nat → Prop} (H : Mem Γ σ w ρ I)
    (hg : ∀ h o, get τ (.o h) = some (.o o) → get σ (.o h) = some (.o o)) (hρ : ∀ h o p, get τ (.o h) = some (.o o) → ρ' h = some p → ρ h = some p)
    (hc : ∀ h o p, get τ (.o h) = some (.o o) → ρ h = some p → p.live = true → w'.heap[p.block]? = w.heap[p.block]?)
    (hb : ∀ {h j T n s xs b cap}, RowIn σ w ρ h j T n s xs b cap → w'.heap[b]? = w.heap[b]? ∧ ¬ I' b ∧ b < w'.heap.size) : Rws τ w' ρ' I' ∧ ∀ {h j T n s xs b cap}, RowIn τ w' ρ' h j T n s xs b cap → Γ.own b ∨ Γ.W.heap.size ≤ b :=
  ⟨H.rs.same hg hρ hc hb, by
    rintro h j T n s xs b cap ⟨o, p, h1, h2, h3, h4, h5⟩
    exact H.rp ⟨o, p, hg h o h1, hρ h o p h1 h2, h3, h4, by rw [← World.cell?_of_block (w := w) (w' := w') (hc h o p h1 (hρ h o p h1 h2) h3)]; exact h5⟩⟩
theorem Mem.rows0 {Γ : Cx} {σ τ : St} {w : World} {ρ : Nat → Option Place} {I : Nat → Prop} (H : Mem Γ σ w ρ I) (hg : ∀ h o, get τ (.o h) = some (.o o) → get σ (.o h) = some (.o o)) :
    Rws τ w ρ I ∧ ∀ {h j T n s xs b cap}, RowIn τ w ρ h j T n s xs b cap → Γ.own b ∨ Γ.W.heap.size ≤ b :=
  H.rows hg (fun _ _ _ _ h => h) (fun _ _ _ _ _ _ => rfl) fun h => ⟨rfl, (H.rs.ok h).ni, (H.rs.ok h).lt⟩
def Slots (σ : St) (a : Act) (w : World) (ρ : Nat → Option Place) (I : Nat → Prop) : Prop :=
  ∀ k v, get σ (.s k) = some (.s v) → RelV ρ I w v (a.tmps.getD k undef)
/-- names that keep their places, and where immutable blocks come from -/
def Kept0 (Γ : Cx) (ρ : Nat → Option Place) (I : Nat → Prop) : Prop := (∀ h, h ∈ Γ.keep → ∃ p, Γ.kp h = some p ∧ ρ h = some p) ∧ ∀ b, I b → Γ.im0 b ∨ Γ.own b ∨ Γ.W.heap.size ≤ b
theorem Kept0.mono {Γ : Cx} {ρ ρ' : Nat → Option Place} {I : Nat → Prop} (h : Kept0 Γ ρ I) (hρ : ∀ h p, ρ h = some p → ρ' h = some p) : Kept0 Γ ρ' I :=
  ⟨fun y hy => by obtain ⟨q, e1, e2⟩ := h.1 y hy; exact ⟨q, e1, hρ _ _ e2⟩, h.2⟩
structure Sat (Γ : Cx) (σ : St) (a : Act) (w : World) (ρ : Nat → Option Place) (I : Nat → Prop) : Prop where
  n : a.tmps.size = Γ.N
  d : a.defers = []
  fx : ∀ k x h, Γ.fix k = true → get σ (.s k) = some (.s (.b (.a x))) → x.hd h → ∃ p, Γ.pp k = some p ∧ ρ h = some p
  kp : Kept0 Γ ρ I
  sl : Slots σ a w ρ I
  m : Mem Γ σ w ρ I
def Sats (Γ : Cx) (σ : St) (a : Act) (w : World) : Prop := ∃ ρ I, Sat Γ σ a w ρ I

theorem RelA.mono {ρ ρ' : Nat → Option Place} {I I' : Nat → Prop} {w w' : World} {x : A} {u : Value} (h : RelA ρ I w x u)
    (hρ : ∀ h p, ρ h = some p → ρ' h = some p) (hI : ∀ b, I b → I' b ∧ w'.heap[b]? = w.heap[b]?) : RelA ρ' I' w' x u := by
  have hc : ∀ g o, I g → w'.cell? ⟨g, o, none⟩ = w.cell? ⟨g, o, none⟩ := fun g o hg => World.cell?_of_block (w := w) (hI g hg).2
  cases x with
  | val v => exact (show u = v from h)
  | sl h0 off len => obtain ⟨p, A, h1, h2⟩ := h; exact ⟨p, A, hρ _ _ h1, h2⟩
  | ptr h0 off => obtain ⟨p, h1, h2⟩ := h; exact ⟨p, hρ _ _ h1, h2⟩
  | slv n s xs =>
    obtain ⟨hl, A, c, h1, h2, h3⟩ := h
    refine ⟨hl, A, c, h1, h2, fun hn => ?_⟩
    obtain ⟨g, o, e, hg, hx⟩ := h3 hn
    exact ⟨g, o, e, (hI g hg).1, fun j x hj => (hc g _ hg).trans (hx j x hj)⟩
  | ptrv s xs off =>
    obtain ⟨g, o, e, hg, hx⟩ := h
    exact ⟨g, o, e, (hI g hg).1, fun j x hj => (hc g _ hg).trans (hx j x hj)⟩
  | slvv s rows =>
    obtain ⟨A, c, h1, h2, h3⟩ := h
    refine ⟨A, c, h1, h2, fun hn => ?_⟩
    obtain ⟨g, o, e, hg, hx⟩ := h3 hn
    refine ⟨g, o, e, (hI g hg).1, fun j r hj => ?_⟩
    obtain ⟨q0, A', c', q1, q2, q3⟩ := hx j r hj
    refine ⟨q0, A', c', (hc g _ hg).trans q1, q2, fun hr => ?_⟩
    obtain ⟨g', o', e', hg', hx'⟩ := q3 hr
    exact ⟨g', o', e', (hI g' hg').1, fun j x hj => (hc g' _ hg').trans (hx' j x hj)⟩
  | ptrvv s rows k =>
    obtain ⟨g, o, e, hg, hx⟩ := h
    refine ⟨g, o, e, (hI g hg).1, fun j r hj => ?_⟩
    obtain ⟨q0, A', c', q1, q2, q3⟩ := hx j r hj
    refine ⟨q0, A', c', (hc g _ hg).trans q1, q2, fun hr => ?_⟩
    obtain ⟨g', o', e', hg', hx'⟩ := q3 hr
    exact ⟨g', o', e', (hI g' hg').1, fun j x hj => (hc g' _ hg').trans (hx' j x hj)⟩
  | fn f caps =>
    obtain ⟨vs, e, hl, hx⟩ := h
    refine ⟨vs, e, hl, fun j h hj => ?_⟩
    obtain ⟨p, hp, hq⟩ := hx j h hj
    exact ⟨p, hρ _ _ hp, hq⟩
  | slg T g n s xs =>
    obtain ⟨hl, h1 | ⟨cap, cur, h1, h2, h3, h4⟩⟩ := h
    · exact ⟨hl, .inl h1⟩
    · exact ⟨hl, .inr ⟨cap, cur, h1, (hI g h2).1, ((hI g h2).2).trans h3, h4⟩⟩
  | row T n s xs => exact h
theorem RelB.mono {ρ ρ' : Nat → Option Place} {I I' : Nat → Prop} {w w' : World} {x : B} {u : Value} (h : RelB ρ I w x u)
    (hρ : ∀ h p, ρ h = some p → ρ' h = some p) (hI : ∀ b, I b → I' b ∧ w'.heap[b]? = w.heap[b]?) : RelB ρ' I' w' x u := by
  cases x with
  | a x => exact RelA.mono h hρ hI
  | agg xs => obtain ⟨cs, e, hl, hx⟩ := h; exact ⟨cs, e, hl, fun j x c h1 h2 => (hx j x c h1 h2).mono hρ hI⟩
theorem RelV.mono {ρ ρ' : Nat → Option Place} {I I' : Nat → Prop} {w w' : World} {x : V} {u : Value} (h : RelV ρ I w x u)
    (hρ : ∀ h p, ρ h = some p → ρ' h = some p) (hI : ∀ b, I b → I' b ∧ w'.heap[b]? = w.heap[b]?) : RelV ρ' I' w' x u := by
  cases x with
  | b x => exact RelB.mono h hρ hI
  | tup xs => obtain ⟨cs, e, hl, hx⟩ := h; exact ⟨cs, e, hl, fun j x c h1 h2 => (hx j x c h1 h2).mono hρ hI⟩
theorem Own.mono {ρ ρ' : Nat → Option Place} {I I' : Nat → Prop} {w w' : World} {h : Nat} {o : Ob} (ho : Own ρ I w h o)
    (hρ : ∀ h p, ρ h = some p → ρ' h = some p) (hI : ∀ b, I b → I' b ∧ w'.heap[b]? = w.heap[b]?) (hb : ∀ p, ρ h = some p → p.live = true → w'.heap[p.block]? = w.heap[p.block]?) : Own ρ' I' w' h o := by
  obtain ⟨p, hp, hs, hl, he, hz, hx⟩ := ho
  refine ⟨p, hρ _ _ hp, hs, hl, he, hz, fun hn => ?_⟩
  obtain ⟨cur, h1, h2, h3, h4⟩ := hx hn
  refine ⟨cur, (hb p hp hn).trans h1, h2, h3, fun j x hj => ?_⟩
  obtain ⟨u, hu, hr⟩ := h4 j x hj
  exact ⟨u, hu, hr.mono hρ hI⟩

/-- cells whose rows are nobody else's -/
structure RowFit (Γ : Cx) (σ : St) (w : World) (ρ : Nat → Option Place) (I : Nat → Prop) (cells : List A) (val : Nat → Option Value) : Prop where
  fit : ∀ {j T n s xs b cap}, cells[j]? = some (.row T n s xs) → val j = some (.slice (some ⟨b, 0, none⟩) n cap) →
    RowOk w I T n s xs b cap ∧ (Γ.own b ∨ Γ.W.heap.size ≤ b) ∧ (∀ {h' o' p'}, get σ (.o h') = some (.o o') → ρ h' = some p' → p'.live = true → p'.block ≠ b) ∧ (∀ {h' j' T' n' s' xs' cap'}, ¬ RowIn σ w ρ h' j' T' n' s' xs' b cap') ∧
    ∀ {j' T' n' s' xs' cap'}, cells[j']? = some (.row T' n' s' xs') → val j' = some (.slice (some ⟨b, 0, none⟩) n' cap') → j' = j
theorem RowFit.no {Γ : Cx} {σ : St} {w : World} {ρ : Nat → Option Place} {I : Nat → Prop} {cells : List A} {val : Nat → Option Value} (h : ∀ y ∈ cells, y.isRow = false) : RowFit Γ σ w ρ I cells val := by
  constructor
  intro j T n s xs b cap hj
  have := h _ (List.mem_of_getElem? hj)
  cases this
theorem Mem.cons {Γ : Cx} {σ : St} {w w' : World} {ρ ρ' : Nat → Option Place} {I : Nat → Prop} (H : Mem Γ σ w ρ I) {x : Nat} {o : Ob} {p : Place} (hx' : ρ' x = some p) (hold : ∀ y, y ≠ x → ρ' y = ρ y)
    (hw : ∀ b, b < w.heap.size → w'.heap[b]? = w.heap[b]?) (hsz : w.heap.size ≤ w'.heap.size) (hf : RowFit Γ σ w ρ I o.cells (fun j => w'.cell? ⟨p.block, p.base + j, none⟩))
    (hpb : p.live = true → ∀ {h j T n s xs b cap}, RowIn σ w ρ h j T n s xs b cap → p.block ≠ b)
    (hself : p.live = true → ∀ {j T n s xs b cap}, o.cells[j]? = some (.row T n s xs) → w'.cell? ⟨p.block, p.base + j, none⟩ = some (.slice (some ⟨b, 0, none⟩) n cap) → p.block ≠ b) :
    Rws ((.o x, some (.o o)) :: σ) w' ρ' I ∧ ∀ {h j T n s xs b cap}, RowIn ((.o x, some (.o o)) :: σ) w' ρ' h j T n s xs b cap → Γ.own b ∨ Γ.W.heap.size ≤ b := by
  have hgo : ∀ y, y ≠ x → get ((Key.o x, some (Cell.o o)) :: σ) (.o y) = get σ (.o y) := fun y hy => get_cons_ne (key_neo (fun e => hy e.symm))
  have hin : ∀ {h j T n s xs b cap}, RowIn ((.o x, some (.o o)) :: σ) w' ρ' h j T n s xs b cap → (h = x ∧ p.live = true ∧ o.cells[j]? = some (.row T n s xs) ∧ w'.cell? ⟨p.block, p.base + j, none⟩ = some (.slice (some ⟨b, 0, none⟩) n cap)) ∨ (h ≠ x ∧ RowIn σ w ρ h j T n s xs b cap) := by
    rintro h j T n s xs b cap ⟨o1, p1, h1, h2, h3, h4, h5⟩
    by_cases e : h = x
    · subst e
      rw [get_cons_eq] at h1
      injection h1 with h1; injection h1 with h1
      subst h1
      rw [hx'] at h2; injection h2 with h2; subst h2
      exact .inl ⟨rfl, h3, h4, h5⟩
    · rw [hgo h e] at h1
      rw [hold h e] at h2
      exact .inr ⟨e, o1, p1, h1, h2, h3, h4, by rw [← World.cell?_of_block (w := w) (w' := w') (hw _ (H.pl h p1 o1 h1 h2 h3).2.2)]; exact h5⟩
  have hup : ∀ {T n s xs b cap}, RowOk w I T n s xs b cap → RowOk w' I T n s xs b cap := by
    rintro T n s xs b cap ⟨⟨cur, c1, c2, c3⟩, h2, h3, h4, h5, h6⟩
    exact ⟨⟨cur, (hw b h6).trans c1, c2, c3⟩, h2, h3, h4, h5, Nat.lt_of_lt_of_le h6 hsz⟩
  refine ⟨⟨fun h => ?_, fun h h1 h2 h3 => ?_, fun h h' => ?_⟩, fun h => ?_⟩
  · rcases hin h with ⟨_, h2, h3, h4⟩ | ⟨_, h2⟩
    · exact hup (hf.fit h3 h4).1
    · exact hup (H.rs.ok h2)
  · rename_i h0 j T n s xs b cap y o1 p1
    by_cases e : y = x
    · subst e
      rw [hx'] at h2; injection h2 with h2; subst h2
      rcases hin h with ⟨_, q2, q3, q4⟩ | ⟨_, q2⟩
      · exact hself q2 q3 q4
      · exact hpb h3 q2
    · rw [hgo y e] at h1; rw [hold y e] at h2
      rcases hin h with ⟨_, q2, q3, q4⟩ | ⟨_, q2⟩
      · exact (hf.fit q3 q4).2.2.1 h1 h2 h3
      · exact H.rs.sep q2 h1 h2 h3
  · rcases hin h with ⟨e, q2, q3, q4⟩ | ⟨e, q2⟩ <;> rcases hin h' with ⟨e', r2, r3, r4⟩ | ⟨e', r2⟩
    · exact ⟨e'.trans e.symm, (hf.fit q3 q4).2.2.2.2 r3 r4⟩
    · exact absurd r2 (hf.fit q3 q4).2.2.2.1
    · exact absurd q2 (hf.fit r3 r4).2.2.2.1
    · exact H.rs.inj q2 r2
  · rcases hin h with ⟨_, h2, h3, h4⟩ | ⟨_, h2⟩
    · exact (hf.fit h3 h4).2.1
    · exact H.rp h2
/-- a change of the world that leaves own objects and immutable blocks alone -/
theorem Sat.world {Γ : Cx} {σ : St} {a : Act} {w w' : World} {ρ : Nat → Option Place} {I : Nat → Prop} (h : Sat Γ σ a w ρ I) (hb : Below w.heap.size w w') : Sat Γ σ a w' ρ I := by
  have hI : ∀ b, I b → I b ∧ w'.heap[b]? = w.heap[b]? := fun b hb' => ⟨hb', hb.block b (h.m.im b hb')⟩
  refine ⟨h.n, h.d, h.fx, h.kp, fun k v hk => (h.sl k v hk).mono (fun _ _ h => h) hI, ?_⟩
  have hrw := h.m.rows (τ := σ) (w' := w') (ρ' := ρ) (I' := I) (fun _ _ h => h) (fun _ _ _ _ h => h) (fun x o p ho hp hn => hb.block _ (h.m.pl x p o ho hp hn).2.2) fun hr => ⟨hb.block _ (h.m.rs.ok hr).lt, (h.m.rs.ok hr).ni, Nat.lt_of_lt_of_le (h.m.rs.ok hr).lt hb.size⟩
  refine ⟨fun x o ho => (h.m.ow x o ho).mono (fun _ _ h => h) hI fun p hp hn => hb.block _ (h.m.pl x p o ho hp hn).2.2, h.m.fr, fun x p o ho hp hn => ?_, h.m.inj, fun b hb' => Nat.lt_of_lt_of_le (h.m.im b hb') hb.size, hrw.1, hrw.2, ?_⟩
  · obtain ⟨h1, h2, h3⟩ := h.m.pl x p o ho hp hn
    exact ⟨h1, h2, Nat.lt_of_lt_of_le h3 hb.size⟩
  · obtain ⟨h1, h2, h3, h4, h5⟩ := h.m.fm
    exact ⟨hb.os.trans h1, hb.tape.trans h2, hb.output.trans h3, Nat.le_trans h4 hb.size, fun b hlt ho => (hb.block b (Nat.lt_of_lt_of_le hlt h4)).trans (h5 b hlt ho)⟩
theorem getD_set (t : Array Value) (d k : Nat) (v : Value) (hd : d < t.size) : (t.setIfInBounds d v).getD k undef = if d = k then v else t.getD k undef := by
  simp only [Array.getD_eq_getD_getElem?, Array.getElem?_setIfInBounds]
  by_cases h : d = k
  · subst h; simp [hd]
  · simp [h]
/-- a slot is written -/
theorem Sat.put {Γ : Cx} {σ : St} {a : Act} {w : World} {ρ : Nat → Option Place} {I : Nat → Prop} (h : Sat Γ σ a w ρ I) {d : Nat} (hd : Γ.ok d) {V : V} {v : Value} (hv : RelV ρ I w V v) :
    Sat Γ ((.s d, some (.s V)) :: σ) (a.put (some d) v) w ρ I := by
  refine ⟨by simp [Act.put, h.n], h.d, fun k x h' hk hg hh => ?_, h.kp, fun k x hk => ?_, ?_⟩
  · rw [get_cons_ne (key_ne (fun e => by subst e; rw [hd.2] at hk; cases hk))] at hg
    exact h.fx k x h' hk hg hh
  · simp only [Act.put]
    rw [getD_set _ _ _ _ (by rw [h.n]; exact hd.1)]
    by_cases e : d = k
    · subst e
      rw [get_cons_eq] at hk
      injection hk with hk; injection hk with hk
      subst hk
      simpa using hv
    · rw [get_cons_ne (key_ne e)] at hk
      simpa [e] using h.sl k x hk
  · have hg : ∀ x, get ((Key.s d, some (Cell.s V)) :: σ) (.o x) = get σ (.o x) := fun x => get_cons_ne rfl
    exact ⟨fun x o ho => h.m.ow x o ((hg x) ▸ ho), fun x hx => h.m.fr x ((hg x) ▸ hx), fun x p o ho => h.m.pl x p o ((hg x) ▸ ho), fun x y p p' o o' h1 h2 => h.m.inj x y p p' o o' ((hg x) ▸ h1) ((hg y) ▸ h2), h.m.im, (h.m.rows0 fun x o ho => (hg x) ▸ ho).1, (h.m.rows0 fun x o ho => (hg x) ▸ ho).2, h.m.fm⟩
theorem Sat.putU {Γ : Cx} {σ : St} {a : Act} {w : World} {ρ : Nat → Option Place} {I : Nat → Prop} (h : Sat Γ σ a w ρ I) {d : Nat} (hd : Γ.ok d) {v : Value} :
    Sat Γ ((.s d, none) :: σ) (a.put (some d) v) w ρ I := by
  refine ⟨by simp [Act.put, h.n], h.d, fun k x h' hk hg hh => ?_, h.kp, fun k x hk => ?_, ?_⟩
  · rw [get_cons_ne (key_ne (fun e => by subst e; rw [hd.2] at hk; cases hk))] at hg
    exact h.fx k x h' hk hg hh
  · simp only [Act.put]
    rw [getD_set _ _ _ _ (by rw [h.n]; exact hd.1)]
    by_cases e : d = k
    · subst e
      rw [get_cons_eq] at hk
      cases hk
    · rw [get_cons_ne (key_ne e)] at hk
      simpa [e] using h.sl k x hk
  · have hg : ∀ x, get ((Key.s d, none) :: σ) (.o x) = get σ (.o x) := fun x => get_cons_ne rfl
    exact ⟨fun x o ho => h.m.ow x o ((hg x) ▸ ho), fun x hx => h.m.fr x ((hg x) ▸ hx), fun x p o ho => h.m.pl x p o ((hg x) ▸ ho), fun x y p p' o o' h1 h2 => h.m.inj x y p p' o o' ((hg x) ▸ h1) ((hg y) ▸ h2), h.m.im, (h.m.rows0 fun x o ho => (hg x) ▸ ho).1, (h.m.rows0 fun x o ho => (hg x) ▸ ho).2, h.m.fm⟩
/-- a new block under a free name -/
theorem Sat.new {Γ : Cx} {σ : St} {a : Act} {w : World} {ρ : Nat → Option Place} {I : Nat → Prop} (h : Sat Γ σ a w ρ I) {x : Nat} (hx : get σ (.o x) = some .free)
    {cur : Array Value} {T : TypeId} {cap s : Nat} {ex : Bool} {cells : List A} (hcur : cur.size = cap * s) (hl : cells.length ≤ cap * s) (hm : ex = true → cap ≤ maxLen)
    (hr : ∀ (j : Nat) y, cells[j]? = some y → ∃ u, cur[j]? = some u ∧ RelA ρ I w y u) (hf : RowFit Γ σ w ρ I cells (fun j => cur[j]?)) :
    ∃ ρ', (∀ h p, ρ h = some p → ρ' h = some p) ∧ ρ' x = some ⟨w.heap.size, 0, cap, s, true, true⟩ ∧ Sat Γ ((.o x, some (.o ⟨T, s, ex, cells⟩)) :: σ) a (w.alloc (.cells cur T)) ρ' I := by
  have hfree := h.m.fr x hx
  let ρ' : Nat → Option Place := fun y => if y = x then some ⟨w.heap.size, 0, cap, s, true, true⟩ else ρ y
  have hρ : ∀ h p, ρ h = some p → ρ' h = some p := fun y p hy => by
    have : y ≠ x := fun e => by rw [e, hfree] at hy; cases hy
    simp [ρ', this, hy]
  have hx' : ρ' x = some ⟨w.heap.size, 0, cap, s, true, true⟩ := by simp [ρ']
  have hI : ∀ b, I b → I b ∧ (w.alloc (.cells cur T)).heap[b]? = w.heap[b]? := fun b hb => ⟨hb, Below.heap_alloc w _ b (h.m.im b hb)⟩
  have hgs : ∀ k, get ((Key.o x, some (Cell.o ⟨T, s, ex, cells⟩)) :: σ) (.s k) = get σ (.s k) := fun k => get_cons_ne rfl
  have hgo : ∀ y, y ≠ x → get ((Key.o x, some (Cell.o ⟨T, s, ex, cells⟩)) :: σ) (.o y) = get σ (.o y) := fun y hy => get_cons_ne (key_neo (fun e => hy e.symm))
  have hold : ∀ y, y ≠ x → ρ' y = ρ y := fun y hy => by simp [ρ', hy]
  refine ⟨ρ', hρ, hx', h.n, h.d, (fun k x h' hk hg hh => by obtain ⟨q, e1, e2⟩ := h.fx k x h' hk ((hgs k) ▸ hg) hh; exact ⟨q, e1, hρ _ _ e2⟩), h.kp.mono hρ, fun k v hk => (h.sl k v ((hgs k) ▸ hk)).mono hρ hI, ?_⟩
  have hlt : ∀ y p o, get σ (.o y) = some (.o o) → ρ y = some p → p.live = true → p.block < w.heap.size := fun y p o ho hp hn => (h.m.pl y p o ho hp hn).2.2
  have hcell : ∀ j, (w.alloc (.cells cur T)).cell? ⟨w.heap.size, 0 + j, none⟩ = cur[j]? := fun j => by
    have e := heap_alloc_new w (.cells cur T)
    simp only [World.cell?, e]; simp
  have hrw := h.m.cons (w' := w.alloc (.cells cur T)) (o := ⟨T, s, ex, cells⟩) hx' hold (fun b hb => Below.heap_alloc w _ b hb) (by simp) (by constructor; intro j T' n' s' xs' b' cap' h1 h2; obtain ⟨q1, q2, q3, q4, q5⟩ := hf.fit h1 ((hcell j).symm.trans h2); exact ⟨q1, q2, q3, q4, fun {j' _ _ _ _ _} r1 r2 => q5 r1 ((hcell j').symm.trans r2)⟩)
    (fun _ {_ _ _ _ _ _ _ _} hr e => by have := (h.m.rs.ok hr).lt; simp only at e; omega) (fun _ {j _ _ _ _ _ _} h1 h2 e => by have := (hf.fit h1 ((hcell j).symm.trans h2)).1.lt; simp only at e; omega)
  refine ⟨fun y o ho => ?_, fun y hy => ?_, fun y p o ho hp hn => ?_, fun y z p p' o o' ho ho' hp hp' hn hn' hb => ?_, fun b hb => ?_, hrw.1, hrw.2, ?_⟩
  · by_cases e : y = x
    · subst e
      rw [get_cons_eq] at ho
      injection ho with ho; injection ho with ho
      subst ho
      refine ⟨_, hx', rfl, hl, fun he => ⟨rfl, rfl, hm he⟩, fun h => by simp at h, fun hn => ⟨cur, heap_alloc_new w _, by simp [hcur], fun _ => hcur, fun j z hj => ?_⟩⟩
      obtain ⟨u, hu, hru⟩ := hr j z hj
      exact ⟨u, by simpa using hu, hru.mono hρ hI⟩
    · rw [hgo y e] at ho
      exact (h.m.ow y o ho).mono hρ hI fun p hp hn => Below.heap_alloc w _ _ (hlt y p o ho hp hn)
  · by_cases e : y = x
    · subst e; rw [get_cons_eq] at hy; cases hy
    · rw [hgo y e] at hy; rw [hold y e]; exact h.m.fr y hy
  · by_cases e : y = x
    · subst e
      rw [hx'] at hp; injection hp with hp; subst hp
      exact ⟨fun hi => Nat.lt_irrefl _ (h.m.im _ hi), .inr h.m.fm.2.2.2.1, by simp⟩
    · rw [hgo y e] at ho; rw [hold y e] at hp
      obtain ⟨q1, q2, q3⟩ := h.m.pl y p o ho hp hn
      exact ⟨q1, q2, by simp; omega⟩
  · by_cases e : y = x <;> by_cases e' : z = x
    · rw [e, e']
    · subst e
      rw [hx'] at hp; injection hp with hp; subst hp
      rw [hgo z e'] at ho'; rw [hold z e'] at hp'
      have := hlt z p' o' ho' hp' hn'
      simp only at hb; omega
    · subst e'
      rw [hx'] at hp'; injection hp' with hp'; subst hp'
      rw [hgo y e] at ho; rw [hold y e] at hp
      have := hlt y p o ho hp hn
      simp only at hb; omega
    · rw [hgo y e] at ho; rw [hold y e] at hp; rw [hgo z e'] at ho'; rw [hold z e'] at hp'
      exact h.m.inj y z p p' o o' ho ho' hp hp' hn hn' hb
  · have := h.m.im b hb; simp; omega
  · obtain ⟨h1, h2, h3, h4, h5⟩ := h.m.fm
    exact ⟨h1, h2, h3, by simp; omega, fun b hlt ho => (Below.heap_alloc w _ b (by omega)).trans (h5 b hlt ho)⟩
/-- an object's content is written anew, its place kept -/
theorem Sat.write {Γ : Cx} {σ : St} {a : Act} {w : World} {ρ : Nat → Option Place} {I : Nat → Prop} (h : Sat Γ σ a w ρ I) {x : Nat} {o : Ob} (hx : get σ (.o x) = some (.o o)) {p : Place} (hp : ρ x = some p) (hn0 : p.live = true)
    {cur : Array Value} {cells : List A} (hl : cells.length ≤ p.cap * p.size) (hsz : p.base + p.cap * p.size ≤ cur.size) (hex : o.ex = true → cur.size = p.cap * p.size)
    (hr : ∀ (j : Nat) y, cells[j]? = some y → ∃ u, cur[p.base + j]? = some u ∧ RelA ρ I w y u)
    (hrow : ∀ (j : Nat) y, cells[j]? = some y → y.isRow = true → o.cells[j]? = some y ∧ w.cell? ⟨p.block, p.base + j, none⟩ = cur[p.base + j]?) :
    Sat Γ ((.o x, some (.o ⟨o.T, o.s, o.ex, cells⟩)) :: σ) a (w.setRow p.block cur) ρ I := by
  obtain ⟨hni, hbo, hlt⟩ := h.m.pl x p o hx hp hn0
  obtain ⟨p', hp', hps, hpl, hpe, hpz, hpx⟩ := h.m.ow x o hx
  rw [hp] at hp'; injection hp' with hp'; subst hp'
  obtain ⟨old, hold, _⟩ := hpx hn0
  have hother : ∀ b, b ≠ p.block → (w.setRow p.block cur).heap[b]? = w.heap[b]? := fun b hb => setRow_other w p.block b cur hb
  have hI : ∀ b, I b → I b ∧ (w.setRow p.block cur).heap[b]? = w.heap[b]? := fun b hb => ⟨hb, hother b (fun e => hni (e ▸ hb))⟩
  have hgs : ∀ k, get ((Key.o x, some (Cell.o ⟨o.T, o.s, o.ex, cells⟩)) :: σ) (.s k) = get σ (.s k) := fun k => get_cons_ne rfl
  have hgo : ∀ y, y ≠ x → get ((Key.o x, some (Cell.o ⟨o.T, o.s, o.ex, cells⟩)) :: σ) (.o y) = get σ (.o y) := fun y hy => get_cons_ne (key_neo (fun e => hy e.symm))
  have hsize : (w.setRow p.block cur).heap.size = w.heap.size := by simp
  have hst : ∀ y o', get ((Key.o x, some (Cell.o ⟨o.T, o.s, o.ex, cells⟩)) :: σ) (.o y) = some (.o o') → ∃ o'', get σ (.o y) = some (.o o'') := fun y o' hy => by
    by_cases e : y = x
    · exact ⟨o, e ▸ hx⟩
    · exact ⟨o', (hgo y e) ▸ hy⟩
  have hnew : (w.setRow p.block cur).heap[p.block]? = some (.cells cur o.T (0, 0)) := setRow_heap w p.block old cur _ _ hold
  have hin : ∀ {h' j T n s xs b cap}, RowIn ((Key.o x, some (Cell.o ⟨o.T, o.s, o.ex, cells⟩)) :: σ) (w.setRow p.block cur) ρ h' j T n s xs b cap → RowIn σ w ρ h' j T n s xs b cap := by
    rintro h' j T n s xs b cap ⟨o1, p1, h1, h2, h3, h4, h5⟩
    by_cases e : h' = x
    · subst e
      rw [get_cons_eq] at h1
      injection h1 with h1; injection h1 with h1
      subst h1
      rw [hp] at h2; injection h2 with h2; subst h2
      obtain ⟨q1, q2⟩ := hrow j _ h4 rfl
      refine ⟨o, p, hx, hp, h3, q1, q2.trans ?_⟩
      simp only [World.cell?, hnew] at h5
      exact h5
    · rw [hgo h' e] at h1
      refine ⟨o1, p1, h1, h2, h3, h4, ?_⟩
      rw [← World.cell?_of_block (w := w) (w' := w.setRow p.block cur) (hother _ fun e2 => e (h.m.inj h' x p1 p o1 o h1 hx h2 hp h3 hn0 e2))]
      exact h5
  have hrw : Rws ((Key.o x, some (Cell.o ⟨o.T, o.s, o.ex, cells⟩)) :: σ) (w.setRow p.block cur) ρ I := by
    refine h.m.rs.map (fun h j => (h, j)) hin (fun _ _ e => by injection e with e1 e2; exact ⟨e1, e2⟩) (fun hr => ⟨hother _ fun e => h.m.rs.sep hr hx hp hn0 e.symm, (h.m.rs.ok hr).ni, by rw [hsize]; exact (h.m.rs.ok hr).lt⟩) fun hr h1 h2 h3 => ?_
    obtain ⟨o'', ho''⟩ := hst _ _ h1
    exact h.m.rs.sep hr ho'' h2 h3
  refine ⟨h.n, h.d, (fun k x h' hk hg hh => h.fx k x h' hk ((hgs k) ▸ hg) hh), h.kp, fun k v hk => (h.sl k v ((hgs k) ▸ hk)).mono (fun _ _ h => h) hI, ?_⟩
  refine ⟨fun y o' ho => ?_, fun y hy => ?_, fun y q o' ho hq hn => ?_, fun y z q q' o' o'' ho ho' hq hq' hn hn' hb => ?_, fun b hb => by rw [hsize]; exact h.m.im b hb, hrw, fun hr => h.m.rp (hin hr), ?_⟩
  · by_cases e : y = x
    · subst e
      rw [get_cons_eq] at ho
      injection ho with ho; injection ho with ho
      subst ho
      refine ⟨p, hp, hps, hl, hpe, hpz, fun _ => ⟨cur, setRow_heap w p.block old cur _ _ hold, hsz, hex, fun j z hj => ?_⟩⟩
      obtain ⟨u, hu, hru⟩ := hr j z hj
      exact ⟨u, hu, hru.mono (fun _ _ h => h) hI⟩
    · rw [hgo y e] at ho
      refine (h.m.ow y o' ho).mono (fun _ _ h => h) hI fun q hq hn => hother _ fun e' => e ?_
      exact h.m.inj y x q p o' o ho hx hq hp hn hn0 e'
  · by_cases e : y = x
    · subst e; rw [get_cons_eq] at hy; cases hy
    · rw [hgo y e] at hy; exact h.m.fr y hy
  · obtain ⟨o'', ho''⟩ := hst y o' ho
    rw [hsize]
    exact h.m.pl y q o'' ho'' hq hn
  · obtain ⟨o1, ho1⟩ := hst y o' ho
    obtain ⟨o2, ho2⟩ := hst z o'' ho'
    exact h.m.inj y z q q' o1 o2 ho1 ho2 hq hq' hn hn' hb
  · obtain ⟨h1, h2, h3, h4, h5⟩ := h.m.fm
    refine ⟨h1, h2, h3, by rw [hsize]; exact h4, fun b hlt' ho => ?_⟩
    rw [hother b (fun e => ?_)]
    · exact h5 b hlt' ho
    · subst e
      rcases hbo with hb | hb
      · exact ho hb
      · omega
/-- what is known of a key is forgotten -/
theorem Sat.kill {Γ : Cx} {σ : St} {a : Act} {w : World} {ρ : Nat → Option Place} {I : Nat → Prop} (h : Sat Γ σ a w ρ I) (k : Key) : Sat Γ ((k, none) :: σ) a w ρ I := by
  have hg : ∀ k' c, get ((k, none) :: σ) k' = some c → get σ k' = some c := fun k' c hk => by
    simp only [get] at hk
    rcases Bool.eq_false_or_eq_true (Key.eq k k') with e | e <;> rw [e] at hk
    · cases hk
    · exact hk
  exact ⟨h.n, h.d, (fun k' x h' hk hg' hh => h.fx k' x h' hk (hg _ _ hg') hh), h.kp, fun k' v hk => h.sl k' v (hg _ _ hk), fun y o ho => h.m.ow y o (hg _ _ ho), fun y hy => h.m.fr y (hg _ _ hy), fun y p o ho => h.m.pl y p o (hg _ _ ho), fun y z p p' o o' ho ho' => h.m.inj y z p p' o o' (hg _ _ ho) (hg _ _ ho'), h.m.im, (h.m.rows0 fun x o ho => hg _ _ ho).1, (h.m.rows0 fun x o ho => hg _ _ ho).2, h.m.fm⟩
/-- a block that no live object holds is written -/
theorem Sat.scribble {Γ : Cx} {σ : St} {a : Act} {w : World} {ρ : Nat → Option Place} {I : Nat → Prop} (h : Sat Γ σ a w ρ I) {b : Nat} (hni : ¬ I b) (hbo : Γ.own b ∨ Γ.W.heap.size ≤ b)
    (hlive : ∀ y p o, get σ (.o y) = some (.o o) → ρ y = some p → p.live = true → p.block ≠ b) (hrow : ∀ {h j T n s xs b' cap}, RowIn σ w ρ h j T n s xs b' cap → b' ≠ b) (cur : Array Value) : Sat Γ σ a (w.setRow b cur) ρ I := by
  have hother : ∀ k, k ≠ b → (w.setRow b cur).heap[k]? = w.heap[k]? := fun k hk => setRow_other w b k cur hk
  have hI : ∀ k, I k → I k ∧ (w.setRow b cur).heap[k]? = w.heap[k]? := fun k hk => ⟨hk, hother k (fun e => hni (e ▸ hk))⟩
  have hsize : (w.setRow b cur).heap.size = w.heap.size := by simp
  have hrw := h.m.rows (τ := σ) (w' := w.setRow b cur) (ρ' := ρ) (I' := I) (fun _ _ h => h) (fun _ _ _ _ h => h) (fun y o p ho hp hn => hother _ (hlive y p o ho hp hn)) fun hr => ⟨hother _ (hrow hr), (h.m.rs.ok hr).ni, by rw [hsize]; exact (h.m.rs.ok hr).lt⟩
  refine ⟨h.n, h.d, h.fx, h.kp, fun k v hk => (h.sl k v hk).mono (fun _ _ h => h) hI, ?_⟩
  refine ⟨fun y o ho => (h.m.ow y o ho).mono (fun _ _ h => h) hI fun p hp hn => hother _ (hlive y p o ho hp hn), h.m.fr, fun y p o ho hp hn => by rw [hsize]; exact h.m.pl y p o ho hp hn, h.m.inj, fun k hk => by rw [hsize]; exact h.m.im k hk, hrw.1, hrw.2, ?_⟩
  obtain ⟨h1, h2, h3, h4, h5⟩ := h.m.fm
  refine ⟨h1, h2, h3, by rw [hsize]; exact h4, fun k hlt' ho => ?_⟩
  rw [hother k (fun e => ?_)]
  · exact h5 k hlt' ho
  · subst e
    rcases hbo with hb | hb
    · exact ho hb
    · omega
/-- a free name for a block that no live object holds -/
theorem Sat.adopt {Γ : Cx} {σ : St} {a : Act} {w : World} {ρ : Nat → Option Place} {I : Nat → Prop} (h : Sat Γ σ a w ρ I) {x : Nat} (hx : get σ (.o x) = some .free) {p : Place} {o : Ob}
    (hs : p.size = o.s) (hl : o.cells.length ≤ p.cap * p.size) (he : o.ex = true → p.x = true ∧ p.base = 0 ∧ p.cap ≤ maxLen) (hz : p.live = false → p.cap = 0)
    (hb : p.live = true → ¬ I p.block ∧ (Γ.own p.block ∨ Γ.W.heap.size ≤ p.block) ∧ p.block < w.heap.size ∧ (∀ y q o, get σ (.o y) = some (.o o) → ρ y = some q → q.live = true → q.block ≠ p.block) ∧
      ∃ cur, w.heap[p.block]? = some (.cells cur o.T (0, 0)) ∧ p.base + p.cap * p.size ≤ cur.size ∧ (o.ex = true → cur.size = p.cap * p.size) ∧ ∀ (j : Nat) y, o.cells[j]? = some y → ∃ u, cur[p.base + j]? = some u ∧ RelA ρ I w y u)
    (hf : RowFit Γ σ w ρ I o.cells (fun j => w.cell? ⟨p.block, p.base + j, none⟩)) (hpb : p.live = true → ∀ {h j T n s xs b cap}, RowIn σ w ρ h j T n s xs b cap → p.block ≠ b)
    (hself : p.live = true → ∀ {j T n s xs b cap}, o.cells[j]? = some (.row T n s xs) → w.cell? ⟨p.block, p.base + j, none⟩ = some (.slice (some ⟨b, 0, none⟩) n cap) → p.block ≠ b) :
    ∃ ρ', (∀ h p, ρ h = some p → ρ' h = some p) ∧ ρ' x = some p ∧ Sat Γ ((.o x, some (.o o)) :: σ) a w ρ' I := by
  have hfree := h.m.fr x hx
  let ρ' : Nat → Option Place := fun y => if y = x then some p else ρ y
  have hρ : ∀ h p, ρ h = some p → ρ' h = some p := fun y q hy => by
    have : y ≠ x := fun e => by rw [e, hfree] at hy; cases hy
    simp [ρ', this, hy]
  have hx' : ρ' x = some p := by simp [ρ']
  have hI : ∀ b, I b → I b ∧ w.heap[b]? = w.heap[b]? := fun b hb => ⟨hb, rfl⟩
  have hgs : ∀ k, get ((Key.o x, some (Cell.o o)) :: σ) (.s k) = get σ (.s k) := fun k => get_cons_ne rfl
  have hgo : ∀ y, y ≠ x → get ((Key.o x, some (Cell.o o)) :: σ) (.o y) = get σ (.o y) := fun y hy => get_cons_ne (key_neo (fun e => hy e.symm))
  have hold : ∀ y, y ≠ x → ρ' y = ρ y := fun y hy => by simp [ρ', hy]
  have hrw := h.m.cons (w' := w) (o := o) hx' hold (fun _ _ => rfl) (Nat.le_refl _) hf hpb hself
  refine ⟨ρ', hρ, hx', h.n, h.d, (fun k x h' hk hg hh => by obtain ⟨q, e1, e2⟩ := h.fx k x h' hk ((hgs k) ▸ hg) hh; exact ⟨q, e1, hρ _ _ e2⟩), h.kp.mono hρ, fun k v hk => (h.sl k v ((hgs k) ▸ hk)).mono hρ hI, ?_⟩
  refine ⟨fun y o' ho => ?_, fun y hy => ?_, fun y q o' ho hq hn => ?_, fun y z q q' o' o'' ho ho' hq hq' hn hn' hbb => ?_, h.m.im, hrw.1, hrw.2, h.m.fm⟩
  · by_cases e : y = x
    · subst e
      rw [get_cons_eq] at ho
      injection ho with ho; injection ho with ho
      subst ho
      refine ⟨p, hx', hs, hl, he, hz, fun hn => ?_⟩
      obtain ⟨_, _, _, _, cur, c1, c2, c3, c4⟩ := hb hn
      refine ⟨cur, c1, c2, c3, fun j z hj => ?_⟩
      obtain ⟨u, hu, hr⟩ := c4 j z hj
      exact ⟨u, hu, hr.mono hρ hI⟩
    · rw [hgo y e] at ho
      exact (h.m.ow y o' ho).mono hρ hI fun _ _ _ => rfl
  · by_cases e : y = x
    · subst e; rw [get_cons_eq] at hy; cases hy
    · rw [hgo y e] at hy; rw [hold y e]; exact h.m.fr y hy
  · by_cases e : y = x
    · subst e
      rw [hx'] at hq; injection hq with hq; subst hq
      obtain ⟨b1, b2, b3, _⟩ := hb hn
      exact ⟨b1, b2, b3⟩
    · rw [hgo y e] at ho; rw [hold y e] at hq
      exact h.m.pl y q o' ho hq hn
  · by_cases e : y = x <;> by_cases e' : z = x
    · rw [e, e']
    · subst e
      rw [hx'] at hq; injection hq with hq; subst hq
      rw [hgo z e'] at ho'; rw [hold z e'] at hq'
      exact absurd hbb.symm ((hb hn).2.2.2.1 z q' o'' ho' hq' hn')
    · subst e'
      rw [hx'] at hq'; injection hq' with hq'; subst hq'
      rw [hgo y e] at ho; rw [hold y e] at hq
      exact absurd hbb ((hb hn').2.2.2.1 y q o' ho hq hn)
    · rw [hgo y e] at ho; rw [hold y e] at hq; rw [hgo z e'] at ho'; rw [hold z e'] at hq'
      exact h.m.inj y z q q' o' o'' ho ho' hq hq' hn hn' hbb
theorem Sat.get_kill {σ : St} {h y : Nat} {c : Cell} (hy : get ((.o h, none) :: σ) (.o y) = some c) : y ≠ h ∧ get σ (.o y) = some c := by
  by_cases e : y = h
  · subst e; rw [get_cons_eq] at hy; cases hy
  · rw [get_cons_ne (key_neo (fun e' => e e'.symm))] at hy
    exact ⟨e, hy⟩
theorem RowIn.back {Γ : Cx} {σ : St} {w w' : World} {ρ : Nat → Option Place} {I : Nat → Prop} (H : Mem Γ σ w ρ I) (hw : ∀ b, b < w.heap.size → w'.heap[b]? = w.heap[b]?)
    {y j T n s : Nat} {xs : List Value} {b cap : Nat} (hr : RowIn σ w' ρ y j T n s xs b cap) : RowIn σ w ρ y j T n s xs b cap := by
  obtain ⟨o1, p1, h1, h2, h3, h4, h5⟩ := hr
  exact ⟨o1, p1, h1, h2, h3, h4, by rw [← World.cell?_of_block (w := w) (w' := w') (hw _ (H.pl y p1 o1 h1 h2 h3).2.2)]; exact h5⟩
theorem RowIn.unkill {Γ : Cx} {σ : St} {w w' : World} {ρ : Nat → Option Place} {I : Nat → Prop} (H : Mem Γ σ w ρ I) {h : Nat} {o : Ob} {p : Place} (ho : get σ (.o h) = some (.o o)) (hp : ρ h = some p) (hl : p.live = true) (hw : ∀ b, b < w.heap.size → b ≠ p.block → w'.heap[b]? = w.heap[b]?)
    {y j T n s : Nat} {xs : List Value} {b cap : Nat} (hr : RowIn ((.o h, none) :: σ) w' ρ y j T n s xs b cap) : y ≠ h ∧ RowIn σ w ρ y j T n s xs b cap := by
  obtain ⟨o1, p1, h1, h2, h3, h4, h5⟩ := hr
  obtain ⟨e, h1'⟩ := Sat.get_kill h1
  exact ⟨e, o1, p1, h1', h2, h3, h4, by rw [← World.cell?_of_block (w := w) (w' := w') (hw _ (H.pl y p1 o1 h1' h2 h3).2.2 fun e2 => e (H.inj y h p1 p o1 o h1' ho h2 hp h3 hl e2))]; exact h5⟩
/-- the rows of an object go over to another block -/
theorem RowFit.moved {Γ : Cx} {σ : St} {w w' : World} {ρ : Nat → Option Place} {I : Nat → Prop} (H : Mem Γ σ w ρ I) {h : Nat} {o : Ob} {p : Place} (ho : get σ (.o h) = some (.o o)) (hp : ρ h = some p) (hl : p.live = true) (hw : ∀ b, b < w.heap.size → b ≠ p.block → w'.heap[b]? = w.heap[b]?) (hsz : w.heap.size ≤ w'.heap.size)
    {d : Nat} {zs : List A} {val : Nat → Option Value} (hz : ∀ (j : Nat) y v, zs[j]? = some y → y.isRow = true → val j = some v → o.cells[d + j]? = some y ∧ w.cell? ⟨p.block, p.base + (d + j), none⟩ = some v) :
    RowFit Γ ((.o h, none) :: σ) w' ρ I zs val ∧ ∀ {j T n s xs b cap}, zs[j]? = some (.row T n s xs) → val j = some (.slice (some ⟨b, 0, none⟩) n cap) → p.block ≠ b := by
  have key : ∀ {j T n s xs b cap}, zs[j]? = some (.row T n s xs) → val j = some (.slice (some ⟨b, 0, none⟩) n cap) → RowIn σ w ρ h (d + j) T n s xs b cap := by
    intro j T n s xs b cap h1 h2
    obtain ⟨q1, q2⟩ := hz j _ _ h1 rfl h2
    exact ⟨o, p, ho, hp, hl, q1, q2⟩
  refine ⟨⟨?_⟩, fun h1 h2 => H.rs.sep (key h1 h2) ho hp hl⟩
  intro j T n s xs b cap h1 h2
  have hr := key h1 h2
  have hne := H.rs.sep hr ho hp hl
  obtain ⟨⟨cur, c1, c2, c3⟩, k2, k3, k4, k5, k6⟩ := H.rs.ok hr
  refine ⟨⟨⟨cur, (hw b k6 (fun e => hne e.symm)).trans c1, c2, c3⟩, k2, k3, k4, k5, Nat.lt_of_lt_of_le k6 hsz⟩, H.rp hr, fun g1 g2 g3 => H.rs.sep hr (Sat.get_kill g1).2 g2 g3, fun {y _ _ _ _ _ _} hr2 => ?_, fun {j' _ _ _ _ _} r1 r2 => ?_⟩
  · obtain ⟨e, hr3⟩ := RowIn.unkill H ho hp hl hw hr2
    exact e (H.rs.inj hr hr3).1
  · have := (H.rs.inj hr (key r1 r2)).2
    omega
end Cl
end Go.Proofs.Ytgmckbchcpfhcaa
