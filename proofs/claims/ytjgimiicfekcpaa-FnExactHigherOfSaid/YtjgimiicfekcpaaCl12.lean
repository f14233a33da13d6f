
/- More words for the printed walks over clean states. -/
import Derived.Test.YtjgimiicfekcpaaCl11
namespace Go.Proofs.Ytjgimiicfekcpaa
namespace Cl
open Go.ChangeShapes Go.WideShapes Go.ChangeAt Go.RowKit

def gets (σ : St) (R : List (Key × Cell)) : List (Option Cell) := R.map fun kv => get σ kv.1
def wants (R : List (Key × Cell)) : List (Option Cell) := R.map fun kv => some kv.2
theorem reads_of {σ : St} {R : List (Key × Cell)} (h : gets σ R = wants R) : Reads σ R := by
  induction R with
  | nil => trivial
  | cons a R ih =>
    simp only [gets, wants, List.map_cons, List.cons.injEq] at h
    exact ⟨h.1, ih h.2⟩
theorem wpc {Γ : Cx} {ops : Array Oper} {o : Oper} {rest : List Oper} {K : Exit → St → Prop} {σ : St} {R : List (Key × Cell)} {W : St} (h : StepOk Γ ops o R W) (hR : gets σ R = wants R) (hr : WpL Γ ops rest K (W ++ σ)) : WpL Γ ops (o :: rest) K σ :=
  wpl_cons h (reads_of hR) hr
def trgets : Tr → St → List (List (Option Cell))
  | [], _ => []
  | (R, W) :: r, σ => gets σ R :: trgets r (W ++ σ)
theorem trreads_of {tr : Tr} {σ : St} (h : trgets tr σ = tr.map fun x => wants x.1) : TrReads tr σ := by
  induction tr generalizing σ with
  | nil => trivial
  | cons a tr ih =>
    obtain ⟨R, W⟩ := a
    simp only [trgets, List.map_cons, List.cons.injEq] at h
    exact ⟨reads_of h.1, ih h.2⟩
inductive AllSteps (Γ : Cx) (ops : Array Oper) : List Oper → Tr → Prop
  | nil : AllSteps Γ ops [] []
  | cons {o : Oper} {r : List Oper} {R : List (Key × Cell)} {W : St} {tr : Tr} (h : StepOk Γ ops o R W) (t : AllSteps Γ ops r tr) : AllSteps Γ ops (o :: r) ((R, W) :: tr)
theorem AllSteps.len {Γ : Cx} {ops : Array Oper} {l : List Oper} {tr : Tr} (h : AllSteps Γ ops l tr) : tr.length = l.length := by
  induction h with
  | nil => rfl
  | cons h t ih => simp [ih]
theorem AllSteps.at {Γ : Cx} {ops : Array Oper} {l : List Oper} {tr : Tr} (h : AllSteps Γ ops l tr) : ∀ (i : Nat) o R W, l[i]? = some o → tr[i]? = some (R, W) → StepOk Γ ops o R W := by
  induction h with
  | nil => intro i o R W h; simp at h
  | cons h t ih =>
    intro i o R W h1 h2
    cases i with
    | zero => simp at h1 h2; obtain ⟨rfl, rfl⟩ := h2; subst h1; exact h
    | succ i => exact ih i o R W (by simpa using h1) (by simpa using h2)
theorem wp_drawn' {Γ : Cx} {id : Nat} {l : List Oper} {K : Exit → St → Prop} {σ : St} {tr : Tr} (hm : Γ.P.follows .mixedOrders = true) (hst : AllSteps Γ l.toArray l tr) (hr : trgets tr σ = tr.map fun x => wants x.1) (hd : okDeps l = true)
    (hp : okPairs (tr.map keysOf) (ancs l []) 0 [] = true) (hK : K .normal (after tr σ tr.length)) : Wp Γ (.region id l.toArray true) K σ := wp_drawn hm hst.len hst.at (trreads_of hr) hd hp hK
theorem wk_s {σ : St} {π : Nat → Nat} {F : List Nat} {k : Nat} {v v' : V} {r : St} (h1 : get σ (.s k) = some (.s v')) (h2 : v.ren π = v') (h3 : v.avd F = true) (h : Wk σ π F r) : Wk σ π F ((.s k, some (.s v)) :: r) := ⟨⟨v', h1, h2, h3⟩, h⟩
theorem wk_o {σ : St} {π : Nat → Nat} {F : List Nat} {x : Nat} {o o' : Ob} {r : St} (h1 : get σ (.o (π x)) = some (.o o')) (h2 : RenOb π F o o') (h3 : F.contains x = false) (h : Wk σ π F r) : Wk σ π F ((.o x, some (.o o)) :: r) := ⟨⟨o', h1, h2, h3⟩, h⟩
theorem wk_f {σ : St} {π : Nat → Nat} {F : List Nat} {x : Nat} {r : St} (h1 : F.contains x = true) (h : Wk σ π F r) : Wk σ π F ((.o x, some .free) :: r) := ⟨h1, h⟩
theorem quoN {a : Int} {b c : Nat} (h : a = (b : Int)) (hc : 0 < c) (hb : b ≤ 9223372036854775807) : IntKind.i64.wrap (a.tdiv (c : Int)) = ((b / c : Nat) : Int) := by
  subst h
  have e : ((b : Int)).tdiv (c : Int) = ((b / c : Nat) : Int) := rfl
  have hle : b / c ≤ b := Nat.div_le_self _ _
  rw [e]
  generalize b / c = q at hle ⊢
  exact w64 (by omega) (by omega)
theorem remN {a : Int} {b c : Nat} (h : a = (b : Int)) : a.tmod (c : Int) = ((b % c : Nat) : Int) := by subst h; rfl
theorem src_own {h n T s : Nat} {ex : Bool} {xs : List Value} (hl : xs.length = n * s) : Src (.sl h 0 n) [(.o h, .o ⟨T, s, ex, pl xs⟩)] s n (pl xs) :=
  Src.sl h 0 n ⟨T, s, ex, pl xs⟩ (pl xs) (by simp only [pl_len, hl]; omega) (by simp only [Nat.zero_mul, List.drop_zero]; exact List.take_of_length_le (by rw [pl_len, hl]; exact Nat.le_refl _))
theorem argv_own {t h n T s : Nat} {ex : Bool} {xs : List Value} (hl : xs.length = n * s) : ArgV (.tmp t) (.a (.slv n s xs)) [(.s t, .s (.b (.a (.sl h 0 n)))), (.o h, .o ⟨T, s, ex, pl xs⟩)] :=
  ArgV.sl t h 0 n (by omega) (by simp only [Nat.zero_mul, List.drop_zero]; exact List.take_of_length_le (by rw [hl]; exact Nat.le_refl _))
theorem isl_tk (l : List Int) (a b : Nat) : ((isl l).drop (a * 1)).take (b * 1) = isl ((l.drop a).take b) := by rw [isl_drop, isl_take]
theorem csl_tk (l : List Cel) (a b : Nat) : ((csl l).drop (a * 2)).take (b * 2) = csl ((l.drop a).take b) := by rw [csl_drop, csl_take]
section
variable {Γ : Cx} {d : Nat} {ty : TypeId} {pos : String} {af : Array Edge} {g : Option (Nat × Bool)}
theorem acts_off {x h off h2 n m nm t e s b : Nat} {z : Value} {y : Operand} {X : A} {xs ys vs zs : List Value} {R R' : List (Key × Cell)} {ex : Bool} (hN : Γ.ok d) (ht : Γ.P.underlying t = some (.slice e)) (hz : ZI Γ.P e z s b) (hzc : z.cells.size = s) (hs0 : 0 < s) (hb : b ≤ 1000)
    (hxl : xs.length = (off + n) * s) (hv : (xs.drop (off * s)).take (n * s) = vs) (hy : OpX y (.b (.a X)) R) (hsrc : Src X R' s m (pl ys)) (h1 : ∀ v ∈ ys, v.oneCell' = true) (hn : n + m ≤ 4194304) (hzs : vs ++ ys = zs) (hnm : n + m = nm) :
    Acts Γ ⟨some d, .call { callee := .builtin .append, args := #[.tmp x, y], argTypes := #[t, t] }, ty, pos, af, g⟩ ((.s x, .s (.b (.a (.sl h off n)))) :: (.o h, .o ⟨e, s, ex, pl xs⟩) :: (.o h2, .free) :: (R ++ R'))
      [(.s d, some (.s (.b (.a (.sl h2 0 nm))))), (.o h2, some (.o ⟨e, s, false, pl zs⟩)), (.o h, none)] := by
  obtain ⟨i, i1, i2, i3, i4⟩ := hz.get
  subst hnm
  refine acts_append (o := ⟨e, s, ex, pl xs⟩) (off := off) (xs := pl vs) (ys := pl ys) (zs := pl zs) (ex := false) hN ht i1 i2 (by rw [hzc, i3]) i3 hs0 rfl (by simp only [pl_len, hxl, Nat.add_mul]; omega) (by simp only; rw [pl_take_drop, hv]) (fun h => by cases h) hy hsrc (pl_one h1) (by unfold maxLen; omega) ?_ (by rw [← hzs, pl_append])
  rw [i4]; exact Nat.le_trans (Nat.mul_le_mul hn hb) (by decide)
theorem acts_app_ints {x h off h2 n m nm t e b : Nat} {z : Value} {y : Operand} {X : A} {L L2 : List Int} {R R' : List (Key × Cell)} {ex : Bool} (hN : Γ.ok d) (ht : Γ.P.underlying t = some (.slice e)) (hz : ZI Γ.P e z 1 b) (hl : L.length = off + n) (hy : OpX y (.b (.a X)) R) (hsrc : Src X R' 1 m (pl (isl L2))) (hn : n + m ≤ 4194304) (hnm : n + m = nm)
    (hzc : z.cells.size = 1 := by rfl) (hb : b ≤ 1000 := by decide) :
    Acts Γ ⟨some d, .call { callee := .builtin .append, args := #[.tmp x, y], argTypes := #[t, t] }, ty, pos, af, g⟩ ((.s x, .s (.b (.a (.sl h off n)))) :: (.o h, .o ⟨e, 1, ex, pl (isl L)⟩) :: (.o h2, .free) :: (R ++ R'))
      [(.s d, some (.s (.b (.a (.sl h2 0 nm))))), (.o h2, some (.o ⟨e, 1, false, pl (isl (L.drop off ++ L2))⟩)), (.o h, none)] :=
  acts_off hN ht hz hzc (by decide) hb (by rw [isl_len, hl]) (by rw [isl_tk, List.take_of_length_le (by simp; omega)]) hy hsrc (isl_one _) hn (by rw [isl_append]) hnm
theorem acts_app_cels {x h off h2 n m nm t e b : Nat} {z : Value} {y : Operand} {X : A} {L L2 : List Cel} {R R' : List (Key × Cell)} {ex : Bool} (hN : Γ.ok d) (ht : Γ.P.underlying t = some (.slice e)) (hz : ZI Γ.P e z 2 b) (hl : L.length = off + n) (hy : OpX y (.b (.a X)) R) (hsrc : Src X R' 2 m (pl (csl L2))) (hn : n + m ≤ 4194304) (hnm : n + m = nm)
    (hzc : z.cells.size = 2 := by rfl) (hb : b ≤ 1000 := by decide) :
    Acts Γ ⟨some d, .call { callee := .builtin .append, args := #[.tmp x, y], argTypes := #[t, t] }, ty, pos, af, g⟩ ((.s x, .s (.b (.a (.sl h off n)))) :: (.o h, .o ⟨e, 2, ex, pl (csl L)⟩) :: (.o h2, .free) :: (R ++ R'))
      [(.s d, some (.s (.b (.a (.sl h2 0 nm))))), (.o h2, some (.o ⟨e, 2, false, pl (csl (L.drop off ++ L2))⟩)), (.o h, none)] :=
  acts_off hN ht hz hzc (by decide) hb (by rw [csl_len, hl]) (by rw [csl_tk, List.take_of_length_le (by simp; omega)]) hy hsrc (csl_one' _) hn (by rw [csl_append]) hnm
theorem acts_min {x y : Operand} {a b c : Int} {tys : Array TypeId} {R R' : List (Key × Cell)} (hN : Γ.ok d) (hx : OpV x (.int .i64 a) R) (hy : OpV y (.int .i64 b) R') (h : (if b < a then b else a) = c) :
    Acts Γ ⟨some d, .call { callee := .builtin .min, args := #[x, y], argTypes := tys }, ty, pos, af, g⟩ (R ++ R') [(.s d, some (.s (V.v (.int .i64 c))))] :=
  Acts.pure rfl hN fun a' w ρ I hf => by
    refine ⟨.int .i64 c, ?_, rfl⟩
    simp only [execOp, resolve, List.map_toArray, List.map_cons, List.map_nil, hx.ev hf.left, hy.ev hf.right]
    subst h
    simp [invoke, builtin, Builtin.min_, Builtin.min2, go_sem]
theorem acts_max {x y : Operand} {a b c : Int} {tys : Array TypeId} {R R' : List (Key × Cell)} (hN : Γ.ok d) (hx : OpV x (.int .i64 a) R) (hy : OpV y (.int .i64 b) R') (h : (if b > a then b else a) = c) :
    Acts Γ ⟨some d, .call { callee := .builtin .max, args := #[x, y], argTypes := tys }, ty, pos, af, g⟩ (R ++ R') [(.s d, some (.s (V.v (.int .i64 c))))] :=
  Acts.pure rfl hN fun a' w ρ I hf => by
    refine ⟨.int .i64 c, ?_, rfl⟩
    simp only [execOp, resolve, List.map_toArray, List.map_cons, List.map_nil, hx.ev hf.left, hy.ev hf.right]
    subst h
    simp [invoke, builtin, Builtin.max_, Builtin.max2, go_sem]
end
theorem resok2_get {base : Nat} {w : World} {v : Value} {r1 r2 : RB} (h : ResOk base w v [r1, r2]) : ∃ v1 v2, v = .tuple #[v1, v2] ∧ RBok base w v1 r1 ∧ RBok base w v2 r2 := by
  obtain ⟨vs, rfl, hl, hx, _⟩ := h
  match vs, hl with
  | [v1, v2], _ => exact ⟨v1, v2, rfl, hx 0 _ _ rfl rfl, hx 1 _ _ rfl rfl⟩
theorem kit_rowv {P : Program} {f T s n : Nat} {bs : List B} {xs : List Value} {u : Value} {w : World} {args : List Value} (h : Fn P f bs [.row T s n xs, .val u]) (ha : ArgsR w bs args) : Calls P f args.toArray w fun e w' => ∃ v, e = .returned (.tuple #[v, u]) ∧ w'.ownsRow w.heap.size T s v n xs ∧ Below w.heap.size w w' :=
  (h.2 w args (args_iff.2 ha)).mono fun e w' h => by
    obtain ⟨t, he, hv, hb⟩ := h
    obtain ⟨v1, v2, rfl, h1, h2⟩ := resok2_get hv
    have h2' : v2 = u := h2
    subst h2'; exact ⟨v1, he, h1, hb⟩
theorem mk_slv' {w : World} {n m s c : Nat} {A : Option Addr} {xs : List Value} (h : Rd w s A n xs) (hc : n ≤ c) (hn : n = m) : RelB ρ0 (I0 w) w (.a (.slv m s xs)) (.slice A n c) := by subst hn; exact mk_slv h hc
theorem mk_regv' {w : World} {n m s c : Nat} {A : Option Addr} {xs : List Value} (h : Rd w s A n xs) (hc : n ≤ c) (hn : n = m) : RelB ρ0 (I0 w) w (.agg [.slv m s xs]) (.agg #[.slice A n c]) := by subst hn; exact mk_regv h hc
theorem args2 {w : World} {b1 b2 : B} {u1 u2 : Value} (h1 : RelB ρ0 (I0 w) w b1 u1) (h2 : RelB ρ0 (I0 w) w b2 u2) : ArgsR w [b1, b2] [u1, u2] := ⟨h1, h2, trivial⟩
theorem args3 {w : World} {b1 b2 b3 : B} {u1 u2 u3 : Value} (h1 : RelB ρ0 (I0 w) w b1 u1) (h2 : RelB ρ0 (I0 w) w b2 u2) (h3 : RelB ρ0 (I0 w) w b3 u3) : ArgsR w [b1, b2, b3] [u1, u2, u3] := ⟨h1, h2, h3, trivial⟩
theorem own_form3 {w : World} {base e size : Nat} {v : Value} {n : Nat} {xs : List Value} (h : w.ownsRow base e size v n xs) : ∃ A c, v = .slice A n c ∧ n ≤ c := by
  obtain ⟨A, c, h1, _, h2, _⟩ := own_form h
  exact ⟨A, c, h1, h2⟩
theorem bagg {σ : St} {vs ws : List Value} (h : vs = ws) : BRes σ (.agg (vs.map A.val)) (.val (.agg ws.toArray)) := by subst h; exact .agg vs
theorem bnil_doms {σ : St} {T : Nat} {L : List Dom} (h : L = []) : BRes σ (.a (.val (.slice none 0 0))) (.row T 3 L.length (dsl L)) := by subst h; exact .nil T 3
theorem bnil_cels {σ : St} {T : Nat} {L : List Cel} (h : L = []) : BRes σ (.a (.val (.slice none 0 0))) (.row T 2 L.length (csl L)) := by subst h; exact .nil T 2
theorem brow_ints {σ : St} {h n m T : Nat} {L L' : List Int} (hg : get σ (.o h) = some (.o ⟨T, 1, true, pl (isl L)⟩)) (e : L = L') (hn : n = L.length) (hm : m = L'.length := by rfl) : BRes σ (.a (.sl h 0 n)) (.row T 1 m (isl L')) := by
  subst e; subst hm; subst hn; exact .row h _ T 1 _ hg (by rw [isl_len])
theorem brow_doms {σ : St} {h n m T : Nat} {L L' : List Dom} (hg : get σ (.o h) = some (.o ⟨T, 3, true, pl (dsl L)⟩)) (e : L = L') (hn : n = L.length) (hm : m = L'.length := by rfl) : BRes σ (.a (.sl h 0 n)) (.row T 3 m (dsl L')) := by
  subst e; subst hm; subst hn; exact .row h _ T 3 _ hg (by rw [dsl_len])
theorem brow_cels {σ : St} {h n m T : Nat} {L L' : List Cel} (hg : get σ (.o h) = some (.o ⟨T, 2, true, pl (csl L)⟩)) (e : L = L') (hn : n = L.length) (hm : m = L'.length := by rfl) : BRes σ (.a (.sl h 0 n)) (.row T 2 m (csl L')) := by
  subst e; subst hm; subst hn; exact .row h _ T 2 _ hg (by rw [csl_len])
end Cl
end Go.Proofs.Ytjgimiicfekcpaa
