
/- More words for the printed walks over clean states. -/
import Derived.Test.YtgmckbchcpfhcaaCl11
namespace Go.Proofs.Ytgmckbchcpfhcaa
namespace Cl
open Go.ChangeShapes Go.WideShapes Go.ChangeAt Go.RowKit

theorem rnil {σ : St} : Reads σ [] := trivial
theorem rcons {σ : St} {k : Key} {c : Cell} {r : List (Key × Cell)} (h : get σ k = some c) (hr : Reads σ r) : Reads σ ((k, c) :: r) := ⟨h, hr⟩
def gets (σ : St) (R : List (Key × Cell)) : List (Option Cell) := R.map fun kv => get σ kv.1
def wants (R : List (Key × Cell)) : List (Option Cell) := R.map fun kv => some kv.2
theorem reads_of {σ : St} {R : List (Key × Cell)} (h : gets σ R = wants R) : Reads σ R := by
  induction R with
  | nil => trivial
  | cons a R ih =>
    simp only [gets, wants, List.map_cons, List.cons.injEq] at h
    exact ⟨h.1, ih h.2⟩
theorem wpc {Γ : Cx} {ops : Array Oper} {o : Oper} {rest : List Oper} {K : Exit → St → Prop} {σ : St} {R : List (Key × Cell)} {W : St} (h : StepOk Γ ops o R W) (hR : gets σ R = wants R) (hr : WpL Γ ops rest K (W ++ σ)) : WpL Γ ops (o :: rest) K σ :=
  wpl_cons h (reads_of hR) hr
def trgets : Tr → St → List (List (Option Cell))
  | [], _ => []
  | (R, W) :: r, σ => gets σ R :: trgets r (W ++ σ)
theorem trreads_of {tr : Tr} {σ : St} (h : trgets tr σ = tr.map fun x => wants x.1) : TrReads tr σ := by
  induction tr generalizing σ with
  | nil => trivial
  | cons a tr ih =>
    obtain ⟨R, W⟩ := a
    simp only [trgets, List.map_cons, List.cons.injEq] at h
    exact ⟨reads_of h.1, ih h.2⟩
inductive AllSteps (Γ : Cx) (ops : Array Oper) : List Oper → Tr → Prop
  | nil : AllSteps Γ ops [] []
  | cons {o : Oper} {r : List Oper} {R : List (Key × Cell)} {W : St} {tr : Tr} (h : StepOk Γ ops o R W) (t : AllSteps Γ ops r tr) : AllSteps Γ ops (o :: r) ((R, W) :: tr)
theorem AllSteps.len {Γ : Cx} {ops : Array Oper} {l : List Oper} {tr : Tr} (h : AllSteps Γ ops l tr) : tr.length = l.length := by
  induction h with
  | nil => rfl
  | cons h t ih => simp [ih]
theorem AllSteps.at {Γ : Cx} {ops : Array Oper} {l : List Oper} {tr : Tr} (h : AllSteps Γ ops l tr) : ∀ (i : Nat) o R W, l[i]? = some o → tr[i]? = some (R, W) → StepOk Γ ops o R W := by
  induction h with
  | nil => intro i o R W h; simp at h
  | cons h t ih =>
    intro i o R W h1 h2
    cases i with
    | zero => simp at h1 h2; obtain ⟨rfl, rfl⟩ := h2; subst h1; exact h
    | succ i => exact ih i o R W (by simpa using h1) (by simpa using h2)
theorem trnil {σ : St} : TrReads [] σ := trivial
theorem trcons {σ : St} {R : List (Key × Cell)} {W : St} {r : Tr} (h : Reads σ R) (hr : TrReads r (W ++ σ)) : TrReads ((R, W) :: r) σ := ⟨h, hr⟩
theorem wp_drawn' {Γ : Cx} {id : Nat} {l : List Oper} {K : Exit → St → Prop} {σ : St} {tr : Tr} (hm : Γ.P.follows .mixedOrders = true) (hst : AllSteps Γ l.toArray l tr) (hr : trgets tr σ = tr.map fun x => wants x.1) (hd : okDeps l = true)
    (hp : okPairs (tr.map keysOf) (ancs l []) 0 [] = true) (hK : K .normal (after tr σ tr.length)) : Wp Γ (.region id l.toArray true) K σ := wp_drawn hm hst.len hst.at (trreads_of hr) hd hp hK
theorem wk_nil {σ : St} {π : Nat → Nat} {F : List Nat} : Wk σ π F [] := trivial
theorem wk_s {σ : St} {π : Nat → Nat} {F : List Nat} {k : Nat} {v v' : V} {r : St} (h1 : get σ (.s k) = some (.s v')) (h2 : v.ren π = v') (h3 : v.avd F = true) (h : Wk σ π F r) : Wk σ π F ((.s k, some (.s v)) :: r) := ⟨⟨v', h1, h2, h3⟩, h⟩
theorem wk_o {σ : St} {π : Nat → Nat} {F : List Nat} {x : Nat} {o o' : Ob} {r : St} (h1 : get σ (.o (π x)) = some (.o o')) (h2 : RenOb π F o o') (h3 : F.contains x = false) (h : Wk σ π F r) : Wk σ π F ((.o x, some (.o o)) :: r) := ⟨⟨o', h1, h2, h3⟩, h⟩
theorem wk_f {σ : St} {π : Nat → Nat} {F : List Nat} {x : Nat} {r : St} (h1 : F.contains x = true) (h : Wk σ π F r) : Wk σ π F ((.o x, some .free) :: r) := ⟨h1, h⟩
theorem quoN {a : Int} {b c : Nat} (h : a = (b : Int)) (hc : 0 < c) (hb : b ≤ 9223372036854775807) : IntKind.i64.wrap (a.tdiv (c : Int)) = ((b / c : Nat) : Int) := by
  subst h
  have e : ((b : Int)).tdiv (c : Int) = ((b / c : Nat) : Int) := rfl
  have hle : b / c ≤ b := Nat.div_le_self _ _
  rw [e]
  generalize b / c = q at hle ⊢
  exact w64 (by omega) (by omega)
theorem remN {a : Int} {b c : Nat} (h : a = (b : Int)) : a.tmod (c : Int) = ((b % c : Nat) : Int) := by subst h; rfl
theorem quoI {a b : Int} (ha : 0 ≤ a) (hb : 0 < b) (h : a ≤ 9223372036854775807) : IntKind.i64.wrap (a.tdiv b) = a / b := by
  rw [Int.tdiv_eq_ediv_of_nonneg ha]
  have h1 : 0 ≤ a / b := Int.ediv_nonneg ha (Int.le_of_lt hb)
  have h2 : a / b ≤ a := Int.ediv_le_self _ ha
  exact w64 (by omega) (by omega)
theorem remI {a b : Int} (ha : 0 ≤ a) : a.tmod b = a % b := Int.tmod_eq_emod_of_nonneg ha
theorem ne_of_eqb {a b : Int} {x : Bool} (h : decide (a = b) = x) : decide (a ≠ b) = !x := by subst h; simp
theorem dec_neg {p q : Prop} [Decidable p] [Decidable q] {x : Bool} (hpq : p ↔ ¬ q) (h : decide q = x) : decide p = !x := by subst h; rw [Bool.eq_iff_iff]; simp [hpq]
theorem src_own {h n T s : Nat} {ex : Bool} {xs : List Value} (hl : xs.length = n * s) : Src (.sl h 0 n) [(.o h, .o ⟨T, s, ex, pl xs⟩)] s n (pl xs) :=
  Src.sl h 0 n ⟨T, s, ex, pl xs⟩ (pl xs) (by simp only [pl_len, hl]; omega) (by simp only [Nat.zero_mul, List.drop_zero]; exact List.take_of_length_le (by rw [pl_len, hl]; exact Nat.le_refl _))
theorem argv_own {t h n T s : Nat} {ex : Bool} {xs : List Value} (hl : xs.length = n * s) : ArgV (.tmp t) (.a (.slv n s xs)) [(.s t, .s (.b (.a (.sl h 0 n)))), (.o h, .o ⟨T, s, ex, pl xs⟩)] :=
  ArgV.sl t h 0 n (by omega) (by simp only [Nat.zero_mul, List.drop_zero]; exact List.take_of_length_le (by rw [hl]; exact Nat.le_refl _))
theorem isl_tk (l : List Int) (a b : Nat) : ((isl l).drop (a * 1)).take (b * 1) = isl ((l.drop a).take b) := by rw [isl_drop, isl_take]
theorem dsl_tk (l : List Dom) (a b : Nat) : ((dsl l).drop (a * 3)).take (b * 3) = dsl ((l.drop a).take b) := by rw [dsl_drop, dsl_take]
theorem csl_tk (l : List Cel) (a b : Nat) : ((csl l).drop (a * 2)).take (b * 2) = csl ((l.drop a).take b) := by rw [csl_drop, csl_take]
theorem slice_ints (l : List Int) (a b : Nat) : ((isl l).drop (a * 1)).take (b * 1) = isl ((l.drop a).take b) := isl_tk l a b
theorem slice_doms (l : List Dom) (a b : Nat) : ((dsl l).drop (a * 3)).take (b * 3) = dsl ((l.drop a).take b) := dsl_tk l a b
theorem slice_cels (l : List Cel) (a b : Nat) : ((csl l).drop (a * 2)).take (b * 2) = csl ((l.drop a).take b) := csl_tk l a b
theorem sub_ints_take (l : List Int) (h : Nat) : ((isl l).drop (0 * 1)).take ((l.take h).length * 1) = isl (l.take h) := by
  rw [isl_tk, List.drop_zero, List.length_take, ← List.take_eq_take_min]
theorem sub_ints_drop (l : List Int) (h : Nat) : ((isl l).drop (h * 1)).take ((l.drop h).length * 1) = isl (l.drop h) := by
  rw [isl_tk, List.take_of_length_le (Nat.le_refl _)]
theorem sub_doms_take (l : List Dom) (h : Nat) : ((dsl l).drop (0 * 3)).take ((l.take h).length * 3) = dsl (l.take h) := by
  rw [dsl_tk, List.drop_zero, List.length_take, ← List.take_eq_take_min]
theorem sub_doms_drop (l : List Dom) (h : Nat) : ((dsl l).drop (h * 3)).take ((l.drop h).length * 3) = dsl (l.drop h) := by
  rw [dsl_tk, List.take_of_length_le (Nat.le_refl _)]
theorem sub_cels_take (l : List Cel) (h : Nat) : ((csl l).drop (0 * 2)).take ((l.take h).length * 2) = csl (l.take h) := by
  rw [csl_tk, List.drop_zero, List.length_take, ← List.take_eq_take_min]
theorem sub_cels_drop (l : List Cel) (h : Nat) : ((csl l).drop (h * 2)).take ((l.drop h).length * 2) = csl (l.drop h) := by
  rw [csl_tk, List.take_of_length_le (Nat.le_refl _)]
theorem argv_sub_ints {t h off n T : Nat} {ex : Bool} {L : List Int} (hl : off + n ≤ L.length) : ArgV (.tmp t) (.a (.slv n 1 (isl ((L.drop off).take n)))) [(.s t, .s (.b (.a (.sl h off n)))), (.o h, .o ⟨T, 1, ex, pl (isl L)⟩)] :=
  ArgV.sl t h off n (by rw [isl_len]; omega) (isl_tk L off n)
theorem argv_sub_doms {t h off n T : Nat} {ex : Bool} {L : List Dom} (hl : off + n ≤ L.length) : ArgV (.tmp t) (.a (.slv n 3 (dsl ((L.drop off).take n)))) [(.s t, .s (.b (.a (.sl h off n)))), (.o h, .o ⟨T, 3, ex, pl (dsl L)⟩)] :=
  ArgV.sl t h off n (by rw [dsl_len]; omega) (dsl_tk L off n)
theorem argv_sub_cels {t h off n T : Nat} {ex : Bool} {L : List Cel} (hl : off + n ≤ L.length) : ArgV (.tmp t) (.a (.slv n 2 (csl ((L.drop off).take n)))) [(.s t, .s (.b (.a (.sl h off n)))), (.o h, .o ⟨T, 2, ex, pl (csl L)⟩)] :=
  ArgV.sl t h off n (by rw [csl_len]; omega) (csl_tk L off n)
section
variable {Γ : Cx} {d : Nat} {ty : TypeId} {pos : String} {af : Array Edge} {g : Option (Nat × Bool)}
theorem acts_off {x h off h2 n m nm t e s b : Nat} {z : Value} {y : Operand} {X : A} {xs ys vs zs : List Value} {R R' : List (Key × Cell)} {ex : Bool} (hN : Γ.ok d) (ht : Γ.P.underlying t = some (.slice e)) (hz : ZI Γ.P e z s b) (hzc : z.cells.size = s) (hs0 : 0 < s) (hb : b ≤ 1000)
    (hxl : xs.length = (off + n) * s) (hv : (xs.drop (off * s)).take (n * s) = vs) (hy : OpX y (.b (.a X)) R) (hsrc : Src X R' s m (pl ys)) (h1 : ∀ v ∈ ys, v.oneCell' = true) (hn : n + m ≤ 4194304) (hzs : vs ++ ys = zs) (hnm : n + m = nm) :
    Acts Γ ⟨some d, .call { callee := .builtin .append, args := #[.tmp x, y], argTypes := #[t, t] }, ty, pos, af, g⟩ ((.s x, .s (.b (.a (.sl h off n)))) :: (.o h, .o ⟨e, s, ex, pl xs⟩) :: (.o h2, .free) :: (R ++ R'))
      [(.s d, some (.s (.b (.a (.sl h2 0 nm))))), (.o h2, some (.o ⟨e, s, false, pl zs⟩)), (.o h, none)] := by
  obtain ⟨i, i1, i2, i3, i4⟩ := hz.get
  subst hnm
  refine acts_append (o := ⟨e, s, ex, pl xs⟩) (off := off) (xs := pl vs) (ys := pl ys) (zs := pl zs) (ex := false) hN ht i1 i2 (by rw [hzc, i3]) i3 hs0 rfl (by simp only [pl_len, hxl, Nat.add_mul]; omega) (by simp only; rw [pl_take_drop, hv]) (fun h => by cases h) hy hsrc (pl_one h1) (by unfold maxLen; omega) ?_ (by rw [← hzs, pl_append])
  rw [i4]; exact Nat.le_trans (Nat.mul_le_mul hn hb) (by decide)
theorem acts_app_ints {x h off h2 n m nm t e b : Nat} {z : Value} {y : Operand} {X : A} {L L2 : List Int} {R R' : List (Key × Cell)} {ex : Bool} (hN : Γ.ok d) (ht : Γ.P.underlying t = some (.slice e)) (hz : ZI Γ.P e z 1 b) (hl : L.length = off + n) (hy : OpX y (.b (.a X)) R) (hsrc : Src X R' 1 m (pl (isl L2))) (hn : n + m ≤ 4194304) (hnm : n + m = nm)
    (hzc : z.cells.size = 1 := by rfl) (hb : b ≤ 1000 := by decide) :
    Acts Γ ⟨some d, .call { callee := .builtin .append, args := #[.tmp x, y], argTypes := #[t, t] }, ty, pos, af, g⟩ ((.s x, .s (.b (.a (.sl h off n)))) :: (.o h, .o ⟨e, 1, ex, pl (isl L)⟩) :: (.o h2, .free) :: (R ++ R'))
      [(.s d, some (.s (.b (.a (.sl h2 0 nm))))), (.o h2, some (.o ⟨e, 1, false, pl (isl (L.drop off ++ L2))⟩)), (.o h, none)] :=
  acts_off hN ht hz hzc (by decide) hb (by rw [isl_len, hl]) (by rw [isl_tk, List.take_of_length_le (by simp; omega)]) hy hsrc (isl_one _) hn (by rw [isl_append]) hnm
theorem acts_app_cels {x h off h2 n m nm t e b : Nat} {z : Value} {y : Operand} {X : A} {L L2 : List Cel} {R R' : List (Key × Cell)} {ex : Bool} (hN : Γ.ok d) (ht : Γ.P.underlying t = some (.slice e)) (hz : ZI Γ.P e z 2 b) (hl : L.length = off + n) (hy : OpX y (.b (.a X)) R) (hsrc : Src X R' 2 m (pl (csl L2))) (hn : n + m ≤ 4194304) (hnm : n + m = nm)
    (hzc : z.cells.size = 2 := by rfl) (hb : b ≤ 1000 := by decide) :
    Acts Γ ⟨some d, .call { callee := .builtin .append, args := #[.tmp x, y], argTypes := #[t, t] }, ty, pos, af, g⟩ ((.s x, .s (.b (.a (.sl h off n)))) :: (.o h, .o ⟨e, 2, ex, pl (csl L)⟩) :: (.o h2, .free) :: (R ++ R'))
      [(.s d, some (.s (.b (.a (.sl h2 0 nm))))), (.o h2, some (.o ⟨e, 2, false, pl (csl (L.drop off ++ L2))⟩)), (.o h, none)] :=
  acts_off hN ht hz hzc (by decide) hb (by rw [csl_len, hl]) (by rw [csl_tk, List.take_of_length_le (by simp; omega)]) hy hsrc (csl_one' _) hn (by rw [csl_append]) hnm
theorem acts_min {x y : Operand} {a b c : Int} {tys : Array TypeId} {R R' : List (Key × Cell)} (hN : Γ.ok d) (hx : OpV x (.int .i64 a) R) (hy : OpV y (.int .i64 b) R') (h : (if b < a then b else a) = c) :
    Acts Γ ⟨some d, .call { callee := .builtin .min, args := #[x, y], argTypes := tys }, ty, pos, af, g⟩ (R ++ R') [(.s d, some (.s (V.v (.int .i64 c))))] :=
  Acts.pure rfl hN fun a' w ρ I hf => by
    refine ⟨.int .i64 c, ?_, rfl⟩
    simp only [execOp, resolve, List.map_toArray, List.map_cons, List.map_nil, hx.ev hf.left, hy.ev hf.right]
    subst h
    simp [invoke, builtin, Builtin.min_, Builtin.min2, go_sem]
theorem acts_max {x y : Operand} {a b c : Int} {tys : Array TypeId} {R R' : List (Key × Cell)} (hN : Γ.ok d) (hx : OpV x (.int .i64 a) R) (hy : OpV y (.int .i64 b) R') (h : (if b > a then b else a) = c) :
    Acts Γ ⟨some d, .call { callee := .builtin .max, args := #[x, y], argTypes := tys }, ty, pos, af, g⟩ (R ++ R') [(.s d, some (.s (V.v (.int .i64 c))))] :=
  Acts.pure rfl hN fun a' w ρ I hf => by
    refine ⟨.int .i64 c, ?_, rfl⟩
    simp only [execOp, resolve, List.map_toArray, List.map_cons, List.map_nil, hx.ev hf.left, hy.ev hf.right]
    subst h
    simp [invoke, builtin, Builtin.max_, Builtin.max2, go_sem]
end
theorem resok2 {base : Nat} {w : World} {v1 v2 : Value} {r1 r2 : RB} (h1 : RBok base w v1 r1) (h2 : RBok base w v2 r2) (hn : v2.ownBlock = none) : ResOk base w (.tuple #[v1, v2]) [r1, r2] := by
  refine ⟨[v1, v2], rfl, rfl, fun j r u e1 e2 => ?_, fun j j' u u' hj e1 e2 => ?_⟩
  · match j, e1, e2 with
    | 0, e1, e2 => simp at e1 e2; subst e1; subst e2; exact h1
    | 1, e1, e2 => simp at e1 e2; subst e1; subst e2; exact h2
  · match j, j', hj, e1, e2 with
    | 0, 0, hj, _, _ => exact absurd rfl hj
    | 0, 1, _, e1, e2 =>
      simp at e1 e2; subst e1; subst e2
      rw [hn]
      cases v1.ownBlock
      · exact .inl rfl
      · exact .inr (by simp)
    | 1, _, _, e1, e2 => simp at e1; subst e1; exact .inl hn
theorem resok2_get {base : Nat} {w : World} {v : Value} {r1 r2 : RB} (h : ResOk base w v [r1, r2]) : ∃ v1 v2, v = .tuple #[v1, v2] ∧ RBok base w v1 r1 ∧ RBok base w v2 r2 := by
  obtain ⟨vs, rfl, hl, hx, _⟩ := h
  match vs, hl with
  | [v1, v2], _ => exact ⟨v1, v2, rfl, hx 0 _ _ rfl rfl, hx 1 _ _ rfl rfl⟩
theorem kit_v {P : Program} {f : Nat} {bs : List B} {v : Value} {w : World} {args : List Value} (h : Fn P f bs [.val v]) (ha : ArgsR w bs args) : Calls P f args.toArray w fun e w' => e = .returned v ∧ Below w.heap.size w w' :=
  (h.2 w args (args_iff.2 ha)).mono fun e w' h => by obtain ⟨u, he, hv, hb⟩ := h; have hu : u = v := hv; subst hu; exact ⟨he, hb⟩
theorem kit_row {P : Program} {f T s n : Nat} {bs : List B} {xs : List Value} {w : World} {args : List Value} (h : Fn P f bs [.row T s n xs]) (ha : ArgsR w bs args) : Calls P f args.toArray w fun e w' => ∃ v, e = .returned v ∧ w'.ownsRow w.heap.size T s v n xs ∧ Below w.heap.size w w' :=
  h.2 w args (args_iff.2 ha)
theorem kit_reg {P : Program} {f T s n : Nat} {bs : List B} {xs : List Value} {w : World} {args : List Value} (h : Fn P f bs [.reg T s n xs]) (ha : ArgsR w bs args) : Calls P f args.toArray w fun e w' => ∃ v, e = .returned (.agg #[v]) ∧ w'.ownsRow w.heap.size T s v n xs ∧ Below w.heap.size w w' :=
  (h.2 w args (args_iff.2 ha)).mono fun e w' h => by obtain ⟨u, he, ⟨v, rfl, hv⟩, hb⟩ := h; exact ⟨v, he, hv, hb⟩
theorem kit_rowv {P : Program} {f T s n : Nat} {bs : List B} {xs : List Value} {u : Value} {w : World} {args : List Value} (h : Fn P f bs [.row T s n xs, .val u]) (ha : ArgsR w bs args) : Calls P f args.toArray w fun e w' => ∃ v, e = .returned (.tuple #[v, u]) ∧ w'.ownsRow w.heap.size T s v n xs ∧ Below w.heap.size w w' :=
  (h.2 w args (args_iff.2 ha)).mono fun e w' h => by
    obtain ⟨t, he, hv, hb⟩ := h
    obtain ⟨v1, v2, rfl, h1, h2⟩ := resok2_get hv
    have h2' : v2 = u := h2
    subst h2'; exact ⟨v1, he, h1, hb⟩
theorem kit_vv {P : Program} {f : Nat} {bs : List B} {v u : Value} {w : World} {args : List Value} (h : Fn P f bs [.val v, .val u]) (ha : ArgsR w bs args) : Calls P f args.toArray w fun e w' => e = .returned (.tuple #[v, u]) ∧ Below w.heap.size w w' :=
  (h.2 w args (args_iff.2 ha)).mono fun e w' h => by
    obtain ⟨t, he, hv, hb⟩ := h
    obtain ⟨v1, v2, rfl, h1, h2⟩ := resok2_get hv
    have h1' : v1 = v := h1
    have h2' : v2 = u := h2
    subst h1'; subst h2'; exact ⟨he, hb⟩
theorem mk_slv' {w : World} {n m s c : Nat} {A : Option Addr} {xs : List Value} (h : Rd w s A n xs) (hc : n ≤ c) (hn : n = m) : RelB ρ0 (I0 w) w (.a (.slv m s xs)) (.slice A n c) := by subst hn; exact mk_slv h hc
theorem mk_regv' {w : World} {n m s c : Nat} {A : Option Addr} {xs : List Value} (h : Rd w s A n xs) (hc : n ≤ c) (hn : n = m) : RelB ρ0 (I0 w) w (.agg [.slv m s xs]) (.agg #[.slice A n c]) := by subst hn; exact mk_regv h hc
theorem args1 {w : World} {b1 : B} {u1 : Value} (h1 : RelB ρ0 (I0 w) w b1 u1) : ArgsR w [b1] [u1] := ⟨h1, trivial⟩
theorem args2 {w : World} {b1 b2 : B} {u1 u2 : Value} (h1 : RelB ρ0 (I0 w) w b1 u1) (h2 : RelB ρ0 (I0 w) w b2 u2) : ArgsR w [b1, b2] [u1, u2] := ⟨h1, h2, trivial⟩
theorem args3 {w : World} {b1 b2 b3 : B} {u1 u2 u3 : Value} (h1 : RelB ρ0 (I0 w) w b1 u1) (h2 : RelB ρ0 (I0 w) w b2 u2) (h3 : RelB ρ0 (I0 w) w b3 u3) : ArgsR w [b1, b2, b3] [u1, u2, u3] := ⟨h1, h2, h3, trivial⟩
theorem args4 {w : World} {b1 b2 b3 b4 : B} {u1 u2 u3 u4 : Value} (h1 : RelB ρ0 (I0 w) w b1 u1) (h2 : RelB ρ0 (I0 w) w b2 u2) (h3 : RelB ρ0 (I0 w) w b3 u3) (h4 : RelB ρ0 (I0 w) w b4 u4) : ArgsR w [b1, b2, b3, b4] [u1, u2, u3, u4] := ⟨h1, h2, h3, h4, trivial⟩
theorem own_form3 {w : World} {base e size : Nat} {v : Value} {n : Nat} {xs : List Value} (h : w.ownsRow base e size v n xs) : ∃ A c, v = .slice A n c ∧ n ≤ c := by
  obtain ⟨A, c, h1, _, h2, _⟩ := own_form h
  exact ⟨A, c, h1, h2⟩
theorem bagg {σ : St} {vs ws : List Value} (h : vs = ws) : BRes σ (.agg (vs.map A.val)) (.val (.agg ws.toArray)) := by subst h; exact .agg vs
theorem bnil {σ : St} {T s n : Nat} {xs : List Value} (h : xs = []) (hn : n = 0) : BRes σ (.a (.val (.slice none 0 0))) (.row T s n xs) := by subst h; subst hn; exact .nil T s
theorem bnil_ints {σ : St} {T : Nat} {L : List Int} (h : L = []) : BRes σ (.a (.val (.slice none 0 0))) (.row T 1 L.length (isl L)) := by subst h; exact .nil T 1
theorem bnil_bools {σ : St} {T : Nat} {L : List Bool} (h : L = []) : BRes σ (.a (.val (.slice none 0 0))) (.row T 1 L.length (bsl L)) := by subst h; exact .nil T 1
theorem bnil_doms {σ : St} {T : Nat} {L : List Dom} (h : L = []) : BRes σ (.a (.val (.slice none 0 0))) (.row T 3 L.length (dsl L)) := by subst h; exact .nil T 3
theorem bnil_cels {σ : St} {T : Nat} {L : List Cel} (h : L = []) : BRes σ (.a (.val (.slice none 0 0))) (.row T 2 L.length (csl L)) := by subst h; exact .nil T 2
theorem brow_ints {σ : St} {h n m T : Nat} {L L' : List Int} (hg : get σ (.o h) = some (.o ⟨T, 1, true, pl (isl L)⟩)) (e : L = L') (hn : n = L.length) (hm : m = L'.length := by rfl) : BRes σ (.a (.sl h 0 n)) (.row T 1 m (isl L')) := by
  subst e; subst hm; subst hn; exact .row h _ T 1 _ hg (by rw [isl_len])
theorem brow_bools {σ : St} {h n m T : Nat} {L L' : List Bool} (hg : get σ (.o h) = some (.o ⟨T, 1, true, pl (bsl L)⟩)) (e : L = L') (hn : n = L.length) (hm : m = L'.length := by rfl) : BRes σ (.a (.sl h 0 n)) (.row T 1 m (bsl L')) := by
  subst e; subst hm; subst hn; exact .row h _ T 1 _ hg (by rw [bsl_len])
theorem brow_doms {σ : St} {h n m T : Nat} {L L' : List Dom} (hg : get σ (.o h) = some (.o ⟨T, 3, true, pl (dsl L)⟩)) (e : L = L') (hn : n = L.length) (hm : m = L'.length := by rfl) : BRes σ (.a (.sl h 0 n)) (.row T 3 m (dsl L')) := by
  subst e; subst hm; subst hn; exact .row h _ T 3 _ hg (by rw [dsl_len])
theorem brow_cels {σ : St} {h n m T : Nat} {L L' : List Cel} (hg : get σ (.o h) = some (.o ⟨T, 2, true, pl (csl L)⟩)) (e : L = L') (hn : n = L.length) (hm : m = L'.length := by rfl) : BRes σ (.a (.sl h 0 n)) (.row T 2 m (csl L')) := by
  subst e; subst hm; subst hn; exact .row h _ T 2 _ hg (by rw [csl_len])
theorem breg {σ : St} {h n m T : Nat} {L L' : List Int} (hg : get σ (.o h) = some (.o ⟨T, 1, true, pl (isl L)⟩)) (e : L = L') (hn : n = L.length) (hm : m = L'.length := by rfl) : BRes σ (.agg [.sl h 0 n]) (.reg T 1 m (isl L')) := by
  subst e; subst hm; subst hn; exact .reg h _ T 1 _ hg (by rw [isl_len])
end Cl
end Go.Proofs.Ytgmckbchcpfhcaa
