
/- The laws of the operations over clean states. -/
import Derived.Test.YtgmckbchcpfhcaaCl
namespace Go.Proofs.Ytgmckbchcpfhcaa
namespace Cl
open Go.ChangeShapes Go.WideShapes Go.ChangeAt Go.RowKit

def V.v (v : Value) : V := .b (.a (.val v))
def V.av (vs : List Value) : V := .b (.agg (vs.map A.val))
def Facts (R : List (Key × Cell)) (a : Act) (w : World) (ρ : Nat → Option Place) (I : Nat → Prop) : Prop :=
  ∀ k c, (k, c) ∈ R → match k, c with
    | .s k, .s v => RelV ρ I w v (a.tmps.getD k undef)
    | .o h, .o o => Own ρ I w h o
    | _, _ => True
def Acts (Γ : Cx) (o : Oper) (R : List (Key × Cell)) (W : St) : Prop :=
  ∀ σ a w ρ I, Sat Γ σ a w ρ I → (∀ kv ∈ R, get σ kv.1 = some kv.2) → ∀ (K : Act → World → Prop) Q, (∀ a' w', Sats Γ (W ++ σ) a' w' → K a' w') → o.wp Γ.P a w K Q
theorem facts_of {Γ : Cx} {σ : St} {a : Act} {w : World} {ρ : Nat → Option Place} {I : Nat → Prop} {R : List (Key × Cell)} (h : Sat Γ σ a w ρ I) (hR : ∀ kv ∈ R, get σ kv.1 = some kv.2) : Facts R a w ρ I := by
  intro k c hk
  have hg := hR _ hk
  cases k <;> cases c <;> first | exact trivial | exact h.sl _ _ hg | exact h.m.ow _ _ hg
theorem Acts.pure {Γ : Cx} {o : Oper} {d : Nat} {X : V} {R : List (Key × Cell)} (hd : o.dst = some d) (hN : Γ.ok d)
    (h : ∀ a w ρ I, Facts R a w ρ I → ∃ v, (execOp a.eval o).run Γ.P w = .ok (.value v) w ∧ RelV ρ I w X v) : Acts Γ o R [(.s d, some (.s X))] := by
  intro σ a w ρ I hs hR K Q hK
  obtain ⟨v, hr, hv⟩ := h a w ρ I (facts_of hs hR)
  unfold Oper.wp
  rw [hr]
  show K (a.put o.dst v) w
  rw [hd]
  exact hK _ _ ⟨ρ, I, hs.put hN hv⟩
inductive OpX : Operand → V → List (Key × Cell) → Prop
  | tmp (t : Nat) (X : V) : OpX (.tmp t) X [(.s t, .s X)]
  | const (v : Value) : OpX (.const v) (V.v v) []
inductive OpV : Operand → Value → List (Key × Cell) → Prop
  | tmp (t : Nat) (v : Value) : OpV (.tmp t) v [(.s t, .s (V.v v))]
  | agg (t : Nat) (vs : List Value) : OpV (.tmp t) (.agg vs.toArray) [(.s t, .s (V.av vs))]
  | const (v : Value) : OpV (.const v) v []
theorem OpX.rel {x : Operand} {X : V} {R : List (Key × Cell)} (h : OpX x X R) {a : Act} {w : World} {ρ : Nat → Option Place} {I : Nat → Prop} (hf : Facts R a w ρ I) : RelV ρ I w X (a.eval x) := by
  cases h with
  | tmp t X => exact hf (.s t) (.s X) (by simp)
  | const v => exact (rfl : v = v)
theorem relav {ρ : Nat → Option Place} {I : Nat → Prop} {w : World} {vs : List Value} {u : Value} (h : RelV ρ I w (V.av vs) u) : u = .agg vs.toArray := by
  obtain ⟨cs, rfl, hl, hx⟩ := h
  congr 1
  congr 1
  apply List.ext_getElem?
  intro j
  rw [List.length_map] at hl
  rcases Nat.lt_or_ge j vs.length with hlt | hge
  · have := hx j (.val vs[j]) (cs[j]'(by omega)) (by simp [hlt]) (by simp)
    rw [List.getElem?_eq_getElem hlt, List.getElem?_eq_getElem (by omega)]
    exact congrArg some this
  · rw [List.getElem?_eq_none hge, List.getElem?_eq_none (by omega)]
theorem relav_mk {ρ : Nat → Option Place} {I : Nat → Prop} {w : World} (vs : List Value) : RelV ρ I w (V.av vs) (.agg vs.toArray) := by
  refine ⟨vs, rfl, by simp, fun j x c h1 h2 => ?_⟩
  simp only [List.getElem?_map, h2, Option.map_some] at h1
  injection h1 with h1
  subst h1
  exact (rfl : c = c)
theorem OpV.ev {x : Operand} {v : Value} {R : List (Key × Cell)} (h : OpV x v R) {a : Act} {w : World} {ρ : Nat → Option Place} {I : Nat → Prop} (hf : Facts R a w ρ I) : a.eval x = v := by
  cases h with
  | tmp t X => exact hf (.s t) (.s (V.v v)) (by simp)
  | agg t vs => exact relav (hf (.s t) (.s (V.av vs)) (by simp))
  | const v => rfl
theorem Facts.left {R R' : List (Key × Cell)} {a : Act} {w : World} {ρ : Nat → Option Place} {I : Nat → Prop} (h : Facts (R ++ R') a w ρ I) : Facts R a w ρ I := fun k c hk => h k c (by simp [hk])
theorem Facts.right {R R' : List (Key × Cell)} {a : Act} {w : World} {ρ : Nat → Option Place} {I : Nat → Prop} (h : Facts (R ++ R') a w ρ I) : Facts R' a w ρ I := fun k c hk => h k c (by simp [hk])

section
variable {Γ : Cx} {d : Nat} {ty : TypeId} {pos : String} {af : Array Edge} {g : Option (Nat × Bool)}
theorem acts_move {x : Operand} {X : V} {R : List (Key × Cell)} (hN : Γ.ok d) (hx : OpX x X R) : Acts Γ ⟨some d, .move x, ty, pos, af, g⟩ R [(.s d, some (.s X))] :=
  Acts.pure rfl hN fun a w ρ I hf => ⟨a.eval x, by simp [execOp, go_sem], hx.rel hf⟩
theorem acts_assign {x : Operand} {X : V} {R : List (Key × Cell)} (hN : Γ.ok d) (hx : OpX x X R) : Acts Γ ⟨some d, .assign x, ty, pos, af, g⟩ R [(.s d, some (.s X))] :=
  Acts.pure rfl hN fun a w ρ I hf => ⟨a.eval x, by simp [execOp, go_sem], hx.rel hf⟩
theorem acts_pick_t {c x y : Operand} {X : V} {R R' : List (Key × Cell)} (hN : Γ.ok d) (hc : OpV c (.bool true) R) (hx : OpX x X R') : Acts Γ ⟨some d, .pick c x y, ty, pos, af, g⟩ (R ++ R') [(.s d, some (.s X))] :=
  Acts.pure rfl hN fun a w ρ I hf => ⟨a.eval x, by (have he := hc.ev hf.left; simp only [execOp, he]; simp [go_sem, asBool]), hx.rel hf.right⟩
theorem acts_pick_f {c x y : Operand} {X : V} {R R' : List (Key × Cell)} (hN : Γ.ok d) (hc : OpV c (.bool false) R) (hx : OpX y X R') : Acts Γ ⟨some d, .pick c x y, ty, pos, af, g⟩ (R ++ R') [(.s d, some (.s X))] :=
  Acts.pure rfl hN fun a w ρ I hf => ⟨a.eval y, by (have he := hc.ev hf.left; simp only [execOp, he]; simp [go_sem, asBool]), hx.rel hf.right⟩
theorem acts_bin {x y : Operand} {op : BinOp} {xT yT : TypeId} {u v r : Value} {R R' : List (Key × Cell)} (hN : Γ.ok d) (hx : OpV x u R) (hy : OpV y v R')
    (hr : ∀ w, ((do eqGuard op xT x y u v; binOp op xT u v) : Sem Value).run Γ.P w = .ok r w) : Acts Γ ⟨some d, .binOp op xT x y yT, ty, pos, af, g⟩ (R ++ R') [(.s d, some (.s (V.v r)))] :=
  Acts.pure rfl hN fun a w ρ I hf => ⟨r, by
    have h := hr w
    simp only [execOp, hx.ev hf.left, hy.ev hf.right]
    rw [Sem.run_bind, h]
    rfl, rfl⟩
theorem acts_un {x : Operand} {op : UnOp} {xT : TypeId} {u r : Value} {R : List (Key × Cell)} (hN : Γ.ok d) (hx : OpV x u R)
    (hr : ∀ w, (Op.unary op u).run Γ.P w = .ok r w) : Acts Γ ⟨some d, .unOp op xT x, ty, pos, af, g⟩ R [(.s d, some (.s (V.v r)))] :=
  Acts.pure rfl hN fun a w ρ I hf => ⟨r, by
    have h := hr w
    simp only [execOp, hx.ev hf]
    rw [Sem.run_bind, h]
    rfl, rfl⟩
theorem acts_conv {x : Operand} {src dst : TypeId} {u r : Value} {R : List (Key × Cell)} (hN : Γ.ok d) (hx : OpV x u R)
    (hr : ∀ w, (convert src dst u).run Γ.P w = .ok r w) : Acts Γ ⟨some d, .convert src dst x, ty, pos, af, g⟩ R [(.s d, some (.s (V.v r)))] :=
  Acts.pure rfl hN fun a w ρ I hf => ⟨r, by
    have h := hr w
    simp only [execOp, hx.ev hf]
    rw [Sem.run_bind, h]
    rfl, rfl⟩
theorem acts_extract {t ix : Nat} {xs : List B} {X : B} (hN : Γ.ok d) (hX : xs[ix]? = some X) : Acts Γ ⟨some d, .extract (.tmp t) ix, ty, pos, af, g⟩ [(.s t, .s (.tup xs))] [(.s d, some (.s (.b X)))] :=
  Acts.pure rfl hN fun a w ρ I hf => by
    obtain ⟨cs, e, hl, hx⟩ := hf (.s t) (.s (.tup xs)) (by simp)
    have hlt : ix < cs.length := by rw [hl]; exact (List.getElem?_eq_some_iff.1 hX).1
    refine ⟨cs[ix], ?_, hx ix X _ hX (by simp)⟩
    have he : a.eval (.tmp t) = .tuple cs.toArray := e
    simp only [execOp, he]
    simp [go_sem, Instr.extract, hlt]
end
section
variable {P : Program}
theorem r_add {xT : TypeId} {x y : Operand} {k : IntKind} {a b c : Int} (h : k.wrap (a + b) = c) (w : World) : ((do eqGuard .add xT x y (.int k a) (.int k b); binOp .add xT (.int k a) (.int k b)) : Sem Value).run P w = .ok (.int k c) w := by
  subst h; simp [eqGuard, binOp, Op.intArith, go_sem]
theorem r_sub {xT : TypeId} {x y : Operand} {k : IntKind} {a b c : Int} (h : k.wrap (a - b) = c) (w : World) : ((do eqGuard .sub xT x y (.int k a) (.int k b); binOp .sub xT (.int k a) (.int k b)) : Sem Value).run P w = .ok (.int k c) w := by
  subst h; simp [eqGuard, binOp, Op.intArith, go_sem]
theorem r_mul {xT : TypeId} {x y : Operand} {k : IntKind} {a b c : Int} (h : k.wrap (a * b) = c) (w : World) : ((do eqGuard .mul xT x y (.int k a) (.int k b); binOp .mul xT (.int k a) (.int k b)) : Sem Value).run P w = .ok (.int k c) w := by
  subst h; simp [eqGuard, binOp, Op.intArith, go_sem]
theorem r_quo {xT : TypeId} {x y : Operand} {k : IntKind} {a b c : Int} (hb : b ≠ 0) (h : k.wrap (a.tdiv b) = c) (w : World) : ((do eqGuard .quo xT x y (.int k a) (.int k b); binOp .quo xT (.int k a) (.int k b)) : Sem Value).run P w = .ok (.int k c) w := by
  subst h; simp [eqGuard, binOp, Op.intDiv, go_sem, hb]
theorem r_rem {xT : TypeId} {x y : Operand} {k : IntKind} {a b c : Int} (hb : b ≠ 0) (h : a.tmod b = c) (w : World) : ((do eqGuard .rem xT x y (.int k a) (.int k b); binOp .rem xT (.int k a) (.int k b)) : Sem Value).run P w = .ok (.int k c) w := by
  subst h; simp [eqGuard, binOp, Op.intDiv, go_sem, hb]
theorem r_lss {xT : TypeId} {x y : Operand} {k : IntKind} {a b : Int} {c : Bool} (h : decide (a < b) = c) (w : World) : ((do eqGuard .lss xT x y (.int k a) (.int k b); binOp .lss xT (.int k a) (.int k b)) : Sem Value).run P w = .ok (.bool c) w := by
  subst h; simp [eqGuard, binOp, Op.intCmp, go_sem]
theorem r_leq {xT : TypeId} {x y : Operand} {k : IntKind} {a b : Int} {c : Bool} (h : decide (a ≤ b) = c) (w : World) : ((do eqGuard .leq xT x y (.int k a) (.int k b); binOp .leq xT (.int k a) (.int k b)) : Sem Value).run P w = .ok (.bool c) w := by
  subst h; simp [eqGuard, binOp, Op.intCmp, go_sem]
theorem r_gtr {xT : TypeId} {x y : Operand} {k : IntKind} {a b : Int} {c : Bool} (h : decide (b < a) = c) (w : World) : ((do eqGuard .gtr xT x y (.int k a) (.int k b); binOp .gtr xT (.int k a) (.int k b)) : Sem Value).run P w = .ok (.bool c) w := by
  subst h; simp [eqGuard, binOp, Op.intCmp, go_sem]
theorem r_geq {xT : TypeId} {x y : Operand} {k : IntKind} {a b : Int} {c : Bool} (h : decide (b ≤ a) = c) (w : World) : ((do eqGuard .geq xT x y (.int k a) (.int k b); binOp .geq xT (.int k a) (.int k b)) : Sem Value).run P w = .ok (.bool c) w := by
  subst h; simp [eqGuard, binOp, Op.intCmp, go_sem]
theorem r_eql {xT : TypeId} {x y : Operand} {k : IntKind} {a b : Int} {c : Bool} (h : decide (a = b) = c) (w : World) : ((do eqGuard .eql xT x y (.int k a) (.int k b); binOp .eql xT (.int k a) (.int k b)) : Sem Value).run P w = .ok (.bool c) w := by
  subst h; simp [eqGuard, binOp, Op.intCmp, go_sem]; first | rfl | exact Bool.beq_eq_decide_eq _ _ | (rw [Bool.eq_iff_iff]; simp)
theorem r_neq {xT : TypeId} {x y : Operand} {k : IntKind} {a b : Int} {c : Bool} (h : decide (a ≠ b) = c) (w : World) : ((do eqGuard .neq xT x y (.int k a) (.int k b); binOp .neq xT (.int k a) (.int k b)) : Sem Value).run P w = .ok (.bool c) w := by
  subst h; simp [eqGuard, binOp, Op.intCmp, go_sem]; first | rfl | exact Bool.beq_eq_decide_eq _ _ | (rw [Bool.eq_iff_iff]; simp)
theorem r_not {a c : Bool} (h : (!a) = c) (w : World) : (Op.unary .not (.bool a)).run P w = .ok (.bool c) w := by
  subst h; simp [Op.unary, go_sem]
theorem r_neg {k : IntKind} {a c : Int} (h : k.wrap (-a) = c) (w : World) : (Op.unary .neg (.int k a)).run P w = .ok (.int k c) w := by
  subst h; simp [Op.unary, go_sem]
theorem r_beql {xT : TypeId} {x y : Operand} {a b c : Bool} (ht : P.underlying xT = some .bool) (h : decide (a = b) = c) (w : World) : ((do eqGuard .eql xT x y (.bool a) (.bool b); binOp .eql xT (.bool a) (.bool b)) : Sem Value).run P w = .ok (.bool c) w := by
  subst h; simp [eqGuard, binOp, Op.equal, Op.maxDepth, go_sem, ht]; rw [Bool.eq_iff_iff]; simp
theorem r_bneq {xT : TypeId} {x y : Operand} {a b c : Bool} (ht : P.underlying xT = some .bool) (h : decide (a ≠ b) = c) (w : World) : ((do eqGuard .neq xT x y (.bool a) (.bool b); binOp .neq xT (.bool a) (.bool b)) : Sem Value).run P w = .ok (.bool c) w := by
  subst h; simp [eqGuard, binOp, Op.equal, Op.maxDepth, go_sem, ht]; rw [Bool.eq_iff_iff]; simp

theorem r_aggeq {xT : TypeId} {x y : Operand} {u v : Array Value} {c : Bool} (hg : P.eqGuardType P.depth xT = false) (h : ∀ w, (binOp .eql xT (.agg u) (.agg v)).run P w = .ok (.bool c) w) (w : World) : ((do eqGuard .eql xT x y (.agg u) (.agg v); binOp .eql xT (.agg u) (.agg v)) : Sem Value).run P w = .ok (.bool c) w := by
  rw [Sem.run_bind]
  have e : (eqGuard .eql xT x y (.agg u) (.agg v)).run P w = .ok () w := by simp [eqGuard, go_sem, hg]
  rw [e]; exact h w
theorem r_aggne {xT : TypeId} {x y : Operand} {u v : Array Value} {c : Bool} (hg : P.eqGuardType P.depth xT = false) (h : ∀ w, (binOp .neq xT (.agg u) (.agg v)).run P w = .ok (.bool c) w) (w : World) : ((do eqGuard .neq xT x y (.agg u) (.agg v); binOp .neq xT (.agg u) (.agg v)) : Sem Value).run P w = .ok (.bool c) w := by
  rw [Sem.run_bind]
  have e : (eqGuard .neq xT x y (.agg u) (.agg v)).run P w = .ok () w := by simp [eqGuard, go_sem, hg]
  rw [e]; exact h w
theorem r_and {xT : TypeId} {x y : Operand} {k : IntKind} {a b c : Int} (h : k.wrap ((BitVec.ofInt k.bits a) &&& (BitVec.ofInt k.bits b)).toNat = c) (w : World) : ((do eqGuard .and xT x y (.int k a) (.int k b); binOp .and xT (.int k a) (.int k b)) : Sem Value).run P w = .ok (.int k c) w := by
  subst h; simp [eqGuard, binOp, Op.intBits, go_sem]
theorem r_or {xT : TypeId} {x y : Operand} {k : IntKind} {a b c : Int} (h : k.wrap ((BitVec.ofInt k.bits a) ||| (BitVec.ofInt k.bits b)).toNat = c) (w : World) : ((do eqGuard .or xT x y (.int k a) (.int k b); binOp .or xT (.int k a) (.int k b)) : Sem Value).run P w = .ok (.int k c) w := by
  subst h; simp [eqGuard, binOp, Op.intBits, go_sem]
theorem r_xor {xT : TypeId} {x y : Operand} {k : IntKind} {a b c : Int} (h : k.wrap ((BitVec.ofInt k.bits a) ^^^ (BitVec.ofInt k.bits b)).toNat = c) (w : World) : ((do eqGuard .xor xT x y (.int k a) (.int k b); binOp .xor xT (.int k a) (.int k b)) : Sem Value).run P w = .ok (.int k c) w := by
  subst h; simp [eqGuard, binOp, Op.intBits, go_sem]
theorem r_andNot {xT : TypeId} {x y : Operand} {k : IntKind} {a b c : Int} (h : k.wrap ((BitVec.ofInt k.bits a) &&& ~~~(BitVec.ofInt k.bits b)).toNat = c) (w : World) : ((do eqGuard .andNot xT x y (.int k a) (.int k b); binOp .andNot xT (.int k a) (.int k b)) : Sem Value).run P w = .ok (.int k c) w := by
  subst h; simp [eqGuard, binOp, Op.intBits, go_sem]
theorem r_shl {xT : TypeId} {x y : Operand} {k k' : IntKind} {a b c : Int} (hb : 0 ≤ b) (h : k.wrap (a * 2 ^ (min b.toNat k.bits)) = c) (w : World) : ((do eqGuard .shl xT x y (.int k a) (.int k' b); binOp .shl xT (.int k a) (.int k' b)) : Sem Value).run P w = .ok (.int k c) w := by
  subst h; have h' : ¬ b < 0 := by omega
  simp [eqGuard, binOp, Op.shift, go_sem, h']
theorem r_shr {xT : TypeId} {x y : Operand} {k k' : IntKind} {a b c : Int} (hb : 0 ≤ b) (h : a.fdiv (2 ^ (min b.toNat k.bits)) = c) (w : World) : ((do eqGuard .shr xT x y (.int k a) (.int k' b); binOp .shr xT (.int k a) (.int k' b)) : Sem Value).run P w = .ok (.int k c) w := by
  subst h; have h' : ¬ b < 0 := by omega
  simp [eqGuard, binOp, Op.shift, go_sem, h']
theorem r_conv {src dst : TypeId} {k k' : IntKind} {a c : Int} (hs : P.underlying src = some (.int k')) (hd : P.underlying dst = some (.int k)) (h : k.wrap a = c) (w : World) : (convert src dst (.int k' a)).run P w = .ok (.int k c) w := by
  subst h; simp [convert, run_underlying hs, run_underlying hd, go_sem, Conv.intToInt]
end
end Cl
end Go.Proofs.Ytgmckbchcpfhcaa
