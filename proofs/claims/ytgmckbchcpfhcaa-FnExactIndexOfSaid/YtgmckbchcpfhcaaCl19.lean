
/- Short words for the printed walks: what an operation reads is found in the state itself. -/
import Derived.Test.YtgmckbchcpfhcaaCl18
namespace Go.Proofs.Ytgmckbchcpfhcaa
namespace Cl
open Go.ChangeShapes Go.WideShapes Go.ChangeAt Go.RowKit

abbrev kI (k : Nat) (t : Int) : Key × Option Cell := (.s k, some (.s (V.v (.int .i64 t))))
abbrev kU (k : Nat) (t : Int) : Key × Option Cell := (.s k, some (.s (V.v (.int .u64 t))))
abbrev kB (k : Nat) (t : Bool) : Key × Option Cell := (.s k, some (.s (V.v (.bool t))))
abbrev kV (k : Nat) (v : V) : Key × Option Cell := (.s k, some (.s v))
abbrev kP (k h off : Nat) : Key × Option Cell := (.s k, some (.s (V.p h off)))
abbrev kS (k h off n : Nat) : Key × Option Cell := (.s k, some (.s (V.b (.a (.sl h off n)))))
abbrev kO (h T s : Nat) (ex : Bool) (c : List A) : Key × Option Cell := (.o h, some (.o ⟨T, s, ex, c⟩))
abbrev kF (h : Nat) : Key × Option Cell := (.o h, some .free)
abbrev vI (t : Int) : Value := .int .i64 t
abbrev aI (t : Int) : A := .val (.int .i64 t)
abbrev aB (t : Bool) : A := .val (.bool t)
def dstOk (Γ : Cx) : Option Nat → Prop
  | some d => Γ.ok d
  | none => True
def dstOkb (Γ : Cx) : Option Nat → Bool
  | some d => Γ.okb d
  | none => true
theorem ltD {Γ : Cx} {d : Option Nat} (h : dstOkb Γ d = true) : dstOk Γ d := by
  cases d with
  | none => trivial
  | some d => exact ltN h
section
variable {Γ : Cx} {ops : Array Oper} {o : Oper} {rest : List Oper} {K : Exit → St → Prop} {σ : St} {R : List (Key × Cell)} {W : St}
theorem z (hk : WpL Γ ops rest K (W ++ σ)) (hr : gets σ R = wants R := by exact rfl) (h : dstOk Γ o.dst → Acts Γ o R W) (hg : o.guard = none := by exact rfl) (hn : dstOk Γ o.dst := by exact ltD rfl) : WpL Γ ops (o :: rest) K σ := wpc (step_plain hg (h hn)) hr hk
theorem zg (hk : WpL Γ ops rest K (W ++ σ)) (hr : gets σ R = wants R := by exact rfl) (h : dstOk Γ o.dst → StepOk Γ ops o R W) (hn : dstOk Γ o.dst := by exact ltD rfl) : WpL Γ ops (o :: rest) K σ := wpc (h hn) hr hk
/-- the rest of a region in every order, in the text's order so far -/
def DW (Γ : Cx) (l : List Oper) (K : Exit → St → Prop) (rest : List Oper) (acc : Tr) (σ : St) : Prop :=
  ∃ tr, AllSteps Γ l.toArray rest tr ∧ (trgets tr σ = tr.map fun x => wants x.1) ∧ okPairs ((acc ++ tr).map keysOf) (ancs l []) 0 [] = true ∧ K .normal (after tr σ tr.length)
theorem wp_dr {id : Nat} {l : List Oper} (h : DW Γ l K l [] σ) (hm : Γ.P.follows .mixedOrders = true := by kernel_rfl) (hd : okDeps l = true := by kernel_rfl) : Wp Γ (.region id l.toArray true) K σ := by
  obtain ⟨tr, h1, h2, h3, h4⟩ := h
  exact wp_drawn' hm h1 h2 hd h3 h4
theorem dw_nil {l : List Oper} {acc : Tr} (hK : K .normal σ) (hp : okPairs (acc.map keysOf) (ancs l []) 0 [] = true := by kernel_rfl) : DW Γ l K [] acc σ :=
  ⟨[], .nil, rfl, by rw [List.append_nil]; exact hp, hK⟩
theorem dw_cons {l : List Oper} {acc : Tr} (h : StepOk Γ l.toArray o R W) (hr : gets σ R = wants R) (hk : DW Γ l K rest (acc ++ [(R, W)]) (W ++ σ)) : DW Γ l K (o :: rest) acc σ := by
  obtain ⟨tr, h1, h2, h3, h4⟩ := hk
  exact ⟨(R, W) :: tr, .cons h h1, by simp only [trgets, List.map_cons, hr, h2], by rw [List.append_assoc] at h3; exact h3, h4⟩
theorem zd {l : List Oper} {acc : Tr} (hk : DW Γ l K rest (acc ++ [(R, W)]) (W ++ σ)) (hr : gets σ R = wants R := by exact rfl) (h : dstOk Γ o.dst → Acts Γ o R W) (hg : o.guard = none := by exact rfl) (hn : dstOk Γ o.dst := by exact ltD rfl) : DW Γ l K (o :: rest) acc σ := dw_cons (step_plain hg (h hn)) hr hk
theorem zdg {l : List Oper} {acc : Tr} (hk : DW Γ l K rest (acc ++ [(R, W)]) (W ++ σ)) (hr : gets σ R = wants R := by exact rfl) (h : dstOk Γ o.dst → StepOk Γ l.toArray o R W) (hn : dstOk Γ o.dst := by exact ltD rfl) : DW Γ l K (o :: rest) acc σ := dw_cons (h hn) hr hk
theorem sq {x y : Code} (h : Wp Γ x (thenK (fun σ => Wp Γ y K σ) K) σ) : Wp Γ (.seq x y) K σ := wp_seq' h
theorem bkk {id : Nat} {c : Code} (h : Wp Γ c (blockK id K) σ) : Wp Γ (.block id c) K σ := wp_block' h
theorem rg {id : Nat} {l : List Oper} (h : WpL Γ l.toArray l K σ) : Wp Γ (.region id l.toArray false) K σ := wp_region_t h
theorem nl {ops : Array Oper} (h : K .normal σ) : WpL Γ ops [] K σ := wpl_nil h
theorem sk (h : K .normal σ) : Wp Γ .skip K σ := wp_skip' h
theorem wi {t : Nat} {x y : Code} {b : Bool} (ht : b = true → Wp Γ x K σ) (hf : b = false → Wp Γ y K σ) (hb : get σ (.s t) = some (.s (V.v (.bool b))) := by exact rfl) : Wp Γ (.cond (.tmp t) x y) K σ := wp_if b hb ht hf
theorem wt {t : Nat} {x y : Code} (ht : Wp Γ x K σ) (hb : get σ (.s t) = some (.s (V.v (.bool true))) := by kernel_rfl) : Wp Γ (.cond (.tmp t) x y) K σ := wp_if_t hb ht
theorem wf {t : Nat} {x y : Code} (hf : Wp Γ y K σ) (hb : get σ (.s t) = some (.s (V.v (.bool false))) := by kernel_rfl) : Wp Γ (.cond (.tmp t) x y) K σ := wp_if_f hb hf
/-! states held against each other -/
theorem wS {π : Nat → Nat} {F : List Nat} {k : Nat} {v : V} {r : St} (h : Wk σ π F r) (h1 : get σ (.s k) = some (.s (v.ren π)) := by kernel_rfl) (h3 : v.avd F = true := by kernel_rfl) : Wk σ π F ((.s k, some (.s v)) :: r) := wk_s h1 rfl h3 h
theorem wE {π : Nat → Nat} {F : List Nat} {k : Nat} {v v' : V} {r : St} (h : Wk σ π F r) (h1 : get σ (.s k) = some (.s v') := by exact rfl) (e : v.ren π = v') (h3 : v.avd F = true := by kernel_rfl) : Wk σ π F ((.s k, some (.s v)) :: r) := wk_s h1 e h3 h
theorem wA {π : Nat → Nat} {F : List Nat} {k : Nat} {xs : List Value} {r : St} (h : Wk σ π F r) (h1 : get σ (.s k) = some (.s (V.av xs)) := by kernel_rfl) : Wk σ π F ((.s k, some (.s (V.av xs))) :: r) := wk_s h1 ren_av avd_av h
theorem wO {π : Nat → Nat} {F : List Nat} {x : Nat} {o o' : Ob} {r : St} (h : Wk σ π F r) (h1 : get σ (.o (π x)) = some (.o o') := by exact rfl) (e : RenOb π F o o') (h3 : F.contains x = false := by kernel_rfl) : Wk σ π F ((.o x, some (.o o)) :: r) := wk_o h1 e h3 h
theorem wP {π : Nat → Nat} {F : List Nat} {x T s : Nat} {ex : Bool} {xs : List Value} {r : St} (h : Wk σ π F r) (h1 : get σ (.o (π x)) = some (.o ⟨T, s, ex, pl xs⟩) := by kernel_rfl) (h3 : F.contains x = false := by kernel_rfl) : Wk σ π F ((.o x, some (.o ⟨T, s, ex, pl xs⟩)) :: r) := wk_o h1 (renob_pl (fun h => h)) h3 h
theorem wX {π : Nat → Nat} {F : List Nat} {x T s : Nat} {ex : Bool} {c : List A} {r : St} (h : Wk σ π F r) (h1 : get σ (.o (π x)) = some (.o ⟨T, s, ex, c.map (A.ren π)⟩) := by kernel_rfl) (h2 : c.all (A.avd F) = true := by kernel_rfl) (h3 : F.contains x = false := by kernel_rfl) : Wk σ π F ((.o x, some (.o ⟨T, s, ex, c⟩)) :: r) := wk_o h1 (renob_l (fun h => h) rfl h2) h3 h
theorem wF {π : Nat → Nat} {F : List Nat} {x : Nat} {r : St} (h : Wk σ π F r) (h1 : F.contains x = true := by kernel_rfl) : Wk σ π F ((.o x, some .free) :: r) := wk_f h1 h
theorem wN {π : Nat → Nat} {F : List Nat} : Wk σ π F [] := trivial
end
/-! operands -/
theorem xt {t : Nat} {X : V} : OpX (.tmp t) X [(.s t, .s X)] := .tmp t X
theorem xc {v : Value} : OpX (.const v) (V.v v) [] := .const v
theorem vt {t : Nat} {v : Value} : OpV (.tmp t) v [(.s t, .s (V.v v))] := .tmp t v
theorem va {t : Nat} {vs : List Value} : OpV (.tmp t) (.agg vs.toArray) [(.s t, .s (V.av vs))] := .agg t vs
theorem vc {v : Value} : OpV (.const v) v [] := .const v
theorem ac {x : Operand} {b : B} {R R' : List (Key × Cell)} {xs : List Operand} {bs : List B} (h : ArgV x b R) (hs : ArgVs xs bs R') : ArgVs (x :: xs) (b :: bs) (R ++ R') := .cons h hs
theorem an : ArgVs [] [] [] := .nil
theorem rv {v : Value} : ResV (.val v) (.a (.val v)) [] [] := .val v
theorem ob1 {b : B} (h : b.cs.all A.one = true) : ∀ y ∈ b.cs, y.one = true := List.all_eq_true.1 h
/-! numbers -/
section
variable {P : Program} {xT : TypeId} {x y : Operand}
theorem rA {a b : Int} (h1 : -9223372036854775808 ≤ a + b := by omega) (h2 : a + b ≤ 9223372036854775807 := by omega) (w : World) : ((do eqGuard .add xT x y (.int .i64 a) (.int .i64 b); binOp .add xT (.int .i64 a) (.int .i64 b)) : Sem Value).run P w = .ok (.int .i64 (a + b)) w := r_add (w64 h1 h2) w
theorem rS {a b : Int} (h1 : -9223372036854775808 ≤ a - b := by omega) (h2 : a - b ≤ 9223372036854775807 := by omega) (w : World) : ((do eqGuard .sub xT x y (.int .i64 a) (.int .i64 b); binOp .sub xT (.int .i64 a) (.int .i64 b)) : Sem Value).run P w = .ok (.int .i64 (a - b)) w := r_sub (w64 h1 h2) w
theorem rM {a b : Int} (h1 : -9223372036854775808 ≤ a * b := by omega) (h2 : a * b ≤ 9223372036854775807 := by omega) (w : World) : ((do eqGuard .mul xT x y (.int .i64 a) (.int .i64 b); binOp .mul xT (.int .i64 a) (.int .i64 b)) : Sem Value).run P w = .ok (.int .i64 (a * b)) w := r_mul (w64 h1 h2) w
end
section
variable {Γ : Cx} {d : Nat} {ty : TypeId} {pos : String} {af : Array Edge} {g : Option (Nat × Bool)}
theorem mt {t : Nat} {X : V} (n : Γ.ok d) : Acts Γ ⟨some d, .move (.tmp t), ty, pos, af, g⟩ [(.s t, .s X)] [(.s d, some (.s X))] := acts_move n xt
theorem mc {v : Value} (n : Γ.ok d) : Acts Γ ⟨some d, .move (.const v), ty, pos, af, g⟩ [] [(.s d, some (.s (V.v v)))] := acts_move n xc
theorem gt {t : Nat} {X : V} (n : Γ.ok d) : Acts Γ ⟨some d, .assign (.tmp t), ty, pos, af, g⟩ [(.s t, .s X)] [(.s d, some (.s X))] := acts_assign n xt
theorem gc {v : Value} (n : Γ.ok d) : Acts Γ ⟨some d, .assign (.const v), ty, pos, af, g⟩ [] [(.s d, some (.s (V.v v)))] := acts_assign n xc
/-! elements of rows -/
theorem lI {t T m h k T' : Nat} {ex : Bool} {L : List Int} (n : Γ.ok d) (q : TI Γ.P T false m) (hk : k < L.length := by omega) : Acts Γ ⟨some d, .load T (.tmp t), ty, pos, af, g⟩ [(.s t, .s (V.p h (k * 1))), (.o h, .o ⟨T', 1, ex, pl (isl L)⟩)] [(.s d, some (.s (V.v (.int .i64 (gI L k)))))] := acts_load_own n q (pl_get (isl_get1 hk))
theorem lB {t T m h k T' : Nat} {ex : Bool} {L : List Bool} (n : Γ.ok d) (q : TI Γ.P T false m) (hk : k < L.length := by omega) : Acts Γ ⟨some d, .load T (.tmp t), ty, pos, af, g⟩ [(.s t, .s (V.p h (k * 1))), (.o h, .o ⟨T', 1, ex, pl (bsl L)⟩)] [(.s d, some (.s (V.v (.bool (gB L k)))))] := acts_load_own n q (pl_get (bsl_get1 hk))
theorem lD {t T h k T' : Nat} {ex : Bool} {L : List Dom} (n : Γ.ok d) (q : TI Γ.P T true 3) (hk : k < L.length := by omega) : Acts Γ ⟨some d, .load T (.tmp t), ty, pos, af, g⟩ [(.s t, .s (V.p h (k * 3))), (.o h, .o ⟨T', 3, ex, pl (dsl L)⟩)] [(.s d, some (.s (V.av [.int .i64 (gD L k).x, .int .i64 (gD L k).y, .bool (gD L k).d])))] := acts_load_owns n q rfl (by decide) (pl_at (dsl_at hk))
theorem lC {t T h k T' : Nat} {ex : Bool} {L : List Cel} (n : Γ.ok d) (q : TI Γ.P T true 2) (hk : k < L.length := by omega) : Acts Γ ⟨some d, .load T (.tmp t), ty, pos, af, g⟩ [(.s t, .s (V.p h (k * 2))), (.o h, .o ⟨T', 2, ex, pl (csl L)⟩)] [(.s d, some (.s (V.av [.int .i64 (gC L k).x, .int .i64 (gC L k).y])))] := acts_load_owns n q rfl (by decide) (pl_at (csl_at hk))
theorem uI {t T m k : Nat} {L : List Int} (n : Γ.ok d) (q : TI Γ.P T false m) (hk : k < L.length := by omega) : Acts Γ ⟨some d, .load T (.tmp t), ty, pos, af, g⟩ [(.s t, .s (.b (.a (.ptrv 1 (isl L) (k * 1)))))] [(.s d, some (.s (V.v (.int .i64 (gI L k)))))] := acts_load_v n q (isl_get1 hk)
theorem uB {t T m k : Nat} {L : List Bool} (n : Γ.ok d) (q : TI Γ.P T false m) (hk : k < L.length := by omega) : Acts Γ ⟨some d, .load T (.tmp t), ty, pos, af, g⟩ [(.s t, .s (.b (.a (.ptrv 1 (bsl L) (k * 1)))))] [(.s d, some (.s (V.v (.bool (gB L k)))))] := acts_load_v n q (bsl_get1 hk)
theorem uD {t T k : Nat} {L : List Dom} (n : Γ.ok d) (q : TI Γ.P T true 3) (hk : k < L.length := by omega) : Acts Γ ⟨some d, .load T (.tmp t), ty, pos, af, g⟩ [(.s t, .s (.b (.a (.ptrv 3 (dsl L) (k * 3)))))] [(.s d, some (.s (V.av [.int .i64 (gD L k).x, .int .i64 (gD L k).y, .bool (gD L k).d])))] := acts_load_vs n q rfl (dsl_at hk)
theorem uC {t T k : Nat} {L : List Cel} (n : Γ.ok d) (q : TI Γ.P T true 2) (hk : k < L.length := by omega) : Acts Γ ⟨some d, .load T (.tmp t), ty, pos, af, g⟩ [(.s t, .s (.b (.a (.ptrv 2 (csl L) (k * 2)))))] [(.s d, some (.s (V.av [.int .i64 (gC L k).x, .int .i64 (gC L k).y])))] := acts_load_vs n q rfl (csl_at hk)
theorem sI {t T m h k T' : Nat} {ex : Bool} {L : List Int} {e : Int} {x : Operand} {R : List (Key × Cell)} (q : TI Γ.P T false m) (hx : OpX x (V.v (.int .i64 e)) R) (hk : k < L.length := by omega) (hm : m = 1 := by exact rfl) : Acts Γ ⟨none, .store T (.tmp t) x, ty, pos, af, g⟩ ((.s t, .s (V.p h (k * 1))) :: (.o h, .o ⟨T', 1, ex, pl (isl L)⟩) :: R) [(.o h, some (.o ⟨T', 1, ex, pl (isl (L.set k e))⟩))] := by
  subst hm
  exact acts_store (o := ⟨T', 1, ex, pl (isl L)⟩) (b := .a (.val (.int .i64 e))) q hx rfl (by decide) (by intro y hy; simp [B.cs] at hy; subst hy; rfl) (by simp only [pl_len, isl_len]; omega) (isl_put hk)
theorem sB {t T m h k T' : Nat} {ex : Bool} {L : List Bool} {e : Bool} {x : Operand} {R : List (Key × Cell)} (q : TI Γ.P T false m) (hx : OpX x (V.v (.bool e)) R) (hk : k < L.length := by omega) (hm : m = 1 := by exact rfl) : Acts Γ ⟨none, .store T (.tmp t) x, ty, pos, af, g⟩ ((.s t, .s (V.p h (k * 1))) :: (.o h, .o ⟨T', 1, ex, pl (bsl L)⟩) :: R) [(.o h, some (.o ⟨T', 1, ex, pl (bsl (L.set k e))⟩))] := by
  subst hm
  exact acts_store (o := ⟨T', 1, ex, pl (bsl L)⟩) (b := .a (.val (.bool e))) q hx rfl (by decide) (by intro y hy; simp [B.cs] at hy; subst hy; rfl) (by simp only [pl_len, bsl_len]; omega) (bsl_put hk)
/-! addresses -/
theorem ix {x t e h off n k s T : Nat} {ex : Bool} {c : List A} {i : Operand} {iv : Int} {R : List (Key × Cell)} (hN : Γ.ok d) (hu : Γ.P.underlying t = some (.slice e)) (he : (Γ.P.info? e).map (·.size) = some s) (hi : OpV i (.int .i64 iv) R) (hk : iv = (k : Int) := by exact rfl) (hlt : k < n := by omega) :
    Acts Γ ⟨some d, .indexAddr t (.tmp x) i, ty, pos, af, g⟩ ((.s x, .s (.b (.a (.sl h off n)))) :: (.o h, .o ⟨T, s, ex, c⟩) :: R) [(.s d, some (.s (V.p h ((off + k) * s))))] := acts_index_sl hN hu he hi hk hlt (by simp only [Nat.add_mul])
theorem ix0 {x t e h n k s T : Nat} {ex : Bool} {c : List A} {i : Operand} {iv : Int} {R : List (Key × Cell)} (hN : Γ.ok d) (hu : Γ.P.underlying t = some (.slice e)) (he : (Γ.P.info? e).map (·.size) = some s) (hi : OpV i (.int .i64 iv) R) (hk : iv = (k : Int) := by exact rfl) (hlt : k < n := by omega) :
    Acts Γ ⟨some d, .indexAddr t (.tmp x) i, ty, pos, af, g⟩ ((.s x, .s (.b (.a (.sl h 0 n)))) :: (.o h, .o ⟨T, s, ex, c⟩) :: R) [(.s d, some (.s (V.p h (k * s))))] := acts_index_sl hN hu he hi hk hlt (by simp)
theorem ixz {x t e h off n s T : Nat} {ex : Bool} {c : List A} {i : Operand} {R : List (Key × Cell)} (hN : Γ.ok d) (hu : Γ.P.underlying t = some (.slice e)) (he : (Γ.P.info? e).map (·.size) = some s) (hi : OpV i (.int .i64 0) R) (hlt : 0 < n := by omega) :
    Acts Γ ⟨some d, .indexAddr t (.tmp x) i, ty, pos, af, g⟩ ((.s x, .s (.b (.a (.sl h off n)))) :: (.o h, .o ⟨T, s, ex, c⟩) :: R) [(.s d, some (.s (V.p h (off * s))))] := acts_index_sl hN hu he hi rfl hlt (by simp)
theorem ixv {x t e s n k : Nat} {i : Operand} {iv : Int} {xs : List Value} {R : List (Key × Cell)} (hN : Γ.ok d) (hu : Γ.P.underlying t = some (.slice e)) (he : (Γ.P.info? e).map (·.size) = some s) (hi : OpV i (.int .i64 iv) R) (hk : iv = (k : Int) := by exact rfl) (hlt : k < n := by omega) :
    Acts Γ ⟨some d, .indexAddr t (.tmp x) i, ty, pos, af, g⟩ ((.s x, .s (.b (.a (.slv n s xs)))) :: R) [(.s d, some (.s (.b (.a (.ptrv s xs (k * s))))))] := acts_index_v hN hu he hi hk hlt
theorem ixa {x t e s h n k : Nat} {i : Operand} {iv : Int} {R : List (Key × Cell)} (hN : Γ.ok d) (hu : Γ.P.underlying t = some (.array n e)) (he : (Γ.P.info? e).map (·.size) = some s) (hi : OpV i (.int .i64 iv) R) (hk : iv = (k : Int) := by exact rfl) (hlt : k < n := by omega) :
    Acts Γ ⟨some d, .indexAddr t (.tmp x) i, ty, pos, af, g⟩ ((.s x, .s (V.p h 0)) :: R) [(.s d, some (.s (V.p h (k * s))))] := acts_index_arr hN hu he hi hk hlt (by simp)
theorem ixw {x t e s n k : Nat} {i : Operand} {iv : Int} {xs : List Value} {R : List (Key × Cell)} (hN : Γ.ok d) (hu : Γ.P.underlying t = some (.array n e)) (he : (Γ.P.info? e).map (·.size) = some s) (hi : OpV i (.int .i64 iv) R) (hk : iv = (k : Int) := by exact rfl) (hlt : k < n := by omega) :
    Acts Γ ⟨some d, .indexAddr t (.tmp x) i, ty, pos, af, g⟩ ((.s x, .s (.b (.a (.ptrv s xs 0)))) :: R) [(.s d, some (.s (.b (.a (.ptrv s xs (k * s))))))] := acts_index_arr_v hN hu he hi hk hlt
theorem slS {x t e s h0 off n l h m off' T : Nat} {ex : Bool} {c : List A} {lo hi : Option Operand} {R R' : List (Key × Cell)} (hN : Γ.ok d) (hu : Γ.P.underlying t = some (.slice e)) (he : (Γ.P.info? e).map (·.size) = some s) (hl : OpB lo 0 l R) (hh : OpB hi n h R') (h1 : l ≤ h) (h2 : h ≤ n) (hm : h - l = m) (ho : off + l = off') :
    Acts Γ ⟨some d, .slice t (.tmp x) lo hi none, ty, pos, af, g⟩ ((.s x, .s (.b (.a (.sl h0 off n)))) :: (.o h0, .o ⟨T, s, ex, c⟩) :: (R ++ R')) [(.s d, some (.s (.b (.a (.sl h0 off' m)))))] := acts_slice_sl (o := ⟨T, s, ex, c⟩) hN hu he hl hh h1 h2 hm ho
theorem lnS {t x e h off n : Nat} {iv : Int} (hN : Γ.ok d) (hu : Γ.P.underlying t = some (.slice e)) (hi : (n : Int) = iv := by exact rfl) : Acts Γ ⟨some d, .call { callee := .builtin .len, args := #[.tmp x], argTypes := #[t] }, ty, pos, af, g⟩ [(.s x, .s (.b (.a (.sl h off n))))] [(.s d, some (.s (V.v (.int .i64 iv))))] := acts_len hN hu xt (LenOf.sl _ _ _) hi
theorem lnV {t x e n s : Nat} {xs : List Value} {iv : Int} (hN : Γ.ok d) (hu : Γ.P.underlying t = some (.slice e)) (hi : (n : Int) = iv := by exact rfl) : Acts Γ ⟨some d, .call { callee := .builtin .len, args := #[.tmp x], argTypes := #[t] }, ty, pos, af, g⟩ [(.s x, .s (.b (.a (.slv n s xs))))] [(.s d, some (.s (V.v (.int .i64 iv))))] := acts_len hN hu xt (LenOf.slv _ _ _) hi
/-! appends of own rows -/
theorem aI_ {x h h2 n m t e b hy Ty : Nat} {z : Value} {y : Nat} {exy : Bool} {L L2 L3 : List Int} (hN : Γ.ok d) (ht : Γ.P.underlying t = some (.slice e)) (hz : ZI Γ.P e z 1 b) (hl : L.length = n := by simp) (h3 : L ++ L2 = L3 := by exact rfl) (h2' : L2.length = m := by simp) (hn : L3.length ≤ 4194304 := by (simp; omega)) (hb : b ≤ 1000 := by decide) (hzc : z.cells.size = 1 := by exact rfl) :
    Acts Γ ⟨some d, .call { callee := .builtin .append, args := #[.tmp x, .tmp y], argTypes := #[t, t] }, ty, pos, af, g⟩ ((.s x, .s (.b (.a (.sl h 0 n)))) :: (.o h, .o ⟨e, 1, true, pl (isl L)⟩) :: (.o h2, .free) :: ([(.s y, .s (V.b (.a (.sl hy 0 m))))] ++ [(.o hy, .o ⟨Ty, 1, exy, pl (isl L2)⟩)]))
      [(.s d, some (.s (.b (.a (.sl h2 0 L3.length))))), (.o h2, some (.o ⟨e, 1, true, pl (isl L3)⟩)), (.o h, none)] := by
  subst h3
  exact acts_app hN ht hz hzc (by decide) hb (by rw [isl_len, hl, Nat.mul_one]) xt (src_own (by rw [isl_len, h2', Nat.mul_one])) (isl_one _) (by rw [List.length_append, hl, h2'] at hn; exact hn) (isl_append _ _).symm (by rw [List.length_append, hl, h2'])
theorem aD_ {x h h2 n m t e b hy Ty : Nat} {z : Value} {y : Nat} {exy : Bool} {L L2 L3 : List Dom} (hN : Γ.ok d) (ht : Γ.P.underlying t = some (.slice e)) (hz : ZI Γ.P e z 3 b) (hl : L.length = n := by simp) (h3 : L ++ L2 = L3 := by exact rfl) (h2' : L2.length = m := by simp) (hn : L3.length ≤ 4194304 := by (simp; omega)) (hb : b ≤ 1000 := by decide) (hzc : z.cells.size = 3 := by exact rfl) :
    Acts Γ ⟨some d, .call { callee := .builtin .append, args := #[.tmp x, .tmp y], argTypes := #[t, t] }, ty, pos, af, g⟩ ((.s x, .s (.b (.a (.sl h 0 n)))) :: (.o h, .o ⟨e, 3, true, pl (dsl L)⟩) :: (.o h2, .free) :: ([(.s y, .s (V.b (.a (.sl hy 0 m))))] ++ [(.o hy, .o ⟨Ty, 3, exy, pl (dsl L2)⟩)]))
      [(.s d, some (.s (.b (.a (.sl h2 0 L3.length))))), (.o h2, some (.o ⟨e, 3, true, pl (dsl L3)⟩)), (.o h, none)] := by
  subst h3
  exact acts_app hN ht hz hzc (by decide) hb (by rw [dsl_len, hl]) xt (src_own (by rw [dsl_len, h2'])) (dsl_one' _) (by rw [List.length_append, hl, h2'] at hn; exact hn) (dsl_append _ _).symm (by rw [List.length_append, hl, h2'])
theorem aC_ {x h h2 n m t e b hy Ty : Nat} {z : Value} {y : Nat} {exy : Bool} {L L2 L3 : List Cel} (hN : Γ.ok d) (ht : Γ.P.underlying t = some (.slice e)) (hz : ZI Γ.P e z 2 b) (hl : L.length = n := by simp) (h3 : L ++ L2 = L3 := by exact rfl) (h2' : L2.length = m := by simp) (hn : L3.length ≤ 4194304 := by (simp; omega)) (hb : b ≤ 1000 := by decide) (hzc : z.cells.size = 2 := by exact rfl) :
    Acts Γ ⟨some d, .call { callee := .builtin .append, args := #[.tmp x, .tmp y], argTypes := #[t, t] }, ty, pos, af, g⟩ ((.s x, .s (.b (.a (.sl h 0 n)))) :: (.o h, .o ⟨e, 2, true, pl (csl L)⟩) :: (.o h2, .free) :: ([(.s y, .s (V.b (.a (.sl hy 0 m))))] ++ [(.o hy, .o ⟨Ty, 2, exy, pl (csl L2)⟩)]))
      [(.s d, some (.s (.b (.a (.sl h2 0 L3.length))))), (.o h2, some (.o ⟨e, 2, true, pl (csl L3)⟩)), (.o h, none)] := by
  subst h3
  exact acts_app hN ht hz hzc (by decide) hb (by rw [csl_len, hl]) xt (src_own (by rw [csl_len, h2'])) (csl_one' _) (by rw [List.length_append, hl, h2'] at hn; exact hn) (csl_append _ _).symm (by rw [List.length_append, hl, h2'])
theorem b0I {t e h b : Nat} {z : Value} (hN : Γ.ok d) (hu : Γ.P.underlying t = some (.slice e)) (hz : ZI Γ.P e z 1 b) : Acts Γ ⟨some d, .buildSlice t 0 #[], ty, pos, af, g⟩ [(.o h, .free)] [(.s d, some (.s (.b (.a (.sl h 0 0))))), (.o h, some (.o ⟨e, 1, true, pl (isl [])⟩))] := acts_buildSlice0' hN hu hz
theorem wnI {σ : St} {k h T : Nat} (hk : get σ (.s k) = some (.s (V.v (.slice none 0 0)))) (hh : get σ (.o h) = some .free) : Weak Γ σ ((.s k, some (.s (.b (.a (.sl h 0 0))))) :: (.o h, some (.o ⟨T, 1, true, pl (isl [])⟩)) :: σ) := weak_nil hk hh
theorem b0B {t e h b : Nat} {z : Value} (hN : Γ.ok d) (hu : Γ.P.underlying t = some (.slice e)) (hz : ZI Γ.P e z 1 b) : Acts Γ ⟨some d, .buildSlice t 0 #[], ty, pos, af, g⟩ [(.o h, .free)] [(.s d, some (.s (.b (.a (.sl h 0 0))))), (.o h, some (.o ⟨e, 1, true, pl (bsl [])⟩))] := acts_buildSlice0' hN hu hz
theorem wnB {σ : St} {k h T : Nat} (hk : get σ (.s k) = some (.s (V.v (.slice none 0 0)))) (hh : get σ (.o h) = some .free) : Weak Γ σ ((.s k, some (.s (.b (.a (.sl h 0 0))))) :: (.o h, some (.o ⟨T, 1, true, pl (bsl [])⟩)) :: σ) := weak_nil hk hh
theorem b0D {t e h b : Nat} {z : Value} (hN : Γ.ok d) (hu : Γ.P.underlying t = some (.slice e)) (hz : ZI Γ.P e z 3 b) : Acts Γ ⟨some d, .buildSlice t 0 #[], ty, pos, af, g⟩ [(.o h, .free)] [(.s d, some (.s (.b (.a (.sl h 0 0))))), (.o h, some (.o ⟨e, 3, true, pl (dsl [])⟩))] := acts_buildSlice0' hN hu hz
theorem wnD {σ : St} {k h T : Nat} (hk : get σ (.s k) = some (.s (V.v (.slice none 0 0)))) (hh : get σ (.o h) = some .free) : Weak Γ σ ((.s k, some (.s (.b (.a (.sl h 0 0))))) :: (.o h, some (.o ⟨T, 3, true, pl (dsl [])⟩)) :: σ) := weak_nil hk hh
theorem b0C {t e h b : Nat} {z : Value} (hN : Γ.ok d) (hu : Γ.P.underlying t = some (.slice e)) (hz : ZI Γ.P e z 2 b) : Acts Γ ⟨some d, .buildSlice t 0 #[], ty, pos, af, g⟩ [(.o h, .free)] [(.s d, some (.s (.b (.a (.sl h 0 0))))), (.o h, some (.o ⟨e, 2, true, pl (csl [])⟩))] := acts_buildSlice0' hN hu hz
theorem wnC {σ : St} {k h T : Nat} (hk : get σ (.s k) = some (.s (V.v (.slice none 0 0)))) (hh : get σ (.o h) = some .free) : Weak Γ σ ((.s k, some (.s (.b (.a (.sl h 0 0))))) :: (.o h, some (.o ⟨T, 2, true, pl (csl [])⟩)) :: σ) := weak_nil hk hh
/-! built structs -/
theorem bC {t : TypeId} {x y : Operand} {a b : Int} {R R' : List (Key × Cell)} (hN : Γ.ok d) (q : ∀ a b : Int, Γ.P.built t [(0, .int .i64 a), (1, .int .i64 b)] = some ([.int .i64 a, .int .i64 b] : List Value).toArray) (hx : OpV x (.int .i64 a) R) (hy : OpV y (.int .i64 b) R') :
    Acts Γ ⟨some d, .build t #[(0, x), (1, y)], ty, pos, af, g⟩ (R ++ (R' ++ [])) [(.s d, some (.s (V.av [.int .i64 a, .int .i64 b])))] := acts_build hN (OpVs.cons hx (OpVs.cons hy OpVs.nil)) (q a b)
theorem bD {t : TypeId} {x y z : Operand} {a b : Int} {c : Bool} {R R' R2 : List (Key × Cell)} (hN : Γ.ok d) (q : ∀ (a b : Int) (c : Bool), Γ.P.built t [(0, .int .i64 a), (1, .int .i64 b), (2, .bool c)] = some ([.int .i64 a, .int .i64 b, .bool c] : List Value).toArray) (hx : OpV x (.int .i64 a) R) (hy : OpV y (.int .i64 b) R') (hz : OpV z (.bool c) R2) :
    Acts Γ ⟨some d, .build t #[(0, x), (1, y), (2, z)], ty, pos, af, g⟩ (R ++ (R' ++ (R2 ++ []))) [(.s d, some (.s (V.av [.int .i64 a, .int .i64 b, .bool c])))] := acts_build hN (OpVs.cons hx (OpVs.cons hy (OpVs.cons hz OpVs.nil))) (q a b c)
end
section
variable {Γ : Cx} {ops : Array Oper} {rest : List Oper} {K : Exit → St → Prop} {σ : St} {d t : Nat} {X : V} {v : Value} {ty : TypeId} {pos : String} {af : Array Edge}
theorem zm (hk : WpL Γ ops rest K ([(.s d, some (.s X))] ++ σ)) (hr : get σ (.s t) = some (.s X) := by exact rfl) (hn : Γ.ok d := by exact ltN rfl) : WpL Γ ops (⟨some d, .move (.tmp t), ty, pos, af, none⟩ :: rest) K σ := wpc (step_plain rfl (mt hn)) (by simp only [gets, wants, List.map_cons, List.map_nil, hr]) hk
theorem za (hk : WpL Γ ops rest K ([(.s d, some (.s X))] ++ σ)) (hr : get σ (.s t) = some (.s X) := by exact rfl) (hn : Γ.ok d := by exact ltN rfl) : WpL Γ ops (⟨some d, .assign (.tmp t), ty, pos, af, none⟩ :: rest) K σ := wpc (step_plain rfl (gt hn)) (by simp only [gets, wants, List.map_cons, List.map_nil, hr]) hk
theorem zk (hk : WpL Γ ops rest K ([(.s d, some (.s (V.v v)))] ++ σ)) (hn : Γ.ok d := by exact ltN rfl) : WpL Γ ops (⟨some d, .assign (.const v), ty, pos, af, none⟩ :: rest) K σ := wpc (step_plain rfl (gc hn)) rfl hk
theorem zo {op : Op} {j dj : Nat} {b : Bool} (hk : WpL Γ ops rest K ([(.s d, none)] ++ σ)) (hj : (ops[j]?).bind (·.dst) = some dj := by exact rfl) (hr : get σ (.s dj) = some (.s (V.v (.bool (!b)))) := by exact rfl) (hn : Γ.ok d := by exact ltN rfl) : WpL Γ ops (⟨some d, op, ty, pos, af, some (j, b)⟩ :: rest) K σ := wpc (step_off (b' := !b) rfl hj (by cases b <;> decide) rfl hn) (by simp only [gets, wants, List.map_cons, List.map_nil, hr]) hk
variable {l : List Oper} {acc : Tr}
theorem zdm (hk : DW Γ l K rest (acc ++ [([(.s t, .s X)], [(.s d, some (.s X))])]) ([(.s d, some (.s X))] ++ σ)) (hr : get σ (.s t) = some (.s X) := by exact rfl) (hn : Γ.ok d := by exact ltN rfl) : DW Γ l K (⟨some d, .move (.tmp t), ty, pos, af, none⟩ :: rest) acc σ := dw_cons (step_plain rfl (mt hn)) (by simp only [gets, wants, List.map_cons, List.map_nil, hr]) hk
end
def frs : St → List Nat
  | [] => []
  | (.o h, some .free) :: r => h :: frs r
  | _ :: r => frs r
theorem wkf {Γ : Cx} {σ τ : St} (π : Nat → Nat) (h : Wk σ π (frs τ) τ) (hi : injOn π (objs τ) = true := by kernel_rfl) (hx : okw Γ.keep π (frs τ) = true := by kernel_rfl) : Weak Γ σ τ := weak_of π (frs τ) hi h hx
end Cl
end Go.Proofs.Ytgmckbchcpfhcaa
