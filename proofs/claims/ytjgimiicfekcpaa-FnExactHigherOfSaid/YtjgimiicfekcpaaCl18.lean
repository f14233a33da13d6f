
/- Freezing inside an own object. -/
import Derived.Test.YtjgimiicfekcpaaCl17
namespace Go.Proofs.Ytjgimiicfekcpaa
namespace Cl
open Go.ChangeShapes Go.WideShapes Go.ChangeAt Go.RowKit
theorem run_eq_sl {P : Program} {xT e : Nat} {A : Option Addr} {n c : Nat} (ht : P.underlying xT = some (.slice e)) (w : World) : (Op.equalIn 10000 xT (.slice A n c) (.slice none 0 0)).run P w = .ok A.isNone w := by
  rw [show (10000 : Nat) = 9999 + 1 from rfl, Op.equalIn, Sem.run_bind, run_underlying ht]
  cases A <;> simp [go_sem]
theorem r_sneq0 {P : Program} {xT e : Nat} {x y : Operand} {A : Option Addr} {n c : Nat} {b : Bool} (ht : P.underlying xT = some (.slice e)) (hA : A.isSome = b) (w : World) : ((do eqGuard .neq xT x y (.slice A n c) (.slice none 0 0); binOp .neq xT (.slice A n c) (.slice none 0 0)) : Sem Value).run P w = .ok (.bool b) w := by
  subst hA; cases A <;> simp [eqGuard, binOp, Op.equal, Op.maxDepth, go_sem, run_eq_sl ht]
theorem r_seql0 {P : Program} {xT e : Nat} {x y : Operand} {A : Option Addr} {n c : Nat} {b : Bool} (ht : P.underlying xT = some (.slice e)) (hA : A.isNone = b) (w : World) : ((do eqGuard .eql xT x y (.slice A n c) (.slice none 0 0); binOp .eql xT (.slice A n c) (.slice none 0 0)) : Sem Value).run P w = .ok (.bool b) w := by
  subst hA; cases A <;> simp [eqGuard, binOp, Op.equal, Op.maxDepth, go_sem, run_eq_sl ht]
section
variable {Γ : Cx} {d : Nat} {ty : TypeId} {pos : String} {af : Array Edge} {g : Option (Nat × Bool)}
theorem sl_some {x : Nat} {h off n : Nat} {o : Ob} {R : List (Key × Cell)} {a : Act} {w : World} {ρ : Nat → Option Place} {I : Nat → Prop} (hn : 0 < n) (hfa : Facts ((.s x, .s (.b (.a (.sl h off n)))) :: (.o h, .o o) :: R) a w ρ I) : ∃ A c, a.eval (.tmp x) = .slice (some A) n c := by
  obtain ⟨p, A, hp, h1, h2, h3⟩ := hfa (.s x) (.s (.b (.a (.sl h off n)))) (by simp)
  obtain ⟨p', hp', hs, _, _, hz, _⟩ : Own ρ I w h o := hfa (.o h) (.o o) (by simp)
  rw [hp] at hp'; injection hp' with hp'; subst hp'
  have hlv : p.live = true := by
    rcases Bool.eq_false_or_eq_true p.live with h | h
    · exact h
    · have := hz h; omega
  have h3' := h3 (.inr (by omega))
  rw [hlv, if_pos rfl] at h3'
  subst h3'
  exact ⟨_, _, h1⟩
theorem acts_sneq {x h off n : Nat} {xT yT e : Nat} {o : Ob} (hN : Γ.ok d) (ht : Γ.P.underlying xT = some (.slice e)) (hn : 0 < n) :
    Acts Γ ⟨some d, .binOp .neq xT (.tmp x) (.const (.slice none 0 0)) yT, ty, pos, af, g⟩ ((.s x, .s (.b (.a (.sl h off n)))) :: (.o h, .o o) :: []) [(.s d, some (.s (V.v (.bool true))))] :=
  Acts.pure rfl hN fun a w ρ I hfa => by
    obtain ⟨A, c, he⟩ := sl_some hn hfa
    refine ⟨.bool true, ?_, rfl⟩
    have hr := r_sneq0 (P := Γ.P) (x := .tmp x) (y := .const (.slice none 0 0)) (A := some A) (n := n) (c := c) ht rfl w
    simp only [execOp, he, show a.eval (.const (.slice none 0 0)) = .slice none 0 0 from rfl]
    rw [Sem.run_bind, hr]; rfl
theorem acts_seql {x h off n : Nat} {xT yT e : Nat} {o : Ob} (hN : Γ.ok d) (ht : Γ.P.underlying xT = some (.slice e)) (hn : 0 < n) :
    Acts Γ ⟨some d, .binOp .eql xT (.tmp x) (.const (.slice none 0 0)) yT, ty, pos, af, g⟩ ((.s x, .s (.b (.a (.sl h off n)))) :: (.o h, .o o) :: []) [(.s d, some (.s (V.v (.bool false))))] :=
  Acts.pure rfl hN fun a w ρ I hfa => by
    obtain ⟨A, c, he⟩ := sl_some hn hfa
    refine ⟨.bool false, ?_, rfl⟩
    have hr := r_seql0 (P := Γ.P) (x := .tmp x) (y := .const (.slice none 0 0)) (A := some A) (n := n) (c := c) ht rfl w
    simp only [execOp, he, show a.eval (.const (.slice none 0 0)) = .slice none 0 0 from rfl]
    rw [Sem.run_bind, hr]; rfl
end
/-- a function whose result is nil gives an empty row -/
theorem wp_join {Γ : Cx} {c : Code} {K : Exit → St → Prop} {σ : St} (σ' : St) (h1 : Wp Γ c (fun e τ => e = .normal ∧ Weak Γ τ σ') σ) (h2 : K .normal σ') : Wp Γ c K σ := by
  intro a w hs
  refine wp_mono (h1 a w hs) fun e a' w' hq => ?_
  obtain ⟨τ, hτ, he, hw⟩ := hq
  subst he
  exact ⟨σ', hw a' w' hτ, h2⟩
def ReadsS (σ : St) : St → Prop
  | [] => True
  | (k, some c) :: r => get σ k = some c ∧ ReadsS σ r
  | (_, none) :: r => ReadsS σ r
theorem ReadsS.get {σ τ : St} (h : ReadsS σ τ) {k : Key} {c : Cell} (hk : Cl.get τ k = some c) : Cl.get σ k = some c := by
  induction τ with
  | nil => cases hk
  | cons a r ih =>
    obtain ⟨k', oc⟩ := a
    rcases Bool.eq_false_or_eq_true (Key.eq k' k) with e | e
    · have e2 := Key.eq_iff.1 e
      subst e2
      rw [get_cons_eq] at hk
      subst hk
      exact h.1
    · rw [get_cons_ne e] at hk
      cases oc with
      | none => exact ih h hk
      | some c' => exact ih h.2 hk
theorem weak_reads {Γ : Cx} {σ τ : St} (h : ReadsS σ τ) : Weak Γ σ τ := by
  intro a w ⟨ρ, I, hs⟩
  exact ⟨ρ, I, hs.n, hs.d, fun k x h' hf hg hh => hs.fx k x h' hf (h.get hg) hh, hs.kp, fun k v hk => hs.sl k v (h.get hk),
    ⟨fun x o ho => hs.m.ow x o (h.get ho), fun x hx => hs.m.fr x (h.get hx), fun x p o ho => hs.m.pl x p o (h.get ho), fun x y p p' o o' h1 h2 => hs.m.inj x y p p' o o' (h.get h1) (h.get h2), hs.m.im, hs.m.fm⟩⟩
theorem and_tt {a b : Bool} (h : (a && b) = true) : a = true ∧ b = true := by rwa [Bool.and_eq_true] at h
theorem and_ff {a b : Bool} (h : (a && b) = false) : a = false ∨ b = false := by cases a <;> cases b <;> simp_all
theorem or_ff {a b : Bool} (h : (a || b) = false) : a = false ∧ b = false := by cases a <;> cases b <;> simp_all
theorem or_tt {a b : Bool} (h : (a || b) = true) : a = true ∨ b = true := by cases a <;> cases b <;> simp_all
theorem retO3 {P : Program} {fn : Func} {r1 r2 r3 : ResultVar} {b1 b2 b3 : B} (hr : fn.results = #[r1, r2, r3]) : ∀ Γ σ a w ρ I, Γ.P = P → Sat Γ σ a w ρ I → (VO P σ r1 b1 ∧ VO P σ r2 b2 ∧ VO P σ r3 b3) → ∃ u, (results fn a.tmps).run P w = .ok u w ∧ RelV ρ I w (.tup [b1, b2, b3]) u := by
  intro Γ σ a w ρ I hP hs ⟨h1, h2, h3⟩
  subst hP
  obtain ⟨u1, hu1, hb1⟩ := VO.run hs h1
  obtain ⟨u2, hu2, hb2⟩ := VO.run hs h2
  obtain ⟨u3, hu3, hb3⟩ := VO.run hs h3
  refine ⟨_, results3 hr hu1 hu2 hu3, [u1, u2, u3], rfl, rfl, fun j x c e1 e2 => ?_⟩
  match j, e1, e2 with
  | 0, e1, e2 => simp at e1 e2; subst e1; subst e2; exact hb1
  | 1, e1, e2 => simp at e1 e2; subst e1; subst e2; exact hb2
  | 2, e1, e2 => simp at e1 e2; subst e1; subst e2; exact hb3
/-! short words for the printed walks -/
section
variable {Γ : Cx} {ops : Array Oper} {o : Oper} {rest : List Oper} {K : Exit → St → Prop} {σ : St} {R : List (Key × Cell)} {W : St}
theorem w1 (h : Acts Γ o R W) (hk : WpL Γ ops rest K (W ++ σ)) (hg : o.guard = none := by exact rfl) (hr : gets σ R = wants R := by kernel_rfl) : WpL Γ ops (o :: rest) K σ := wpc (step_plain hg h) hr hk
theorem w2 (h : StepOk Γ ops o R W) (hk : WpL Γ ops rest K (W ++ σ)) (hr : gets σ R = wants R := by kernel_rfl) : WpL Γ ops (o :: rest) K σ := wpc h hr hk
end
section
variable {Γ : Cx} {ty : TypeId} {pos : String} {af : Array Edge} {g : Option (Nat × Bool)}
end
end Cl
end Go.Proofs.Ytjgimiicfekcpaa
