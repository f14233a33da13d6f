
/- Freezing inside an own object. -/
import Derived.Test.YtgmckbchcpfhcaaCl17
namespace Go.Proofs.Ytgmckbchcpfhcaa
namespace Cl
open Go.ChangeShapes Go.WideShapes Go.ChangeAt Go.RowKit
theorem Sat.rnobN {Γ : Cx} {σ : St} {a : Act} {w : World} {ρ : Nat → Option Place} {I : Nat → Prop} (hs : Sat Γ σ a w ρ I) {j T s : Nat} {ex : Bool} {cs cs' : List A} (ho : get σ (.o j) = some (.o ⟨T, s, ex, cs⟩)) (hl : cs'.length ≤ cs.length)
    (hr : ∀ (i : Nat) (x' : A), cs'[i]? = some x' → ∃ x, cs[i]? = some x ∧ ∀ u, RelA ρ I w x u → RelA ρ I w x' u) (hrow : ∀ (i : Nat) (x' : A), cs'[i]? = some x' → x'.isRow = true → cs[i]? = some x' ∨ cs[i]? = some (.val (.slice none 0 0))) : Sat Γ ((.o j, some (.o ⟨T, s, ex, cs'⟩)) :: σ) a w ρ I := by
  have hgs : ∀ k, get ((Key.o j, some (Cell.o ⟨T, s, ex, cs'⟩)) :: σ) (.s k) = get σ (.s k) := fun k => get_cons_ne rfl
  have hgo : ∀ y, y ≠ j → get ((Key.o j, some (Cell.o ⟨T, s, ex, cs'⟩)) :: σ) (.o y) = get σ (.o y) := fun y hy => get_cons_ne (key_neo (fun e => hy e.symm))
  have hback : ∀ y o, get ((Key.o j, some (Cell.o ⟨T, s, ex, cs'⟩)) :: σ) (.o y) = some (.o o) → ∃ o', get σ (.o y) = some (.o o') := by
    intro y o hy
    by_cases e : y = j
    · subst e; exact ⟨_, ho⟩
    · rw [hgo y e] at hy; exact ⟨_, hy⟩
  have hin : ∀ {h i T' n s' xs b cap}, RowIn ((Key.o j, some (Cell.o ⟨T, s, ex, cs'⟩)) :: σ) w ρ h i T' n s' xs b cap → RowIn σ w ρ h i T' n s' xs b cap := by
    rintro h i T' n s' xs b cap ⟨o1, p1, q1, q2, q3, q4, q5⟩
    by_cases e : h = j
    · subst e
      rw [get_cons_eq] at q1
      injection q1 with q1; injection q1 with q1
      subst q1
      rcases hrow i _ q4 rfl with e | e
      · exact ⟨_, p1, ho, q2, q3, e, q5⟩
      · obtain ⟨p', hp', _, _, _, _, k4⟩ := hs.m.ow h _ ho
        rw [q2] at hp'; injection hp' with hp'; subst hp'
        obtain ⟨cur, c1, _, _, c4⟩ := k4 q3
        obtain ⟨u, hu, hv⟩ := c4 i _ e
        have hv : u = .slice none 0 0 := hv
        rw [World.cell?, c1] at q5
        simp [hu, hv] at q5
    · rw [hgo h e] at q1
      exact ⟨o1, p1, q1, q2, q3, q4, q5⟩
  have hrw : Rws ((Key.o j, some (Cell.o ⟨T, s, ex, cs'⟩)) :: σ) w ρ I := hs.m.rs.map (fun h i => (h, i)) hin (fun _ _ e => by injection e with e1 e2; exact ⟨e1, e2⟩) (fun hr => ⟨rfl, (hs.m.rs.ok hr).ni, (hs.m.rs.ok hr).lt⟩) fun hr h1 h2 h3 => by
    obtain ⟨o'', ho''⟩ := hback _ _ h1
    exact hs.m.rs.sep hr ho'' h2 h3
  refine ⟨hs.n, hs.d, fun k x h' hk hg hh => hs.fx k x h' hk ((hgs k) ▸ hg) hh, hs.kp, fun k v hk => hs.sl k v ((hgs k) ▸ hk), ?_⟩
  refine ⟨fun y o' hy => ?_, fun y hy => ?_, fun y p' o' hy => ?_, fun y z p1 p2 o1 o2 hy hz => ?_, hs.m.im, hrw, fun hr => hs.m.rp (hin hr), hs.m.fm⟩
  · by_cases e : y = j
    · subst e
      rw [get_cons_eq] at hy
      injection hy with hy; injection hy with hy
      subst hy
      obtain ⟨p, hp, q1, q2, q3, qz, q4⟩ := hs.m.ow y _ ho
      refine ⟨p, hp, q1, ?_, q3, qz, fun hlv => ?_⟩
      · exact Nat.le_trans hl q2
      · obtain ⟨cur, c1, c2, c3, c4⟩ := q4 hlv
        refine ⟨cur, c1, c2, c3, fun i x' hx' => ?_⟩
        obtain ⟨x, hx, hu⟩ := hr i x' hx'
        obtain ⟨u, hu1, hu2⟩ := c4 i x hx
        exact ⟨u, hu1, hu u hu2⟩
    · rw [hgo y e] at hy; exact hs.m.ow y o' hy
  · by_cases e : y = j
    · subst e; rw [get_cons_eq] at hy; injection hy with hy; cases hy
    · rw [hgo y e] at hy; exact hs.m.fr y hy
  · intro h1 h2
    obtain ⟨o'', ho''⟩ := hback y o' hy
    exact hs.m.pl y p' o'' ho'' h1 h2
  · obtain ⟨o1', h1'⟩ := hback y o1 hy
    obtain ⟨o2', h2'⟩ := hback z o2 hz
    exact hs.m.inj y z p1 p2 o1' o2' h1' h2'
theorem Sat.rnob {Γ : Cx} {σ : St} {a : Act} {w : World} {ρ : Nat → Option Place} {I : Nat → Prop} (hs : Sat Γ σ a w ρ I) {j T s : Nat} {ex : Bool} {cs cs' : List A} (ho : get σ (.o j) = some (.o ⟨T, s, ex, cs⟩)) (hl : cs'.length ≤ cs.length)
    (hr : ∀ (i : Nat) (x' : A), cs'[i]? = some x' → ∃ x, cs[i]? = some x ∧ ∀ u, RelA ρ I w x u → RelA ρ I w x' u) (hrow : ∀ (i : Nat) (x' : A), cs'[i]? = some x' → x'.isRow = true → cs[i]? = some x') : Sat Γ ((.o j, some (.o ⟨T, s, ex, cs'⟩)) :: σ) a w ρ I :=
  hs.rnobN ho hl hr fun i x' h1 h2 => .inl (hrow i x' h1 h2)
/-- a slice in an own variable that nobody writes any more -/
theorem weak_freeze_osl {Γ : Cx} {σ : St} {j To so h T s off n : Nat} {ex exo : Bool} {xs ys : List Value} (hjh : (j == h) = false) (hj : get σ (.o j) = some (.o ⟨To, so, exo, [.sl h off n]⟩)) (ho : get σ (.o h) = some (.o ⟨T, s, ex, pl xs⟩)) (hx : (off + n) * s ≤ xs.length) (hs0 : 0 < s) (hy : (xs.drop (off * s)).take (n * s) = ys) :
    Weak Γ σ ((.o j, some (.o ⟨To, so, exo, [.slv n s ys]⟩)) :: (.o h, none) :: σ) := by
  intro a w ⟨ρ, I, hs⟩
  have hyl : ys.length = n * s := by rw [← hy]; simp only [List.length_take, List.length_drop]; rw [Nat.add_mul] at hx; omega
  have hne : j ≠ h := fun e => by subst e; simp at hjh
  have hgj : get ((Key.o h, none) :: σ) (.o j) = some (.o ⟨To, so, exo, [.sl h off n]⟩) := by
    rw [get_cons_ne (key_neo (fun e => hne e.symm))]; exact hj
  have one : ∀ i (x' : A), ([A.slv n s ys] : List A)[i]? = some x' → i = 0 ∧ x' = .slv n s ys := by
    intro i x' hi
    match i, hi with
    | 0, hi => simp at hi; exact ⟨rfl, hi.symm⟩
    | i + 1, hi => simp at hi
  rcases Nat.eq_zero_or_pos n with hn | hn
  · refine ⟨ρ, I, (hs.drop h).rnob hgj (Nat.le_refl _) (fun i x' hx' => ?_) fun i x' hx' hq => (by obtain ⟨rfl, rfl⟩ := one i x' hx'; cases hq)⟩
    obtain ⟨rfl, rfl⟩ := one i x' hx'
    refine ⟨_, rfl, fun u hu => ?_⟩
    obtain ⟨p', A0, hp', he, hcap, hA⟩ := hu
    exact ⟨hyl, A0, p'.cap - off, he, by omega, fun h => by omega⟩
  · have hpos : 0 < xs.length := Nat.lt_of_lt_of_le (Nat.mul_pos (by omega) hs0) hx
    obtain ⟨p, hp, hl, hsz, hc⟩ := own_cells (hs.m.ow h _ ho) hpos
    refine ⟨ρ, _, (hs.freeze ho hp hl).rnob hgj (Nat.le_refl _) (fun i x' hx' => ?_) fun i x' hx' hq => (by obtain ⟨rfl, rfl⟩ := one i x' hx'; cases hq)⟩
    obtain ⟨rfl, rfl⟩ := one i x' hx'
    refine ⟨_, rfl, fun u hu => ?_⟩
    obtain ⟨p', A0, hp', he, hcap, hA⟩ := hu
    rw [hp] at hp'; injection hp' with hp'; subst hp'
    refine ⟨hyl, A0, p.cap - off, he, by omega, fun _ => ⟨p.block, p.base + off * s, ?_, .inr rfl, fun j x hj => ?_⟩⟩
    · rw [hA (.inr (by omega)), hl, hsz]; rfl
    · rw [Nat.add_assoc]
      apply hc
      rw [← hy, List.getElem?_take] at hj
      split at hj
      · rw [List.getElem?_drop] at hj; exact hj
      · cases hj
theorem run_eq_sl {P : Program} {xT e : Nat} {A : Option Addr} {n c : Nat} (ht : P.underlying xT = some (.slice e)) (w : World) : (Op.equalIn 10000 xT (.slice A n c) (.slice none 0 0)).run P w = .ok A.isNone w := by
  rw [show (10000 : Nat) = 9999 + 1 from rfl, Op.equalIn, Sem.run_bind, run_underlying ht]
  cases A <;> simp [go_sem]
theorem r_sneq0 {P : Program} {xT e : Nat} {x y : Operand} {A : Option Addr} {n c : Nat} {b : Bool} (ht : P.underlying xT = some (.slice e)) (hA : A.isSome = b) (w : World) : ((do eqGuard .neq xT x y (.slice A n c) (.slice none 0 0); binOp .neq xT (.slice A n c) (.slice none 0 0)) : Sem Value).run P w = .ok (.bool b) w := by
  subst hA; cases A <;> simp [eqGuard, binOp, Op.equal, Op.maxDepth, go_sem, run_eq_sl ht]
theorem r_seql0 {P : Program} {xT e : Nat} {x y : Operand} {A : Option Addr} {n c : Nat} {b : Bool} (ht : P.underlying xT = some (.slice e)) (hA : A.isNone = b) (w : World) : ((do eqGuard .eql xT x y (.slice A n c) (.slice none 0 0); binOp .eql xT (.slice A n c) (.slice none 0 0)) : Sem Value).run P w = .ok (.bool b) w := by
  subst hA; cases A <;> simp [eqGuard, binOp, Op.equal, Op.maxDepth, go_sem, run_eq_sl ht]
section
variable {Γ : Cx} {d : Nat} {ty : TypeId} {pos : String} {af : Array Edge} {g : Option (Nat × Bool)}
theorem sl_some {x : Nat} {h off n : Nat} {o : Ob} {R : List (Key × Cell)} {a : Act} {w : World} {ρ : Nat → Option Place} {I : Nat → Prop} (hn : 0 < n) (hfa : Facts ((.s x, .s (.b (.a (.sl h off n)))) :: (.o h, .o o) :: R) a w ρ I) : ∃ A c, a.eval (.tmp x) = .slice (some A) n c := by
  obtain ⟨p, A, hp, h1, h2, h3⟩ := hfa (.s x) (.s (.b (.a (.sl h off n)))) (by simp)
  obtain ⟨p', hp', hs, _, _, hz, _⟩ : Own ρ I w h o := hfa (.o h) (.o o) (by simp)
  rw [hp] at hp'; injection hp' with hp'; subst hp'
  have hlv : p.live = true := by
    rcases Bool.eq_false_or_eq_true p.live with h | h
    · exact h
    · have := hz h; omega
  have h3' := h3 (.inr (by omega))
  rw [hlv, if_pos rfl] at h3'
  subst h3'
  exact ⟨_, _, h1⟩
theorem acts_sneq {x h off n : Nat} {xT yT e : Nat} {o : Ob} (hN : Γ.ok d) (ht : Γ.P.underlying xT = some (.slice e)) (hn : 0 < n) :
    Acts Γ ⟨some d, .binOp .neq xT (.tmp x) (.const (.slice none 0 0)) yT, ty, pos, af, g⟩ ((.s x, .s (.b (.a (.sl h off n)))) :: (.o h, .o o) :: []) [(.s d, some (.s (V.v (.bool true))))] :=
  Acts.pure rfl hN fun a w ρ I hfa => by
    obtain ⟨A, c, he⟩ := sl_some hn hfa
    refine ⟨.bool true, ?_, rfl⟩
    have hr := r_sneq0 (P := Γ.P) (x := .tmp x) (y := .const (.slice none 0 0)) (A := some A) (n := n) (c := c) ht rfl w
    simp only [execOp, he, show a.eval (.const (.slice none 0 0)) = .slice none 0 0 from rfl]
    rw [Sem.run_bind, hr]; rfl
theorem acts_seql {x h off n : Nat} {xT yT e : Nat} {o : Ob} (hN : Γ.ok d) (ht : Γ.P.underlying xT = some (.slice e)) (hn : 0 < n) :
    Acts Γ ⟨some d, .binOp .eql xT (.tmp x) (.const (.slice none 0 0)) yT, ty, pos, af, g⟩ ((.s x, .s (.b (.a (.sl h off n)))) :: (.o h, .o o) :: []) [(.s d, some (.s (V.v (.bool false))))] :=
  Acts.pure rfl hN fun a w ρ I hfa => by
    obtain ⟨A, c, he⟩ := sl_some hn hfa
    refine ⟨.bool false, ?_, rfl⟩
    have hr := r_seql0 (P := Γ.P) (x := .tmp x) (y := .const (.slice none 0 0)) (A := some A) (n := n) (c := c) ht rfl w
    simp only [execOp, he, show a.eval (.const (.slice none 0 0)) = .slice none 0 0 from rfl]
    rw [Sem.run_bind, hr]; rfl
end
/-- a function whose result is nil gives an empty row -/
theorem Fn.nil_row {P : Program} {f T s : Nat} {bs : List B} (h : Fn P f bs [.val (.slice none 0 0)]) : Fn P f bs [.row T s 0 []] := by
  refine ⟨h.1, fun w args ha => (h.2 w args ha).mono ?_⟩
  rintro e w' ⟨v, rfl, hv, hb⟩
  refine ⟨v, rfl, ?_, hb⟩
  have hv : v = .slice none 0 0 := hv
  subst hv
  show w'.ownsRow w.heap.size T s (.slice none 0 0) 0 []
  unfold World.ownsRow; simp
/-- both ways through a region go on together -/
theorem wp_join {Γ : Cx} {c : Code} {K : Exit → St → Prop} {σ : St} (σ' : St) (h1 : Wp Γ c (fun e τ => e = .normal ∧ Weak Γ τ σ') σ) (h2 : K .normal σ') : Wp Γ c K σ := by
  intro a w hs
  refine wp_mono (h1 a w hs) fun e a' w' hq => ?_
  obtain ⟨τ, hτ, he, hw⟩ := hq
  subst he
  exact ⟨σ', hw a' w' hτ, h2⟩
def ReadsS (σ : St) : St → Prop
  | [] => True
  | (k, some c) :: r => get σ k = some c ∧ ReadsS σ r
  | (_, none) :: r => ReadsS σ r
theorem ReadsS.get {σ τ : St} (h : ReadsS σ τ) {k : Key} {c : Cell} (hk : Cl.get τ k = some c) : Cl.get σ k = some c := by
  induction τ with
  | nil => cases hk
  | cons a r ih =>
    obtain ⟨k', oc⟩ := a
    rcases Bool.eq_false_or_eq_true (Key.eq k' k) with e | e
    · have e2 := Key.eq_iff.1 e
      subst e2
      rw [get_cons_eq] at hk
      subst hk
      exact h.1
    · rw [get_cons_ne e] at hk
      cases oc with
      | none => exact ih h hk
      | some c' => exact ih h.2 hk
theorem weak_reads {Γ : Cx} {σ τ : St} (h : ReadsS σ τ) : Weak Γ σ τ := by
  intro a w ⟨ρ, I, hs⟩
  exact ⟨ρ, I, hs.n, hs.d, fun k x h' hf hg hh => hs.fx k x h' hf (h.get hg) hh, hs.kp, fun k v hk => hs.sl k v (h.get hk),
    ⟨fun x o ho => hs.m.ow x o (h.get ho), fun x hx => hs.m.fr x (h.get hx), fun x p o ho => hs.m.pl x p o (h.get ho), fun x y p p' o o' h1 h2 => hs.m.inj x y p p' o o' (h.get h1) (h.get h2), hs.m.im, (hs.m.rows0 fun x o ho => h.get ho).1, (hs.m.rows0 fun x o ho => h.get ho).2, hs.m.fm⟩⟩
theorem and_tt {a b : Bool} (h : (a && b) = true) : a = true ∧ b = true := by rwa [Bool.and_eq_true] at h
theorem and_ff {a b : Bool} (h : (a && b) = false) : a = false ∨ b = false := by cases a <;> cases b <;> simp_all
theorem or_ff {a b : Bool} (h : (a || b) = false) : a = false ∧ b = false := by cases a <;> cases b <;> simp_all
theorem or_tt {a b : Bool} (h : (a || b) = true) : a = true ∨ b = true := by cases a <;> cases b <;> simp_all
theorem retO3 {P : Program} {fn : Func} {r1 r2 r3 : ResultVar} {b1 b2 b3 : B} (hr : fn.results = #[r1, r2, r3]) : ∀ Γ σ a w ρ I, Γ.P = P → Sat Γ σ a w ρ I → (VO P σ r1 b1 ∧ VO P σ r2 b2 ∧ VO P σ r3 b3) → ∃ u, (results fn a.tmps).run P w = .ok u w ∧ RelV ρ I w (.tup [b1, b2, b3]) u := by
  intro Γ σ a w ρ I hP hs ⟨h1, h2, h3⟩
  subst hP
  obtain ⟨u1, hu1, hb1⟩ := VO.run hs h1
  obtain ⟨u2, hu2, hb2⟩ := VO.run hs h2
  obtain ⟨u3, hu3, hb3⟩ := VO.run hs h3
  refine ⟨_, results3 hr hu1 hu2 hu3, [u1, u2, u3], rfl, rfl, fun j x c e1 e2 => ?_⟩
  match j, e1, e2 with
  | 0, e1, e2 => simp at e1 e2; subst e1; subst e2; exact hb1
  | 1, e1, e2 => simp at e1 e2; subst e1; subst e2; exact hb2
  | 2, e1, e2 => simp at e1 e2; subst e1; subst e2; exact hb3
/-! short words for the printed walks -/
section
variable {Γ : Cx} {ops : Array Oper} {o : Oper} {rest : List Oper} {K : Exit → St → Prop} {σ : St} {R : List (Key × Cell)} {W : St}
theorem w1 (h : Acts Γ o R W) (hk : WpL Γ ops rest K (W ++ σ)) (hg : o.guard = none := by exact rfl) (hr : gets σ R = wants R := by kernel_rfl) : WpL Γ ops (o :: rest) K σ := wpc (step_plain hg h) hr hk
theorem w2 (h : StepOk Γ ops o R W) (hk : WpL Γ ops rest K (W ++ σ)) (hr : gets σ R = wants R := by kernel_rfl) : WpL Γ ops (o :: rest) K σ := wpc h hr hk
end
section
variable {Γ : Cx} {ty : TypeId} {pos : String} {af : Array Edge} {g : Option (Nat × Bool)}
theorem mv (d t : Nat) (X : V) (hN : Γ.ok d := by exact ltN rfl) : Acts Γ ⟨some d, .move (.tmp t), ty, pos, af, g⟩ [(.s t, .s X)] [(.s d, some (.s X))] := acts_move hN (OpX.tmp t X)
theorem asg (d t : Nat) (X : V) (hN : Γ.ok d := by exact ltN rfl) : Acts Γ ⟨some d, .assign (.tmp t), ty, pos, af, g⟩ [(.s t, .s X)] [(.s d, some (.s X))] := acts_assign hN (OpX.tmp t X)
theorem bn (d : Nat) {x y : Operand} {op : BinOp} {xT yT : TypeId} {u v r : Value} {R R' : List (Key × Cell)} (hx : OpV x u R) (hy : OpV y v R')
    (hr : ∀ w, ((do eqGuard op xT x y u v; binOp op xT u v) : Sem Value).run Γ.P w = .ok r w) (hN : Γ.ok d := by exact ltN rfl) : Acts Γ ⟨some d, .binOp op xT x y yT, ty, pos, af, g⟩ (R ++ R') [(.s d, some (.s (V.v r)))] := acts_bin hN hx hy hr
end
end Cl
end Go.Proofs.Ytgmckbchcpfhcaa
