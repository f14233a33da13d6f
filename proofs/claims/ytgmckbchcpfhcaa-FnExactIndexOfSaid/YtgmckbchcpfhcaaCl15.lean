
/- Calls of callees that write their caller's objects; their contracts under other names. -/
import Derived.Test.YtgmckbchcpfhcaaCl14
namespace Go.Proofs.Ytgmckbchcpfhcaa
namespace Cl
open Go.ChangeShapes Go.WideShapes Go.ChangeAt Go.RowKit

/-- the objects as what is read -/
def oR (os : St) : List (Key × Cell) := os.filterMap fun kc => kc.2.map fun c => (kc.1, c)
theorem oR_get {os : St} (hos : osOk os = true) {h : Nat} {o : Ob} (hg : get os (.o h) = some (.o o)) : ((.o h : Key), (.o o : Cell)) ∈ oR os := by
  induction os with
  | nil => cases hg
  | cons a r ih =>
    match a, hos with
    | (.o y, some (.o o')), hos =>
      simp only [get] at hg
      rcases Bool.eq_false_or_eq_true (Key.eq (.o y) (.o h)) with e | e <;> rw [e] at hg
      · have := Key.eq_iff.1 e
        injection this with this
        subst this
        simp only [cond_true] at hg
        injection hg with hg; injection hg with hg
        subst hg
        simp [oR]
      · have := ih hos hg
        simp only [oR, List.filterMap_cons, Option.map_some] at this ⊢
        exact List.mem_cons_of_mem _ this
inductive ArgO : Operand → B → List (Key × Cell) → Prop
  | v {x : Operand} {v : Value} {R : List (Key × Cell)} (h : OpV x v R) : ArgO x (.a (.val v)) R
  | va {x : Operand} {vs : List Value} {R : List (Key × Cell)} (h : OpV x (.agg vs.toArray) R) : ArgO x (.agg (vs.map A.val)) R
  | slot (t : Nat) (b : B) : ArgO (.tmp t) b [(.s t, .s (.b b))]
  | fn (f : Nat) : ArgO (.func f) (.a (.fn f [])) []
theorem ArgO.ok {Γ : Cx} {σ : St} {a : Act} {w : World} {ρ : Nat → Option Place} {I : Nat → Prop} (hs : Sat Γ σ a w ρ I) {x : Operand} {b : B} {R : List (Key × Cell)} (h : ArgO x b R) (hR : ∀ kv ∈ R, get σ kv.1 = some kv.2) : RelB ρ I w b (a.eval x) := by
  have hf := facts_of hs hR
  cases h with
  | v h => exact h.ev hf
  | va h => rw [h.ev hf]; exact relav_mk _
  | slot t b => exact hf (.s t) (.s (.b b)) (List.mem_singleton.2 rfl)
  | fn f => exact ⟨[], rfl, rfl, fun j h hj => by simp at hj⟩
inductive ArgOs : List Operand → List B → List (Key × Cell) → Prop
  | nil : ArgOs [] [] []
  | cons {x : Operand} {b : B} {R R' : List (Key × Cell)} {xs : List Operand} {bs : List B} (h : ArgO x b R) (hs : ArgOs xs bs R') : ArgOs (x :: xs) (b :: bs) (R ++ R')
theorem ArgOs.ok {Γ : Cx} {σ : St} {a : Act} {w : World} {ρ : Nat → Option Place} {I : Nat → Prop} (hs : Sat Γ σ a w ρ I) {xs : List Operand} {bs : List B} {R : List (Key × Cell)} (h : ArgOs xs bs R) (hR : ∀ kv ∈ R, get σ kv.1 = some kv.2) : ArgsO ρ I w bs (xs.map a.eval) := by
  induction h with
  | nil => exact ⟨rfl, fun j b u h => by simp at h⟩
  | cons h hr ih =>
    obtain ⟨h1, h2⟩ := ih fun kv hk => hR kv (by simp [hk])
    refine ⟨by simpa using h1, fun j b u hb hu => ?_⟩
    cases j with
    | zero => simp at hb hu; subst hb; subst hu; exact h.ok hs (fun kv hk => hR kv (by simp [hk]))
    | succ j => exact h2 j b u (by simpa using hb) (by simpa using hu)
theorem objs_of {Γ : Cx} {σ : St} {a : Act} {w : World} {ρ : Nat → Option Place} {I : Nat → Prop} (hs : Sat Γ σ a w ρ I) {os : St} (hos : osOk os = true) (hR : ∀ kv ∈ oR os, get σ kv.1 = some kv.2) : Objs ρ I w os := by
  have g : ∀ h o, get os (.o h) = some (.o o) → get σ (.o h) = some (.o o) := fun h o ho => hR _ (oR_get hos ho)
  refine ⟨fun h o ho => hs.m.ow h o (g h o ho), fun h o p ho hp hl => ?_, fun h h' p p' o o' ho ho' hp hp' hl hl' e => hs.m.inj h h' p p' o o' (g h o ho) (g h' o' ho') hp hp' hl hl' e, hs.m.im, (hs.m.rows0 g).1⟩
  obtain ⟨q1, q2, q3⟩ := hs.m.pl h p o (g h o ho) hp hl
  exact ⟨q1, q3⟩
def deadS (dead : List Nat) : St := dead.map fun h => (Key.o h, none)
theorem dead_s (dead : List Nat) (k : Nat) : has (deadS dead) (.s k) = false := by
  induction dead with
  | nil => rfl
  | cons a l ih => simp only [deadS, List.map_cons, has]; exact ih
theorem dead_has {dead : List Nat} {h : Nat} (hh : dead.contains h = true) : has (deadS dead) (.o h) = true := by
  induction dead with
  | nil => simp at hh
  | cons a l ih =>
    simp only [deadS, List.map_cons, has, Bool.or_eq_true]
    rw [List.contains_cons, Bool.or_eq_true] at hh
    rcases hh with hh | hh
    · left; rw [Key.eq_iff, eq_of_beq hh]
    · exact .inr (ih hh)
theorem dead_get {dead : List Nat} {k : Key} : get (deadS dead) k = none := by
  induction dead with
  | nil => rfl
  | cons a l ih =>
    simp only [deadS, List.map_cons, get]
    rcases Bool.eq_false_or_eq_true (Key.eq (.o a) k) with e | e <;> rw [e]
    · rfl
    · exact ih
theorem sat_after {Γ : Cx} {σ : St} {a : Act} {w w' : World} {ρ : Nat → Option Place} {I : Nat → Prop} (hs : Sat Γ σ a w ρ I) {os os' : St} {keep : List Nat} (dead : List Nat) (hos : osOk os = true) (hos' : osOk os' = true) (hR : ∀ kv ∈ oR os, get σ kv.1 = some kv.2)
    (hn : ∀ x, has os' (.o x) = true → x ∈ keep ∨ get σ (.o x) = some .free) (hd : ∀ x, has os (.o x) = true → has os' (.o x) = true ∨ dead.contains x = true) (hco : OCells (fun x => x.hOk os' = true) os') {r : V} {u : Value} (hrn : r.hOk os' = true) (hL : Left ρ I w os r os' keep u w') : ∃ ρ2 I2, Sat Γ (os' ++ (deadS dead ++ σ)) a w' ρ2 I2 ∧ RelV ρ2 I2 w' r u := by
  obtain ⟨ρ', I', hkeep, hobj, hrel, hi1, hi2, f1, f2, f3, f4, f5⟩ := hL
  let ρ2 : Nat → Option Place := fun h => if has os' (.o h) then ρ' h else ρ h
  let I2 : Nat → Prop := fun b => I b ∨ I' b
  have g : ∀ h o, get os (.o h) = some (.o o) → get σ (.o h) = some (.o o) := fun h o ho => hR _ (oR_get hos ho)
  have r1 : ∀ h, has os' (.o h) = true → ρ2 h = ρ' h := fun h hh => by simp [ρ2, hh]
  have r0 : ∀ h, has os' (.o h) = false → ρ2 h = ρ h := fun h hh => by simp [ρ2, hh]
  have hρ : ∀ h p, ρ h = some p → ρ2 h = some p := fun h p hp => by
    cases hh : has os' (.o h)
    · rw [r0 h hh]; exact hp
    · rw [r1 h hh]
      rcases hn h hh with q | q
      · rw [hkeep h q]; exact hp
      · rw [hs.m.fr h q] at hp; cases hp
  have hrσ : ∀ {h j T n s xs b cap}, RowIn os w ρ h j T n s xs b cap → RowIn σ w ρ h j T n s xs b cap := fun ⟨o, p, q1, q⟩ => ⟨o, p, g _ _ q1, q⟩
  have hblk : ∀ b, I b → ¬ blkO ρ w os b := fun b hb hq => by
    rcases hq with ⟨h, o, p, ho, hp, hl, e⟩ | ⟨h, j, T, n, s, xs, cap, hr⟩
    · exact (hs.m.pl h p o (g h o ho) hp hl).1 (e ▸ hb)
    · exact (hs.m.rs.ok (hrσ hr)).ni hb
  have hI : ∀ b, I b → I2 b ∧ w'.heap[b]? = w.heap[b]? := fun b hb => ⟨.inl hb, f5 b (hs.m.im b hb) (hblk b hb)⟩
  have gs : ∀ k, get (os' ++ (deadS dead ++ σ)) (.s k) = get σ (.s k) := fun k => by rw [get_app, osOk_hs hos', get_app, dead_s]; simp
  -- an object behind the call: of the callee's, or an elder one that the callee never saw
  have go : ∀ h o, get (os' ++ (deadS dead ++ σ)) (.o h) = some (.o o) → (has os' (.o h) = true ∧ get os' (.o h) = some (.o o)) ∨ (has os' (.o h) = false ∧ has os (.o h) = false ∧ get σ (.o h) = some (.o o)) := fun h o ho => by
    rw [get_app] at ho
    cases hh : has os' (.o h)
    · rw [hh] at ho
      simp only [Bool.false_eq_true, if_false] at ho
      rw [get_app] at ho
      cases hq : has (deadS dead) (.o h)
      · rw [hq] at ho
        simp only [Bool.false_eq_true, if_false] at ho
        refine .inr ⟨rfl, ?_, ho⟩
        cases hz : has os (.o h)
        · rfl
        · rcases hd h hz with q | q
          · rw [hh] at q; cases q
          · rw [dead_has q] at hq; cases hq
      · rw [hq] at ho; simp only [if_true] at ho
        rw [dead_get] at ho; cases ho
    · rw [hh] at ho; simp only [if_true] at ho
      exact .inl ⟨rfl, ho⟩
  have notin : ∀ h o p, has os (.o h) = false → get σ (.o h) = some (.o o) → ρ h = some p → p.live = true → ¬ blkO ρ w os p.block := fun h o p hh ho hp hl hq => by
    rcases hq with ⟨h1, o1, p1, ho1, hp1, hl1, e⟩ | ⟨h1, j, T, n, s, xs, cap, hr⟩
    rotate_left
    · exact hs.m.rs.sep (hrσ hr) ho hp hl rfl
    have := hs.m.inj h1 h p1 p o1 o (g h1 o1 ho1) ho hp1 hp hl1 hl e
    subst this
    rw [has_of_get ho1] at hh; cases hh
  have notinR : ∀ {h j T n s xs b cap}, has os (.o h) = false → RowIn σ w ρ h j T n s xs b cap → ¬ blkO ρ w os b := fun {h j T n s xs b cap} hh hr hq => by
    rcases hq with ⟨h1, o1, p1, ho1, hp1, hl1, e⟩ | ⟨h1, j1, T1, n1, s1, xs1, cap1, hr1⟩
    · exact hs.m.rs.sep hr (g h1 o1 ho1) hp1 hl1 e
    · have := (hs.m.rs.inj hr (hrσ hr1)).1
      subst this
      obtain ⟨o1, p1, ho1, _⟩ := hr1
      rw [has_of_get ho1] at hh; cases hh
  have hold : ∀ b, blkO ρ w os b → Γ.own b ∨ Γ.W.heap.size ≤ b := fun b hq => by
    rcases hq with ⟨h, o, p, ho, hp, hl, e⟩ | ⟨h, j, T, n, s, xs, cap, hr⟩
    · exact e ▸ (hs.m.pl h p o (g h o ho) hp hl).2.1
    · exact hs.m.rp (hrσ hr)
  have hin : ∀ {h j T n s xs b cap}, RowIn (os' ++ (deadS dead ++ σ)) w' ρ2 h j T n s xs b cap → RowIn os' w' ρ' h j T n s xs b cap ∨ (has os (.o h) = false ∧ RowIn σ w ρ h j T n s xs b cap) := by
    rintro h j T n s xs b cap ⟨o, p, q1, q2, q3, q4, q5⟩
    rcases go h o q1 with ⟨a1, a2⟩ | ⟨a1, a2, a3⟩
    · exact .inl ⟨o, p, a2, (r1 h a1) ▸ q2, q3, q4, q5⟩
    · have hp := (r0 h a1) ▸ q2
      refine .inr ⟨a2, o, p, a3, hp, q3, q4, ?_⟩
      rw [← World.cell?_of_block (w := w) (w' := w') (f5 _ (hs.m.pl h p o a3 hp q3).2.2 (notin h o p a2 a3 hp q3))]
      exact q5
  have hnew : ∀ {h j T n s xs b cap}, RowIn os' w' ρ' h j T n s xs b cap → blkO ρ w os b ∨ w.heap.size ≤ b := fun {h j T n s xs b cap} hr => hi2 b (.inr ⟨h, j, T, n, s, xs, cap, hr⟩)
  have hrw : Rws (os' ++ (deadS dead ++ σ)) w' ρ2 I2 := by
    refine ⟨fun hr => ?_, fun hr h1 h2 h3 => ?_, fun hr hr' => ?_⟩
    · rcases hin hr with hr | ⟨hh, hr⟩
      · obtain ⟨k1, k2, k3, k4, k5, k6⟩ := hobj.rs.ok hr
        refine ⟨k1, k2, k3, k4, fun hi => hi.elim (fun hi => ?_) k5, k6⟩
        rcases hnew hr with q | q
        · exact hblk _ hi q
        · have := hs.m.im _ hi; omega
      · obtain ⟨⟨cur, c1, c2, c3⟩, k2, k3, k4, k5, k6⟩ := hs.m.rs.ok hr
        have hnb := notinR hh hr
        refine ⟨⟨cur, (f5 _ k6 hnb).trans c1, c2, c3⟩, k2, k3, k4, fun hi => hi.elim k5 fun hi => ?_, Nat.lt_of_lt_of_le k6 f4⟩
        rcases hi1 _ hi with z | z | z
        · exact k5 z
        · exact hnb z
        · omega
    · rename_i h0 j0 T0 n0 s0 xs0 b cap0 h' o' p'
      rcases hin hr with hr | ⟨hh, hr⟩ <;> rcases go h' o' h1 with ⟨a1, a2⟩ | ⟨a1, a2, a3⟩
      · exact hobj.rs.sep hr a2 ((r1 h' a1) ▸ h2) h3
      · intro e
        have hp := (r0 h' a1) ▸ h2
        rcases hnew hr with q | q
        · exact notin h' o' p' a2 a3 hp h3 (e ▸ q)
        · have := (hs.m.pl h' p' o' a3 hp h3).2.2
          omega
      · intro e
        rcases hi2 p'.block (.inl ⟨h', o', p', a2, (r1 h' a1) ▸ h2, h3, rfl⟩) with q | q
        · exact notinR hh hr (e ▸ q)
        · have := (hs.m.rs.ok hr).lt
          omega
      · exact hs.m.rs.sep hr a3 ((r0 h' a1) ▸ h2) h3
    · have cross : ∀ {h j T n s xs b cap h' j' T' n' s' xs' cap'}, RowIn os' w' ρ' h j T n s xs b cap → has os (.o h') = false → RowIn σ w ρ h' j' T' n' s' xs' b cap' → False := fun q1 q2 q3 => by
        rcases hnew q1 with q | q
        · exact notinR q2 q3 q
        · have := (hs.m.rs.ok q3).lt
          omega
      rcases hin hr with hr | ⟨hh, hr⟩ <;> rcases hin hr' with hr' | ⟨hh', hr'⟩
      · exact hobj.rs.inj hr hr'
      · exact (cross hr hh' hr').elim
      · exact (cross hr' hh hr).elim
      · exact hs.m.rs.inj hr hr'
  have hrp : ∀ {h j T n s xs b cap}, RowIn (os' ++ (deadS dead ++ σ)) w' ρ2 h j T n s xs b cap → Γ.own b ∨ Γ.W.heap.size ≤ b := fun hr => by
    rcases hin hr with hr | ⟨hh, hr⟩
    · rcases hnew hr with q | q
      · exact hold _ q
      · exact .inr (Nat.le_trans hs.m.fm.2.2.2.1 q)
    · exact hs.m.rp hr
  refine ⟨ρ2, I2, ?_, hrel.to hrn (fun h p hh hp => (r1 h hh).trans hp) (fun b hb => .inr hb)⟩
  refine ⟨hs.n, hs.d, fun k x h' hf hg hh => ?_, ⟨fun y hy => ?_, fun b hb => ?_⟩, fun k v hv => (hs.sl k v ((gs k) ▸ hv)).mono hρ hI, fun h o ho => ?_, fun h hfr => ?_, fun h p o ho hp hl => ?_, fun h h' p p' o o' ho ho' hp hp' hl hl' e => ?_, fun b hb => ?_, hrw, hrp, ?_⟩
  · obtain ⟨q, e1, e2⟩ := hs.fx k x h' hf ((gs k) ▸ hg) hh
    exact ⟨q, e1, hρ _ _ e2⟩
  · obtain ⟨q, e1, e2⟩ := hs.kp.1 y hy
    exact ⟨q, e1, hρ _ _ e2⟩
  · rcases hb with hb | hb
    · exact hs.kp.2 b hb
    · rcases hi1 b hb with q | q | q
      · exact hs.kp.2 b q
      · exact .inr (hold b q)
      · exact .inr (.inr (Nat.le_trans hs.m.fm.2.2.2.1 q))
  · rcases go h o ho with ⟨a1, a2⟩ | ⟨a1, a2, a3⟩
    · exact (hobj.ow h o a2).to a1 (hco.get hos' a2) (fun h p hh hp => (r1 h hh).trans hp) (fun b hb => .inr hb)
    · exact (hs.m.ow h o a3).mono hρ hI fun p hp hl => f5 _ (hs.m.pl h p o a3 hp hl).2.2 (notin h o p a2 a3 hp hl)
  · rw [get_app] at hfr
    cases hh : has os' (.o h)
    · rw [hh] at hfr
      simp only [Bool.false_eq_true, if_false] at hfr
      rw [get_app] at hfr
      cases hq : has (deadS dead) (.o h)
      · rw [hq] at hfr; simp only [Bool.false_eq_true, if_false] at hfr
        rw [r0 h hh]; exact hs.m.fr h hfr
      · rw [hq] at hfr; simp only [if_true] at hfr
        rw [dead_get] at hfr; cases hfr
    · obtain ⟨o', ho'⟩ := osOk_o hos' hh
      rw [hh] at hfr; simp only [if_true] at hfr
      rw [ho'] at hfr; cases hfr
  · rcases go h o ho with ⟨a1, a2⟩ | ⟨a1, a2, a3⟩
    · rw [r1 h a1] at hp
      obtain ⟨q1, q2⟩ := hobj.pl h o p a2 hp hl
      rcases hi2 p.block (.inl ⟨h, o, p, a2, hp, hl, rfl⟩) with q | q
      · exact ⟨fun hi => hi.elim (fun hi => hblk _ hi q) q1, hold _ q, q2⟩
      · exact ⟨fun hi => hi.elim (fun hi => by have := hs.m.im _ hi; omega) q1, .inr (Nat.le_trans hs.m.fm.2.2.2.1 q), q2⟩
    · rw [r0 h a1] at hp
      obtain ⟨q1, q2, q3⟩ := hs.m.pl h p o a3 hp hl
      refine ⟨fun hi => hi.elim q1 fun hi => ?_, q2, Nat.lt_of_lt_of_le q3 f4⟩
      rcases hi1 _ hi with z | z | z
      · exact q1 z
      · exact notin h o p a2 a3 hp hl z
      · omega
  · have cross : ∀ h h' p p' o o', has os' (.o h) = true → get os' (.o h) = some (.o o) → ρ' h = some p → p.live = true → has os (.o h') = false → get σ (.o h') = some (.o o') → ρ h' = some p' → p'.live = true → p.block = p'.block → False := fun h h' p p' o o' a1 a2 a3 a4 b1 b2 b3 b4 e => by
      rcases hi2 p.block (.inl ⟨h, o, p, a2, a3, a4, rfl⟩) with q | q
      · exact notin h' o' p' b1 b2 b3 b4 (e ▸ q)
      · have := (hs.m.pl h' p' o' b2 b3 b4).2.2
        omega
    rcases go h o ho with ⟨a1, a2⟩ | ⟨a1, a2, a3⟩ <;> rcases go h' o' ho' with ⟨b1, b2⟩ | ⟨b1, b2, b3⟩
    · rw [r1 h a1] at hp; rw [r1 h' b1] at hp'
      exact hobj.inj h h' p p' o o' a2 b2 hp hp' hl hl' e
    · rw [r1 h a1] at hp; rw [r0 h' b1] at hp'
      exact (cross h h' p p' o o' a1 a2 hp hl b2 b3 hp' hl' e).elim
    · rw [r0 h a1] at hp; rw [r1 h' b1] at hp'
      exact (cross h' h p' p o' o b1 b2 hp' hl' a2 a3 hp hl e.symm).elim
    · rw [r0 h a1] at hp; rw [r0 h' b1] at hp'
      exact hs.m.inj h h' p p' o o' a3 b3 hp hp' hl hl' e
  · rcases hb with hb | hb
    · exact Nat.lt_of_lt_of_le (hs.m.im b hb) f4
    · exact hobj.im b hb
  · obtain ⟨h1, h2, h3, h4, h5⟩ := hs.m.fm
    refine ⟨f1.trans h1, f2.trans h2, f3.trans h3, Nat.le_trans h4 f4, fun b hlt hno => ?_⟩
    refine (f5 b (Nat.lt_of_lt_of_le hlt h4) fun hq => ?_).trans (h5 b hlt hno)
    rcases hold b hq with q | q
    · exact hno q
    · omega
/-- the names' check at a call, as what is read: new names are free -/
def freeR (new : List Nat) : List (Key × Cell) := new.map fun h => (Key.o h, Cell.free)
def callOk (os os' : St) (keep new dead : List Nat) : Bool := osOk os && osOk os' && (objs os').all (fun h => keep.contains h || new.contains h) && (objs os).all (fun h => has os' (.o h) || dead.contains h)
theorem has_objs {os : St} (hos : osOk os = true) {h : Nat} : has os (.o h) = true ↔ h ∈ objs os := by
  induction os with
  | nil => simp [has, objs]
  | cons a r ih =>
    match a, hos with
    | (.o y, some (.o o)), hos =>
      simp only [has, objs, Bool.or_eq_true, List.mem_cons, ih hos]
      rw [Key.eq_iff]
      constructor
      · rintro (e | e)
        · injection e with e; exact .inl e.symm
        · exact .inr e
      · rintro (e | e)
        · exact .inl (by rw [e])
        · exact .inr e
theorem sat_call {Γ : Cx} {σ : St} {a : Act} {w w' : World} {ρ : Nat → Option Place} {I : Nat → Prop} (hs : Sat Γ σ a w ρ I) {os os' : St} {keep new dead : List Nat} (hok : callOk os os' keep new dead = true) (hR : ∀ kv ∈ oR os, get σ kv.1 = some kv.2) (hF : ∀ kv ∈ freeR new, get σ kv.1 = some kv.2)
    (hco : OCells (fun x => x.hOk os' = true) os') {r : V} {u : Value} (hrn : r.hOk os' = true) (hL : Left ρ I w os r os' keep u w') : ∃ ρ2 I2, Sat Γ (os' ++ (deadS dead ++ σ)) a w' ρ2 I2 ∧ RelV ρ2 I2 w' r u := by
  unfold callOk at hok
  simp only [Bool.and_eq_true] at hok
  obtain ⟨⟨⟨h1, h2⟩, h3⟩, h4⟩ := hok
  rw [List.all_eq_true] at h3 h4
  refine sat_after hs dead h1 h2 hR (fun x hx => ?_) (fun x hx => ?_) hco hrn hL
  · have := h3 x ((has_objs h2).1 hx)
    rw [Bool.or_eq_true] at this
    rcases this with q | q
    · exact .inl (by simpa using q)
    · exact .inr (hF (.o x, .free) (by simp only [freeR, List.mem_map]; exact ⟨x, by simpa using q, rfl⟩))
  · have := h4 x ((has_objs h1).1 hx)
    rwa [Bool.or_eq_true] at this
section
variable {Γ : Cx} {d : Nat} {ty : TypeId} {pos : String} {af : Array Edge} {g : Option (Nat × Bool)}
theorem Sat.assoc {Γ : Cx} {A B C : St} {a : Act} {w : World} {ρ : Nat → Option Place} {I : Nat → Prop} (h : Sat Γ (A ++ (B ++ C)) a w ρ I) : Sat Γ ((A ++ B) ++ C) a w ρ I := by rwa [List.append_assoc]
theorem acts_callO {f : Nat} {xs : List Operand} {bs : List B} {os os' : St} {r : V} {keep new dead : List Nat} {R : List (Key × Cell)} {tys : Array TypeId} (hN : Γ.ok d) (hF : FnO Γ.P f bs os r os' keep) (hok : callOk os os' keep new dead = true)
    (hco : OCells (fun x => x.hOk os' = true) os') (hrn : r.hOk os' = true) (hx : ArgOs xs bs R) :
    Acts Γ ⟨some d, .call { callee := .value (.func f), args := xs.toArray, argTypes := tys }, ty, pos, af, g⟩ (R ++ (oR os ++ freeR new)) ((.s d, some (.s r)) :: (os' ++ deadS dead)) := by
  intro σ a w ρ I hs hR K Q hK
  obtain ⟨hcl, hF⟩ := hF
  have hobj := objs_of hs (os := os) (by unfold callOk at hok; simp only [Bool.and_eq_true] at hok; exact hok.1.1.1) (fun kv hk => hR kv (by simp [hk]))
  have hargs := hx.ok hs (fun kv hk => hR kv (by simp [hk]))
  unfold Oper.wp
  rw [run_call (f := f) (xs := xs) (tys := tys) rfl rfl hcl w]
  rw [Oper.upon_enter]
  refine (hF w _ _ _ hobj hargs).mono fun e w' h => ?_
  obtain ⟨u, rfl, hL⟩ := h
  obtain ⟨ρ2, I2, h3, h4⟩ := sat_call hs hok (fun kv hk => hR kv (by simp [hk])) (fun kv hk => hR kv (by simp [hk])) hco hrn hL
  exact hK _ _ ⟨ρ2, I2, h3.assoc.put (V := r) hN h4⟩
theorem acts_callOn {f : Nat} {xs : List Operand} {bs : List B} {os os' : St} {r : V} {keep new dead : List Nat} {R : List (Key × Cell)} {tys : Array TypeId} (hF : FnO Γ.P f bs os r os' keep) (hok : callOk os os' keep new dead = true)
    (hco : OCells (fun x => x.hOk os' = true) os') (hrn : r.hOk os' = true) (hx : ArgOs xs bs R) :
    Acts Γ ⟨none, .call { callee := .value (.func f), args := xs.toArray, argTypes := tys }, ty, pos, af, g⟩ (R ++ (oR os ++ freeR new)) (os' ++ deadS dead) := by
  intro σ a w ρ I hs hR K Q hK
  obtain ⟨hcl, hF⟩ := hF
  have hobj := objs_of hs (os := os) (by unfold callOk at hok; simp only [Bool.and_eq_true] at hok; exact hok.1.1.1) (fun kv hk => hR kv (by simp [hk]))
  have hargs := hx.ok hs (fun kv hk => hR kv (by simp [hk]))
  unfold Oper.wp
  rw [run_call (f := f) (xs := xs) (tys := tys) rfl rfl hcl w]
  rw [Oper.upon_enter]
  refine (hF w _ _ _ hobj hargs).mono fun e w' h => ?_
  obtain ⟨u, rfl, hL⟩ := h
  obtain ⟨ρ2, I2, h3, h4⟩ := sat_call hs hok (fun kv hk => hR kv (by simp [hk])) (fun kv hk => hR kv (by simp [hk])) hco hrn hL
  exact hK _ _ ⟨ρ2, I2, h3.assoc⟩
theorem run_callV {P : Program} {ev : Operand → Value} {o : Oper} {f t : Nat} {xs : List Operand} {tys : Array TypeId} {vs : List Value} (ho : o.op = .call { callee := .value (.tmp t), args := xs.toArray, argTypes := tys }) (hev : ev (.tmp t) = .func (.func f) #[] vs.toArray) (hc : Callable P f) (w : World) :
    (execOp ev o).run P w = .ok (.enter f (xs.map ev ++ vs).toArray) w := by
  obtain ⟨fn, h1, h2, h3⟩ := hc
  simp only [execOp, ho, resolve, hev, Deferred.ofValue, List.map_toArray]
  have h3' : ¬ fn.body.isNone = true := by rw [h3]; simp
  simp only [Sem.run_bind, Sem.run_pure, Result.andThen_ok, invoke, callFunc]
  simp only [program, Sem.run, h1, h2, h3', Result.andThen_ok, if_false, Bool.false_eq_true]
  simp [go_sem]
theorem argsV {σ : St} {a : Act} {w : World} {ρ : Nat → Option Place} {I : Nat → Prop} (hs : Sat Γ σ a w ρ I) {f t : Nat} {caps : List Nat} {xs : List Operand} {bs : List B} {R : List (Key × Cell)} (hx : ArgOs xs bs R) (hR : ∀ kv ∈ R, get σ kv.1 = some kv.2) (ht : get σ (.s t) = some (.s (.b (.a (.fn f caps))))) :
    ∃ vs : List Value, a.eval (.tmp t) = .func (.func f) #[] vs.toArray ∧ ArgsO ρ I w (bs ++ caps.map fun h => B.a (.ptr h 0)) (xs.map a.eval ++ vs) := by
  obtain ⟨a1, a2⟩ := hx.ok hs hR
  have hfn : RelA ρ I w (.fn f caps) (a.eval (.tmp t)) := hs.sl t _ ht
  obtain ⟨vs, he, hvl, hvc⟩ := hfn
  refine ⟨vs, he, by simp [a1, hvl], fun j b u hb hu => ?_⟩
  have hal : (xs.map a.eval).length = bs.length := a1
  by_cases hj : j < bs.length
  · rw [List.getElem?_append_left hj] at hb
    rw [List.getElem?_append_left (by omega)] at hu
    exact a2 j b u hb hu
  · rw [List.getElem?_append_right (by omega)] at hb
    rw [List.getElem?_append_right (by omega)] at hu
    rw [hal] at hu
    rw [List.getElem?_map] at hb
    cases hq : caps[j - bs.length]? with
    | none => rw [hq] at hb; simp at hb
    | some h =>
      rw [hq] at hb; simp at hb; subst hb
      obtain ⟨p, hp, hv⟩ := hvc _ h hq
      rw [hv] at hu; injection hu with hu; subst hu
      exact ⟨p, hp, rfl⟩
/-- the call of a function value: its captured names follow the arguments -/
theorem acts_callV {f t : Nat} {caps : List Nat} {xs : List Operand} {bs : List B} {os os' : St} {r : V} {keep new dead : List Nat} {R : List (Key × Cell)} {tys : Array TypeId} (hN : Γ.ok d) (hF : FnO Γ.P f (bs ++ caps.map fun h => B.a (.ptr h 0)) os r os' keep) (hok : callOk os os' keep new dead = true)
    (hco : OCells (fun x => x.hOk os' = true) os') (hrn : r.hOk os' = true) (hx : ArgOs xs bs R) :
    Acts Γ ⟨some d, .call { callee := .value (.tmp t), args := xs.toArray, argTypes := tys }, ty, pos, af, g⟩ ((Key.s t, Cell.s (.b (.a (.fn f caps)))) :: (R ++ (oR os ++ freeR new))) ((.s d, some (.s r)) :: (os' ++ deadS dead)) := by
  intro σ a w ρ I hs hR K Q hK
  obtain ⟨hcl, hF⟩ := hF
  have hobj := objs_of hs (os := os) (by unfold callOk at hok; simp only [Bool.and_eq_true] at hok; exact hok.1.1.1) (fun kv hk => hR kv (by simp [hk]))
  obtain ⟨vs, he, hargs⟩ := argsV hs hx (fun kv hk => hR kv (by simp [hk])) (hR (.s t, .s (.b (.a (.fn f caps)))) (by simp))
  unfold Oper.wp
  rw [run_callV (f := f) (t := t) (xs := xs) (tys := tys) (vs := vs) rfl he hcl w]
  rw [Oper.upon_enter]
  refine (hF w _ _ _ hobj hargs).mono fun e w' h => ?_
  obtain ⟨u, rfl, hL⟩ := h
  obtain ⟨ρ2, I2, h3, h4⟩ := sat_call hs hok (fun kv hk => hR kv (by simp [hk])) (fun kv hk => hR kv (by simp [hk])) hco hrn hL
  exact hK _ _ ⟨ρ2, I2, h3.assoc.put (V := r) hN h4⟩
theorem acts_callVn {f t : Nat} {caps : List Nat} {xs : List Operand} {bs : List B} {os os' : St} {r : V} {keep new dead : List Nat} {R : List (Key × Cell)} {tys : Array TypeId} (hF : FnO Γ.P f (bs ++ caps.map fun h => B.a (.ptr h 0)) os r os' keep) (hok : callOk os os' keep new dead = true)
    (hco : OCells (fun x => x.hOk os' = true) os') (hrn : r.hOk os' = true) (hx : ArgOs xs bs R) :
    Acts Γ ⟨none, .call { callee := .value (.tmp t), args := xs.toArray, argTypes := tys }, ty, pos, af, g⟩ ((Key.s t, Cell.s (.b (.a (.fn f caps)))) :: (R ++ (oR os ++ freeR new))) (os' ++ deadS dead) := by
  intro σ a w ρ I hs hR K Q hK
  obtain ⟨hcl, hF⟩ := hF
  have hobj := objs_of hs (os := os) (by unfold callOk at hok; simp only [Bool.and_eq_true] at hok; exact hok.1.1.1) (fun kv hk => hR kv (by simp [hk]))
  obtain ⟨vs, he, hargs⟩ := argsV hs hx (fun kv hk => hR kv (by simp [hk])) (hR (.s t, .s (.b (.a (.fn f caps)))) (by simp))
  unfold Oper.wp
  rw [run_callV (f := f) (t := t) (xs := xs) (tys := tys) (vs := vs) rfl he hcl w]
  rw [Oper.upon_enter]
  refine (hF w _ _ _ hobj hargs).mono fun e w' h => ?_
  obtain ⟨u, rfl, hL⟩ := h
  obtain ⟨ρ2, I2, h3, h4⟩ := sat_call hs hok (fun kv hk => hR kv (by simp [hk])) (fun kv hk => hR kv (by simp [hk])) hco hrn hL
  exact hK _ _ ⟨ρ2, I2, h3.assoc⟩
theorem acts_makeFunc {f : Nat} {l : List (Nat × Nat)} (hN : Γ.ok d) :
    Acts Γ ⟨some d, .makeFunc (.func f) #[] (l.map fun x => Operand.tmp x.1).toArray, ty, pos, af, g⟩ (l.map fun x => (Key.s x.1, Cell.s (V.p x.2 0))) [(.s d, some (.s (.b (.a (.fn f (l.map (·.2)))))))] :=
  Acts.pure rfl hN fun a w ρ I hf => ⟨.func (.func f) #[] (l.map fun x => a.eval (.tmp x.1)).toArray, by simp [execOp, Instr.makeFunc, go_sem, Function.comp_def], _, rfl, by simp, fun j h hj => by
    rw [List.getElem?_map] at hj
    cases hq : l[j]? with
    | none => rw [hq] at hj; simp at hj
    | some x =>
      rw [hq] at hj; simp at hj; subst hj
      obtain ⟨p, hp, hv⟩ := hf (.s x.1) (.s (V.p x.2 0)) (by simp only [List.mem_map]; exact ⟨x, List.mem_of_getElem? hq, rfl⟩)
      exact ⟨p, hp, by simp [hq]; exact hv⟩⟩
end
/-- a contract without objects, as one with none -/
theorem FnO.of_fn {P : Program} {f : Nat} {bs : List B} {v : Value} (h : Fn P f bs [.val v]) (hb : bs.all (B.hOk []) = true) : FnO P f bs [] (V.v v) [] [] := by
  obtain ⟨hc, hF⟩ := h
  refine ⟨hc, fun w args ρ I hobj hargs => ?_⟩
  obtain ⟨a1, a2⟩ := hargs
  rw [List.all_eq_true] at hb
  refine (hF w args ⟨a1, fun j b u hj hu => (a2 j b u hj hu).to (os := []) (hb b (List.mem_of_getElem? hj)) (fun h p hh => by cases hh) hobj.im⟩).mono fun e w' hq => ?_
  obtain ⟨u, rfl, hv, hb⟩ := hq
  obtain rfl : u = v := hv
  exact ⟨u, rfl, ρ, I, fun _ _ => rfl, ⟨(fun h o ho => by cases ho), (fun h o p ho => by cases ho), (fun h h' p p' o o' ho => by cases ho), (fun b hi => Nat.lt_of_lt_of_le (hobj.im b hi) hb.size), Rws.nil (fun h o ho => by cases ho)⟩, rfl, fun b hi => .inl hi, (fun b hq => by rcases hq with ⟨h, o, p, ho, _⟩ | ⟨h, j, T, n, s, xs, cap, o, p, ho, _⟩ <;> cases ho), hb.os, hb.tape, hb.output, hb.size, fun b hlt _ => hb.block b hlt⟩
def Ob.ren (π : Nat → Nat) (o : Ob) : Ob := ⟨o.T, o.s, o.ex, o.cells.map (A.ren π)⟩
def renS (π : Nat → Nat) : St → St
  | [] => []
  | (.o h, some (.o o)) :: r => (.o (π h), some (.o (o.ren π))) :: renS π r
  | a :: r => a :: renS π r
theorem renS_ok {π : Nat → Nat} {os : St} (hos : osOk os = true) : osOk (renS π os) = true := by
  induction os with
  | nil => rfl
  | cons a r ih =>
    match a, hos with
    | (.o y, some (.o o)), hos => exact ih hos
theorem renS_of {π : Nat → Nat} {os : St} (hos : osOk os = true) {h' : Nat} {o' : Ob} (hg : get (renS π os) (.o h') = some (.o o')) : ∃ h, h ∈ objs os ∧ π h = h' := by
  induction os with
  | nil => cases hg
  | cons a r ih =>
    match a, hos with
    | (.o y, some (.o o)), hos =>
      simp only [renS, get] at hg
      rcases Bool.eq_false_or_eq_true (Key.eq (.o (π y)) (.o h')) with e | e <;> rw [e] at hg
      · have := Key.eq_iff.1 e
        injection this with this
        exact ⟨y, by simp [objs], this⟩
      · obtain ⟨h, h1, h2⟩ := ih hos hg
        exact ⟨h, by simp [objs, h1], h2⟩
theorem renS_get {π : Nat → Nat} {os : St} (hos : osOk os = true) (hinj : ∀ x ∈ objs os, ∀ y ∈ objs os, π x = π y → x = y) {h : Nat} (hh : h ∈ objs os) : get (renS π os) (.o (π h)) = (get os (.o h)).map fun c => match c with | .o o => .o (o.ren π) | c => c := by
  have key : ∀ (l : St), osOk l = true → (∀ x ∈ objs l, x ∈ objs os) → h ∈ objs l → get (renS π l) (.o (π h)) = (get l (.o h)).map fun c => match c with | .o o => .o (o.ren π) | c => c := by
    intro l
    induction l with
    | nil => intro _ _ h; cases h
    | cons a r ih =>
      intro hl hsub hm
      match a, hl with
      | (.o y, some (.o o)), hl =>
        by_cases e : y = h
        · subst e
          simp only [renS]
          rw [get_cons_eq, get_cons_eq]; rfl
        · have e2 : π y ≠ π h := fun q => e (hinj y (hsub y (by simp [objs])) h hh q)
          simp only [renS]
          rw [get_cons_ne (key_neo e2), get_cons_ne (key_neo e)]
          have hm' : h ∈ objs r := by
            simp only [objs, List.mem_cons] at hm
            rcases hm with rfl | hm
            · exact absurd rfl e
            · exact hm
          exact ih hl (fun x hx => hsub x (by simp [objs, hx])) hm'
  exact key os hos (fun x hx => hx) hh
/-- an object of the renamed list comes of one of the list -/
theorem renS_ob {π : Nat → Nat} {os : St} (hos : osOk os = true) (hinj : ∀ x ∈ objs os, ∀ y ∈ objs os, π x = π y → x = y) {h' : Nat} {o' : Ob} (hg : get (renS π os) (.o h') = some (.o o')) : ∃ h o, h ∈ objs os ∧ π h = h' ∧ get os (.o h) = some (.o o) ∧ o' = o.ren π := by
  obtain ⟨h, hh, rfl⟩ := renS_of hos hg
  obtain ⟨o, ho⟩ := osOk_o hos ((has_objs hos).2 hh)
  rw [renS_get hos hinj hh, ho] at hg
  injection hg with hg; injection hg with hg
  exact ⟨h, o, hh, rfl, ho, hg.symm⟩
theorem RelA.push {π : Nat → Nat} {os : St} {ρ ρ' : Nat → Option Place} {I : Nat → Prop} {w : World} {x : A} {u : Value} (hx : x.hOk os = true) (hρ : ∀ h p, has os (.o h) = true → ρ' h = some p → ρ (π h) = some p) (h : RelA ρ' I w x u) : RelA ρ I w (x.ren π) u := by
  cases x with
  | val v => exact h
  | sl h0 off n => obtain ⟨p, A0, hp, r⟩ := h; exact ⟨p, A0, hρ _ _ hx hp, r⟩
  | ptr h0 off => obtain ⟨p, hp, r⟩ := h; exact ⟨p, hρ _ _ hx hp, r⟩
  | slv n s xs => exact h
  | ptrv s xs off => exact h
  | slvv s rows => exact h
  | ptrvv s rows k => exact h
  | slg T g n s xs => exact h
  | row T n s xs => exact h
  | fn f caps =>
    obtain ⟨vs, e, hl, hc⟩ := h
    refine ⟨vs, e, by simp [hl], fun j h' hj => ?_⟩
    rw [List.getElem?_map] at hj
    cases hq : caps[j]? with
    | none => rw [hq] at hj; simp at hj
    | some h =>
      rw [hq] at hj; simp at hj; subst hj
      obtain ⟨p, hp, hv⟩ := hc j h hq
      simp only [A.hOk, List.all_eq_true] at hx
      exact ⟨p, hρ _ _ (hx h (List.mem_of_getElem? hq)) hp, hv⟩
theorem RelA.pull {π : Nat → Nat} {ρ ρ' : Nat → Option Place} {I : Nat → Prop} {w : World} {x : A} {u : Value} (hρ : ∀ h p, ρ (π h) = some p → ρ' h = some p) (h : RelA ρ I w (x.ren π) u) : RelA ρ' I w x u := by
  cases x with
  | val v => exact h
  | sl h0 off n => obtain ⟨p, A0, hp, r⟩ := h; exact ⟨p, A0, hρ _ _ hp, r⟩
  | ptr h0 off => obtain ⟨p, hp, r⟩ := h; exact ⟨p, hρ _ _ hp, r⟩
  | slv n s xs => exact h
  | ptrv s xs off => exact h
  | slvv s rows => exact h
  | ptrvv s rows k => exact h
  | slg T g n s xs => exact h
  | row T n s xs => exact h
  | fn f caps =>
    obtain ⟨vs, e, hl, hc⟩ := h
    refine ⟨vs, e, by simpa using hl, fun j h hj => ?_⟩
    obtain ⟨p, hp, hv⟩ := hc j (π h) (by simp [hj])
    exact ⟨p, hρ _ _ hp, hv⟩
theorem RelB.push {π : Nat → Nat} {os : St} {ρ ρ' : Nat → Option Place} {I : Nat → Prop} {w : World} {x : B} {u : Value} (hx : x.hOk os = true) (hρ : ∀ h p, has os (.o h) = true → ρ' h = some p → ρ (π h) = some p) (h : RelB ρ' I w x u) : RelB ρ I w (x.ren π) u := by
  cases x with
  | a x => exact RelA.push hx hρ h
  | agg xs =>
    obtain ⟨cs, e, hl, hc⟩ := h
    simp only [B.hOk, List.all_eq_true] at hx
    refine ⟨cs, e, by simpa using hl, fun j x c h1 h2 => ?_⟩
    rw [List.getElem?_map] at h1
    cases hq : xs[j]? with
    | none => rw [hq] at h1; simp at h1
    | some y => rw [hq] at h1; simp at h1; subst h1; exact RelA.push (hx y (List.mem_of_getElem? hq)) hρ (hc j y c hq h2)
theorem RelV.push {π : Nat → Nat} {os : St} {ρ ρ' : Nat → Option Place} {I : Nat → Prop} {w : World} {x : V} {u : Value} (h : RelV ρ' I w x u) (hx : x.hOk os = true) (hρ : ∀ h p, has os (.o h) = true → ρ' h = some p → ρ (π h) = some p) : RelV ρ I w (x.ren π) u := by
  cases x with
  | b x => exact RelB.push hx hρ h
  | tup xs =>
    obtain ⟨cs, e, hl, hc⟩ := h
    simp only [V.hOk, List.all_eq_true] at hx
    refine ⟨cs, e, by simpa using hl, fun j x c h1 h2 => ?_⟩
    rw [List.getElem?_map] at h1
    cases hq : xs[j]? with
    | none => rw [hq] at h1; simp at h1
    | some y => rw [hq] at h1; simp at h1; subst h1; exact RelB.push (hx y (List.mem_of_getElem? hq)) hρ (hc j y c hq h2)
/-- one name of a list that a renaming sends to this one -/
def back (π : Nat → Nat) (l : List Nat) (h' : Nat) : Option Nat := l.find? fun h => π h == h'
theorem back_of {π : Nat → Nat} {l : List Nat} (hinj : ∀ x ∈ l, ∀ y ∈ l, π x = π y → x = y) {h : Nat} (hh : h ∈ l) : back π l (π h) = some h := by
  unfold back
  cases hq : l.find? fun x => π x == π h with
  | none => rw [List.find?_eq_none] at hq; exact absurd (by simp) (hq h hh)
  | some x =>
    have h1 := List.find?_some hq
    have h2 := List.mem_of_find?_eq_some hq
    rw [hinj x h2 h hh (by simpa using h1)]
def subL (l m : List Nat) : Bool := l.all m.contains
theorem subL_spec {l m : List Nat} (h : subL l m = true) {x : Nat} (hx : x ∈ l) : x ∈ m := by
  unfold subL at h; rw [List.all_eq_true] at h; simpa using h x hx
theorem FnO.ren {P : Program} {f : Nat} {bs : List B} {os os' : St} {r : V} {keep : List Nat} (hF : FnO P f bs os r os' keep) (π : Nat → Nat) (hos : osOk os = true) (hos' : osOk os' = true) (hi : injOn π (objs os ++ objs os') = true) (hk : subL keep (objs os) = true) (hco : OCells (fun x => x.hOk os' = true) os') (hrn : r.hOk os' = true) :
    FnO P f (bs.map (B.ren π)) (renS π os) (r.ren π) (renS π os') (keep.map π) := by
  obtain ⟨hcl, hF⟩ := hF
  have hinjA : ∀ x ∈ objs os ++ objs os', ∀ y ∈ objs os ++ objs os', π x = π y → x = y := fun x hx y hy e => injOn_spec hi hx hy e
  have hinj : ∀ x ∈ objs os, ∀ y ∈ objs os, π x = π y → x = y := fun x hx y hy e => hinjA x (by simp [hx]) y (by simp [hy]) e
  have hinj' : ∀ x ∈ objs os', ∀ y ∈ objs os', π x = π y → x = y := fun x hx y hy e => hinjA x (by simp [hx]) y (by simp [hy]) e
  refine ⟨hcl, fun w args ρ I hobj hargs => ?_⟩
  let ρ0 : Nat → Option Place := fun h => ρ (π h)
  have hrow1 : ∀ {h j T n s xs b cap}, RowIn os w ρ0 h j T n s xs b cap → RowIn (renS π os) w ρ (π h) j T n s xs b cap := by
    rintro h j T n s xs b cap ⟨o, p, q1, q2, q3, q4, q5⟩
    have hg := renS_get hos hinj ((has_objs hos).1 (has_of_get q1))
    rw [q1] at hg
    exact ⟨o.ren π, p, hg, q2, q3, by simp only [Ob.ren, List.getElem?_map, q4]; rfl, q5⟩
  have hblk : ∀ b, blkO ρ0 w os b → blkO ρ w (renS π os) b := fun b hq => by
    rcases hq with ⟨h, o, p, ho, hp, hl, e⟩ | ⟨h, j, T, n, s, xs, cap, hr⟩
    · have hm := (has_objs hos).1 (has_of_get ho)
      have hg := renS_get hos hinj hm
      rw [ho] at hg
      exact .inl ⟨π h, o.ren π, p, hg, hp, hl, e⟩
    · exact .inr ⟨π h, j, T, n, s, xs, cap, hrow1 hr⟩
  have hobj' : Objs ρ0 I w os := by
    have gg : ∀ h o, get os (.o h) = some (.o o) → get (renS π os) (.o (π h)) = some (.o (o.ren π)) := fun h o ho => by
      have hg := renS_get hos hinj ((has_objs hos).1 (has_of_get ho))
      rw [ho] at hg
      exact hg
    refine ⟨fun h o ho => ?_, fun h o p ho hp hl => hobj.pl _ _ p (gg h o ho) hp hl, fun h h' p p' o o' ho ho' hp hp' hl hl' e => ?_, hobj.im, hobj.rs.map (fun h j => (π h, j)) hrow1 (fun {_ _ _ _ _ _ _ _ _ _ _ _ _ _ _} hr hr' e => by
        injection e with e1 e2
        obtain ⟨o1, _, g1, _⟩ := hr
        obtain ⟨o2, _, g2, _⟩ := hr'
        exact ⟨hinj _ ((has_objs hos).1 (has_of_get g2)) _ ((has_objs hos).1 (has_of_get g1)) e1, e2⟩) (fun hr => ⟨rfl, (hobj.rs.ok hr).ni, (hobj.rs.ok hr).lt⟩) fun hr h1 h2 h3 => hobj.rs.sep hr (gg _ _ h1) h2 h3⟩
    · obtain ⟨p, hp, q1, q2, q3, qz, q4⟩ := hobj.ow (π h) (o.ren π) (gg h o ho)
      refine ⟨p, hp, q1, by simpa [Ob.ren] using q2, q3, qz, fun hl => ?_⟩
      obtain ⟨cur, c1, c2, c3, c4⟩ := q4 hl
      refine ⟨cur, c1, c2, c3, fun j x hj => ?_⟩
      obtain ⟨u, hu, hr⟩ := c4 j (x.ren π) (by simp [Ob.ren, hj])
      exact ⟨u, hu, RelA.pull (π := π) (ρ := ρ) (fun h p hp => hp) hr⟩
    · exact hinj h ((has_objs hos).1 (has_of_get ho)) h' ((has_objs hos).1 (has_of_get ho')) (hobj.inj _ _ p p' _ _ (gg h o ho) (gg h' o' ho') hp hp' hl hl' e)
  have hargs' : ArgsO ρ0 I w bs args := by
    obtain ⟨a1, a2⟩ := hargs
    refine ⟨by simpa using a1, fun j b u hj hu => ?_⟩
    have hr := a2 j (b.ren π) u (by simp [hj]) hu
    cases b with
    | a x => exact RelA.pull (π := π) (ρ := ρ) (fun h p hp => hp) hr
    | agg xs =>
      obtain ⟨cs, e, hl, hx⟩ := hr
      exact ⟨cs, e, by simpa using hl, fun j x c h1 h2 => RelA.pull (π := π) (ρ := ρ) (fun h p hp => hp) (hx j (x.ren π) c (by simp [h1]) h2)⟩
  refine (hF w args ρ0 I hobj' hargs').mono fun e w' h => ?_
  obtain ⟨u, e1, ρ', I', hkeep, hob, hrel, hi1, hi2, f1, f2, f3, f4, f5⟩ := h
  refine ⟨u, e1, ?_⟩
  let l := objs os ++ objs os'
  let ρ2 : Nat → Option Place := fun h' => match back π l h' with | some h => ρ' h | none => none
  have r2 : ∀ h, h ∈ l → ρ2 (π h) = ρ' h := fun h hh => by show (match back π l (π h) with | some h => ρ' h | none => none) = ρ' h; rw [back_of hinjA hh]
  have r3 : ∀ h p, has os' (.o h) = true → ρ' h = some p → ρ2 (π h) = some p := fun h p hh hp => by rw [r2 h (List.mem_append_right _ ((has_objs hos').1 hh))]; exact hp
  have hrow2 : ∀ {h' j T n s xs b cap}, RowIn (renS π os') w' ρ2 h' j T n s xs b cap → ∃ h, h ∈ objs os' ∧ π h = h' ∧ RowIn os' w' ρ' h j T n s xs b cap := by
    rintro h' j T n s xs b cap ⟨o', p, q1, q2, q3, q4, q5⟩
    obtain ⟨h, o, hh, rfl, h2, rfl⟩ := renS_ob hos' hinj' q1
    refine ⟨h, hh, rfl, o, p, h2, (r2 h (List.mem_append_right _ hh)) ▸ q2, q3, ?_, q5⟩
    simp only [Ob.ren, List.getElem?_map] at q4
    cases hq : o.cells[j]? with
    | none => rw [hq] at q4; simp at q4
    | some y =>
      rw [hq] at q4; simp only [Option.map_some, Option.some.injEq] at q4
      cases y <;> simp only [A.ren] at q4 <;> first | exact congrArg some q4 | cases q4
  have hrw2 : Rws (renS π os') w' ρ2 I' := by
    refine hob.rs.map (fun h' j => ((back π l h').getD 0, j)) (fun {h' j _ _ _ _ _ _} hr => ?_) (fun {h j _ _ _ _ _ _ h' j' _ _ _ _ _} hr hr' e => ?_) (fun hr => ⟨rfl, (hob.rs.ok hr).ni, (hob.rs.ok hr).lt⟩) fun hr h1 h2 h3 => ?_
    · obtain ⟨h, hh, rfl, hr2⟩ := hrow2 hr
      rw [back_of hinjA (List.mem_append_right _ hh)]
      exact hr2
    · obtain ⟨h1, hh1, rfl, _⟩ := hrow2 hr
      obtain ⟨h2, hh2, rfl, _⟩ := hrow2 hr'
      rw [back_of hinjA (List.mem_append_right _ hh1), back_of hinjA (List.mem_append_right _ hh2)] at e
      injection e with e1 e2
      exact ⟨congrArg π e1, e2⟩
    · obtain ⟨h, o, hh, rfl, h4, rfl⟩ := renS_ob hos' hinj' h1
      exact hob.rs.sep hr h4 ((r2 h (List.mem_append_right _ hh)) ▸ h2) h3
  refine ⟨fun h' => match back π l h' with | some h => ρ' h | none => none, I', fun y hy => ?_, ⟨fun h' o' ho' => ?_, fun h' o' p ho' hp hl => ?_, fun h1 h2 p p' o1 o2 ho1 ho2 hp hp' hl hl' e => ?_, hob.im, hrw2⟩, hrel.push hrn r3, fun b hb => (hi1 b hb).imp_right fun q => q.imp_left (hblk b), fun b hq => ?_, f1, f2, f3, f4, fun b hlt hn => f5 b hlt fun q => hn (hblk b q)⟩
  · obtain ⟨x, hx, rfl⟩ := List.mem_map.1 hy
    show ρ2 (π x) = ρ (π x)
    rw [r2 x (List.mem_append_left _ (subL_spec hk hx))]
    exact hkeep x hx
  · obtain ⟨h, o, hh, rfl, h2, rfl⟩ := renS_ob hos' hinj' ho'
    obtain ⟨p, hp, q1, q2, q3, qz, q4⟩ := hob.ow h o h2
    refine ⟨p, r3 h p (has_of_get h2) hp, q1, by simpa [Ob.ren] using q2, q3, qz, fun hl => ?_⟩
    obtain ⟨cur, c1, c2, c3, c4⟩ := q4 hl
    refine ⟨cur, c1, c2, c3, fun j x hj => ?_⟩
    simp only [Ob.ren, List.getElem?_map] at hj
    cases hq : o.cells[j]? with
    | none => rw [hq] at hj; simp at hj
    | some y =>
      rw [hq] at hj; simp at hj; subst hj
      obtain ⟨u, hu, hr⟩ := c4 j y hq
      refine ⟨u, hu, ?_⟩
      exact RelA.push (hco.get hos' h2 y (List.mem_of_getElem? hq)) r3 hr
  · obtain ⟨h, o, hh, rfl, h2, rfl⟩ := renS_ob hos' hinj' ho'
    exact hob.pl h o p h2 ((r2 h (List.mem_append_right _ hh)) ▸ hp) hl
  · obtain ⟨a1, o3, m1, rfl, g1, rfl⟩ := renS_ob hos' hinj' ho1
    obtain ⟨a2, o4, m2, rfl, g2, rfl⟩ := renS_ob hos' hinj' ho2
    have := hob.inj a1 a2 p p' o3 o4 g1 g2 ((r2 a1 (List.mem_append_right _ m1)) ▸ hp) ((r2 a2 (List.mem_append_right _ m2)) ▸ hp') hl hl' e
    rw [this]
  · rcases hq with ⟨h', o', p, ho', hp, hl, e⟩ | ⟨h', j, T, n, s, xs, cap, hr⟩
    · obtain ⟨h, o, hh, rfl, h2, rfl⟩ := renS_ob hos' hinj' ho'
      exact (hi2 b (.inl ⟨h, o, p, h2, (r2 h (List.mem_append_right _ hh)) ▸ hp, hl, e⟩)).imp_left (hblk b)
    · obtain ⟨h, hh, rfl, hr2⟩ := hrow2 hr
      exact (hi2 b (.inr ⟨h, j, T, n, s, xs, cap, hr2⟩)).imp_left (hblk b)
theorem pl_ren {π : Nat → Nat} {xs : List Value} : (pl xs).map (A.ren π) = pl xs := by
  unfold pl; rw [List.map_map]; rfl
theorem FnO.ren' {P : Program} {f : Nat} {bs bs2 : List B} {os os' os2 os2' : St} {r r2 : V} {keep keep2 : List Nat} (hF : FnO P f bs os r os' keep) (π : Nat → Nat) (hos : osOk os = true) (hos' : osOk os' = true) (hi : injOn π (objs os ++ objs os') = true) (hk : subL keep (objs os) = true) (hco : OCells (fun x => x.hOk os' = true) os') (hrn : r.hOk os' = true)
    (e1 : bs.map (B.ren π) = bs2) (e2 : renS π os = os2) (e3 : renS π os' = os2') (e4 : keep.map π = keep2) (e5 : r.ren π = r2) : FnO P f bs2 os2 r2 os2' keep2 := by
  subst e1; subst e2; subst e3; subst e4; subst e5; exact hF.ren π hos hos' hi hk hco hrn
end Cl
end Go.Proofs.Ytgmckbchcpfhcaa
