
/- Words for the printed walks over clean states: typed rows, wrappers. -/
import Derived.Test.YtgmckbchcpfhcaaCl10
namespace Go.Proofs.Ytgmckbchcpfhcaa
namespace Cl
open Go.ChangeShapes Go.WideShapes Go.ChangeAt Go.RowKit

theorem ltN {Γ : Cx} {d : Nat} (h : Γ.okb d = true) : Γ.ok d := by
  unfold Cx.okb at h; simp only [Bool.and_eq_true, Bool.not_eq_true'] at h
  exact ⟨by simpa [Nat.blt_eq] using h.1, h.2⟩
theorem w64 {z : Int} (h1 : -9223372036854775808 ≤ z) (h2 : z ≤ 9223372036854775807) : IntKind.i64.wrap z = z := by
  have e : IntKind.i64.wrap z = (z + 9223372036854775808) % 18446744073709551616 - 9223372036854775808 := by
    simp only [IntKind.wrap, IntKind.signed, IntKind.bits]
    simp
    first | rfl | omega
  rw [e]; omega
def bsl (l : List Bool) : List Value := l.map Value.bool
theorem bsl_len (l : List Bool) : (bsl l).length = l.length * 1 := by simp [bsl]
theorem bsl_one' (l : List Bool) : ∀ v ∈ bsl l, v.oneCell' = true := by
  intro v hv; simp only [bsl, List.mem_map] at hv; obtain ⟨z, _, rfl⟩ := hv; rfl
def gI (l : List Int) (k : Nat) : Int := l.getD k 0
def gB (l : List Bool) (k : Nat) : Bool := l.getD k false
def gD (l : List Dom) (k : Nat) : Dom := l.getD k ⟨0, 0, false⟩
def gC (l : List Cel) (k : Nat) : Cel := l.getD k ⟨0, 0⟩
theorem gI_eq {l : List Int} {k : Nat} (h : k < l.length) : gI l k = l[k] := by simp [gI, List.getD, h]
theorem gB_eq {l : List Bool} {k : Nat} (h : k < l.length) : gB l k = l[k] := by simp [gB, List.getD, h]
theorem gD_eq {l : List Dom} {k : Nat} (h : k < l.length) : gD l k = l[k] := by simp [gD, List.getD, h]
theorem gC_eq {l : List Cel} {k : Nat} (h : k < l.length) : gC l k = l[k] := by simp [gC, List.getD, h]
theorem isl_get {l : List Int} {k : Nat} (h : k < l.length) : (isl l)[k]? = some (.int .i64 (gI l k)) := by simp [isl, gI_eq h, h]
theorem bsl_get {l : List Bool} {k : Nat} (h : k < l.length) : (bsl l)[k]? = some (.bool (gB l k)) := by simp [bsl, gB_eq h, h]
theorem isl_get1 {l : List Int} {k : Nat} (h : k < l.length) : (isl l)[k * 1]? = some (.int .i64 (gI l k)) := by rw [Nat.mul_one]; exact isl_get h
theorem bsl_get1 {l : List Bool} {k : Nat} (h : k < l.length) : (bsl l)[k * 1]? = some (.bool (gB l k)) := by rw [Nat.mul_one]; exact bsl_get h
theorem dsl_x {l : List Dom} {k : Nat} (h : k < l.length) : (dsl l)[k * 3]? = some (.int .i64 (gD l k).x) := by
  rw [gD_eq h]; exact flatMap_get Dom.cs 3 (fun _ => rfl) l k 0 h (by omega)
theorem dsl_y {l : List Dom} {k : Nat} (h : k < l.length) : (dsl l)[k * 3 + 1]? = some (.int .i64 (gD l k).y) := by
  rw [gD_eq h]; exact flatMap_get Dom.cs 3 (fun _ => rfl) l k 1 h (by omega)
theorem dsl_d {l : List Dom} {k : Nat} (h : k < l.length) : (dsl l)[k * 3 + 2]? = some (.bool (gD l k).d) := by
  rw [gD_eq h]; exact flatMap_get Dom.cs 3 (fun _ => rfl) l k 2 h (by omega)
theorem csl_x {l : List Cel} {k : Nat} (h : k < l.length) : (csl l)[k * 2]? = some (.int .i64 (gC l k).x) := by
  rw [gC_eq h]; exact flatMap_get Cel.cs 2 (fun _ => rfl) l k 0 h (by omega)
theorem csl_y {l : List Cel} {k : Nat} (h : k < l.length) : (csl l)[k * 2 + 1]? = some (.int .i64 (gC l k).y) := by
  rw [gC_eq h]; exact flatMap_get Cel.cs 2 (fun _ => rfl) l k 1 h (by omega)
theorem take_of_get {xs ys : List Value} {o n : Nat} (hl : ys.length = n) (h : ∀ j v, ys[j]? = some v → xs[o + j]? = some v) : (xs.drop o).take n = ys := by
  apply List.ext_getElem?
  intro j
  rw [List.getElem?_take]
  by_cases hj : j < n
  · rw [if_pos hj, List.getElem?_drop]
    have hy : ys[j]? = some ys[j] := List.getElem?_eq_getElem (by omega)
    rw [hy]; exact h j _ hy
  · rw [if_neg hj, List.getElem?_eq_none (by omega)]
theorem dsl_at {l : List Dom} {k : Nat} (h : k < l.length) : ((dsl l).drop (k * 3)).take 3 = [.int .i64 (gD l k).x, .int .i64 (gD l k).y, .bool (gD l k).d] :=
  take_of_get rfl fun j v hj => by
    match j, hj with
    | 0, hj => simp at hj; subst hj; exact dsl_x h
    | 1, hj => simp at hj; subst hj; exact dsl_y h
    | 2, hj => simp at hj; subst hj; exact dsl_d h
theorem csl_at {l : List Cel} {k : Nat} (h : k < l.length) : ((csl l).drop (k * 2)).take 2 = [.int .i64 (gC l k).x, .int .i64 (gC l k).y] :=
  take_of_get rfl fun j v hj => by
    match j, hj with
    | 0, hj => simp at hj; subst hj; exact csl_x h
    | 1, hj => simp at hj; subst hj; exact csl_y h
theorem pl_at {xs ys : List Value} {o n : Nat} (h : (xs.drop o).take n = ys) : ((pl xs).drop o).take n = pl ys := by rw [pl_take_drop, h]
theorem isl_put {l : List Int} {k : Nat} {e : Int} (h : k < l.length) : (pl (isl l)).take (k * 1) ++ [A.val (.int .i64 e)] ++ (pl (isl l)).drop (k * 1 + 1) = pl (isl (l.set k e)) := by
  rw [Nat.mul_one, List.set_eq_take_append_cons_drop, if_pos h]
  simp [pl, isl]
theorem bsl_put {l : List Bool} {k : Nat} {e : Bool} (h : k < l.length) : (pl (bsl l)).take (k * 1) ++ [A.val (.bool e)] ++ (pl (bsl l)).drop (k * 1 + 1) = pl (bsl (l.set k e)) := by
  rw [Nat.mul_one, List.set_eq_take_append_cons_drop, if_pos h]
  simp [pl, bsl]
theorem dsl_take (l : List Dom) (k : Nat) : (dsl l).take (k * 3) = dsl (l.take k) := by
  induction l generalizing k with
  | nil => simp [dsl]
  | cons a l ih =>
    cases k with
    | zero => simp [dsl]
    | succ k =>
      have e : (k + 1) * 3 = k * 3 + 3 := by omega
      simp only [dsl, List.flatMap_cons, List.take_succ_cons, e] at ih ⊢
      simp only [Dom.cs, List.cons_append, List.nil_append, List.take_succ_cons, ih]
theorem dsl_drop (l : List Dom) (k : Nat) : (dsl l).drop (k * 3) = dsl (l.drop k) := by
  induction l generalizing k with
  | nil => simp [dsl]
  | cons a l ih =>
    cases k with
    | zero => simp [dsl]
    | succ k =>
      have e : (k + 1) * 3 = k * 3 + 3 := by omega
      simp only [dsl, List.flatMap_cons, List.drop_succ_cons, e] at ih ⊢
      simp only [Dom.cs, List.cons_append, List.nil_append, List.drop_succ_cons, ih]
theorem csl_take (l : List Cel) (k : Nat) : (csl l).take (k * 2) = csl (l.take k) := by
  induction l generalizing k with
  | nil => simp [csl]
  | cons a l ih =>
    cases k with
    | zero => simp [csl]
    | succ k =>
      have e : (k + 1) * 2 = k * 2 + 2 := by omega
      simp only [csl, List.flatMap_cons, List.take_succ_cons, e] at ih ⊢
      simp only [Cel.cs, List.cons_append, List.nil_append, List.take_succ_cons, ih]
theorem csl_drop (l : List Cel) (k : Nat) : (csl l).drop (k * 2) = csl (l.drop k) := by
  induction l generalizing k with
  | nil => simp [csl]
  | cons a l ih =>
    cases k with
    | zero => simp [csl]
    | succ k =>
      have e : (k + 1) * 2 = k * 2 + 2 := by omega
      simp only [csl, List.flatMap_cons, List.drop_succ_cons, e] at ih ⊢
      simp only [Cel.cs, List.cons_append, List.nil_append, List.drop_succ_cons, ih]
theorem isl_take (l : List Int) (k : Nat) : (isl l).take (k * 1) = isl (l.take k) := by simp [isl, List.map_take]
theorem isl_drop (l : List Int) (k : Nat) : (isl l).drop (k * 1) = isl (l.drop k) := by simp [isl, List.map_drop]
theorem dsl_put {l : List Dom} {k : Nat} {x y : Int} {d : Bool} (h : k < l.length) : (pl (dsl l)).take (k * 3) ++ [A.val (.int .i64 x), A.val (.int .i64 y), A.val (.bool d)] ++ (pl (dsl l)).drop (k * 3 + 3) = pl (dsl (l.set k ⟨x, y, d⟩)) := by
  have e := pl_splice (dsl l) [.int .i64 x, .int .i64 y, .bool d] (k * 3) (k * 3 + 3)
  rw [show k * 3 + 3 = (k + 1) * 3 by omega, dsl_take, dsl_drop] at e
  rw [show k * 3 + 3 = (k + 1) * 3 by omega]
  refine e.trans ?_
  rw [List.set_eq_take_append_cons_drop, if_pos h, dsl_append, dsl]
  simp [dsl, Dom.cs]
theorem csl_put {l : List Cel} {k : Nat} {x y : Int} (h : k < l.length) : (pl (csl l)).take (k * 2) ++ [A.val (.int .i64 x), A.val (.int .i64 y)] ++ (pl (csl l)).drop (k * 2 + 2) = pl (csl (l.set k ⟨x, y⟩)) := by
  have e := pl_splice (csl l) [.int .i64 x, .int .i64 y] (k * 2) (k * 2 + 2)
  rw [show k * 2 + 2 = (k + 1) * 2 by omega, csl_take, csl_drop] at e
  rw [show k * 2 + 2 = (k + 1) * 2 by omega]
  refine e.trans ?_
  rw [List.set_eq_take_append_cons_drop, if_pos h, csl_append, csl]
  simp [csl, Cel.cs]
theorem isl_snoc (l : List Int) (e : Int) : isl l ++ [.int .i64 e] = isl (l ++ [e]) := by simp [isl]
theorem bsl_snoc (l : List Bool) (e : Bool) : bsl l ++ [.bool e] = bsl (l ++ [e]) := by simp [bsl]
theorem dsl_snoc (l : List Dom) (x y : Int) (d : Bool) : dsl l ++ [.int .i64 x, .int .i64 y, .bool d] = dsl (l ++ [⟨x, y, d⟩]) := by simp [dsl, Dom.cs]
theorem csl_snoc (l : List Cel) (x y : Int) : csl l ++ [.int .i64 x, .int .i64 y] = csl (l ++ [⟨x, y⟩]) := by simp [csl, Cel.cs]
/-- a type's zero, size and bytes -/
def ZI (P : Program) (T : TypeId) (z : Value) (s b : Nat) : Prop := (P.info? T).map (fun i => (i.zero, i.size, i.bytes)) = some (some z, s, b)
theorem ZI.get {P : Program} {T : TypeId} {z : Value} {s b : Nat} (h : ZI P T z s b) : ∃ i, P.info? T = some i ∧ i.zero = some z ∧ i.size = s ∧ i.bytes = b := by
  unfold ZI at h
  cases hq : P.info? T with
  | none => simp [hq] at h
  | some i => simp [hq] at h; exact ⟨i, rfl, h.1, h.2.1, h.2.2⟩
theorem ZI.sz {P : Program} {T : TypeId} {z : Value} {s b : Nat} (h : ZI P T z s b) : (P.info? T).map (·.size) = some s := by
  obtain ⟨i, h1, _, h3, _⟩ := h.get
  rw [h1]; simp [h3]
section
variable {Γ : Cx} {d : Nat} {ty : TypeId} {pos : String} {af : Array Edge} {g : Option (Nat × Bool)}
theorem acts_alloc' {T h cap s s' b : Nat} {z : Value} {cells : List A} (hN : Γ.ok d) (hz : ZI Γ.P T z s' b) (hc : z.cells.toList.map A.val = cells) (hcs : cells.length = cap * s) (hm : cap ≤ 1000000) :
    Acts Γ ⟨some d, .alloc T, ty, pos, af, g⟩ [(.o h, .free)] [(.s d, some (.s (V.p h 0))), (.o h, some (.o ⟨T, s, true, cells⟩))] := by
  obtain ⟨i, h1, h2, _, _⟩ := hz.get
  exact acts_alloc hN h1 h2 hc hcs hm
theorem acts_make' {t e h n s b : Nat} {z : Value} {x y : Operand} {iv iv' : Int} {xs : List Value} {R R' : List (Key × Cell)} (hN : Γ.ok d) (hu : Γ.P.underlying t = some (.slice e)) (hz : ZI Γ.P e z s b)
    (hx : OpV x (.int .i64 iv) R) (hy : OpV y (.int .i64 iv') R') (e1 : iv = (n : Int)) (e2 : iv' = (n : Int)) (hb : b ≤ 1000) (hm : n ≤ 4194304) (hxs : (madeCells z.cells (n * s)).toList = xs) :
    Acts Γ ⟨some d, .makeSlice t x y, ty, pos, af, g⟩ ((.o h, .free) :: (R ++ R')) [(.s d, some (.s (.b (.a (.sl h 0 n))))), (.o h, some (.o ⟨e, s, true, pl xs⟩))] := by
  obtain ⟨i, h1, h2, h3, h4⟩ := hz.get
  refine acts_make hN hu h1 h2 h3 hx hy e1 e2 ?_ (by unfold maxLen; omega) hxs
  rw [h4]
  exact Nat.le_trans (Nat.mul_le_mul hb hm) (by decide)
theorem acts_buildSlice' {t e h n s b : Nat} {z : Value} {ps : List (Nat × Operand)} {vs : List (Nat × Value)} {xs : List Value} {R : List (Key × Cell)} (hN : Γ.ok d) (hu : Γ.P.underlying t = some (.slice e)) (hz : ZI Γ.P e z s b)
    (hv : OpVs ps vs R) (hpos : 0 < n * s) (hsm : n * s ≤ 1000) (hf : Instr.fill (fun i => some (i * s, s)) ((Array.range (n * s)).map (z.cells[· % z.cells.size]!)) vs = some xs.toArray) (hl : xs.length = n * s) :
    Acts Γ ⟨some d, .buildSlice t n ps.toArray, ty, pos, af, g⟩ ((.o h, .free) :: R) [(.s d, some (.s (.b (.a (.sl h 0 n))))), (.o h, some (.o ⟨e, s, true, pl xs⟩))] := by
  obtain ⟨i, h1, h2, h3, h4⟩ := hz.get
  exact acts_buildSlice hN hu h1 h2 h3 hv hpos hsm hf hl
theorem acts_buildSlice0' {t e h s b : Nat} {z : Value} (hN : Γ.ok d) (hu : Γ.P.underlying t = some (.slice e)) (hz : ZI Γ.P e z s b) :
    Acts Γ ⟨some d, .buildSlice t 0 #[], ty, pos, af, g⟩ [(.o h, .free)] [(.s d, some (.s (.b (.a (.sl h 0 0))))), (.o h, some (.o ⟨e, s, true, pl []⟩))] := by
  obtain ⟨i, h1, h2, h3, h4⟩ := hz.get
  exact acts_buildSlice0 hN hu h1 h3
theorem acts_app {x h h2 n m nm t e s b : Nat} {z : Value} {y : Operand} {X : A} {xs ys zs : List Value} {R R' : List (Key × Cell)} (hN : Γ.ok d) (ht : Γ.P.underlying t = some (.slice e)) (hz : ZI Γ.P e z s b) (hzc : z.cells.size = s) (hs0 : 0 < s) (hb : b ≤ 1000)
    (hxl : xs.length = n * s) (hy : OpX y (.b (.a X)) R) (hsrc : Src X R' s m (pl ys)) (h1 : ∀ v ∈ ys, v.oneCell' = true) (hn : n + m ≤ 4194304) (hzs : xs ++ ys = zs) (hnm : n + m = nm) :
    Acts Γ ⟨some d, .call { callee := .builtin .append, args := #[.tmp x, y], argTypes := #[t, t] }, ty, pos, af, g⟩ ((.s x, .s (.b (.a (.sl h 0 n)))) :: (.o h, .o ⟨e, s, true, pl xs⟩) :: (.o h2, .free) :: (R ++ R'))
      [(.s d, some (.s (.b (.a (.sl h2 0 nm))))), (.o h2, some (.o ⟨e, s, true, pl zs⟩)), (.o h, none)] := by
  obtain ⟨i, i1, i2, i3, i4⟩ := hz.get
  subst hnm
  refine acts_append (o := ⟨e, s, true, pl xs⟩) (off := 0) (xs := pl xs) (ys := pl ys) (zs := pl zs) (ex := true) hN ht i1 i2 (by rw [hzc, i3]) i3 hs0 rfl (by simp only [pl_len, hxl]; omega) ?_ (fun _ => ⟨rfl, rfl⟩) hy hsrc (pl_one h1) (by unfold maxLen; omega) ?_ (by rw [← hzs, pl_append])
  · simp only [Nat.zero_mul, List.drop_zero]; rw [List.take_of_length_le (by rw [pl_len, hxl]; exact Nat.le_refl _)]
  · rw [i4]; exact Nat.le_trans (Nat.mul_le_mul hn hb) (by decide)
theorem acts_app_nil {x h2 m t e s b : Nat} {z : Value} {y : Operand} {X : A} {ys : List Value} {R R' R0 : List (Key × Cell)} {x0 : Operand} (hx0 : OpV x0 (.slice none 0 0) R0) (hN : Γ.ok d) (ht : Γ.P.underlying t = some (.slice e)) (hz : ZI Γ.P e z s b) (hzc : z.cells.size = s) (hs0 : 0 < s) (hb : b ≤ 1000)
    (hy : OpX y (.b (.a X)) R) (hsrc : Src X R' s m (pl ys)) (hn : m ≤ 4194304) :
    Acts Γ ⟨some d, .call { callee := .builtin .append, args := #[x0, y], argTypes := #[t, t] }, ty, pos, af, g⟩ ((.o h2, .free) :: (R0 ++ (R ++ R')))
      [(.s d, some (.s (.b (.a (.sl h2 0 m))))), (.o h2, some (.o ⟨e, s, true, pl ys⟩))] := by
  obtain ⟨i, i1, i2, i3, i4⟩ := hz.get
  subst i3
  intro σ a w ρ I hs' hR K Q hK
  have hf := facts_of hs' hR
  have hev := hx0.ev (fun k c hk => hf k c (by simp [hk]))
  have hrX : RelA ρ I w X (a.eval y) := hy.rel (fun k c hk => hf k c (by simp [hk]))
  obtain ⟨B, c', us, eu, hus, hyl, hyr⟩ := hsrc.read (fun k c hk => hf k c (by simp [hk])) hrX
  have hfree := hR (.o h2, .free) (by simp)
  have wpk : ∀ v w', (Builtin.append_ #[t, t] ty #[a.eval x0, a.eval y]).run Γ.P w = .ok v w' → K (a.put (some d) v) w' → Oper.wp Γ.P ⟨some d, .call { callee := .builtin .append, args := #[x0, y], argTypes := #[t, t] }, ty, pos, af, g⟩ a w K Q := by
    intro v w' hrun hk
    unfold Oper.wp
    simp only [execOp, resolve, List.map_toArray, List.map_cons, List.map_nil]
    simp only [Sem.run_bind, Sem.run_pure, Result.andThen_ok, invoke, builtin, hrun]
    exact hk
  rw [hev, eu] at wpk
  rw [pl_len] at hyl
  rcases Nat.eq_zero_or_pos m with rfl | hm
  · have hy0 : ys = [] := List.eq_nil_of_length_eq_zero (by simpa using hyl)
    subst hy0
    refine wpk _ _ (run_append_zero ht i1) (hK _ _ ?_)
    obtain ⟨ρ', hρ, hx', hs2⟩ := hs'.adopt hfree (p := ⟨0, 0, 0, i.size, false, true⟩) (o := ⟨e, i.size, true, pl []⟩) rfl (by simp [pl]) (fun _ => ⟨rfl, rfl, Nat.zero_le _⟩) (fun _ => rfl) (fun h => by simp at h) (RowFit.no pl_nr) (fun h => by simp at h) (fun h => by simp at h)
    exact ⟨ρ', I, hs2.put (V := .b (.a (.sl h2 0 0))) hN ⟨_, none, hx', by simp, by simp, fun _ => by simp⟩⟩
  · have hrun := run_append_grown (w := w) (ty := ty) (A := none) (n := 0) (c := 0) (c' := c') (olds := []) ht i1 i2 ⟨by simp, .inl rfl⟩ hus (by omega) (by omega) (by
      refine growslice_fits (by omega) ?_
      rw [i4]; exact Nat.le_trans (Nat.mul_le_mul (by omega : 0 + m ≤ 4194304) hb) (by decide))
    rw [List.nil_append] at hrun
    refine wpk _ _ hrun (hK _ _ ?_)
    have hge := grownCap_ge w (0 + m) 0 e
    have hcm := grownCap_le_maxLen w (0 + m) 0 e (by unfold maxLen; omega)
    have hdr : Sat Γ σ a w.drew ρ I := hs'.world ⟨rfl, rfl, rfl, Nat.le_refl _, fun _ _ => rfl⟩
    obtain ⟨ρ', hρ, hx', hs2⟩ := hdr.new hfree (cur := (us ++ (Builtin.zeroCells z.cells (grownCap w (0 + m) 0 e - (0 + m))).toList).toArray) (T := e) (cap := grownCap w (0 + m) 0 e) (s := i.size) (ex := true) (cells := pl ys)
      (by simp only [List.size_toArray, List.length_append, Array.length_toList, size_zeroCells, hzc, hus.1]
          rw [← Nat.add_mul]; congr 1; omega) (by rw [pl_len, hyl]; exact Nat.mul_le_mul_right _ (by omega)) (fun _ => hcm) (fun j y hj => by
        obtain ⟨v, hv, hr⟩ := hyr j y hj
        refine ⟨v, ?_, hr.mono (fun _ _ h => h) (fun b hb => ⟨hb, rfl⟩)⟩
        simp only [List.getElem?_toArray]
        rw [List.getElem?_append_left (List.getElem?_eq_some_iff.1 hv).1]; exact hv) (RowFit.no pl_nr)
    exact ⟨ρ', I, hs2.put (V := .b (.a (.sl h2 0 m))) hN ⟨_, some ⟨w.heap.size, 0, none⟩, hx', by simp, hge, fun _ => by simp⟩⟩
end
theorem made_ints' (n : Nat) : (madeCells (Value.int .i64 0).cells (n * 1)).toList = isl (List.replicate n 0) := made_ints n
theorem made_bools (n : Nat) : (madeCells (Value.bool false).cells (n * 1)).toList = bsl (List.replicate n false) := by
  have h : (Value.bool false).cells = #[Value.bool false] := rfl
  rw [h, Nat.mul_one, toList_madeCells_one]
  simp [bsl]
/-- a nil slice as an own row -/
theorem weak_nil {Γ : Cx} {σ : St} {k h T s : Nat} (hk : get σ (.s k) = some (.s (V.v (.slice none 0 0)))) (hh : get σ (.o h) = some .free) :
    Weak Γ σ ((.s k, some (.s (.b (.a (.sl h 0 0))))) :: (.o h, some (.o ⟨T, s, true, pl []⟩)) :: σ) := by
  intro a w ⟨ρ, I, hs⟩
  obtain ⟨ρ', hρ, hx', hs2⟩ := hs.adopt hh (p := ⟨0, 0, 0, s, false, true⟩) (o := ⟨T, s, true, pl []⟩) rfl (by simp [pl]) (fun _ => ⟨rfl, rfl, Nat.zero_le _⟩) (fun _ => rfl) (fun h => by simp at h) (RowFit.no pl_nr) (fun h => by simp at h) (fun h => by simp at h)
  have hv : a.tmps.getD k undef = .slice none 0 0 := hs.sl k _ hk
  refine ⟨ρ', I, hs2.n, hs2.d, fun k' x h' hf hg hh => ?_, hs2.kp, fun k' v hk' => ?_, ?_⟩
  · by_cases e : k = k'
    · subst e
      rw [get_cons_eq] at hg
      injection hg with hg; injection hg with hg; injection hg with hg; injection hg with hg
      subst hg
      exact absurd (show h = h' ∧ 0 < 0 from hh).2 (by omega)
    · rw [get_cons_ne (key_ne e)] at hg
      exact hs2.fx k' x h' hf hg hh
  · by_cases e : k = k'
    · subst e
      rw [get_cons_eq] at hk'
      injection hk' with hk'; injection hk' with hk'
      subst hk'
      rw [hv]
      exact ⟨_, none, hx', by simp, by simp, fun _ => by simp⟩
    · rw [get_cons_ne (key_ne e)] at hk'
      exact hs2.sl k' v hk'
  · have hg : ∀ x, get ((Key.s k, some (Cell.s (V.b (B.a (A.sl h 0 0))))) :: (Key.o h, some (Cell.o ⟨T, s, true, pl []⟩)) :: σ) (.o x) = get ((Key.o h, some (Cell.o ⟨T, s, true, pl []⟩)) :: σ) (.o x) := fun x => get_cons_ne rfl
    exact ⟨fun x o ho => hs2.m.ow x o ((hg x) ▸ ho), fun x hx => hs2.m.fr x ((hg x) ▸ hx), fun x p o ho => hs2.m.pl x p o ((hg x) ▸ ho), fun x y p p' o o' h1 h2 => hs2.m.inj x y p p' o o' ((hg x) ▸ h1) ((hg y) ▸ h2), hs2.m.im, (hs2.m.rows0 fun x o ho => (hg x) ▸ ho).1, (hs2.m.rows0 fun x o ho => (hg x) ▸ ho).2, hs2.m.fm⟩
theorem loop_back {Γ : Cx} {α : Type} {inv : α → Prop} {head : α → St} {μ : α → Nat} {m : Nat} {K : Exit → St → Prop} {σ : St} (y : α) (h1 : inv y) (h2 : μ y < m) (h3 : Weak Γ σ (head y)) : thenK (fun σ' => ∃ y, inv y ∧ μ y < m ∧ Weak Γ σ' (head y)) K .normal σ := ⟨y, h1, h2, h3⟩
theorem vint {π : Nat → Nat} {k : IntKind} {a b : Int} (h : a = b) : (V.v (.int k a)).ren π = V.v (.int k b) := by subst h; rfl
theorem vbool {π : Nat → Nat} {a b : Bool} (h : a = b) : (V.v (.bool a)).ren π = V.v (.bool b) := by subst h; rfl
theorem vsl {π : Nat → Nat} {h h' off n m : Nat} (e : n = m) (e' : π h = h') : (V.b (.a (.sl h off n))).ren π = V.b (.a (.sl h' off m)) := by subst e; subst e'; rfl
theorem vslo {π : Nat → Nat} {h h' off off' n m : Nat} (e : n = m) (e2 : off = off') (e' : π h = h') : (V.b (.a (.sl h off n))).ren π = V.b (.a (.sl h' off' m)) := by subst e; subst e2; subst e'; rfl
theorem vgen {π : Nat → Nat} {v v' : V} (h : v = v') (hr : v.ren π = v) : v.ren π = v' := by rw [hr, h]
theorem renob_eq {π : Nat → Nat} {F : List Nat} {T s : Nat} {ex ex' : Bool} {xs ys : List Value} (h : ex = true → ex' = true) (e : xs = ys) : RenOb π F ⟨T, s, ex, pl xs⟩ ⟨T, s, ex', pl ys⟩ := by subst e; exact renob_pl h
def subst1 (l : List (Nat × Nat)) (h : Nat) : Nat := match l with
  | [] => h
  | (a, b) :: r => bif Nat.beq a h then b else subst1 r h
theorem resval {v v' : Value} (h : v = v') : ResV (.val v) (.a (.val v')) [] [] := by subst h; exact .val v
theorem bval {σ : St} {v v' : Value} (h : v = v') : BRes σ (.a (.val v)) (.val v') := by subst h; exact .val v
end Cl
end Go.Proofs.Ytgmckbchcpfhcaa
