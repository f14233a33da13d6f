
/- The laws of slicing, making, building and appending, over clean states. -/
import Derived.Test.YtgmckbchcpfhcaaCl4
namespace Go.Proofs.Ytgmckbchcpfhcaa
namespace Cl
open Go.ChangeShapes Go.WideShapes Go.ChangeAt Go.RowKit

def pl (xs : List Value) : List A := xs.map A.val
theorem pl_len (xs : List Value) : (pl xs).length = xs.length := by simp [pl]
theorem pl_append (xs ys : List Value) : pl (xs ++ ys) = pl xs ++ pl ys := by simp [pl]
theorem pl_get {xs : List Value} {j : Nat} {v : Value} (h : xs[j]? = some v) : (pl xs)[j]? = some (.val v) := by simp [pl, h]
theorem pl_take_drop (xs : List Value) (i n : Nat) : ((pl xs).drop i).take n = pl ((xs.drop i).take n) := by simp [pl]
theorem pl_splice (xs ys : List Value) (i n : Nat) : (pl xs).take i ++ pl ys ++ (pl xs).drop n = pl (xs.take i ++ ys ++ xs.drop n) := by simp [pl]
theorem pl_one {xs : List Value} (h : ∀ v ∈ xs, v.oneCell' = true) : ∀ y ∈ pl xs, y.one = true := by
  intro y hy
  simp only [pl, List.mem_map] at hy
  obtain ⟨v, hv, rfl⟩ := hy
  exact h v hv
theorem isl_one (l : List Int) : ∀ v ∈ isl l, v.oneCell' = true := by
  intro v hv; simp only [isl, List.mem_map] at hv; obtain ⟨z, _, rfl⟩ := hv; rfl
theorem dsl_one' (l : List Dom) : ∀ v ∈ dsl l, v.oneCell' = true := by
  intro v hv; simp only [dsl, List.mem_flatMap] at hv; obtain ⟨z, _, hz⟩ := hv
  simp [Dom.cs] at hz; rcases hz with rfl | rfl | rfl <;> rfl
theorem csl_one' (l : List Cel) : ∀ v ∈ csl l, v.oneCell' = true := by
  intro v hv; simp only [csl, List.mem_flatMap] at hv; obtain ⟨z, _, hz⟩ := hv
  simp [Cel.cs] at hz; rcases hz with rfl | rfl <;> rfl
/-- a bound of a slice expression -/
inductive OpB : Option Operand → Nat → Nat → List (Key × Cell) → Prop
  | no (n : Nat) : OpB none n n []
  | so {x : Operand} {R : List (Key × Cell)} {k : IntKind} {iv : Int} (n l : Nat) (h : OpV x (.int k iv) R) (e : iv = (l : Int)) : OpB (some x) n l R
theorem OpB.bound {lo hi : Option Operand} {n cap l h : Nat} {R R' : List (Key × Cell)} (hl : OpB lo 0 l R) (hh : OpB hi n h R') (h1 : l ≤ h) (h2 : h ≤ cap) {a : Act} {w : World} {ρ : Nat → Option Place} {I : Nat → Prop} (hf : Facts R a w ρ I) (hf' : Facts R' a w ρ I) {P : Program} (b : Bool) :
    (Instr.sliceBounds b n cap (lo.map a.eval) (hi.map a.eval) none).run P w = .ok (l, h, cap) w := by
  cases hl with
  | no =>
    cases hh with
    | no => simp [Instr.sliceBounds, go_sem]
    | so _ _ hx e => subst e; simp only [Option.map_some, hx.ev hf', Option.map_none]; simp [Instr.sliceBounds, Instr.sliceBound, asIntOf, go_sem, h2]
  | so _ _ hx e =>
    subst e
    cases hh with
    | no => simp only [Option.map_some, hx.ev hf, Option.map_none]; simp [Instr.sliceBounds, Instr.sliceBound, asIntOf, go_sem, h1]
    | so _ _ hx' e' => subst e'; simp only [Option.map_some, hx.ev hf, hx'.ev hf']; simp [Instr.sliceBounds, Instr.sliceBound, asIntOf, go_sem, h1, h2]
theorem run_sliceAt_sl {P : Program} {t e s n c l h : Nat} {A : Option Addr} {lo hi : Option Value} (hu : P.underlying t = some (.slice e)) (he : (P.info? e).map (·.size) = some s) {w : World}
    (hb : (Instr.sliceBounds true n c lo hi none).run P w = .ok (l, h, c) w) : (Instr.sliceAt t (.slice A n c) lo hi none).run P w = .ok (.slice (if c = l then A else A.map (·.add (l * s))) (h - l) (c - l)) w := by
  cases hq : P.info? e with
  | none => simp [hq] at he
  | some i =>
    have hi : i.size = s := by simpa [hq] using he
    simp only [Instr.sliceAt, Sem.run_bind, run_underlying hu, Result.andThen_ok]
    simp only [Instr.slice, Sem.run_bind, run_underlying hu, Result.andThen_ok, hb]
    simp [sizeOf, typeInfo, hq, hi]
section
variable {Γ : Cx} {d : Nat} {ty : TypeId} {pos : String} {af : Array Edge} {g : Option (Nat × Bool)}
theorem acts_slice_v {x t e s n l h m : Nat} {lo hi : Option Operand} {xs ys : List Value} {R R' : List (Key × Cell)} (hN : Γ.ok d) (hu : Γ.P.underlying t = some (.slice e)) (he : (Γ.P.info? e).map (·.size) = some s)
    (hl : OpB lo 0 l R) (hh : OpB hi n h R') (h1 : l ≤ h) (h2 : h ≤ n) (hm : h - l = m) (hy : (xs.drop (l * s)).take (m * s) = ys) :
    Acts Γ ⟨some d, .slice t (.tmp x) lo hi none, ty, pos, af, g⟩ ((.s x, .s (.b (.a (.slv n s xs)))) :: (R ++ R')) [(.s d, some (.s (.b (.a (.slv m s ys)))))] :=
  Acts.pure rfl hN fun a w ρ I hfa => by
    obtain ⟨hxl, A, c, e1, e2, e3⟩ := hfa (.s x) (.s (.b (.a (.slv n s xs)))) (by simp)
    have hb := OpB.bound hl hh h1 (show h ≤ c by omega) (fun k c hk => hfa k c (by simp [hk])) (fun k c hk => hfa k c (by simp [hk])) (P := Γ.P) true
    have he' : a.eval (.tmp x) = .slice A n c := e1
    refine ⟨.slice (if c = l then A else A.map (·.add (l * s))) (h - l) (c - l), ?_, ?_⟩
    · simp only [execOp, he', Option.map_none]
      rw [Sem.run_bind, run_sliceAt_sl hu he hb]
      rfl
    · subst hm
      have hle : l * s + (h - l) * s ≤ n * s := by rw [← Nat.add_mul]; exact Nat.mul_le_mul_right _ (by omega)
      refine ⟨by rw [← hy]; simp; omega, _, _, rfl, by omega, fun hp => ?_⟩
      obtain ⟨b, o, rfl, hI, hc⟩ := e3 (by omega)
      have hne : ¬ c = l := by omega
      rw [if_neg hne]
      refine ⟨b, o + l * s, by simp [add_lit], hI, fun j v hj => ?_⟩
      rw [Nat.add_assoc]
      apply hc
      rw [← hy, List.getElem?_take] at hj
      split at hj
      · rw [List.getElem?_drop] at hj; exact hj
      · cases hj
theorem acts_slice_sl {x t e h0 off n l h m off' : Nat} {lo hi : Option Operand} {o : Ob} {R R' : List (Key × Cell)} (hN : Γ.ok d) (hu : Γ.P.underlying t = some (.slice e)) (he : (Γ.P.info? e).map (·.size) = some o.s)
    (hl : OpB lo 0 l R) (hh : OpB hi n h R') (h1 : l ≤ h) (h2 : h ≤ n) (hm : h - l = m) (ho : off + l = off') :
    Acts Γ ⟨some d, .slice t (.tmp x) lo hi none, ty, pos, af, g⟩ ((.s x, .s (.b (.a (.sl h0 off n)))) :: (.o h0, .o o) :: (R ++ R')) [(.s d, some (.s (.b (.a (.sl h0 off' m)))))] :=
  Acts.pure rfl hN fun a w ρ I hfa => by
    obtain ⟨p, A, hp, e1, e2, e3⟩ := hfa (.s x) (.s (.b (.a (.sl h0 off n)))) (by simp)
    obtain ⟨p', hp', hs, _, _, hz, _⟩ : Own ρ I w h0 o := hfa (.o h0) (.o o) (by simp)
    rw [hp] at hp'; injection hp' with hp'; subst hp'
    have hb := OpB.bound hl hh h1 (show h ≤ p.cap - off by omega) (fun k c hk => hfa k c (by simp [hk])) (fun k c hk => hfa k c (by simp [hk])) (P := Γ.P) true
    have he' : a.eval (.tmp x) = .slice A n (p.cap - off) := e1
    refine ⟨.slice (if p.cap - off = l then A else A.map (·.add (l * o.s))) (h - l) (p.cap - off - l), ?_, ?_⟩
    · simp only [execOp, he', Option.map_none]
      rw [Sem.run_bind, run_sliceAt_sl hu he hb]
      rfl
    · subst hm; subst ho
      refine ⟨p, _, hp, by rw [Nat.sub_sub], by omega, fun hne => ?_⟩
      rcases hne with ⟨hx, h0'⟩ | hne
      · have h0 : off = 0 := by omega
        have h00 : l = 0 := by omega
        subst h0; subst h00
        have h3 := e3 (.inl ⟨hx, rfl⟩)
        by_cases hc0 : p.cap - 0 = 0
        · rw [if_pos hc0, h3]
        · rw [if_neg hc0, h3]
          rcases Bool.eq_false_or_eq_true p.live with h | h <;> simp [h, add_lit]
      · have hc0 : p.cap - off ≠ 0 := by omega
        have hne' : ¬ p.cap - off = l := by omega
        have hlv : p.live = true := by
          rcases Bool.eq_false_or_eq_true p.live with h | h
          · exact h
          · have := hz h; omega
        rw [if_neg hne', e3 (.inr hc0), hlv]
        simp [add_lit, hs, Nat.add_mul, Nat.add_assoc]
theorem acts_make {t e h n s : Nat} {i : TypeInfo} {z : Value} {x y : Operand} {iv iv' : Int} {xs : List Value} {R R' : List (Key × Cell)} (hN : Γ.ok d) (hu : Γ.P.underlying t = some (.slice e)) (hi : Γ.P.info? e = some i) (hz : i.zero = some z) (hs : i.size = s)
    (hx : OpV x (.int .i64 iv) R) (hy : OpV y (.int .i64 iv') R') (e1 : iv = (n : Int)) (e2 : iv' = (n : Int)) (hb : i.bytes * n ≤ 281474976710656) (hm : n ≤ maxLen) (hxs : (madeCells z.cells (n * s)).toList = xs) :
    Acts Γ ⟨some d, .makeSlice t x y, ty, pos, af, g⟩ ((.o h, .free) :: (R ++ R')) [(.s d, some (.s (.b (.a (.sl h 0 n))))), (.o h, some (.o ⟨e, s, true, pl xs⟩))] := by
  intro σ a w ρ I hs' hR K Q hK
  have hf := facts_of hs' hR
  subst e1; subst hs
  have hvx := hx.ev (fun k c hk => hf k c (by simp [hk]))
  have hvy := hy.ev (fun k c hk => hf k c (by simp [hk]))
  have hsz : (madeCells z.cells (n * i.size)).size = n * i.size := size_madeCells _ _
  obtain ⟨ρ', hρ, hx', hs2⟩ := hs'.new (hR (.o h, .free) (by simp)) (cur := madeCells z.cells (n * i.size)) (T := e) (cap := n) (s := i.size) (ex := true) (cells := pl xs) hsz (by rw [pl_len, ← hxs]; simp [hsz]) (fun _ => hm) (fun j y hj => by
    rw [← hxs] at hj
    simp only [pl, List.getElem?_map] at hj
    cases hq : (madeCells z.cells (n * i.size)).toList[j]? with
    | none => simp [hq] at hj
    | some u => rw [hq] at hj; injection hj with hj; subst hj; exact ⟨u, by simpa using hq, rfl⟩) (RowFit.no pl_nr)
  have hrun := run_makeN t e i z hu hi hz n hb hm w
  unfold Oper.wp
  simp only [execOp, hvx, hvy, e2]
  rw [Sem.run_bind, hrun]
  show K (a.put (some d) _) _
  exact hK _ _ ⟨ρ', I, hs2.put (V := .b (.a (.sl h 0 n))) hN ⟨_, some ⟨w.heap.size, 0, none⟩, hx', rfl, by simp, fun _ => by simp⟩⟩
/-- values of a literal's parts -/
inductive OpVs : List (Nat × Operand) → List (Nat × Value) → List (Key × Cell) → Prop
  | nil : OpVs [] [] []
  | cons {i : Nat} {x : Operand} {v : Value} {R R' : List (Key × Cell)} {ps : List (Nat × Operand)} {vs : List (Nat × Value)} (h : OpV x v R) (hs : OpVs ps vs R') : OpVs ((i, x) :: ps) ((i, v) :: vs) (R ++ R')
theorem OpVs.ev {ps : List (Nat × Operand)} {vs : List (Nat × Value)} {R : List (Key × Cell)} (h : OpVs ps vs R) {a : Act} {w : World} {ρ : Nat → Option Place} {I : Nat → Prop} (hf : Facts R a w ρ I) : (ps.map fun (i, x) => (i, a.eval x)) = vs := by
  induction h with
  | nil => rfl
  | cons h hs ih => simp only [List.map_cons]; rw [h.ev hf.left, ih hf.right]
theorem acts_build {t : TypeId} {ps : List (Nat × Operand)} {vs : List (Nat × Value)} {cells : List Value} {R : List (Key × Cell)} (hN : Γ.ok d) (hv : OpVs ps vs R) (hb : Γ.P.built t vs = some cells.toArray) :
    Acts Γ ⟨some d, .build t ps.toArray, ty, pos, af, g⟩ R [(.s d, some (.s (V.av cells)))] :=
  Acts.pure rfl hN fun a w ρ I hfa => by
    refine ⟨.agg cells.toArray, ?_, relav_mk cells⟩
    have he := hv.ev hfa
    simp only [execOp, List.map_toArray, he]
    rw [Sem.run_bind, run_build w t vs.toArray cells.toArray (by simpa using hb)]
    rfl
theorem acts_build1 {t x : Nat} {X : A} (hN : Γ.ok d) (hX : ∃ h off n, X = .sl h off n ∨ (∃ s xs, X = .slv n s xs)) (hb : ∀ A n c, Γ.P.built t [(0, .slice A n c)] = some #[.slice A n c]) :
    Acts Γ ⟨some d, .build t #[(0, .tmp x)], ty, pos, af, g⟩ [(.s x, .s (.b (.a X)))] [(.s d, some (.s (.b (.agg [X]))))] :=
  Acts.pure rfl hN fun a w ρ I hfa => by
    have hr : RelA ρ I w X (a.eval (.tmp x)) := hfa (.s x) (.s (.b (.a X))) (by simp)
    have hsl : ∃ A n c, a.eval (.tmp x) = .slice A n c := by
      obtain ⟨h, off, n, rfl | ⟨s, xs, rfl⟩⟩ := hX
      · obtain ⟨p, A, _, e, _⟩ := hr; exact ⟨A, _, _, e⟩
      · obtain ⟨_, A, c, e, _⟩ := hr; exact ⟨A, _, c, e⟩
    obtain ⟨A, n, c, he⟩ := hsl
    refine ⟨.agg #[.slice A n c], ?_, [.slice A n c], rfl, rfl, fun j y v h1 h2 => ?_⟩
    · simp only [execOp, List.map_toArray, List.map_cons, List.map_nil, he]
      rw [Sem.run_bind, run_build w t #[(0, .slice A n c)] #[.slice A n c] (hb A n c)]
      rfl
    · match j, h1, h2 with
      | 0, h1, h2 =>
        simp at h1 h2; subst h1; subst h2; rw [← he]; exact hr
theorem acts_buildSlice {t e h n s : Nat} {i : TypeInfo} {z : Value} {ps : List (Nat × Operand)} {vs : List (Nat × Value)} {xs : List Value} {R : List (Key × Cell)} (hN : Γ.ok d) (hu : Γ.P.underlying t = some (.slice e)) (hi : Γ.P.info? e = some i) (hz : i.zero = some z) (hs : i.size = s)
    (hv : OpVs ps vs R) (hpos : 0 < n * s) (hsm : n * s ≤ 1000) (hf : Instr.fill (fun i => some (i * s, s)) ((Array.range (n * s)).map (z.cells[· % z.cells.size]!)) vs = some xs.toArray) (hl : xs.length = n * s) :
    Acts Γ ⟨some d, .buildSlice t n ps.toArray, ty, pos, af, g⟩ ((.o h, .free) :: R) [(.s d, some (.s (.b (.a (.sl h 0 n))))), (.o h, some (.o ⟨e, s, true, pl xs⟩))] := by
  intro σ a w ρ I hs' hR K Q hK
  have hfa := facts_of hs' hR
  subst hs
  have he := hv.ev (fun k c hk => hfa k c (by simp [hk]))
  have hn : n ≤ 1000 := by
    rcases Nat.eq_zero_or_pos i.size with h0 | h0
    · rw [h0] at hpos; omega
    · exact Nat.le_trans (Nat.le_mul_of_pos_right n h0) hsm
  obtain ⟨ρ', hρ, hx', hs2⟩ := hs'.new (hR (.o h, .free) (by simp)) (cur := xs.toArray) (T := e) (cap := n) (s := i.size) (ex := true) (cells := pl xs) (by simpa using hl) (by rw [pl_len]; omega) (fun _ => by unfold maxLen; omega) (fun j y hj => by
    simp only [pl, List.getElem?_map] at hj
    cases hq : xs[j]? with
    | none => simp [hq] at hj
    | some u => rw [hq] at hj; injection hj with hj; subst hj; exact ⟨u, by simpa using hq, rfl⟩) (RowFit.no pl_nr)
  have hrun := run_buildSlice w t e n vs.toArray xs.toArray i z hu hi hz (by omega) (by omega) (by simpa using hf)
  unfold Oper.wp
  simp only [execOp, List.map_toArray, he]
  rw [Sem.run_bind, hrun]
  show K (a.put (some d) _) _
  exact hK _ _ ⟨ρ', I, hs2.put (V := .b (.a (.sl h 0 n))) hN ⟨_, some ⟨w.heap.size, 0, none⟩, hx', rfl, by simp, fun _ => by simp⟩⟩
theorem acts_buildSlice0 {t e h s : Nat} {i : TypeInfo} (hN : Γ.ok d) (hu : Γ.P.underlying t = some (.slice e)) (hi : Γ.P.info? e = some i) (hs : i.size = s) :
    Acts Γ ⟨some d, .buildSlice t 0 #[], ty, pos, af, g⟩ [(.o h, .free)] [(.s d, some (.s (.b (.a (.sl h 0 0))))), (.o h, some (.o ⟨e, s, true, pl []⟩))] := by
  intro σ a w ρ I hs' hR K Q hK
  obtain ⟨ρ', hρ, hx', hs2⟩ := hs'.new (hR (.o h, .free) (by simp)) (cur := #[]) (T := e) (cap := 0) (s := s) (ex := true) (cells := pl []) (by simp) (by simp [pl]) (fun _ => by unfold maxLen; omega) (fun j y hj => by simp [pl] at hj) (RowFit.no pl_nr)
  have hrun : (Instr.buildSlice t 0 #[]).run Γ.P w = .ok (.slice (some ⟨w.heap.size, 0, none⟩) 0 0) (w.alloc (.cells #[] e)) := by
    simp [Instr.buildSlice, run_underlying hu, sizeOf, typeInfo, hi, Instr.fill, newRow, go_sem]
  unfold Oper.wp
  simp only [execOp, List.map_toArray, List.map_nil]
  rw [Sem.run_bind, hrun]
  show K (a.put (some d) _) _
  exact hK _ _ ⟨ρ', I, hs2.put (V := .b (.a (.sl h 0 0))) hN ⟨_, some ⟨w.heap.size, 0, none⟩, hx', rfl, by simp, fun hne => by simp⟩⟩
end
end Cl
end Go.Proofs.Ytgmckbchcpfhcaa
