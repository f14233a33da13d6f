
/- The laws of the operations that read and write memory, over clean states. -/
import Derived.Test.YtgmckbchcpfhcaaCl2
import Derived.Deep.MidRow
import Derived.Great.BuildSlice
namespace Go.Proofs.Ytgmckbchcpfhcaa
namespace Cl
open Go.ChangeShapes Go.WideShapes Go.ChangeAt Go.RowKit

def A.one : A → Bool
  | .val v => v.oneCell'
  | .row .. => false
  | _ => true
theorem one_nr {y : A} (h : y.one = true) : y.isRow = false := by cases y <;> first | rfl | cases h
theorem pl_nr {xs : List Value} : ∀ y ∈ xs.map A.val, y.isRow = false := by intro y hy; obtain ⟨v, _, rfl⟩ := List.mem_map.1 hy; rfl
theorem RelA.one {ρ : Nat → Option Place} {I : Nat → Prop} {w : World} {x : A} {u : Value} (h : RelA ρ I w x u) (hx : x.one = true) : u.oneCell' = true := by
  cases x with
  | val v => have e : u = v := h; subst e; exact hx
  | sl h0 off len => obtain ⟨p, A, _, rfl, _⟩ := h; rfl
  | ptr h0 off => obtain ⟨p, _, rfl⟩ := h; rfl
  | slv n s xs => obtain ⟨_, A, c, rfl, _⟩ := h; rfl
  | ptrv s xs off => obtain ⟨g, o, rfl, _⟩ := h; rfl
  | slvv s rows => obtain ⟨A, c, rfl, _⟩ := h; rfl
  | ptrvv s rows k => obtain ⟨g, o, rfl, _⟩ := h; rfl
  | fn f caps => obtain ⟨vs, rfl, _⟩ := h; rfl
  | slg T g n s xs => obtain ⟨_, ⟨rfl, _⟩ | ⟨cap, cur, rfl, _⟩⟩ := h <;> rfl
  | row T n s xs => cases hx
theorem cells_one {v : Value} (h : v.oneCell' = true) : v.cells = #[v] := by
  cases v <;> first | rfl | cases h
def B.cs : B → List A
  | .a x => [x]
  | .agg xs => xs
theorem RelB.cells {ρ : Nat → Option Place} {I : Nat → Prop} {w : World} {b : B} {u : Value} (h : RelB ρ I w b u) (hb : ∀ x ∈ b.cs, x.one = true) :
    u.cells.size = b.cs.length ∧ (∀ (j : Nat) x, b.cs[j]? = some x → ∃ c, u.cells.toList[j]? = some c ∧ RelA ρ I w x c) ∧ ∀ c ∈ u.cells.toList, c.oneCell' = true := by
  cases b with
  | a x =>
    have h1 := RelA.one h (hb x (by simp [B.cs]))
    rw [cells_one h1]
    refine ⟨rfl, fun j y hj => ?_, by simpa using h1⟩
    match j, hj with
    | 0, hj => simp [B.cs] at hj; subst hj; exact ⟨u, rfl, h⟩
  | agg xs =>
    obtain ⟨cs, rfl, hl, hx⟩ := h
    refine ⟨by simpa [Value.cells, B.cs] using hl, fun j x hj => ?_, fun c hc => ?_⟩
    · have hlt : j < cs.length := by rw [hl]; exact (List.getElem?_eq_some_iff.1 hj).1
      exact ⟨cs[j], by simp [Value.cells, hlt], hx j x _ hj (by simp)⟩
    · simp only [Value.cells] at hc
      obtain ⟨j, hj, rfl⟩ := List.getElem_of_mem hc
      have hlt : j < xs.length := by rw [← hl]; exact hj
      exact RelA.one (hx j xs[j] cs[j] (by simp) (by simp)) (hb _ (by simp [B.cs]))
structure TI (P : Program) (T : TypeId) (row : Bool) (n : Nat) : Prop where
  u : ∃ d, P.underlying T = some d ∧ d.isRow = row
  i : (P.info? T).map (·.size) = some n
theorem add_lit (b o j : Nat) : (⟨b, o, none⟩ : Addr).add j = ⟨b, o + j, none⟩ := by unfold Addr.add; split <;> simp_all
section
variable {P : Program}
theorem run_loadAt_one {w : World} {T : TypeId} {n : Nat} {ad : Addr} {v : Value} (hT : TI P T false n) (hc : w.cell? ad = some v) : (Instr.loadAt T (.pointer (some ad))).run P w = .ok v w := by
  obtain ⟨⟨d, hu, hd⟩, _⟩ := hT
  have hagg : (isAgg T).run P w = .ok false w := by
    unfold isAgg
    rw [Sem.run_bind, run_underlying hu w]
    cases d <;> simp_all
  simp [Instr.loadAt, Instr.sureAddr, loadVar, Sem.run_bind, hagg, load, Sem.run, hc]
theorem run_storeVar_at {w : World} {T Tc : TypeId} {row : Bool} {n b o : Nat} {v : Value} {cur : Array Value} (hT : TI P T row n) (hg : w.heap[b]? = some (.cells cur Tc (0, 0))) (hv : v.cells.size = n) (hf : o + n ≤ cur.size) (h1 : ∀ c ∈ v.cells.toList, c.oneCell' = true) :
    (storeVar T ⟨b, o, none⟩ v).run P w = .ok () (w.setRow b (cur.toList.take o ++ v.cells.toList ++ cur.toList.drop (o + n)).toArray) := by
  have hst := run_storeCells_at P b o Tc v.cells.toList 0 cur w hg (by simp; omega) h1
  obtain ⟨_, hi⟩ := hT
  cases hq : P.info? T with
  | none => simp [hq] at hi
  | some i =>
    have hs : v.cells.size = i.size := by simp [hq] at hi; omega
    simp only [Nat.add_zero, Array.length_toList, hv] at hst
    simp [storeVar, sizeOf, typeInfo, hq, hs, hst]
end
theorem own_pos {ρ : Nat → Option Place} {I : Nat → Prop} {w : World} {h : Nat} {o : Ob} (ho : Own ρ I w h o) {j : Nat} (hj : j < o.cells.length) :
    ∃ p cur, ρ h = some p ∧ p.size = o.s ∧ o.cells.length ≤ p.cap * p.size ∧ p.live = true ∧ w.heap[p.block]? = some (.cells cur o.T (0, 0)) ∧ p.base + p.cap * p.size ≤ cur.size ∧ (o.ex = true → cur.size = p.cap * p.size) ∧
      ∀ (j : Nat) x, o.cells[j]? = some x → ∃ u, cur[p.base + j]? = some u ∧ RelA ρ I w x u := by
  obtain ⟨p, hp, hs, hl, he, hz, hx⟩ := ho
  have hn : p.live = true := by
    rcases Bool.eq_false_or_eq_true p.live with h | h
    · exact h
    · rw [hz h, Nat.zero_mul] at hl; omega
  obtain ⟨cur, h1, h2, h3, h4⟩ := hx hn
  exact ⟨p, cur, hp, hs, hl, hn, h1, h2, h3, h4⟩
section
variable {Γ : Cx} {d : Nat} {ty : TypeId} {pos : String} {af : Array Edge} {g : Option (Nat × Bool)}
abbrev V.p (h off : Nat) : V := .b (.a (.ptr h off))
theorem acts_load_own {t T n h off : Nat} {o : Ob} {x : A} (hN : Γ.ok d) (hT : TI Γ.P T false n) (hx : o.cells[off]? = some x) :
    Acts Γ ⟨some d, .load T (.tmp t), ty, pos, af, g⟩ [(.s t, .s (V.p h off)), (.o h, .o o)] [(.s d, some (.s (.b (.a x))))] :=
  Acts.pure rfl hN fun a w ρ I hf => by
    obtain ⟨p, hp, he⟩ := hf (.s t) (.s (V.p h off)) (by simp)
    have ho : Own ρ I w h o := hf (.o h) (.o o) (by simp)
    obtain ⟨p', cur, hp', _, _, _, hg, _, _, hc⟩ := own_pos ho (List.getElem?_eq_some_iff.1 hx).1
    rw [hp] at hp'; injection hp' with hp'; subst hp'
    obtain ⟨u, hu, hr⟩ := hc off x hx
    refine ⟨u, ?_, hr⟩
    have he' : a.eval (.tmp t) = .pointer (some ⟨p.block, p.base + off, none⟩) := he
    simp only [execOp, he']
    rw [Sem.run_bind, run_loadAt_one hT (v := u) (by simp [World.cell?, hg, hu])]
    rfl
theorem acts_load_owns {t T n h off : Nat} {o : Ob} {xs : List A} (hN : Γ.ok d) (hT : TI Γ.P T true n) (hn : xs.length = n) (hp0 : 0 < n) (hx : (o.cells.drop off).take n = xs) :
    Acts Γ ⟨some d, .load T (.tmp t), ty, pos, af, g⟩ [(.s t, .s (V.p h off)), (.o h, .o o)] [(.s d, some (.s (.b (.agg xs))))] :=
  Acts.pure rfl hN fun a w ρ I hf => by
    obtain ⟨p, hp, he⟩ := hf (.s t) (.s (V.p h off)) (by simp)
    have ho : Own ρ I w h o := hf (.o h) (.o o) (by simp)
    have hlen : off + n ≤ o.cells.length := by
      have := congrArg List.length hx
      simp at this; omega
    obtain ⟨p', cur, hp', _, hl, _, hg, hsz, _, hc⟩ := own_pos (j := off) ho (by omega)
    rw [hp] at hp'; injection hp' with hp'; subst hp'
    have he' : a.eval (.tmp t) = .pointer (some ⟨p.block, p.base + off, none⟩) := he
    have hj : ∀ j, j < n → p.base + off + j < cur.size := fun j hj => by omega
    let cs : List Value := (cur.toList.drop (p.base + off)).take n
    have hcl : cs.length = n := by simp [cs]; omega
    have hcg : ∀ (j : Nat) v, cs[j]? = some v → cur[p.base + (off + j)]? = some v := fun j v hv => by
      have hjn : j < n := by rw [← hcl]; exact (List.getElem?_eq_some_iff.1 hv).1
      simp only [cs, List.getElem?_take, hjn, if_true, List.getElem?_drop, Array.getElem?_toList] at hv
      rw [← Nat.add_assoc]; exact hv
    refine ⟨.agg cs.toArray, ?_, cs, rfl, by omega, fun j x c h1 h2 => ?_⟩
    · obtain ⟨⟨dd, hu, hd⟩, hi⟩ := hT
      simp only [execOp, he']
      rw [Sem.run_bind, run_loadAt_mid w p.block (p.base + off) T cs dd (fun j v hv => by simp [World.cell?, hg, hcg j v hv, Nat.add_assoc]) hu hd (by rw [hi, hcl])]
      rfl
    · have hjn : j < n := by rw [← hn]; exact (List.getElem?_eq_some_iff.1 h1).1
      have hoc : o.cells[off + j]? = some x := by
        rw [← hx] at h1
        simpa [List.getElem?_take, hjn, List.getElem?_drop] using h1
      obtain ⟨u, hu, hr⟩ := hc (off + j) x hoc
      have := hcg j c h2
      rw [hu] at this; injection this with this
      subst this; exact hr
theorem acts_load_v {t T n s off : Nat} {xs : List Value} {v : Value} (hN : Γ.ok d) (hT : TI Γ.P T false n) (hx : xs[off]? = some v) :
    Acts Γ ⟨some d, .load T (.tmp t), ty, pos, af, g⟩ [(.s t, .s (.b (.a (.ptrv s xs off))))] [(.s d, some (.s (V.v v)))] :=
  Acts.pure rfl hN fun a w ρ I hf => by
    obtain ⟨b, o, he, _, hc⟩ := hf (.s t) (.s (.b (.a (.ptrv s xs off)))) (by simp)
    refine ⟨v, ?_, rfl⟩
    have he' : a.eval (.tmp t) = .pointer (some ⟨b, o + off, none⟩) := he
    simp only [execOp, he']
    rw [Sem.run_bind, run_loadAt_one hT (hc off v hx)]
    rfl
theorem acts_load_vs {t T n s off : Nat} {xs vs : List Value} (hN : Γ.ok d) (hT : TI Γ.P T true n) (hn : vs.length = n) (hx : (xs.drop off).take n = vs) :
    Acts Γ ⟨some d, .load T (.tmp t), ty, pos, af, g⟩ [(.s t, .s (.b (.a (.ptrv s xs off))))] [(.s d, some (.s (V.av vs)))] :=
  Acts.pure rfl hN fun a w ρ I hf => by
    obtain ⟨b, o, he, _, hc⟩ := hf (.s t) (.s (.b (.a (.ptrv s xs off)))) (by simp)
    refine ⟨.agg vs.toArray, ?_, relav_mk vs⟩
    have he' : a.eval (.tmp t) = .pointer (some ⟨b, o + off, none⟩) := he
    obtain ⟨⟨dd, hu, hd⟩, hi⟩ := hT
    simp only [execOp, he']
    rw [Sem.run_bind, run_loadAt_mid w b (o + off) T vs dd (fun j v hv => ?_) hu hd (by rw [hi, hn])]
    · rfl
    · have hjn : j < n := by rw [← hn]; exact (List.getElem?_eq_some_iff.1 hv).1
      rw [Nat.add_assoc]
      apply hc
      rw [← hx] at hv
      simpa [List.getElem?_take, hjn, List.getElem?_drop] using hv
theorem acts_load_vv {t T n s k : Nat} {rows : List (Nat × List Value)} {r : Nat × List Value} (hN : Γ.ok d) (hT : TI Γ.P T false n) (hx : rows[k]? = some r) :
    Acts Γ ⟨some d, .load T (.tmp t), ty, pos, af, g⟩ [(.s t, .s (.b (.a (.ptrvv s rows k))))] [(.s d, some (.s (.b (.a (.slv r.1 s r.2)))))] :=
  Acts.pure rfl hN fun a w ρ I hf => by
    obtain ⟨b, o, he, _, hc⟩ := hf (.s t) (.s (.b (.a (.ptrvv s rows k)))) (by simp)
    obtain ⟨q0, A', c', q1, q2, q3⟩ := hc k r hx
    refine ⟨.slice A' r.1 c', ?_, q0, A', c', rfl, q2, q3⟩
    have he' : a.eval (.tmp t) = .pointer (some ⟨b, o + k, none⟩) := he
    simp only [execOp, he']
    rw [Sem.run_bind, run_loadAt_one hT q1]
    rfl
theorem acts_store {t T n h off : Nat} {row : Bool} {o : Ob} {x : Operand} {b : B} {R : List (Key × Cell)} {cells : List A} (hT : TI Γ.P T row n) (hx : OpX x (.b b) R) (hn : b.cs.length = n) (hp0 : 0 < n) (h1 : ∀ y ∈ b.cs, y.one = true)
    (hof : off + n ≤ o.cells.length) (hc : o.cells.take off ++ b.cs ++ o.cells.drop (off + n) = cells) :
    Acts Γ ⟨none, .store T (.tmp t) x, ty, pos, af, g⟩ ((.s t, .s (V.p h off)) :: (.o h, .o o) :: R) [(.o h, some (.o ⟨o.T, o.s, o.ex, cells⟩))] := by
  intro σ a w ρ I hs hR K Q hK
  have hf := facts_of hs hR
  obtain ⟨p, hp, he⟩ := hf (.s t) (.s (V.p h off)) (by simp)
  have ho : Own ρ I w h o := hf (.o h) (.o o) (by simp)
  have hv : RelB ρ I w b (a.eval x) := hx.rel (fun k c hk => hf k c (by simp [hk]))
  obtain ⟨p', cur, hp', hps, hl, hn0, hg, hsz, hex, hcc⟩ := own_pos (j := off) ho (by omega)
  rw [hp] at hp'; injection hp' with hp'; subst hp'
  have h1' := h1
  obtain ⟨v1, v2, v3⟩ := hv.cells h1
  have he' : a.eval (.tmp t) = .pointer (some ⟨p.block, p.base + off, none⟩) := he
  have hrun := run_storeVar_at (o := p.base + off) (v := a.eval x) hT hg (by rw [v1, hn]) (by omega) v3
  unfold Oper.wp
  simp only [execOp, he']
  rw [Sem.run_bind, Instr.storeAt, Sem.run_bind]
  simp only [Instr.sureAddr, Sem.run_pure, Result.andThen_ok]
  rw [hrun]
  show K a _
  refine hK _ _ ⟨ρ, I, ?_⟩
  have hlen : cells.length = o.cells.length := by rw [← hc]; simp; omega
  have hvl : (a.eval x).cells.toList.length = n := by rw [Array.length_toList, v1, hn]
  refine hs.write (hR (.o h, .o o) (by simp)) hp hn0 (by omega) (by simp; omega) (fun e => by have := hex e; simp; omega) (fun j y hj => ?_) (fun j y hj hrw => ?_)
  rotate_left
  · have hcell : w.cell? ⟨p.block, p.base + j, none⟩ = cur[p.base + j]? := by simp [World.cell?, hg]
    rw [hcell]
    rw [← hc] at hj
    simp only [List.getElem?_toArray]
    by_cases h1 : j < off
    · rw [List.append_assoc, List.getElem?_append_left (by simp; omega), List.getElem?_take, if_pos h1] at hj
      refine ⟨hj, ?_⟩
      rw [List.append_assoc, List.getElem?_append_left (by simp; omega), List.getElem?_take, if_pos (by omega)]; simp
    · by_cases h2 : j < off + n
      · rw [List.append_assoc, List.getElem?_append_right (by simp; omega), List.getElem?_append_left (by simp; omega)] at hj
        have := one_nr (h1' _ (List.mem_of_getElem? hj))
        rw [this] at hrw; cases hrw
      · rw [List.append_assoc, List.getElem?_append_right (by simp; omega), List.getElem?_append_right (by simp; omega)] at hj
        simp only [List.length_take, Nat.min_eq_left (show off ≤ o.cells.length by omega), List.getElem?_drop] at hj
        rw [show off + n + (j - off - b.cs.length) = j by omega] at hj
        refine ⟨hj, ?_⟩
        rw [List.append_assoc, List.getElem?_append_right (by simp; omega), List.getElem?_append_right (by simp; omega), List.getElem?_drop]
        have : p.base + off + n + (p.base + j - (List.take (p.base + off) cur.toList).length - (a.eval x).cells.toList.length) = p.base + j := by simp; omega
        rw [this]; simp
  have hjl : j < o.cells.length := by rw [← hlen]; exact (List.getElem?_eq_some_iff.1 hj).1
  rw [← hc] at hj
  simp only [List.getElem?_toArray]
  by_cases h1 : j < off
  · rw [List.append_assoc, List.getElem?_append_left (by simp; omega), List.getElem?_take, if_pos h1] at hj
    obtain ⟨u, hu, hr⟩ := hcc j y hj
    refine ⟨u, ?_, hr⟩
    rw [List.append_assoc, List.getElem?_append_left (by simp; omega), List.getElem?_take, if_pos (by omega)]
    simpa using hu
  · by_cases h2 : j < off + n
    · rw [List.append_assoc, List.getElem?_append_right (by simp; omega), List.getElem?_append_left (by simp; omega)] at hj
      simp only [List.length_take, Nat.min_eq_left (show off ≤ o.cells.length by omega)] at hj
      obtain ⟨c, hc1, hc2⟩ := v2 _ y hj
      refine ⟨c, ?_, hc2⟩
      rw [List.append_assoc, List.getElem?_append_right (by simp; omega), List.getElem?_append_left (by simp; omega)]
      have : p.base + j - (List.take (p.base + off) cur.toList).length = j - off := by simp; omega
      rw [this]; exact hc1
    · rw [List.append_assoc, List.getElem?_append_right (by simp; omega), List.getElem?_append_right (by simp; omega)] at hj
      simp only [List.length_take, Nat.min_eq_left (show off ≤ o.cells.length by omega), List.getElem?_drop] at hj
      rw [show off + n + (j - off - b.cs.length) = j by omega] at hj
      obtain ⟨u, hu, hr⟩ := hcc j y hj
      refine ⟨u, ?_, hr⟩
      rw [List.append_assoc, List.getElem?_append_right (by simp; omega), List.getElem?_append_right (by simp; omega), List.getElem?_drop]
      have : p.base + off + n + (p.base + j - (List.take (p.base + off) cur.toList).length - (a.eval x).cells.toList.length) = p.base + j := by simp; omega
      rw [this]; simpa using hu
theorem acts_alloc {T h cap s : Nat} {i : TypeInfo} {z : Value} {cells : List A} (hN : Γ.ok d) (hi : Γ.P.info? T = some i) (hz : i.zero = some z) (hc : z.cells.toList.map A.val = cells) (hcs : cells.length = cap * s) (hm : cap ≤ 1000000) :
    Acts Γ ⟨some d, .alloc T, ty, pos, af, g⟩ [(.o h, .free)] [(.s d, some (.s (V.p h 0))), (.o h, some (.o ⟨T, s, true, cells⟩))] := by
  intro σ a w ρ I hs hR K Q hK
  have hl : z.cells.size = cells.length := by rw [← hc]; simp
  obtain ⟨ρ', hρ, hx, hs'⟩ := hs.new (hR (.o h, .free) (by simp)) (cur := z.cells) (T := T) (cap := cap) (s := s) (ex := true) (cells := cells) (by omega) (by omega) (fun _ => by unfold maxLen; omega) (fun j y hj => by
    rw [← hc] at hj
    simp only [List.getElem?_map] at hj
    cases hq : z.cells.toList[j]? with
    | none => simp [hq] at hj
    | some u => rw [hq] at hj; injection hj with hj; subst hj; exact ⟨u, by simpa using hq, rfl⟩) (RowFit.no (by rw [← hc]; exact pl_nr))
  unfold Oper.wp
  have hrun : (execOp a.eval ⟨some d, .alloc T, ty, pos, af, g⟩).run Γ.P w = .ok (.value (.pointer (some ⟨w.heap.size, 0, none⟩))) (w.alloc (.cells z.cells T)) := by
    simp [execOp, Instr.alloc, newVar, newRow, zeroValue, typeInfo, hi, hz, go_sem]
  rw [hrun]
  show K (a.put (some d) _) _
  exact hK _ _ ⟨ρ', I, hs'.put hN ⟨_, hx, rfl⟩⟩
theorem acts_box {T h : Nat} {x : Operand} {b : B} {R : List (Key × Cell)} (hN : Γ.ok d) (hx : OpX x (.b b) R) (h1 : ∀ y ∈ b.cs, y.one = true) :
    Acts Γ ⟨some d, .box T x, ty, pos, af, g⟩ ((.o h, .free) :: R) [(.s d, some (.s (V.p h 0))), (.o h, some (.o ⟨T, b.cs.length, true, b.cs⟩))] := by
  intro σ a w ρ I hs hR K Q hK
  have hf := facts_of hs hR
  have hv : RelB ρ I w b (a.eval x) := hx.rel (fun k c hk => hf k c (by simp [hk]))
  obtain ⟨v1, v2, v3⟩ := hv.cells h1
  obtain ⟨ρ', hρ, hx, hs'⟩ := hs.new (hR (.o h, .free) (by simp)) (cur := (a.eval x).cells) (T := T) (cap := 1) (s := b.cs.length) (ex := true) (cells := b.cs) (by omega) (by omega) (fun _ => by unfold maxLen; omega) (fun j y hj => by
    obtain ⟨c, c1, c2⟩ := v2 j y hj
    exact ⟨c, by simpa using c1, c2⟩) (RowFit.no fun y hy => one_nr (h1 y hy))
  unfold Oper.wp
  have hrun : (execOp a.eval ⟨some d, .box T x, ty, pos, af, g⟩).run Γ.P w = .ok (.value (.pointer (some ⟨w.heap.size, 0, none⟩))) (w.alloc (.cells (a.eval x).cells T)) := by
    simp only [execOp]
    generalize a.eval x = u
    simp [Instr.box, newVar, newRow, go_sem]
  rw [hrun]
  show K (a.put (some d) _) _
  exact hK _ _ ⟨ρ', I, hs'.put hN ⟨_, hx, rfl⟩⟩
end
end Cl
end Go.Proofs.Ytgmckbchcpfhcaa
