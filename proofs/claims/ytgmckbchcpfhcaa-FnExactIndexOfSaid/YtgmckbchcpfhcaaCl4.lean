
/- The laws of addresses, lengths, slices, literals and appends, over clean states. -/
import Derived.Test.YtgmckbchcpfhcaaCl3
namespace Go.Proofs.Ytgmckbchcpfhcaa
namespace Cl
open Go.ChangeShapes Go.WideShapes Go.ChangeAt Go.RowKit

def fieldOff (P : Program) (T : TypeId) (f : Nat) : Option Nat :=
  match P.underlying T with
  | some (.struct fs) => match fs[f]? with
    | some fl => match P.info? fl.type with
      | some i => if i.size = 0 then none else some fl.offset
      | none => none
    | none => none
  | _ => none
theorem run_field {P : Program} {T : TypeId} {f fo b o : Nat} (h : fieldOff P T f = some fo) (w : World) : (Instr.fieldAt T (.pointer (some ⟨b, o, none⟩)) f).run P w = .ok (.pointer (some ⟨b, o + fo, none⟩)) w := by
  unfold fieldOff at h
  split at h
  · rename_i fs hu
    split at h
    · rename_i fl hf
      split at h
      · rename_i i hi
        split at h
        · cases h
        · rename_i hz
          injection h with h
          subst h
          simp [Instr.fieldAt, run_underlying hu, hf, Instr.sureAddr, fieldPlace, sizeOf, typeInfo, hi, hz, add_lit]
      · cases h
    · cases h
  · cases h
theorem run_index {P : Program} {t e : TypeId} {s b o n c k : Nat} {iv : Int} (hu : P.underlying t = some (.slice e)) (he : (P.info? e).map (·.size) = some s) (hk : iv = (k : Int)) (hlt : k < n) (w : World) :
    (Instr.indexAt t (.slice (some ⟨b, o, none⟩) n c) (.int .i64 iv)).run P w = .ok (.pointer (some ⟨b, o + k * s, none⟩)) w := by
  subst hk
  cases hq : P.info? e with
  | none => simp [hq] at he
  | some i =>
    have hi : i.size = s := by simpa [hq] using he
    simp [Instr.indexAt, run_underlying hu, asIntOf, sizeOf, typeInfo, hq, hi, hlt, add_lit]
theorem run_indexArr {P : Program} {t e : TypeId} {s b o n k : Nat} {iv : Int} (hu : P.underlying t = some (.array n e)) (he : (P.info? e).map (·.size) = some s) (hk : iv = (k : Int)) (hlt : k < n) (w : World) :
    (Instr.indexAt t (.pointer (some ⟨b, o, none⟩)) (.int .i64 iv)).run P w = .ok (.pointer (some ⟨b, o + k * s, none⟩)) w := by
  subst hk
  cases hq : P.info? e with
  | none => simp [hq] at he
  | some i =>
    have hi : i.size = s := by simpa [hq] using he
    simp [Instr.indexAt, run_underlying hu, asIntOf, Instr.sureAddr, sizeOf, typeInfo, hq, hi, hlt, add_lit]
section
variable {Γ : Cx} {d : Nat} {ty : TypeId} {pos : String} {af : Array Edge} {g : Option (Nat × Bool)}
theorem acts_field {t T f fo h off off' : Nat} (hN : Γ.ok d) (hf : fieldOff Γ.P T f = some fo) (ho : off + fo = off') :
    Acts Γ ⟨some d, .fieldAddr T (.tmp t) f, ty, pos, af, g⟩ [(.s t, .s (V.p h off))] [(.s d, some (.s (V.p h off')))] :=
  Acts.pure rfl hN fun a w ρ I hfa => by
    subst ho
    obtain ⟨p, hp, he⟩ := hfa (.s t) (.s (V.p h off)) (by simp)
    have he' : a.eval (.tmp t) = .pointer (some ⟨p.block, p.base + off, none⟩) := he
    refine ⟨.pointer (some ⟨p.block, p.base + off + fo, none⟩), ?_, p, hp, by rw [Nat.add_assoc]⟩
    simp only [execOp, he']
    rw [Sem.run_bind, run_field hf]
    rfl
theorem acts_field_v {t T f fo s off off' : Nat} {xs : List Value} (hN : Γ.ok d) (hf : fieldOff Γ.P T f = some fo) (ho : off + fo = off') :
    Acts Γ ⟨some d, .fieldAddr T (.tmp t) f, ty, pos, af, g⟩ [(.s t, .s (.b (.a (.ptrv s xs off))))] [(.s d, some (.s (.b (.a (.ptrv s xs off')))))] :=
  Acts.pure rfl hN fun a w ρ I hfa => by
    subst ho
    obtain ⟨b, o, he, hI, hc⟩ := hfa (.s t) (.s (.b (.a (.ptrv s xs off)))) (by simp)
    have he' : a.eval (.tmp t) = .pointer (some ⟨b, o + off, none⟩) := he
    refine ⟨.pointer (some ⟨b, o + off + fo, none⟩), ?_, b, o, by rw [Nat.add_assoc], hI, hc⟩
    simp only [execOp, he']
    rw [Sem.run_bind, run_field hf]
    rfl
theorem acts_index_v {x t e s n k : Nat} {i : Operand} {iv : Int} {xs : List Value} {R : List (Key × Cell)} (hN : Γ.ok d) (hu : Γ.P.underlying t = some (.slice e)) (he : (Γ.P.info? e).map (·.size) = some s) (hi : OpV i (.int .i64 iv) R) (hk : iv = (k : Int)) (hlt : k < n) :
    Acts Γ ⟨some d, .indexAddr t (.tmp x) i, ty, pos, af, g⟩ ((.s x, .s (.b (.a (.slv n s xs)))) :: R) [(.s d, some (.s (.b (.a (.ptrv s xs (k * s))))))] :=
  Acts.pure rfl hN fun a w ρ I hfa => by
    obtain ⟨hl, A, c, h1, h2, h3⟩ := hfa (.s x) (.s (.b (.a (.slv n s xs)))) (by simp)
    obtain ⟨b, o, rfl, hI, hc⟩ := h3 (by omega)
    have hiv := hi.ev (fun k c hk => hfa k c (by simp [hk]))
    have he' : a.eval (.tmp x) = .slice (some ⟨b, o, none⟩) n c := h1
    refine ⟨.pointer (some ⟨b, o + k * s, none⟩), ?_, b, o, rfl, hI, hc⟩
    simp only [execOp, he', hiv]
    rw [Sem.run_bind, run_index hu he hk hlt]
    rfl
theorem acts_index_vv {x t e s k : Nat} {i : Operand} {iv : Int} {rows : List (Nat × List Value)} {R : List (Key × Cell)} (hN : Γ.ok d) (hu : Γ.P.underlying t = some (.slice e)) (he : (Γ.P.info? e).map (·.size) = some 1) (hi : OpV i (.int .i64 iv) R) (hk : iv = (k : Int)) (hlt : k < rows.length) :
    Acts Γ ⟨some d, .indexAddr t (.tmp x) i, ty, pos, af, g⟩ ((.s x, .s (.b (.a (.slvv s rows)))) :: R) [(.s d, some (.s (.b (.a (.ptrvv s rows k)))))] :=
  Acts.pure rfl hN fun a w ρ I hfa => by
    obtain ⟨A, c, h1, h2, h3⟩ := hfa (.s x) (.s (.b (.a (.slvv s rows)))) (by simp)
    obtain ⟨b, o, rfl, hI, hc⟩ := h3 (by omega)
    have hiv := hi.ev (fun k c hk => hfa k c (by simp [hk]))
    have he' : a.eval (.tmp x) = .slice (some ⟨b, o, none⟩) rows.length c := h1
    refine ⟨.pointer (some ⟨b, o + k, none⟩), ?_, b, o, rfl, hI, hc⟩
    simp only [execOp, he', hiv]
    rw [Sem.run_bind, run_index hu he hk hlt, Nat.mul_one]
    rfl
theorem acts_index_sl {x t e h off n k off' : Nat} {i : Operand} {iv : Int} {o : Ob} {R : List (Key × Cell)} (hN : Γ.ok d) (hu : Γ.P.underlying t = some (.slice e)) (he : (Γ.P.info? e).map (·.size) = some o.s) (hi : OpV i (.int .i64 iv) R) (hk : iv = (k : Int)) (hlt : k < n) (ho : off * o.s + k * o.s = off') :
    Acts Γ ⟨some d, .indexAddr t (.tmp x) i, ty, pos, af, g⟩ ((.s x, .s (.b (.a (.sl h off n)))) :: (.o h, .o o) :: R) [(.s d, some (.s (V.p h off')))] :=
  Acts.pure rfl hN fun a w ρ I hfa => by
    obtain ⟨p, A, hp, h1, h2, h3⟩ := hfa (.s x) (.s (.b (.a (.sl h off n)))) (by simp)
    obtain ⟨p', hp', hs, _, _, hz, _⟩ : Own ρ I w h o := hfa (.o h) (.o o) (by simp)
    rw [hp] at hp'; injection hp' with hp'; subst hp'
    have hlv : p.live = true := by
      rcases Bool.eq_false_or_eq_true p.live with h | h
      · exact h
      · have := hz h; omega
    have h3' := h3 (.inr (by omega))
    rw [hlv, if_pos rfl] at h3'
    subst h3'
    have hiv := hi.ev (fun k c hk => hfa k c (by simp [hk]))
    have he' : a.eval (.tmp x) = .slice (some ⟨p.block, p.base + off * p.size, none⟩) n (p.cap - off) := h1
    refine ⟨.pointer (some ⟨p.block, p.base + off * p.size + k * o.s, none⟩), ?_, p, hp, by rw [← ho, hs, Nat.add_assoc]⟩
    simp only [execOp, he', hiv]
    rw [Sem.run_bind, run_index hu he hk hlt]
    rfl
theorem acts_index_arr {x t e s h off n k off' : Nat} {i : Operand} {iv : Int} {R : List (Key × Cell)} (hN : Γ.ok d) (hu : Γ.P.underlying t = some (.array n e)) (he : (Γ.P.info? e).map (·.size) = some s) (hi : OpV i (.int .i64 iv) R) (hk : iv = (k : Int)) (hlt : k < n) (ho : off + k * s = off') :
    Acts Γ ⟨some d, .indexAddr t (.tmp x) i, ty, pos, af, g⟩ ((.s x, .s (V.p h off)) :: R) [(.s d, some (.s (V.p h off')))] :=
  Acts.pure rfl hN fun a w ρ I hfa => by
    obtain ⟨p, hp, h1⟩ := hfa (.s x) (.s (V.p h off)) (by simp)
    have hiv := hi.ev (fun k c hk => hfa k c (by simp [hk]))
    have he' : a.eval (.tmp x) = .pointer (some ⟨p.block, p.base + off, none⟩) := h1
    refine ⟨.pointer (some ⟨p.block, p.base + off + k * s, none⟩), ?_, p, hp, by rw [← ho, Nat.add_assoc]⟩
    simp only [execOp, he', hiv]
    rw [Sem.run_bind, run_indexArr hu he hk hlt]
    rfl
/-- lengths -/
inductive LenOf : A → Nat → Prop
  | sl (h off n : Nat) : LenOf (.sl h off n) n
  | slv (n s : Nat) (xs : List Value) : LenOf (.slv n s xs) n
  | slvv (s : Nat) (rows : List (Nat × List Value)) : LenOf (.slvv s rows) rows.length
  | nil (n c : Nat) : LenOf (.val (.slice none n c)) n
theorem LenOf.val {x : A} {n : Nat} (h : LenOf x n) {ρ : Nat → Option Place} {I : Nat → Prop} {w : World} {u : Value} (hr : RelA ρ I w x u) : ∃ A c, u = .slice A n c := by
  cases h with
  | sl h off n => obtain ⟨p, A, _, e, _⟩ := hr; exact ⟨A, _, e⟩
  | slv n s xs => obtain ⟨_, A, c, e, _⟩ := hr; exact ⟨A, c, e⟩
  | slvv s rows => obtain ⟨A, c, e, _⟩ := hr; exact ⟨A, c, e⟩
  | nil n c => exact ⟨none, c, hr⟩
theorem acts_len {x : Operand} {X : A} {t e n : Nat} {iv : Int} {R : List (Key × Cell)} (hN : Γ.ok d) (hu : Γ.P.underlying t = some (.slice e)) (hx : OpX x (.b (.a X)) R) (hl : LenOf X n) (hi : (n : Int) = iv) :
    Acts Γ ⟨some d, .call { callee := .builtin .len, args := #[x], argTypes := #[t] }, ty, pos, af, g⟩ R [(.s d, some (.s (V.v (.int .i64 iv))))] :=
  Acts.pure rfl hN fun a w ρ I hfa => by
    subst hi
    obtain ⟨A, c, he⟩ := hl.val (hx.rel hfa)
    refine ⟨_, ?_, rfl⟩
    have hrun : (Builtin.len_ #[t] ty #[a.eval x]).run Γ.P w = .ok (.int .i64 n) w := by
      rw [he]; simp [Builtin.len_, run_underlying hu, goInt]
    simp only [execOp, resolve]
    simp only [List.map_toArray, List.map_cons, List.map_nil]
    simp only [Sem.run_bind, Sem.run_pure, Result.andThen_ok, invoke, builtin, hrun]
end
end Cl
end Go.Proofs.Ytgmckbchcpfhcaa
