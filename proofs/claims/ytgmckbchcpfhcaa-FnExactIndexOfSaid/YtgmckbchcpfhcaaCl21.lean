
/- Operations over rows of rows. -/
import Derived.Test.YtgmckbchcpfhcaaCl20
namespace Go.Proofs.Ytgmckbchcpfhcaa
namespace Cl
open Go.ChangeShapes Go.WideShapes Go.ChangeAt Go.RowKit

def gLs (L : List (List Int)) (k : Nat) : List Int := L.getD k []
def gLd (L : List (List Dom)) (k : Nat) : List Dom := L.getD k []
theorem gLs_eq {L : List (List Int)} {k : Nat} (h : k < L.length) : gLs L k = L[k] := by simp [gLs, h]
theorem gLd_eq {L : List (List Dom)} {k : Nat} (h : k < L.length) : gLd L k = L[k] := by simp [gLd, h]
theorem vwI_len (L : List (List Int)) : (vwI L).length = L.length := by simp [vwI]
theorem vwD_len (L : List (List Dom)) : (vwD L).length = L.length := by simp [vwD]
theorem rwI_len (T : Nat) (L : List (List Int)) : (rwI T L).length = L.length := by simp [rwI]
theorem rwD_len (T : Nat) (L : List (List Dom)) : (rwD T L).length = L.length := by simp [rwD]
theorem vwI_at {L : List (List Int)} {k : Nat} (h : k < L.length) : (vwI L)[k]? = some ((gLs L k).length, isl (gLs L k)) := by unfold vwI; rw [List.getElem?_map, List.getElem?_eq_getElem h, gLs_eq h]; rfl
theorem vwD_at {L : List (List Dom)} {k : Nat} (h : k < L.length) : (vwD L)[k]? = some ((gLd L k).length, dsl (gLd L k)) := by unfold vwD; rw [List.getElem?_map, List.getElem?_eq_getElem h, gLd_eq h]; rfl
theorem rwI_at {T : Nat} {L : List (List Int)} {k : Nat} (h : k < L.length) : (rwI T L)[k]? = some (.row T (gLs L k).length 1 (isl (gLs L k))) := by unfold rwI; rw [List.getElem?_map, List.getElem?_eq_getElem h, gLs_eq h]; rfl
theorem rwD_at {T : Nat} {L : List (List Dom)} {k : Nat} (h : k < L.length) : (rwD T L)[k]? = some (.row T (gLd L k).length 3 (dsl (gLd L k))) := by unfold rwD; rw [List.getElem?_map, List.getElem?_eq_getElem h, gLd_eq h]; rfl
theorem rwI_app (T : Nat) (L M : List (List Int)) : rwI T (L ++ M) = rwI T L ++ rwI T M := by simp [rwI]
theorem rwD_app (T : Nat) (L M : List (List Dom)) : rwD T (L ++ M) = rwD T L ++ rwD T M := by simp [rwD]
theorem rwI_ren {π : Nat → Nat} (T : Nat) (L : List (List Int)) : (rwI T L).map (A.ren π) = rwI T L := by unfold rwI; rw [List.map_map]; rfl
theorem rwD_ren {π : Nat → Nat} (T : Nat) (L : List (List Dom)) : (rwD T L).map (A.ren π) = rwD T L := by unfold rwD; rw [List.map_map]; rfl
theorem oc_rwI {os : St} {T : Nat} {L : List (List Int)} : ∀ x ∈ rwI T L, A.hOk os x = true := fun x hx => by unfold rwI at hx; obtain ⟨v, _, rfl⟩ := List.mem_map.1 hx; rfl
theorem oc_rwD {os : St} {T : Nat} {L : List (List Dom)} : ∀ x ∈ rwD T L, A.hOk os x = true := fun x hx => by unfold rwD at hx; obtain ⟨v, _, rfl⟩ := List.mem_map.1 hx; rfl
theorem wQI {σ : St} {π : Nat → Nat} {F : List Nat} {x T T' s : Nat} {ex : Bool} {L L' : List (List Int)} {r : St} (h : Wk σ π F r) (h1 : get σ (.o (π x)) = some (.o ⟨T, s, ex, rwI T' L'⟩) := by exact rfl) (e : L = L' := by rfl) (h3 : F.contains x = false := by kernel_rfl) : Wk σ π F ((.o x, some (.o ⟨T, s, ex, rwI T' L⟩)) :: r) :=
  wk_o h1 ⟨rfl, rfl, fun h => h, by subst e; exact (rwI_ren T' L).symm, fun y hy => by unfold rwI at hy; obtain ⟨v, _, rfl⟩ := List.mem_map.1 hy; rfl⟩ h3 h
theorem wQD {σ : St} {π : Nat → Nat} {F : List Nat} {x T T' s : Nat} {ex : Bool} {L L' : List (List Dom)} {r : St} (h : Wk σ π F r) (h1 : get σ (.o (π x)) = some (.o ⟨T, s, ex, rwD T' L'⟩) := by exact rfl) (e : L = L' := by rfl) (h3 : F.contains x = false := by kernel_rfl) : Wk σ π F ((.o x, some (.o ⟨T, s, ex, rwD T' L⟩)) :: r) :=
  wk_o h1 ⟨rfl, rfl, fun h => h, by subst e; exact (rwD_ren T' L).symm, fun y hy => by unfold rwD at hy; obtain ⟨v, _, rfl⟩ := List.mem_map.1 hy; rfl⟩ h3 h
/-- the last cell of rows takes in an own row -/
theorem pkI {Γ : Cx} {σ : St} {h h1 n T T0 s0 : Nat} {ex0 : Bool} {L : List (List Int)} {r : List Int} (ho : get σ (.o h) = some (.o ⟨T0, s0, ex0, rwI T L ++ [.sl h1 0 n]⟩) := by kernel_rfl) (ho1 : get σ (.o h1) = some (.o ⟨T, 1, true, pl (isl r)⟩) := by kernel_rfl) (hne : Nat.beq h h1 = false := by kernel_rfl) (hn : n = r.length := by simp) :
    Weak Γ σ ((.o h, some (.o ⟨T0, s0, ex0, rwI T (L ++ [r])⟩)) :: (.o h1, none) :: σ) := by
  subst hn
  refine weak_pack (j := L.length) (n := r.length) (T := T) (s := 1) (xs := isl r) ho ho1 hne (by rw [List.getElem?_append_right (by rw [rwI_len]; omega), rwI_len]; simp) (by rw [isl_len, Nat.mul_one]) ?_
  rw [List.set_append, if_neg (by rw [rwI_len]; omega), rwI_len, rwI_app]; simp [rwI]
theorem pkD {Γ : Cx} {σ : St} {h h1 n T T0 s0 : Nat} {ex0 : Bool} {L : List (List Dom)} {r : List Dom} (ho : get σ (.o h) = some (.o ⟨T0, s0, ex0, rwD T L ++ [.sl h1 0 n]⟩) := by kernel_rfl) (ho1 : get σ (.o h1) = some (.o ⟨T, 3, true, pl (dsl r)⟩) := by kernel_rfl) (hne : Nat.beq h h1 = false := by kernel_rfl) (hn : n = r.length := by simp) :
    Weak Γ σ ((.o h, some (.o ⟨T0, s0, ex0, rwD T (L ++ [r])⟩)) :: (.o h1, none) :: σ) := by
  subst hn
  refine weak_pack (j := L.length) (n := r.length) (T := T) (s := 3) (xs := dsl r) ho ho1 hne (by rw [List.getElem?_append_right (by rw [rwD_len]; omega), rwD_len]; simp) (by rw [dsl_len]) ?_
  rw [List.set_append, if_neg (by rw [rwD_len]; omega), rwD_len, rwD_app]; simp [rwD]
theorem fzI {Γ : Cx} {σ : St} {k h T0 T n : Nat} {ex0 : Bool} {L : List (List Int)} (hk : get σ (.s k) = some (.s (.b (.a (.sl h 0 n)))) := by kernel_rfl) (ho : get σ (.o h) = some (.o ⟨T0, 1, ex0, rwI T L⟩) := by kernel_rfl) (hn : n = L.length := by simp) : Weak Γ σ ((.s k, some (.s (.b (.a (.slvv 1 (vwI L)))))) :: (.o h, none) :: σ) :=
  weak_freeze_deep hk ho rwI_get (by rw [hn, vwI_len])
theorem fzD {Γ : Cx} {σ : St} {k h T0 T n : Nat} {ex0 : Bool} {L : List (List Dom)} (hk : get σ (.s k) = some (.s (.b (.a (.sl h 0 n)))) := by kernel_rfl) (ho : get σ (.o h) = some (.o ⟨T0, 1, ex0, rwD T L⟩) := by kernel_rfl) (hn : n = L.length := by simp) : Weak Γ σ ((.s k, some (.s (.b (.a (.slvv 3 (vwD L)))))) :: (.o h, none) :: σ) :=
  weak_freeze_deep hk ho rwD_get (by rw [hn, vwD_len])
theorem dvI {t h n T0 T : Nat} {ex : Bool} {L : List (List Int)} (hn : n = L.length := by simp) : ArgV (.tmp t) (.a (.slvv 1 (vwI L))) [(.s t, .s (.b (.a (.sl h 0 n)))), (.o h, .o ⟨T0, 1, ex, rwI T L⟩)] := ArgV.deep t h n 1 (by rw [hn, vwI_len]) rwI_get
theorem dvD {t h n T0 T : Nat} {ex : Bool} {L : List (List Dom)} (hn : n = L.length := by simp) : ArgV (.tmp t) (.a (.slvv 3 (vwD L))) [(.s t, .s (.b (.a (.sl h 0 n)))), (.o h, .o ⟨T0, 1, ex, rwD T L⟩)] := ArgV.deep t h n 3 (by rw [hn, vwD_len]) rwD_get
section
variable {Γ : Cx} {d : Nat} {ty : TypeId} {pos : String} {af : Array Edge} {g : Option (Nat × Bool)}
theorem b0Q {t e h b T : Nat} (hN : Γ.ok d) (hu : Γ.P.underlying t = some (.slice e)) (hz : ZI Γ.P e (.slice none 0 0) 1 b) : Acts Γ ⟨some d, .buildSlice t 0 #[], ty, pos, af, g⟩ [(.o h, .free)] [(.s d, some (.s (.b (.a (.sl h 0 0))))), (.o h, some (.o ⟨e, 1, true, rwI T []⟩))] := acts_buildSlice0' hN hu hz
theorem b0P {t e h b T : Nat} (hN : Γ.ok d) (hu : Γ.P.underlying t = some (.slice e)) (hz : ZI Γ.P e (.slice none 0 0) 1 b) : Acts Γ ⟨some d, .buildSlice t 0 #[], ty, pos, af, g⟩ [(.o h, .free)] [(.s d, some (.s (.b (.a (.sl h 0 0))))), (.o h, some (.o ⟨e, 1, true, rwD T []⟩))] := acts_buildSlice0' hN hu hz
theorem fill1 (A : Option Addr) (n c : Nat) : Instr.fill (fun i => some (i * 1, 1)) ((Array.range (1 * 1)).map ((Value.slice none 0 0).cells[· % (Value.slice none 0 0).cells.size]!)) (#[(0, Value.slice A n c)] : Array (Nat × Value)).toList = some #[.slice A n c] := by
  have e : (Array.range (1 * 1)).map ((Value.slice none 0 0).cells[· % (Value.slice none 0 0).cells.size]!) = #[.slice none 0 0] := by rw [show Array.range (1 * 1) = #[0] from by decide]; simp [Value.cells]
  rw [e]; simp [Instr.fill, Value.cells]
/-- a slice of one slice -/
theorem bs1 {t e x h b : Nat} {X : A} (hN : Γ.ok d) (hu : Γ.P.underlying t = some (.slice e)) (hz : ZI Γ.P e (.slice none 0 0) 1 b) (hX : ∃ h off n, X = .sl h off n ∨ (∃ s xs, X = .slv n s xs)) :
    Acts Γ ⟨some d, .buildSlice t 1 #[(0, .tmp x)], ty, pos, af, g⟩ [(.o h, .free), (.s x, .s (.b (.a X)))] [(.s d, some (.s (.b (.a (.sl h 0 1))))), (.o h, some (.o ⟨e, 1, true, [X]⟩))] := by
  intro σ a w ρ I hs' hR K Q hK
  obtain ⟨i, hi, hz, hs, _⟩ := hz.get
  have hr : RelA ρ I w X (a.eval (.tmp x)) := hs'.sl x _ (hR (.s x, .s (.b (.a X))) (by simp))
  have hu' : ∃ A n c, a.eval (.tmp x) = .slice A n c := by
    obtain ⟨h', off, n, rfl | ⟨s, xs, rfl⟩⟩ := hX
    · obtain ⟨p, A, _, e, _⟩ := hr; exact ⟨_, _, _, e⟩
    · obtain ⟨_, A, c, e, _⟩ := hr; exact ⟨_, _, _, e⟩
  have hnr : X.isRow = false := by
    obtain ⟨h', off, n, rfl | ⟨s, xs, rfl⟩⟩ := hX <;> rfl
  obtain ⟨A0, n0, c0, hu0⟩ := hu'
  obtain ⟨ρ', hρ, hx', hs2⟩ := hs'.new (hR (.o h, .free) (by simp)) (cur := #[a.eval (.tmp x)]) (T := e) (cap := 1) (s := 1) (ex := true) (cells := [X]) (by simp) (by simp) (fun _ => by unfold maxLen; omega) (fun j y hj => by
    match j, hj with
    | 0, hj => simp at hj; subst hj; exact ⟨_, rfl, hr⟩
    | j + 1, hj => simp at hj) (RowFit.no (by intro y hy; simp at hy; subst hy; exact hnr))
  have hrun := run_buildSlice (P := Γ.P) w t e 1 #[(0, a.eval (.tmp x))] #[a.eval (.tmp x)] i (.slice none 0 0) hu hi hz (by rw [hs]; omega) (by rw [hs]; omega) (by rw [hs, hu0]; exact fill1 A0 n0 c0)
  unfold Oper.wp
  simp only [execOp, List.map_toArray, List.map_cons, List.map_nil]
  rw [Sem.run_bind, hrun]
  show K (a.put (some d) _) _
  exact hK _ _ ⟨ρ', I, hs2.put (V := .b (.a (.sl h 0 1))) hN ⟨_, some ⟨w.heap.size, 0, none⟩, hx', by simp, by simp, fun _ => by simp⟩⟩
/-- a slice goes behind the others -/
theorem aQ {x h h2 n nm t e b y hy Ty : Nat} {X : A} {exy : Bool} {c : List A} (hN : Γ.ok d) (ht : Γ.P.underlying t = some (.slice e)) (hz : ZI Γ.P e (.slice none 0 0) 1 b) (hX : ∃ h off n, X = .sl h off n ∨ (∃ s xs, X = .slv n s xs)) (hl : c.length = n) (hn : n + 1 ≤ 4194304) (hnm : n + 1 = nm) (hb : b ≤ 1000 := by decide) :
    Acts Γ ⟨some d, .call { callee := .builtin .append, args := #[.tmp x, .tmp y], argTypes := #[t, t] }, ty, pos, af, g⟩ ((.s x, .s (.b (.a (.sl h 0 n)))) :: (.o h, .o ⟨e, 1, true, c⟩) :: (.o h2, .free) :: ([(.s y, .s (V.b (.a (.sl hy 0 1))))] ++ [(.o hy, .o ⟨Ty, 1, exy, [X]⟩)]))
      [(.s d, some (.s (.b (.a (.sl h2 0 nm))))), (.o h2, some (.o ⟨e, 1, true, c ++ [X]⟩)), (.o h, none)] := by
  obtain ⟨i, hi, hz, hs, hib⟩ := hz.get
  subst hnm
  refine acts_append (i := i) (z := .slice none 0 0) (o := ⟨e, 1, true, c⟩) (X := .sl hy 0 1) (m := 1) (off := 0) (xs := c) (ys := [X]) (zs := c ++ [X]) (ex := true) hN ht hi hz (by rw [hs]; rfl) hs Nat.one_pos rfl (by simp; omega) (by simp [← hl]) (fun _ => ⟨rfl, rfl⟩) xt (Src.sl hy 0 1 ⟨Ty, 1, exy, [X]⟩ [X] (by simp) (by simp)) ?_ (by unfold maxLen; omega) (by rw [hib]; exact Nat.le_trans (Nat.mul_le_mul hn hb) (by omega)) rfl
  intro z hz
  simp at hz; subst hz
  obtain ⟨h', off, n, rfl | ⟨s, xs, rfl⟩⟩ := hX <;> rfl
/-- views of rows -/
theorem xvv {x t e s k : Nat} {i : Operand} {iv : Int} {rows : List (Nat × List Value)} {R : List (Key × Cell)} (hN : Γ.ok d) (hu : Γ.P.underlying t = some (.slice e)) (he : (Γ.P.info? e).map (·.size) = some 1) (hi : OpV i (.int .i64 iv) R) (hk : iv = (k : Int) := by exact rfl) (hlt : k < rows.length := by (simp only [vwI_len, vwD_len]; omega)) :
    Acts Γ ⟨some d, .indexAddr t (.tmp x) i, ty, pos, af, g⟩ ((.s x, .s (.b (.a (.slvv s rows)))) :: R) [(.s d, some (.s (.b (.a (.ptrvv s rows k)))))] := acts_index_vv hN hu he hi hk hlt
theorem lvI {t T n k : Nat} {L : List (List Int)} (hN : Γ.ok d) (hT : TI Γ.P T false n) (hx : k < L.length := by omega) :
    Acts Γ ⟨some d, .load T (.tmp t), ty, pos, af, g⟩ [(.s t, .s (.b (.a (.ptrvv 1 (vwI L) k))))] [(.s d, some (.s (.b (.a (.slv (gLs L k).length 1 (isl (gLs L k)))))))] := acts_load_vv hN hT (vwI_at hx)
theorem lvD {t T n k : Nat} {L : List (List Dom)} (hN : Γ.ok d) (hT : TI Γ.P T false n) (hx : k < L.length := by omega) :
    Acts Γ ⟨some d, .load T (.tmp t), ty, pos, af, g⟩ [(.s t, .s (.b (.a (.ptrvv 3 (vwD L) k))))] [(.s d, some (.s (.b (.a (.slv (gLd L k).length 3 (dsl (gLd L k)))))))] := acts_load_vv hN hT (vwD_at hx)
theorem lnI {t x e : Nat} {L : List (List Int)} {iv : Int} (hN : Γ.ok d) (hu : Γ.P.underlying t = some (.slice e)) (hi : (L.length : Int) = iv := by exact rfl) : Acts Γ ⟨some d, .call { callee := .builtin .len, args := #[.tmp x], argTypes := #[t] }, ty, pos, af, g⟩ [(.s x, .s (.b (.a (.slvv 1 (vwI L)))))] [(.s d, some (.s (V.v (.int .i64 iv))))] := acts_len hN hu xt (LenOf.slvv _ _) (by rw [vwI_len]; exact hi)
theorem lnD {t x e : Nat} {L : List (List Dom)} {iv : Int} (hN : Γ.ok d) (hu : Γ.P.underlying t = some (.slice e)) (hi : (L.length : Int) = iv := by exact rfl) : Acts Γ ⟨some d, .call { callee := .builtin .len, args := #[.tmp x], argTypes := #[t] }, ty, pos, af, g⟩ [(.s x, .s (.b (.a (.slvv 3 (vwD L)))))] [(.s d, some (.s (V.v (.int .i64 iv))))] := acts_len hN hu xt (LenOf.slvv _ _) (by rw [vwD_len]; exact hi)
end
end Cl
end Go.Proofs.Ytgmckbchcpfhcaa
