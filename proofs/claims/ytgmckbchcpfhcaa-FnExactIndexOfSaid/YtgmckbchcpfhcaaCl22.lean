
/- Rows of rows: single rows in use; shorter rows. -/
import Derived.Test.YtgmckbchcpfhcaaCl21
namespace Go.Proofs.Ytgmckbchcpfhcaa
namespace Cl
open Go.ChangeShapes Go.WideShapes Go.ChangeAt Go.RowKit

theorem weak_trim {Γ : Cx} {σ : St} {h T s : Nat} {ex : Bool} {cs cs' : List A} (n : Nat) (ho : get σ (.o h) = some (.o ⟨T, s, ex, cs⟩)) (hc : cs.take n = cs') : Weak Γ σ ((.o h, some (.o ⟨T, s, ex, cs'⟩)) :: σ) := by
  subst hc
  intro a w ⟨ρ, I, hs⟩
  have g : ∀ (i : Nat) (x : A), (cs.take n)[i]? = some x → cs[i]? = some x := fun i x hx => by
    rw [List.getElem?_take] at hx
    split at hx
    · exact hx
    · cases hx
  exact ⟨ρ, I, hs.rnob ho (by rw [List.length_take]; omega) (fun i x hx => ⟨x, g i x hx, fun _ h => h⟩) fun i x hx _ => g i x hx⟩
theorem trD {Γ : Cx} {σ : St} {h T : Nat} {ex : Bool} {L L' : List Dom} (n : Nat) (ho : get σ (.o h) = some (.o ⟨T, 3, ex, pl (dsl L)⟩) := by kernel_rfl) (hc : L.take n = L') : Weak Γ σ ((.o h, some (.o ⟨T, 3, ex, pl (dsl L')⟩)) :: σ) :=
  weak_trim (n * 3) ho (by rw [← hc, ← dsl_take]; unfold pl; rw [List.map_take])
theorem wnQ {Γ : Cx} {σ : St} {k h T T' : Nat} (hk : get σ (.s k) = some (.s (V.v (.slice none 0 0)))) (hh : get σ (.o h) = some .free) : Weak Γ σ ((.s k, some (.s (.b (.a (.sl h 0 0))))) :: (.o h, some (.o ⟨T, 1, true, rwI T' []⟩)) :: σ) := weak_nil hk hh
theorem wnP {Γ : Cx} {σ : St} {k h T T' : Nat} (hk : get σ (.s k) = some (.s (V.v (.slice none 0 0)))) (hh : get σ (.o h) = some .free) : Weak Γ σ ((.s k, some (.s (.b (.a (.sl h 0 0))))) :: (.o h, some (.o ⟨T, 1, true, rwD T' []⟩)) :: σ) := weak_nil hk hh
theorem rwI_set {T : Nat} {L : List (List Int)} {i : Nat} {r : List Int} : (rwI T L).set i (.row T r.length 1 (isl r)) = rwI T (L.set i r) := by unfold rwI; rw [List.map_set]
/-- a row is taken out -/
theorem up1 {Γ : Cx} {σ : St} {h h1 T T0 s0 : Nat} {ex0 : Bool} {L : List (List Int)} (i : Nat) (hi : i < L.length) (ho : get σ (.o h) = some (.o ⟨T0, s0, ex0, rwI T L⟩) := by kernel_rfl) (hfr : get σ (.o h1) = some .free := by kernel_rfl) :
    Weak Γ σ ((.o h, some (.o ⟨T0, s0, ex0, (rwI T L).set i (.sl h1 0 (gLs L i).length)⟩)) :: (.o h1, some (.o ⟨T, 1, true, pl (isl (gLs L i))⟩)) :: σ) := weak_unpack ho hfr (rwI_at hi) rfl
theorem up2 {Γ : Cx} {σ : St} {h h1 T T0 s0 : Nat} {ex0 : Bool} {L : List (List Int)} {i : Nat} {a : A} (j : Nat) (hj : j < L.length) (hij : i ≠ j) (ho : get σ (.o h) = some (.o ⟨T0, s0, ex0, (rwI T L).set i a⟩) := by kernel_rfl) (hfr : get σ (.o h1) = some .free := by kernel_rfl) :
    Weak Γ σ ((.o h, some (.o ⟨T0, s0, ex0, ((rwI T L).set i a).set j (.sl h1 0 (gLs L j).length)⟩)) :: (.o h1, some (.o ⟨T, 1, true, pl (isl (gLs L j))⟩)) :: σ) := weak_unpack ho hfr (by rw [List.getElem?_set_ne hij]; exact rwI_at hj) rfl
/-- a row is put back -/
theorem pk1 {Γ : Cx} {σ : St} {h h1 T T0 s0 n : Nat} {ex0 : Bool} {L : List (List Int)} {r : List Int} (i : Nat) (hi : i < L.length) (hn : n = r.length) (ho : get σ (.o h) = some (.o ⟨T0, s0, ex0, (rwI T L).set i (.sl h1 0 n)⟩) := by kernel_rfl) (ho1 : get σ (.o h1) = some (.o ⟨T, 1, true, pl (isl r)⟩) := by kernel_rfl) (hne : Nat.beq h h1 = false := by kernel_rfl) :
    Weak Γ σ ((.o h, some (.o ⟨T0, s0, ex0, rwI T (L.set i r)⟩)) :: (.o h1, none) :: σ) := by
  subst hn
  exact weak_pack (j := i) (n := r.length) (T := T) (s := 1) (xs := isl r) ho ho1 hne (List.getElem?_set_self (by rw [rwI_len]; exact hi)) (by rw [isl_len, Nat.mul_one]) (by rw [List.set_set, rwI_set])
theorem pk2 {Γ : Cx} {σ : St} {h h1 T T0 s0 n : Nat} {ex0 : Bool} {L : List (List Int)} {r : List Int} {i : Nat} {a : A} (j : Nat) (hj : j < L.length) (hij : i ≠ j) (hn : n = r.length) (ho : get σ (.o h) = some (.o ⟨T0, s0, ex0, ((rwI T L).set i a).set j (.sl h1 0 n)⟩) := by kernel_rfl) (ho1 : get σ (.o h1) = some (.o ⟨T, 1, true, pl (isl r)⟩) := by kernel_rfl) (hne : Nat.beq h h1 = false := by kernel_rfl) :
    Weak Γ σ ((.o h, some (.o ⟨T0, s0, ex0, (rwI T (L.set j r)).set i a⟩)) :: (.o h1, none) :: σ) := by
  subst hn
  exact weak_pack (j := j) (n := r.length) (T := T) (s := 1) (xs := isl r) ho ho1 hne (List.getElem?_set_self (by rw [List.length_set, rwI_len]; exact hj)) (by rw [isl_len, Nat.mul_one]) (by rw [List.set_set, List.set_comm _ _ hij, rwI_set])
section
variable {Γ : Cx} {d : Nat} {ty : TypeId} {pos : String} {af : Array Edge} {g : Option (Nat × Bool)}
theorem lu1 {t T n h i T0 s0 : Nat} {ex : Bool} {c : List A} {a : A} (hN : Γ.ok d) (q : TI Γ.P T false n) (hi : i < c.length) : Acts Γ ⟨some d, .load T (.tmp t), ty, pos, af, g⟩ [(.s t, .s (V.p h (i * 1))), (.o h, .o ⟨T0, s0, ex, c.set i a⟩)] [(.s d, some (.s (.b (.a a))))] :=
  acts_load_own hN q (by rw [Nat.mul_one]; exact List.getElem?_set_self hi)
theorem lu2 {t T n h i j T0 s0 : Nat} {ex : Bool} {c : List A} {a b : A} (hN : Γ.ok d) (q : TI Γ.P T false n) (hi : i < c.length) (hij : j ≠ i) : Acts Γ ⟨some d, .load T (.tmp t), ty, pos, af, g⟩ [(.s t, .s (V.p h (i * 1))), (.o h, .o ⟨T0, s0, ex, (c.set i a).set j b⟩)] [(.s d, some (.s (.b (.a a))))] :=
  acts_load_own hN q (by rw [Nat.mul_one, List.getElem?_set_ne hij]; exact List.getElem?_set_self hi)
theorem set_tk {c : List A} {i : Nat} {x : A} (hi : i < c.length) : c.take (i * 1) ++ [x] ++ c.drop (i * 1 + 1) = c.set i x := by rw [Nat.mul_one, List.set_eq_take_append_cons_drop, if_pos hi]; simp
theorem su1 {t T n h i T0 s0 : Nat} {ex : Bool} {c : List A} {a b : A} {x : Operand} {R : List (Key × Cell)} (q : TI Γ.P T false n) (hx : OpX x (.b (.a b)) R) (hi : i < c.length) (h1 : b.one = true := by exact rfl) (hn : n = 1 := by exact rfl) :
    Acts Γ ⟨none, .store T (.tmp t) x, ty, pos, af, g⟩ ((.s t, .s (V.p h (i * 1))) :: (.o h, .o ⟨T0, s0, ex, c.set i a⟩) :: R) [(.o h, some (.o ⟨T0, s0, ex, c.set i b⟩))] := by
  subst hn
  exact acts_store (o := ⟨T0, s0, ex, c.set i a⟩) (b := .a b) q hx rfl (by decide) (by intro y hy; simp [B.cs] at hy; subst hy; exact h1) (by simp; omega) (by rw [show B.cs (.a b) = [b] from rfl, set_tk (by rw [List.length_set]; exact hi), List.set_set])
theorem su2 {t T n h i j T0 s0 : Nat} {ex : Bool} {c : List A} {a b e : A} {x : Operand} {R : List (Key × Cell)} (q : TI Γ.P T false n) (hx : OpX x (.b (.a b)) R) (hi : i < c.length) (hij : i ≠ j) (h1 : b.one = true := by exact rfl) (hn : n = 1 := by exact rfl) :
    Acts Γ ⟨none, .store T (.tmp t) x, ty, pos, af, g⟩ ((.s t, .s (V.p h (i * 1))) :: (.o h, .o ⟨T0, s0, ex, (c.set i a).set j e⟩) :: R) [(.o h, some (.o ⟨T0, s0, ex, (c.set i b).set j e⟩))] := by
  subst hn
  exact acts_store (o := ⟨T0, s0, ex, (c.set i a).set j e⟩) (b := .a b) q hx rfl (by decide) (by intro y hy; simp [B.cs] at hy; subst hy; exact h1) (by simp; omega) (by rw [show B.cs (.a b) = [b] from rfl, set_tk (by rw [List.length_set, List.length_set]; exact hi), List.set_comm _ _ (fun e => hij e.symm), List.set_set])
end
/-! fields of dominoes in rows -/
theorem dsl_split {L : List Dom} {k : Nat} (h : k < L.length) : dsl L = dsl (L.take k) ++ ([.int .i64 (gD L k).x, .int .i64 (gD L k).y, .bool (gD L k).d] ++ dsl (L.drop (k + 1))) := by
  have e : L = L.take k ++ (gD L k :: L.drop (k + 1)) := by rw [gD_eq h, ← List.drop_eq_getElem_cons h, List.take_append_drop]
  have e2 : dsl L = dsl (L.take k ++ (gD L k :: L.drop (k + 1))) := congrArg dsl e
  rw [e2, dsl_append]; rfl
theorem dsl_join (L : List Dom) (k : Nat) (d : Dom) (h : k < L.length) : dsl (L.set k d) = dsl (L.take k) ++ ([.int .i64 d.x, .int .i64 d.y, .bool d.d] ++ dsl (L.drop (k + 1))) := by
  rw [List.set_eq_take_append_cons_drop, if_pos h, dsl_append]; rfl
theorem dsl_p0 {L : List Dom} {k : Nat} {e : Int} (h : k < L.length) : (pl (dsl L)).take (k * 3) ++ [A.val (.int .i64 e)] ++ (pl (dsl L)).drop (k * 3 + 1) = pl (dsl (L.set k ⟨e, (gD L k).y, (gD L k).d⟩)) := by
  have hl : (dsl (L.take k)).length = k * 3 := by rw [dsl_len, List.length_take, Nat.min_eq_left (by omega)]
  rw [show [A.val (.int .i64 e)] = pl [.int .i64 e] from rfl, pl_splice, dsl_join L k _ h]
  congr 1
  rw [dsl_split h, List.take_append, List.drop_append, hl, List.take_of_length_le (l := dsl (L.take k)) (by rw [hl]; omega), List.drop_of_length_le (l := dsl (L.take k)) (by rw [hl]; omega), Nat.sub_self, show k * 3 + 1 - k * 3 = 1 by omega]; simp
theorem dsl_p1 {L : List Dom} {k : Nat} {e : Int} (h : k < L.length) : (pl (dsl L)).take (k * 3 + 1) ++ [A.val (.int .i64 e)] ++ (pl (dsl L)).drop (k * 3 + 1 + 1) = pl (dsl (L.set k ⟨(gD L k).x, e, (gD L k).d⟩)) := by
  have hl : (dsl (L.take k)).length = k * 3 := by rw [dsl_len, List.length_take, Nat.min_eq_left (by omega)]
  rw [show [A.val (.int .i64 e)] = pl [.int .i64 e] from rfl, pl_splice, dsl_join L k _ h]
  congr 1
  rw [dsl_split h, List.take_append, List.drop_append, hl, List.take_of_length_le (l := dsl (L.take k)) (by rw [hl]; omega), List.drop_of_length_le (l := dsl (L.take k)) (by rw [hl]; omega), show k * 3 + 1 - k * 3 = 1 by omega, show k * 3 + 1 + 1 - k * 3 = 2 by omega]; simp
theorem dsl_p2 {L : List Dom} {k : Nat} {e : Bool} (h : k < L.length) : (pl (dsl L)).take (k * 3 + 2) ++ [A.val (.bool e)] ++ (pl (dsl L)).drop (k * 3 + 2 + 1) = pl (dsl (L.set k ⟨(gD L k).x, (gD L k).y, e⟩)) := by
  have hl : (dsl (L.take k)).length = k * 3 := by rw [dsl_len, List.length_take, Nat.min_eq_left (by omega)]
  rw [show [A.val (.bool e)] = pl [.bool e] from rfl, pl_splice, dsl_join L k _ h]
  congr 1
  rw [dsl_split h, List.take_append, List.drop_append, hl, List.take_of_length_le (l := dsl (L.take k)) (by rw [hl]; omega), List.drop_of_length_le (l := dsl (L.take k)) (by rw [hl]; omega), show k * 3 + 2 - k * 3 = 2 by omega, show k * 3 + 2 + 1 - k * 3 = 3 by omega]; simp
theorem made_nils (n : Nat) : (madeCells (Value.slice none 0 0).cells (n * 1)).toList = List.replicate n (.slice none 0 0) := by
  have h : (Value.slice none 0 0).cells = #[Value.slice none 0 0] := rfl
  rw [h, Nat.mul_one, toList_madeCells_one]
/-- made rows of rows -/
theorem weak_nils {Γ : Cx} {σ : St} {h T T0 n : Nat} {ex : Bool} (ho : get σ (.o h) = some (.o ⟨T0, 1, ex, pl (List.replicate n (.slice none 0 0))⟩) := by kernel_rfl) : Weak Γ σ ((.o h, some (.o ⟨T0, 1, ex, rwI T (List.replicate n [])⟩)) :: σ) := by
  intro a w ⟨ρ, I, hs⟩
  refine ⟨ρ, I, hs.rnobN ho (by simp [rwI, pl]) (fun i x' hx' => ?_) fun i x' hx' hr => ?_⟩
  · unfold rwI at hx'; rw [List.map_replicate, List.getElem?_replicate] at hx'
    split at hx'
    · rename_i hi
      injection hx' with hx'; subst hx'
      exact ⟨.val (.slice none 0 0), by unfold pl; rw [List.map_replicate, List.getElem?_replicate, if_pos hi], fun u hu => ⟨rfl, none, 0, hu, Nat.le_refl _, fun _ => rfl⟩⟩
    · cases hx'
  · unfold rwI at hx'; rw [List.map_replicate, List.getElem?_replicate] at hx'
    split at hx'
    · rename_i hi
      right; unfold pl; rw [List.map_replicate, List.getElem?_replicate, if_pos hi]
    · cases hx'
theorem weak_nilsD {Γ : Cx} {σ : St} {h T T0 n : Nat} {ex : Bool} (ho : get σ (.o h) = some (.o ⟨T0, 1, ex, pl (List.replicate n (.slice none 0 0))⟩) := by kernel_rfl) : Weak Γ σ ((.o h, some (.o ⟨T0, 1, ex, rwD T (List.replicate n [])⟩)) :: σ) := by
  intro a w ⟨ρ, I, hs⟩
  refine ⟨ρ, I, hs.rnobN ho (by simp [rwD, pl]) (fun i x' hx' => ?_) fun i x' hx' hr => ?_⟩
  · unfold rwD at hx'; rw [List.map_replicate, List.getElem?_replicate] at hx'
    split at hx'
    · rename_i hi
      injection hx' with hx'; subst hx'
      exact ⟨.val (.slice none 0 0), by unfold pl; rw [List.map_replicate, List.getElem?_replicate, if_pos hi], fun u hu => ⟨rfl, none, 0, hu, Nat.le_refl _, fun _ => rfl⟩⟩
    · cases hx'
  · unfold rwD at hx'; rw [List.map_replicate, List.getElem?_replicate] at hx'
    split at hx'
    · rename_i hi
      right; unfold pl; rw [List.map_replicate, List.getElem?_replicate, if_pos hi]
    · cases hx'
section
variable {Γ : Cx} {d : Nat} {ty : TypeId} {pos : String} {af : Array Edge} {g : Option (Nat × Bool)}
theorem su0 {t T n h i T0 s0 : Nat} {ex : Bool} {c : List A} {b : A} {x : Operand} {R : List (Key × Cell)} (q : TI Γ.P T false n) (hx : OpX x (.b (.a b)) R) (hi : i < c.length) (h1 : b.one = true := by exact rfl) (hn : n = 1 := by exact rfl) :
    Acts Γ ⟨none, .store T (.tmp t) x, ty, pos, af, g⟩ ((.s t, .s (V.p h (i * 1))) :: (.o h, .o ⟨T0, s0, ex, c⟩) :: R) [(.o h, some (.o ⟨T0, s0, ex, c.set i b⟩))] := by
  subst hn
  exact acts_store (o := ⟨T0, s0, ex, c⟩) (b := .a b) q hx rfl (by decide) (by intro y hy; simp [B.cs] at hy; subst hy; exact h1) (by simp; omega) (by rw [show B.cs (.a b) = [b] from rfl, set_tk hi])
theorem sDx {t T m h k T' : Nat} {ex : Bool} {L : List Dom} {e : Int} {x : Operand} {R : List (Key × Cell)} (q : TI Γ.P T false m) (hx : OpX x (V.v (.int .i64 e)) R) (hk : k < L.length := by omega) (hm : m = 1 := by exact rfl) : Acts Γ ⟨none, .store T (.tmp t) x, ty, pos, af, g⟩ ((.s t, .s (V.p h (k * 3))) :: (.o h, .o ⟨T', 3, ex, pl (dsl L)⟩) :: R) [(.o h, some (.o ⟨T', 3, ex, pl (dsl (L.set k ⟨e, (gD L k).y, (gD L k).d⟩))⟩))] := by
  subst hm
  exact acts_store (o := ⟨T', 3, ex, pl (dsl L)⟩) (b := .a (.val (.int .i64 e))) q hx rfl (by decide) (by intro y hy; simp [B.cs] at hy; subst hy; rfl) (by simp only [pl_len, dsl_len]; omega) (dsl_p0 hk)
theorem sDy {t T m h k T' : Nat} {ex : Bool} {L : List Dom} {e : Int} {x : Operand} {R : List (Key × Cell)} (q : TI Γ.P T false m) (hx : OpX x (V.v (.int .i64 e)) R) (hk : k < L.length := by omega) (hm : m = 1 := by exact rfl) : Acts Γ ⟨none, .store T (.tmp t) x, ty, pos, af, g⟩ ((.s t, .s (V.p h (k * 3 + 1))) :: (.o h, .o ⟨T', 3, ex, pl (dsl L)⟩) :: R) [(.o h, some (.o ⟨T', 3, ex, pl (dsl (L.set k ⟨(gD L k).x, e, (gD L k).d⟩))⟩))] := by
  subst hm
  exact acts_store (o := ⟨T', 3, ex, pl (dsl L)⟩) (b := .a (.val (.int .i64 e))) q hx rfl (by decide) (by intro y hy; simp [B.cs] at hy; subst hy; rfl) (by simp only [pl_len, dsl_len]; omega) (dsl_p1 hk)
theorem sDd {t T m h k T' : Nat} {ex : Bool} {L : List Dom} {e : Bool} {x : Operand} {R : List (Key × Cell)} (q : TI Γ.P T false m) (hx : OpX x (V.v (.bool e)) R) (hk : k < L.length := by omega) (hm : m = 1 := by exact rfl) : Acts Γ ⟨none, .store T (.tmp t) x, ty, pos, af, g⟩ ((.s t, .s (V.p h (k * 3 + 2))) :: (.o h, .o ⟨T', 3, ex, pl (dsl L)⟩) :: R) [(.o h, some (.o ⟨T', 3, ex, pl (dsl (L.set k ⟨(gD L k).x, (gD L k).y, e⟩))⟩))] := by
  subst hm
  exact acts_store (o := ⟨T', 3, ex, pl (dsl L)⟩) (b := .a (.val (.bool e))) q hx rfl (by decide) (by intro y hy; simp [B.cs] at hy; subst hy; rfl) (by simp only [pl_len, dsl_len]; omega) (dsl_p2 hk)
end
end Cl
end Go.Proofs.Ytgmckbchcpfhcaa
