
/- Copying cells of elements of any size into a row of the call's own; cutting a slice. No statement of the program is proved here. -/
import Derived.Test.YtjgjeflidcembaaBase
import Derived.Laws.CopyOwn
namespace Go.Proofs.Ytjgjeflidcembaa
open Go.ChangeShapes Go.WideShapes Go.ChangeAt Go.RowKit
set_option maxRecDepth 20000

theorem run_copy_rowS {P : Program} (w : World) (dT sT ty elem : TypeId) (g o dLen dCap : Nat) (a : Addr) (sLen sCap : Nat) (cur : Array Value) (t : TypeId) (cs : List Value) (S : Nat)
    (hu : P.underlying dT = some (.slice elem)) (hs : (P.info? elem).map (·.size) = some S)
    (hg : w.heap[g]? = some (.cells cur t (0, 0))) (hn : cs.length = Nat.min sLen dLen * S)
    (hsrc : ∀ j v, cs[j]? = some v → w.cell? (a.add j) = some v) (hfit : o + cs.length ≤ cur.size) (h1 : ∀ v ∈ cs, v.oneCell' = true) :
    (Builtin.copy_ #[dT, sT] ty #[.slice (some ⟨g, o, none⟩) dLen dCap, .slice (some a) sLen sCap]).run P w =
      .ok (goInt (Nat.min sLen dLen)) (w.setRow g (cur.toList.take o ++ cs ++ cur.toList.drop (o + cs.length)).toArray) := by
  have hl := run_loadCells_list (P := P) w a cs hsrc
  have hst := run_storeCells_at P g o t cs 0 cur w hg (by simpa using hfit) h1
  cases hq : P.info? elem with
  | none => simp [hq] at hs
  | some i =>
    have hi : i.size = S := by simpa [hq] using hs
    simp [Builtin.copy_, run_underlying hu, Builtin.lenOf, Builtin.firstCells, sizeOf, typeInfo, hq, hi, ← hn, hl, hst]
theorem run_copy_noneS {P : Program} (w : World) (dT sT ty elem : TypeId) (d a : Option Addr) (dLen dCap sLen sCap S : Nat) (hu : P.underlying dT = some (.slice elem)) (hs : (P.info? elem).map (·.size) = some S) (hn : Nat.min sLen dLen = 0) :
    (Builtin.copy_ #[dT, sT] ty #[.slice d dLen dCap, .slice a sLen sCap]).run P w = .ok (goInt 0) w := by
  cases hq : P.info? elem with
  | none => simp [hq] at hs
  | some i =>
    have hl : ∀ (x : Addr), (loadCells x 0).run P w = .ok #[] w := fun x => by simpa using run_loadCells_list (P := P) w x [] (by simp)
    cases d <;> cases a <;> simp [Builtin.copy_, run_underlying hu, Builtin.lenOf, Builtin.firstCells, sizeOf, typeInfo, hq, hn, storeCells, hl]

theorem splice_take {α : Type} (X cs : List α) (N off : Nat) (hN : N ≤ X.length) (h : off + cs.length ≤ N) :
    (X.take off ++ cs ++ X.drop (off + cs.length)).take N = (X.take N).take off ++ cs ++ (X.take N).drop (off + cs.length) := by
  have e1 : (X.take N).take off = X.take off := by rw [List.take_take]; congr 1; omega
  rw [e1, List.take_append, List.take_of_length_le (by rw [List.length_append, List.length_take]; omega), List.drop_take]
  congr 2
  rw [List.length_append, List.length_take]; omega
theorem own_setRow {w : World} {B e size n c g : Nat} {xs : List Value} (hown : w.ownsRow B e size (.slice (some ⟨g, 0, none⟩) n c) n xs) :
    ∃ cur : Array Value, w.heap[g]? = some (.cells cur e (0, 0)) ∧ n * size ≤ cur.size ∧ ∀ (off : Nat) (cs : List Value), off + cs.length ≤ n * size →
      (w.setRow g (cur.toList.take off ++ cs ++ cur.toList.drop (off + cs.length)).toArray).ownsRow B e size (.slice (some ⟨g, 0, none⟩) n c) n (xs.take off ++ cs ++ xs.drop (off + cs.length)) := by
  obtain ⟨h1, h2⟩ := hown
  rcases h2 with ⟨hv, h0⟩ | ⟨g', cap, cur, hv, hb, hg, hn, hm, hs, hx⟩
  · cases hv
  · injection hv with e1 e2 e3
    injection e1 with e1
    injection e1 with e1
    subst e1; subst e3
    have hle : n * size ≤ c * size := Nat.mul_le_mul_right _ hn
    refine ⟨cur, hg, by omega, fun off cs hfit => ⟨?_, .inr ⟨g, c, _, rfl, hb, setRow_heap w g cur _ e _ hg, hn, hm, ?_, ?_⟩⟩⟩
    · rw [List.length_append, List.length_append, List.length_take, List.length_drop]; omega
    · simp only [List.size_toArray, List.length_append, List.length_take, List.length_drop, Array.length_toList]; omega
    · simp only
      rw [← hx]
      exact splice_take cur.toList cs (n * size) off (by rw [Array.length_toList]; omega) hfit

theorem step_copy_ownS {P : Program} {ops : Array Oper} {o : Oper} {a : Act} {w : World} {K : Act → World → Prop} {Q : Exit → Act → World → Prop} {E : Prop} (hgd : o.guard = none) (d s : Operand) (dT sT : TypeId)
    (ho : o.op = .call { callee := .builtin .copy, args := #[d, s], argTypes := #[dT, sT] }) (elem : TypeId) (S : Nat) (hu : P.underlying dT = some (.slice elem)) (hsz : (P.info? elem).map (·.size) = some S)
    (dp sp : Option Addr) (dLen dCap sLen sCap : Nat) (hd : a.eval d = .slice dp dLen dCap) (hs : a.eval s = .slice sp sLen sCap)
    (B e n c g : Nat) (xs : List Value) (hown : w.ownsRow B e S (.slice (some ⟨g, 0, none⟩) n c) n xs) (off : Nat) (cs : List Value) (hn : cs.length = Nat.min sLen dLen * S)
    (hpos : 0 < cs.length → dp = some ⟨g, off, none⟩ ∧ ∃ ad, sp = some ad ∧ ∀ j v, cs[j]? = some v → w.cell? (ad.add j) = some v) (hS : 0 < S)
    (hfit : off + cs.length ≤ n * S) (h1 : ∀ v ∈ cs, v.oneCell' = true)
    (h : ∀ w', w'.ownsRow B e S (.slice (some ⟨g, 0, none⟩) n c) n (xs.take off ++ cs ++ xs.drop (off + cs.length)) → w.grownBy w' (some g) → K (a.put o.dst (goInt (Nat.min sLen dLen))) w') :
    if Region.wanted o (yielded ops a.tmps) = true then Oper.wp P o a w K Q else E := by
  have hw : Region.wanted o (yielded ops a.tmps) = true := by simp [Region.wanted, hgd]
  rw [if_pos hw]
  by_cases h0 : cs.length = 0
  · obtain rfl : cs = [] := List.eq_nil_of_length_eq_zero h0
    have hmin : Nat.min sLen dLen = 0 := by
      rcases Nat.eq_zero_or_pos (Nat.min sLen dLen) with h | h
      · exact h
      · have := Nat.mul_pos h hS
        simp at hn; omega
    have hrun := run_copy_noneS (P := P) w dT sT o.type elem dp sp dLen dCap sLen sCap S hu hsz hmin
    unfold Oper.wp
    simp [execOp, ho, resolve, invoke, builtin, hd, hs, hrun, Result.andThen]
    have := h w (by simpa using hown) (grown_refl _ _)
    rwa [hmin] at this
  · obtain ⟨rfl, ad, rfl, hsrc⟩ := hpos (by omega)
    obtain ⟨cur, hg, hle, hset⟩ := own_setRow hown
    have hrun := run_copy_rowS (P := P) w dT sT o.type elem g off dLen dCap ad sLen sCap cur e cs S hu hsz hg hn hsrc (by omega) h1
    unfold Oper.wp
    simp only [execOp, ho, resolve, invoke, builtin, Sem.run_bind, Sem.run_pure, Result.andThen_ok, List.map_toArray, List.map_cons, List.map_nil, hd, hs, hrun]
    exact h _ (hset off cs hfit) ⟨rfl, rfl, rfl, by simp [World.setRow], fun k _ hk => setRow_other w g k _ (fun e => hk (by rw [e]))⟩
/-- a cut 's[lo:]': its address under one name -/
theorem cut_from (P : Program) (t e : TypeId) (S : Nat) (hu : P.underlying t = some (.slice e)) (hs : (P.info? e).map (·.size) = some S) (a : Option Addr) (n c lo : Nat) (l : Int) (hl : l = lo) (h : lo ≤ n) :
    ∃ (D : Option Addr) (L C : Nat), ((c ≠ lo → D = a.map (·.add (lo * S))) ∧ L = n - lo ∧ C = c - lo) ∧ ∀ w : World, (Instr.slice t (.slice a n c) (some (.int .i64 l)) none none).run P w = .ok (.slice D L C) w := by
  subst hl
  have he : P.elem t = e := by unfold Program.elem; rw [hu]
  cases hq : P.info? e with
  | none => simp [hq] at hs
  | some i =>
    have hi : i.size = S := by simpa [hq] using hs
    refine ⟨if c = lo then a else a.map (·.add (lo * S)), n - lo, c - lo, ⟨fun hne => by rw [if_neg hne], rfl, rfl⟩, fun w => ?_⟩
    rw [run_slice_l (P := P) w t a n c (by rw [he]; exact hu) .i64 _ (by omega) (by omega)]
    simp [sizeOf, typeInfo, he, hq, hi, sliced]
/-- a cut 's[:hi]' -/
theorem flatMap_take {α : Type} (f : α → List Value) (s : Nat) (hf : ∀ a, (f a).length = s) (l : List α) (k : Nat) : (l.flatMap f).take (k*s) = (l.take k).flatMap f := by
  induction l generalizing k with
  | nil => simp
  | cons a l ih =>
    cases k with
    | zero => simp
    | succ k =>
      rw [List.flatMap_cons, List.take_append, List.take_of_length_le (by rw [hf, Nat.succ_mul]; omega), hf, Nat.succ_mul, Nat.add_sub_cancel, ih, List.take_succ_cons, List.flatMap_cons]
theorem flatMap_drop {α : Type} (f : α → List Value) (s : Nat) (hf : ∀ a, (f a).length = s) (l : List α) (k : Nat) : (l.flatMap f).drop (k*s) = (l.drop k).flatMap f := by
  induction l generalizing k with
  | nil => simp
  | cons a l ih =>
    cases k with
    | zero => simp
    | succ k =>
      rw [List.flatMap_cons, List.drop_append, List.drop_eq_nil_of_le (by rw [hf, Nat.succ_mul]; omega), hf, Nat.succ_mul, Nat.add_sub_cancel, ih, List.drop_succ_cons, List.nil_append]
theorem dsl_take (l : List Dom) (k : Nat) : (dsl l).take (k*3) = dsl (l.take k) := flatMap_take Dom.cs 3 (fun _ => rfl) l k
theorem dsl_drop (l : List Dom) (k : Nat) : (dsl l).drop (k*3) = dsl (l.drop k) := flatMap_drop Dom.cs 3 (fun _ => rfl) l k
theorem csl_take (l : List Cel) (k : Nat) : (csl l).take (k*2) = csl (l.take k) := flatMap_take Cel.cs 2 (fun _ => rfl) l k
theorem csl_drop (l : List Cel) (k : Nat) : (csl l).drop (k*2) = csl (l.drop k) := flatMap_drop Cel.cs 2 (fun _ => rfl) l k
theorem dsl_one (l : List Dom) : ∀ v ∈ dsl l, v.oneCell' = true := by
  intro v hv
  simp only [dsl, List.mem_flatMap] at hv
  obtain ⟨d, _, hd⟩ := hv
  simp [Dom.cs] at hd
  rcases hd with rfl | rfl | rfl <;> simp [Value.oneCell']
theorem isl_one (l : List Int) : ∀ v ∈ isl l, v.oneCell' = true := by
  intro v hv
  simp only [isl, List.mem_map] at hv
  obtain ⟨d, _, rfl⟩ := hv
  simp [Value.oneCell']
/-- append onto a row of the call's own, the source any slice that reads (nil, empty or not) -/
theorem own_same {w : World} {B e size n n' : Nat} {v : Value} {xs : List Value} (h : w.ownsRow B e size v n xs) (hn : n = n') : w.ownsRow B e size v n' xs := hn ▸ h
end Go.Proofs.Ytjgjeflidcembaa
