/- Walks over clean states, printed by wg.py. No statement is proved here. -/
import Derived.Test.YtafbklfdgpfmgaaC4
import Derived.Test.YtafbklfdgpfmgaaCl16
import Derived.Test.YtafbklfdgpfmgaaSortS
namespace Go.Proofs.Ytafbklfdgpfmgaa
namespace Cl
open Go.ChangeShapes Go.WideShapes Go.ChangeAt Go.RowKit

theorem isl_one' (l : List Int) : ∀ v ∈ isl l, v.oneCell' = true := by
  intro v hv; simp only [isl, List.mem_map] at hv; obtain ⟨z, _, rfl⟩ := hv; rfl
theorem rep_len {k : Nat} (h : k ≤ 64) : (List.replicate k (-1) ++ List.replicate (64 - k) 0 : List Int).length = 64 := by simp; omega
theorem rep_set {k : Nat} (h : k < 64) : (List.replicate k (-1) ++ List.replicate (64 - k) 0 : List Int).set k (-1) = List.replicate (k+1) (-1) ++ List.replicate (64 - (k+1)) 0 := by
  have e : 64 - k = (64 - (k + 1)) + 1 := by omega
  rw [e, List.replicate_succ, List.set_append_right _ _ (by simp), List.replicate_succ' (n := k)]; simp
/-- looking for a way from a black cell: over the white neighbors that are left -/
def findL (rec : Nat → List Int → Cel → Bool × Nat × List Int) (s : Nat) (b : Cel) : List Cel → Nat → List Int → Bool × Nat × List Int
  | [], seen, jo => (false, seen, jo)
  | w :: ws, seen, jo =>
    if (!hasS s w || seen.testBit (idx w)) = true then findL rec s b ws seen jo
    else if gI jo (idx w) < 0 then (true, addC seen w, jo.set (idx w) (idx b))
    else match rec (addC seen w) jo (cN (gI jo (idx w)).toNat) with
      | (true, seen2, jo2) => (true, seen2, jo2.set (idx w) (idx b))
      | (false, seen2, jo2) => findL rec s b ws seen2 jo2
def find (s : Nat) : Nat → Nat → List Int → Cel → Bool × Nat × List Int
  | 0, seen, jo, _ => (false, seen, jo)
  | n + 1, seen, jo, b => findL (find s n) s b (nbs b) seen jo
theorem popc_le (s : Nat) : popc s ≤ 64 := by
  unfold popc; exact Nat.le_trans (List.length_filter_le _ _) (by simp)
def joOk (jo : List Int) : Prop := jo.length = 64 ∧ ∀ k, k < 64 → -1 ≤ gI jo k ∧ gI jo k ≤ 63
theorem gI_set {l : List Int} {i k : Nat} {v : Int} (h : k < l.length) : gI (l.set i v) k = if i = k then v else gI l k := by
  rw [gI_eq (by simpa using h), gI_eq h, List.getElem_set]
theorem joOk_set {jo : List Int} (h : joOk jo) {i : Nat} {b : Cel} (hb : okc b.x b.y = true) : joOk (jo.set i (idx b)) := by
  obtain ⟨h1, h2⟩ := h
  refine ⟨by simpa using h1, fun k hk => ?_⟩
  rw [gI_set (by omega)]
  have := idx_lt hb
  split
  · omega
  · exact h2 k hk
theorem hasS_okc {s : Nat} {w : Cel} (h : hasS s w = true) : okc w.x w.y = true := hasS_ok h
theorem sk1 {s t : Nat} {w : Cel} (h : hasS s w = false) : (!hasS s w || t.testBit (idx w)) = true := by rw [h]; rfl
theorem sk2 {s t : Nat} {w : Cel} (h : hasS t w = true) : (!hasS s w || t.testBit (idx w)) = true := by
  unfold hasS at h; simp only [Bool.and_eq_true] at h; rw [h.2]; simp
theorem sk4 {s t : Nat} {w : Cel} (h1 : hasS s w = true) (h2 : hasS t w = false) : t.testBit (idx w) = false := by
  have := hasS_ok h1
  unfold hasS at h2; rw [this] at h2; simpa using h2
theorem sk3 {s t : Nat} {w : Cel} (h1 : hasS s w = true) (h2 : hasS t w = false) : (!hasS s w || t.testBit (idx w)) = false := by rw [h1, sk4 h1 h2]; rfl
/-- what a search keeps -/
structure Kept (r : Bool × Nat × List Int) (seen : Nat) : Prop where
  lt : r.2.1 < 18446744073709551616
  jo : joOk r.2.2
  pc : popc seen ≤ popc r.2.1
theorem findL_kept {rec : Nat → List Int → Cel → Bool × Nat × List Int} {s : Nat} {b : Cel} (hb : okc b.x b.y = true) (hr : ∀ seen jo c, seen < 18446744073709551616 → joOk jo → okc c.x c.y = true → Kept (rec seen jo c) seen) :
    ∀ ws seen jo, seen < 18446744073709551616 → joOk jo → Kept (findL rec s b ws seen jo) seen := by
  intro ws
  induction ws with
  | nil => intro seen jo h1 h2; exact ⟨h1, h2, Nat.le_refl _⟩
  | cons w ws ih =>
    intro seen jo h1 h2
    unfold findL
    split
    · exact ih seen jo h1 h2
    · rename_i hc
      simp only [Bool.or_eq_true, Bool.not_eq_true', not_or, Bool.not_eq_false, Bool.not_eq_true] at hc
      have hw := hasS_ok hc.1
      have hp := popc_add hw hc.2
      have hlt := addC_lt h1 hw
      split
      · exact ⟨hlt, joOk_set h2 hb, by simp only; omega⟩
      · rename_i hn
        have hk := h2.2 (idx w) (idx_lt hw)
        have hrec := hr (addC seen w) jo (cN (gI jo (idx w)).toNat) hlt h2 (cN_ok (by omega))
        split
        · rename_i seen2 jo2 he
          rw [he] at hrec
          have := hrec.pc
          exact ⟨hrec.lt, joOk_set hrec.jo hb, by simp only at this ⊢; omega⟩
        · rename_i seen2 jo2 he
          rw [he] at hrec
          have h3 := ih seen2 jo2 hrec.lt hrec.jo
          have := hrec.pc
          have := h3.pc
          exact ⟨h3.lt, h3.jo, by simp only at *; omega⟩
theorem find_kept {s : Nat} : ∀ n seen jo b, seen < 18446744073709551616 → joOk jo → okc b.x b.y = true → Kept (find s n seen jo b) seen := by
  intro n
  induction n with
  | zero => intro seen jo b h1 h2 _; exact ⟨h1, h2, Nat.le_refl _⟩
  | succ n ih => intro seen jo b h1 h2 h3; exact findL_kept h3 (fun a b c => ih a b c) _ _ _ h1 h2
theorem foldl_snocJ (f : List Int → Cel → List Int) (t : List Int) {l : List Cel} {k : Nat} (h : k < l.length) : (l.take (k+1)).foldl f t = f ((l.take k).foldl f t) (gC l k) := by
  rw [List.take_succ_eq_append_getElem h, List.foldl_append, gC_eq h]; rfl
theorem rep_end {k : Nat} (h1 : k ≤ 64) (h2 : ¬ (k : Int) < 64) : (List.replicate k (-1) ++ List.replicate (64 - k) 0 : List Int) = List.replicate 64 (-1) := by
  obtain rfl : k = 64 := by omega
  simp
theorem vres_cells {P : Program} {σ : St} (t T h n : Nat) (o : Ob) (r : RB) (hn : o.cells.length = n) (hg : get σ (.s t) = some (.s (V.p h 0))) (ho : get σ (.o h) = some (.o o)) (hT : TI P T true n) (hp : 0 < n) (hb : BRes σ (.agg o.cells) r) : VRes P σ (.cell t T) r := by
  subst hn; exact .cells t T h o r hg ho hT hp hb
def joStep (s : Nat) (jo : List Int) (c : Cel) : List Int := if black c then (find s 65 0 jo c).2.2 else jo
def jo0 : List Int := List.replicate 64 (-1)
def joined (s : Nat) : List Int := (setCells s).foldl (joStep s) jo0
theorem jo0_ok : joOk jo0 := ⟨by simp [jo0], fun k hk => by
    have e : gI jo0 k = -1 := by rw [gI_eq (by simpa [jo0] using hk)]; simp only [jo0, List.getElem_replicate]
    omega⟩
theorem joStep_ok {s : Nat} {jo : List Int} (h : joOk jo) {c : Cel} (hc : okc c.x c.y = true) : joOk (joStep s jo c) := by
  unfold joStep; split
  · exact (find_kept 65 0 jo c (by decide) h hc).jo
  · exact h
theorem foldl_jo_ok {s : Nat} : ∀ (l : List Cel), (∀ c ∈ l, okc c.x c.y = true) → ∀ jo, joOk jo → joOk (l.foldl (joStep s) jo) := by
  intro l
  induction l with
  | nil => intro _ jo h; exact h
  | cons c l ih => intro hl jo h; exact ih (fun c hc => hl c (by simp [hc])) _ (joStep_ok h (hl c (by simp)))
theorem joined_ok (s : Nat) : joOk (joined s) := foldl_jo_ok _ (fun c hc => hasS_ok (set_mem.1 hc)) _ jo0_ok
/-- one more round of the search -/
theorem findL_skip {rec : Nat → List Int → Cel → Bool × Nat × List Int} {s : Nat} {b : Cel} {ws : List Cel} {k seen : Nat} {jo : List Int} (hk : k < ws.length) (h : (!hasS s (gC ws k) || seen.testBit (idx (gC ws k))) = true) :
    findL rec s b (ws.drop k) seen jo = findL rec s b (ws.drop (k+1)) seen jo := by
  rw [List.drop_eq_getElem_cons hk, ← gC_eq hk, findL, if_pos h]
theorem findL_free {rec : Nat → List Int → Cel → Bool × Nat × List Int} {s : Nat} {b : Cel} {ws : List Cel} {k seen : Nat} {jo : List Int} (hk : k < ws.length) (h : (!hasS s (gC ws k) || seen.testBit (idx (gC ws k))) = false) (hf : gI jo (idx (gC ws k)) < 0) :
    findL rec s b (ws.drop k) seen jo = (true, addC seen (gC ws k), jo.set (idx (gC ws k)) (idx b)) := by
  rw [List.drop_eq_getElem_cons hk, ← gC_eq hk, findL, if_neg (by rw [h]; simp), if_pos hf]
theorem findL_yes {rec : Nat → List Int → Cel → Bool × Nat × List Int} {s : Nat} {b : Cel} {ws : List Cel} {k seen : Nat} {jo : List Int} (hk : k < ws.length) (h : (!hasS s (gC ws k) || seen.testBit (idx (gC ws k))) = false) (hf : ¬ gI jo (idx (gC ws k)) < 0)
    (hr : (rec (addC seen (gC ws k)) jo (cN (gI jo (idx (gC ws k))).toNat)).1 = true) :
    findL rec s b (ws.drop k) seen jo = (true, (rec (addC seen (gC ws k)) jo (cN (gI jo (idx (gC ws k))).toNat)).2.1, (rec (addC seen (gC ws k)) jo (cN (gI jo (idx (gC ws k))).toNat)).2.2.set (idx (gC ws k)) (idx b)) := by
  rw [List.drop_eq_getElem_cons hk, ← gC_eq hk, findL, if_neg (by rw [h]; simp), if_neg hf]
  revert hr
  rcases rec (addC seen (gC ws k)) jo (cN (gI jo (idx (gC ws k))).toNat) with ⟨a, s2, j2⟩
  intro hr; simp only at hr; subst hr; rfl
theorem findL_no {rec : Nat → List Int → Cel → Bool × Nat × List Int} {s : Nat} {b : Cel} {ws : List Cel} {k seen : Nat} {jo : List Int} (hk : k < ws.length) (h : (!hasS s (gC ws k) || seen.testBit (idx (gC ws k))) = false) (hf : ¬ gI jo (idx (gC ws k)) < 0)
    (hr : (rec (addC seen (gC ws k)) jo (cN (gI jo (idx (gC ws k))).toNat)).1 = false) :
    findL rec s b (ws.drop k) seen jo = findL rec s b (ws.drop (k+1)) (rec (addC seen (gC ws k)) jo (cN (gI jo (idx (gC ws k))).toNat)).2.1 (rec (addC seen (gC ws k)) jo (cN (gI jo (idx (gC ws k))).toNat)).2.2 := by
  rw [List.drop_eq_getElem_cons hk, ← gC_eq hk, findL, if_neg (by rw [h]; simp), if_neg hf]
  revert hr
  rcases rec (addC seen (gC ws k)) jo (cN (gI jo (idx (gC ws k))).toNat) with ⟨a, s2, j2⟩
  intro hr; simp only at hr; subst hr; rfl
theorem findL_end {rec : Nat → List Int → Cel → Bool × Nat × List Int} {s : Nat} {b : Cel} {ws : List Cel} {k seen : Nat} {jo : List Int} (hk : ¬ (k : Int) < (ws.length : Int)) : findL rec s b (ws.drop k) seen jo = (false, seen, jo) := by
  rw [List.drop_eq_nil_of_le (by omega)]; rfl

theorem qC6_sz_3 : (Try.prog.info? 3).map (·.size) = some 1 := by kernel_rfl
theorem qC6_sz_49 : (Try.prog.info? 49).map (·.size) = some 2 := by kernel_rfl
theorem qC6_ti_3 : TI Try.prog 3 false 1 := ⟨⟨_, Try.underlying3, rfl⟩, by kernel_rfl⟩
theorem qC6_ti_49 : TI Try.prog 49 true 2 := ⟨⟨_, Try.underlying49, rfl⟩, by kernel_rfl⟩
theorem qC6_ti_56 : TI Try.prog 56 false 1 := ⟨⟨_, Try.underlying56, rfl⟩, by kernel_rfl⟩
theorem qC6_ti_60 : TI Try.prog 60 false 1 := ⟨⟨_, Try.underlying60, rfl⟩, by kernel_rfl⟩
theorem qC6_ti_71 : TI Try.prog 71 true 64 := ⟨⟨_, Try.underlying71, rfl⟩, by kernel_rfl⟩
theorem qC6_un_41 : Try.prog.underlying 41 = some (.slice 49) := Try.underlying41
theorem qC6_un_71 : Try.prog.underlying 71 = some (.array 64 3) := Try.underlying71
theorem qC6_zi_49 : ZI Try.prog 49 (.agg #[.int .i64 0, .int .i64 0]) 2 16 := by unfold ZI; kernel_rfl
theorem qC6_zi_56 : ZI Try.prog 56 (.int .u64 0) 1 8 := by unfold ZI; kernel_rfl
theorem qC6_zi_60 : ZI Try.prog 60 (.nilFunc) 1 8 := by unfold ZI; kernel_rfl
theorem qC6_zi_71 : ZI Try.prog 71 (.agg (isl (List.replicate 64 0)).toArray) 64 512 := by unfold ZI; kernel_rfl
theorem impl_SortDominoes_fn (l : List Dom) (hl : l.length ≤ 4194304) : Fn Try.prog 58 [.a (.slv l.length 3 (dsl l))] [.row 52 3 (sortD l).length (dsl (sortD l))] := by
  refine ⟨⟨_, Try.func58, by kernel_rfl, by kernel_rfl⟩, fun w args h => ?_⟩
  match args, args_iff.1 h with
  | [u0], ⟨h0, _⟩ =>
    obtain ⟨A0, c0, rfl, hc0, hr0⟩ := argB_slv h0
    refine Calls.mono (sortDominoes_impl l A0 l.length c0 w hr0 hl) ?_
    rintro e w' ⟨v, rfl, ho, hb⟩
    exact ⟨_, rfl, ho, hb⟩

theorem spec_SortDominoes_fn (l : List Dom) (hl : l.length ≤ 4194304) : Fn Try.prog 54 [.a (.slv l.length 3 (dsl l))] [.row 52 3 (sortD l).length (dsl (sortD l))] := by
  refine ⟨⟨_, Try.func54, by kernel_rfl, by kernel_rfl⟩, fun w args h => ?_⟩
  match args, args_iff.1 h with
  | [u0], ⟨h0, _⟩ =>
    obtain ⟨A0, c0, rfl, hc0, hr0⟩ := argB_slv h0
    refine Calls.mono (sortDominoes_spec l A0 l.length c0 w hr0 hl) ?_
    rintro e w' ⟨v, rfl, ho, hb⟩
    exact ⟨_, rfl, ho, hb⟩

set_option maxHeartbeats 4000000 in
set_option maxRecDepth 100000 in
theorem impl_set__matching_1_fn : ∀ (n : Nat) (s seen : Nat) (jo : List Int) (b : Cel) (hs : s < 18446744073709551616) (hseen : seen < 18446744073709551616) (hj : joOk jo) (hb : okc b.x b.y = true) (hn : 64 < n + popc seen), FnO Try.prog 82 [.agg ([(.int .i64 b.x : Value), .int .i64 b.y].map A.val), .a (.ptr 1 0), .a (.ptr 2 0), .a (.ptr 3 0), .a (.ptr 4 0)] [(.o 1, some (.o ⟨56, 1, true, [(.val (.int .u64 ((s : Nat) : Int)) : A)]⟩)), (.o 2, some (.o ⟨56, 1, true, [(.val (.int .u64 ((seen : Nat) : Int)) : A)]⟩)), (.o 3, some (.o ⟨71, 1, true, pl (isl jo)⟩)), (.o 4, some (.o ⟨60, 1, true, [(.fn 82 [1, 2, 3, 4] : A)]⟩))] (V.v (.bool ((find s n seen jo b).1))) [(.o 1, some (.o ⟨56, 1, true, [(.val (.int .u64 ((s : Nat) : Int)) : A)]⟩)), (.o 2, some (.o ⟨56, 1, true, [(.val (.int .u64 (((find s n seen jo b).2.1 : Nat) : Int)) : A)]⟩)), (.o 3, some (.o ⟨71, 1, true, pl (isl ((find s n seen jo b).2.2))⟩)), (.o 4, some (.o ⟨60, 1, true, [(.fn 82 [1, 2, 3, 4] : A)]⟩))] [1, 2, 3, 4] := by
  intro n
  induction n with
  | zero => intro s seen jo b hs hseen hj hb hn; exfalso; (have := popc_le seen; omega)
  | succ n ih =>
    intro s seen jo b hs hseen hj hb hn
    refine fn_introO (N := 48) Try.func82 rfl (by kernel_rfl) rfl (Nat.le_of_ble_eq_true rfl) rfl rfl (by kernel_rfl) (by kernel_rfl) ⟨ocs (by kernel_rfl), ocs (by kernel_rfl), oc_pl (fun _ => rfl), ocs (by kernel_rfl), trivial⟩ [5, 8, 11, 12, 19, 24, 28, 30, 40, 41, 45] (retO1 rfl) (fun W own kp im0 => ?_)
    show Wp _ _ _ [(.s 0, some (.s (V.av [(.int .i64 b.x : Value), .int .i64 b.y]))), (.s 1, some (.s (V.p 1 0))), (.s 2, some (.s (V.p 2 0))), (.s 3, some (.s (V.p 3 0))), (.s 4, some (.s (V.p 4 0))), (.o 1, some (.o ⟨56, 1, true, [(.val (.int .u64 ((s : Nat) : Int)) : A)]⟩)), (.o 2, some (.o ⟨56, 1, true, [(.val (.int .u64 ((seen : Nat) : Int)) : A)]⟩)), (.o 3, some (.o ⟨71, 1, true, pl (isl jo)⟩)), (.o 4, some (.o ⟨60, 1, true, [(.fn 82 [1, 2, 3, 4] : A)]⟩)), (.o 5, some .free), (.o 8, some .free), (.o 11, some .free), (.o 12, some .free), (.o 19, some .free), (.o 24, some .free), (.o 28, some .free), (.o 30, some .free), (.o 40, some .free), (.o 41, some .free), (.o 45, some .free)]
    refine wp_seq' ?_
    refine wp_region_t ?_
    refine wpc (step_plain rfl (acts_box (d := 5) (h := 5) (b := .agg ([(.int .i64 b.x : Value), .int .i64 b.y].map A.val)) (ltN rfl) (OpX.tmp 0 (V.av [(.int .i64 b.x : Value), .int .i64 b.y])) (by intro y hy; simp [B.cs] at hy; rcases hy with rfl | rfl <;> rfl))) (by kernel_rfl) ?_
    refine wpc (step_plain rfl (acts_assign (d := 6) (ltN rfl) (OpX.const (.bool false)))) (by kernel_rfl) ?_
    refine wpl_nil ?_
    refine wp_seq' ?_
    refine wp_seq' ?_
    refine wp_region_t ?_
    refine wpc (step_plain rfl (acts_load_owns (d := 10) (t := 5) (h := 5) (off := 0) (o := ⟨49, 2, true, [(.val (.int .i64 b.x) : A), .val (.int .i64 b.y)]⟩)  (xs := [(.int .i64 b.x : Value), .int .i64 b.y].map A.val) (ltN rfl) qC6_ti_49 rfl (by decide) rfl)) (by kernel_rfl) ?_
    refine wpc (step_plain rfl (acts_call1 (d := 11) (ltN rfl) (impl_NeighborsOf_fn b ) (ArgVs.cons (ArgV.va (vs := [(.int .i64 b.x : Value), .int .i64 b.y]) (OpV.agg 10 [(.int .i64 b.x : Value), .int .i64 b.y])) (ArgVs.nil)) (ResV.row 49 2 ((nbs b).length) (csl (nbs b)) 11))) (by kernel_rfl) ?_
    refine wpc (step_plain rfl (acts_len (d := 12) (X := .sl 11 0 ((nbs b).length)) (n := ((nbs b).length)) (iv := (((nbs b).length : Nat) : Int)) (ltN rfl) qC6_un_41 (OpX.tmp 11 (V.b (.a (.sl 11 0 ((nbs b).length))))) (LenOf.sl _ _ _) rfl)) (by kernel_rfl) ?_
    refine wpc (step_plain rfl (acts_move (d := 13) (ltN rfl) (OpX.const (.int .i64 0)))) (by kernel_rfl) ?_
    refine wpl_nil ?_
    refine wp_block' ?_
    refine wp_loop' (fun (x : Nat × Nat × (List Int)) => match x with | (k, seen2, jo2) => k ≤ (nbs b).length ∧ seen2 < 18446744073709551616 ∧ joOk jo2 ∧ popc seen ≤ popc seen2 ∧ findL (find s n) s b ((nbs b).drop k) seen2 jo2 = find s (n + 1) seen jo b) (fun (x : Nat × Nat × (List Int)) => match x with | (k, seen2, jo2) => [(.s 1, some (.s (V.p 1 0))), (.s 2, some (.s (V.p 2 0))), (.s 3, some (.s (V.p 3 0))), (.s 4, some (.s (V.p 4 0))), (.s 5, some (.s (V.p 5 0))), (.s 11, some (.s (V.b (.a (.sl 11 0 ((nbs b).length)))))), (.s 12, some (.s (V.v (.int .i64 (((nbs b).length : Nat) : Int))))), (.s 13, some (.s (V.v (.int .i64 ((k : Nat) : Int))))), (.o 1, some (.o ⟨56, 1, true, [(.val (.int .u64 ((s : Nat) : Int)) : A)]⟩)), (.o 2, some (.o ⟨56, 1, true, [(.val (.int .u64 ((seen2 : Nat) : Int)) : A)]⟩)), (.o 3, some (.o ⟨71, 1, true, pl (isl jo2)⟩)), (.o 4, some (.o ⟨60, 1, true, [(.fn 82 [1, 2, 3, 4] : A)]⟩)), (.o 5, some (.o ⟨49, 2, true, [(.val (.int .i64 b.x) : A), .val (.int .i64 b.y)]⟩)), (.o 11, some (.o ⟨49, 2, true, pl (csl (nbs b))⟩)), (.o 8, some .free), (.o 12, some .free), (.o 19, some .free), (.o 24, some .free), (.o 28, some .free), (.o 30, some .free), (.o 40, some .free), (.o 41, some .free), (.o 45, some .free)]) (fun (x : Nat × Nat × (List Int)) => match x with | (k, seen2, jo2) => (nbs b).length - k) ((0 : Nat), (seen : Nat), (jo : List Int)) (by exact ⟨Nat.zero_le _, hseen, hj, Nat.le_refl _, rfl⟩) (weak_of id [8, 12, 19, 24, 28, 30, 40, 41, 45] (by kernel_rfl) (wk_s (v' := V.p 1 0) (by kernel_rfl) rfl rfl (wk_s (v' := V.p 2 0) (by kernel_rfl) rfl rfl (wk_s (v' := V.p 3 0) (by kernel_rfl) rfl rfl (wk_s (v' := V.p 4 0) (by kernel_rfl) rfl rfl (wk_s (v' := V.p 5 0) (by kernel_rfl) rfl rfl (wk_s (v' := V.b (.a (.sl 11 0 ((nbs b).length)))) (by kernel_rfl) rfl rfl (wk_s (v' := V.v (.int .i64 (((nbs b).length : Nat) : Int))) (by kernel_rfl) rfl rfl (wk_s (v' := V.v (.int .i64 0)) (by kernel_rfl) (vint (by first | rfl | omega | (simp; done) | (simp; omega))) rfl (wk_o (o' := ⟨56, 1, true, [(.val (.int .u64 ((s : Nat) : Int)) : A)]⟩) (by kernel_rfl) (renob_l (fun h => h) rfl rfl) rfl (wk_o (o' := ⟨56, 1, true, [(.val (.int .u64 ((seen : Nat) : Int)) : A)]⟩) (by kernel_rfl) (renob_l (fun h => h) rfl rfl) rfl (wk_o (o' := ⟨71, 1, true, pl (isl jo)⟩) (by kernel_rfl) (renob_pl (fun h => h)) rfl (wk_o (o' := ⟨60, 1, true, [(.fn 82 [1, 2, 3, 4] : A)]⟩) (by kernel_rfl) (renob_l (fun h => h) rfl rfl) rfl (wk_o (o' := ⟨49, 2, true, [(.val (.int .i64 b.x) : A), .val (.int .i64 b.y)]⟩) (by kernel_rfl) (renob_l (fun h => h) rfl rfl) rfl (wk_o (o' := ⟨49, 2, true, pl (csl (nbs b))⟩) (by kernel_rfl) (renob_pl (fun h => h)) rfl (wk_f rfl (wk_f rfl (wk_f rfl (wk_f rfl (wk_f rfl (wk_f rfl (wk_f rfl (wk_f rfl (wk_f rfl (wk_nil))))))))))))))))))))))))) ?_
    rintro ⟨k, seen2, jo2⟩ inv1
    replace inv1 : k ≤ (nbs b).length ∧ seen2 < 18446744073709551616 ∧ joOk jo2 ∧ popc seen ≤ popc seen2 ∧ findL (find s n) s b ((nbs b).drop k) seen2 jo2 = find s (n + 1) seen jo b := inv1
    obtain ⟨inv1_0, inv1_1, inv1_2, inv1_3, inv1_4⟩ := inv1
    show Wp _ _ _ [(.s 1, some (.s (V.p 1 0))), (.s 2, some (.s (V.p 2 0))), (.s 3, some (.s (V.p 3 0))), (.s 4, some (.s (V.p 4 0))), (.s 5, some (.s (V.p 5 0))), (.s 11, some (.s (V.b (.a (.sl 11 0 ((nbs b).length)))))), (.s 12, some (.s (V.v (.int .i64 (((nbs b).length : Nat) : Int))))), (.s 13, some (.s (V.v (.int .i64 ((k : Nat) : Int))))), (.o 1, some (.o ⟨56, 1, true, [(.val (.int .u64 ((s : Nat) : Int)) : A)]⟩)), (.o 2, some (.o ⟨56, 1, true, [(.val (.int .u64 ((seen2 : Nat) : Int)) : A)]⟩)), (.o 3, some (.o ⟨71, 1, true, pl (isl jo2)⟩)), (.o 4, some (.o ⟨60, 1, true, [(.fn 82 [1, 2, 3, 4] : A)]⟩)), (.o 5, some (.o ⟨49, 2, true, [(.val (.int .i64 b.x) : A), .val (.int .i64 b.y)]⟩)), (.o 11, some (.o ⟨49, 2, true, pl (csl (nbs b))⟩)), (.o 8, some .free), (.o 12, some .free), (.o 19, some .free), (.o 24, some .free), (.o 28, some .free), (.o 30, some .free), (.o 40, some .free), (.o 41, some .free), (.o 45, some .free)]
    have hfin : findL (find s n) s b ((nbs b).drop k) seen2 jo2 = find s (n + 1) seen jo b := by assumption
    have hj2 : joOk jo2 := by assumption
    obtain ⟨hjl, hjr⟩ := hj2
    have h4 := nbs_len b
    refine wp_seq' ?_
    refine wp_region_t ?_
    refine wpc (step_plain rfl (acts_bin (d := 14) (ltN rfl) (OpV.tmp 13 (.int .i64 ((k : Nat) : Int))) (OpV.tmp 12 (.int .i64 (((nbs b).length : Nat) : Int))) (r_lss (c := (decide (((k : Nat) : Int) < (((nbs b).length : Nat) : Int)))) rfl))) (by kernel_rfl) ?_
    refine wpl_nil ?_
    refine wp_seq' ?_
    refine wp_if (t := 14) (decide (((k : Nat) : Int) < (((nbs b).length : Nat) : Int))) (by kernel_rfl) (fun c2 => ?_) (fun c2 => ?_)
    · skip
      have c2P := of_decide_eq_true c2
      refine wp_skip' ?_
      refine wp_seq' ?_
      refine wp_block' ?_
      refine wp_seq' ?_
      refine wp_region_t ?_
      refine wpc (step_plain rfl (acts_index_sl (d := 15) (x := 11) (h := 11) (off := 0) (n := ((nbs b).length)) (k := k) (off' := (k * 2)) (o := ⟨49, 2, true, pl (csl (nbs b))⟩) (ltN rfl) qC6_un_41 qC6_sz_49 (OpV.tmp 13 (.int .i64 ((k : Nat) : Int))) rfl (by first | omega | assumption | exact addC_lt (by assumption) (by assumption) | exact hasS_ok (by assumption) | exact cN_ok (by omega) | (have := popc_add (s := seen2) (c := gC (nbs b) k) (by assumption) (sk4 (by assumption) (by assumption)); omega) | (have := (find_kept (s := s) n (addC seen2 (gC (nbs b) k)) jo2 (cN (gI jo2 (idx (gC (nbs b) k))).toNat) (by first | assumption | exact addC_lt (by assumption) (by assumption)) (by assumption) (cN_ok (by omega))).jo.1; omega)) (by first | (simp; done) | (simp; omega) | omega))) (by kernel_rfl) ?_
      refine wpc (step_plain rfl (acts_load_owns (d := 16) (t := 15) (h := 11) (off := (k * 2)) (o := ⟨49, 2, true, pl (csl (nbs b))⟩)  (xs := [(.int .i64 ((gC (nbs b) k).x) : Value), .int .i64 ((gC (nbs b) k).y)].map A.val) (ltN rfl) qC6_ti_49 rfl (by decide) (pl_at (csl_at (k := k) (by first | omega | assumption | exact addC_lt (by assumption) (by assumption) | exact hasS_ok (by assumption) | exact cN_ok (by omega) | (have := popc_add (s := seen2) (c := gC (nbs b) k) (by assumption) (sk4 (by assumption) (by assumption)); omega) | (have := (find_kept (s := s) n (addC seen2 (gC (nbs b) k)) jo2 (cN (gI jo2 (idx (gC (nbs b) k))).toNat) (by first | assumption | exact addC_lt (by assumption) (by assumption)) (by assumption) (cN_ok (by omega))).jo.1; omega)))))) (by kernel_rfl) ?_
      refine wpc (step_plain rfl (acts_alloc' (d := 8) (h := 8) (cap := 1) (s := 2) (cells := [(.val (.int .i64 0) : A), .val (.int .i64 0)]) (ltN rfl) qC6_zi_49 rfl rfl (by decide))) (by kernel_rfl) ?_
      refine wpc (step_plain rfl (acts_store (t := 8) (h := 8) (off := 0) (o := ⟨49, 2, true, [(.val (.int .i64 0) : A), .val (.int .i64 0)]⟩) (b := .agg ([(.int .i64 ((gC (nbs b) k).x) : Value), .int .i64 ((gC (nbs b) k).y)].map A.val)) (cells := [(.val (.int .i64 ((gC (nbs b) k).x)) : A), .val (.int .i64 ((gC (nbs b) k).y))]) qC6_ti_49 (OpX.tmp 16 (V.av [(.int .i64 ((gC (nbs b) k).x) : Value), .int .i64 ((gC (nbs b) k).y)])) rfl (by decide) (by intro y hy; simp [B.cs] at hy; rcases hy with rfl | rfl <;> rfl) (Nat.le_of_ble_eq_true rfl) rfl)) (by kernel_rfl) ?_
      refine wpl_nil ?_
      refine wp_seq' ?_
      refine wp_seq' ?_
      rcases Bool.eq_false_or_eq_true ((hasS s (gC (nbs b) k))) with c3 | c3
      · skip
        have c3B := idx_lt (hasS_ok c3)
        have c3C := hasS_ok c3
        have c3D := hjr _ c3B
        refine wp_region_t ?_
        refine wpc (step_plain rfl (acts_load_own (d := 17) (t := 1) (h := 1) (off := 0) (o := ⟨56, 1, true, [(.val (.int .u64 ((s : Nat) : Int)) : A)]⟩)  (x := .val (.int .u64 ((s : Nat) : Int))) (ltN rfl) qC6_ti_56 rfl)) (by kernel_rfl) ?_
        refine wpc (step_plain rfl (acts_load_owns (d := 18) (t := 8) (h := 8) (off := 0) (o := ⟨49, 2, true, [(.val (.int .i64 ((gC (nbs b) k).x)) : A), .val (.int .i64 ((gC (nbs b) k).y))]⟩)  (xs := [(.int .i64 ((gC (nbs b) k).x) : Value), .int .i64 ((gC (nbs b) k).y)].map A.val) (ltN rfl) qC6_ti_49 rfl (by decide) rfl)) (by kernel_rfl) ?_
        refine wpc (step_plain rfl (acts_call1 (d := 19) (ltN rfl) (impl_set__has_fn s (gC (nbs b) k) (by first | omega | assumption | exact addC_lt (by assumption) (by assumption) | exact hasS_ok (by assumption) | exact cN_ok (by omega) | (have := popc_add (s := seen2) (c := gC (nbs b) k) (by assumption) (sk4 (by assumption) (by assumption)); omega) | (have := (find_kept (s := s) n (addC seen2 (gC (nbs b) k)) jo2 (cN (gI jo2 (idx (gC (nbs b) k))).toNat) (by first | assumption | exact addC_lt (by assumption) (by assumption)) (by assumption) (cN_ok (by omega))).jo.1; omega))) (ArgVs.cons (ArgV.v (OpV.tmp 17 (.int .u64 ((s : Nat) : Int)))) (ArgVs.cons (ArgV.va (vs := [(.int .i64 ((gC (nbs b) k).x) : Value), .int .i64 ((gC (nbs b) k).y)]) (OpV.agg 18 [(.int .i64 ((gC (nbs b) k).x) : Value), .int .i64 ((gC (nbs b) k).y)])) (ArgVs.nil))) ((resval (congrArg Value.bool c3))))) (by kernel_rfl) ?_
        refine wpc (step_plain rfl (acts_un (d := 20) (ltN rfl) (OpV.tmp 19 (.bool true)) (r_not (c := false) rfl))) (by kernel_rfl) ?_
        refine wpc (step_plain rfl (acts_move (d := 21) (ltN rfl) (OpX.tmp 20 (V.v (.bool false))))) (by kernel_rfl) ?_
        refine wpc (step_on (dj := 21) rfl rfl (acts_load_own (d := 22) (t := 2) (h := 2) (off := 0) (o := ⟨56, 1, true, [(.val (.int .u64 ((seen2 : Nat) : Int)) : A)]⟩)  (x := .val (.int .u64 ((seen2 : Nat) : Int))) (ltN rfl) qC6_ti_56 rfl)) (by kernel_rfl) ?_
        refine wpc (step_on (dj := 21) rfl rfl (acts_load_owns (d := 23) (t := 8) (h := 8) (off := 0) (o := ⟨49, 2, true, [(.val (.int .i64 ((gC (nbs b) k).x)) : A), .val (.int .i64 ((gC (nbs b) k).y))]⟩)  (xs := [(.int .i64 ((gC (nbs b) k).x) : Value), .int .i64 ((gC (nbs b) k).y)].map A.val) (ltN rfl) qC6_ti_49 rfl (by decide) rfl)) (by kernel_rfl) ?_
        refine wpc (step_on (dj := 21) rfl rfl (acts_call1 (d := 24) (ltN rfl) (impl_set__has_fn seen2 (gC (nbs b) k) (by first | omega | assumption | exact addC_lt (by assumption) (by assumption) | exact hasS_ok (by assumption) | exact cN_ok (by omega) | (have := popc_add (s := seen2) (c := gC (nbs b) k) (by assumption) (sk4 (by assumption) (by assumption)); omega) | (have := (find_kept (s := s) n (addC seen2 (gC (nbs b) k)) jo2 (cN (gI jo2 (idx (gC (nbs b) k))).toNat) (by first | assumption | exact addC_lt (by assumption) (by assumption)) (by assumption) (cN_ok (by omega))).jo.1; omega))) (ArgVs.cons (ArgV.v (OpV.tmp 22 (.int .u64 ((seen2 : Nat) : Int)))) (ArgVs.cons (ArgV.va (vs := [(.int .i64 ((gC (nbs b) k).x) : Value), .int .i64 ((gC (nbs b) k).y)]) (OpV.agg 23 [(.int .i64 ((gC (nbs b) k).x) : Value), .int .i64 ((gC (nbs b) k).y)])) (ArgVs.nil))) (ResV.val _))) (by kernel_rfl) ?_
        refine wpc (step_plain rfl (acts_pick_f (d := 25) (ltN rfl) (OpV.tmp 21 (.bool false)) (OpX.tmp 24 (V.v (.bool (hasS seen2 (gC (nbs b) k))))))) (by kernel_rfl) ?_
        refine wpl_nil ?_
        refine wp_if (t := 25) ((hasS seen2 (gC (nbs b) k))) (by kernel_rfl) (fun c4 => ?_) (fun c4 => ?_)
        · skip
          refine wp_exit' ?_
          refine wp_region_t ?_
          refine wpc (step_plain rfl (acts_bin (d := 47) (ltN rfl) (OpV.tmp 13 (.int .i64 ((k : Nat) : Int))) (OpV.const (.int .i64 1)) (r_add (c := (((k : Nat) : Int) + 1)) (w64 (by first | omega | assumption | exact addC_lt (by assumption) (by assumption) | exact hasS_ok (by assumption) | exact cN_ok (by omega) | (have := popc_add (s := seen2) (c := gC (nbs b) k) (by assumption) (sk4 (by assumption) (by assumption)); omega) | (have := (find_kept (s := s) n (addC seen2 (gC (nbs b) k)) jo2 (cN (gI jo2 (idx (gC (nbs b) k))).toNat) (by first | assumption | exact addC_lt (by assumption) (by assumption)) (by assumption) (cN_ok (by omega))).jo.1; omega)) (by first | omega | assumption | exact addC_lt (by assumption) (by assumption) | exact hasS_ok (by assumption) | exact cN_ok (by omega) | (have := popc_add (s := seen2) (c := gC (nbs b) k) (by assumption) (sk4 (by assumption) (by assumption)); omega) | (have := (find_kept (s := s) n (addC seen2 (gC (nbs b) k)) jo2 (cN (gI jo2 (idx (gC (nbs b) k))).toNat) (by first | assumption | exact addC_lt (by assumption) (by assumption)) (by assumption) (cN_ok (by omega))).jo.1; omega)))))) (by kernel_rfl) ?_
          refine wpc (step_plain rfl (acts_move (d := 13) (ltN rfl) (OpX.tmp 47 (V.v (.int .i64 (((k : Nat) : Int) + 1)))))) (by kernel_rfl) ?_
          refine wpl_nil ?_
          exact loop_back ((k + 1), seen2, jo2) (by first | (refine ⟨by omega, by assumption, by assumption, by assumption, ?_⟩; rw [← hfin]; refine (findL_skip (by omega) ?_).symm; first | exact sk1 (by assumption) | exact sk2 (by assumption)) | (have hkp := find_kept (s := s) n (addC seen2 (gC (nbs b) k)) jo2 (cN (gI jo2 (idx (gC (nbs b) k))).toNat) (addC_lt (by assumption) (by assumption)) (by assumption) (cN_ok (by omega)); have hpa := popc_add (s := seen2) (c := gC (nbs b) k) (by assumption) (sk4 (by assumption) (by assumption)); refine ⟨by omega, hkp.lt, hkp.jo, by have := hkp.pc; omega, ?_⟩; rw [← hfin]; exact (findL_no (by omega) (sk3 (by assumption) (by assumption)) (by omega) (by assumption)).symm)) (by show (nbs b).length - (k + 1) < (nbs b).length - k; omega) (weak_of id [8, 12, 19, 24, 28, 30, 40, 41, 45] (by kernel_rfl) (wk_s (v' := V.p 1 0) (by kernel_rfl) rfl rfl (wk_s (v' := V.p 2 0) (by kernel_rfl) rfl rfl (wk_s (v' := V.p 3 0) (by kernel_rfl) rfl rfl (wk_s (v' := V.p 4 0) (by kernel_rfl) rfl rfl (wk_s (v' := V.p 5 0) (by kernel_rfl) rfl rfl (wk_s (v' := V.b (.a (.sl 11 0 ((nbs b).length)))) (by kernel_rfl) rfl rfl (wk_s (v' := V.v (.int .i64 (((nbs b).length : Nat) : Int))) (by kernel_rfl) rfl rfl (wk_s (v' := V.v (.int .i64 (((k : Nat) : Int) + 1))) (by kernel_rfl) (vint (by first | rfl | omega | (simp; done) | (simp; omega))) rfl (wk_o (o' := ⟨56, 1, true, [(.val (.int .u64 ((s : Nat) : Int)) : A)]⟩) (by kernel_rfl) (renob_l (fun h => h) rfl rfl) rfl (wk_o (o' := ⟨56, 1, true, [(.val (.int .u64 ((seen2 : Nat) : Int)) : A)]⟩) (by kernel_rfl) (renob_l (fun h => h) rfl rfl) rfl (wk_o (o' := ⟨71, 1, true, pl (isl jo2)⟩) (by kernel_rfl) (renob_pl (fun h => h)) rfl (wk_o (o' := ⟨60, 1, true, [(.fn 82 [1, 2, 3, 4] : A)]⟩) (by kernel_rfl) (renob_l (fun h => h) rfl rfl) rfl (wk_o (o' := ⟨49, 2, true, [(.val (.int .i64 b.x) : A), .val (.int .i64 b.y)]⟩) (by kernel_rfl) (renob_l (fun h => h) rfl rfl) rfl (wk_o (o' := ⟨49, 2, true, pl (csl (nbs b))⟩) (by kernel_rfl) (renob_pl (fun h => h)) rfl (wk_f rfl (wk_f rfl (wk_f rfl (wk_f rfl (wk_f rfl (wk_f rfl (wk_f rfl (wk_f rfl (wk_f rfl (wk_nil)))))))))))))))))))))))))
        · skip
          refine wp_skip' ?_
          refine wp_seq' ?_
          refine wp_region_t ?_
          refine wpc (step_plain rfl (acts_load_own (d := 26) (t := 2) (h := 2) (off := 0) (o := ⟨56, 1, true, [(.val (.int .u64 ((seen2 : Nat) : Int)) : A)]⟩)  (x := .val (.int .u64 ((seen2 : Nat) : Int))) (ltN rfl) qC6_ti_56 rfl)) (by kernel_rfl) ?_
          refine wpc (step_plain rfl (acts_load_owns (d := 27) (t := 8) (h := 8) (off := 0) (o := ⟨49, 2, true, [(.val (.int .i64 ((gC (nbs b) k).x)) : A), .val (.int .i64 ((gC (nbs b) k).y))]⟩)  (xs := [(.int .i64 ((gC (nbs b) k).x) : Value), .int .i64 ((gC (nbs b) k).y)].map A.val) (ltN rfl) qC6_ti_49 rfl (by decide) rfl)) (by kernel_rfl) ?_
          refine wpc (step_plain rfl (acts_call1 (d := 28) (ltN rfl) (impl_set__with_fn seen2 (gC (nbs b) k) (by first | omega | assumption | exact addC_lt (by assumption) (by assumption) | exact hasS_ok (by assumption) | exact cN_ok (by omega) | (have := popc_add (s := seen2) (c := gC (nbs b) k) (by assumption) (sk4 (by assumption) (by assumption)); omega) | (have := (find_kept (s := s) n (addC seen2 (gC (nbs b) k)) jo2 (cN (gI jo2 (idx (gC (nbs b) k))).toNat) (by first | assumption | exact addC_lt (by assumption) (by assumption)) (by assumption) (cN_ok (by omega))).jo.1; omega)) (by first | omega | assumption | exact addC_lt (by assumption) (by assumption) | exact hasS_ok (by assumption) | exact cN_ok (by omega) | (have := popc_add (s := seen2) (c := gC (nbs b) k) (by assumption) (sk4 (by assumption) (by assumption)); omega) | (have := (find_kept (s := s) n (addC seen2 (gC (nbs b) k)) jo2 (cN (gI jo2 (idx (gC (nbs b) k))).toNat) (by first | assumption | exact addC_lt (by assumption) (by assumption)) (by assumption) (cN_ok (by omega))).jo.1; omega))) (ArgVs.cons (ArgV.v (OpV.tmp 26 (.int .u64 ((seen2 : Nat) : Int)))) (ArgVs.cons (ArgV.va (vs := [(.int .i64 ((gC (nbs b) k).x) : Value), .int .i64 ((gC (nbs b) k).y)]) (OpV.agg 27 [(.int .i64 ((gC (nbs b) k).x) : Value), .int .i64 ((gC (nbs b) k).y)])) (ArgVs.nil))) (ResV.val _))) (by kernel_rfl) ?_
          refine wpc (step_plain rfl (acts_store (t := 2) (h := 2) (off := 0) (o := ⟨56, 1, true, [(.val (.int .u64 ((seen2 : Nat) : Int)) : A)]⟩) (b := .a (.val (.int .u64 (((addC seen2 (gC (nbs b) k)) : Nat) : Int)))) (cells := [(.val (.int .u64 (((addC seen2 (gC (nbs b) k)) : Nat) : Int)) : A)]) qC6_ti_56 (OpX.tmp 28 (V.v (.int .u64 (((addC seen2 (gC (nbs b) k)) : Nat) : Int)))) rfl (by decide) (by intro y hy; simp [B.cs] at hy; subst hy; rfl) (Nat.le_of_ble_eq_true rfl) rfl)) (by kernel_rfl) ?_
          refine wpl_nil ?_
          refine wp_seq' ?_
          refine wp_region_t ?_
          refine wpc (step_plain rfl (acts_load_owns (d := 29) (t := 8) (h := 8) (off := 0) (o := ⟨49, 2, true, [(.val (.int .i64 ((gC (nbs b) k).x)) : A), .val (.int .i64 ((gC (nbs b) k).y))]⟩)  (xs := [(.int .i64 ((gC (nbs b) k).x) : Value), .int .i64 ((gC (nbs b) k).y)].map A.val) (ltN rfl) qC6_ti_49 rfl (by decide) rfl)) (by kernel_rfl) ?_
          refine wpc (step_plain rfl (acts_call1 (d := 30) (ltN rfl) (impl_CellIndex_fn (gC (nbs b) k) (by first | omega | assumption | exact addC_lt (by assumption) (by assumption) | exact hasS_ok (by assumption) | exact cN_ok (by omega) | (have := popc_add (s := seen2) (c := gC (nbs b) k) (by assumption) (sk4 (by assumption) (by assumption)); omega) | (have := (find_kept (s := s) n (addC seen2 (gC (nbs b) k)) jo2 (cN (gI jo2 (idx (gC (nbs b) k))).toNat) (by first | assumption | exact addC_lt (by assumption) (by assumption)) (by assumption) (cN_ok (by omega))).jo.1; omega))) (ArgVs.cons (ArgV.va (vs := [(.int .i64 ((gC (nbs b) k).x) : Value), .int .i64 ((gC (nbs b) k).y)]) (OpV.agg 29 [(.int .i64 ((gC (nbs b) k).x) : Value), .int .i64 ((gC (nbs b) k).y)])) (ArgVs.nil)) (ResV.val _))) (by kernel_rfl) ?_
          refine wpc (step_plain rfl (acts_assign (d := 9) (ltN rfl) (OpX.tmp 30 (V.v (.int .i64 (((idx (gC (nbs b) k)) : Nat) : Int)))))) (by kernel_rfl) ?_
          refine wpl_nil ?_
          refine wp_seq' ?_
          rcases Bool.eq_false_or_eq_true (decide ((gI jo2 (idx (gC (nbs b) k))) < 0)) with c5 | c5
          · skip
            have c5P := of_decide_eq_true c5
            refine wp_drawn' (by kernel_rfl) (AllSteps.cons (step_plain rfl (acts_move (d := 31) (ltN rfl) (OpX.tmp 9 (V.v (.int .i64 (((idx (gC (nbs b) k)) : Nat) : Int)))))) (AllSteps.cons (step_plain rfl (acts_index_arr (d := 32) (x := 3) (h := 3) (off := 0) (k := (idx (gC (nbs b) k))) (off' := ((idx (gC (nbs b) k)) * 1)) (ltN rfl) qC6_un_71 qC6_sz_3 (OpV.tmp 31 (.int .i64 (((idx (gC (nbs b) k)) : Nat) : Int))) rfl (by first | omega | assumption | exact addC_lt (by assumption) (by assumption) | exact hasS_ok (by assumption) | exact cN_ok (by omega) | (have := popc_add (s := seen2) (c := gC (nbs b) k) (by assumption) (sk4 (by assumption) (by assumption)); omega) | (have := (find_kept (s := s) n (addC seen2 (gC (nbs b) k)) jo2 (cN (gI jo2 (idx (gC (nbs b) k))).toNat) (by first | assumption | exact addC_lt (by assumption) (by assumption)) (by assumption) (cN_ok (by omega))).jo.1; omega)) (by simp))) (AllSteps.cons (step_plain rfl (acts_load_own (d := 33) (t := 32) (h := 3) (off := ((idx (gC (nbs b) k)) * 1)) (o := ⟨71, 1, true, pl (isl jo2)⟩)  (x := .val (.int .i64 (gI jo2 (idx (gC (nbs b) k))))) (ltN rfl) qC6_ti_3 (pl_get (isl_get1 (k := (idx (gC (nbs b) k))) (by first | omega | assumption | exact addC_lt (by assumption) (by assumption) | exact hasS_ok (by assumption) | exact cN_ok (by omega) | (have := popc_add (s := seen2) (c := gC (nbs b) k) (by assumption) (sk4 (by assumption) (by assumption)); omega) | (have := (find_kept (s := s) n (addC seen2 (gC (nbs b) k)) jo2 (cN (gI jo2 (idx (gC (nbs b) k))).toNat) (by first | assumption | exact addC_lt (by assumption) (by assumption)) (by assumption) (cN_ok (by omega))).jo.1; omega)))))) (AllSteps.cons (step_plain rfl (acts_bin (d := 34) (ltN rfl) (OpV.tmp 33 (.int .i64 (gI jo2 (idx (gC (nbs b) k))))) (OpV.const (.int .i64 0)) (r_lss (c := true) c5))) (AllSteps.cons (step_plain rfl (acts_move (d := 35) (ltN rfl) (OpX.tmp 34 (V.v (.bool true))))) (AllSteps.cons (step_off (dj := 35) (b' := true) rfl rfl (by decide) rfl (ltN rfl)) (AllSteps.cons (step_off (dj := 35) (b' := true) rfl rfl (by decide) rfl (ltN rfl)) (AllSteps.cons (step_off (dj := 35) (b' := true) rfl rfl (by decide) rfl (ltN rfl)) (AllSteps.cons (step_off (dj := 35) (b' := true) rfl rfl (by decide) rfl (ltN rfl)) (AllSteps.cons (step_off (dj := 35) (b' := true) rfl rfl (by decide) rfl (ltN rfl)) (AllSteps.cons (step_off (dj := 35) (b' := true) rfl rfl (by decide) rfl (ltN rfl)) (AllSteps.cons (step_plain rfl (acts_pick_t (d := 42) (ltN rfl) (OpV.tmp 35 (.bool true)) (OpX.const (.bool true)))) (AllSteps.nil))))))))))))) (by kernel_rfl) (by kernel_rfl) (by kernel_rfl) ?_
            refine wp_if_t (t := 42) (by kernel_rfl) ?_
            refine wp_seq' ?_
            refine wp_region_t ?_
            refine wpc (step_plain rfl (acts_move (d := 43) (ltN rfl) (OpX.tmp 9 (V.v (.int .i64 (((idx (gC (nbs b) k)) : Nat) : Int)))))) (by kernel_rfl) ?_
            refine wpc (step_plain rfl (acts_load_owns (d := 44) (t := 5) (h := 5) (off := 0) (o := ⟨49, 2, true, [(.val (.int .i64 b.x) : A), .val (.int .i64 b.y)]⟩)  (xs := [(.int .i64 b.x : Value), .int .i64 b.y].map A.val) (ltN rfl) qC6_ti_49 rfl (by decide) rfl)) (by kernel_rfl) ?_
            refine wpc (step_plain rfl (acts_call1 (d := 45) (ltN rfl) (impl_CellIndex_fn b (by first | omega | assumption | exact addC_lt (by assumption) (by assumption) | exact hasS_ok (by assumption) | exact cN_ok (by omega) | (have := popc_add (s := seen2) (c := gC (nbs b) k) (by assumption) (sk4 (by assumption) (by assumption)); omega) | (have := (find_kept (s := s) n (addC seen2 (gC (nbs b) k)) jo2 (cN (gI jo2 (idx (gC (nbs b) k))).toNat) (by first | assumption | exact addC_lt (by assumption) (by assumption)) (by assumption) (cN_ok (by omega))).jo.1; omega))) (ArgVs.cons (ArgV.va (vs := [(.int .i64 b.x : Value), .int .i64 b.y]) (OpV.agg 44 [(.int .i64 b.x : Value), .int .i64 b.y])) (ArgVs.nil)) (ResV.val _))) (by kernel_rfl) ?_
            refine wpc (step_plain rfl (acts_index_arr (d := 46) (x := 3) (h := 3) (off := 0) (k := (idx (gC (nbs b) k))) (off' := ((idx (gC (nbs b) k)) * 1)) (ltN rfl) qC6_un_71 qC6_sz_3 (OpV.tmp 43 (.int .i64 (((idx (gC (nbs b) k)) : Nat) : Int))) rfl (by first | omega | assumption | exact addC_lt (by assumption) (by assumption) | exact hasS_ok (by assumption) | exact cN_ok (by omega) | (have := popc_add (s := seen2) (c := gC (nbs b) k) (by assumption) (sk4 (by assumption) (by assumption)); omega) | (have := (find_kept (s := s) n (addC seen2 (gC (nbs b) k)) jo2 (cN (gI jo2 (idx (gC (nbs b) k))).toNat) (by first | assumption | exact addC_lt (by assumption) (by assumption)) (by assumption) (cN_ok (by omega))).jo.1; omega)) (by simp))) (by kernel_rfl) ?_
            refine wpc (step_plain rfl (acts_store (t := 46) (h := 3) (off := ((idx (gC (nbs b) k)) * 1)) (o := ⟨71, 1, true, pl (isl jo2)⟩) (b := .a (.val (.int .i64 (((idx b) : Nat) : Int)))) (cells := pl (isl (jo2.set (idx (gC (nbs b) k)) (((idx b) : Nat) : Int)))) qC6_ti_3 (OpX.tmp 45 (V.v (.int .i64 (((idx b) : Nat) : Int)))) rfl (by decide) (by intro y hy; simp [B.cs] at hy; subst hy; rfl) (by simp only [pl_len, isl_len]; first | omega | assumption | exact addC_lt (by assumption) (by assumption) | exact hasS_ok (by assumption) | exact cN_ok (by omega) | (have := popc_add (s := seen2) (c := gC (nbs b) k) (by assumption) (sk4 (by assumption) (by assumption)); omega) | (have := (find_kept (s := s) n (addC seen2 (gC (nbs b) k)) jo2 (cN (gI jo2 (idx (gC (nbs b) k))).toNat) (by first | assumption | exact addC_lt (by assumption) (by assumption)) (by assumption) (cN_ok (by omega))).jo.1; omega)) (isl_put (k := (idx (gC (nbs b) k))) (by first | omega | assumption | exact addC_lt (by assumption) (by assumption) | exact hasS_ok (by assumption) | exact cN_ok (by omega) | (have := popc_add (s := seen2) (c := gC (nbs b) k) (by assumption) (sk4 (by assumption) (by assumption)); omega) | (have := (find_kept (s := s) n (addC seen2 (gC (nbs b) k)) jo2 (cN (gI jo2 (idx (gC (nbs b) k))).toNat) (by first | assumption | exact addC_lt (by assumption) (by assumption)) (by assumption) (cN_ok (by omega))).jo.1; omega))))) (by kernel_rfl) ?_
            refine wpl_nil ?_
            refine wp_seq' ?_
            refine wp_region_t ?_
            refine wpc (step_plain rfl (acts_assign (d := 6) (ltN rfl) (OpX.const (.bool true)))) (by kernel_rfl) ?_
            refine wpl_nil ?_
            refine wp_ret' ?_
            exact ⟨_, weak_id, ⟨by kernel_rfl, obj_eq (c := [(.val (.int .u64 (((addC seen2 (gC (nbs b) k)) : Nat) : Int)) : A)]) (by kernel_rfl) (congrArg (fun z : Nat => [(A.val (.int .u64 (z : Int)) : A)]) (by first | rfl | (rw [← hfin]; first | rw [findL_end (by omega)] | rw [findL_free (by omega) (sk3 (by assumption) (by assumption)) (by omega)] | rw [findL_yes (by omega) (sk3 (by assumption) (by assumption)) (by omega) (by assumption)]); (try simp_all))), obj_eq (c := pl (isl (jo2.set (idx (gC (nbs b) k)) (((idx b) : Nat) : Int)))) (by kernel_rfl) (congrArg (fun z => pl (isl z)) (by first | rfl | (rw [← hfin]; first | rw [findL_end (by omega)] | rw [findL_free (by omega) (sk3 (by assumption) (by assumption)) (by omega)] | rw [findL_yes (by omega) (sk3 (by assumption) (by assumption)) (by omega) (by assumption)]); (try simp_all))), by kernel_rfl, trivial⟩, vo_eq 6 (.a (.val (.bool true))) (.a (.val (.bool ((find s (n + 1) seen jo b).1)))) (by kernel_rfl) (congrArg (fun z : Bool => B.a (.val (.bool z))) (by first | rfl | (rw [← hfin]; first | rw [findL_end (by omega)] | rw [findL_free (by omega) (sk3 (by assumption) (by assumption)) (by omega)] | rw [findL_yes (by omega) (sk3 (by assumption) (by assumption)) (by omega) (by assumption)]); (try simp_all)))⟩
          · skip
            have c5P := of_decide_eq_false c5
            refine wp_drawn' (by kernel_rfl) (AllSteps.cons (step_plain rfl (acts_move (d := 31) (ltN rfl) (OpX.tmp 9 (V.v (.int .i64 (((idx (gC (nbs b) k)) : Nat) : Int)))))) (AllSteps.cons (step_plain rfl (acts_index_arr (d := 32) (x := 3) (h := 3) (off := 0) (k := (idx (gC (nbs b) k))) (off' := ((idx (gC (nbs b) k)) * 1)) (ltN rfl) qC6_un_71 qC6_sz_3 (OpV.tmp 31 (.int .i64 (((idx (gC (nbs b) k)) : Nat) : Int))) rfl (by first | omega | assumption | exact addC_lt (by assumption) (by assumption) | exact hasS_ok (by assumption) | exact cN_ok (by omega) | (have := popc_add (s := seen2) (c := gC (nbs b) k) (by assumption) (sk4 (by assumption) (by assumption)); omega) | (have := (find_kept (s := s) n (addC seen2 (gC (nbs b) k)) jo2 (cN (gI jo2 (idx (gC (nbs b) k))).toNat) (by first | assumption | exact addC_lt (by assumption) (by assumption)) (by assumption) (cN_ok (by omega))).jo.1; omega)) (by simp))) (AllSteps.cons (step_plain rfl (acts_load_own (d := 33) (t := 32) (h := 3) (off := ((idx (gC (nbs b) k)) * 1)) (o := ⟨71, 1, true, pl (isl jo2)⟩)  (x := .val (.int .i64 (gI jo2 (idx (gC (nbs b) k))))) (ltN rfl) qC6_ti_3 (pl_get (isl_get1 (k := (idx (gC (nbs b) k))) (by first | omega | assumption | exact addC_lt (by assumption) (by assumption) | exact hasS_ok (by assumption) | exact cN_ok (by omega) | (have := popc_add (s := seen2) (c := gC (nbs b) k) (by assumption) (sk4 (by assumption) (by assumption)); omega) | (have := (find_kept (s := s) n (addC seen2 (gC (nbs b) k)) jo2 (cN (gI jo2 (idx (gC (nbs b) k))).toNat) (by first | assumption | exact addC_lt (by assumption) (by assumption)) (by assumption) (cN_ok (by omega))).jo.1; omega)))))) (AllSteps.cons (step_plain rfl (acts_bin (d := 34) (ltN rfl) (OpV.tmp 33 (.int .i64 (gI jo2 (idx (gC (nbs b) k))))) (OpV.const (.int .i64 0)) (r_lss (c := false) c5))) (AllSteps.cons (step_plain rfl (acts_move (d := 35) (ltN rfl) (OpX.tmp 34 (V.v (.bool false))))) (AllSteps.cons (step_on (dj := 35) rfl rfl (acts_load_own (d := 36) (t := 4) (h := 4) (off := 0) (o := ⟨60, 1, true, [(.fn 82 [1, 2, 3, 4] : A)]⟩)  (x := .fn 82 [1, 2, 3, 4]) (ltN rfl) qC6_ti_60 rfl)) (AllSteps.cons (step_on (dj := 35) rfl rfl (acts_move (d := 37) (ltN rfl) (OpX.tmp 9 (V.v (.int .i64 (((idx (gC (nbs b) k)) : Nat) : Int)))))) (AllSteps.cons (step_on (dj := 35) rfl rfl (acts_index_arr (d := 38) (x := 3) (h := 3) (off := 0) (k := (idx (gC (nbs b) k))) (off' := ((idx (gC (nbs b) k)) * 1)) (ltN rfl) qC6_un_71 qC6_sz_3 (OpV.tmp 37 (.int .i64 (((idx (gC (nbs b) k)) : Nat) : Int))) rfl (by first | omega | assumption | exact addC_lt (by assumption) (by assumption) | exact hasS_ok (by assumption) | exact cN_ok (by omega) | (have := popc_add (s := seen2) (c := gC (nbs b) k) (by assumption) (sk4 (by assumption) (by assumption)); omega) | (have := (find_kept (s := s) n (addC seen2 (gC (nbs b) k)) jo2 (cN (gI jo2 (idx (gC (nbs b) k))).toNat) (by first | assumption | exact addC_lt (by assumption) (by assumption)) (by assumption) (cN_ok (by omega))).jo.1; omega)) (by simp))) (AllSteps.cons (step_on (dj := 35) rfl rfl (acts_load_own (d := 39) (t := 38) (h := 3) (off := ((idx (gC (nbs b) k)) * 1)) (o := ⟨71, 1, true, pl (isl jo2)⟩)  (x := .val (.int .i64 (gI jo2 (idx (gC (nbs b) k))))) (ltN rfl) qC6_ti_3 (pl_get (isl_get1 (k := (idx (gC (nbs b) k))) (by first | omega | assumption | exact addC_lt (by assumption) (by assumption) | exact hasS_ok (by assumption) | exact cN_ok (by omega) | (have := popc_add (s := seen2) (c := gC (nbs b) k) (by assumption) (sk4 (by assumption) (by assumption)); omega) | (have := (find_kept (s := s) n (addC seen2 (gC (nbs b) k)) jo2 (cN (gI jo2 (idx (gC (nbs b) k))).toNat) (by first | assumption | exact addC_lt (by assumption) (by assumption)) (by assumption) (cN_ok (by omega))).jo.1; omega)))))) (AllSteps.cons (step_on (dj := 35) rfl rfl (acts_call1 (d := 40) (ltN rfl) (impl_cellAt_fn ((gI jo2 (idx (gC (nbs b) k))).toNat) (by first | omega | assumption | exact addC_lt (by assumption) (by assumption) | exact hasS_ok (by assumption) | exact cN_ok (by omega) | (have := popc_add (s := seen2) (c := gC (nbs b) k) (by assumption) (sk4 (by assumption) (by assumption)); omega) | (have := (find_kept (s := s) n (addC seen2 (gC (nbs b) k)) jo2 (cN (gI jo2 (idx (gC (nbs b) k))).toNat) (by first | assumption | exact addC_lt (by assumption) (by assumption)) (by assumption) (cN_ok (by omega))).jo.1; omega))) (ArgVs.cons ((argv_int (b := (((gI jo2 (idx (gC (nbs b) k))).toNat : Nat) : Int)) (by omega) (ArgV.v (OpV.tmp 39 (.int .i64 (gI jo2 (idx (gC (nbs b) k)))))))) (ArgVs.nil)) (ResV.agg [(.int .i64 ((cN ((gI jo2 (idx (gC (nbs b) k))).toNat)).x) : Value), .int .i64 ((cN ((gI jo2 (idx (gC (nbs b) k))).toNat)).y)]))) (AllSteps.cons (step_on (dj := 35) rfl rfl (acts_callV (d := 41) (f := 82) (t := 36) (caps := [1, 2, 3, 4]) (os := [(.o 1, some (.o ⟨56, 1, true, [(.val (.int .u64 ((s : Nat) : Int)) : A)]⟩)), (.o 2, some (.o ⟨56, 1, true, [(.val (.int .u64 (((addC seen2 (gC (nbs b) k)) : Nat) : Int)) : A)]⟩)), (.o 3, some (.o ⟨71, 1, true, pl (isl jo2)⟩)), (.o 4, some (.o ⟨60, 1, true, [(.fn 82 [1, 2, 3, 4] : A)]⟩))]) (os' := [(.o 1, some (.o ⟨56, 1, true, [(.val (.int .u64 ((s : Nat) : Int)) : A)]⟩)), (.o 2, some (.o ⟨56, 1, true, [(.val (.int .u64 (((find s n (addC seen2 (gC (nbs b) k)) jo2 (cN ((gI jo2 (idx (gC (nbs b) k))).toNat))).2.1 : Nat) : Int)) : A)]⟩)), (.o 3, some (.o ⟨71, 1, true, pl (isl ((find s n (addC seen2 (gC (nbs b) k)) jo2 (cN ((gI jo2 (idx (gC (nbs b) k))).toNat))).2.2))⟩)), (.o 4, some (.o ⟨60, 1, true, [(.fn 82 [1, 2, 3, 4] : A)]⟩))]) (r := V.v (.bool ((find s n (addC seen2 (gC (nbs b) k)) jo2 (cN ((gI jo2 (idx (gC (nbs b) k))).toNat))).1))) (bs := [.agg ([(.int .i64 ((cN ((gI jo2 (idx (gC (nbs b) k))).toNat)).x) : Value), .int .i64 ((cN ((gI jo2 (idx (gC (nbs b) k))).toNat)).y)].map A.val)]) (keep := [1, 2, 3, 4]) (new := []) (dead := []) (ltN rfl) ((ih s (addC seen2 (gC (nbs b) k)) jo2 (cN ((gI jo2 (idx (gC (nbs b) k))).toNat)) (by first | omega | assumption | exact addC_lt (by assumption) (by assumption) | exact hasS_ok (by assumption) | exact cN_ok (by omega) | (have := popc_add (s := seen2) (c := gC (nbs b) k) (by assumption) (sk4 (by assumption) (by assumption)); omega) | (have := (find_kept (s := s) n (addC seen2 (gC (nbs b) k)) jo2 (cN (gI jo2 (idx (gC (nbs b) k))).toNat) (by first | assumption | exact addC_lt (by assumption) (by assumption)) (by assumption) (cN_ok (by omega))).jo.1; omega)) (by first | omega | assumption | exact addC_lt (by assumption) (by assumption) | exact hasS_ok (by assumption) | exact cN_ok (by omega) | (have := popc_add (s := seen2) (c := gC (nbs b) k) (by assumption) (sk4 (by assumption) (by assumption)); omega) | (have := (find_kept (s := s) n (addC seen2 (gC (nbs b) k)) jo2 (cN (gI jo2 (idx (gC (nbs b) k))).toNat) (by first | assumption | exact addC_lt (by assumption) (by assumption)) (by assumption) (cN_ok (by omega))).jo.1; omega)) (by first | omega | assumption | exact addC_lt (by assumption) (by assumption) | exact hasS_ok (by assumption) | exact cN_ok (by omega) | (have := popc_add (s := seen2) (c := gC (nbs b) k) (by assumption) (sk4 (by assumption) (by assumption)); omega) | (have := (find_kept (s := s) n (addC seen2 (gC (nbs b) k)) jo2 (cN (gI jo2 (idx (gC (nbs b) k))).toNat) (by first | assumption | exact addC_lt (by assumption) (by assumption)) (by assumption) (cN_ok (by omega))).jo.1; omega)) (by first | omega | assumption | exact addC_lt (by assumption) (by assumption) | exact hasS_ok (by assumption) | exact cN_ok (by omega) | (have := popc_add (s := seen2) (c := gC (nbs b) k) (by assumption) (sk4 (by assumption) (by assumption)); omega) | (have := (find_kept (s := s) n (addC seen2 (gC (nbs b) k)) jo2 (cN (gI jo2 (idx (gC (nbs b) k))).toNat) (by first | assumption | exact addC_lt (by assumption) (by assumption)) (by assumption) (cN_ok (by omega))).jo.1; omega)) (by first | omega | assumption | exact addC_lt (by assumption) (by assumption) | exact hasS_ok (by assumption) | exact cN_ok (by omega) | (have := popc_add (s := seen2) (c := gC (nbs b) k) (by assumption) (sk4 (by assumption) (by assumption)); omega) | (have := (find_kept (s := s) n (addC seen2 (gC (nbs b) k)) jo2 (cN (gI jo2 (idx (gC (nbs b) k))).toNat) (by first | assumption | exact addC_lt (by assumption) (by assumption)) (by assumption) (cN_ok (by omega))).jo.1; omega)))) (by kernel_rfl) ⟨ocs (by kernel_rfl), ocs (by kernel_rfl), oc_pl (fun _ => rfl), ocs (by kernel_rfl), trivial⟩ (by kernel_rfl) (ArgOs.cons (ArgO.va (vs := [(.int .i64 ((cN ((gI jo2 (idx (gC (nbs b) k))).toNat)).x) : Value), .int .i64 ((cN ((gI jo2 (idx (gC (nbs b) k))).toNat)).y)]) (OpV.agg 40 [(.int .i64 ((cN ((gI jo2 (idx (gC (nbs b) k))).toNat)).x) : Value), .int .i64 ((cN ((gI jo2 (idx (gC (nbs b) k))).toNat)).y)])) (ArgOs.nil)))) (AllSteps.cons (step_plain rfl (acts_pick_f (d := 42) (ltN rfl) (OpV.tmp 35 (.bool false)) (OpX.tmp 41 (V.v (.bool ((find s n (addC seen2 (gC (nbs b) k)) jo2 (cN ((gI jo2 (idx (gC (nbs b) k))).toNat))).1)))))) (AllSteps.nil))))))))))))) (by kernel_rfl) (by kernel_rfl) (by kernel_rfl) ?_
            refine wp_if (t := 42) ((find s n (addC seen2 (gC (nbs b) k)) jo2 (cN ((gI jo2 (idx (gC (nbs b) k))).toNat))).1) (by kernel_rfl) (fun c6 => ?_) (fun c6 => ?_)
            · skip
              refine wp_seq' ?_
              refine wp_region_t ?_
              refine wpc (step_plain rfl (acts_move (d := 43) (ltN rfl) (OpX.tmp 9 (V.v (.int .i64 (((idx (gC (nbs b) k)) : Nat) : Int)))))) (by kernel_rfl) ?_
              refine wpc (step_plain rfl (acts_load_owns (d := 44) (t := 5) (h := 5) (off := 0) (o := ⟨49, 2, true, [(.val (.int .i64 b.x) : A), .val (.int .i64 b.y)]⟩)  (xs := [(.int .i64 b.x : Value), .int .i64 b.y].map A.val) (ltN rfl) qC6_ti_49 rfl (by decide) rfl)) (by kernel_rfl) ?_
              refine wpc (step_plain rfl (acts_call1 (d := 45) (ltN rfl) (impl_CellIndex_fn b (by first | omega | assumption | exact addC_lt (by assumption) (by assumption) | exact hasS_ok (by assumption) | exact cN_ok (by omega) | (have := popc_add (s := seen2) (c := gC (nbs b) k) (by assumption) (sk4 (by assumption) (by assumption)); omega) | (have := (find_kept (s := s) n (addC seen2 (gC (nbs b) k)) jo2 (cN (gI jo2 (idx (gC (nbs b) k))).toNat) (by first | assumption | exact addC_lt (by assumption) (by assumption)) (by assumption) (cN_ok (by omega))).jo.1; omega))) (ArgVs.cons (ArgV.va (vs := [(.int .i64 b.x : Value), .int .i64 b.y]) (OpV.agg 44 [(.int .i64 b.x : Value), .int .i64 b.y])) (ArgVs.nil)) (ResV.val _))) (by kernel_rfl) ?_
              refine wpc (step_plain rfl (acts_index_arr (d := 46) (x := 3) (h := 3) (off := 0) (k := (idx (gC (nbs b) k))) (off' := ((idx (gC (nbs b) k)) * 1)) (ltN rfl) qC6_un_71 qC6_sz_3 (OpV.tmp 43 (.int .i64 (((idx (gC (nbs b) k)) : Nat) : Int))) rfl (by first | omega | assumption | exact addC_lt (by assumption) (by assumption) | exact hasS_ok (by assumption) | exact cN_ok (by omega) | (have := popc_add (s := seen2) (c := gC (nbs b) k) (by assumption) (sk4 (by assumption) (by assumption)); omega) | (have := (find_kept (s := s) n (addC seen2 (gC (nbs b) k)) jo2 (cN (gI jo2 (idx (gC (nbs b) k))).toNat) (by first | assumption | exact addC_lt (by assumption) (by assumption)) (by assumption) (cN_ok (by omega))).jo.1; omega)) (by simp))) (by kernel_rfl) ?_
              refine wpc (step_plain rfl (acts_store (t := 46) (h := 3) (off := ((idx (gC (nbs b) k)) * 1)) (o := ⟨71, 1, true, pl (isl ((find s n (addC seen2 (gC (nbs b) k)) jo2 (cN ((gI jo2 (idx (gC (nbs b) k))).toNat))).2.2))⟩) (b := .a (.val (.int .i64 (((idx b) : Nat) : Int)))) (cells := pl (isl (((find s n (addC seen2 (gC (nbs b) k)) jo2 (cN ((gI jo2 (idx (gC (nbs b) k))).toNat))).2.2).set (idx (gC (nbs b) k)) (((idx b) : Nat) : Int)))) qC6_ti_3 (OpX.tmp 45 (V.v (.int .i64 (((idx b) : Nat) : Int)))) rfl (by decide) (by intro y hy; simp [B.cs] at hy; subst hy; rfl) (by simp only [pl_len, isl_len]; first | omega | assumption | exact addC_lt (by assumption) (by assumption) | exact hasS_ok (by assumption) | exact cN_ok (by omega) | (have := popc_add (s := seen2) (c := gC (nbs b) k) (by assumption) (sk4 (by assumption) (by assumption)); omega) | (have := (find_kept (s := s) n (addC seen2 (gC (nbs b) k)) jo2 (cN (gI jo2 (idx (gC (nbs b) k))).toNat) (by first | assumption | exact addC_lt (by assumption) (by assumption)) (by assumption) (cN_ok (by omega))).jo.1; omega)) (isl_put (k := (idx (gC (nbs b) k))) (by first | omega | assumption | exact addC_lt (by assumption) (by assumption) | exact hasS_ok (by assumption) | exact cN_ok (by omega) | (have := popc_add (s := seen2) (c := gC (nbs b) k) (by assumption) (sk4 (by assumption) (by assumption)); omega) | (have := (find_kept (s := s) n (addC seen2 (gC (nbs b) k)) jo2 (cN (gI jo2 (idx (gC (nbs b) k))).toNat) (by first | assumption | exact addC_lt (by assumption) (by assumption)) (by assumption) (cN_ok (by omega))).jo.1; omega))))) (by kernel_rfl) ?_
              refine wpl_nil ?_
              refine wp_seq' ?_
              refine wp_region_t ?_
              refine wpc (step_plain rfl (acts_assign (d := 6) (ltN rfl) (OpX.const (.bool true)))) (by kernel_rfl) ?_
              refine wpl_nil ?_
              refine wp_ret' ?_
              exact ⟨_, weak_id, ⟨by kernel_rfl, obj_eq (c := [(.val (.int .u64 (((find s n (addC seen2 (gC (nbs b) k)) jo2 (cN ((gI jo2 (idx (gC (nbs b) k))).toNat))).2.1 : Nat) : Int)) : A)]) (by kernel_rfl) (congrArg (fun z : Nat => [(A.val (.int .u64 (z : Int)) : A)]) (by first | rfl | (rw [← hfin]; first | rw [findL_end (by omega)] | rw [findL_free (by omega) (sk3 (by assumption) (by assumption)) (by omega)] | rw [findL_yes (by omega) (sk3 (by assumption) (by assumption)) (by omega) (by assumption)]); (try simp_all))), obj_eq (c := pl (isl (((find s n (addC seen2 (gC (nbs b) k)) jo2 (cN ((gI jo2 (idx (gC (nbs b) k))).toNat))).2.2).set (idx (gC (nbs b) k)) (((idx b) : Nat) : Int)))) (by kernel_rfl) (congrArg (fun z => pl (isl z)) (by first | rfl | (rw [← hfin]; first | rw [findL_end (by omega)] | rw [findL_free (by omega) (sk3 (by assumption) (by assumption)) (by omega)] | rw [findL_yes (by omega) (sk3 (by assumption) (by assumption)) (by omega) (by assumption)]); (try simp_all))), by kernel_rfl, trivial⟩, vo_eq 6 (.a (.val (.bool true))) (.a (.val (.bool ((find s (n + 1) seen jo b).1)))) (by kernel_rfl) (congrArg (fun z : Bool => B.a (.val (.bool z))) (by first | rfl | (rw [← hfin]; first | rw [findL_end (by omega)] | rw [findL_free (by omega) (sk3 (by assumption) (by assumption)) (by omega)] | rw [findL_yes (by omega) (sk3 (by assumption) (by assumption)) (by omega) (by assumption)]); (try simp_all)))⟩
            · skip
              refine wp_skip' ?_
              refine wp_region_t ?_
              refine wpc (step_plain rfl (acts_bin (d := 47) (ltN rfl) (OpV.tmp 13 (.int .i64 ((k : Nat) : Int))) (OpV.const (.int .i64 1)) (r_add (c := (((k : Nat) : Int) + 1)) (w64 (by first | omega | assumption | exact addC_lt (by assumption) (by assumption) | exact hasS_ok (by assumption) | exact cN_ok (by omega) | (have := popc_add (s := seen2) (c := gC (nbs b) k) (by assumption) (sk4 (by assumption) (by assumption)); omega) | (have := (find_kept (s := s) n (addC seen2 (gC (nbs b) k)) jo2 (cN (gI jo2 (idx (gC (nbs b) k))).toNat) (by first | assumption | exact addC_lt (by assumption) (by assumption)) (by assumption) (cN_ok (by omega))).jo.1; omega)) (by first | omega | assumption | exact addC_lt (by assumption) (by assumption) | exact hasS_ok (by assumption) | exact cN_ok (by omega) | (have := popc_add (s := seen2) (c := gC (nbs b) k) (by assumption) (sk4 (by assumption) (by assumption)); omega) | (have := (find_kept (s := s) n (addC seen2 (gC (nbs b) k)) jo2 (cN (gI jo2 (idx (gC (nbs b) k))).toNat) (by first | assumption | exact addC_lt (by assumption) (by assumption)) (by assumption) (cN_ok (by omega))).jo.1; omega)))))) (by kernel_rfl) ?_
              refine wpc (step_plain rfl (acts_move (d := 13) (ltN rfl) (OpX.tmp 47 (V.v (.int .i64 (((k : Nat) : Int) + 1)))))) (by kernel_rfl) ?_
              refine wpl_nil ?_
              exact loop_back ((k + 1), (find s n (addC seen2 (gC (nbs b) k)) jo2 (cN (gI jo2 (idx (gC (nbs b) k))).toNat)).2.1, (find s n (addC seen2 (gC (nbs b) k)) jo2 (cN (gI jo2 (idx (gC (nbs b) k))).toNat)).2.2) (by first | (refine ⟨by omega, by assumption, by assumption, by assumption, ?_⟩; rw [← hfin]; refine (findL_skip (by omega) ?_).symm; first | exact sk1 (by assumption) | exact sk2 (by assumption)) | (have hkp := find_kept (s := s) n (addC seen2 (gC (nbs b) k)) jo2 (cN (gI jo2 (idx (gC (nbs b) k))).toNat) (addC_lt (by assumption) (by assumption)) (by assumption) (cN_ok (by omega)); have hpa := popc_add (s := seen2) (c := gC (nbs b) k) (by assumption) (sk4 (by assumption) (by assumption)); refine ⟨by omega, hkp.lt, hkp.jo, by have := hkp.pc; omega, ?_⟩; rw [← hfin]; exact (findL_no (by omega) (sk3 (by assumption) (by assumption)) (by omega) (by assumption)).symm)) (by show (nbs b).length - (k + 1) < (nbs b).length - k; omega) (weak_of id [8, 12, 19, 24, 28, 30, 40, 41, 45] (by kernel_rfl) (wk_s (v' := V.p 1 0) (by kernel_rfl) rfl rfl (wk_s (v' := V.p 2 0) (by kernel_rfl) rfl rfl (wk_s (v' := V.p 3 0) (by kernel_rfl) rfl rfl (wk_s (v' := V.p 4 0) (by kernel_rfl) rfl rfl (wk_s (v' := V.p 5 0) (by kernel_rfl) rfl rfl (wk_s (v' := V.b (.a (.sl 11 0 ((nbs b).length)))) (by kernel_rfl) rfl rfl (wk_s (v' := V.v (.int .i64 (((nbs b).length : Nat) : Int))) (by kernel_rfl) rfl rfl (wk_s (v' := V.v (.int .i64 (((k : Nat) : Int) + 1))) (by kernel_rfl) (vint (by first | rfl | omega | (simp; done) | (simp; omega))) rfl (wk_o (o' := ⟨56, 1, true, [(.val (.int .u64 ((s : Nat) : Int)) : A)]⟩) (by kernel_rfl) (renob_l (fun h => h) rfl rfl) rfl (wk_o (o' := ⟨56, 1, true, [(.val (.int .u64 (((find s n (addC seen2 (gC (nbs b) k)) jo2 (cN ((gI jo2 (idx (gC (nbs b) k))).toNat))).2.1 : Nat) : Int)) : A)]⟩) (by kernel_rfl) (renob_l (fun h => h) (by first | rfl | omega | (simp; done) | (simp; omega)) rfl) rfl (wk_o (o' := ⟨71, 1, true, pl (isl ((find s n (addC seen2 (gC (nbs b) k)) jo2 (cN ((gI jo2 (idx (gC (nbs b) k))).toNat))).2.2))⟩) (by kernel_rfl) (renob_eq (fun h => h) (congrArg isl (by first | rfl | omega | (simp; done) | (simp; omega)))) rfl (wk_o (o' := ⟨60, 1, true, [(.fn 82 [1, 2, 3, 4] : A)]⟩) (by kernel_rfl) (renob_l (fun h => h) rfl rfl) rfl (wk_o (o' := ⟨49, 2, true, [(.val (.int .i64 b.x) : A), .val (.int .i64 b.y)]⟩) (by kernel_rfl) (renob_l (fun h => h) rfl rfl) rfl (wk_o (o' := ⟨49, 2, true, pl (csl (nbs b))⟩) (by kernel_rfl) (renob_pl (fun h => h)) rfl (wk_f rfl (wk_f rfl (wk_f rfl (wk_f rfl (wk_f rfl (wk_f rfl (wk_f rfl (wk_f rfl (wk_f rfl (wk_nil)))))))))))))))))))))))))
      · skip
        refine wp_region_t ?_
        refine wpc (step_plain rfl (acts_load_own (d := 17) (t := 1) (h := 1) (off := 0) (o := ⟨56, 1, true, [(.val (.int .u64 ((s : Nat) : Int)) : A)]⟩)  (x := .val (.int .u64 ((s : Nat) : Int))) (ltN rfl) qC6_ti_56 rfl)) (by kernel_rfl) ?_
        refine wpc (step_plain rfl (acts_load_owns (d := 18) (t := 8) (h := 8) (off := 0) (o := ⟨49, 2, true, [(.val (.int .i64 ((gC (nbs b) k).x)) : A), .val (.int .i64 ((gC (nbs b) k).y))]⟩)  (xs := [(.int .i64 ((gC (nbs b) k).x) : Value), .int .i64 ((gC (nbs b) k).y)].map A.val) (ltN rfl) qC6_ti_49 rfl (by decide) rfl)) (by kernel_rfl) ?_
        refine wpc (step_plain rfl (acts_call1 (d := 19) (ltN rfl) (impl_set__has_fn s (gC (nbs b) k) (by first | omega | assumption | exact addC_lt (by assumption) (by assumption) | exact hasS_ok (by assumption) | exact cN_ok (by omega) | (have := popc_add (s := seen2) (c := gC (nbs b) k) (by assumption) (sk4 (by assumption) (by assumption)); omega) | (have := (find_kept (s := s) n (addC seen2 (gC (nbs b) k)) jo2 (cN (gI jo2 (idx (gC (nbs b) k))).toNat) (by first | assumption | exact addC_lt (by assumption) (by assumption)) (by assumption) (cN_ok (by omega))).jo.1; omega))) (ArgVs.cons (ArgV.v (OpV.tmp 17 (.int .u64 ((s : Nat) : Int)))) (ArgVs.cons (ArgV.va (vs := [(.int .i64 ((gC (nbs b) k).x) : Value), .int .i64 ((gC (nbs b) k).y)]) (OpV.agg 18 [(.int .i64 ((gC (nbs b) k).x) : Value), .int .i64 ((gC (nbs b) k).y)])) (ArgVs.nil))) ((resval (congrArg Value.bool c3))))) (by kernel_rfl) ?_
        refine wpc (step_plain rfl (acts_un (d := 20) (ltN rfl) (OpV.tmp 19 (.bool false)) (r_not (c := true) rfl))) (by kernel_rfl) ?_
        refine wpc (step_plain rfl (acts_move (d := 21) (ltN rfl) (OpX.tmp 20 (V.v (.bool true))))) (by kernel_rfl) ?_
        refine wpc (step_off (dj := 21) (b' := true) rfl rfl (by decide) rfl (ltN rfl)) (by kernel_rfl) ?_
        refine wpc (step_off (dj := 21) (b' := true) rfl rfl (by decide) rfl (ltN rfl)) (by kernel_rfl) ?_
        refine wpc (step_off (dj := 21) (b' := true) rfl rfl (by decide) rfl (ltN rfl)) (by kernel_rfl) ?_
        refine wpc (step_plain rfl (acts_pick_t (d := 25) (ltN rfl) (OpV.tmp 21 (.bool true)) (OpX.const (.bool true)))) (by kernel_rfl) ?_
        refine wpl_nil ?_
        refine wp_if_t (t := 25) (by kernel_rfl) ?_
        refine wp_exit' ?_
        refine wp_region_t ?_
        refine wpc (step_plain rfl (acts_bin (d := 47) (ltN rfl) (OpV.tmp 13 (.int .i64 ((k : Nat) : Int))) (OpV.const (.int .i64 1)) (r_add (c := (((k : Nat) : Int) + 1)) (w64 (by first | omega | assumption | exact addC_lt (by assumption) (by assumption) | exact hasS_ok (by assumption) | exact cN_ok (by omega) | (have := popc_add (s := seen2) (c := gC (nbs b) k) (by assumption) (sk4 (by assumption) (by assumption)); omega) | (have := (find_kept (s := s) n (addC seen2 (gC (nbs b) k)) jo2 (cN (gI jo2 (idx (gC (nbs b) k))).toNat) (by first | assumption | exact addC_lt (by assumption) (by assumption)) (by assumption) (cN_ok (by omega))).jo.1; omega)) (by first | omega | assumption | exact addC_lt (by assumption) (by assumption) | exact hasS_ok (by assumption) | exact cN_ok (by omega) | (have := popc_add (s := seen2) (c := gC (nbs b) k) (by assumption) (sk4 (by assumption) (by assumption)); omega) | (have := (find_kept (s := s) n (addC seen2 (gC (nbs b) k)) jo2 (cN (gI jo2 (idx (gC (nbs b) k))).toNat) (by first | assumption | exact addC_lt (by assumption) (by assumption)) (by assumption) (cN_ok (by omega))).jo.1; omega)))))) (by kernel_rfl) ?_
        refine wpc (step_plain rfl (acts_move (d := 13) (ltN rfl) (OpX.tmp 47 (V.v (.int .i64 (((k : Nat) : Int) + 1)))))) (by kernel_rfl) ?_
        refine wpl_nil ?_
        exact loop_back ((k + 1), seen2, jo2) (by first | (refine ⟨by omega, by assumption, by assumption, by assumption, ?_⟩; rw [← hfin]; refine (findL_skip (by omega) ?_).symm; first | exact sk1 (by assumption) | exact sk2 (by assumption)) | (have hkp := find_kept (s := s) n (addC seen2 (gC (nbs b) k)) jo2 (cN (gI jo2 (idx (gC (nbs b) k))).toNat) (addC_lt (by assumption) (by assumption)) (by assumption) (cN_ok (by omega)); have hpa := popc_add (s := seen2) (c := gC (nbs b) k) (by assumption) (sk4 (by assumption) (by assumption)); refine ⟨by omega, hkp.lt, hkp.jo, by have := hkp.pc; omega, ?_⟩; rw [← hfin]; exact (findL_no (by omega) (sk3 (by assumption) (by assumption)) (by omega) (by assumption)).symm)) (by show (nbs b).length - (k + 1) < (nbs b).length - k; omega) (weak_of id [8, 12, 19, 24, 28, 30, 40, 41, 45] (by kernel_rfl) (wk_s (v' := V.p 1 0) (by kernel_rfl) rfl rfl (wk_s (v' := V.p 2 0) (by kernel_rfl) rfl rfl (wk_s (v' := V.p 3 0) (by kernel_rfl) rfl rfl (wk_s (v' := V.p 4 0) (by kernel_rfl) rfl rfl (wk_s (v' := V.p 5 0) (by kernel_rfl) rfl rfl (wk_s (v' := V.b (.a (.sl 11 0 ((nbs b).length)))) (by kernel_rfl) rfl rfl (wk_s (v' := V.v (.int .i64 (((nbs b).length : Nat) : Int))) (by kernel_rfl) rfl rfl (wk_s (v' := V.v (.int .i64 (((k : Nat) : Int) + 1))) (by kernel_rfl) (vint (by first | rfl | omega | (simp; done) | (simp; omega))) rfl (wk_o (o' := ⟨56, 1, true, [(.val (.int .u64 ((s : Nat) : Int)) : A)]⟩) (by kernel_rfl) (renob_l (fun h => h) rfl rfl) rfl (wk_o (o' := ⟨56, 1, true, [(.val (.int .u64 ((seen2 : Nat) : Int)) : A)]⟩) (by kernel_rfl) (renob_l (fun h => h) rfl rfl) rfl (wk_o (o' := ⟨71, 1, true, pl (isl jo2)⟩) (by kernel_rfl) (renob_pl (fun h => h)) rfl (wk_o (o' := ⟨60, 1, true, [(.fn 82 [1, 2, 3, 4] : A)]⟩) (by kernel_rfl) (renob_l (fun h => h) rfl rfl) rfl (wk_o (o' := ⟨49, 2, true, [(.val (.int .i64 b.x) : A), .val (.int .i64 b.y)]⟩) (by kernel_rfl) (renob_l (fun h => h) rfl rfl) rfl (wk_o (o' := ⟨49, 2, true, pl (csl (nbs b))⟩) (by kernel_rfl) (renob_pl (fun h => h)) rfl (wk_f rfl (wk_f rfl (wk_f rfl (wk_f rfl (wk_f rfl (wk_f rfl (wk_f rfl (wk_f rfl (wk_f rfl (wk_nil)))))))))))))))))))))))))
    · skip
      have c2P := of_decide_eq_false c2
      refine wp_exit' ?_
      refine wp_seq' ?_
      refine wp_region_t ?_
      refine wpc (step_plain rfl (acts_assign (d := 6) (ltN rfl) (OpX.const (.bool false)))) (by kernel_rfl) ?_
      refine wpl_nil ?_
      refine wp_ret' ?_
      exact ⟨_, weak_id, ⟨by kernel_rfl, obj_eq (c := [(.val (.int .u64 ((seen2 : Nat) : Int)) : A)]) (by kernel_rfl) (congrArg (fun z : Nat => [(A.val (.int .u64 (z : Int)) : A)]) (by first | rfl | (rw [← hfin]; first | rw [findL_end (by omega)] | rw [findL_free (by omega) (sk3 (by assumption) (by assumption)) (by omega)] | rw [findL_yes (by omega) (sk3 (by assumption) (by assumption)) (by omega) (by assumption)]); (try simp_all))), obj_eq (c := pl (isl jo2)) (by kernel_rfl) (congrArg (fun z => pl (isl z)) (by first | rfl | (rw [← hfin]; first | rw [findL_end (by omega)] | rw [findL_free (by omega) (sk3 (by assumption) (by assumption)) (by omega)] | rw [findL_yes (by omega) (sk3 (by assumption) (by assumption)) (by omega) (by assumption)]); (try simp_all))), by kernel_rfl, trivial⟩, vo_eq 6 (.a (.val (.bool false))) (.a (.val (.bool ((find s (n + 1) seen jo b).1)))) (by kernel_rfl) (congrArg (fun z : Bool => B.a (.val (.bool z))) (by first | rfl | (rw [← hfin]; first | rw [findL_end (by omega)] | rw [findL_free (by omega) (sk3 (by assumption) (by assumption)) (by omega)] | rw [findL_yes (by omega) (sk3 (by assumption) (by assumption)) (by omega) (by assumption)]); (try simp_all)))⟩

set_option maxHeartbeats 4000000 in
set_option maxRecDepth 100000 in
theorem impl_set__matching_fn (s : Nat) (hs : s < 18446744073709551616) : Fn Try.prog 55 [.a (.val (.int .u64 ((s : Nat) : Int)))] [.val (.agg (isl (joined s)).toArray)] := by
  refine fn_intro (N := 32) Try.func55 rfl (by kernel_rfl) rfl (Nat.le_of_ble_eq_true rfl) [1, 2, 3, 6, 7, 8, 17, 18, 24, 29] (ret1 rfl) (fun W => ?_)
  show Wp _ _ _ [(.s 0, some (.s (V.v (.int .u64 ((s : Nat) : Int))))), (.o 1, some .free), (.o 2, some .free), (.o 3, some .free), (.o 6, some .free), (.o 7, some .free), (.o 8, some .free), (.o 17, some .free), (.o 18, some .free), (.o 24, some .free), (.o 29, some .free)]
  refine wp_seq' ?_
  refine wp_region_t ?_
  refine wpc (step_plain rfl (acts_box (d := 1) (h := 1) (b := .a (.val (.int .u64 ((s : Nat) : Int)))) (ltN rfl) (OpX.tmp 0 (V.v (.int .u64 ((s : Nat) : Int)))) (by intro y hy; simp [B.cs] at hy; subst hy; rfl))) (by kernel_rfl) ?_
  refine wpc (step_plain rfl (acts_alloc' (d := 2) (h := 2) (cap := 64) (s := 1) (cells := pl (isl (List.replicate 64 0))) (ltN rfl) qC6_zi_71 rfl (by first | (simp [pl, isl]; done) | (simp [pl, isl_len, *]; done) | (simp [pl_len, isl_len, *]; done) | (simp [pl]; exact List.take_of_length_le (by simp [isl_len, *]))) (by decide))) (by kernel_rfl) ?_
  refine wpl_nil ?_
  refine wp_seq' ?_
  refine wp_region_t ?_
  refine wpc (step_plain rfl (acts_build (d := 9) (t := 71) (cells := isl (List.replicate 64 0)) (ltN rfl) OpVs.nil (by kernel_rfl))) (by kernel_rfl) ?_
  refine wpc (step_plain rfl (acts_alloc' (d := 3) (h := 3) (cap := 64) (s := 1) (cells := pl (isl (List.replicate 64 0))) (ltN rfl) qC6_zi_71 rfl (by first | (simp [pl, isl]; done) | (simp [pl, isl_len, *]; done) | (simp [pl_len, isl_len, *]; done) | (simp [pl]; exact List.take_of_length_le (by simp [isl_len, *]))) (by decide))) (by kernel_rfl) ?_
  refine wpc (step_plain rfl (acts_store (t := 3) (h := 3) (off := 0) (o := ⟨71, 1, true, pl (isl (List.replicate 64 0))⟩) (b := .agg ((isl (List.replicate 64 0)).map A.val)) (cells := pl (isl (List.replicate 64 0))) qC6_ti_71 (OpX.tmp 9 (V.av (isl (List.replicate 64 0)))) (by first | (simp [B.cs, isl]; done) | (simp [B.cs, isl, *]; done)) (by decide) (by simpa [B.cs, pl] using pl_one (isl_one' _)) (by first | (simp [pl, isl]; done) | (simp [pl, isl_len, *]; done) | (simp [pl_len, isl_len, *]; done) | (simp [pl]; exact List.take_of_length_le (by simp [isl_len, *]))) (by simp [pl, B.cs, isl]))) (by kernel_rfl) ?_
  refine wpl_nil ?_
  refine wp_seq' ?_
  refine wp_seq' ?_
  refine wp_region_t ?_
  refine wpc (step_plain rfl (acts_move (d := 10) (ltN rfl) (OpX.const (.int .i64 0)))) (by kernel_rfl) ?_
  refine wpl_nil ?_
  refine wp_block' ?_
  refine wp_loop' (fun (k : Nat) => k ≤ 64) (fun (k : Nat) => [(.s 1, some (.s (V.p 1 0))), (.s 2, some (.s (V.p 2 0))), (.s 3, some (.s (V.p 3 0))), (.s 10, some (.s (V.v (.int .i64 ((k : Nat) : Int))))), (.o 1, some (.o ⟨56, 1, true, [(.val (.int .u64 ((s : Nat) : Int)) : A)]⟩)), (.o 2, some (.o ⟨71, 1, true, pl (isl (List.replicate 64 0))⟩)), (.o 3, some (.o ⟨71, 1, true, pl (isl (List.replicate k (-1) ++ List.replicate (64 - k) 0))⟩)), (.o 6, some .free), (.o 7, some .free), (.o 8, some .free), (.o 17, some .free), (.o 18, some .free), (.o 24, some .free), (.o 29, some .free)]) (fun (k : Nat) => 64 - k) ((0 : Nat)) (by exact (Nat.zero_le _ : 0 ≤ _)) (weak_of id [6, 7, 8, 17, 18, 24, 29] (by kernel_rfl) (wk_s (v' := V.p 1 0) (by kernel_rfl) rfl rfl (wk_s (v' := V.p 2 0) (by kernel_rfl) rfl rfl (wk_s (v' := V.p 3 0) (by kernel_rfl) rfl rfl (wk_s (v' := V.v (.int .i64 0)) (by kernel_rfl) (vint (by first | rfl | exact rep_set (by omega) | exact (rep_set (by omega)).symm | omega)) rfl (wk_o (o' := ⟨56, 1, true, [(.val (.int .u64 ((s : Nat) : Int)) : A)]⟩) (by kernel_rfl) (renob_l (fun h => h) rfl rfl) rfl (wk_o (o' := ⟨71, 1, true, pl (isl (List.replicate 64 0))⟩) (by kernel_rfl) (renob_pl (fun h => h)) rfl (wk_o (o' := ⟨71, 1, true, pl (isl (List.replicate 64 0))⟩) (by kernel_rfl) (renob_eq (fun h => h) (congrArg isl (by first | rfl | exact rep_set (by omega) | exact (rep_set (by omega)).symm | omega))) rfl (wk_f rfl (wk_f rfl (wk_f rfl (wk_f rfl (wk_f rfl (wk_f rfl (wk_f rfl (wk_nil)))))))))))))))) ?_
  rintro k inv1
  replace inv1 : k ≤ 64 := inv1
  have inv := inv1
  show Wp _ _ _ [(.s 1, some (.s (V.p 1 0))), (.s 2, some (.s (V.p 2 0))), (.s 3, some (.s (V.p 3 0))), (.s 10, some (.s (V.v (.int .i64 ((k : Nat) : Int))))), (.o 1, some (.o ⟨56, 1, true, [(.val (.int .u64 ((s : Nat) : Int)) : A)]⟩)), (.o 2, some (.o ⟨71, 1, true, pl (isl (List.replicate 64 0))⟩)), (.o 3, some (.o ⟨71, 1, true, pl (isl (List.replicate k (-1) ++ List.replicate (64 - k) 0))⟩)), (.o 6, some .free), (.o 7, some .free), (.o 8, some .free), (.o 17, some .free), (.o 18, some .free), (.o 24, some .free), (.o 29, some .free)]
  have hrl := rep_len inv
  refine wp_seq' ?_
  refine wp_region_t ?_
  refine wpc (step_plain rfl (acts_bin (d := 11) (ltN rfl) (OpV.tmp 10 (.int .i64 ((k : Nat) : Int))) (OpV.const (.int .i64 64)) (r_lss (c := (decide (((k : Nat) : Int) < 64))) rfl))) (by kernel_rfl) ?_
  refine wpl_nil ?_
  refine wp_seq' ?_
  refine wp_if (t := 11) (decide (((k : Nat) : Int) < 64)) (by kernel_rfl) (fun c2 => ?_) (fun c2 => ?_)
  · skip
    have c2P := of_decide_eq_true c2
    refine wp_skip' ?_
    refine wp_seq' ?_
    refine wp_block' ?_
    refine wp_seq' ?_
    refine wp_region_t ?_
    refine wpc (step_plain rfl (acts_move (d := 12) (ltN rfl) (OpX.tmp 10 (V.v (.int .i64 ((k : Nat) : Int)))))) (by kernel_rfl) ?_
    refine wpc (step_plain rfl (acts_assign (d := 4) (ltN rfl) (OpX.tmp 12 (V.v (.int .i64 ((k : Nat) : Int)))))) (by kernel_rfl) ?_
    refine wpl_nil ?_
    refine wp_region_t ?_
    refine wpc (step_plain rfl (acts_move (d := 13) (ltN rfl) (OpX.tmp 4 (V.v (.int .i64 ((k : Nat) : Int)))))) (by kernel_rfl) ?_
    refine wpc (step_plain rfl (acts_index_arr (d := 14) (x := 3) (h := 3) (off := 0) (k := k) (off' := (k * 1)) (ltN rfl) qC6_un_71 qC6_sz_3 (OpV.tmp 13 (.int .i64 ((k : Nat) : Int))) rfl (by first | omega | assumption | exact set_in (by omega) | decide) (by simp))) (by kernel_rfl) ?_
    refine wpc (step_plain rfl (acts_store (t := 14) (h := 3) (off := (k * 1)) (o := ⟨71, 1, true, pl (isl (List.replicate k (-1) ++ List.replicate (64 - k) 0))⟩) (b := .a (.val (.int .i64 (-1)))) (cells := pl (isl ((List.replicate k (-1) ++ List.replicate (64 - k) 0).set k (-1)))) qC6_ti_3 (OpX.const (.int .i64 (-1))) rfl (by decide) (by intro y hy; simp [B.cs] at hy; subst hy; rfl) (by simp only [pl_len, isl_len]; first | omega | assumption | exact set_in (by omega) | decide) (isl_put (k := k) (by first | omega | assumption | exact set_in (by omega) | decide)))) (by kernel_rfl) ?_
    refine wpl_nil ?_
    refine wp_region_t ?_
    refine wpc (step_plain rfl (acts_bin (d := 15) (ltN rfl) (OpV.tmp 10 (.int .i64 ((k : Nat) : Int))) (OpV.const (.int .i64 1)) (r_add (c := (((k : Nat) : Int) + 1)) (w64 (by first | omega | assumption | exact set_in (by omega) | decide) (by first | omega | assumption | exact set_in (by omega) | decide))))) (by kernel_rfl) ?_
    refine wpc (step_plain rfl (acts_move (d := 10) (ltN rfl) (OpX.tmp 15 (V.v (.int .i64 (((k : Nat) : Int) + 1)))))) (by kernel_rfl) ?_
    refine wpl_nil ?_
    exact loop_back ((k + 1)) (by show _ ≤ _; omega) (by show 64 - (k + 1) < 64 - k; omega) (weak_of id [6, 7, 8, 17, 18, 24, 29] (by kernel_rfl) (wk_s (v' := V.p 1 0) (by kernel_rfl) rfl rfl (wk_s (v' := V.p 2 0) (by kernel_rfl) rfl rfl (wk_s (v' := V.p 3 0) (by kernel_rfl) rfl rfl (wk_s (v' := V.v (.int .i64 (((k : Nat) : Int) + 1))) (by kernel_rfl) (vint (by first | rfl | exact rep_set (by omega) | exact (rep_set (by omega)).symm | omega)) rfl (wk_o (o' := ⟨56, 1, true, [(.val (.int .u64 ((s : Nat) : Int)) : A)]⟩) (by kernel_rfl) (renob_l (fun h => h) rfl rfl) rfl (wk_o (o' := ⟨71, 1, true, pl (isl (List.replicate 64 0))⟩) (by kernel_rfl) (renob_pl (fun h => h)) rfl (wk_o (o' := ⟨71, 1, true, pl (isl ((List.replicate k (-1) ++ List.replicate (64 - k) 0).set k (-1)))⟩) (by kernel_rfl) (renob_eq (fun h => h) (congrArg isl (by first | rfl | exact rep_set (by omega) | exact (rep_set (by omega)).symm | omega))) rfl (wk_f rfl (wk_f rfl (wk_f rfl (wk_f rfl (wk_f rfl (wk_f rfl (wk_f rfl (wk_nil))))))))))))))))
  · skip
    have c2P := of_decide_eq_false c2
    refine wp_exit' ?_
    refine wp_seq' ?_
    refine wp_seq' ?_
    refine wp_region_t ?_
    refine wpc (step_plain rfl (acts_load_own (d := 16) (t := 1) (h := 1) (off := 0) (o := ⟨56, 1, true, [(.val (.int .u64 ((s : Nat) : Int)) : A)]⟩)  (x := .val (.int .u64 ((s : Nat) : Int))) (ltN rfl) qC6_ti_56 rfl)) (by kernel_rfl) ?_
    refine wpc (step_plain rfl (acts_call1 (d := 17) (ltN rfl) (impl_set__cells_fn s (by first | omega | assumption | exact set_in (by omega) | decide)) (ArgVs.cons (ArgV.v (OpV.tmp 16 (.int .u64 ((s : Nat) : Int)))) (ArgVs.nil)) (ResV.row 49 2 ((setCells s).length) (csl (setCells s)) 17))) (by kernel_rfl) ?_
    refine wpc (step_plain rfl (acts_len (d := 18) (X := .sl 17 0 ((setCells s).length)) (n := ((setCells s).length)) (iv := (((setCells s).length : Nat) : Int)) (ltN rfl) qC6_un_41 (OpX.tmp 17 (V.b (.a (.sl 17 0 ((setCells s).length))))) (LenOf.sl _ _ _) rfl)) (by kernel_rfl) ?_
    refine wpc (step_plain rfl (acts_move (d := 19) (ltN rfl) (OpX.const (.int .i64 0)))) (by kernel_rfl) ?_
    refine wpl_nil ?_
    refine wp_block' ?_
    refine wp_loop' (fun (k : Nat) => k ≤ (setCells s).length) (fun (k : Nat) => [(.s 1, some (.s (V.p 1 0))), (.s 2, some (.s (V.p 2 0))), (.s 3, some (.s (V.p 3 0))), (.s 17, some (.s (V.b (.a (.sl 17 0 ((setCells s).length)))))), (.s 18, some (.s (V.v (.int .i64 (((setCells s).length : Nat) : Int))))), (.s 19, some (.s (V.v (.int .i64 ((k : Nat) : Int))))), (.o 1, some (.o ⟨56, 1, true, [(.val (.int .u64 ((s : Nat) : Int)) : A)]⟩)), (.o 2, some (.o ⟨71, 1, true, pl (isl (List.replicate 64 0))⟩)), (.o 3, some (.o ⟨71, 1, true, pl (isl (((setCells s).take k).foldl (joStep s) jo0))⟩)), (.o 17, some (.o ⟨49, 2, true, pl (csl (setCells s))⟩)), (.o 6, some .free), (.o 7, some .free), (.o 8, some .free), (.o 18, some .free), (.o 24, some .free), (.o 29, some .free)]) (fun (k : Nat) => (setCells s).length - k) ((0 : Nat)) (by exact (Nat.zero_le _ : 0 ≤ _)) (weak_of id [6, 7, 8, 18, 24, 29] (by kernel_rfl) (wk_s (v' := V.p 1 0) (by kernel_rfl) rfl rfl (wk_s (v' := V.p 2 0) (by kernel_rfl) rfl rfl (wk_s (v' := V.p 3 0) (by kernel_rfl) rfl rfl (wk_s (v' := V.b (.a (.sl 17 0 ((setCells s).length)))) (by kernel_rfl) rfl rfl (wk_s (v' := V.v (.int .i64 (((setCells s).length : Nat) : Int))) (by kernel_rfl) rfl rfl (wk_s (v' := V.v (.int .i64 0)) (by kernel_rfl) (vint (by first | rfl | exact rep_end (by omega) (by assumption) | exact (rep_end (by omega) (by assumption)).symm | (rw [foldl_snocJ _ _ (by omega), joStep, if_pos (by assumption)]; done) | (rw [foldl_snocJ _ _ (by omega), joStep, if_neg (by simp_all)]; done) | omega)) rfl (wk_o (o' := ⟨56, 1, true, [(.val (.int .u64 ((s : Nat) : Int)) : A)]⟩) (by kernel_rfl) (renob_l (fun h => h) rfl rfl) rfl (wk_o (o' := ⟨71, 1, true, pl (isl (List.replicate 64 0))⟩) (by kernel_rfl) (renob_pl (fun h => h)) rfl (wk_o (o' := ⟨71, 1, true, pl (isl (List.replicate k (-1) ++ List.replicate (64 - k) 0))⟩) (by kernel_rfl) (renob_eq (fun h => h) (congrArg isl (by first | rfl | exact rep_end (by omega) (by assumption) | exact (rep_end (by omega) (by assumption)).symm | (rw [foldl_snocJ _ _ (by omega), joStep, if_pos (by assumption)]; done) | (rw [foldl_snocJ _ _ (by omega), joStep, if_neg (by simp_all)]; done) | omega))) rfl (wk_o (o' := ⟨49, 2, true, pl (csl (setCells s))⟩) (by kernel_rfl) (renob_pl (fun h => h)) rfl (wk_f rfl (wk_f rfl (wk_f rfl (wk_f rfl (wk_f rfl (wk_f rfl (wk_nil)))))))))))))))))) ?_
    rintro k inv3
    replace inv3 : k ≤ (setCells s).length := inv3
    have inv := inv3
    show Wp _ _ _ [(.s 1, some (.s (V.p 1 0))), (.s 2, some (.s (V.p 2 0))), (.s 3, some (.s (V.p 3 0))), (.s 17, some (.s (V.b (.a (.sl 17 0 ((setCells s).length)))))), (.s 18, some (.s (V.v (.int .i64 (((setCells s).length : Nat) : Int))))), (.s 19, some (.s (V.v (.int .i64 ((k : Nat) : Int))))), (.o 1, some (.o ⟨56, 1, true, [(.val (.int .u64 ((s : Nat) : Int)) : A)]⟩)), (.o 2, some (.o ⟨71, 1, true, pl (isl (List.replicate 64 0))⟩)), (.o 3, some (.o ⟨71, 1, true, pl (isl (((setCells s).take k).foldl (joStep s) jo0))⟩)), (.o 17, some (.o ⟨49, 2, true, pl (csl (setCells s))⟩)), (.o 6, some .free), (.o 7, some .free), (.o 8, some .free), (.o 18, some .free), (.o 24, some .free), (.o 29, some .free)]
    have h64 := setCells_len s
    have hjo : joOk (((setCells s).take k).foldl (joStep s) jo0) := foldl_jo_ok _ (fun c hc => hasS_ok (set_mem.1 (List.mem_of_mem_take hc))) _ jo0_ok
    have hjl := hjo.1
    refine wp_seq' ?_
    refine wp_region_t ?_
    refine wpc (step_plain rfl (acts_bin (d := 20) (ltN rfl) (OpV.tmp 19 (.int .i64 ((k : Nat) : Int))) (OpV.tmp 18 (.int .i64 (((setCells s).length : Nat) : Int))) (r_lss (c := (decide (((k : Nat) : Int) < (((setCells s).length : Nat) : Int)))) rfl))) (by kernel_rfl) ?_
    refine wpl_nil ?_
    refine wp_seq' ?_
    refine wp_if (t := 20) (decide (((k : Nat) : Int) < (((setCells s).length : Nat) : Int))) (by kernel_rfl) (fun c4 => ?_) (fun c4 => ?_)
    · skip
      have c4P := of_decide_eq_true c4
      refine wp_skip' ?_
      refine wp_seq' ?_
      refine wp_block' ?_
      refine wp_seq' ?_
      refine wp_region_t ?_
      refine wpc (step_plain rfl (acts_index_sl (d := 21) (x := 17) (h := 17) (off := 0) (n := ((setCells s).length)) (k := k) (off' := (k * 2)) (o := ⟨49, 2, true, pl (csl (setCells s))⟩) (ltN rfl) qC6_un_41 qC6_sz_49 (OpV.tmp 19 (.int .i64 ((k : Nat) : Int))) rfl (by first | omega | assumption | exact set_in (by omega) | decide) (by first | (simp; done) | (simp; omega) | omega))) (by kernel_rfl) ?_
      refine wpc (step_plain rfl (acts_load_owns (d := 22) (t := 21) (h := 17) (off := (k * 2)) (o := ⟨49, 2, true, pl (csl (setCells s))⟩)  (xs := [(.int .i64 ((gC (setCells s) k).x) : Value), .int .i64 ((gC (setCells s) k).y)].map A.val) (ltN rfl) qC6_ti_49 rfl (by decide) (pl_at (csl_at (k := k) (by first | omega | assumption | exact set_in (by omega) | decide))))) (by kernel_rfl) ?_
      refine wpc (step_plain rfl (acts_alloc' (d := 6) (h := 6) (cap := 1) (s := 2) (cells := [(.val (.int .i64 0) : A), .val (.int .i64 0)]) (ltN rfl) qC6_zi_49 rfl rfl (by decide))) (by kernel_rfl) ?_
      refine wpc (step_plain rfl (acts_store (t := 6) (h := 6) (off := 0) (o := ⟨49, 2, true, [(.val (.int .i64 0) : A), .val (.int .i64 0)]⟩) (b := .agg ([(.int .i64 ((gC (setCells s) k).x) : Value), .int .i64 ((gC (setCells s) k).y)].map A.val)) (cells := [(.val (.int .i64 ((gC (setCells s) k).x)) : A), .val (.int .i64 ((gC (setCells s) k).y))]) qC6_ti_49 (OpX.tmp 22 (V.av [(.int .i64 ((gC (setCells s) k).x) : Value), .int .i64 ((gC (setCells s) k).y)])) rfl (by decide) (by intro y hy; simp [B.cs] at hy; rcases hy with rfl | rfl <;> rfl) (Nat.le_of_ble_eq_true rfl) rfl)) (by kernel_rfl) ?_
      refine wpl_nil ?_
      refine wp_seq' ?_
      refine wp_seq' ?_
      refine wp_region_t ?_
      refine wpc (step_plain rfl (acts_load_owns (d := 23) (t := 6) (h := 6) (off := 0) (o := ⟨49, 2, true, [(.val (.int .i64 ((gC (setCells s) k).x)) : A), .val (.int .i64 ((gC (setCells s) k).y))]⟩)  (xs := [(.int .i64 ((gC (setCells s) k).x) : Value), .int .i64 ((gC (setCells s) k).y)].map A.val) (ltN rfl) qC6_ti_49 rfl (by decide) rfl)) (by kernel_rfl) ?_
      refine wpc (step_plain rfl (acts_call1 (d := 24) (ltN rfl) (impl_IsBlack_fn (gC (setCells s) k) ) (ArgVs.cons (ArgV.va (vs := [(.int .i64 ((gC (setCells s) k).x) : Value), .int .i64 ((gC (setCells s) k).y)]) (OpV.agg 23 [(.int .i64 ((gC (setCells s) k).x) : Value), .int .i64 ((gC (setCells s) k).y)])) (ArgVs.nil)) (ResV.val _))) (by kernel_rfl) ?_
      refine wpc (step_plain rfl (acts_un (d := 25) (ltN rfl) (OpV.tmp 24 (.bool (black (gC (setCells s) k)))) (r_not (c := (!(black (gC (setCells s) k)))) rfl))) (by kernel_rfl) ?_
      refine wpl_nil ?_
      refine wp_if (t := 25) ((!(black (gC (setCells s) k)))) (by kernel_rfl) (fun c5 => ?_) (fun c5 => ?_)
      · skip
        have c6 : (black (gC (setCells s) k)) = false := by simpa using c5
        refine wp_exit' ?_
        refine wp_region_t ?_
        refine wpc (step_plain rfl (acts_bin (d := 30) (ltN rfl) (OpV.tmp 19 (.int .i64 ((k : Nat) : Int))) (OpV.const (.int .i64 1)) (r_add (c := (((k : Nat) : Int) + 1)) (w64 (by first | omega | assumption | exact set_in (by omega) | decide) (by first | omega | assumption | exact set_in (by omega) | decide))))) (by kernel_rfl) ?_
        refine wpc (step_plain rfl (acts_move (d := 19) (ltN rfl) (OpX.tmp 30 (V.v (.int .i64 (((k : Nat) : Int) + 1)))))) (by kernel_rfl) ?_
        refine wpl_nil ?_
        exact loop_back ((k + 1)) (by show _ ≤ _; omega) (by show (setCells s).length - (k + 1) < (setCells s).length - k; omega) (weak_of id [6, 7, 8, 18, 24, 29] (by kernel_rfl) (wk_s (v' := V.p 1 0) (by kernel_rfl) rfl rfl (wk_s (v' := V.p 2 0) (by kernel_rfl) rfl rfl (wk_s (v' := V.p 3 0) (by kernel_rfl) rfl rfl (wk_s (v' := V.b (.a (.sl 17 0 ((setCells s).length)))) (by kernel_rfl) rfl rfl (wk_s (v' := V.v (.int .i64 (((setCells s).length : Nat) : Int))) (by kernel_rfl) rfl rfl (wk_s (v' := V.v (.int .i64 (((k : Nat) : Int) + 1))) (by kernel_rfl) (vint (by first | rfl | exact rep_end (by omega) (by assumption) | exact (rep_end (by omega) (by assumption)).symm | (rw [foldl_snocJ _ _ (by omega), joStep, if_pos (by assumption)]; done) | (rw [foldl_snocJ _ _ (by omega), joStep, if_neg (by simp_all)]; done) | omega)) rfl (wk_o (o' := ⟨56, 1, true, [(.val (.int .u64 ((s : Nat) : Int)) : A)]⟩) (by kernel_rfl) (renob_l (fun h => h) rfl rfl) rfl (wk_o (o' := ⟨71, 1, true, pl (isl (List.replicate 64 0))⟩) (by kernel_rfl) (renob_pl (fun h => h)) rfl (wk_o (o' := ⟨71, 1, true, pl (isl (((setCells s).take k).foldl (joStep s) jo0))⟩) (by kernel_rfl) (renob_eq (fun h => h) (congrArg isl (by first | rfl | exact rep_end (by omega) (by assumption) | exact (rep_end (by omega) (by assumption)).symm | (rw [foldl_snocJ _ _ (by omega), joStep, if_pos (by assumption)]; done) | (rw [foldl_snocJ _ _ (by omega), joStep, if_neg (by simp_all)]; done) | omega))) rfl (wk_o (o' := ⟨49, 2, true, pl (csl (setCells s))⟩) (by kernel_rfl) (renob_pl (fun h => h)) rfl (wk_f rfl (wk_f rfl (wk_f rfl (wk_f rfl (wk_f rfl (wk_f rfl (wk_nil))))))))))))))))))
      · skip
        have c7 : (black (gC (setCells s) k)) = true := by simpa using c5
        refine wp_skip' ?_
        refine wp_seq' ?_
        refine wp_region_t ?_
        refine wpc (step_plain rfl (acts_alloc' (d := 7) (h := 7) (cap := 1) (s := 1) (cells := [(.val (.int .u64 0) : A)]) (ltN rfl) qC6_zi_56 rfl rfl (by decide))) (by kernel_rfl) ?_
        refine wpc (step_plain rfl (acts_store (t := 7) (h := 7) (off := 0) (o := ⟨56, 1, true, [(.val (.int .u64 0) : A)]⟩) (b := .a (.val (.int .u64 0))) (cells := [(.val (.int .u64 0) : A)]) qC6_ti_56 (OpX.const (.int .u64 0)) rfl (by decide) (by intro y hy; simp [B.cs] at hy; subst hy; rfl) (Nat.le_of_ble_eq_true rfl) rfl)) (by kernel_rfl) ?_
        refine wpl_nil ?_
        refine wp_seq' ?_
        refine wp_region_t ?_
        refine wpc (step_plain rfl (acts_alloc' (d := 8) (h := 8) (cap := 1) (s := 1) (cells := [(.val (.nilFunc) : A)]) (ltN rfl) qC6_zi_60 rfl rfl (by decide))) (by kernel_rfl) ?_
        refine wpl_nil ?_
        refine wp_seq' ?_
        refine wp_region_t ?_
        refine wpc (step_plain rfl (acts_makeFunc (d := 26) (f := 82) (l := [(1, 1), (7, 7), (3, 3), (8, 8)]) (ltN rfl))) (by kernel_rfl) ?_
        refine wpc (step_plain rfl (acts_store (t := 8) (h := 8) (off := 0) (o := ⟨60, 1, true, [(.val (.nilFunc) : A)]⟩) (b := .a (.fn 82 [1, 7, 3, 8])) (cells := [(.fn 82 [1, 7, 3, 8] : A)]) qC6_ti_60 (OpX.tmp 26 (V.b (.a (.fn 82 [1, 7, 3, 8])))) rfl (by decide) (by intro y hy; simp [B.cs] at hy; subst hy; rfl) (Nat.le_of_ble_eq_true rfl) rfl)) (by kernel_rfl) ?_
        refine wpl_nil ?_
        refine wp_region_t ?_
        refine wpc (step_plain rfl (acts_load_own (d := 27) (t := 8) (h := 8) (off := 0) (o := ⟨60, 1, true, [(.fn 82 [1, 7, 3, 8] : A)]⟩)  (x := .fn 82 [1, 7, 3, 8]) (ltN rfl) qC6_ti_60 rfl)) (by kernel_rfl) ?_
        refine wpc (step_plain rfl (acts_load_owns (d := 28) (t := 6) (h := 6) (off := 0) (o := ⟨49, 2, true, [(.val (.int .i64 ((gC (setCells s) k).x)) : A), .val (.int .i64 ((gC (setCells s) k).y))]⟩)  (xs := [(.int .i64 ((gC (setCells s) k).x) : Value), .int .i64 ((gC (setCells s) k).y)].map A.val) (ltN rfl) qC6_ti_49 rfl (by decide) rfl)) (by kernel_rfl) ?_
        refine wpc (step_plain rfl (acts_callV (d := 29) (f := 82) (t := 27) (caps := [1, 7, 3, 8]) (os := [(.o 1, some (.o ⟨56, 1, true, [(.val (.int .u64 ((s : Nat) : Int)) : A)]⟩)), (.o 7, some (.o ⟨56, 1, true, [(.val (.int .u64 ((0 : Nat) : Int)) : A)]⟩)), (.o 3, some (.o ⟨71, 1, true, pl (isl (((setCells s).take k).foldl (joStep s) jo0))⟩)), (.o 8, some (.o ⟨60, 1, true, [(.fn 82 [1, 7, 3, 8] : A)]⟩))]) (os' := [(.o 1, some (.o ⟨56, 1, true, [(.val (.int .u64 ((s : Nat) : Int)) : A)]⟩)), (.o 7, some (.o ⟨56, 1, true, [(.val (.int .u64 (((find s 65 0 (((setCells s).take k).foldl (joStep s) jo0) (gC (setCells s) k)).2.1 : Nat) : Int)) : A)]⟩)), (.o 3, some (.o ⟨71, 1, true, pl (isl ((find s 65 0 (((setCells s).take k).foldl (joStep s) jo0) (gC (setCells s) k)).2.2))⟩)), (.o 8, some (.o ⟨60, 1, true, [(.fn 82 [1, 7, 3, 8] : A)]⟩))]) (r := V.v (.bool ((find s 65 0 (((setCells s).take k).foldl (joStep s) jo0) (gC (setCells s) k)).1))) (bs := [.agg ([(.int .i64 ((gC (setCells s) k).x) : Value), .int .i64 ((gC (setCells s) k).y)].map A.val)]) (keep := [1, 7, 3, 8]) (new := []) (dead := []) (ltN rfl) (FnO.ren' (impl_set__matching_1_fn 65 s 0 (((setCells s).take k).foldl (joStep s) jo0) (gC (setCells s) k) (by first | omega | assumption | exact set_in (by omega) | decide) (by first | omega | assumption | exact set_in (by omega) | decide) (by first | omega | assumption | exact set_in (by omega) | decide) (by first | omega | assumption | exact set_in (by omega) | decide) (by first | omega | assumption | exact set_in (by omega) | decide)) (subst1 [(2, 7), (4, 8)]) rfl rfl (by kernel_rfl) (by kernel_rfl) ⟨ocs (by kernel_rfl), ocs (by kernel_rfl), oc_pl (fun _ => rfl), ocs (by kernel_rfl), trivial⟩ (by kernel_rfl) rfl (by simp only [renS, Ob.ren, pl_ren, rws_ren_doms, rws_ren_ints, rws_ren_cels]; rfl) (by simp only [renS, Ob.ren, pl_ren, rws_ren_doms, rws_ren_ints, rws_ren_cels]; rfl) rfl rfl) (by kernel_rfl) ⟨ocs (by kernel_rfl), ocs (by kernel_rfl), oc_pl (fun _ => rfl), ocs (by kernel_rfl), trivial⟩ (by kernel_rfl) (ArgOs.cons (ArgO.va (vs := [(.int .i64 ((gC (setCells s) k).x) : Value), .int .i64 ((gC (setCells s) k).y)]) (OpV.agg 28 [(.int .i64 ((gC (setCells s) k).x) : Value), .int .i64 ((gC (setCells s) k).y)])) (ArgOs.nil)))) (by kernel_rfl) ?_
        refine wpl_nil ?_
        refine wp_region_t ?_
        refine wpc (step_plain rfl (acts_bin (d := 30) (ltN rfl) (OpV.tmp 19 (.int .i64 ((k : Nat) : Int))) (OpV.const (.int .i64 1)) (r_add (c := (((k : Nat) : Int) + 1)) (w64 (by first | omega | assumption | exact set_in (by omega) | decide) (by first | omega | assumption | exact set_in (by omega) | decide))))) (by kernel_rfl) ?_
        refine wpc (step_plain rfl (acts_move (d := 19) (ltN rfl) (OpX.tmp 30 (V.v (.int .i64 (((k : Nat) : Int) + 1)))))) (by kernel_rfl) ?_
        refine wpl_nil ?_
        exact loop_back ((k + 1)) (by show _ ≤ _; omega) (by show (setCells s).length - (k + 1) < (setCells s).length - k; omega) (weak_of id [6, 7, 8, 18, 24, 29] (by kernel_rfl) (wk_s (v' := V.p 1 0) (by kernel_rfl) rfl rfl (wk_s (v' := V.p 2 0) (by kernel_rfl) rfl rfl (wk_s (v' := V.p 3 0) (by kernel_rfl) rfl rfl (wk_s (v' := V.b (.a (.sl 17 0 ((setCells s).length)))) (by kernel_rfl) rfl rfl (wk_s (v' := V.v (.int .i64 (((setCells s).length : Nat) : Int))) (by kernel_rfl) rfl rfl (wk_s (v' := V.v (.int .i64 (((k : Nat) : Int) + 1))) (by kernel_rfl) (vint (by first | rfl | exact rep_end (by omega) (by assumption) | exact (rep_end (by omega) (by assumption)).symm | (rw [foldl_snocJ _ _ (by omega), joStep, if_pos (by assumption)]; done) | (rw [foldl_snocJ _ _ (by omega), joStep, if_neg (by simp_all)]; done) | omega)) rfl (wk_o (o' := ⟨56, 1, true, [(.val (.int .u64 ((s : Nat) : Int)) : A)]⟩) (by kernel_rfl) (renob_l (fun h => h) rfl rfl) rfl (wk_o (o' := ⟨71, 1, true, pl (isl (List.replicate 64 0))⟩) (by kernel_rfl) (renob_pl (fun h => h)) rfl (wk_o (o' := ⟨71, 1, true, pl (isl ((find s 65 0 (((setCells s).take k).foldl (joStep s) jo0) (gC (setCells s) k)).2.2))⟩) (by kernel_rfl) (renob_eq (fun h => h) (congrArg isl (by first | rfl | exact rep_end (by omega) (by assumption) | exact (rep_end (by omega) (by assumption)).symm | (rw [foldl_snocJ _ _ (by omega), joStep, if_pos (by assumption)]; done) | (rw [foldl_snocJ _ _ (by omega), joStep, if_neg (by simp_all)]; done) | omega))) rfl (wk_o (o' := ⟨49, 2, true, pl (csl (setCells s))⟩) (by kernel_rfl) (renob_pl (fun h => h)) rfl (wk_f rfl (wk_f rfl (wk_f rfl (wk_f rfl (wk_f rfl (wk_f rfl (wk_nil))))))))))))))))))
    · skip
      have c4P := of_decide_eq_false c4
      refine wp_exit' ?_
      refine wp_seq' ?_
      refine wp_region_t ?_
      refine wpc (step_plain rfl (acts_load_owns (d := 31) (t := 3) (h := 3) (off := 0) (o := ⟨71, 1, true, pl (isl (((setCells s).take k).foldl (joStep s) jo0))⟩)  (xs := pl (isl (((setCells s).take k).foldl (joStep s) jo0))) (ltN rfl) qC6_ti_71 (by first | (simp [pl, isl]; done) | (simp [pl_len, isl_len, bsl_len, *]; done) | (simp only [pl_len, isl_len, bsl_len]; assumption) | (simp [pl, *]; done) | (simp [pl]; exact List.take_of_length_le (by simp [*]))) (by decide) (by first | (simp [pl, isl]; done) | (simp [pl, isl_len, *]; done) | (simp [pl_len, isl_len, *]; done) | (simp [pl]; exact List.take_of_length_le (by simp [isl_len, *]))))) (by kernel_rfl) ?_
      refine wpc (step_plain rfl (acts_store (t := 2) (h := 2) (off := 0) (o := ⟨71, 1, true, pl (isl (List.replicate 64 0))⟩) (b := .agg ((isl (((setCells s).take k).foldl (joStep s) jo0)).map A.val)) (cells := pl (isl (((setCells s).take k).foldl (joStep s) jo0))) qC6_ti_71 (OpX.tmp 31 (V.av (isl (((setCells s).take k).foldl (joStep s) jo0)))) (by first | (simp [B.cs, isl]; done) | (simp [B.cs, isl, *]; done)) (by decide) (by simpa [B.cs, pl] using pl_one (isl_one' _)) (by first | (simp [pl, isl]; done) | (simp [pl, isl_len, *]; done) | (simp [pl_len, isl_len, *]; done) | (simp [pl]; exact List.take_of_length_le (by simp [isl_len, *]))) (by simp [pl, B.cs, isl]))) (by kernel_rfl) ?_
      refine wpl_nil ?_
      refine wp_ret' ?_
      exact vres_cells 2 71 2 64 ⟨71, 1, true, pl (isl (((setCells s).take k).foldl (joStep s) jo0))⟩ _ (by first | (simp [pl_len, isl_len, *]; done) | (simp [pl, isl, *]; done)) (by kernel_rfl) (by kernel_rfl) qC6_ti_71 (Nat.le_of_ble_eq_true rfl) (bagg (by (have e : k = (setCells s).length := by omega); subst e; rw [List.take_length]; rfl))
end Cl
end Go.Proofs.Ytafbklfdgpfmgaa
