/- Walks over clean states, printed by wg.py. No statement is proved here. -/
import Derived.Test.YtjgjeflidcembaaC3
import Derived.Test.YtjgjeflidcembaaClB
namespace Go.Proofs.Ytjgjeflidcembaa
namespace Cl
open Go.ChangeShapes Go.WideShapes Go.ChangeAt Go.RowKit
set_option maxRecDepth 20000

theorem rep_len {k : Nat} (h : k ≤ 64) : (List.replicate k (-1) ++ List.replicate (64 - k) 0 : List Int).length = 64 := by simp; omega
theorem rep_set {k : Nat} (h : k < 64) : (List.replicate k (-1) ++ List.replicate (64 - k) 0 : List Int).set k (-1) = List.replicate (k+1) (-1) ++ List.replicate (64 - (k+1)) 0 := by
  have e : 64 - k = (64 - (k + 1)) + 1 := by omega
  rw [e, List.replicate_succ, List.set_append_right _ _ (by simp), List.replicate_succ' (n := k)]; simp
/-- looking for a way from a black cell: over the white neighbors that are left -/
def findL (rec : Nat → List Int → Cel → Bool × Nat × List Int) (s : Nat) (b : Cel) : List Cel → Nat → List Int → Bool × Nat × List Int
  | [], seen, jo => (false, seen, jo)
  | w :: ws, seen, jo =>
    if (!hasS s w || seen.testBit (idx w)) = true then findL rec s b ws seen jo
    else if gI jo (idx w) < 0 then (true, addC seen w, jo.set (idx w) (idx b))
    else match rec (addC seen w) jo (cN (gI jo (idx w)).toNat) with
      | (true, seen2, jo2) => (true, seen2, jo2.set (idx w) (idx b))
      | (false, seen2, jo2) => findL rec s b ws seen2 jo2
def find (s : Nat) : Nat → Nat → List Int → Cel → Bool × Nat × List Int
  | 0, seen, jo, _ => (false, seen, jo)
  | n + 1, seen, jo, b => findL (find s n) s b (nbs b) seen jo
def joOk (jo : List Int) : Prop := jo.length = 64 ∧ ∀ k, k < 64 → -1 ≤ gI jo k ∧ gI jo k ≤ 63
theorem joOk_set {jo : List Int} (h : joOk jo) {i : Nat} {b : Cel} (hb : okc b.x b.y = true) : joOk (jo.set i (idx b)) := by
  obtain ⟨h1, h2⟩ := h
  refine ⟨by simpa using h1, fun k hk => ?_⟩
  rw [gI_set (by omega)]
  have := idx_lt hb
  split
  · omega
  · exact h2 k hk
theorem sk1 {s t : Nat} {w : Cel} (h : hasS s w = false) : (!hasS s w || t.testBit (idx w)) = true := by rw [h]; rfl
theorem sk2 {s t : Nat} {w : Cel} (h : hasS t w = true) : (!hasS s w || t.testBit (idx w)) = true := by
  unfold hasS at h; simp only [Bool.and_eq_true] at h; rw [h.2]; simp
theorem sk4 {s t : Nat} {w : Cel} (h1 : hasS s w = true) (h2 : hasS t w = false) : t.testBit (idx w) = false := by
  have := hasS_ok h1
  unfold hasS at h2; rw [this] at h2; simpa using h2
theorem sk3 {s t : Nat} {w : Cel} (h1 : hasS s w = true) (h2 : hasS t w = false) : (!hasS s w || t.testBit (idx w)) = false := by rw [h1, sk4 h1 h2]; rfl
/-- what a search keeps -/
structure Kept (r : Bool × Nat × List Int) (seen : Nat) : Prop where
  lt : r.2.1 < 18446744073709551616
  jo : joOk r.2.2
  pc : popc seen ≤ popc r.2.1
theorem findL_kept {rec : Nat → List Int → Cel → Bool × Nat × List Int} {s : Nat} {b : Cel} (hb : okc b.x b.y = true) (hr : ∀ seen jo c, seen < 18446744073709551616 → joOk jo → okc c.x c.y = true → Kept (rec seen jo c) seen) :
    ∀ ws seen jo, seen < 18446744073709551616 → joOk jo → Kept (findL rec s b ws seen jo) seen := by
  intro ws
  induction ws with
  | nil => intro seen jo h1 h2; exact ⟨h1, h2, Nat.le_refl _⟩
  | cons w ws ih =>
    intro seen jo h1 h2
    unfold findL
    split
    · exact ih seen jo h1 h2
    · rename_i hc
      simp only [Bool.or_eq_true, Bool.not_eq_true', not_or, Bool.not_eq_false, Bool.not_eq_true] at hc
      have hw := hasS_ok hc.1
      have hp := popc_add hw hc.2
      have hlt := addC_lt h1 hw
      split
      · exact ⟨hlt, joOk_set h2 hb, by simp only; omega⟩
      · rename_i hn
        have hk := h2.2 (idx w) (idx_lt hw)
        have hrec := hr (addC seen w) jo (cN (gI jo (idx w)).toNat) hlt h2 (cN_ok (by omega))
        split
        · rename_i seen2 jo2 he
          rw [he] at hrec
          have := hrec.pc
          exact ⟨hrec.lt, joOk_set hrec.jo hb, by simp only at this ⊢; omega⟩
        · rename_i seen2 jo2 he
          rw [he] at hrec
          have h3 := ih seen2 jo2 hrec.lt hrec.jo
          have := hrec.pc
          have := h3.pc
          exact ⟨h3.lt, h3.jo, by simp only at *; omega⟩
theorem find_kept {s : Nat} : ∀ n seen jo b, seen < 18446744073709551616 → joOk jo → okc b.x b.y = true → Kept (find s n seen jo b) seen := by
  intro n
  induction n with
  | zero => intro seen jo b h1 h2 _; exact ⟨h1, h2, Nat.le_refl _⟩
  | succ n ih => intro seen jo b h1 h2 h3; exact findL_kept h3 (fun a b c => ih a b c) _ _ _ h1 h2
theorem foldl_snocJ (f : List Int → Cel → List Int) (t : List Int) {l : List Cel} {k : Nat} (h : k < l.length) : (l.take (k+1)).foldl f t = f ((l.take k).foldl f t) (gC l k) := by
  rw [List.take_succ_eq_append_getElem h, List.foldl_append, gC_eq h]; rfl
theorem rep_end {k : Nat} (h1 : k ≤ 64) (h2 : ¬ (k : Int) < 64) : (List.replicate k (-1) ++ List.replicate (64 - k) 0 : List Int) = List.replicate 64 (-1) := by
  obtain rfl : k = 64 := by omega
  simp
theorem vres_cells {P : Program} {σ : St} (t T h n : Nat) (o : Ob) (r : RB) (hn : o.cells.length = n) (hg : get σ (.s t) = some (.s (V.p h 0))) (ho : get σ (.o h) = some (.o o)) (hT : TI P T true n) (hp : 0 < n) (hb : BRes σ (.agg o.cells) r) : VRes P σ (.cell t T) r := by
  subst hn; exact .cells t T h o r hg ho hT hp hb
def joStep (s : Nat) (jo : List Int) (c : Cel) : List Int := if black c then (find s 65 0 jo c).2.2 else jo
def jo0 : List Int := List.replicate 64 (-1)
def joined (s : Nat) : List Int := (setCells s).foldl (joStep s) jo0
theorem jo0_ok : joOk jo0 := ⟨by simp [jo0], fun k hk => by
    have e : gI jo0 k = -1 := by rw [gI_eq (by simpa [jo0] using hk)]; simp only [jo0, List.getElem_replicate]
    omega⟩
theorem joStep_ok {s : Nat} {jo : List Int} (h : joOk jo) {c : Cel} (hc : okc c.x c.y = true) : joOk (joStep s jo c) := by
  unfold joStep; split
  · exact (find_kept 65 0 jo c (by decide) h hc).jo
  · exact h
theorem foldl_jo_ok {s : Nat} : ∀ (l : List Cel), (∀ c ∈ l, okc c.x c.y = true) → ∀ jo, joOk jo → joOk (l.foldl (joStep s) jo) := by
  intro l
  induction l with
  | nil => intro _ jo h; exact h
  | cons c l ih => intro hl jo h; exact ih (fun c hc => hl c (by simp [hc])) _ (joStep_ok h (hl c (by simp)))
theorem joined_ok (s : Nat) : joOk (joined s) := foldl_jo_ok _ (fun c hc => hasS_ok (set_mem.1 hc)) _ jo0_ok
/-- one more round of the search -/
theorem findL_skip {rec : Nat → List Int → Cel → Bool × Nat × List Int} {s : Nat} {b : Cel} {ws : List Cel} {k seen : Nat} {jo : List Int} (hk : k < ws.length) (h : (!hasS s (gC ws k) || seen.testBit (idx (gC ws k))) = true) :
    findL rec s b (ws.drop k) seen jo = findL rec s b (ws.drop (k+1)) seen jo := by
  rw [List.drop_eq_getElem_cons hk, ← gC_eq hk, findL, if_pos h]
theorem findL_free {rec : Nat → List Int → Cel → Bool × Nat × List Int} {s : Nat} {b : Cel} {ws : List Cel} {k seen : Nat} {jo : List Int} (hk : k < ws.length) (h : (!hasS s (gC ws k) || seen.testBit (idx (gC ws k))) = false) (hf : gI jo (idx (gC ws k)) < 0) :
    findL rec s b (ws.drop k) seen jo = (true, addC seen (gC ws k), jo.set (idx (gC ws k)) (idx b)) := by
  rw [List.drop_eq_getElem_cons hk, ← gC_eq hk, findL, if_neg (by rw [h]; simp), if_pos hf]
theorem findL_yes {rec : Nat → List Int → Cel → Bool × Nat × List Int} {s : Nat} {b : Cel} {ws : List Cel} {k seen : Nat} {jo : List Int} (hk : k < ws.length) (h : (!hasS s (gC ws k) || seen.testBit (idx (gC ws k))) = false) (hf : ¬ gI jo (idx (gC ws k)) < 0)
    (hr : (rec (addC seen (gC ws k)) jo (cN (gI jo (idx (gC ws k))).toNat)).1 = true) :
    findL rec s b (ws.drop k) seen jo = (true, (rec (addC seen (gC ws k)) jo (cN (gI jo (idx (gC ws k))).toNat)).2.1, (rec (addC seen (gC ws k)) jo (cN (gI jo (idx (gC ws k))).toNat)).2.2.set (idx (gC ws k)) (idx b)) := by
  rw [List.drop_eq_getElem_cons hk, ← gC_eq hk, findL, if_neg (by rw [h]; simp), if_neg hf]
  revert hr
  rcases rec (addC seen (gC ws k)) jo (cN (gI jo (idx (gC ws k))).toNat) with ⟨a, s2, j2⟩
  intro hr; simp only at hr; subst hr; rfl
theorem findL_no {rec : Nat → List Int → Cel → Bool × Nat × List Int} {s : Nat} {b : Cel} {ws : List Cel} {k seen : Nat} {jo : List Int} (hk : k < ws.length) (h : (!hasS s (gC ws k) || seen.testBit (idx (gC ws k))) = false) (hf : ¬ gI jo (idx (gC ws k)) < 0)
    (hr : (rec (addC seen (gC ws k)) jo (cN (gI jo (idx (gC ws k))).toNat)).1 = false) :
    findL rec s b (ws.drop k) seen jo = findL rec s b (ws.drop (k+1)) (rec (addC seen (gC ws k)) jo (cN (gI jo (idx (gC ws k))).toNat)).2.1 (rec (addC seen (gC ws k)) jo (cN (gI jo (idx (gC ws k))).toNat)).2.2 := by
  rw [List.drop_eq_getElem_cons hk, ← gC_eq hk, findL, if_neg (by rw [h]; simp), if_neg hf]
  revert hr
  rcases rec (addC seen (gC ws k)) jo (cN (gI jo (idx (gC ws k))).toNat) with ⟨a, s2, j2⟩
  intro hr; simp only at hr; subst hr; rfl
theorem findL_end {rec : Nat → List Int → Cel → Bool × Nat × List Int} {s : Nat} {b : Cel} {ws : List Cel} {k seen : Nat} {jo : List Int} (hk : ¬ (k : Int) < (ws.length : Int)) : findL rec s b (ws.drop k) seen jo = (false, seen, jo) := by
  rw [List.drop_eq_nil_of_le (by omega)]; rfl

theorem qC6_sz_3 : (Try.prog.info? 3).map (·.size) = some 1 := by kernel_rfl
theorem qC6_sz_46 : (Try.prog.info? 46).map (·.size) = some 2 := by kernel_rfl
theorem qC6_ti_3 : TI Try.prog 3 false 1 := ⟨⟨_, Try.underlying3, rfl⟩, by kernel_rfl⟩
theorem qC6_ti_46 : TI Try.prog 46 true 2 := ⟨⟨_, Try.underlying46, rfl⟩, by kernel_rfl⟩
theorem qC6_ti_52 : TI Try.prog 52 false 1 := ⟨⟨_, Try.underlying52, rfl⟩, by kernel_rfl⟩
theorem qC6_ti_61 : TI Try.prog 61 false 1 := ⟨⟨_, Try.underlying61, rfl⟩, by kernel_rfl⟩
theorem qC6_ti_81 : TI Try.prog 81 true 64 := ⟨⟨_, Try.underlying81, rfl⟩, by kernel_rfl⟩
theorem qC6_un_42 : Try.prog.underlying 42 = some (.slice 46) := Try.underlying42
theorem qC6_un_81 : Try.prog.underlying 81 = some (.array 64 3) := Try.underlying81
theorem qC6_zi_46 : ZI Try.prog 46 (.agg #[.int .i64 0, .int .i64 0]) 2 16 := by unfold ZI; kernel_rfl
theorem qC6_zi_52 : ZI Try.prog 52 (.nilFunc) 1 8 := by unfold ZI; kernel_rfl
theorem qC6_zi_61 : ZI Try.prog 61 (.int .u64 0) 1 8 := by unfold ZI; kernel_rfl
theorem qC6_zi_81 : ZI Try.prog 81 (.agg (isl (List.replicate 64 0)).toArray) 64 512 := by unfold ZI; kernel_rfl
set_option maxHeartbeats 4000000 in
set_option maxRecDepth 100000 in
theorem impl_set__matching_1_fn : ∀ (n : Nat) (s seen : Nat) (jo : List Int) (b : Cel) (hs : s < 18446744073709551616) (hseen : seen < 18446744073709551616) (hj : joOk jo) (hb : okc b.x b.y = true) (hn : 64 < n + popc seen), FnO Try.prog 106 [.agg ([vI b.x, vI b.y].map A.val), .a (.ptr 1 0), .a (.ptr 2 0), .a (.ptr 3 0), .a (.ptr 4 0)] [(.o 1, some (.o ⟨61, 1, true, [(.val (.int .u64 ((s : Nat) : Int)) : A)]⟩)), (.o 2, some (.o ⟨61, 1, true, [(.val (.int .u64 ((seen : Nat) : Int)) : A)]⟩)), (.o 3, some (.o ⟨81, 1, true, pl (isl jo)⟩)), (.o 4, some (.o ⟨52, 1, true, [(.fn 106 [1, 2, 3, 4] : A)]⟩))] (V.v (.bool ((find s n seen jo b).1))) [(.o 1, some (.o ⟨61, 1, true, [(.val (.int .u64 ((s : Nat) : Int)) : A)]⟩)), (.o 2, some (.o ⟨61, 1, true, [(.val (.int .u64 (((find s n seen jo b).2.1 : Nat) : Int)) : A)]⟩)), (.o 3, some (.o ⟨81, 1, true, pl (isl ((find s n seen jo b).2.2))⟩)), (.o 4, some (.o ⟨52, 1, true, [(.fn 106 [1, 2, 3, 4] : A)]⟩))] [1, 2, 3, 4] := by
 intro n
 induction n with
 | zero => intro s seen jo b hs hseen hj hb hn; exfalso; (have := popc_le seen; omega)
 | succ n ih =>
  intro s seen jo b hs hseen hj hb hn
  refine fn_introO (N := 48) Try.func106 rfl (by kernel_rfl) rfl (Nat.le_of_ble_eq_true rfl) rfl rfl (by kernel_rfl) (by kernel_rfl) ⟨ocs (by kernel_rfl), ocs (by kernel_rfl), oc_pl (fun _ => rfl), ocs (by kernel_rfl), trivial⟩ [5, 8, 11, 12, 19, 24, 28, 30, 40, 41, 45] (retO1 rfl) (fun W own kp im0 => ?_)
  show Wp _ _ _ [kV 0 (V.av [vI b.x, vI b.y]), kP 1 1 0, kP 2 2 0, kP 3 3 0, kP 4 4 0, kO 1 61 1 true [(.val (.int .u64 ((s : Nat) : Int)) : A)], kO 2 61 1 true [(.val (.int .u64 ((seen : Nat) : Int)) : A)], kO 3 81 1 true (pl (isl jo)), kO 4 52 1 true [(.fn 106 [1, 2, 3, 4] : A)], kF 5, kF 8, kF 11, kF 12, kF 19, kF 24, kF 28, kF 30, kF 40, kF 41, kF 45]
  refine sq (rg ?_)
  refine z ?_ (h := fun ν => acts_box (h := 5) ν xt (by exact ob1 rfl))
  refine zk (nl (sq (sq (rg ?_))))
  refine z ?_ (h := fun ν => acts_load_owns (xs := [vI b.x, vI b.y].map A.val) ν qC6_ti_46 rfl (by decide) rfl)
  refine z ?_ (h := fun ν => acts_call1 ν (impl_NeighborsOf_fn b ) (ac (ArgV.va va) an) (ResV.row _ _ _ _ 11))
  refine z ?_ (h := fun ν => lnS ν qC6_un_42)
  refine z ?_ (h := fun ν => mc ν)
  refine nl (bkk ?_)
  refine wp_loop' (fun ((k, seen2, jo2) : Nat × Nat × (List Int)) => k ≤ (nbs b).length ∧ seen2 < 18446744073709551616 ∧ joOk jo2 ∧ popc seen ≤ popc seen2 ∧ findL (find s n) s b ((nbs b).drop k) seen2 jo2 = find s (n + 1) seen jo b) (fun ((k, seen2, jo2) : Nat × Nat × (List Int)) => [kP 1 1 0, kP 2 2 0, kP 3 3 0, kP 4 4 0, kP 5 5 0, kS 11 11 0 ((nbs b).length), kI 12 (((nbs b).length : Nat) : Int), kI 13 ((k : Nat) : Int), kO 1 61 1 true [(.val (.int .u64 ((s : Nat) : Int)) : A)], kO 2 61 1 true [(.val (.int .u64 ((seen2 : Nat) : Int)) : A)], kO 3 81 1 true (pl (isl jo2)), kO 4 52 1 true [(.fn 106 [1, 2, 3, 4] : A)], kO 5 46 2 true [aI b.x, aI b.y], kO 11 46 2 true (pl (csl (nbs b))), kF 8, kF 12, kF 19, kF 24, kF 28, kF 30, kF 40, kF 41, kF 45]) (fun ((k, seen2, jo2) : Nat × Nat × (List Int)) => (nbs b).length - k) ((0 : Nat), (seen : Nat), (jo : List Int)) (by exact ⟨Nat.zero_le _, hseen, hj, Nat.le_refl _, rfl⟩) (wkf id (wS <| wS <| wS <| wS <| wS <| wS <| wS <| wE (e := (vint (by first | rfl | omega | (simp; done) | (simp; omega)))) <| wX <| wX <| wP <| wX <| wX <| wP <| by (iterate 9 refine wF ?_); exact wN)) ?_
  rintro ⟨k, seen2, jo2⟩ inv1
  replace inv1 : k ≤ (nbs b).length ∧ seen2 < 18446744073709551616 ∧ joOk jo2 ∧ popc seen ≤ popc seen2 ∧ findL (find s n) s b ((nbs b).drop k) seen2 jo2 = find s (n + 1) seen jo b := inv1
  obtain ⟨inv1_0, inv1_1, inv1_2, inv1_3, inv1_4⟩ := inv1
  have hfin : findL (find s n) s b ((nbs b).drop k) seen2 jo2 = find s (n + 1) seen jo b := by assumption
  have hj2 : joOk jo2 := by assumption
  obtain ⟨hjl, hjr⟩ := hj2
  have h4 := nbs_len b
  refine sq (rg ?_)
  refine z ?_ (h := fun ν => acts_bin ν vt vt (r_lss rfl))
  refine nl (sq ?_)
  refine wi (fun c2 => ?_) (fun c2 => ?_)
  ·skip
   have c2P := of_decide_eq_true c2
   refine sk (sq (bkk (sq (rg ?_))))
   refine z ?_ (h := fun ν => ix0 ν qC6_un_42 qC6_sz_46 vt (hlt := (by first | omega | assumption | exact addC_lt (by assumption) (by assumption) | exact hasS_ok (by assumption) | exact cN_ok (by omega) | (have := popc_add (s := seen2) (c := gC (nbs b) k) (by assumption) (sk4 (by assumption) (by assumption)); omega) | (have := (find_kept (s := s) n (addC seen2 (gC (nbs b) k)) jo2 (cN (gI jo2 (idx (gC (nbs b) k))).toNat) (by first | assumption | exact addC_lt (by assumption) (by assumption)) (by assumption) (cN_ok (by omega))).jo.1; omega))))
   refine z ?_ (h := fun ν => lC ν qC6_ti_46 (by first | omega | assumption | exact addC_lt (by assumption) (by assumption) | exact hasS_ok (by assumption) | exact cN_ok (by omega) | (have := popc_add (s := seen2) (c := gC (nbs b) k) (by assumption) (sk4 (by assumption) (by assumption)); omega) | (have := (find_kept (s := s) n (addC seen2 (gC (nbs b) k)) jo2 (cN (gI jo2 (idx (gC (nbs b) k))).toNat) (by first | assumption | exact addC_lt (by assumption) (by assumption)) (by assumption) (cN_ok (by omega))).jo.1; omega)))
   refine z ?_ (h := fun ν => acts_alloc' (h := 8) (cap := 1) (s := 2) (cells := [aI 0, aI 0]) ν qC6_zi_46 rfl rfl (by decide))
   refine z ?_ (h := fun _ => acts_store (cells := [aI ((gC (nbs b) k).x), aI ((gC (nbs b) k).y)]) qC6_ti_46 xt (by exact rfl) (by decide) (by exact ob1 rfl) (by exact Nat.le_of_ble_eq_true rfl) (by exact rfl))
   refine nl (sq (sq ?_))
   rcases Bool.eq_false_or_eq_true ((hasS s (gC (nbs b) k))) with c3 | c3
   ·skip
    have c3B := idx_lt (hasS_ok c3)
    have c3C := hasS_ok c3
    have c3D := hjr _ c3B
    refine rg ?_
    refine z ?_ (h := fun ν => acts_load_own (x := .val (.int .u64 ((s : Nat) : Int))) ν qC6_ti_61 (by exact rfl))
    refine z ?_ (h := fun ν => acts_load_owns (xs := [vI ((gC (nbs b) k).x), vI ((gC (nbs b) k).y)].map A.val) ν qC6_ti_46 rfl (by decide) rfl)
    refine z ?_ (h := fun ν => acts_call1 ν (impl_set__has_fn s (gC (nbs b) k) (by first | omega | assumption | exact addC_lt (by assumption) (by assumption) | exact hasS_ok (by assumption) | exact cN_ok (by omega) | (have := popc_add (s := seen2) (c := gC (nbs b) k) (by assumption) (sk4 (by assumption) (by assumption)); omega) | (have := (find_kept (s := s) n (addC seen2 (gC (nbs b) k)) jo2 (cN (gI jo2 (idx (gC (nbs b) k))).toNat) (by first | assumption | exact addC_lt (by assumption) (by assumption)) (by assumption) (cN_ok (by omega))).jo.1; omega))) (ac (ArgV.v vt) (ac (ArgV.va va) an)) (resval (congrArg Value.bool c3)))
    refine z ?_ (h := fun ν => acts_un ν vt (r_not (c := false) rfl))
    refine zm ?_
    refine zg ?_ (h := fun ν => step_on rfl rfl (acts_load_own (x := .val (.int .u64 ((seen2 : Nat) : Int))) ν qC6_ti_61 (by exact rfl)))
    refine zg ?_ (h := fun ν => step_on rfl rfl (acts_load_owns (xs := [vI ((gC (nbs b) k).x), vI ((gC (nbs b) k).y)].map A.val) ν qC6_ti_46 rfl (by decide) rfl))
    refine zg ?_ (h := fun ν => step_on rfl rfl (acts_call1 ν (impl_set__has_fn seen2 (gC (nbs b) k) (by first | omega | assumption | exact addC_lt (by assumption) (by assumption) | exact hasS_ok (by assumption) | exact cN_ok (by omega) | (have := popc_add (s := seen2) (c := gC (nbs b) k) (by assumption) (sk4 (by assumption) (by assumption)); omega) | (have := (find_kept (s := s) n (addC seen2 (gC (nbs b) k)) jo2 (cN (gI jo2 (idx (gC (nbs b) k))).toNat) (by first | assumption | exact addC_lt (by assumption) (by assumption)) (by assumption) (cN_ok (by omega))).jo.1; omega))) (ac (ArgV.v vt) (ac (ArgV.va va) an)) rv))
    refine z ?_ (h := fun ν => acts_pick_f ν vt xt)
    refine nl ?_
    refine wi (b := (hasS seen2 (gC (nbs b) k))) (fun c4 => ?_) (fun c4 => ?_)
    ·skip
     refine wp_exit' (rg ?_)
     refine z ?_ (h := fun ν => acts_bin ν vt vc (rA (by first | omega | assumption | exact addC_lt (by assumption) (by assumption) | exact hasS_ok (by assumption) | exact cN_ok (by omega) | (have := popc_add (s := seen2) (c := gC (nbs b) k) (by assumption) (sk4 (by assumption) (by assumption)); omega) | (have := (find_kept (s := s) n (addC seen2 (gC (nbs b) k)) jo2 (cN (gI jo2 (idx (gC (nbs b) k))).toNat) (by first | assumption | exact addC_lt (by assumption) (by assumption)) (by assumption) (cN_ok (by omega))).jo.1; omega)) (by first | omega | assumption | exact addC_lt (by assumption) (by assumption) | exact hasS_ok (by assumption) | exact cN_ok (by omega) | (have := popc_add (s := seen2) (c := gC (nbs b) k) (by assumption) (sk4 (by assumption) (by assumption)); omega) | (have := (find_kept (s := s) n (addC seen2 (gC (nbs b) k)) jo2 (cN (gI jo2 (idx (gC (nbs b) k))).toNat) (by first | assumption | exact addC_lt (by assumption) (by assumption)) (by assumption) (cN_ok (by omega))).jo.1; omega))))
     refine zm (nl ?_)
     exact loop_back ((k + 1), seen2, jo2) (by first | (refine ⟨by omega, by assumption, by assumption, by assumption, ?_⟩; rw [← hfin]; refine (findL_skip (by omega) ?_).symm; first | exact sk1 (by assumption) | exact sk2 (by assumption)) | (have hkp := find_kept (s := s) n (addC seen2 (gC (nbs b) k)) jo2 (cN (gI jo2 (idx (gC (nbs b) k))).toNat) (addC_lt (by assumption) (by assumption)) (by assumption) (cN_ok (by omega)); have hpa := popc_add (s := seen2) (c := gC (nbs b) k) (by assumption) (sk4 (by assumption) (by assumption)); refine ⟨by omega, hkp.lt, hkp.jo, by have := hkp.pc; omega, ?_⟩; rw [← hfin]; exact (findL_no (by omega) (sk3 (by assumption) (by assumption)) (by omega) (by assumption)).symm)) (by show (nbs b).length - (k + 1) < (nbs b).length - k; omega) (wkf id (wS <| wS <| wS <| wS <| wS <| wS <| wS <| wE (e := (vint (by first | rfl | omega | (simp; done) | (simp; omega)))) <| wX <| wX <| wP <| wX <| wX <| wP <| by (iterate 9 refine wF ?_); exact wN))
    ·skip
     refine sk (sq (rg ?_))
     refine z ?_ (h := fun ν => acts_load_own (x := .val (.int .u64 ((seen2 : Nat) : Int))) ν qC6_ti_61 (by exact rfl))
     refine z ?_ (h := fun ν => acts_load_owns (xs := [vI ((gC (nbs b) k).x), vI ((gC (nbs b) k).y)].map A.val) ν qC6_ti_46 rfl (by decide) rfl)
     refine z ?_ (h := fun ν => acts_call1 ν (impl_set__with_fn seen2 (gC (nbs b) k) (by first | omega | assumption | exact addC_lt (by assumption) (by assumption) | exact hasS_ok (by assumption) | exact cN_ok (by omega) | (have := popc_add (s := seen2) (c := gC (nbs b) k) (by assumption) (sk4 (by assumption) (by assumption)); omega) | (have := (find_kept (s := s) n (addC seen2 (gC (nbs b) k)) jo2 (cN (gI jo2 (idx (gC (nbs b) k))).toNat) (by first | assumption | exact addC_lt (by assumption) (by assumption)) (by assumption) (cN_ok (by omega))).jo.1; omega)) (by first | omega | assumption | exact addC_lt (by assumption) (by assumption) | exact hasS_ok (by assumption) | exact cN_ok (by omega) | (have := popc_add (s := seen2) (c := gC (nbs b) k) (by assumption) (sk4 (by assumption) (by assumption)); omega) | (have := (find_kept (s := s) n (addC seen2 (gC (nbs b) k)) jo2 (cN (gI jo2 (idx (gC (nbs b) k))).toNat) (by first | assumption | exact addC_lt (by assumption) (by assumption)) (by assumption) (cN_ok (by omega))).jo.1; omega))) (ac (ArgV.v vt) (ac (ArgV.va va) an)) rv)
     refine z ?_ (h := fun _ => acts_store (cells := [(.val (.int .u64 (((addC seen2 (gC (nbs b) k)) : Nat) : Int)) : A)]) qC6_ti_61 xt (by exact rfl) (by decide) (by exact ob1 rfl) (by exact Nat.le_of_ble_eq_true rfl) (by exact rfl))
     refine nl (sq (rg ?_))
     refine z ?_ (h := fun ν => acts_load_owns (xs := [vI ((gC (nbs b) k).x), vI ((gC (nbs b) k).y)].map A.val) ν qC6_ti_46 rfl (by decide) rfl)
     refine z ?_ (h := fun ν => acts_call1 ν (impl_CellIndex_fn (gC (nbs b) k) (by first | omega | assumption | exact addC_lt (by assumption) (by assumption) | exact hasS_ok (by assumption) | exact cN_ok (by omega) | (have := popc_add (s := seen2) (c := gC (nbs b) k) (by assumption) (sk4 (by assumption) (by assumption)); omega) | (have := (find_kept (s := s) n (addC seen2 (gC (nbs b) k)) jo2 (cN (gI jo2 (idx (gC (nbs b) k))).toNat) (by first | assumption | exact addC_lt (by assumption) (by assumption)) (by assumption) (cN_ok (by omega))).jo.1; omega))) (ac (ArgV.va va) an) rv)
     refine za (nl (sq ?_))
     rcases Bool.eq_false_or_eq_true (decide ((gI jo2 (idx (gC (nbs b) k))) < 0)) with c5 | c5
     ·skip
      have c5P := of_decide_eq_true c5
      refine wp_dr (zdm ?_)
      refine zd ?_ (h := fun ν => ixa ν qC6_un_81 qC6_sz_3 vt (hlt := (by first | omega | assumption | exact addC_lt (by assumption) (by assumption) | exact hasS_ok (by assumption) | exact cN_ok (by omega) | (have := popc_add (s := seen2) (c := gC (nbs b) k) (by assumption) (sk4 (by assumption) (by assumption)); omega) | (have := (find_kept (s := s) n (addC seen2 (gC (nbs b) k)) jo2 (cN (gI jo2 (idx (gC (nbs b) k))).toNat) (by first | assumption | exact addC_lt (by assumption) (by assumption)) (by assumption) (cN_ok (by omega))).jo.1; omega))))
      refine zd ?_ (h := fun ν => lI ν qC6_ti_3 (by first | omega | assumption | exact addC_lt (by assumption) (by assumption) | exact hasS_ok (by assumption) | exact cN_ok (by omega) | (have := popc_add (s := seen2) (c := gC (nbs b) k) (by assumption) (sk4 (by assumption) (by assumption)); omega) | (have := (find_kept (s := s) n (addC seen2 (gC (nbs b) k)) jo2 (cN (gI jo2 (idx (gC (nbs b) k))).toNat) (by first | assumption | exact addC_lt (by assumption) (by assumption)) (by assumption) (cN_ok (by omega))).jo.1; omega)))
      refine zd ?_ (h := fun ν => acts_bin ν vt vc (r_lss (c := true) c5))
      refine zdm ?_
      refine zdg ?_ (h := fun ν => step_off rfl rfl (by decide) rfl ν)
      refine zdg ?_ (h := fun ν => step_off rfl rfl (by decide) rfl ν)
      refine zdg ?_ (h := fun ν => step_off rfl rfl (by decide) rfl ν)
      refine zdg ?_ (h := fun ν => step_off rfl rfl (by decide) rfl ν)
      refine zdg ?_ (h := fun ν => step_off rfl rfl (by decide) rfl ν)
      refine zdg ?_ (h := fun ν => step_off rfl rfl (by decide) rfl ν)
      refine zd ?_ (h := fun ν => acts_pick_t ν vt xc)
      refine dw_nil (wt (sq (rg (zm ?_))))
      refine z ?_ (h := fun ν => acts_load_owns (xs := [vI b.x, vI b.y].map A.val) ν qC6_ti_46 rfl (by decide) rfl)
      refine z ?_ (h := fun ν => acts_call1 ν (impl_CellIndex_fn b (by first | omega | assumption | exact addC_lt (by assumption) (by assumption) | exact hasS_ok (by assumption) | exact cN_ok (by omega) | (have := popc_add (s := seen2) (c := gC (nbs b) k) (by assumption) (sk4 (by assumption) (by assumption)); omega) | (have := (find_kept (s := s) n (addC seen2 (gC (nbs b) k)) jo2 (cN (gI jo2 (idx (gC (nbs b) k))).toNat) (by first | assumption | exact addC_lt (by assumption) (by assumption)) (by assumption) (cN_ok (by omega))).jo.1; omega))) (ac (ArgV.va va) an) rv)
      refine z ?_ (h := fun ν => ixa ν qC6_un_81 qC6_sz_3 vt (hlt := (by first | omega | assumption | exact addC_lt (by assumption) (by assumption) | exact hasS_ok (by assumption) | exact cN_ok (by omega) | (have := popc_add (s := seen2) (c := gC (nbs b) k) (by assumption) (sk4 (by assumption) (by assumption)); omega) | (have := (find_kept (s := s) n (addC seen2 (gC (nbs b) k)) jo2 (cN (gI jo2 (idx (gC (nbs b) k))).toNat) (by first | assumption | exact addC_lt (by assumption) (by assumption)) (by assumption) (cN_ok (by omega))).jo.1; omega))))
      refine z ?_ (h := fun _ => sI qC6_ti_3 xt (by first | omega | assumption | exact addC_lt (by assumption) (by assumption) | exact hasS_ok (by assumption) | exact cN_ok (by omega) | (have := popc_add (s := seen2) (c := gC (nbs b) k) (by assumption) (sk4 (by assumption) (by assumption)); omega) | (have := (find_kept (s := s) n (addC seen2 (gC (nbs b) k)) jo2 (cN (gI jo2 (idx (gC (nbs b) k))).toNat) (by first | assumption | exact addC_lt (by assumption) (by assumption)) (by assumption) (cN_ok (by omega))).jo.1; omega)))
      refine nl (sq (rg (zk (nl (wp_ret' ?_)))))
      exact ⟨_, weak_id, ⟨by kernel_rfl, obj_eq (c := [(.val (.int .u64 (((addC seen2 (gC (nbs b) k)) : Nat) : Int)) : A)]) (by kernel_rfl) (congrArg (fun z : Nat => [(A.val (.int .u64 (z : Int)) : A)]) (by first | rfl | (rw [← hfin]; first | rw [findL_end (by omega)] | rw [findL_free (by omega) (sk3 (by assumption) (by assumption)) (by omega)] | rw [findL_yes (by omega) (sk3 (by assumption) (by assumption)) (by omega) (by assumption)]); (try simp_all))), obj_eq (c := pl (isl (jo2.set (idx (gC (nbs b) k)) (((idx b) : Nat) : Int)))) (by kernel_rfl) (congrArg (fun z => pl (isl z)) (by first | rfl | (rw [← hfin]; first | rw [findL_end (by omega)] | rw [findL_free (by omega) (sk3 (by assumption) (by assumption)) (by omega)] | rw [findL_yes (by omega) (sk3 (by assumption) (by assumption)) (by omega) (by assumption)]); (try simp_all))), by kernel_rfl, trivial⟩, vo_eq 6 (.a (.val (.bool true))) (.a (.val (.bool ((find s (n + 1) seen jo b).1)))) (by kernel_rfl) (congrArg (fun z : Bool => B.a (.val (.bool z))) (by first | rfl | (rw [← hfin]; first | rw [findL_end (by omega)] | rw [findL_free (by omega) (sk3 (by assumption) (by assumption)) (by omega)] | rw [findL_yes (by omega) (sk3 (by assumption) (by assumption)) (by omega) (by assumption)]); (try simp_all)))⟩
     ·skip
      have c5P := of_decide_eq_false c5
      refine wp_dr (zdm ?_)
      refine zd ?_ (h := fun ν => ixa ν qC6_un_81 qC6_sz_3 vt (hlt := (by first | omega | assumption | exact addC_lt (by assumption) (by assumption) | exact hasS_ok (by assumption) | exact cN_ok (by omega) | (have := popc_add (s := seen2) (c := gC (nbs b) k) (by assumption) (sk4 (by assumption) (by assumption)); omega) | (have := (find_kept (s := s) n (addC seen2 (gC (nbs b) k)) jo2 (cN (gI jo2 (idx (gC (nbs b) k))).toNat) (by first | assumption | exact addC_lt (by assumption) (by assumption)) (by assumption) (cN_ok (by omega))).jo.1; omega))))
      refine zd ?_ (h := fun ν => lI ν qC6_ti_3 (by first | omega | assumption | exact addC_lt (by assumption) (by assumption) | exact hasS_ok (by assumption) | exact cN_ok (by omega) | (have := popc_add (s := seen2) (c := gC (nbs b) k) (by assumption) (sk4 (by assumption) (by assumption)); omega) | (have := (find_kept (s := s) n (addC seen2 (gC (nbs b) k)) jo2 (cN (gI jo2 (idx (gC (nbs b) k))).toNat) (by first | assumption | exact addC_lt (by assumption) (by assumption)) (by assumption) (cN_ok (by omega))).jo.1; omega)))
      refine zd ?_ (h := fun ν => acts_bin ν vt vc (r_lss (c := false) c5))
      refine zdm ?_
      refine zdg ?_ (h := fun ν => step_on rfl rfl (acts_load_own (x := .fn 106 [1, 2, 3, 4]) ν qC6_ti_52 (by exact rfl)))
      refine zdg ?_ (h := fun ν => step_on rfl rfl (mt ν))
      refine zdg ?_ (h := fun ν => step_on rfl rfl (ixa ν qC6_un_81 qC6_sz_3 vt (hlt := (by first | omega | assumption | exact addC_lt (by assumption) (by assumption) | exact hasS_ok (by assumption) | exact cN_ok (by omega) | (have := popc_add (s := seen2) (c := gC (nbs b) k) (by assumption) (sk4 (by assumption) (by assumption)); omega) | (have := (find_kept (s := s) n (addC seen2 (gC (nbs b) k)) jo2 (cN (gI jo2 (idx (gC (nbs b) k))).toNat) (by first | assumption | exact addC_lt (by assumption) (by assumption)) (by assumption) (cN_ok (by omega))).jo.1; omega)))))
      refine zdg ?_ (h := fun ν => step_on rfl rfl (lI ν qC6_ti_3 (by first | omega | assumption | exact addC_lt (by assumption) (by assumption) | exact hasS_ok (by assumption) | exact cN_ok (by omega) | (have := popc_add (s := seen2) (c := gC (nbs b) k) (by assumption) (sk4 (by assumption) (by assumption)); omega) | (have := (find_kept (s := s) n (addC seen2 (gC (nbs b) k)) jo2 (cN (gI jo2 (idx (gC (nbs b) k))).toNat) (by first | assumption | exact addC_lt (by assumption) (by assumption)) (by assumption) (cN_ok (by omega))).jo.1; omega))))
      refine zdg ?_ (h := fun ν => step_on rfl rfl (acts_call1 ν (impl_cellAt_fn ((gI jo2 (idx (gC (nbs b) k))).toNat) (by first | omega | assumption | exact addC_lt (by assumption) (by assumption) | exact hasS_ok (by assumption) | exact cN_ok (by omega) | (have := popc_add (s := seen2) (c := gC (nbs b) k) (by assumption) (sk4 (by assumption) (by assumption)); omega) | (have := (find_kept (s := s) n (addC seen2 (gC (nbs b) k)) jo2 (cN (gI jo2 (idx (gC (nbs b) k))).toNat) (by first | assumption | exact addC_lt (by assumption) (by assumption)) (by assumption) (cN_ok (by omega))).jo.1; omega))) (ac (argv_int (b := (((gI jo2 (idx (gC (nbs b) k))).toNat : Nat) : Int)) (by omega) (ArgV.v vt)) an) (ResV.agg [vI ((cN ((gI jo2 (idx (gC (nbs b) k))).toNat)).x), vI ((cN ((gI jo2 (idx (gC (nbs b) k))).toNat)).y)])))
      refine zdg ?_ (h := fun ν => step_on rfl rfl (acts_callV (d := 41) (f := 106) (t := 36) (caps := [1, 2, 3, 4]) (os := [(.o 1, some (.o ⟨61, 1, true, [(.val (.int .u64 ((s : Nat) : Int)) : A)]⟩)), (.o 2, some (.o ⟨61, 1, true, [(.val (.int .u64 (((addC seen2 (gC (nbs b) k)) : Nat) : Int)) : A)]⟩)), (.o 3, some (.o ⟨81, 1, true, pl (isl jo2)⟩)), (.o 4, some (.o ⟨52, 1, true, [(.fn 106 [1, 2, 3, 4] : A)]⟩))]) (os' := [(.o 1, some (.o ⟨61, 1, true, [(.val (.int .u64 ((s : Nat) : Int)) : A)]⟩)), (.o 2, some (.o ⟨61, 1, true, [(.val (.int .u64 (((find s n (addC seen2 (gC (nbs b) k)) jo2 (cN ((gI jo2 (idx (gC (nbs b) k))).toNat))).2.1 : Nat) : Int)) : A)]⟩)), (.o 3, some (.o ⟨81, 1, true, pl (isl ((find s n (addC seen2 (gC (nbs b) k)) jo2 (cN ((gI jo2 (idx (gC (nbs b) k))).toNat))).2.2))⟩)), (.o 4, some (.o ⟨52, 1, true, [(.fn 106 [1, 2, 3, 4] : A)]⟩))]) (r := V.v (.bool ((find s n (addC seen2 (gC (nbs b) k)) jo2 (cN ((gI jo2 (idx (gC (nbs b) k))).toNat))).1))) (bs := [.agg ([vI ((cN ((gI jo2 (idx (gC (nbs b) k))).toNat)).x), vI ((cN ((gI jo2 (idx (gC (nbs b) k))).toNat)).y)].map A.val)]) (keep := [1, 2, 3, 4]) (new := []) (dead := []) ν ((ih s (addC seen2 (gC (nbs b) k)) jo2 (cN ((gI jo2 (idx (gC (nbs b) k))).toNat)) (by first | omega | assumption | exact addC_lt (by assumption) (by assumption) | exact hasS_ok (by assumption) | exact cN_ok (by omega) | (have := popc_add (s := seen2) (c := gC (nbs b) k) (by assumption) (sk4 (by assumption) (by assumption)); omega) | (have := (find_kept (s := s) n (addC seen2 (gC (nbs b) k)) jo2 (cN (gI jo2 (idx (gC (nbs b) k))).toNat) (by first | assumption | exact addC_lt (by assumption) (by assumption)) (by assumption) (cN_ok (by omega))).jo.1; omega)) (by first | omega | assumption | exact addC_lt (by assumption) (by assumption) | exact hasS_ok (by assumption) | exact cN_ok (by omega) | (have := popc_add (s := seen2) (c := gC (nbs b) k) (by assumption) (sk4 (by assumption) (by assumption)); omega) | (have := (find_kept (s := s) n (addC seen2 (gC (nbs b) k)) jo2 (cN (gI jo2 (idx (gC (nbs b) k))).toNat) (by first | assumption | exact addC_lt (by assumption) (by assumption)) (by assumption) (cN_ok (by omega))).jo.1; omega)) (by first | omega | assumption | exact addC_lt (by assumption) (by assumption) | exact hasS_ok (by assumption) | exact cN_ok (by omega) | (have := popc_add (s := seen2) (c := gC (nbs b) k) (by assumption) (sk4 (by assumption) (by assumption)); omega) | (have := (find_kept (s := s) n (addC seen2 (gC (nbs b) k)) jo2 (cN (gI jo2 (idx (gC (nbs b) k))).toNat) (by first | assumption | exact addC_lt (by assumption) (by assumption)) (by assumption) (cN_ok (by omega))).jo.1; omega)) (by first | omega | assumption | exact addC_lt (by assumption) (by assumption) | exact hasS_ok (by assumption) | exact cN_ok (by omega) | (have := popc_add (s := seen2) (c := gC (nbs b) k) (by assumption) (sk4 (by assumption) (by assumption)); omega) | (have := (find_kept (s := s) n (addC seen2 (gC (nbs b) k)) jo2 (cN (gI jo2 (idx (gC (nbs b) k))).toNat) (by first | assumption | exact addC_lt (by assumption) (by assumption)) (by assumption) (cN_ok (by omega))).jo.1; omega)) (by first | omega | assumption | exact addC_lt (by assumption) (by assumption) | exact hasS_ok (by assumption) | exact cN_ok (by omega) | (have := popc_add (s := seen2) (c := gC (nbs b) k) (by assumption) (sk4 (by assumption) (by assumption)); omega) | (have := (find_kept (s := s) n (addC seen2 (gC (nbs b) k)) jo2 (cN (gI jo2 (idx (gC (nbs b) k))).toNat) (by first | assumption | exact addC_lt (by assumption) (by assumption)) (by assumption) (cN_ok (by omega))).jo.1; omega)))) (by kernel_rfl) ⟨ocs (by kernel_rfl), ocs (by kernel_rfl), oc_pl (fun _ => rfl), ocs (by kernel_rfl), trivial⟩ (by kernel_rfl) (ArgOs.cons ((ArgO.va va)) (ArgOs.nil))))
      refine zd ?_ (h := fun ν => acts_pick_f ν vt xt)
      refine dw_nil ?_
      refine wi (b := (find s n (addC seen2 (gC (nbs b) k)) jo2 (cN ((gI jo2 (idx (gC (nbs b) k))).toNat))).1) (fun c6 => ?_) (fun c6 => ?_)
      ·skip
       refine sq (rg (zm ?_))
       refine z ?_ (h := fun ν => acts_load_owns (xs := [vI b.x, vI b.y].map A.val) ν qC6_ti_46 rfl (by decide) rfl)
       refine z ?_ (h := fun ν => acts_call1 ν (impl_CellIndex_fn b (by first | omega | assumption | exact addC_lt (by assumption) (by assumption) | exact hasS_ok (by assumption) | exact cN_ok (by omega) | (have := popc_add (s := seen2) (c := gC (nbs b) k) (by assumption) (sk4 (by assumption) (by assumption)); omega) | (have := (find_kept (s := s) n (addC seen2 (gC (nbs b) k)) jo2 (cN (gI jo2 (idx (gC (nbs b) k))).toNat) (by first | assumption | exact addC_lt (by assumption) (by assumption)) (by assumption) (cN_ok (by omega))).jo.1; omega))) (ac (ArgV.va va) an) rv)
       refine z ?_ (h := fun ν => ixa ν qC6_un_81 qC6_sz_3 vt (hlt := (by first | omega | assumption | exact addC_lt (by assumption) (by assumption) | exact hasS_ok (by assumption) | exact cN_ok (by omega) | (have := popc_add (s := seen2) (c := gC (nbs b) k) (by assumption) (sk4 (by assumption) (by assumption)); omega) | (have := (find_kept (s := s) n (addC seen2 (gC (nbs b) k)) jo2 (cN (gI jo2 (idx (gC (nbs b) k))).toNat) (by first | assumption | exact addC_lt (by assumption) (by assumption)) (by assumption) (cN_ok (by omega))).jo.1; omega))))
       refine z ?_ (h := fun _ => sI qC6_ti_3 xt (by first | omega | assumption | exact addC_lt (by assumption) (by assumption) | exact hasS_ok (by assumption) | exact cN_ok (by omega) | (have := popc_add (s := seen2) (c := gC (nbs b) k) (by assumption) (sk4 (by assumption) (by assumption)); omega) | (have := (find_kept (s := s) n (addC seen2 (gC (nbs b) k)) jo2 (cN (gI jo2 (idx (gC (nbs b) k))).toNat) (by first | assumption | exact addC_lt (by assumption) (by assumption)) (by assumption) (cN_ok (by omega))).jo.1; omega)))
       refine nl (sq (rg (zk (nl (wp_ret' ?_)))))
       exact ⟨_, weak_id, ⟨by kernel_rfl, obj_eq (c := [(.val (.int .u64 (((find s n (addC seen2 (gC (nbs b) k)) jo2 (cN ((gI jo2 (idx (gC (nbs b) k))).toNat))).2.1 : Nat) : Int)) : A)]) (by kernel_rfl) (congrArg (fun z : Nat => [(A.val (.int .u64 (z : Int)) : A)]) (by first | rfl | (rw [← hfin]; first | rw [findL_end (by omega)] | rw [findL_free (by omega) (sk3 (by assumption) (by assumption)) (by omega)] | rw [findL_yes (by omega) (sk3 (by assumption) (by assumption)) (by omega) (by assumption)]); (try simp_all))), obj_eq (c := pl (isl (((find s n (addC seen2 (gC (nbs b) k)) jo2 (cN ((gI jo2 (idx (gC (nbs b) k))).toNat))).2.2).set (idx (gC (nbs b) k)) (((idx b) : Nat) : Int)))) (by kernel_rfl) (congrArg (fun z => pl (isl z)) (by first | rfl | (rw [← hfin]; first | rw [findL_end (by omega)] | rw [findL_free (by omega) (sk3 (by assumption) (by assumption)) (by omega)] | rw [findL_yes (by omega) (sk3 (by assumption) (by assumption)) (by omega) (by assumption)]); (try simp_all))), by kernel_rfl, trivial⟩, vo_eq 6 (.a (.val (.bool true))) (.a (.val (.bool ((find s (n + 1) seen jo b).1)))) (by kernel_rfl) (congrArg (fun z : Bool => B.a (.val (.bool z))) (by first | rfl | (rw [← hfin]; first | rw [findL_end (by omega)] | rw [findL_free (by omega) (sk3 (by assumption) (by assumption)) (by omega)] | rw [findL_yes (by omega) (sk3 (by assumption) (by assumption)) (by omega) (by assumption)]); (try simp_all)))⟩
      ·skip
       refine sk (rg ?_)
       refine z ?_ (h := fun ν => acts_bin ν vt vc (rA (by first | omega | assumption | exact addC_lt (by assumption) (by assumption) | exact hasS_ok (by assumption) | exact cN_ok (by omega) | (have := popc_add (s := seen2) (c := gC (nbs b) k) (by assumption) (sk4 (by assumption) (by assumption)); omega) | (have := (find_kept (s := s) n (addC seen2 (gC (nbs b) k)) jo2 (cN (gI jo2 (idx (gC (nbs b) k))).toNat) (by first | assumption | exact addC_lt (by assumption) (by assumption)) (by assumption) (cN_ok (by omega))).jo.1; omega)) (by first | omega | assumption | exact addC_lt (by assumption) (by assumption) | exact hasS_ok (by assumption) | exact cN_ok (by omega) | (have := popc_add (s := seen2) (c := gC (nbs b) k) (by assumption) (sk4 (by assumption) (by assumption)); omega) | (have := (find_kept (s := s) n (addC seen2 (gC (nbs b) k)) jo2 (cN (gI jo2 (idx (gC (nbs b) k))).toNat) (by first | assumption | exact addC_lt (by assumption) (by assumption)) (by assumption) (cN_ok (by omega))).jo.1; omega))))
       refine zm (nl ?_)
       exact loop_back ((k + 1), (find s n (addC seen2 (gC (nbs b) k)) jo2 (cN (gI jo2 (idx (gC (nbs b) k))).toNat)).2.1, (find s n (addC seen2 (gC (nbs b) k)) jo2 (cN (gI jo2 (idx (gC (nbs b) k))).toNat)).2.2) (by first | (refine ⟨by omega, by assumption, by assumption, by assumption, ?_⟩; rw [← hfin]; refine (findL_skip (by omega) ?_).symm; first | exact sk1 (by assumption) | exact sk2 (by assumption)) | (have hkp := find_kept (s := s) n (addC seen2 (gC (nbs b) k)) jo2 (cN (gI jo2 (idx (gC (nbs b) k))).toNat) (addC_lt (by assumption) (by assumption)) (by assumption) (cN_ok (by omega)); have hpa := popc_add (s := seen2) (c := gC (nbs b) k) (by assumption) (sk4 (by assumption) (by assumption)); refine ⟨by omega, hkp.lt, hkp.jo, by have := hkp.pc; omega, ?_⟩; rw [← hfin]; exact (findL_no (by omega) (sk3 (by assumption) (by assumption)) (by omega) (by assumption)).symm)) (by show (nbs b).length - (k + 1) < (nbs b).length - k; omega) (wkf id (wS <| wS <| wS <| wS <| wS <| wS <| wS <| wE (e := (vint (by first | rfl | omega | (simp; done) | (simp; omega)))) <| wX <| wO (e := renob_l (fun h => h) (by first | rfl | omega | (simp; done) | (simp; omega)) rfl) <| wO (e := renob_eq (fun h => h) (congrArg isl (by first | rfl | omega | (simp; done) | (simp; omega)))) <| wX <| wX <| wP <| by (iterate 9 refine wF ?_); exact wN))
   ·skip
    refine rg ?_
    refine z ?_ (h := fun ν => acts_load_own (x := .val (.int .u64 ((s : Nat) : Int))) ν qC6_ti_61 (by exact rfl))
    refine z ?_ (h := fun ν => acts_load_owns (xs := [vI ((gC (nbs b) k).x), vI ((gC (nbs b) k).y)].map A.val) ν qC6_ti_46 rfl (by decide) rfl)
    refine z ?_ (h := fun ν => acts_call1 ν (impl_set__has_fn s (gC (nbs b) k) (by first | omega | assumption | exact addC_lt (by assumption) (by assumption) | exact hasS_ok (by assumption) | exact cN_ok (by omega) | (have := popc_add (s := seen2) (c := gC (nbs b) k) (by assumption) (sk4 (by assumption) (by assumption)); omega) | (have := (find_kept (s := s) n (addC seen2 (gC (nbs b) k)) jo2 (cN (gI jo2 (idx (gC (nbs b) k))).toNat) (by first | assumption | exact addC_lt (by assumption) (by assumption)) (by assumption) (cN_ok (by omega))).jo.1; omega))) (ac (ArgV.v vt) (ac (ArgV.va va) an)) (resval (congrArg Value.bool c3)))
    refine z ?_ (h := fun ν => acts_un ν vt (r_not (c := true) rfl))
    refine zm (zo (zo (zo ?_)))
    refine z ?_ (h := fun ν => acts_pick_t ν vt xc)
    refine nl (wt (wp_exit' (rg ?_)))
    refine z ?_ (h := fun ν => acts_bin ν vt vc (rA (by first | omega | assumption | exact addC_lt (by assumption) (by assumption) | exact hasS_ok (by assumption) | exact cN_ok (by omega) | (have := popc_add (s := seen2) (c := gC (nbs b) k) (by assumption) (sk4 (by assumption) (by assumption)); omega) | (have := (find_kept (s := s) n (addC seen2 (gC (nbs b) k)) jo2 (cN (gI jo2 (idx (gC (nbs b) k))).toNat) (by first | assumption | exact addC_lt (by assumption) (by assumption)) (by assumption) (cN_ok (by omega))).jo.1; omega)) (by first | omega | assumption | exact addC_lt (by assumption) (by assumption) | exact hasS_ok (by assumption) | exact cN_ok (by omega) | (have := popc_add (s := seen2) (c := gC (nbs b) k) (by assumption) (sk4 (by assumption) (by assumption)); omega) | (have := (find_kept (s := s) n (addC seen2 (gC (nbs b) k)) jo2 (cN (gI jo2 (idx (gC (nbs b) k))).toNat) (by first | assumption | exact addC_lt (by assumption) (by assumption)) (by assumption) (cN_ok (by omega))).jo.1; omega))))
    refine zm (nl ?_)
    exact loop_back ((k + 1), seen2, jo2) (by first | (refine ⟨by omega, by assumption, by assumption, by assumption, ?_⟩; rw [← hfin]; refine (findL_skip (by omega) ?_).symm; first | exact sk1 (by assumption) | exact sk2 (by assumption)) | (have hkp := find_kept (s := s) n (addC seen2 (gC (nbs b) k)) jo2 (cN (gI jo2 (idx (gC (nbs b) k))).toNat) (addC_lt (by assumption) (by assumption)) (by assumption) (cN_ok (by omega)); have hpa := popc_add (s := seen2) (c := gC (nbs b) k) (by assumption) (sk4 (by assumption) (by assumption)); refine ⟨by omega, hkp.lt, hkp.jo, by have := hkp.pc; omega, ?_⟩; rw [← hfin]; exact (findL_no (by omega) (sk3 (by assumption) (by assumption)) (by omega) (by assumption)).symm)) (by show (nbs b).length - (k + 1) < (nbs b).length - k; omega) (wkf id (wS <| wS <| wS <| wS <| wS <| wS <| wS <| wE (e := (vint (by first | rfl | omega | (simp; done) | (simp; omega)))) <| wX <| wX <| wP <| wX <| wX <| wP <| by (iterate 9 refine wF ?_); exact wN))
  ·skip
   have c2P := of_decide_eq_false c2
   refine wp_exit' (sq (rg (zk (nl (wp_ret' ?_)))))
   exact ⟨_, weak_id, ⟨by kernel_rfl, obj_eq (c := [(.val (.int .u64 ((seen2 : Nat) : Int)) : A)]) (by kernel_rfl) (congrArg (fun z : Nat => [(A.val (.int .u64 (z : Int)) : A)]) (by first | rfl | (rw [← hfin]; first | rw [findL_end (by omega)] | rw [findL_free (by omega) (sk3 (by assumption) (by assumption)) (by omega)] | rw [findL_yes (by omega) (sk3 (by assumption) (by assumption)) (by omega) (by assumption)]); (try simp_all))), obj_eq (c := pl (isl jo2)) (by kernel_rfl) (congrArg (fun z => pl (isl z)) (by first | rfl | (rw [← hfin]; first | rw [findL_end (by omega)] | rw [findL_free (by omega) (sk3 (by assumption) (by assumption)) (by omega)] | rw [findL_yes (by omega) (sk3 (by assumption) (by assumption)) (by omega) (by assumption)]); (try simp_all))), by kernel_rfl, trivial⟩, vo_eq 6 (.a (.val (.bool false))) (.a (.val (.bool ((find s (n + 1) seen jo b).1)))) (by kernel_rfl) (congrArg (fun z : Bool => B.a (.val (.bool z))) (by first | rfl | (rw [← hfin]; first | rw [findL_end (by omega)] | rw [findL_free (by omega) (sk3 (by assumption) (by assumption)) (by omega)] | rw [findL_yes (by omega) (sk3 (by assumption) (by assumption)) (by omega) (by assumption)]); (try simp_all)))⟩

set_option maxHeartbeats 4000000 in
set_option maxRecDepth 100000 in
theorem impl_set__matching_fn (s : Nat) (hs : s < 18446744073709551616) : Fn Try.prog 67 [.a (.val (.int .u64 ((s : Nat) : Int)))] [.val (.agg (isl (joined s)).toArray)] := by
 refine fn_intro (N := 32) Try.func67 rfl (by kernel_rfl) rfl (Nat.le_of_ble_eq_true rfl) [1, 2, 3, 6, 7, 8, 17, 18, 24, 29] (ret1 rfl) (fun W => ?_)
 show Wp _ _ _ [kU 0 ((s : Nat) : Int), kF 1, kF 2, kF 3, kF 6, kF 7, kF 8, kF 17, kF 18, kF 24, kF 29]
 refine sq (rg ?_)
 refine z ?_ (h := fun ν => acts_box (h := 1) ν xt (by exact ob1 rfl))
 refine z ?_ (h := fun ν => acts_alloc' (h := 2) (cap := 64) (s := 1) (cells := pl (isl (List.replicate 64 0))) ν qC6_zi_81 rfl (by first | (simp [pl, isl]; done) | (simp [pl, isl_len, *]; done) | (simp [pl_len, isl_len, *]; done) | (simp [pl]; exact List.take_of_length_le (by simp [isl_len, *]))) (by decide))
 refine nl (sq (rg ?_))
 refine z ?_ (h := fun ν => acts_build (cells := isl (List.replicate 64 0)) ν OpVs.nil (by kernel_rfl))
 refine z ?_ (h := fun ν => acts_alloc' (h := 3) (cap := 64) (s := 1) (cells := pl (isl (List.replicate 64 0))) ν qC6_zi_81 rfl (by first | (simp [pl, isl]; done) | (simp [pl, isl_len, *]; done) | (simp [pl_len, isl_len, *]; done) | (simp [pl]; exact List.take_of_length_le (by simp [isl_len, *]))) (by decide))
 refine z ?_ (h := fun _ => acts_store (t := 3) (h := 3) (off := 0) (o := ⟨81, 1, true, pl (isl (List.replicate 64 0))⟩) (b := .agg ((isl (List.replicate 64 0)).map A.val)) (cells := pl (isl (List.replicate 64 0))) qC6_ti_81 (xt) (by first | (simp [B.cs, isl]; done) | (simp [B.cs, isl, *]; done)) (by decide) (by simpa [B.cs, pl] using pl_one (isl_one' _)) (by first | (simp [pl, isl]; done) | (simp [pl, isl_len, *]; done) | (simp [pl_len, isl_len, *]; done) | (simp [pl]; exact List.take_of_length_le (by simp [isl_len, *]))) (by simp [pl, B.cs, isl]))
 refine nl (sq (sq (rg ?_)))
 refine z ?_ (h := fun ν => mc ν)
 refine nl (bkk ?_)
 refine wp_loop' (fun (k : Nat) => k ≤ 64) (fun (k : Nat) => [kP 1 1 0, kP 2 2 0, kP 3 3 0, kI 10 ((k : Nat) : Int), kO 1 61 1 true [(.val (.int .u64 ((s : Nat) : Int)) : A)], kO 2 81 1 true (pl (isl (List.replicate 64 0))), kO 3 81 1 true (pl (isl (List.replicate k (-1) ++ List.replicate (64 - k) 0))), kF 6, kF 7, kF 8, kF 17, kF 18, kF 24, kF 29]) (fun (k : Nat) => 64 - k) ((0 : Nat)) (by exact (Nat.zero_le _ : 0 ≤ _)) (wkf id (wS <| wS <| wS <| wE (e := (vint (by first | rfl | exact rep_set (by omega) | exact (rep_set (by omega)).symm | omega))) <| wX <| wP <| wO (e := renob_eq (fun h => h) (congrArg isl (by first | rfl | exact rep_set (by omega) | exact (rep_set (by omega)).symm | omega))) <| wF <| wF <| wF <| wF <| wF <| wF <| wF <| wN)) ?_
 rintro k inv1
 replace inv1 : k ≤ 64 := inv1
 have inv := inv1
 have hrl := rep_len inv
 refine sq (rg ?_)
 refine z ?_ (h := fun ν => acts_bin ν vt vc (r_lss rfl))
 refine nl (sq ?_)
 refine wi (fun c2 => ?_) (fun c2 => ?_)
 ·skip
  have c2P := of_decide_eq_true c2
  refine sk (sq (bkk (sq (rg (zm (za (nl (rg (zm ?_)))))))))
  refine z ?_ (h := fun ν => ixa ν qC6_un_81 qC6_sz_3 vt (hlt := (by first | omega | assumption | exact set_in (by omega) | decide)))
  refine z ?_ (h := fun _ => sI qC6_ti_3 xc (by first | omega | assumption | exact set_in (by omega) | decide))
  refine nl (rg ?_)
  refine z ?_ (h := fun ν => acts_bin ν vt vc (rA (by first | omega | assumption | exact set_in (by omega) | decide) (by first | omega | assumption | exact set_in (by omega) | decide)))
  refine zm (nl ?_)
  exact loop_back ((k + 1)) (by show _ ≤ _; omega) (by show 64 - (k + 1) < 64 - k; omega) (wkf id (wS <| wS <| wS <| wE (e := (vint (by first | rfl | exact rep_set (by omega) | exact (rep_set (by omega)).symm | omega))) <| wX <| wP <| wO (e := renob_eq (fun h => h) (congrArg isl (by first | rfl | exact rep_set (by omega) | exact (rep_set (by omega)).symm | omega))) <| wF <| wF <| wF <| wF <| wF <| wF <| wF <| wN))
 ·skip
  have c2P := of_decide_eq_false c2
  refine wp_exit' (sq (sq (rg ?_)))
  refine z ?_ (h := fun ν => acts_load_own (x := .val (.int .u64 ((s : Nat) : Int))) ν qC6_ti_61 (by exact rfl))
  refine z ?_ (h := fun ν => acts_call1 ν (impl_set__cells_fn s (by first | omega | assumption | exact set_in (by omega) | decide)) (ac (ArgV.v vt) an) (ResV.row _ _ _ _ 17))
  refine z ?_ (h := fun ν => lnS ν qC6_un_42)
  refine z ?_ (h := fun ν => mc ν)
  refine nl (bkk ?_)
  refine wp_loop' (fun (k : Nat) => k ≤ (setCells s).length) (fun (k : Nat) => [kP 1 1 0, kP 2 2 0, kP 3 3 0, kS 17 17 0 ((setCells s).length), kI 18 (((setCells s).length : Nat) : Int), kI 19 ((k : Nat) : Int), kO 1 61 1 true [(.val (.int .u64 ((s : Nat) : Int)) : A)], kO 2 81 1 true (pl (isl (List.replicate 64 0))), kO 3 81 1 true (pl (isl (((setCells s).take k).foldl (joStep s) jo0))), kO 17 46 2 true (pl (csl (setCells s))), kF 6, kF 7, kF 8, kF 18, kF 24, kF 29]) (fun (k : Nat) => (setCells s).length - k) ((0 : Nat)) (by exact (Nat.zero_le _ : 0 ≤ _)) (wkf id (wS <| wS <| wS <| wS <| wS <| wE (e := (vint (by first | rfl | exact rep_end (by omega) (by assumption) | exact (rep_end (by omega) (by assumption)).symm | (rw [foldl_snocJ _ _ (by omega), joStep, if_pos (by assumption)]; done) | (rw [foldl_snocJ _ _ (by omega), joStep, if_neg (by simp_all)]; done) | omega))) <| wX <| wP <| wO (e := renob_eq (fun h => h) (congrArg isl (by first | rfl | exact rep_end (by omega) (by assumption) | exact (rep_end (by omega) (by assumption)).symm | (rw [foldl_snocJ _ _ (by omega), joStep, if_pos (by assumption)]; done) | (rw [foldl_snocJ _ _ (by omega), joStep, if_neg (by simp_all)]; done) | omega))) <| wP <| wF <| wF <| wF <| wF <| wF <| wF <| wN)) ?_
  rintro k inv3
  replace inv3 : k ≤ (setCells s).length := inv3
  have inv := inv3
  have h64 := setCells_len s
  have hjo : joOk (((setCells s).take k).foldl (joStep s) jo0) := foldl_jo_ok _ (fun c hc => hasS_ok (set_mem.1 (List.mem_of_mem_take hc))) _ jo0_ok
  have hjl := hjo.1
  refine sq (rg ?_)
  refine z ?_ (h := fun ν => acts_bin ν vt vt (r_lss rfl))
  refine nl (sq ?_)
  refine wi (fun c4 => ?_) (fun c4 => ?_)
  ·skip
   have c4P := of_decide_eq_true c4
   refine sk (sq (bkk (sq (rg ?_))))
   refine z ?_ (h := fun ν => ix0 ν qC6_un_42 qC6_sz_46 vt (hlt := (by first | omega | assumption | exact set_in (by omega) | decide)))
   refine z ?_ (h := fun ν => lC ν qC6_ti_46 (by first | omega | assumption | exact set_in (by omega) | decide))
   refine z ?_ (h := fun ν => acts_alloc' (h := 6) (cap := 1) (s := 2) (cells := [aI 0, aI 0]) ν qC6_zi_46 rfl rfl (by decide))
   refine z ?_ (h := fun _ => acts_store (cells := [aI ((gC (setCells s) k).x), aI ((gC (setCells s) k).y)]) qC6_ti_46 xt (by exact rfl) (by decide) (by exact ob1 rfl) (by exact Nat.le_of_ble_eq_true rfl) (by exact rfl))
   refine nl (sq (sq (rg ?_)))
   refine z ?_ (h := fun ν => acts_load_owns (xs := [vI ((gC (setCells s) k).x), vI ((gC (setCells s) k).y)].map A.val) ν qC6_ti_46 rfl (by decide) rfl)
   refine z ?_ (h := fun ν => acts_call1 ν (impl_IsBlack_fn (gC (setCells s) k) ) (ac (ArgV.va va) an) rv)
   refine z ?_ (h := fun ν => acts_un ν vt (r_not rfl))
   refine nl ?_
   refine wi (b := (!(black (gC (setCells s) k)))) (fun c5 => ?_) (fun c5 => ?_)
   ·skip
    have c6 : (black (gC (setCells s) k)) = false := by first | (rw [← Bool.not_eq_true']; exact c5) | simpa using c5
    refine wp_exit' (rg ?_)
    refine z ?_ (h := fun ν => acts_bin ν vt vc (rA (by first | omega | assumption | exact set_in (by omega) | decide) (by first | omega | assumption | exact set_in (by omega) | decide)))
    refine zm (nl ?_)
    exact loop_back ((k + 1)) (by show _ ≤ _; omega) (by show (setCells s).length - (k + 1) < (setCells s).length - k; omega) (wkf id (wS <| wS <| wS <| wS <| wS <| wE (e := (vint (by first | rfl | exact rep_end (by omega) (by assumption) | exact (rep_end (by omega) (by assumption)).symm | (rw [foldl_snocJ _ _ (by omega), joStep, if_pos (by assumption)]; done) | (rw [foldl_snocJ _ _ (by omega), joStep, if_neg (by simp_all)]; done) | omega))) <| wX <| wP <| wO (e := renob_eq (fun h => h) (congrArg isl (by first | rfl | exact rep_end (by omega) (by assumption) | exact (rep_end (by omega) (by assumption)).symm | (rw [foldl_snocJ _ _ (by omega), joStep, if_pos (by assumption)]; done) | (rw [foldl_snocJ _ _ (by omega), joStep, if_neg (by simp_all)]; done) | omega))) <| wP <| wF <| wF <| wF <| wF <| wF <| wF <| wN))
   ·skip
    have c7 : (black (gC (setCells s) k)) = true := by first | (rw [← Bool.not_eq_false']; exact c5) | simpa using c5
    refine sk (sq (rg ?_))
    refine z ?_ (h := fun ν => acts_alloc' (h := 7) (cap := 1) (s := 1) (cells := [(.val (.int .u64 0) : A)]) ν qC6_zi_61 rfl rfl (by decide))
    refine z ?_ (h := fun _ => acts_store (cells := [(.val (.int .u64 0) : A)]) qC6_ti_61 xc (by exact rfl) (by decide) (by exact ob1 rfl) (by exact Nat.le_of_ble_eq_true rfl) (by exact rfl))
    refine nl (sq (rg ?_))
    refine z ?_ (h := fun ν => acts_alloc' (h := 8) (cap := 1) (s := 1) (cells := [(.val (.nilFunc) : A)]) ν qC6_zi_52 rfl rfl (by decide))
    refine nl (sq (rg ?_))
    refine z ?_ (h := fun ν => acts_makeFunc (d := 26) (f := 106) (l := [(1, 1), (7, 7), (3, 3), (8, 8)]) ν)
    refine z ?_ (h := fun _ => acts_store (cells := [(.fn 106 [1, 7, 3, 8] : A)]) qC6_ti_52 xt (by exact rfl) (by decide) (by exact ob1 rfl) (by exact Nat.le_of_ble_eq_true rfl) (by exact rfl))
    refine nl (rg ?_)
    refine z ?_ (h := fun ν => acts_load_own (x := .fn 106 [1, 7, 3, 8]) ν qC6_ti_52 (by exact rfl))
    refine z ?_ (h := fun ν => acts_load_owns (xs := [vI ((gC (setCells s) k).x), vI ((gC (setCells s) k).y)].map A.val) ν qC6_ti_46 rfl (by decide) rfl)
    refine z ?_ (h := fun ν => acts_callV (d := 29) (f := 106) (t := 27) (caps := [1, 7, 3, 8]) (os := [(.o 1, some (.o ⟨61, 1, true, [(.val (.int .u64 ((s : Nat) : Int)) : A)]⟩)), (.o 7, some (.o ⟨61, 1, true, [(.val (.int .u64 ((0 : Nat) : Int)) : A)]⟩)), (.o 3, some (.o ⟨81, 1, true, pl (isl (((setCells s).take k).foldl (joStep s) jo0))⟩)), (.o 8, some (.o ⟨52, 1, true, [(.fn 106 [1, 7, 3, 8] : A)]⟩))]) (os' := [(.o 1, some (.o ⟨61, 1, true, [(.val (.int .u64 ((s : Nat) : Int)) : A)]⟩)), (.o 7, some (.o ⟨61, 1, true, [(.val (.int .u64 (((find s 65 0 (((setCells s).take k).foldl (joStep s) jo0) (gC (setCells s) k)).2.1 : Nat) : Int)) : A)]⟩)), (.o 3, some (.o ⟨81, 1, true, pl (isl ((find s 65 0 (((setCells s).take k).foldl (joStep s) jo0) (gC (setCells s) k)).2.2))⟩)), (.o 8, some (.o ⟨52, 1, true, [(.fn 106 [1, 7, 3, 8] : A)]⟩))]) (r := V.v (.bool ((find s 65 0 (((setCells s).take k).foldl (joStep s) jo0) (gC (setCells s) k)).1))) (bs := [.agg ([vI ((gC (setCells s) k).x), vI ((gC (setCells s) k).y)].map A.val)]) (keep := [1, 7, 3, 8]) (new := []) (dead := []) ν (FnO.ren' (impl_set__matching_1_fn 65 s 0 (((setCells s).take k).foldl (joStep s) jo0) (gC (setCells s) k) (by first | omega | assumption | exact set_in (by omega) | decide) (by first | omega | assumption | exact set_in (by omega) | decide) (by first | omega | assumption | exact set_in (by omega) | decide) (by first | omega | assumption | exact set_in (by omega) | decide) (by first | omega | assumption | exact set_in (by omega) | decide)) (subst1 [(2, 7), (4, 8)]) rfl rfl (by kernel_rfl) (by kernel_rfl) ⟨ocs (by kernel_rfl), ocs (by kernel_rfl), oc_pl (fun _ => rfl), ocs (by kernel_rfl), trivial⟩ (by kernel_rfl) rfl (by simp only [renS, Ob.ren, pl_ren, rws_ren_doms, rws_ren_ints, rws_ren_cels, rwI_ren, rwD_ren]; first | done | rfl) (by simp only [renS, Ob.ren, pl_ren, rws_ren_doms, rws_ren_ints, rws_ren_cels, rwI_ren, rwD_ren]; first | done | rfl) rfl rfl) (by kernel_rfl) ⟨ocs (by kernel_rfl), ocs (by kernel_rfl), oc_pl (fun _ => rfl), ocs (by kernel_rfl), trivial⟩ (by kernel_rfl) (ArgOs.cons ((ArgO.va va)) (ArgOs.nil)))
    refine nl (rg ?_)
    refine z ?_ (h := fun ν => acts_bin ν vt vc (rA (by first | omega | assumption | exact set_in (by omega) | decide) (by first | omega | assumption | exact set_in (by omega) | decide)))
    refine zm (nl ?_)
    exact loop_back ((k + 1)) (by show _ ≤ _; omega) (by show (setCells s).length - (k + 1) < (setCells s).length - k; omega) (wkf id (wS <| wS <| wS <| wS <| wS <| wE (e := (vint (by first | rfl | exact rep_end (by omega) (by assumption) | exact (rep_end (by omega) (by assumption)).symm | (rw [foldl_snocJ _ _ (by omega), joStep, if_pos (by assumption)]; done) | (rw [foldl_snocJ _ _ (by omega), joStep, if_neg (by simp_all)]; done) | omega))) <| wX <| wP <| wO (e := renob_eq (fun h => h) (congrArg isl (by first | rfl | exact rep_end (by omega) (by assumption) | exact (rep_end (by omega) (by assumption)).symm | (rw [foldl_snocJ _ _ (by omega), joStep, if_pos (by assumption)]; done) | (rw [foldl_snocJ _ _ (by omega), joStep, if_neg (by simp_all)]; done) | omega))) <| wP <| wF <| wF <| wF <| wF <| wF <| wF <| wN))
  ·skip
   have c4P := of_decide_eq_false c4
   refine wp_exit' (sq (rg ?_))
   refine z ?_ (h := fun ν => acts_load_owns (xs := pl (isl (((setCells s).take k).foldl (joStep s) jo0))) ν qC6_ti_81 (by first | (simp [pl, isl]; done) | (simp [pl_len, isl_len, bsl_len, *]; done) | (simp only [pl_len, isl_len, bsl_len]; assumption) | (simp [pl, *]; done) | (simp [pl]; exact List.take_of_length_le (by simp [*]))) (by decide) (by first | (simp [pl, isl]; done) | (simp [pl, isl_len, *]; done) | (simp [pl_len, isl_len, *]; done) | (simp [pl]; exact List.take_of_length_le (by simp [isl_len, *]))))
   refine z ?_ (h := fun _ => acts_store (t := 2) (h := 2) (off := 0) (o := ⟨81, 1, true, pl (isl (List.replicate 64 0))⟩) (b := .agg ((isl (((setCells s).take k).foldl (joStep s) jo0)).map A.val)) (cells := pl (isl (((setCells s).take k).foldl (joStep s) jo0))) qC6_ti_81 (xt) (by first | (simp [B.cs, isl]; done) | (simp [B.cs, isl, *]; done)) (by decide) (by simpa [B.cs, pl] using pl_one (isl_one' _)) (by first | (simp [pl, isl]; done) | (simp [pl, isl_len, *]; done) | (simp [pl_len, isl_len, *]; done) | (simp [pl]; exact List.take_of_length_le (by simp [isl_len, *]))) (by simp [pl, B.cs, isl]))
   refine nl (wp_ret' ?_)
   exact vres_cells 2 81 2 64 ⟨81, 1, true, pl (isl (((setCells s).take k).foldl (joStep s) jo0))⟩ _ (by first | (simp [pl_len, isl_len, *]; done) | (simp [pl, isl, *]; done)) (by kernel_rfl) (by kernel_rfl) qC6_ti_81 (Nat.le_of_ble_eq_true rfl) (bagg (by (have e : k = (setCells s).length := by omega); subst e; rw [List.take_length]; rfl))
end Cl
end Go.Proofs.Ytjgjeflidcembaa
