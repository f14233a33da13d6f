/- Walks over clean states, printed by wg.py. No statement is proved here. -/
import Derived.Test.YtabgfoindidigaaC13
namespace Go.Proofs.Ytabgfoindidigaa
namespace Cl
open Go.ChangeShapes Go.WideShapes Go.ChangeAt Go.RowKit

theorem dfilt_yes {p : Dom → Bool} {l : List Dom} {k : Nat} (h : k < l.length) (hp : p (gD l k) = true) : (l.take (k+1)).filter p = (l.take k).filter p ++ [gD l k] := by
  rw [List.take_succ_eq_append_getElem h, List.filter_append, ← gD_eq h]; simp [hp]
theorem dfilt_no {p : Dom → Bool} {l : List Dom} {k : Nat} (h : k < l.length) (hp : p (gD l k) = false) : (l.take (k+1)).filter p = (l.take k).filter p := by
  rw [List.take_succ_eq_append_getElem h, List.filter_append, ← gD_eq h]; simp [hp]
theorem dfilt_len (p : Dom → Bool) (l : List Dom) (k : Nat) : ((l.take k).filter p).length ≤ k := by
  refine Nat.le_trans (List.length_filter_le _ _) ?_; rw [List.length_take]; omega
theorem dfilt_all (p : Dom → Bool) {l : List Dom} {k : Nat} (h : ¬ (k : Int) < (l.length : Int)) : (l.take k).filter p = l.filter p := by rw [List.take_of_length_le (by omega)]
/-- the two dominoes of each of the first cells -/
def dmT (g : Nat → Cel) (p : Dom → Bool) (k : Nat) : List Dom := ((List.range k).flatMap (fun i => [⟨(g i).x, (g i).y, false⟩, ⟨(g i).x, (g i).y, true⟩])).filter p
def dmJ (g : Nat → Cel) (f : Nat → Bool) (p : Dom → Bool) (k j : Nat) : List Dom := dmT g p k ++ ((List.range j).map (fun t => (⟨(g k).x, (g k).y, f t⟩ : Dom))).filter p
theorem dmJ_zero (g : Nat → Cel) (f : Nat → Bool) (p : Dom → Bool) (k : Nat) : dmJ g f p k 0 = dmT g p k := by unfold dmJ; simp
theorem dmJ_yes {g : Nat → Cel} {f : Nat → Bool} {p : Dom → Bool} {k j : Nat} (h : p ⟨(g k).x, (g k).y, f j⟩ = true) : dmJ g f p k (j + 1) = dmJ g f p k j ++ [⟨(g k).x, (g k).y, f j⟩] := by
  unfold dmJ; rw [List.range_succ, List.map_append, List.filter_append, List.append_assoc]; simp [h]
theorem dmJ_no {g : Nat → Cel} {f : Nat → Bool} {p : Dom → Bool} {k j : Nat} (h : p ⟨(g k).x, (g k).y, f j⟩ = false) : dmJ g f p k (j + 1) = dmJ g f p k j := by
  unfold dmJ; rw [List.range_succ, List.map_append, List.filter_append]; simp [h]
theorem dmJ_end {g : Nat → Cel} {f : Nat → Bool} (h0 : f 0 = false) (h1 : f 1 = true) (p : Dom → Bool) (k : Nat) : dmJ g f p k 2 = dmT g p (k + 1) := by
  unfold dmJ dmT
  rw [List.range_succ (n := k), List.flatMap_append, List.filter_append]
  simp [List.range_succ, h0, h1]
theorem dmT_len (g : Nat → Cel) (p : Dom → Bool) (k : Nat) : (dmT g p k).length ≤ 2 * k := by
  refine Nat.le_trans (List.length_filter_le _ _) ?_
  induction k with
  | zero => simp
  | succ k ih =>
    rw [List.range_succ, List.flatMap_append, List.length_append]
    have : ∀ x : List Dom, x.length ≤ 2 * k → x.length + 2 ≤ 2 * (k + 1) := fun x h => by omega
    exact this _ ih
theorem dmJ_len (g : Nat → Cel) (f : Nat → Bool) (p : Dom → Bool) (k j : Nat) : (dmJ g f p k j).length ≤ 2 * k + j := by
  unfold dmJ; rw [List.length_append]
  have := dmT_len g p k
  have h2 := List.length_filter_le p ((List.range j).map (fun t => (⟨(g k).x, (g k).y, f t⟩ : Dom)))
  rw [List.length_map, List.length_range] at h2
  omega
theorem cellsOf_no {l : List Int} (h : ¬ regOk l = true) : cellsOf l = [] := by unfold cellsOf; rw [if_neg h]
theorem cells_reg {l : List Int} {k : Nat} (h : k < (cellsOf l).length) : regOk l = true := by
  rcases Bool.eq_false_or_eq_true (regOk l) with h1 | h1
  · exact h1
  · rw [cellsOf_no (by rw [h1]; simp)] at h; simp at h
theorem cells_okc {l : List Int} {k : Nat} (h : k < (cellsOf l).length) : okc (gC (cellsOf l) k).x (gC (cellsOf l) k).y = true := by
  have h1 := gC_mem h
  unfold cellsOf at h1 ⊢
  rw [if_pos (cells_reg h)] at h1 ⊢
  exact hasS_ok (set_mem.1 h1)
/-- the dominoes that the counting tells -/
def cwD (l : List Int) (p : Nat → Bool) : List Dom := dmT cN (fun d => okD d && p (cntW l d)) 64
def allD (l : List Int) : List Dom := dmT (gC (cellsOf l)) (fun d => okD d && hasR l (cb d)) (cellsOf l).length
theorem dmT_map (C : List Cel) (p : Dom → Bool) : dmT (gC C) p C.length = (C.flatMap (fun c => [⟨c.x, c.y, false⟩, ⟨c.x, c.y, true⟩])).filter p := by
  unfold dmT
  congr 1
  have : (List.range C.length).map (gC C) = C := by
    apply List.ext_getElem
    · simp
    · intro i h1 h2; simp only [List.getElem_map, List.getElem_range]; exact gC_eq h2
  have h2 : C.flatMap (fun c => [(⟨c.x, c.y, false⟩ : Dom), ⟨c.x, c.y, true⟩]) = ((List.range C.length).map (gC C)).flatMap (fun c => [(⟨c.x, c.y, false⟩ : Dom), ⟨c.x, c.y, true⟩]) := by rw [this]
  rw [h2, List.flatMap_map]
theorem flat_filter {α β : Type} (f : α → List β) (p : β → Bool) (q : α → Bool) : ∀ L : List α, (∀ a ∈ L, q a = false → (f a).filter p = []) → (L.flatMap f).filter p = ((L.filter q).flatMap f).filter p := by
  intro L
  induction L with
  | nil => intro _; rfl
  | cons a L ih =>
    intro h
    have ih' := ih (fun b hb => h b (by simp [hb]))
    cases hq : q a
    · rw [List.filter_cons_of_neg (by simp [hq]), List.flatMap_cons, List.filter_append, h a (by simp) hq, List.nil_append, ih']
    · rw [List.filter_cons_of_pos hq, List.flatMap_cons, List.flatMap_cons, List.filter_append, List.filter_append, ih']
theorem cw_has {l : List Int} {d : Dom} (h : 0 < cntW l d) : regOk l = true ∧ fitD (regSet l) d = true := by
  unfold cntW at h
  split at h
  · rename_i h1; rwa [Bool.and_eq_true] at h1
  · omega
theorem cw_all {l : List Int} {p : Nat → Bool} (h0 : p 0 = false) : cwD l p = (allD l).filter (fun d => p (cntW l d)) := by
  have key : ∀ d, p (cntW l d) = true → regOk l = true ∧ fitD (regSet l) d = true := by
    intro d hd
    refine cw_has (Nat.pos_of_ne_zero fun e => ?_)
    rw [e, h0] at hd; cases hd
  unfold cwD allD
  rw [dmT_map, List.filter_filter]
  unfold cellsOf
  rcases Bool.eq_false_or_eq_true (regOk l) with hr | hr
  · rw [if_pos hr]
    unfold dmT
    rw [flat_filter _ _ (regSet l).testBit]
    · unfold setCells
      rw [List.flatMap_map]
      refine List.filter_congr fun d _ => ?_
      cases hp : p (cntW l d)
      · simp
      · obtain ⟨_, h2⟩ := key d hp
        obtain ⟨h3, h4, h5⟩ := fit_ok h2
        have h6 : hasR l (cb d) = true := by rw [hasR_S hr (ok_cb h3)]; unfold hasS; rw [ok_cb h3, h5]; rfl
        rw [h6]; simp
    · intro i hi hb
      rw [List.mem_range] at hi
      rw [List.filter_eq_nil_iff]
      intro d hd hpd
      simp only [Bool.and_eq_true] at hpd
      obtain ⟨_, h2⟩ := key d hpd.2
      obtain ⟨h3, h4, h5⟩ := fit_ok h2
      have : idx (ca d) = i := by
        simp only [List.mem_cons, List.not_mem_nil, or_false] at hd
        rcases hd with rfl | rfl
        · exact ca_dmn false hi
        · exact ca_dmn true hi
      rw [this, hb] at h4; cases h4
  · rw [if_neg (by rw [hr]; simp)]
    rw [List.flatMap_nil, List.filter_nil]
    unfold dmT
    rw [List.filter_eq_nil_iff]
    intro d _ hpd
    simp only [Bool.and_eq_true] at hpd
    have := (key d hpd.2).1
    rw [hr] at this; cases this
theorem cw_no {l : List Int} {p : Nat → Bool} (h0 : p 0 = false) (h : ¬ regOk l = true) : cwD l p = [] := by
  rw [cw_all h0]; unfold allD; rw [cellsOf_no h]; rfl
theorem cwD_len (l : List Int) (p : Nat → Bool) : (cwD l p).length ≤ 128 := dmT_len _ _ _
theorem allD_len (l : List Int) : (allD l).length ≤ 128 := by
  have := dmT_len (gC (cellsOf l)) (fun d => okD d && hasR l (cb d)) (cellsOf l).length
  have h2 := cellsOf_len l
  unfold allD; omega
theorem cwD_ok {l : List Int} {p : Nat → Bool} {d : Dom} (h : d ∈ cwD l p) : okD d = true := by
  unfold cwD dmT at h
  have := (List.mem_filter.1 h).2
  rw [Bool.and_eq_true] at this; exact this.1
theorem and_t {a b : Bool} (h1 : a = true) (h2 : b = true) : (a && b) = true := by rw [h1, h2]; rfl
theorem and_f1 {a b : Bool} (h1 : a = false) : (a && b) = false := by rw [h1]; rfl
theorem and_f2 {a b : Bool} (h2 : b = false) : (a && b) = false := by rw [h2]; exact Bool.and_false _
def posP : Nat → Bool := fun n => decide (0 < n)

theorem qC14_eg_39 : Try.prog.eqGuardType Try.prog.depth 39 = false := by kernel_rfl
theorem qC14_fo_39_0 : fieldOff Try.prog 39 0 = some 0 := by kernel_rfl
theorem qC14_fo_39_1 : fieldOff Try.prog 39 1 = some 1 := by kernel_rfl
theorem qC14_sz_32 : (Try.prog.info? 32).map (·.size) = some 3 := by kernel_rfl
theorem qC14_sz_39 : (Try.prog.info? 39).map (·.size) = some 2 := by kernel_rfl
theorem qC14_sz_4 : (Try.prog.info? 4).map (·.size) = some 1 := by kernel_rfl
theorem qC14_ti_3 : TI Try.prog 3 false 1 := ⟨⟨_, Try.underlying3, rfl⟩, by kernel_rfl⟩
theorem qC14_ti_30 : TI Try.prog 30 true 1 := ⟨⟨_, Try.underlying30, rfl⟩, by kernel_rfl⟩
theorem qC14_ti_32 : TI Try.prog 32 true 3 := ⟨⟨_, Try.underlying32, rfl⟩, by kernel_rfl⟩
theorem qC14_ti_39 : TI Try.prog 39 true 2 := ⟨⟨_, Try.underlying39, rfl⟩, by kernel_rfl⟩
theorem qC14_ti_4 : TI Try.prog 4 false 1 := ⟨⟨_, Try.underlying4, rfl⟩, by kernel_rfl⟩
theorem qC14_un_42 : Try.prog.underlying 42 = some (.slice 32) := Try.underlying42
theorem qC14_un_71 : Try.prog.underlying 71 = some (.slice 39) := Try.underlying71
theorem qC14_un_92 : Try.prog.underlying 92 = some (.slice 4) := Try.underlying92
theorem qC14_zi_32 : ZI Try.prog 32 (.agg #[.int .i64 0, .int .i64 0, .bool false]) 3 24 := by unfold ZI; kernel_rfl
theorem qC14_zi_39 : ZI Try.prog 39 (.agg #[.int .i64 0, .int .i64 0]) 2 16 := by unfold ZI; kernel_rfl
theorem qC14_zi_4 : ZI Try.prog 4 (.bool false) 1 1 := by unfold ZI; kernel_rfl
set_option maxHeartbeats 4000000 in
set_option maxRecDepth 100000 in
theorem impl_PossibleDominoes_1_fn (n : Nat) : Fn Try.prog 48 [.a (.val (.int .i64 ((n : Nat) : Int)))] [.val (.bool (posP n))] := by
  refine fn_intro (N := 5) Try.func48 rfl (by kernel_rfl) rfl (Nat.le_of_ble_eq_true rfl) [] (ret1 rfl) (fun W => ?_)
  show Wp _ _ _ [(.s 0, some (.s (V.v (.int .i64 ((n : Nat) : Int)))))]
  refine wp_seq' ?_
  refine wp_region_t ?_
  refine wpc (step_plain rfl (acts_assign (d := 2) (ltN rfl) (OpX.const (.bool false)))) (by kernel_rfl) ?_
  refine wpl_nil ?_
  refine wp_seq' ?_
  refine wp_region_t ?_
  refine wpc (step_plain rfl (acts_move (d := 3) (ltN rfl) (OpX.tmp 0 (V.v (.int .i64 ((n : Nat) : Int)))))) (by kernel_rfl) ?_
  refine wpc (step_plain rfl (acts_bin (d := 4) (ltN rfl) (OpV.tmp 3 (.int .i64 ((n : Nat) : Int))) (OpV.const (.int .i64 0)) (r_gtr (c := (decide (0 < ((n : Nat) : Int)))) rfl))) (by kernel_rfl) ?_
  refine wpc (step_plain rfl (acts_assign (d := 2) (ltN rfl) (OpX.tmp 4 (V.v (.bool (decide (0 < ((n : Nat) : Int)))))))) (by kernel_rfl) ?_
  refine wpl_nil ?_
  refine wp_ret' ?_
  exact VRes.tmp 2 (.a (.val (.bool (decide (0 < ((n : Nat) : Int)))))) _ (by kernel_rfl) (bval (congrArg Value.bool (by (unfold posP; simp; done))))

set_option maxHeartbeats 4000000 in
set_option maxRecDepth 100000 in
theorem impl_dominoesWhere_fn (l : List Int) (hl : l.length ≤ 4194304) : Fn Try.prog 47 [.agg [(.slv l.length 1 (isl l) : A)], .a (.fn 48 [])] [.row 32 3 (cwD l posP).length (dsl (cwD l posP))] := by
  have hb2 : ([false, true] : List Bool).length = 2 := rfl
  refine fn_intro (N := 45) Try.func47 rfl (by kernel_rfl) rfl (Nat.le_of_ble_eq_true rfl) [2, 9, 10, 11, 15, 16, 22, 30, 35, 36, 40, 41] (ret1 rfl) (fun W => ?_)
  show Wp _ _ _ [(.s 0, some (.s (V.b (.agg [(.slv l.length 1 (isl l) : A)])))), (.s 1, some (.s (V.b (.a (.fn 48 []))))), (.o 2, some .free), (.o 9, some .free), (.o 10, some .free), (.o 11, some .free), (.o 15, some .free), (.o 16, some .free), (.o 22, some .free), (.o 30, some .free), (.o 35, some .free), (.o 36, some .free), (.o 40, some .free), (.o 41, some .free)]
  refine wp_seq' ?_
  refine wp_region_t ?_
  refine wpc (step_plain rfl (acts_box (d := 2) (h := 2) (b := .agg [(.slv l.length 1 (isl l) : A)]) (ltN rfl) (OpX.tmp 0 (V.b (.agg [(.slv l.length 1 (isl l) : A)]))) (by intro y hy; simp [B.cs] at hy; subst hy; rfl))) (by kernel_rfl) ?_
  refine wpc (step_plain rfl (acts_assign (d := 4) (ltN rfl) (OpX.const (.slice none 0 0)))) (by kernel_rfl) ?_
  refine wpl_nil ?_
  refine wp_seq' ?_
  refine wp_region_t ?_
  refine wpc (step_plain rfl (acts_buildSlice0' (d := 11) (h := 11) (s := 3) (ltN rfl) qC14_un_42 qC14_zi_32)) (by kernel_rfl) ?_
  refine wpc (step_plain rfl (acts_assign (d := 5) (ltN rfl) (OpX.tmp 11 (V.b (.a (.sl 11 0 0)))))) (by kernel_rfl) ?_
  refine wpl_nil ?_
  refine wp_seq' ?_
  refine wp_seq' ?_
  refine wp_region_t ?_
  refine wpc (step_plain rfl (acts_move (d := 12) (ltN rfl) (OpX.const (.int .i64 0)))) (by kernel_rfl) ?_
  refine wpl_nil ?_
  refine wp_block' ?_
  refine wp_loop' (fun (i : Nat) => i ≤ 64) (fun (i : Nat) => [(.s 1, some (.s (V.b (.a (.fn 48 []))))), (.s 2, some (.s (V.p 2 0))), (.s 5, some (.s (V.b (.a (.sl 11 0 ((dmT cN (fun d => okD d && posP (cntW l d)) i).length)))))), (.s 12, some (.s (V.v (.int .i64 ((i : Nat) : Int))))), (.o 2, some (.o ⟨30, 1, true, [(.slv l.length 1 (isl l) : A)]⟩)), (.o 11, some (.o ⟨32, 3, true, pl (dsl (dmT cN (fun d => okD d && posP (cntW l d)) i))⟩)), (.o 9, some .free), (.o 10, some .free), (.o 15, some .free), (.o 16, some .free), (.o 22, some .free), (.o 30, some .free), (.o 35, some .free), (.o 36, some .free), (.o 40, some .free), (.o 41, some .free)]) (fun (i : Nat) => 64 - i) ((0 : Nat)) (by exact (Nat.zero_le _ : 0 ≤ _)) (weak_of id [9, 10, 15, 16, 22, 30, 35, 36, 40, 41] (by kernel_rfl) (wk_s (v' := V.b (.a (.fn 48 []))) (by kernel_rfl) rfl rfl (wk_s (v' := V.p 2 0) (by kernel_rfl) rfl rfl (wk_s (v' := V.b (.a (.sl 11 0 0))) (by kernel_rfl) (vsl (by rfl) rfl) rfl (wk_s (v' := V.v (.int .i64 0)) (by kernel_rfl) (vint (by rfl)) rfl (wk_o (o' := ⟨30, 1, true, [(.slv l.length 1 (isl l) : A)]⟩) (by kernel_rfl) (renob_l (fun h => h) rfl rfl) rfl (wk_o (o' := ⟨32, 3, true, pl (dsl [])⟩) (by kernel_rfl) (renob_eq (fun h => h) (congrArg dsl (by rfl))) rfl (wk_f rfl (wk_f rfl (wk_f rfl (wk_f rfl (wk_f rfl (wk_f rfl (wk_f rfl (wk_f rfl (wk_f rfl (wk_f rfl (wk_nil)))))))))))))))))) ?_
  rintro i inv1
  replace inv1 : i ≤ 64 := inv1
  have invi := inv1
  show Wp _ _ _ [(.s 1, some (.s (V.b (.a (.fn 48 []))))), (.s 2, some (.s (V.p 2 0))), (.s 5, some (.s (V.b (.a (.sl 11 0 ((dmT cN (fun d => okD d && posP (cntW l d)) i).length)))))), (.s 12, some (.s (V.v (.int .i64 ((i : Nat) : Int))))), (.o 2, some (.o ⟨30, 1, true, [(.slv l.length 1 (isl l) : A)]⟩)), (.o 11, some (.o ⟨32, 3, true, pl (dsl (dmT cN (fun d => okD d && posP (cntW l d)) i))⟩)), (.o 9, some .free), (.o 10, some .free), (.o 15, some .free), (.o 16, some .free), (.o 22, some .free), (.o 30, some .free), (.o 35, some .free), (.o 36, some .free), (.o 40, some .free), (.o 41, some .free)]
  have hml := dmT_len cN (fun d => okD d && posP (cntW l d)) i
  refine wp_seq' ?_
  refine wp_region_t ?_
  refine wpc (step_plain rfl (acts_bin (d := 13) (ltN rfl) (OpV.tmp 12 (.int .i64 ((i : Nat) : Int))) (OpV.const (.int .i64 64)) (r_lss (c := (decide (((i : Nat) : Int) < 64))) rfl))) (by kernel_rfl) ?_
  refine wpl_nil ?_
  refine wp_seq' ?_
  refine wp_if (t := 13) (decide (((i : Nat) : Int) < 64)) (by kernel_rfl) (fun c2 => ?_) (fun c2 => ?_)
  · skip
    have c2P := of_decide_eq_true c2
    refine wp_skip' ?_
    refine wp_seq' ?_
    refine wp_block' ?_
    refine wp_seq' ?_
    refine wp_region_t ?_
    refine wpc (step_plain rfl (acts_move (d := 14) (ltN rfl) (OpX.tmp 12 (V.v (.int .i64 ((i : Nat) : Int)))))) (by kernel_rfl) ?_
    refine wpc (step_plain rfl (acts_assign (d := 6) (ltN rfl) (OpX.tmp 14 (V.v (.int .i64 ((i : Nat) : Int)))))) (by kernel_rfl) ?_
    refine wpl_nil ?_
    refine wp_seq' ?_
    refine wp_region_t ?_
    refine wpc (step_plain rfl (acts_buildSlice' (d := 15) (h := 15) (n := 2) (s := 1) (xs := bsl ([false, true] : List Bool)) (ltN rfl) qC14_un_92 qC14_zi_4 (OpVs.cons (i := 0) (OpV.const (.bool false)) (OpVs.cons (i := 1) (OpV.const (.bool true)) (OpVs.nil))) (by decide) (by decide) (by kernel_rfl) rfl)) (by kernel_rfl) ?_
    refine wpc (step_plain rfl (acts_len (d := 16) (X := .sl 15 0 2) (n := 2) (iv := 2) (ltN rfl) qC14_un_92 (OpX.tmp 15 (V.b (.a (.sl 15 0 2)))) (LenOf.sl _ _ _) rfl)) (by kernel_rfl) ?_
    refine wpc (step_plain rfl (acts_move (d := 17) (ltN rfl) (OpX.const (.int .i64 0)))) (by kernel_rfl) ?_
    refine wpl_nil ?_
    refine wp_block' ?_
    refine wp_loop' (fun (j : Nat) => j ≤ 2) (fun (j : Nat) => [(.s 1, some (.s (V.b (.a (.fn 48 []))))), (.s 2, some (.s (V.p 2 0))), (.s 5, some (.s (V.b (.a (.sl 11 0 ((dmJ cN (gB [false, true]) (fun d => okD d && posP (cntW l d)) i j).length)))))), (.s 6, some (.s (V.v (.int .i64 ((i : Nat) : Int))))), (.s 12, some (.s (V.v (.int .i64 ((i : Nat) : Int))))), (.s 15, some (.s (V.b (.a (.sl 15 0 2))))), (.s 16, some (.s (V.v (.int .i64 2)))), (.s 17, some (.s (V.v (.int .i64 ((j : Nat) : Int))))), (.o 2, some (.o ⟨30, 1, true, [(.slv l.length 1 (isl l) : A)]⟩)), (.o 11, some (.o ⟨32, 3, true, pl (dsl (dmJ cN (gB [false, true]) (fun d => okD d && posP (cntW l d)) i j))⟩)), (.o 15, some (.o ⟨4, 1, true, pl (bsl [false, true])⟩)), (.o 9, some .free), (.o 10, some .free), (.o 16, some .free), (.o 22, some .free), (.o 30, some .free), (.o 35, some .free), (.o 36, some .free), (.o 40, some .free), (.o 41, some .free)]) (fun (j : Nat) => 2 - j) ((0 : Nat)) (by exact (Nat.zero_le _ : 0 ≤ _)) (weak_of id [9, 10, 16, 22, 30, 35, 36, 40, 41] (by kernel_rfl) (wk_s (v' := V.b (.a (.fn 48 []))) (by kernel_rfl) rfl rfl (wk_s (v' := V.p 2 0) (by kernel_rfl) rfl rfl (wk_s (v' := V.b (.a (.sl 11 0 ((dmT cN (fun d => okD d && posP (cntW l d)) i).length)))) (by kernel_rfl) (vsl (by (exact congrArg List.length (by first | rfl | exact (dmJ_zero _ _ _ _).symm | exact dmJ_zero _ _ _ _ | exact (dmJ_yes (and_t (by assumption) (by assumption))).symm | exact dmJ_yes (and_t (by assumption) (by assumption)) | exact dmJ_no (and_f1 (by assumption)) | exact dmJ_no (and_f2 (by assumption)) | exact (dmJ_no (and_f1 (by assumption))).symm | exact (dmJ_no (and_f2 (by assumption))).symm | omega))) rfl) rfl (wk_s (v' := V.v (.int .i64 ((i : Nat) : Int))) (by kernel_rfl) rfl rfl (wk_s (v' := V.v (.int .i64 ((i : Nat) : Int))) (by kernel_rfl) rfl rfl (wk_s (v' := V.b (.a (.sl 15 0 2))) (by kernel_rfl) rfl rfl (wk_s (v' := V.v (.int .i64 2)) (by kernel_rfl) rfl rfl (wk_s (v' := V.v (.int .i64 0)) (by kernel_rfl) (vint (by rfl)) rfl (wk_o (o' := ⟨30, 1, true, [(.slv l.length 1 (isl l) : A)]⟩) (by kernel_rfl) (renob_l (fun h => h) rfl rfl) rfl (wk_o (o' := ⟨32, 3, true, pl (dsl (dmT cN (fun d => okD d && posP (cntW l d)) i))⟩) (by kernel_rfl) (renob_eq (fun h => h) (congrArg dsl (by exact dmJ_zero _ _ _ _))) rfl (wk_o (o' := ⟨4, 1, true, pl (bsl [false, true])⟩) (by kernel_rfl) (renob_pl (fun h => h)) rfl (wk_f rfl (wk_f rfl (wk_f rfl (wk_f rfl (wk_f rfl (wk_f rfl (wk_f rfl (wk_f rfl (wk_f rfl (wk_nil)))))))))))))))))))))) ?_
    rintro j inv3
    replace inv3 : j ≤ 2 := inv3
    have invj := inv3
    show Wp _ _ _ [(.s 1, some (.s (V.b (.a (.fn 48 []))))), (.s 2, some (.s (V.p 2 0))), (.s 5, some (.s (V.b (.a (.sl 11 0 ((dmJ cN (gB [false, true]) (fun d => okD d && posP (cntW l d)) i j).length)))))), (.s 6, some (.s (V.v (.int .i64 ((i : Nat) : Int))))), (.s 12, some (.s (V.v (.int .i64 ((i : Nat) : Int))))), (.s 15, some (.s (V.b (.a (.sl 15 0 2))))), (.s 16, some (.s (V.v (.int .i64 2)))), (.s 17, some (.s (V.v (.int .i64 ((j : Nat) : Int))))), (.o 2, some (.o ⟨30, 1, true, [(.slv l.length 1 (isl l) : A)]⟩)), (.o 11, some (.o ⟨32, 3, true, pl (dsl (dmJ cN (gB [false, true]) (fun d => okD d && posP (cntW l d)) i j))⟩)), (.o 15, some (.o ⟨4, 1, true, pl (bsl [false, true])⟩)), (.o 9, some .free), (.o 10, some .free), (.o 16, some .free), (.o 22, some .free), (.o 30, some .free), (.o 35, some .free), (.o 36, some .free), (.o 40, some .free), (.o 41, some .free)]
    have hmj := dmJ_len cN (gB [false, true]) (fun d => okD d && posP (cntW l d)) i j
    refine wp_seq' ?_
    refine wp_region_t ?_
    refine wpc (step_plain rfl (acts_bin (d := 18) (ltN rfl) (OpV.tmp 17 (.int .i64 ((j : Nat) : Int))) (OpV.tmp 16 (.int .i64 2)) (r_lss (c := (decide (((j : Nat) : Int) < 2))) rfl))) (by kernel_rfl) ?_
    refine wpl_nil ?_
    refine wp_seq' ?_
    refine wp_if (t := 18) (decide (((j : Nat) : Int) < 2)) (by kernel_rfl) (fun c4 => ?_) (fun c4 => ?_)
    · skip
      have c4P := of_decide_eq_true c4
      refine wp_skip' ?_
      refine wp_seq' ?_
      refine wp_block' ?_
      refine wp_seq' ?_
      refine wp_region_t ?_
      refine wpc (step_plain rfl (acts_index_sl (d := 19) (x := 15) (h := 15) (off := 0) (n := 2) (k := j) (off' := (j * 1)) (o := ⟨4, 1, true, pl (bsl [false, true])⟩) (ltN rfl) qC14_un_92 qC14_sz_4 (OpV.tmp 17 (.int .i64 ((j : Nat) : Int))) rfl (by omega) (by (simp; done)))) (by kernel_rfl) ?_
      refine wpc (step_plain rfl (acts_load_own (d := 20) (t := 19) (h := 15) (off := (j * 1)) (o := ⟨4, 1, true, pl (bsl [false, true])⟩)  (x := .val (.bool (gB [false, true] j))) (ltN rfl) qC14_ti_4 (pl_get (bsl_get1 (k := j) (by omega))))) (by kernel_rfl) ?_
      refine wpc (step_plain rfl (acts_assign (d := 8) (ltN rfl) (OpX.tmp 20 (V.v (.bool (gB [false, true] j)))))) (by kernel_rfl) ?_
      refine wpl_nil ?_
      refine wp_seq' ?_
      refine wp_region_t ?_
      refine wpc (step_plain rfl (acts_move (d := 21) (ltN rfl) (OpX.tmp 6 (V.v (.int .i64 ((i : Nat) : Int)))))) (by kernel_rfl) ?_
      refine wpc (step_plain rfl (acts_call1 (d := 22) (ltN rfl) (impl_cellAt_fn i (by omega)) (ArgVs.cons (ArgV.v (OpV.tmp 21 (.int .i64 ((i : Nat) : Int)))) (ArgVs.nil)) (ResV.agg [(.int .i64 ((cN i).x) : Value), .int .i64 ((cN i).y)]))) (by kernel_rfl) ?_
      refine wpc (step_plain rfl (acts_alloc' (d := 9) (h := 9) (cap := 1) (s := 2) (cells := [(.val (.int .i64 0) : A), .val (.int .i64 0)]) (ltN rfl) qC14_zi_39 rfl rfl (by decide))) (by kernel_rfl) ?_
      refine wpc (step_plain rfl (acts_store (t := 9) (h := 9) (off := 0) (o := ⟨39, 2, true, [(.val (.int .i64 0) : A), .val (.int .i64 0)]⟩) (b := .agg ([(.int .i64 ((cN i).x) : Value), .int .i64 ((cN i).y)].map A.val)) (cells := [(.val (.int .i64 ((cN i).x)) : A), .val (.int .i64 ((cN i).y))]) qC14_ti_39 (OpX.tmp 22 (V.av [(.int .i64 ((cN i).x) : Value), .int .i64 ((cN i).y)])) rfl (by decide) (by intro y hy; simp [B.cs] at hy; rcases hy with rfl | rfl <;> rfl) (Nat.le_of_ble_eq_true rfl) rfl)) (by kernel_rfl) ?_
      refine wpl_nil ?_
      refine wp_seq' ?_
      refine wp_region_t ?_
      refine wpc (step_plain rfl (acts_field (d := 23) (t := 9) (h := 9) (off := 0) (off' := 0) (ltN rfl) qC14_fo_39_0 rfl)) (by kernel_rfl) ?_
      refine wpc (step_plain rfl (acts_load_own (d := 24) (t := 23) (h := 9) (off := 0) (o := ⟨39, 2, true, [(.val (.int .i64 ((cN i).x)) : A), .val (.int .i64 ((cN i).y))]⟩)  (x := .val (.int .i64 ((cN i).x))) (ltN rfl) qC14_ti_3 rfl)) (by kernel_rfl) ?_
      refine wpc (step_plain rfl (acts_field (d := 25) (t := 9) (h := 9) (off := 0) (off' := 1) (ltN rfl) qC14_fo_39_1 rfl)) (by kernel_rfl) ?_
      refine wpc (step_plain rfl (acts_load_own (d := 26) (t := 25) (h := 9) (off := 1) (o := ⟨39, 2, true, [(.val (.int .i64 ((cN i).x)) : A), .val (.int .i64 ((cN i).y))]⟩)  (x := .val (.int .i64 ((cN i).y))) (ltN rfl) qC14_ti_3 rfl)) (by kernel_rfl) ?_
      refine wpc (step_plain rfl (acts_move (d := 27) (ltN rfl) (OpX.tmp 8 (V.v (.bool (gB [false, true] j)))))) (by kernel_rfl) ?_
      refine wpc (step_plain rfl (acts_build (d := 28) (t := 32) (cells := [(.int .i64 ((cN i).x) : Value), .int .i64 ((cN i).y), .bool (gB [false, true] j)]) (ltN rfl) (OpVs.cons (i := 0) (OpV.tmp 24 (.int .i64 ((cN i).x))) (OpVs.cons (i := 1) (OpV.tmp 26 (.int .i64 ((cN i).y))) (OpVs.cons (i := 2) (OpV.tmp 27 (.bool (gB [false, true] j))) (OpVs.nil)))) rfl)) (by kernel_rfl) ?_
      refine wpc (step_plain rfl (acts_alloc' (d := 10) (h := 10) (cap := 1) (s := 3) (cells := [(.val (.int .i64 0) : A), .val (.int .i64 0), .val (.bool false)]) (ltN rfl) qC14_zi_32 rfl rfl (by decide))) (by kernel_rfl) ?_
      refine wpc (step_plain rfl (acts_store (t := 10) (h := 10) (off := 0) (o := ⟨32, 3, true, [(.val (.int .i64 0) : A), .val (.int .i64 0), .val (.bool false)]⟩) (b := .agg ([(.int .i64 ((cN i).x) : Value), .int .i64 ((cN i).y), .bool (gB [false, true] j)].map A.val)) (cells := [(.val (.int .i64 ((cN i).x)) : A), .val (.int .i64 ((cN i).y)), .val (.bool (gB [false, true] j))]) qC14_ti_32 (OpX.tmp 28 (V.av [(.int .i64 ((cN i).x) : Value), .int .i64 ((cN i).y), .bool (gB [false, true] j)])) rfl (by decide) (by intro y hy; simp [B.cs] at hy; rcases hy with rfl | rfl | rfl <;> rfl) (Nat.le_of_ble_eq_true rfl) rfl)) (by kernel_rfl) ?_
      refine wpl_nil ?_
      refine wp_seq' ?_
      rcases Bool.eq_false_or_eq_true ((okD (⟨(cN i).x, (cN i).y, (gB [false, true] j)⟩ : Dom))) with c5 | c5
      · skip
        refine wp_region_t ?_
        refine wpc (step_plain rfl (acts_load_owns (d := 29) (t := 10) (h := 10) (off := 0) (o := ⟨32, 3, true, [(.val (.int .i64 ((cN i).x)) : A), .val (.int .i64 ((cN i).y)), .val (.bool (gB [false, true] j))]⟩)  (xs := [(.int .i64 ((cN i).x) : Value), .int .i64 ((cN i).y), .bool (gB [false, true] j)].map A.val) (ltN rfl) qC14_ti_32 rfl (by decide) rfl)) (by kernel_rfl) ?_
        refine wpc (step_plain rfl (acts_call1 (d := 30) (ltN rfl) (impl_DominoOk_fn (⟨(cN i).x, (cN i).y, (gB [false, true] j)⟩ : Dom) ) (ArgVs.cons (ArgV.va (vs := [(.int .i64 ((cN i).x) : Value), .int .i64 ((cN i).y), .bool (gB [false, true] j)]) (OpV.agg 29 [(.int .i64 ((cN i).x) : Value), .int .i64 ((cN i).y), .bool (gB [false, true] j)])) (ArgVs.nil)) ((resval (congrArg Value.bool c5))))) (by kernel_rfl) ?_
        refine wpc (step_plain rfl (acts_move (d := 31) (ltN rfl) (OpX.tmp 30 (V.v (.bool true))))) (by kernel_rfl) ?_
        refine wpc (step_on (dj := 31) rfl rfl (acts_move (d := 32) (ltN rfl) (OpX.tmp 1 (V.b (.a (.fn 48 [])))))) (by kernel_rfl) ?_
        refine wpc (step_on (dj := 31) rfl rfl (acts_load_owns (d := 33) (t := 2) (h := 2) (off := 0) (o := ⟨30, 1, true, [(.slv l.length 1 (isl l) : A)]⟩)  (xs := [(.slv l.length 1 (isl l) : A)]) (ltN rfl) qC14_ti_30 rfl (by decide) rfl)) (by kernel_rfl) ?_
        refine wpc (step_on (dj := 31) rfl rfl (acts_load_owns (d := 34) (t := 10) (h := 10) (off := 0) (o := ⟨32, 3, true, [(.val (.int .i64 ((cN i).x)) : A), .val (.int .i64 ((cN i).y)), .val (.bool (gB [false, true] j))]⟩)  (xs := [(.int .i64 ((cN i).x) : Value), .int .i64 ((cN i).y), .bool (gB [false, true] j)].map A.val) (ltN rfl) qC14_ti_32 rfl (by decide) rfl)) (by kernel_rfl) ?_
        refine wpc (step_on (dj := 31) rfl rfl (acts_call1 (d := 35) (ltN rfl) (impl_CountWith_fn l (⟨(cN i).x, (cN i).y, (gB [false, true] j)⟩ : Dom) (by omega)) (ArgVs.cons (ArgV.regv 33 l.length 1 (isl l)) (ArgVs.cons (ArgV.va (vs := [(.int .i64 ((cN i).x) : Value), .int .i64 ((cN i).y), .bool (gB [false, true] j)]) (OpV.agg 34 [(.int .i64 ((cN i).x) : Value), .int .i64 ((cN i).y), .bool (gB [false, true] j)])) (ArgVs.nil))) (ResV.val _))) (by kernel_rfl) ?_
        refine wpc (step_on (dj := 31) rfl rfl (acts_callV (d := 36) (f := 48) (t := 32) (caps := []) (os := []) (os' := []) (r := V.v (.bool (posP (cntW l (⟨(cN i).x, (cN i).y, (gB [false, true] j)⟩ : Dom))))) (bs := [.a (.val (.int .i64 (((cntW l (⟨(cN i).x, (cN i).y, (gB [false, true] j)⟩ : Dom)) : Nat) : Int)))]) (keep := []) (new := []) (dead := []) (ltN rfl) (FnO.of_fn (impl_PossibleDominoes_1_fn (cntW l (⟨(cN i).x, (cN i).y, (gB [false, true] j)⟩ : Dom)) ) (by kernel_rfl)) rfl trivial rfl (ArgOs.cons (ArgO.v (OpV.tmp 35 (.int .i64 (((cntW l (⟨(cN i).x, (cN i).y, (gB [false, true] j)⟩ : Dom)) : Nat) : Int)))) (ArgOs.nil)))) (by kernel_rfl) ?_
        refine wpc (step_plain rfl (acts_pick_t (d := 37) (ltN rfl) (OpV.tmp 31 (.bool true)) (OpX.tmp 36 (V.v (.bool (posP (cntW l (⟨(cN i).x, (cN i).y, (gB [false, true] j)⟩ : Dom)))))))) (by kernel_rfl) ?_
        refine wpl_nil ?_
        refine wp_if (t := 37) ((posP (cntW l (⟨(cN i).x, (cN i).y, (gB [false, true] j)⟩ : Dom)))) (by kernel_rfl) (fun c6 => ?_) (fun c6 => ?_)
        · skip
          refine wp_region_t ?_
          refine wpc (step_plain rfl (acts_move (d := 38) (ltN rfl) (OpX.tmp 5 (V.b (.a (.sl 11 0 ((dmJ cN (gB [false, true]) (fun d => okD d && posP (cntW l d)) i j).length))))))) (by kernel_rfl) ?_
          refine wpc (step_plain rfl (acts_load_owns (d := 39) (t := 10) (h := 10) (off := 0) (o := ⟨32, 3, true, [(.val (.int .i64 ((cN i).x)) : A), .val (.int .i64 ((cN i).y)), .val (.bool (gB [false, true] j))]⟩)  (xs := [(.int .i64 ((cN i).x) : Value), .int .i64 ((cN i).y), .bool (gB [false, true] j)].map A.val) (ltN rfl) qC14_ti_32 rfl (by decide) rfl)) (by kernel_rfl) ?_
          refine wpc (step_plain rfl (acts_buildSlice' (d := 40) (h := 40) (n := 1) (s := 3) (xs := dsl ([(⟨(cN i).x, (cN i).y, (gB [false, true] j)⟩ : Dom)] : List Dom)) (ltN rfl) qC14_un_42 qC14_zi_32 (OpVs.cons (i := 0) (OpV.agg 39 [(.int .i64 ((cN i).x) : Value), .int .i64 ((cN i).y), .bool (gB [false, true] j)]) (OpVs.nil)) (by decide) (by decide) (by kernel_rfl) rfl)) (by kernel_rfl) ?_
          refine wpc (step_plain rfl (acts_app (d := 41) (x := 38) (h := 11) (h2 := 41) (n := ((dmJ cN (gB [false, true]) (fun d => okD d && posP (cntW l d)) i j).length)) (m := 1) (nm := (((dmJ cN (gB [false, true]) (fun d => okD d && posP (cntW l d)) i j) ++ [(⟨(cN i).x, (cN i).y, (gB [false, true] j)⟩ : Dom)]).length)) (X := .sl 40 0 1) (xs := dsl (dmJ cN (gB [false, true]) (fun d => okD d && posP (cntW l d)) i j)) (ys := dsl [(⟨(cN i).x, (cN i).y, (gB [false, true] j)⟩ : Dom)]) (zs := dsl ((dmJ cN (gB [false, true]) (fun d => okD d && posP (cntW l d)) i j) ++ [(⟨(cN i).x, (cN i).y, (gB [false, true] j)⟩ : Dom)])) (ltN rfl) qC14_un_42 qC14_zi_32 rfl (by decide) (by decide) (by exact dsl_len _) (OpX.tmp 40 (V.b (.a (.sl 40 0 1)))) (src_own (h := 40) (T := 32) (s := 3) (ex := true) (n := 1) (by exact dsl_len _)) (dsl_one' _) (by omega) (by exact (dsl_append _ _).symm) (by (simp; done)))) (by kernel_rfl) ?_
          refine wpc (step_plain rfl (acts_assign (d := 5) (ltN rfl) (OpX.tmp 41 (V.b (.a (.sl 41 0 (((dmJ cN (gB [false, true]) (fun d => okD d && posP (cntW l d)) i j) ++ [(⟨(cN i).x, (cN i).y, (gB [false, true] j)⟩ : Dom)]).length))))))) (by kernel_rfl) ?_
          refine wpl_nil ?_
          refine wp_region_t ?_
          refine wpc (step_plain rfl (acts_bin (d := 42) (ltN rfl) (OpV.tmp 17 (.int .i64 ((j : Nat) : Int))) (OpV.const (.int .i64 1)) (r_add (c := (((j : Nat) : Int) + 1)) (w64 (by omega) (by omega))))) (by kernel_rfl) ?_
          refine wpc (step_plain rfl (acts_move (d := 17) (ltN rfl) (OpX.tmp 42 (V.v (.int .i64 (((j : Nat) : Int) + 1)))))) (by kernel_rfl) ?_
          refine wpl_nil ?_
          exact loop_back ((j + 1)) (by show _ ≤ _; omega) (by show 2 - (j + 1) < 2 - j; omega) (weak_of (subst1 [(11, 41)]) [9, 10, 16, 22, 30, 35, 36, 40, 41] (by kernel_rfl) (wk_s (v' := V.b (.a (.fn 48 []))) (by kernel_rfl) rfl rfl (wk_s (v' := V.p 2 0) (by kernel_rfl) rfl rfl (wk_s (v' := V.b (.a (.sl 41 0 (((dmJ cN (gB [false, true]) (fun d => okD d && posP (cntW l d)) i j) ++ [(⟨(cN i).x, (cN i).y, (gB [false, true] j)⟩ : Dom)]).length)))) (by kernel_rfl) (vsl (by (exact congrArg List.length (by first | rfl | exact (dmJ_zero _ _ _ _).symm | exact dmJ_zero _ _ _ _ | exact (dmJ_yes (and_t (by assumption) (by assumption))).symm | exact dmJ_yes (and_t (by assumption) (by assumption)) | exact dmJ_no (and_f1 (by assumption)) | exact dmJ_no (and_f2 (by assumption)) | exact (dmJ_no (and_f1 (by assumption))).symm | exact (dmJ_no (and_f2 (by assumption))).symm | omega))) rfl) rfl (wk_s (v' := V.v (.int .i64 ((i : Nat) : Int))) (by kernel_rfl) rfl rfl (wk_s (v' := V.v (.int .i64 ((i : Nat) : Int))) (by kernel_rfl) rfl rfl (wk_s (v' := V.b (.a (.sl 15 0 2))) (by kernel_rfl) rfl rfl (wk_s (v' := V.v (.int .i64 2)) (by kernel_rfl) rfl rfl (wk_s (v' := V.v (.int .i64 (((j : Nat) : Int) + 1))) (by kernel_rfl) (vint (by rfl)) rfl (wk_o (o' := ⟨30, 1, true, [(.slv l.length 1 (isl l) : A)]⟩) (by kernel_rfl) (renob_l (fun h => h) rfl rfl) rfl (wk_o (o' := ⟨32, 3, true, pl (dsl ((dmJ cN (gB [false, true]) (fun d => okD d && posP (cntW l d)) i j) ++ [(⟨(cN i).x, (cN i).y, (gB [false, true] j)⟩ : Dom)]))⟩) (by kernel_rfl) (renob_eq (fun h => h) (congrArg dsl (by exact dmJ_yes (and_t (by assumption) (by assumption))))) rfl (wk_o (o' := ⟨4, 1, true, pl (bsl [false, true])⟩) (by kernel_rfl) (renob_pl (fun h => h)) rfl (wk_f rfl (wk_f rfl (wk_f rfl (wk_f rfl (wk_f rfl (wk_f rfl (wk_f rfl (wk_f rfl (wk_f rfl (wk_nil))))))))))))))))))))))
        · skip
          refine wp_skip' ?_
          refine wp_region_t ?_
          refine wpc (step_plain rfl (acts_bin (d := 42) (ltN rfl) (OpV.tmp 17 (.int .i64 ((j : Nat) : Int))) (OpV.const (.int .i64 1)) (r_add (c := (((j : Nat) : Int) + 1)) (w64 (by omega) (by omega))))) (by kernel_rfl) ?_
          refine wpc (step_plain rfl (acts_move (d := 17) (ltN rfl) (OpX.tmp 42 (V.v (.int .i64 (((j : Nat) : Int) + 1)))))) (by kernel_rfl) ?_
          refine wpl_nil ?_
          exact loop_back ((j + 1)) (by show _ ≤ _; omega) (by show 2 - (j + 1) < 2 - j; omega) (weak_of id [9, 10, 16, 22, 30, 35, 36, 40, 41] (by kernel_rfl) (wk_s (v' := V.b (.a (.fn 48 []))) (by kernel_rfl) rfl rfl (wk_s (v' := V.p 2 0) (by kernel_rfl) rfl rfl (wk_s (v' := V.b (.a (.sl 11 0 ((dmJ cN (gB [false, true]) (fun d => okD d && posP (cntW l d)) i j).length)))) (by kernel_rfl) (vsl (by (exact congrArg List.length (by first | rfl | exact (dmJ_zero _ _ _ _).symm | exact dmJ_zero _ _ _ _ | exact (dmJ_yes (and_t (by assumption) (by assumption))).symm | exact dmJ_yes (and_t (by assumption) (by assumption)) | exact dmJ_no (and_f1 (by assumption)) | exact dmJ_no (and_f2 (by assumption)) | exact (dmJ_no (and_f1 (by assumption))).symm | exact (dmJ_no (and_f2 (by assumption))).symm | omega))) rfl) rfl (wk_s (v' := V.v (.int .i64 ((i : Nat) : Int))) (by kernel_rfl) rfl rfl (wk_s (v' := V.v (.int .i64 ((i : Nat) : Int))) (by kernel_rfl) rfl rfl (wk_s (v' := V.b (.a (.sl 15 0 2))) (by kernel_rfl) rfl rfl (wk_s (v' := V.v (.int .i64 2)) (by kernel_rfl) rfl rfl (wk_s (v' := V.v (.int .i64 (((j : Nat) : Int) + 1))) (by kernel_rfl) (vint (by rfl)) rfl (wk_o (o' := ⟨30, 1, true, [(.slv l.length 1 (isl l) : A)]⟩) (by kernel_rfl) (renob_l (fun h => h) rfl rfl) rfl (wk_o (o' := ⟨32, 3, true, pl (dsl (dmJ cN (gB [false, true]) (fun d => okD d && posP (cntW l d)) i j))⟩) (by kernel_rfl) (renob_eq (fun h => h) (congrArg dsl (by exact dmJ_no (and_f2 (by assumption))))) rfl (wk_o (o' := ⟨4, 1, true, pl (bsl [false, true])⟩) (by kernel_rfl) (renob_pl (fun h => h)) rfl (wk_f rfl (wk_f rfl (wk_f rfl (wk_f rfl (wk_f rfl (wk_f rfl (wk_f rfl (wk_f rfl (wk_f rfl (wk_nil))))))))))))))))))))))
      · skip
        refine wp_region_t ?_
        refine wpc (step_plain rfl (acts_load_owns (d := 29) (t := 10) (h := 10) (off := 0) (o := ⟨32, 3, true, [(.val (.int .i64 ((cN i).x)) : A), .val (.int .i64 ((cN i).y)), .val (.bool (gB [false, true] j))]⟩)  (xs := [(.int .i64 ((cN i).x) : Value), .int .i64 ((cN i).y), .bool (gB [false, true] j)].map A.val) (ltN rfl) qC14_ti_32 rfl (by decide) rfl)) (by kernel_rfl) ?_
        refine wpc (step_plain rfl (acts_call1 (d := 30) (ltN rfl) (impl_DominoOk_fn (⟨(cN i).x, (cN i).y, (gB [false, true] j)⟩ : Dom) ) (ArgVs.cons (ArgV.va (vs := [(.int .i64 ((cN i).x) : Value), .int .i64 ((cN i).y), .bool (gB [false, true] j)]) (OpV.agg 29 [(.int .i64 ((cN i).x) : Value), .int .i64 ((cN i).y), .bool (gB [false, true] j)])) (ArgVs.nil)) ((resval (congrArg Value.bool c5))))) (by kernel_rfl) ?_
        refine wpc (step_plain rfl (acts_move (d := 31) (ltN rfl) (OpX.tmp 30 (V.v (.bool false))))) (by kernel_rfl) ?_
        refine wpc (step_off (dj := 31) (b' := false) rfl rfl (by decide) rfl (ltN rfl)) (by kernel_rfl) ?_
        refine wpc (step_off (dj := 31) (b' := false) rfl rfl (by decide) rfl (ltN rfl)) (by kernel_rfl) ?_
        refine wpc (step_off (dj := 31) (b' := false) rfl rfl (by decide) rfl (ltN rfl)) (by kernel_rfl) ?_
        refine wpc (step_off (dj := 31) (b' := false) rfl rfl (by decide) rfl (ltN rfl)) (by kernel_rfl) ?_
        refine wpc (step_off (dj := 31) (b' := false) rfl rfl (by decide) rfl (ltN rfl)) (by kernel_rfl) ?_
        refine wpc (step_plain rfl (acts_pick_f (d := 37) (ltN rfl) (OpV.tmp 31 (.bool false)) (OpX.const (.bool false)))) (by kernel_rfl) ?_
        refine wpl_nil ?_
        refine wp_if_f (t := 37) (by kernel_rfl) ?_
        refine wp_skip' ?_
        refine wp_region_t ?_
        refine wpc (step_plain rfl (acts_bin (d := 42) (ltN rfl) (OpV.tmp 17 (.int .i64 ((j : Nat) : Int))) (OpV.const (.int .i64 1)) (r_add (c := (((j : Nat) : Int) + 1)) (w64 (by omega) (by omega))))) (by kernel_rfl) ?_
        refine wpc (step_plain rfl (acts_move (d := 17) (ltN rfl) (OpX.tmp 42 (V.v (.int .i64 (((j : Nat) : Int) + 1)))))) (by kernel_rfl) ?_
        refine wpl_nil ?_
        exact loop_back ((j + 1)) (by show _ ≤ _; omega) (by show 2 - (j + 1) < 2 - j; omega) (weak_of id [9, 10, 16, 22, 30, 35, 36, 40, 41] (by kernel_rfl) (wk_s (v' := V.b (.a (.fn 48 []))) (by kernel_rfl) rfl rfl (wk_s (v' := V.p 2 0) (by kernel_rfl) rfl rfl (wk_s (v' := V.b (.a (.sl 11 0 ((dmJ cN (gB [false, true]) (fun d => okD d && posP (cntW l d)) i j).length)))) (by kernel_rfl) (vsl (by (exact congrArg List.length (by first | rfl | exact (dmJ_zero _ _ _ _).symm | exact dmJ_zero _ _ _ _ | exact (dmJ_yes (and_t (by assumption) (by assumption))).symm | exact dmJ_yes (and_t (by assumption) (by assumption)) | exact dmJ_no (and_f1 (by assumption)) | exact dmJ_no (and_f2 (by assumption)) | exact (dmJ_no (and_f1 (by assumption))).symm | exact (dmJ_no (and_f2 (by assumption))).symm | omega))) rfl) rfl (wk_s (v' := V.v (.int .i64 ((i : Nat) : Int))) (by kernel_rfl) rfl rfl (wk_s (v' := V.v (.int .i64 ((i : Nat) : Int))) (by kernel_rfl) rfl rfl (wk_s (v' := V.b (.a (.sl 15 0 2))) (by kernel_rfl) rfl rfl (wk_s (v' := V.v (.int .i64 2)) (by kernel_rfl) rfl rfl (wk_s (v' := V.v (.int .i64 (((j : Nat) : Int) + 1))) (by kernel_rfl) (vint (by rfl)) rfl (wk_o (o' := ⟨30, 1, true, [(.slv l.length 1 (isl l) : A)]⟩) (by kernel_rfl) (renob_l (fun h => h) rfl rfl) rfl (wk_o (o' := ⟨32, 3, true, pl (dsl (dmJ cN (gB [false, true]) (fun d => okD d && posP (cntW l d)) i j))⟩) (by kernel_rfl) (renob_eq (fun h => h) (congrArg dsl (by exact dmJ_no (and_f1 (by assumption))))) rfl (wk_o (o' := ⟨4, 1, true, pl (bsl [false, true])⟩) (by kernel_rfl) (renob_pl (fun h => h)) rfl (wk_f rfl (wk_f rfl (wk_f rfl (wk_f rfl (wk_f rfl (wk_f rfl (wk_f rfl (wk_f rfl (wk_f rfl (wk_nil))))))))))))))))))))))
    · skip
      have c4P := of_decide_eq_false c4
      refine wp_exit' ?_
      refine wp_region_t ?_
      refine wpc (step_plain rfl (acts_bin (d := 43) (ltN rfl) (OpV.tmp 12 (.int .i64 ((i : Nat) : Int))) (OpV.const (.int .i64 1)) (r_add (c := (((i : Nat) : Int) + 1)) (w64 (by omega) (by omega))))) (by kernel_rfl) ?_
      refine wpc (step_plain rfl (acts_move (d := 12) (ltN rfl) (OpX.tmp 43 (V.v (.int .i64 (((i : Nat) : Int) + 1)))))) (by kernel_rfl) ?_
      refine wpl_nil ?_
      exact loop_back ((i + 1)) (by show _ ≤ _; omega) (by show 64 - (i + 1) < 64 - i; omega) (weak_of id [9, 10, 15, 16, 22, 30, 35, 36, 40, 41] (by kernel_rfl) (wk_s (v' := V.b (.a (.fn 48 []))) (by kernel_rfl) rfl rfl (wk_s (v' := V.p 2 0) (by kernel_rfl) rfl rfl (wk_s (v' := V.b (.a (.sl 11 0 ((dmJ cN (gB [false, true]) (fun d => okD d && posP (cntW l d)) i j).length)))) (by kernel_rfl) (vsl (by (exact congrArg List.length (by first | rfl | omega | ((have e : j = 2 := by omega); subst e; exact (dmJ_end rfl rfl _ _).symm) | ((have e : j = 2 := by omega); subst e; exact dmJ_end rfl rfl _ _)))) rfl) rfl (wk_s (v' := V.v (.int .i64 (((i : Nat) : Int) + 1))) (by kernel_rfl) (vint (by rfl)) rfl (wk_o (o' := ⟨30, 1, true, [(.slv l.length 1 (isl l) : A)]⟩) (by kernel_rfl) (renob_l (fun h => h) rfl rfl) rfl (wk_o (o' := ⟨32, 3, true, pl (dsl (dmJ cN (gB [false, true]) (fun d => okD d && posP (cntW l d)) i j))⟩) (by kernel_rfl) (renob_eq (fun h => h) (congrArg dsl (by ((have e : j = 2 := by omega); subst e; exact (dmJ_end rfl rfl _ _).symm)))) rfl (wk_f rfl (wk_f rfl (wk_f rfl (wk_f rfl (wk_f rfl (wk_f rfl (wk_f rfl (wk_f rfl (wk_f rfl (wk_f rfl (wk_nil))))))))))))))))))
  · skip
    have c2P := of_decide_eq_false c2
    refine wp_exit' ?_
    refine wp_seq' ?_
    refine wp_region_t ?_
    refine wpc (step_plain rfl (acts_move (d := 44) (ltN rfl) (OpX.tmp 5 (V.b (.a (.sl 11 0 ((dmT cN (fun d => okD d && posP (cntW l d)) i).length))))))) (by kernel_rfl) ?_
    refine wpc (step_plain rfl (acts_assign (d := 4) (ltN rfl) (OpX.tmp 44 (V.b (.a (.sl 11 0 ((dmT cN (fun d => okD d && posP (cntW l d)) i).length))))))) (by kernel_rfl) ?_
    refine wpl_nil ?_
    refine wp_ret' ?_
    exact VRes.tmp 4 (.a (.sl 11 0 ((dmT cN (fun d => okD d && posP (cntW l d)) i).length))) _ (by kernel_rfl) (brow_doms (h := 11) (L := (dmT cN (fun d => okD d && posP (cntW l d)) i)) (by kernel_rfl) (by ((have e : i = 64 := by omega); subst e; rfl)) (by rfl))

set_option maxHeartbeats 4000000 in
set_option maxRecDepth 100000 in
theorem impl_PossibleDominoes_fn (l : List Int) (hl : l.length ≤ 4194304) : Fn Try.prog 19 [.agg [(.slv l.length 1 (isl l) : A)]] [.row 32 3 (cwD l posP).length (dsl (cwD l posP))] := by
  refine fn_intro (N := 8) Try.func19 rfl (by kernel_rfl) rfl (Nat.le_of_ble_eq_true rfl) [1, 4, 7] (ret1 rfl) (fun W => ?_)
  show Wp _ _ _ [(.s 0, some (.s (V.b (.agg [(.slv l.length 1 (isl l) : A)])))), (.o 1, some .free), (.o 4, some .free), (.o 7, some .free)]
  refine wp_seq' ?_
  refine wp_region_t ?_
  refine wpc (step_plain rfl (acts_box (d := 1) (h := 1) (b := .agg [(.slv l.length 1 (isl l) : A)]) (ltN rfl) (OpX.tmp 0 (V.b (.agg [(.slv l.length 1 (isl l) : A)]))) (by intro y hy; simp [B.cs] at hy; subst hy; rfl))) (by kernel_rfl) ?_
  refine wpc (step_plain rfl (acts_assign (d := 2) (ltN rfl) (OpX.const (.slice none 0 0)))) (by kernel_rfl) ?_
  refine wpl_nil ?_
  refine wp_seq' ?_
  refine wp_seq' ?_
  refine wp_region_t ?_
  refine wpc (step_plain rfl (acts_load_owns (d := 3) (t := 1) (h := 1) (off := 0) (o := ⟨30, 1, true, [(.slv l.length 1 (isl l) : A)]⟩)  (xs := [(.slv l.length 1 (isl l) : A)]) (ltN rfl) qC14_ti_30 rfl (by decide) rfl)) (by kernel_rfl) ?_
  refine wpc (step_plain rfl (acts_call1 (d := 4) (ltN rfl) (impl_RegionOk_fn l (by omega)) (ArgVs.cons (ArgV.regv 3 l.length 1 (isl l)) (ArgVs.nil)) (ResV.val _))) (by kernel_rfl) ?_
  refine wpc (step_plain rfl (acts_un (d := 5) (ltN rfl) (OpV.tmp 4 (.bool (regOk l))) (r_not (c := (!(regOk l))) rfl))) (by kernel_rfl) ?_
  refine wpl_nil ?_
  refine wp_if (t := 5) ((!(regOk l))) (by kernel_rfl) (fun c1 => ?_) (fun c1 => ?_)
  · skip
    have c2 : (regOk l) = false := by simpa using c1
    refine wp_seq' ?_
    refine wp_region_t ?_
    refine wpc (step_plain rfl (acts_assign (d := 2) (ltN rfl) (OpX.const (.slice none 0 0)))) (by kernel_rfl) ?_
    refine wpl_nil ?_
    refine wp_ret' ?_
    exact VRes.tmp 2 (.a (.val (.slice none 0 0))) _ (by kernel_rfl) (bnil_doms (L := (cwD l posP)) (by exact cw_no (l := l) (p := posP) rfl (by simp_all)))
  · skip
    have c3 : (regOk l) = true := by simpa using c1
    refine wp_skip' ?_
    refine wp_seq' ?_
    refine wp_region_t ?_
    refine wpc (step_plain rfl (acts_load_owns (d := 6) (t := 1) (h := 1) (off := 0) (o := ⟨30, 1, true, [(.slv l.length 1 (isl l) : A)]⟩)  (xs := [(.slv l.length 1 (isl l) : A)]) (ltN rfl) qC14_ti_30 rfl (by decide) rfl)) (by kernel_rfl) ?_
    refine wpc (step_plain rfl (acts_call1 (d := 7) (ltN rfl) (impl_dominoesWhere_fn l (by omega)) (ArgVs.cons (ArgV.regv 6 l.length 1 (isl l)) (ArgVs.cons (ArgV.fn 48) (ArgVs.nil))) (ResV.row 32 3 ((cwD l posP).length) (dsl (cwD l posP)) 7))) (by kernel_rfl) ?_
    refine wpc (step_plain rfl (acts_assign (d := 2) (ltN rfl) (OpX.tmp 7 (V.b (.a (.sl 7 0 ((cwD l posP).length))))))) (by kernel_rfl) ?_
    refine wpl_nil ?_
    refine wp_ret' ?_
    exact VRes.tmp 2 (.a (.sl 7 0 ((cwD l posP).length))) _ (by kernel_rfl) (BRes.row 7 ((cwD l posP).length) _ 3 _ (by kernel_rfl) (by exact dsl_len _))

set_option maxHeartbeats 4000000 in
set_option maxRecDepth 100000 in
theorem spec_l15All_fn (l : List Int) (hl : l.length ≤ 4194304) : Fn Try.prog 45 [.agg [(.slv l.length 1 (isl l) : A)]] [.row 32 3 (allD l).length (dsl (allD l))] := by
  have h64 := cellsOf_len l
  refine fn_intro (N := 47) Try.func45 rfl (by kernel_rfl) rfl (Nat.le_of_ble_eq_true rfl) [1, 7, 8, 10, 13, 35, 39, 40, 44, 45] (ret1 rfl) (fun W => ?_)
  show Wp _ _ _ [(.s 0, some (.s (V.b (.agg [(.slv l.length 1 (isl l) : A)])))), (.o 1, some .free), (.o 7, some .free), (.o 8, some .free), (.o 10, some .free), (.o 13, some .free), (.o 35, some .free), (.o 39, some .free), (.o 40, some .free), (.o 44, some .free), (.o 45, some .free)]
  refine wp_seq' ?_
  refine wp_region_t ?_
  refine wpc (step_plain rfl (acts_box (d := 1) (h := 1) (b := .agg [(.slv l.length 1 (isl l) : A)]) (ltN rfl) (OpX.tmp 0 (V.b (.agg [(.slv l.length 1 (isl l) : A)]))) (by intro y hy; simp [B.cs] at hy; subst hy; rfl))) (by kernel_rfl) ?_
  refine wpc (step_plain rfl (acts_assign (d := 2) (ltN rfl) (OpX.const (.slice none 0 0)))) (by kernel_rfl) ?_
  refine wpl_nil ?_
  refine wp_seq' ?_
  refine wp_region_t ?_
  refine wpc (step_plain rfl (acts_buildSlice0' (d := 8) (h := 8) (s := 3) (ltN rfl) qC14_un_42 qC14_zi_32)) (by kernel_rfl) ?_
  refine wpc (step_plain rfl (acts_assign (d := 3) (ltN rfl) (OpX.tmp 8 (V.b (.a (.sl 8 0 0)))))) (by kernel_rfl) ?_
  refine wpl_nil ?_
  refine wp_seq' ?_
  refine wp_region_t ?_
  refine wpc (step_plain rfl (acts_load_owns (d := 9) (t := 1) (h := 1) (off := 0) (o := ⟨30, 1, true, [(.slv l.length 1 (isl l) : A)]⟩)  (xs := [(.slv l.length 1 (isl l) : A)]) (ltN rfl) qC14_ti_30 rfl (by decide) rfl)) (by kernel_rfl) ?_
  refine wpc (step_plain rfl (acts_call1 (d := 10) (ltN rfl) (spec_CellsOf_fn l (by omega)) (ArgVs.cons (ArgV.regv 9 l.length 1 (isl l)) (ArgVs.nil)) (ResV.row 39 2 ((cellsOf l).length) (csl (cellsOf l)) 10))) (by kernel_rfl) ?_
  refine wpc (step_plain rfl (acts_assign (d := 4) (ltN rfl) (OpX.tmp 10 (V.b (.a (.sl 10 0 ((cellsOf l).length))))))) (by kernel_rfl) ?_
  refine wpl_nil ?_
  refine wp_seq' ?_
  refine wp_seq' ?_
  refine wp_region_t ?_
  refine wpc (step_plain rfl (acts_assign (d := 5) (ltN rfl) (OpX.const (.int .i64 0)))) (by kernel_rfl) ?_
  refine wpl_nil ?_
  refine wp_block' ?_
  refine wp_loop' (fun (k : Nat) => k ≤ (cellsOf l).length) (fun (k : Nat) => [(.s 1, some (.s (V.p 1 0))), (.s 3, some (.s (V.b (.a (.sl 8 0 ((dmT (gC (cellsOf l)) (fun d => okD d && hasR l (cb d)) k).length)))))), (.s 4, some (.s (V.b (.a (.sl 10 0 ((cellsOf l).length)))))), (.s 5, some (.s (V.v (.int .i64 ((k : Nat) : Int))))), (.o 1, some (.o ⟨30, 1, true, [(.slv l.length 1 (isl l) : A)]⟩)), (.o 8, some (.o ⟨32, 3, true, pl (dsl (dmT (gC (cellsOf l)) (fun d => okD d && hasR l (cb d)) k))⟩)), (.o 10, some (.o ⟨39, 2, true, pl (csl (cellsOf l))⟩)), (.o 7, some .free), (.o 13, some .free), (.o 35, some .free), (.o 39, some .free), (.o 40, some .free), (.o 44, some .free), (.o 45, some .free)]) (fun (k : Nat) => (cellsOf l).length - k) ((0 : Nat)) (by exact (Nat.zero_le _ : 0 ≤ _)) (weak_of id [7, 13, 35, 39, 40, 44, 45] (by kernel_rfl) (wk_s (v' := V.p 1 0) (by kernel_rfl) rfl rfl (wk_s (v' := V.b (.a (.sl 8 0 0))) (by kernel_rfl) (vsl (by rfl) rfl) rfl (wk_s (v' := V.b (.a (.sl 10 0 ((cellsOf l).length)))) (by kernel_rfl) rfl rfl (wk_s (v' := V.v (.int .i64 0)) (by kernel_rfl) (vint (by rfl)) rfl (wk_o (o' := ⟨30, 1, true, [(.slv l.length 1 (isl l) : A)]⟩) (by kernel_rfl) (renob_l (fun h => h) rfl rfl) rfl (wk_o (o' := ⟨32, 3, true, pl (dsl [])⟩) (by kernel_rfl) (renob_eq (fun h => h) (congrArg dsl (by rfl))) rfl (wk_o (o' := ⟨39, 2, true, pl (csl (cellsOf l))⟩) (by kernel_rfl) (renob_pl (fun h => h)) rfl (wk_f rfl (wk_f rfl (wk_f rfl (wk_f rfl (wk_f rfl (wk_f rfl (wk_f rfl (wk_nil)))))))))))))))) ?_
  rintro k inv1
  replace inv1 : k ≤ (cellsOf l).length := inv1
  have invk := inv1
  show Wp _ _ _ [(.s 1, some (.s (V.p 1 0))), (.s 3, some (.s (V.b (.a (.sl 8 0 ((dmT (gC (cellsOf l)) (fun d => okD d && hasR l (cb d)) k).length)))))), (.s 4, some (.s (V.b (.a (.sl 10 0 ((cellsOf l).length)))))), (.s 5, some (.s (V.v (.int .i64 ((k : Nat) : Int))))), (.o 1, some (.o ⟨30, 1, true, [(.slv l.length 1 (isl l) : A)]⟩)), (.o 8, some (.o ⟨32, 3, true, pl (dsl (dmT (gC (cellsOf l)) (fun d => okD d && hasR l (cb d)) k))⟩)), (.o 10, some (.o ⟨39, 2, true, pl (csl (cellsOf l))⟩)), (.o 7, some .free), (.o 13, some .free), (.o 35, some .free), (.o 39, some .free), (.o 40, some .free), (.o 44, some .free), (.o 45, some .free)]
  have hml := dmT_len (gC (cellsOf l)) (fun d => okD d && hasR l (cb d)) k
  refine wp_seq' ?_
  refine wp_seq' ?_
  refine wp_region_t ?_
  refine wpc (step_plain rfl (acts_move (d := 11) (ltN rfl) (OpX.tmp 5 (V.v (.int .i64 ((k : Nat) : Int)))))) (by kernel_rfl) ?_
  refine wpc (step_plain rfl (acts_move (d := 12) (ltN rfl) (OpX.tmp 4 (V.b (.a (.sl 10 0 ((cellsOf l).length))))))) (by kernel_rfl) ?_
  refine wpc (step_plain rfl (acts_len (d := 13) (X := .sl 10 0 ((cellsOf l).length)) (n := ((cellsOf l).length)) (iv := (((cellsOf l).length : Nat) : Int)) (ltN rfl) qC14_un_71 (OpX.tmp 12 (V.b (.a (.sl 10 0 ((cellsOf l).length))))) (LenOf.sl _ _ _) rfl)) (by kernel_rfl) ?_
  refine wpc (step_plain rfl (acts_bin (d := 14) (ltN rfl) (OpV.tmp 11 (.int .i64 ((k : Nat) : Int))) (OpV.tmp 13 (.int .i64 (((cellsOf l).length : Nat) : Int))) (r_lss (c := (decide (((k : Nat) : Int) < (((cellsOf l).length : Nat) : Int)))) rfl))) (by kernel_rfl) ?_
  refine wpl_nil ?_
  refine wp_if (t := 14) (decide (((k : Nat) : Int) < (((cellsOf l).length : Nat) : Int))) (by kernel_rfl) (fun c2 => ?_) (fun c2 => ?_)
  · skip
    have c2P := of_decide_eq_true c2
    refine wp_skip' ?_
    refine wp_seq' ?_
    refine wp_block' ?_
    refine wp_seq' ?_
    refine wp_region_t ?_
    refine wpc (step_plain rfl (acts_assign (d := 6) (ltN rfl) (OpX.const (.int .i64 0)))) (by kernel_rfl) ?_
    refine wpl_nil ?_
    refine wp_block' ?_
    refine wp_loop' (fun (i : Nat) => i ≤ 2) (fun (i : Nat) => [(.s 1, some (.s (V.p 1 0))), (.s 3, some (.s (V.b (.a (.sl 8 0 ((dmJ (gC (cellsOf l)) (fun t => decide (((t : Nat) : Int) = 1)) (fun d => okD d && hasR l (cb d)) k i).length)))))), (.s 4, some (.s (V.b (.a (.sl 10 0 ((cellsOf l).length)))))), (.s 5, some (.s (V.v (.int .i64 ((k : Nat) : Int))))), (.s 6, some (.s (V.v (.int .i64 ((i : Nat) : Int))))), (.o 1, some (.o ⟨30, 1, true, [(.slv l.length 1 (isl l) : A)]⟩)), (.o 8, some (.o ⟨32, 3, true, pl (dsl (dmJ (gC (cellsOf l)) (fun t => decide (((t : Nat) : Int) = 1)) (fun d => okD d && hasR l (cb d)) k i))⟩)), (.o 10, some (.o ⟨39, 2, true, pl (csl (cellsOf l))⟩)), (.o 7, some .free), (.o 13, some .free), (.o 35, some .free), (.o 39, some .free), (.o 40, some .free), (.o 44, some .free), (.o 45, some .free)]) (fun (i : Nat) => 2 - i) ((0 : Nat)) (by exact (Nat.zero_le _ : 0 ≤ _)) (weak_of id [7, 13, 35, 39, 40, 44, 45] (by kernel_rfl) (wk_s (v' := V.p 1 0) (by kernel_rfl) rfl rfl (wk_s (v' := V.b (.a (.sl 8 0 ((dmT (gC (cellsOf l)) (fun d => okD d && hasR l (cb d)) k).length)))) (by kernel_rfl) (vsl (by (exact congrArg List.length (by first | rfl | exact (dmJ_zero _ _ _ _).symm | exact dmJ_zero _ _ _ _ | exact (dmJ_yes (and_t (by assumption) (by assumption))).symm | exact dmJ_yes (and_t (by assumption) (by assumption)) | exact dmJ_no (and_f1 (by assumption)) | exact dmJ_no (and_f2 (by assumption)) | exact (dmJ_no (and_f1 (by assumption))).symm | exact (dmJ_no (and_f2 (by assumption))).symm | omega))) rfl) rfl (wk_s (v' := V.b (.a (.sl 10 0 ((cellsOf l).length)))) (by kernel_rfl) rfl rfl (wk_s (v' := V.v (.int .i64 ((k : Nat) : Int))) (by kernel_rfl) rfl rfl (wk_s (v' := V.v (.int .i64 0)) (by kernel_rfl) (vint (by rfl)) rfl (wk_o (o' := ⟨30, 1, true, [(.slv l.length 1 (isl l) : A)]⟩) (by kernel_rfl) (renob_l (fun h => h) rfl rfl) rfl (wk_o (o' := ⟨32, 3, true, pl (dsl (dmT (gC (cellsOf l)) (fun d => okD d && hasR l (cb d)) k))⟩) (by kernel_rfl) (renob_eq (fun h => h) (congrArg dsl (by exact dmJ_zero _ _ _ _))) rfl (wk_o (o' := ⟨39, 2, true, pl (csl (cellsOf l))⟩) (by kernel_rfl) (renob_pl (fun h => h)) rfl (wk_f rfl (wk_f rfl (wk_f rfl (wk_f rfl (wk_f rfl (wk_f rfl (wk_f rfl (wk_nil))))))))))))))))) ?_
    rintro i inv3
    replace inv3 : i ≤ 2 := inv3
    have invi := inv3
    show Wp _ _ _ [(.s 1, some (.s (V.p 1 0))), (.s 3, some (.s (V.b (.a (.sl 8 0 ((dmJ (gC (cellsOf l)) (fun t => decide (((t : Nat) : Int) = 1)) (fun d => okD d && hasR l (cb d)) k i).length)))))), (.s 4, some (.s (V.b (.a (.sl 10 0 ((cellsOf l).length)))))), (.s 5, some (.s (V.v (.int .i64 ((k : Nat) : Int))))), (.s 6, some (.s (V.v (.int .i64 ((i : Nat) : Int))))), (.o 1, some (.o ⟨30, 1, true, [(.slv l.length 1 (isl l) : A)]⟩)), (.o 8, some (.o ⟨32, 3, true, pl (dsl (dmJ (gC (cellsOf l)) (fun t => decide (((t : Nat) : Int) = 1)) (fun d => okD d && hasR l (cb d)) k i))⟩)), (.o 10, some (.o ⟨39, 2, true, pl (csl (cellsOf l))⟩)), (.o 7, some .free), (.o 13, some .free), (.o 35, some .free), (.o 39, some .free), (.o 40, some .free), (.o 44, some .free), (.o 45, some .free)]
    have hmj := dmJ_len (gC (cellsOf l)) (fun t => decide (((t : Nat) : Int) = 1)) (fun d => okD d && hasR l (cb d)) k i
    have hokc := cells_okc (l := l) (k := k) (by omega)
    refine wp_seq' ?_
    refine wp_seq' ?_
    refine wp_region_t ?_
    refine wpc (step_plain rfl (acts_move (d := 17) (ltN rfl) (OpX.tmp 6 (V.v (.int .i64 ((i : Nat) : Int)))))) (by kernel_rfl) ?_
    refine wpc (step_plain rfl (acts_bin (d := 18) (ltN rfl) (OpV.tmp 17 (.int .i64 ((i : Nat) : Int))) (OpV.const (.int .i64 2)) (r_lss (c := (decide (((i : Nat) : Int) < 2))) rfl))) (by kernel_rfl) ?_
    refine wpl_nil ?_
    refine wp_if (t := 18) (decide (((i : Nat) : Int) < 2)) (by kernel_rfl) (fun c4 => ?_) (fun c4 => ?_)
    · skip
      have c4P := of_decide_eq_true c4
      refine wp_skip' ?_
      refine wp_seq' ?_
      refine wp_block' ?_
      refine wp_seq' ?_
      refine wp_drawn' (by kernel_rfl) (AllSteps.cons (step_plain rfl (acts_move (d := 21) (ltN rfl) (OpX.tmp 4 (V.b (.a (.sl 10 0 ((cellsOf l).length))))))) (AllSteps.cons (step_plain rfl (acts_move (d := 22) (ltN rfl) (OpX.tmp 5 (V.v (.int .i64 ((k : Nat) : Int)))))) (AllSteps.cons (step_plain rfl (acts_index_sl (d := 23) (x := 21) (h := 10) (off := 0) (n := ((cellsOf l).length)) (k := k) (off' := (k * 2)) (o := ⟨39, 2, true, pl (csl (cellsOf l))⟩) (ltN rfl) qC14_un_71 qC14_sz_39 (OpV.tmp 22 (.int .i64 ((k : Nat) : Int))) rfl (by omega) (by (simp; done)))) (AllSteps.cons (step_plain rfl (acts_field (d := 24) (t := 23) (h := 10) (off := (k * 2)) (off' := (k * 2)) (ltN rfl) qC14_fo_39_0 rfl)) (AllSteps.cons (step_plain rfl (acts_load_own (d := 25) (t := 24) (h := 10) (off := (k * 2)) (o := ⟨39, 2, true, pl (csl (cellsOf l))⟩)  (x := .val (.int .i64 ((gC (cellsOf l) k).x))) (ltN rfl) qC14_ti_3 (pl_get (csl_x (k := k) (by omega))))) (AllSteps.cons (step_plain rfl (acts_move (d := 26) (ltN rfl) (OpX.tmp 4 (V.b (.a (.sl 10 0 ((cellsOf l).length))))))) (AllSteps.cons (step_plain rfl (acts_move (d := 27) (ltN rfl) (OpX.tmp 5 (V.v (.int .i64 ((k : Nat) : Int)))))) (AllSteps.cons (step_plain rfl (acts_index_sl (d := 28) (x := 26) (h := 10) (off := 0) (n := ((cellsOf l).length)) (k := k) (off' := (k * 2)) (o := ⟨39, 2, true, pl (csl (cellsOf l))⟩) (ltN rfl) qC14_un_71 qC14_sz_39 (OpV.tmp 27 (.int .i64 ((k : Nat) : Int))) rfl (by omega) (by (simp; done)))) (AllSteps.cons (step_plain rfl (acts_field (d := 29) (t := 28) (h := 10) (off := (k * 2)) (off' := (k * 2 + 1)) (ltN rfl) qC14_fo_39_1 rfl)) (AllSteps.cons (step_plain rfl (acts_load_own (d := 30) (t := 29) (h := 10) (off := (k * 2 + 1)) (o := ⟨39, 2, true, pl (csl (cellsOf l))⟩)  (x := .val (.int .i64 ((gC (cellsOf l) k).y))) (ltN rfl) qC14_ti_3 (pl_get (csl_y (k := k) (by omega))))) (AllSteps.cons (step_plain rfl (acts_move (d := 31) (ltN rfl) (OpX.tmp 6 (V.v (.int .i64 ((i : Nat) : Int)))))) (AllSteps.cons (step_plain rfl (acts_bin (d := 32) (ltN rfl) (OpV.tmp 31 (.int .i64 ((i : Nat) : Int))) (OpV.const (.int .i64 1)) (r_eql (c := (decide (((i : Nat) : Int) = 1))) rfl))) (AllSteps.cons (step_plain rfl (acts_build (d := 33) (t := 32) (cells := [(.int .i64 ((gC (cellsOf l) k).x) : Value), .int .i64 ((gC (cellsOf l) k).y), .bool (decide (((i : Nat) : Int) = 1))]) (ltN rfl) (OpVs.cons (i := 0) (OpV.tmp 25 (.int .i64 ((gC (cellsOf l) k).x))) (OpVs.cons (i := 1) (OpV.tmp 30 (.int .i64 ((gC (cellsOf l) k).y))) (OpVs.cons (i := 2) (OpV.tmp 32 (.bool (decide (((i : Nat) : Int) = 1)))) (OpVs.nil)))) rfl)) (AllSteps.cons (step_plain rfl (acts_alloc' (d := 7) (h := 7) (cap := 1) (s := 3) (cells := [(.val (.int .i64 0) : A), .val (.int .i64 0), .val (.bool false)]) (ltN rfl) qC14_zi_32 rfl rfl (by decide))) (AllSteps.cons (step_plain rfl (acts_store (t := 7) (h := 7) (off := 0) (o := ⟨32, 3, true, [(.val (.int .i64 0) : A), .val (.int .i64 0), .val (.bool false)]⟩) (b := .agg ([(.int .i64 ((gC (cellsOf l) k).x) : Value), .int .i64 ((gC (cellsOf l) k).y), .bool (decide (((i : Nat) : Int) = 1))].map A.val)) (cells := [(.val (.int .i64 ((gC (cellsOf l) k).x)) : A), .val (.int .i64 ((gC (cellsOf l) k).y)), .val (.bool (decide (((i : Nat) : Int) = 1)))]) qC14_ti_32 (OpX.tmp 33 (V.av [(.int .i64 ((gC (cellsOf l) k).x) : Value), .int .i64 ((gC (cellsOf l) k).y), .bool (decide (((i : Nat) : Int) = 1))])) rfl (by decide) (by intro y hy; simp [B.cs] at hy; rcases hy with rfl | rfl | rfl <;> rfl) (Nat.le_of_ble_eq_true rfl) rfl)) (AllSteps.nil)))))))))))))))) (by kernel_rfl) (by kernel_rfl) (by kernel_rfl) ?_
      refine wp_seq' ?_
      rcases Bool.eq_false_or_eq_true ((okD (⟨(gC (cellsOf l) k).x, (gC (cellsOf l) k).y, decide (((i : Nat) : Int) = 1)⟩ : Dom))) with c5 | c5
      · skip
        refine wp_drawn' (by kernel_rfl) (AllSteps.cons (step_plain rfl (acts_load_owns (d := 34) (t := 7) (h := 7) (off := 0) (o := ⟨32, 3, true, [(.val (.int .i64 ((gC (cellsOf l) k).x)) : A), .val (.int .i64 ((gC (cellsOf l) k).y)), .val (.bool (decide (((i : Nat) : Int) = 1)))]⟩)  (xs := [(.int .i64 ((gC (cellsOf l) k).x) : Value), .int .i64 ((gC (cellsOf l) k).y), .bool (decide (((i : Nat) : Int) = 1))].map A.val) (ltN rfl) qC14_ti_32 rfl (by decide) rfl)) (AllSteps.cons (step_plain rfl (acts_call1 (d := 35) (ltN rfl) (spec_DominoOk_fn (⟨(gC (cellsOf l) k).x, (gC (cellsOf l) k).y, decide (((i : Nat) : Int) = 1)⟩ : Dom) ) (ArgVs.cons (ArgV.va (vs := [(.int .i64 ((gC (cellsOf l) k).x) : Value), .int .i64 ((gC (cellsOf l) k).y), .bool (decide (((i : Nat) : Int) = 1))]) (OpV.agg 34 [(.int .i64 ((gC (cellsOf l) k).x) : Value), .int .i64 ((gC (cellsOf l) k).y), .bool (decide (((i : Nat) : Int) = 1))])) (ArgVs.nil)) ((resval (congrArg Value.bool c5))))) (AllSteps.cons (step_plain rfl (acts_move (d := 36) (ltN rfl) (OpX.tmp 35 (V.v (.bool true))))) (AllSteps.cons (step_on (dj := 36) rfl rfl (acts_load_owns (d := 37) (t := 1) (h := 1) (off := 0) (o := ⟨30, 1, true, [(.slv l.length 1 (isl l) : A)]⟩)  (xs := [(.slv l.length 1 (isl l) : A)]) (ltN rfl) qC14_ti_30 rfl (by decide) rfl)) (AllSteps.cons (step_on (dj := 36) rfl rfl (acts_load_owns (d := 38) (t := 7) (h := 7) (off := 0) (o := ⟨32, 3, true, [(.val (.int .i64 ((gC (cellsOf l) k).x)) : A), .val (.int .i64 ((gC (cellsOf l) k).y)), .val (.bool (decide (((i : Nat) : Int) = 1)))]⟩)  (xs := [(.int .i64 ((gC (cellsOf l) k).x) : Value), .int .i64 ((gC (cellsOf l) k).y), .bool (decide (((i : Nat) : Int) = 1))].map A.val) (ltN rfl) qC14_ti_32 rfl (by decide) rfl)) (AllSteps.cons (step_on (dj := 36) rfl rfl (acts_call1 (d := 39) (ltN rfl) (spec_l05Second_fn (⟨(gC (cellsOf l) k).x, (gC (cellsOf l) k).y, decide (((i : Nat) : Int) = 1)⟩ : Dom) (by omega)) (ArgVs.cons (ArgV.va (vs := [(.int .i64 ((gC (cellsOf l) k).x) : Value), .int .i64 ((gC (cellsOf l) k).y), .bool (decide (((i : Nat) : Int) = 1))]) (OpV.agg 38 [(.int .i64 ((gC (cellsOf l) k).x) : Value), .int .i64 ((gC (cellsOf l) k).y), .bool (decide (((i : Nat) : Int) = 1))])) (ArgVs.nil)) (ResV.agg [(.int .i64 ((cb (⟨(gC (cellsOf l) k).x, (gC (cellsOf l) k).y, decide (((i : Nat) : Int) = 1)⟩ : Dom)).x) : Value), .int .i64 ((cb (⟨(gC (cellsOf l) k).x, (gC (cellsOf l) k).y, decide (((i : Nat) : Int) = 1)⟩ : Dom)).y)]))) (AllSteps.cons (step_on (dj := 36) rfl rfl (acts_call1 (d := 40) (ltN rfl) (spec_l03Has_fn l (cb (⟨(gC (cellsOf l) k).x, (gC (cellsOf l) k).y, decide (((i : Nat) : Int) = 1)⟩ : Dom)) (by exact cells_reg (k := k) (by omega)) (by exact ok_cb (by assumption))) (ArgVs.cons (ArgV.regv 37 l.length 1 (isl l)) (ArgVs.cons (ArgV.va (vs := [(.int .i64 ((cb (⟨(gC (cellsOf l) k).x, (gC (cellsOf l) k).y, decide (((i : Nat) : Int) = 1)⟩ : Dom)).x) : Value), .int .i64 ((cb (⟨(gC (cellsOf l) k).x, (gC (cellsOf l) k).y, decide (((i : Nat) : Int) = 1)⟩ : Dom)).y)]) (OpV.agg 39 [(.int .i64 ((cb (⟨(gC (cellsOf l) k).x, (gC (cellsOf l) k).y, decide (((i : Nat) : Int) = 1)⟩ : Dom)).x) : Value), .int .i64 ((cb (⟨(gC (cellsOf l) k).x, (gC (cellsOf l) k).y, decide (((i : Nat) : Int) = 1)⟩ : Dom)).y)])) (ArgVs.nil))) (ResV.val _))) (AllSteps.cons (step_plain rfl (acts_pick_t (d := 41) (ltN rfl) (OpV.tmp 36 (.bool true)) (OpX.tmp 40 (V.v (.bool (hasR l (cb (⟨(gC (cellsOf l) k).x, (gC (cellsOf l) k).y, decide (((i : Nat) : Int) = 1)⟩ : Dom)))))))) (AllSteps.nil))))))))) (by kernel_rfl) (by kernel_rfl) (by kernel_rfl) ?_
        refine wp_if (t := 41) ((hasR l (cb (⟨(gC (cellsOf l) k).x, (gC (cellsOf l) k).y, decide (((i : Nat) : Int) = 1)⟩ : Dom)))) (by kernel_rfl) (fun c6 => ?_) (fun c6 => ?_)
        · skip
          refine wp_region_t ?_
          refine wpc (step_plain rfl (acts_move (d := 42) (ltN rfl) (OpX.tmp 3 (V.b (.a (.sl 8 0 ((dmJ (gC (cellsOf l)) (fun t => decide (((t : Nat) : Int) = 1)) (fun d => okD d && hasR l (cb d)) k i).length))))))) (by kernel_rfl) ?_
          refine wpc (step_plain rfl (acts_load_owns (d := 43) (t := 7) (h := 7) (off := 0) (o := ⟨32, 3, true, [(.val (.int .i64 ((gC (cellsOf l) k).x)) : A), .val (.int .i64 ((gC (cellsOf l) k).y)), .val (.bool (decide (((i : Nat) : Int) = 1)))]⟩)  (xs := [(.int .i64 ((gC (cellsOf l) k).x) : Value), .int .i64 ((gC (cellsOf l) k).y), .bool (decide (((i : Nat) : Int) = 1))].map A.val) (ltN rfl) qC14_ti_32 rfl (by decide) rfl)) (by kernel_rfl) ?_
          refine wpc (step_plain rfl (acts_buildSlice' (d := 44) (h := 44) (n := 1) (s := 3) (xs := dsl ([(⟨(gC (cellsOf l) k).x, (gC (cellsOf l) k).y, decide (((i : Nat) : Int) = 1)⟩ : Dom)] : List Dom)) (ltN rfl) qC14_un_42 qC14_zi_32 (OpVs.cons (i := 0) (OpV.agg 43 [(.int .i64 ((gC (cellsOf l) k).x) : Value), .int .i64 ((gC (cellsOf l) k).y), .bool (decide (((i : Nat) : Int) = 1))]) (OpVs.nil)) (by decide) (by decide) (by kernel_rfl) rfl)) (by kernel_rfl) ?_
          refine wpc (step_plain rfl (acts_app (d := 45) (x := 42) (h := 8) (h2 := 45) (n := ((dmJ (gC (cellsOf l)) (fun t => decide (((t : Nat) : Int) = 1)) (fun d => okD d && hasR l (cb d)) k i).length)) (m := 1) (nm := (((dmJ (gC (cellsOf l)) (fun t => decide (((t : Nat) : Int) = 1)) (fun d => okD d && hasR l (cb d)) k i) ++ [(⟨(gC (cellsOf l) k).x, (gC (cellsOf l) k).y, decide (((i : Nat) : Int) = 1)⟩ : Dom)]).length)) (X := .sl 44 0 1) (xs := dsl (dmJ (gC (cellsOf l)) (fun t => decide (((t : Nat) : Int) = 1)) (fun d => okD d && hasR l (cb d)) k i)) (ys := dsl [(⟨(gC (cellsOf l) k).x, (gC (cellsOf l) k).y, decide (((i : Nat) : Int) = 1)⟩ : Dom)]) (zs := dsl ((dmJ (gC (cellsOf l)) (fun t => decide (((t : Nat) : Int) = 1)) (fun d => okD d && hasR l (cb d)) k i) ++ [(⟨(gC (cellsOf l) k).x, (gC (cellsOf l) k).y, decide (((i : Nat) : Int) = 1)⟩ : Dom)])) (ltN rfl) qC14_un_42 qC14_zi_32 rfl (by decide) (by decide) (by exact dsl_len _) (OpX.tmp 44 (V.b (.a (.sl 44 0 1)))) (src_own (h := 44) (T := 32) (s := 3) (ex := true) (n := 1) (by exact dsl_len _)) (dsl_one' _) (by omega) (by exact (dsl_append _ _).symm) (by (simp; done)))) (by kernel_rfl) ?_
          refine wpc (step_plain rfl (acts_assign (d := 3) (ltN rfl) (OpX.tmp 45 (V.b (.a (.sl 45 0 (((dmJ (gC (cellsOf l)) (fun t => decide (((t : Nat) : Int) = 1)) (fun d => okD d && hasR l (cb d)) k i) ++ [(⟨(gC (cellsOf l) k).x, (gC (cellsOf l) k).y, decide (((i : Nat) : Int) = 1)⟩ : Dom)]).length))))))) (by kernel_rfl) ?_
          refine wpl_nil ?_
          refine wp_region_t ?_
          refine wpc (step_plain rfl (acts_move (d := 19) (ltN rfl) (OpX.tmp 6 (V.v (.int .i64 ((i : Nat) : Int)))))) (by kernel_rfl) ?_
          refine wpc (step_plain rfl (acts_bin (d := 20) (ltN rfl) (OpV.tmp 19 (.int .i64 ((i : Nat) : Int))) (OpV.const (.int .i64 1)) (r_add (c := (((i : Nat) : Int) + 1)) (w64 (by omega) (by omega))))) (by kernel_rfl) ?_
          refine wpc (step_plain rfl (acts_assign (d := 6) (ltN rfl) (OpX.tmp 20 (V.v (.int .i64 (((i : Nat) : Int) + 1)))))) (by kernel_rfl) ?_
          refine wpl_nil ?_
          exact loop_back ((i + 1)) (by show _ ≤ _; omega) (by show 2 - (i + 1) < 2 - i; omega) (weak_of (subst1 [(8, 45)]) [7, 13, 35, 39, 40, 44, 45] (by kernel_rfl) (wk_s (v' := V.p 1 0) (by kernel_rfl) rfl rfl (wk_s (v' := V.b (.a (.sl 45 0 (((dmJ (gC (cellsOf l)) (fun t => decide (((t : Nat) : Int) = 1)) (fun d => okD d && hasR l (cb d)) k i) ++ [(⟨(gC (cellsOf l) k).x, (gC (cellsOf l) k).y, decide (((i : Nat) : Int) = 1)⟩ : Dom)]).length)))) (by kernel_rfl) (vsl (by (exact congrArg List.length (by first | rfl | exact (dmJ_zero _ _ _ _).symm | exact dmJ_zero _ _ _ _ | exact (dmJ_yes (and_t (by assumption) (by assumption))).symm | exact dmJ_yes (and_t (by assumption) (by assumption)) | exact dmJ_no (and_f1 (by assumption)) | exact dmJ_no (and_f2 (by assumption)) | exact (dmJ_no (and_f1 (by assumption))).symm | exact (dmJ_no (and_f2 (by assumption))).symm | omega))) rfl) rfl (wk_s (v' := V.b (.a (.sl 10 0 ((cellsOf l).length)))) (by kernel_rfl) rfl rfl (wk_s (v' := V.v (.int .i64 ((k : Nat) : Int))) (by kernel_rfl) rfl rfl (wk_s (v' := V.v (.int .i64 (((i : Nat) : Int) + 1))) (by kernel_rfl) (vint (by rfl)) rfl (wk_o (o' := ⟨30, 1, true, [(.slv l.length 1 (isl l) : A)]⟩) (by kernel_rfl) (renob_l (fun h => h) rfl rfl) rfl (wk_o (o' := ⟨32, 3, true, pl (dsl ((dmJ (gC (cellsOf l)) (fun t => decide (((t : Nat) : Int) = 1)) (fun d => okD d && hasR l (cb d)) k i) ++ [(⟨(gC (cellsOf l) k).x, (gC (cellsOf l) k).y, decide (((i : Nat) : Int) = 1)⟩ : Dom)]))⟩) (by kernel_rfl) (renob_eq (fun h => h) (congrArg dsl (by exact dmJ_yes (and_t (by assumption) (by assumption))))) rfl (wk_o (o' := ⟨39, 2, true, pl (csl (cellsOf l))⟩) (by kernel_rfl) (renob_pl (fun h => h)) rfl (wk_f rfl (wk_f rfl (wk_f rfl (wk_f rfl (wk_f rfl (wk_f rfl (wk_f rfl (wk_nil)))))))))))))))))
        · skip
          refine wp_skip' ?_
          refine wp_region_t ?_
          refine wpc (step_plain rfl (acts_move (d := 19) (ltN rfl) (OpX.tmp 6 (V.v (.int .i64 ((i : Nat) : Int)))))) (by kernel_rfl) ?_
          refine wpc (step_plain rfl (acts_bin (d := 20) (ltN rfl) (OpV.tmp 19 (.int .i64 ((i : Nat) : Int))) (OpV.const (.int .i64 1)) (r_add (c := (((i : Nat) : Int) + 1)) (w64 (by omega) (by omega))))) (by kernel_rfl) ?_
          refine wpc (step_plain rfl (acts_assign (d := 6) (ltN rfl) (OpX.tmp 20 (V.v (.int .i64 (((i : Nat) : Int) + 1)))))) (by kernel_rfl) ?_
          refine wpl_nil ?_
          exact loop_back ((i + 1)) (by show _ ≤ _; omega) (by show 2 - (i + 1) < 2 - i; omega) (weak_of id [7, 13, 35, 39, 40, 44, 45] (by kernel_rfl) (wk_s (v' := V.p 1 0) (by kernel_rfl) rfl rfl (wk_s (v' := V.b (.a (.sl 8 0 ((dmJ (gC (cellsOf l)) (fun t => decide (((t : Nat) : Int) = 1)) (fun d => okD d && hasR l (cb d)) k i).length)))) (by kernel_rfl) (vsl (by (exact congrArg List.length (by first | rfl | exact (dmJ_zero _ _ _ _).symm | exact dmJ_zero _ _ _ _ | exact (dmJ_yes (and_t (by assumption) (by assumption))).symm | exact dmJ_yes (and_t (by assumption) (by assumption)) | exact dmJ_no (and_f1 (by assumption)) | exact dmJ_no (and_f2 (by assumption)) | exact (dmJ_no (and_f1 (by assumption))).symm | exact (dmJ_no (and_f2 (by assumption))).symm | omega))) rfl) rfl (wk_s (v' := V.b (.a (.sl 10 0 ((cellsOf l).length)))) (by kernel_rfl) rfl rfl (wk_s (v' := V.v (.int .i64 ((k : Nat) : Int))) (by kernel_rfl) rfl rfl (wk_s (v' := V.v (.int .i64 (((i : Nat) : Int) + 1))) (by kernel_rfl) (vint (by rfl)) rfl (wk_o (o' := ⟨30, 1, true, [(.slv l.length 1 (isl l) : A)]⟩) (by kernel_rfl) (renob_l (fun h => h) rfl rfl) rfl (wk_o (o' := ⟨32, 3, true, pl (dsl (dmJ (gC (cellsOf l)) (fun t => decide (((t : Nat) : Int) = 1)) (fun d => okD d && hasR l (cb d)) k i))⟩) (by kernel_rfl) (renob_eq (fun h => h) (congrArg dsl (by exact dmJ_no (and_f2 (by assumption))))) rfl (wk_o (o' := ⟨39, 2, true, pl (csl (cellsOf l))⟩) (by kernel_rfl) (renob_pl (fun h => h)) rfl (wk_f rfl (wk_f rfl (wk_f rfl (wk_f rfl (wk_f rfl (wk_f rfl (wk_f rfl (wk_nil)))))))))))))))))
      · skip
        refine wp_drawn' (by kernel_rfl) (AllSteps.cons (step_plain rfl (acts_load_owns (d := 34) (t := 7) (h := 7) (off := 0) (o := ⟨32, 3, true, [(.val (.int .i64 ((gC (cellsOf l) k).x)) : A), .val (.int .i64 ((gC (cellsOf l) k).y)), .val (.bool (decide (((i : Nat) : Int) = 1)))]⟩)  (xs := [(.int .i64 ((gC (cellsOf l) k).x) : Value), .int .i64 ((gC (cellsOf l) k).y), .bool (decide (((i : Nat) : Int) = 1))].map A.val) (ltN rfl) qC14_ti_32 rfl (by decide) rfl)) (AllSteps.cons (step_plain rfl (acts_call1 (d := 35) (ltN rfl) (spec_DominoOk_fn (⟨(gC (cellsOf l) k).x, (gC (cellsOf l) k).y, decide (((i : Nat) : Int) = 1)⟩ : Dom) ) (ArgVs.cons (ArgV.va (vs := [(.int .i64 ((gC (cellsOf l) k).x) : Value), .int .i64 ((gC (cellsOf l) k).y), .bool (decide (((i : Nat) : Int) = 1))]) (OpV.agg 34 [(.int .i64 ((gC (cellsOf l) k).x) : Value), .int .i64 ((gC (cellsOf l) k).y), .bool (decide (((i : Nat) : Int) = 1))])) (ArgVs.nil)) ((resval (congrArg Value.bool c5))))) (AllSteps.cons (step_plain rfl (acts_move (d := 36) (ltN rfl) (OpX.tmp 35 (V.v (.bool false))))) (AllSteps.cons (step_off (dj := 36) (b' := false) rfl rfl (by decide) rfl (ltN rfl)) (AllSteps.cons (step_off (dj := 36) (b' := false) rfl rfl (by decide) rfl (ltN rfl)) (AllSteps.cons (step_off (dj := 36) (b' := false) rfl rfl (by decide) rfl (ltN rfl)) (AllSteps.cons (step_off (dj := 36) (b' := false) rfl rfl (by decide) rfl (ltN rfl)) (AllSteps.cons (step_plain rfl (acts_pick_f (d := 41) (ltN rfl) (OpV.tmp 36 (.bool false)) (OpX.const (.bool false)))) (AllSteps.nil))))))))) (by kernel_rfl) (by kernel_rfl) (by kernel_rfl) ?_
        refine wp_if_f (t := 41) (by kernel_rfl) ?_
        refine wp_skip' ?_
        refine wp_region_t ?_
        refine wpc (step_plain rfl (acts_move (d := 19) (ltN rfl) (OpX.tmp 6 (V.v (.int .i64 ((i : Nat) : Int)))))) (by kernel_rfl) ?_
        refine wpc (step_plain rfl (acts_bin (d := 20) (ltN rfl) (OpV.tmp 19 (.int .i64 ((i : Nat) : Int))) (OpV.const (.int .i64 1)) (r_add (c := (((i : Nat) : Int) + 1)) (w64 (by omega) (by omega))))) (by kernel_rfl) ?_
        refine wpc (step_plain rfl (acts_assign (d := 6) (ltN rfl) (OpX.tmp 20 (V.v (.int .i64 (((i : Nat) : Int) + 1)))))) (by kernel_rfl) ?_
        refine wpl_nil ?_
        exact loop_back ((i + 1)) (by show _ ≤ _; omega) (by show 2 - (i + 1) < 2 - i; omega) (weak_of id [7, 13, 35, 39, 40, 44, 45] (by kernel_rfl) (wk_s (v' := V.p 1 0) (by kernel_rfl) rfl rfl (wk_s (v' := V.b (.a (.sl 8 0 ((dmJ (gC (cellsOf l)) (fun t => decide (((t : Nat) : Int) = 1)) (fun d => okD d && hasR l (cb d)) k i).length)))) (by kernel_rfl) (vsl (by (exact congrArg List.length (by first | rfl | exact (dmJ_zero _ _ _ _).symm | exact dmJ_zero _ _ _ _ | exact (dmJ_yes (and_t (by assumption) (by assumption))).symm | exact dmJ_yes (and_t (by assumption) (by assumption)) | exact dmJ_no (and_f1 (by assumption)) | exact dmJ_no (and_f2 (by assumption)) | exact (dmJ_no (and_f1 (by assumption))).symm | exact (dmJ_no (and_f2 (by assumption))).symm | omega))) rfl) rfl (wk_s (v' := V.b (.a (.sl 10 0 ((cellsOf l).length)))) (by kernel_rfl) rfl rfl (wk_s (v' := V.v (.int .i64 ((k : Nat) : Int))) (by kernel_rfl) rfl rfl (wk_s (v' := V.v (.int .i64 (((i : Nat) : Int) + 1))) (by kernel_rfl) (vint (by rfl)) rfl (wk_o (o' := ⟨30, 1, true, [(.slv l.length 1 (isl l) : A)]⟩) (by kernel_rfl) (renob_l (fun h => h) rfl rfl) rfl (wk_o (o' := ⟨32, 3, true, pl (dsl (dmJ (gC (cellsOf l)) (fun t => decide (((t : Nat) : Int) = 1)) (fun d => okD d && hasR l (cb d)) k i))⟩) (by kernel_rfl) (renob_eq (fun h => h) (congrArg dsl (by exact dmJ_no (and_f1 (by assumption))))) rfl (wk_o (o' := ⟨39, 2, true, pl (csl (cellsOf l))⟩) (by kernel_rfl) (renob_pl (fun h => h)) rfl (wk_f rfl (wk_f rfl (wk_f rfl (wk_f rfl (wk_f rfl (wk_f rfl (wk_f rfl (wk_nil)))))))))))))))))
    · skip
      have c4P := of_decide_eq_false c4
      refine wp_exit' ?_
      refine wp_region_t ?_
      refine wpc (step_plain rfl (acts_move (d := 15) (ltN rfl) (OpX.tmp 5 (V.v (.int .i64 ((k : Nat) : Int)))))) (by kernel_rfl) ?_
      refine wpc (step_plain rfl (acts_bin (d := 16) (ltN rfl) (OpV.tmp 15 (.int .i64 ((k : Nat) : Int))) (OpV.const (.int .i64 1)) (r_add (c := (((k : Nat) : Int) + 1)) (w64 (by omega) (by omega))))) (by kernel_rfl) ?_
      refine wpc (step_plain rfl (acts_assign (d := 5) (ltN rfl) (OpX.tmp 16 (V.v (.int .i64 (((k : Nat) : Int) + 1)))))) (by kernel_rfl) ?_
      refine wpl_nil ?_
      exact loop_back ((k + 1)) (by show _ ≤ _; omega) (by show (cellsOf l).length - (k + 1) < (cellsOf l).length - k; omega) (weak_of id [7, 13, 35, 39, 40, 44, 45] (by kernel_rfl) (wk_s (v' := V.p 1 0) (by kernel_rfl) rfl rfl (wk_s (v' := V.b (.a (.sl 8 0 ((dmJ (gC (cellsOf l)) (fun t => decide (((t : Nat) : Int) = 1)) (fun d => okD d && hasR l (cb d)) k i).length)))) (by kernel_rfl) (vsl (by (exact congrArg List.length (by first | rfl | omega | ((have e : i = 2 := by omega); subst e; exact (dmJ_end (by decide) (by decide) _ _).symm) | ((have e : i = 2 := by omega); subst e; exact dmJ_end (by decide) (by decide) _ _)))) rfl) rfl (wk_s (v' := V.b (.a (.sl 10 0 ((cellsOf l).length)))) (by kernel_rfl) rfl rfl (wk_s (v' := V.v (.int .i64 (((k : Nat) : Int) + 1))) (by kernel_rfl) (vint (by rfl)) rfl (wk_o (o' := ⟨30, 1, true, [(.slv l.length 1 (isl l) : A)]⟩) (by kernel_rfl) (renob_l (fun h => h) rfl rfl) rfl (wk_o (o' := ⟨32, 3, true, pl (dsl (dmJ (gC (cellsOf l)) (fun t => decide (((t : Nat) : Int) = 1)) (fun d => okD d && hasR l (cb d)) k i))⟩) (by kernel_rfl) (renob_eq (fun h => h) (congrArg dsl (by ((have e : i = 2 := by omega); subst e; exact (dmJ_end (by decide) (by decide) _ _).symm)))) rfl (wk_o (o' := ⟨39, 2, true, pl (csl (cellsOf l))⟩) (by kernel_rfl) (renob_pl (fun h => h)) rfl (wk_f rfl (wk_f rfl (wk_f rfl (wk_f rfl (wk_f rfl (wk_f rfl (wk_f rfl (wk_nil))))))))))))))))
  · skip
    have c2P := of_decide_eq_false c2
    refine wp_exit' ?_
    refine wp_seq' ?_
    refine wp_region_t ?_
    refine wpc (step_plain rfl (acts_move (d := 46) (ltN rfl) (OpX.tmp 3 (V.b (.a (.sl 8 0 ((dmT (gC (cellsOf l)) (fun d => okD d && hasR l (cb d)) k).length))))))) (by kernel_rfl) ?_
    refine wpc (step_plain rfl (acts_assign (d := 2) (ltN rfl) (OpX.tmp 46 (V.b (.a (.sl 8 0 ((dmT (gC (cellsOf l)) (fun d => okD d && hasR l (cb d)) k).length))))))) (by kernel_rfl) ?_
    refine wpl_nil ?_
    refine wp_ret' ?_
    exact VRes.tmp 2 (.a (.sl 8 0 ((dmT (gC (cellsOf l)) (fun d => okD d && hasR l (cb d)) k).length))) _ (by kernel_rfl) (brow_doms (h := 8) (L := (dmT (gC (cellsOf l)) (fun d => okD d && hasR l (cb d)) k)) (by kernel_rfl) (by ((have e : k = (cellsOf l).length := by omega); subst e; rfl)) (by rfl))

set_option maxHeartbeats 4000000 in
set_option maxRecDepth 100000 in
theorem spec_PossibleDominoes_fn (l : List Int) (hl : l.length ≤ 4194304) : Fn Try.prog 18 [.agg [(.slv l.length 1 (isl l) : A)]] [.row 32 3 (cwD l posP).length (dsl (cwD l posP))] := by
  have hal := allD_len l
  refine fn_intro (N := 34) Try.func18 rfl (by kernel_rfl) rfl (Nat.le_of_ble_eq_true rfl) [1, 6, 8, 12, 15, 24, 31, 32] (ret1 rfl) (fun W => ?_)
  show Wp _ _ _ [(.s 0, some (.s (V.b (.agg [(.slv l.length 1 (isl l) : A)])))), (.o 1, some .free), (.o 6, some .free), (.o 8, some .free), (.o 12, some .free), (.o 15, some .free), (.o 24, some .free), (.o 31, some .free), (.o 32, some .free)]
  refine wp_seq' ?_
  refine wp_region_t ?_
  refine wpc (step_plain rfl (acts_box (d := 1) (h := 1) (b := .agg [(.slv l.length 1 (isl l) : A)]) (ltN rfl) (OpX.tmp 0 (V.b (.agg [(.slv l.length 1 (isl l) : A)]))) (by intro y hy; simp [B.cs] at hy; subst hy; rfl))) (by kernel_rfl) ?_
  refine wpc (step_plain rfl (acts_assign (d := 2) (ltN rfl) (OpX.const (.slice none 0 0)))) (by kernel_rfl) ?_
  refine wpl_nil ?_
  refine wp_seq' ?_
  refine wp_region_t ?_
  refine wpc (step_plain rfl (acts_buildSlice0' (d := 6) (h := 6) (s := 3) (ltN rfl) qC14_un_42 qC14_zi_32)) (by kernel_rfl) ?_
  refine wpc (step_plain rfl (acts_assign (d := 3) (ltN rfl) (OpX.tmp 6 (V.b (.a (.sl 6 0 0)))))) (by kernel_rfl) ?_
  refine wpl_nil ?_
  refine wp_seq' ?_
  refine wp_seq' ?_
  refine wp_region_t ?_
  refine wpc (step_plain rfl (acts_load_owns (d := 7) (t := 1) (h := 1) (off := 0) (o := ⟨30, 1, true, [(.slv l.length 1 (isl l) : A)]⟩)  (xs := [(.slv l.length 1 (isl l) : A)]) (ltN rfl) qC14_ti_30 rfl (by decide) rfl)) (by kernel_rfl) ?_
  refine wpc (step_plain rfl (acts_call1 (d := 8) (ltN rfl) (spec_RegionOk_fn l (by omega)) (ArgVs.cons (ArgV.regv 7 l.length 1 (isl l)) (ArgVs.nil)) (ResV.val _))) (by kernel_rfl) ?_
  refine wpc (step_plain rfl (acts_un (d := 9) (ltN rfl) (OpV.tmp 8 (.bool (regOk l))) (r_not (c := (!(regOk l))) rfl))) (by kernel_rfl) ?_
  refine wpl_nil ?_
  refine wp_if (t := 9) ((!(regOk l))) (by kernel_rfl) (fun c1 => ?_) (fun c1 => ?_)
  · skip
    have c2 : (regOk l) = false := by simpa using c1
    refine wp_seq' ?_
    refine wp_region_t ?_
    refine wpc (step_plain rfl (acts_move (d := 10) (ltN rfl) (OpX.tmp 3 (V.b (.a (.sl 6 0 0)))))) (by kernel_rfl) ?_
    refine wpc (step_plain rfl (acts_assign (d := 2) (ltN rfl) (OpX.tmp 10 (V.b (.a (.sl 6 0 0)))))) (by kernel_rfl) ?_
    refine wpl_nil ?_
    refine wp_ret' ?_
    exact VRes.tmp 2 (.a (.sl 6 0 0)) _ (by kernel_rfl) (brow_doms (h := 6) (L := []) (by kernel_rfl) (by exact (cw_no (l := l) (p := posP) rfl (by simp_all)).symm) (by rfl))
  · skip
    have c3 : (regOk l) = true := by simpa using c1
    refine wp_skip' ?_
    refine wp_seq' ?_
    refine wp_region_t ?_
    refine wpc (step_plain rfl (acts_load_owns (d := 11) (t := 1) (h := 1) (off := 0) (o := ⟨30, 1, true, [(.slv l.length 1 (isl l) : A)]⟩)  (xs := [(.slv l.length 1 (isl l) : A)]) (ltN rfl) qC14_ti_30 rfl (by decide) rfl)) (by kernel_rfl) ?_
    refine wpc (step_plain rfl (acts_call1 (d := 12) (ltN rfl) (spec_l15All_fn l (by omega)) (ArgVs.cons (ArgV.regv 11 l.length 1 (isl l)) (ArgVs.nil)) (ResV.row 32 3 ((allD l).length) (dsl (allD l)) 12))) (by kernel_rfl) ?_
    refine wpc (step_plain rfl (acts_assign (d := 4) (ltN rfl) (OpX.tmp 12 (V.b (.a (.sl 12 0 ((allD l).length))))))) (by kernel_rfl) ?_
    refine wpl_nil ?_
    refine wp_seq' ?_
    refine wp_seq' ?_
    refine wp_region_t ?_
    refine wpc (step_plain rfl (acts_assign (d := 5) (ltN rfl) (OpX.const (.int .i64 0)))) (by kernel_rfl) ?_
    refine wpl_nil ?_
    refine wp_block' ?_
    refine wp_loop' (fun (k : Nat) => k ≤ (allD l).length) (fun (k : Nat) => [(.s 1, some (.s (V.p 1 0))), (.s 3, some (.s (V.b (.a (.sl 6 0 ((((allD l).take k).filter (fun d => posP (cntW l d))).length)))))), (.s 4, some (.s (V.b (.a (.sl 12 0 ((allD l).length)))))), (.s 5, some (.s (V.v (.int .i64 ((k : Nat) : Int))))), (.o 1, some (.o ⟨30, 1, true, [(.slv l.length 1 (isl l) : A)]⟩)), (.o 6, some (.o ⟨32, 3, true, pl (dsl (((allD l).take k).filter (fun d => posP (cntW l d))))⟩)), (.o 12, some (.o ⟨32, 3, true, pl (dsl (allD l))⟩)), (.o 8, some .free), (.o 15, some .free), (.o 24, some .free), (.o 31, some .free), (.o 32, some .free)]) (fun (k : Nat) => (allD l).length - k) ((0 : Nat)) (by exact (Nat.zero_le _ : 0 ≤ _)) (weak_of id [8, 15, 24, 31, 32] (by kernel_rfl) (wk_s (v' := V.p 1 0) (by kernel_rfl) rfl rfl (wk_s (v' := V.b (.a (.sl 6 0 0))) (by kernel_rfl) (vsl (by rfl) rfl) rfl (wk_s (v' := V.b (.a (.sl 12 0 ((allD l).length)))) (by kernel_rfl) rfl rfl (wk_s (v' := V.v (.int .i64 0)) (by kernel_rfl) (vint (by rfl)) rfl (wk_o (o' := ⟨30, 1, true, [(.slv l.length 1 (isl l) : A)]⟩) (by kernel_rfl) (renob_l (fun h => h) rfl rfl) rfl (wk_o (o' := ⟨32, 3, true, pl (dsl [])⟩) (by kernel_rfl) (renob_eq (fun h => h) (congrArg dsl (by rfl))) rfl (wk_o (o' := ⟨32, 3, true, pl (dsl (allD l))⟩) (by kernel_rfl) (renob_pl (fun h => h)) rfl (wk_f rfl (wk_f rfl (wk_f rfl (wk_f rfl (wk_f rfl (wk_nil)))))))))))))) ?_
    rintro k inv4
    replace inv4 : k ≤ (allD l).length := inv4
    have inv := inv4
    show Wp _ _ _ [(.s 1, some (.s (V.p 1 0))), (.s 3, some (.s (V.b (.a (.sl 6 0 ((((allD l).take k).filter (fun d => posP (cntW l d))).length)))))), (.s 4, some (.s (V.b (.a (.sl 12 0 ((allD l).length)))))), (.s 5, some (.s (V.v (.int .i64 ((k : Nat) : Int))))), (.o 1, some (.o ⟨30, 1, true, [(.slv l.length 1 (isl l) : A)]⟩)), (.o 6, some (.o ⟨32, 3, true, pl (dsl (((allD l).take k).filter (fun d => posP (cntW l d))))⟩)), (.o 12, some (.o ⟨32, 3, true, pl (dsl (allD l))⟩)), (.o 8, some .free), (.o 15, some .free), (.o 24, some .free), (.o 31, some .free), (.o 32, some .free)]
    have hfl := dfilt_len (fun d => posP (cntW l d)) (allD l) k
    refine wp_seq' ?_
    refine wp_seq' ?_
    refine wp_region_t ?_
    refine wpc (step_plain rfl (acts_move (d := 13) (ltN rfl) (OpX.tmp 5 (V.v (.int .i64 ((k : Nat) : Int)))))) (by kernel_rfl) ?_
    refine wpc (step_plain rfl (acts_move (d := 14) (ltN rfl) (OpX.tmp 4 (V.b (.a (.sl 12 0 ((allD l).length))))))) (by kernel_rfl) ?_
    refine wpc (step_plain rfl (acts_len (d := 15) (X := .sl 12 0 ((allD l).length)) (n := ((allD l).length)) (iv := (((allD l).length : Nat) : Int)) (ltN rfl) qC14_un_42 (OpX.tmp 14 (V.b (.a (.sl 12 0 ((allD l).length))))) (LenOf.sl _ _ _) rfl)) (by kernel_rfl) ?_
    refine wpc (step_plain rfl (acts_bin (d := 16) (ltN rfl) (OpV.tmp 13 (.int .i64 ((k : Nat) : Int))) (OpV.tmp 15 (.int .i64 (((allD l).length : Nat) : Int))) (r_lss (c := (decide (((k : Nat) : Int) < (((allD l).length : Nat) : Int)))) rfl))) (by kernel_rfl) ?_
    refine wpl_nil ?_
    refine wp_if (t := 16) (decide (((k : Nat) : Int) < (((allD l).length : Nat) : Int))) (by kernel_rfl) (fun c5 => ?_) (fun c5 => ?_)
    · skip
      have c5P := of_decide_eq_true c5
      refine wp_skip' ?_
      refine wp_seq' ?_
      refine wp_block' ?_
      refine wp_seq' ?_
      refine wp_drawn' (by kernel_rfl) (AllSteps.cons (step_plain rfl (acts_load_owns (d := 19) (t := 1) (h := 1) (off := 0) (o := ⟨30, 1, true, [(.slv l.length 1 (isl l) : A)]⟩)  (xs := [(.slv l.length 1 (isl l) : A)]) (ltN rfl) qC14_ti_30 rfl (by decide) rfl)) (AllSteps.cons (step_plain rfl (acts_move (d := 20) (ltN rfl) (OpX.tmp 4 (V.b (.a (.sl 12 0 ((allD l).length))))))) (AllSteps.cons (step_plain rfl (acts_move (d := 21) (ltN rfl) (OpX.tmp 5 (V.v (.int .i64 ((k : Nat) : Int)))))) (AllSteps.cons (step_plain rfl (acts_index_sl (d := 22) (x := 20) (h := 12) (off := 0) (n := ((allD l).length)) (k := k) (off' := (k * 3)) (o := ⟨32, 3, true, pl (dsl (allD l))⟩) (ltN rfl) qC14_un_42 qC14_sz_32 (OpV.tmp 21 (.int .i64 ((k : Nat) : Int))) rfl (by omega) (by (simp; done)))) (AllSteps.cons (step_plain rfl (acts_load_owns (d := 23) (t := 22) (h := 12) (off := (k * 3)) (o := ⟨32, 3, true, pl (dsl (allD l))⟩)  (xs := [(.int .i64 ((gD (allD l) k).x) : Value), .int .i64 ((gD (allD l) k).y), .bool ((gD (allD l) k).d)].map A.val) (ltN rfl) qC14_ti_32 rfl (by decide) (pl_at (dsl_at (k := k) (by omega))))) (AllSteps.cons (step_plain rfl (acts_call1 (d := 24) (ltN rfl) (spec_CountWith_fn l (gD (allD l) k) (by omega)) (ArgVs.cons (ArgV.regv 19 l.length 1 (isl l)) (ArgVs.cons (ArgV.va (vs := [(.int .i64 ((gD (allD l) k).x) : Value), .int .i64 ((gD (allD l) k).y), .bool ((gD (allD l) k).d)]) (OpV.agg 23 [(.int .i64 ((gD (allD l) k).x) : Value), .int .i64 ((gD (allD l) k).y), .bool ((gD (allD l) k).d)])) (ArgVs.nil))) (ResV.val _))) (AllSteps.cons (step_plain rfl (acts_bin (d := 25) (ltN rfl) (OpV.tmp 24 (.int .i64 (((cntW l (gD (allD l) k)) : Nat) : Int))) (OpV.const (.int .i64 0)) (r_gtr (c := (decide (0 < (((cntW l (gD (allD l) k)) : Nat) : Int)))) rfl))) (AllSteps.nil)))))))) (by kernel_rfl) (by kernel_rfl) (by kernel_rfl) ?_
      refine wp_if (t := 25) (decide (0 < (((cntW l (gD (allD l) k)) : Nat) : Int))) (by kernel_rfl) (fun c6 => ?_) (fun c6 => ?_)
      · skip
        have c6P := of_decide_eq_true c6
        refine wp_region_t ?_
        refine wpc (step_plain rfl (acts_move (d := 26) (ltN rfl) (OpX.tmp 3 (V.b (.a (.sl 6 0 ((((allD l).take k).filter (fun d => posP (cntW l d))).length))))))) (by kernel_rfl) ?_
        refine wpc (step_plain rfl (acts_move (d := 27) (ltN rfl) (OpX.tmp 4 (V.b (.a (.sl 12 0 ((allD l).length))))))) (by kernel_rfl) ?_
        refine wpc (step_plain rfl (acts_move (d := 28) (ltN rfl) (OpX.tmp 5 (V.v (.int .i64 ((k : Nat) : Int)))))) (by kernel_rfl) ?_
        refine wpc (step_plain rfl (acts_index_sl (d := 29) (x := 27) (h := 12) (off := 0) (n := ((allD l).length)) (k := k) (off' := (k * 3)) (o := ⟨32, 3, true, pl (dsl (allD l))⟩) (ltN rfl) qC14_un_42 qC14_sz_32 (OpV.tmp 28 (.int .i64 ((k : Nat) : Int))) rfl (by omega) (by (simp; done)))) (by kernel_rfl) ?_
        refine wpc (step_plain rfl (acts_load_owns (d := 30) (t := 29) (h := 12) (off := (k * 3)) (o := ⟨32, 3, true, pl (dsl (allD l))⟩)  (xs := [(.int .i64 ((gD (allD l) k).x) : Value), .int .i64 ((gD (allD l) k).y), .bool ((gD (allD l) k).d)].map A.val) (ltN rfl) qC14_ti_32 rfl (by decide) (pl_at (dsl_at (k := k) (by omega))))) (by kernel_rfl) ?_
        refine wpc (step_plain rfl (acts_buildSlice' (d := 31) (h := 31) (n := 1) (s := 3) (xs := dsl ([(gD (allD l) k)] : List Dom)) (ltN rfl) qC14_un_42 qC14_zi_32 (OpVs.cons (i := 0) (OpV.agg 30 [(.int .i64 ((gD (allD l) k).x) : Value), .int .i64 ((gD (allD l) k).y), .bool ((gD (allD l) k).d)]) (OpVs.nil)) (by decide) (by decide) (by kernel_rfl) rfl)) (by kernel_rfl) ?_
        refine wpc (step_plain rfl (acts_app (d := 32) (x := 26) (h := 6) (h2 := 32) (n := ((((allD l).take k).filter (fun d => posP (cntW l d))).length)) (m := 1) (nm := (((((allD l).take k).filter (fun d => posP (cntW l d))) ++ [(gD (allD l) k)]).length)) (X := .sl 31 0 1) (xs := dsl (((allD l).take k).filter (fun d => posP (cntW l d)))) (ys := dsl [(gD (allD l) k)]) (zs := dsl ((((allD l).take k).filter (fun d => posP (cntW l d))) ++ [(gD (allD l) k)])) (ltN rfl) qC14_un_42 qC14_zi_32 rfl (by decide) (by decide) (by exact dsl_len _) (OpX.tmp 31 (V.b (.a (.sl 31 0 1)))) (src_own (h := 31) (T := 32) (s := 3) (ex := true) (n := 1) (by exact dsl_len _)) (dsl_one' _) (by omega) (by exact (dsl_append _ _).symm) (by (simp; done)))) (by kernel_rfl) ?_
        refine wpc (step_plain rfl (acts_assign (d := 3) (ltN rfl) (OpX.tmp 32 (V.b (.a (.sl 32 0 (((((allD l).take k).filter (fun d => posP (cntW l d))) ++ [(gD (allD l) k)]).length))))))) (by kernel_rfl) ?_
        refine wpl_nil ?_
        refine wp_region_t ?_
        refine wpc (step_plain rfl (acts_move (d := 17) (ltN rfl) (OpX.tmp 5 (V.v (.int .i64 ((k : Nat) : Int)))))) (by kernel_rfl) ?_
        refine wpc (step_plain rfl (acts_bin (d := 18) (ltN rfl) (OpV.tmp 17 (.int .i64 ((k : Nat) : Int))) (OpV.const (.int .i64 1)) (r_add (c := (((k : Nat) : Int) + 1)) (w64 (by omega) (by omega))))) (by kernel_rfl) ?_
        refine wpc (step_plain rfl (acts_assign (d := 5) (ltN rfl) (OpX.tmp 18 (V.v (.int .i64 (((k : Nat) : Int) + 1)))))) (by kernel_rfl) ?_
        refine wpl_nil ?_
        exact loop_back ((k + 1)) (by show _ ≤ _; omega) (by show (allD l).length - (k + 1) < (allD l).length - k; omega) (weak_of (subst1 [(6, 32)]) [8, 15, 24, 31, 32] (by kernel_rfl) (wk_s (v' := V.p 1 0) (by kernel_rfl) rfl rfl (wk_s (v' := V.b (.a (.sl 32 0 (((((allD l).take k).filter (fun d => posP (cntW l d))) ++ [(gD (allD l) k)]).length)))) (by kernel_rfl) (vsl (by (exact congrArg List.length (by first | rfl | (simp; done) | exact dfilt_yes (by omega) (by unfold posP; simp_all; done) | exact dfilt_no (by omega) (by unfold posP; simp_all; done) | exact (dfilt_yes (by omega) (by unfold posP; simp_all; done)).symm | omega))) rfl) rfl (wk_s (v' := V.b (.a (.sl 12 0 ((allD l).length)))) (by kernel_rfl) rfl rfl (wk_s (v' := V.v (.int .i64 (((k : Nat) : Int) + 1))) (by kernel_rfl) (vint (by rfl)) rfl (wk_o (o' := ⟨30, 1, true, [(.slv l.length 1 (isl l) : A)]⟩) (by kernel_rfl) (renob_l (fun h => h) rfl rfl) rfl (wk_o (o' := ⟨32, 3, true, pl (dsl ((((allD l).take k).filter (fun d => posP (cntW l d))) ++ [(gD (allD l) k)]))⟩) (by kernel_rfl) (renob_eq (fun h => h) (congrArg dsl (by exact dfilt_yes (by omega) (by unfold posP; simp_all; done)))) rfl (wk_o (o' := ⟨32, 3, true, pl (dsl (allD l))⟩) (by kernel_rfl) (renob_pl (fun h => h)) rfl (wk_f rfl (wk_f rfl (wk_f rfl (wk_f rfl (wk_f rfl (wk_nil))))))))))))))
      · skip
        have c6P := of_decide_eq_false c6
        refine wp_skip' ?_
        refine wp_region_t ?_
        refine wpc (step_plain rfl (acts_move (d := 17) (ltN rfl) (OpX.tmp 5 (V.v (.int .i64 ((k : Nat) : Int)))))) (by kernel_rfl) ?_
        refine wpc (step_plain rfl (acts_bin (d := 18) (ltN rfl) (OpV.tmp 17 (.int .i64 ((k : Nat) : Int))) (OpV.const (.int .i64 1)) (r_add (c := (((k : Nat) : Int) + 1)) (w64 (by omega) (by omega))))) (by kernel_rfl) ?_
        refine wpc (step_plain rfl (acts_assign (d := 5) (ltN rfl) (OpX.tmp 18 (V.v (.int .i64 (((k : Nat) : Int) + 1)))))) (by kernel_rfl) ?_
        refine wpl_nil ?_
        exact loop_back ((k + 1)) (by show _ ≤ _; omega) (by show (allD l).length - (k + 1) < (allD l).length - k; omega) (weak_of id [8, 15, 24, 31, 32] (by kernel_rfl) (wk_s (v' := V.p 1 0) (by kernel_rfl) rfl rfl (wk_s (v' := V.b (.a (.sl 6 0 ((((allD l).take k).filter (fun d => posP (cntW l d))).length)))) (by kernel_rfl) (vsl (by (exact congrArg List.length (by first | rfl | (simp; done) | exact dfilt_yes (by omega) (by unfold posP; simp_all; done) | exact dfilt_no (by omega) (by unfold posP; simp_all; done) | exact (dfilt_yes (by omega) (by unfold posP; simp_all; done)).symm | omega))) rfl) rfl (wk_s (v' := V.b (.a (.sl 12 0 ((allD l).length)))) (by kernel_rfl) rfl rfl (wk_s (v' := V.v (.int .i64 (((k : Nat) : Int) + 1))) (by kernel_rfl) (vint (by rfl)) rfl (wk_o (o' := ⟨30, 1, true, [(.slv l.length 1 (isl l) : A)]⟩) (by kernel_rfl) (renob_l (fun h => h) rfl rfl) rfl (wk_o (o' := ⟨32, 3, true, pl (dsl (((allD l).take k).filter (fun d => posP (cntW l d))))⟩) (by kernel_rfl) (renob_eq (fun h => h) (congrArg dsl (by exact dfilt_no (by omega) (by unfold posP; simp_all; done)))) rfl (wk_o (o' := ⟨32, 3, true, pl (dsl (allD l))⟩) (by kernel_rfl) (renob_pl (fun h => h)) rfl (wk_f rfl (wk_f rfl (wk_f rfl (wk_f rfl (wk_f rfl (wk_nil))))))))))))))
    · skip
      have c5P := of_decide_eq_false c5
      refine wp_exit' ?_
      refine wp_seq' ?_
      refine wp_region_t ?_
      refine wpc (step_plain rfl (acts_move (d := 33) (ltN rfl) (OpX.tmp 3 (V.b (.a (.sl 6 0 ((((allD l).take k).filter (fun d => posP (cntW l d))).length))))))) (by kernel_rfl) ?_
      refine wpc (step_plain rfl (acts_assign (d := 2) (ltN rfl) (OpX.tmp 33 (V.b (.a (.sl 6 0 ((((allD l).take k).filter (fun d => posP (cntW l d))).length))))))) (by kernel_rfl) ?_
      refine wpl_nil ?_
      refine wp_ret' ?_
      exact VRes.tmp 2 (.a (.sl 6 0 ((((allD l).take k).filter (fun d => posP (cntW l d))).length))) _ (by kernel_rfl) (brow_doms (h := 6) (L := (((allD l).take k).filter (fun d => posP (cntW l d)))) (by kernel_rfl) (by rw [dfilt_all _ (by assumption)]; exact (cw_all rfl).symm) (by rfl))

set_option maxHeartbeats 4000000 in
set_option maxRecDepth 100000 in
theorem impl_CountOver_fn (l : List Int) (c : Cel) (hl : l.length ≤ 4194304) : Fn Try.prog 17 [.agg [(.slv l.length 1 (isl l) : A)], .agg ([(.int .i64 c.x : Value), .int .i64 c.y].map A.val)] [.val (.int .i64 ((((cwD l posP).filter (cvr c)).length : Nat) : Int))] := by
  refine fn_intro (N := 23) Try.func17 rfl (by kernel_rfl) rfl (Nat.le_of_ble_eq_true rfl) [2, 3, 7, 9, 10, 16, 18] (ret1 rfl) (fun W => ?_)
  show Wp _ _ _ [(.s 0, some (.s (V.b (.agg [(.slv l.length 1 (isl l) : A)])))), (.s 1, some (.s (V.av [(.int .i64 c.x : Value), .int .i64 c.y]))), (.o 2, some .free), (.o 3, some .free), (.o 7, some .free), (.o 9, some .free), (.o 10, some .free), (.o 16, some .free), (.o 18, some .free)]
  refine wp_seq' ?_
  refine wp_region_t ?_
  refine wpc (step_plain rfl (acts_box (d := 2) (h := 2) (b := .agg [(.slv l.length 1 (isl l) : A)]) (ltN rfl) (OpX.tmp 0 (V.b (.agg [(.slv l.length 1 (isl l) : A)]))) (by intro y hy; simp [B.cs] at hy; subst hy; rfl))) (by kernel_rfl) ?_
  refine wpc (step_plain rfl (acts_box (d := 3) (h := 3) (b := .agg ([(.int .i64 c.x : Value), .int .i64 c.y].map A.val)) (ltN rfl) (OpX.tmp 1 (V.av [(.int .i64 c.x : Value), .int .i64 c.y])) (by intro y hy; simp [B.cs] at hy; rcases hy with rfl | rfl <;> rfl))) (by kernel_rfl) ?_
  refine wpc (step_plain rfl (acts_assign (d := 4) (ltN rfl) (OpX.const (.int .i64 0)))) (by kernel_rfl) ?_
  refine wpl_nil ?_
  refine wp_seq' ?_
  refine wp_region_t ?_
  refine wpc (step_plain rfl (acts_assign (d := 5) (ltN rfl) (OpX.const (.int .i64 0)))) (by kernel_rfl) ?_
  refine wpl_nil ?_
  refine wp_seq' ?_
  refine wp_seq' ?_
  refine wp_region_t ?_
  refine wpc (step_plain rfl (acts_load_owns (d := 8) (t := 2) (h := 2) (off := 0) (o := ⟨30, 1, true, [(.slv l.length 1 (isl l) : A)]⟩)  (xs := [(.slv l.length 1 (isl l) : A)]) (ltN rfl) qC14_ti_30 rfl (by decide) rfl)) (by kernel_rfl) ?_
  refine wpc (step_plain rfl (acts_call1 (d := 9) (ltN rfl) (impl_PossibleDominoes_fn l (by omega)) (ArgVs.cons (ArgV.regv 8 l.length 1 (isl l)) (ArgVs.nil)) (ResV.row 32 3 ((cwD l posP).length) (dsl (cwD l posP)) 9))) (by kernel_rfl) ?_
  refine wpc (step_plain rfl (acts_len (d := 10) (X := .sl 9 0 ((cwD l posP).length)) (n := ((cwD l posP).length)) (iv := (((cwD l posP).length : Nat) : Int)) (ltN rfl) qC14_un_42 (OpX.tmp 9 (V.b (.a (.sl 9 0 ((cwD l posP).length))))) (LenOf.sl _ _ _) rfl)) (by kernel_rfl) ?_
  refine wpc (step_plain rfl (acts_move (d := 11) (ltN rfl) (OpX.const (.int .i64 0)))) (by kernel_rfl) ?_
  refine wpl_nil ?_
  refine wp_block' ?_
  refine wp_loop' (fun (k : Nat) => k ≤ (cwD l posP).length) (fun (k : Nat) => [(.s 3, some (.s (V.p 3 0))), (.s 5, some (.s (V.v (.int .i64 (((((cwD l posP).take k).filter (cvr c)).length : Nat) : Int))))), (.s 9, some (.s (V.b (.a (.sl 9 0 ((cwD l posP).length)))))), (.s 10, some (.s (V.v (.int .i64 (((cwD l posP).length : Nat) : Int))))), (.s 11, some (.s (V.v (.int .i64 ((k : Nat) : Int))))), (.o 3, some (.o ⟨39, 2, true, [(.val (.int .i64 c.x) : A), .val (.int .i64 c.y)]⟩)), (.o 9, some (.o ⟨32, 3, true, pl (dsl (cwD l posP))⟩)), (.o 2, some .free), (.o 7, some .free), (.o 10, some .free), (.o 16, some .free), (.o 18, some .free)]) (fun (k : Nat) => (cwD l posP).length - k) ((0 : Nat)) (by exact (Nat.zero_le _ : 0 ≤ _)) (weak_of id [2, 7, 10, 16, 18] (by kernel_rfl) (wk_s (v' := V.p 3 0) (by kernel_rfl) rfl rfl (wk_s (v' := V.v (.int .i64 0)) (by kernel_rfl) (vint (by rfl)) rfl (wk_s (v' := V.b (.a (.sl 9 0 ((cwD l posP).length)))) (by kernel_rfl) rfl rfl (wk_s (v' := V.v (.int .i64 (((cwD l posP).length : Nat) : Int))) (by kernel_rfl) rfl rfl (wk_s (v' := V.v (.int .i64 0)) (by kernel_rfl) (vint (by rfl)) rfl (wk_o (o' := ⟨39, 2, true, [(.val (.int .i64 c.x) : A), .val (.int .i64 c.y)]⟩) (by kernel_rfl) (renob_l (fun h => h) rfl rfl) rfl (wk_o (o' := ⟨32, 3, true, pl (dsl (cwD l posP))⟩) (by kernel_rfl) (renob_pl (fun h => h)) rfl (wk_f rfl (wk_f rfl (wk_f rfl (wk_f rfl (wk_f rfl (wk_nil)))))))))))))) ?_
  rintro k inv1
  replace inv1 : k ≤ (cwD l posP).length := inv1
  have inv := inv1
  show Wp _ _ _ [(.s 3, some (.s (V.p 3 0))), (.s 5, some (.s (V.v (.int .i64 (((((cwD l posP).take k).filter (cvr c)).length : Nat) : Int))))), (.s 9, some (.s (V.b (.a (.sl 9 0 ((cwD l posP).length)))))), (.s 10, some (.s (V.v (.int .i64 (((cwD l posP).length : Nat) : Int))))), (.s 11, some (.s (V.v (.int .i64 ((k : Nat) : Int))))), (.o 3, some (.o ⟨39, 2, true, [(.val (.int .i64 c.x) : A), .val (.int .i64 c.y)]⟩)), (.o 9, some (.o ⟨32, 3, true, pl (dsl (cwD l posP))⟩)), (.o 2, some .free), (.o 7, some .free), (.o 10, some .free), (.o 16, some .free), (.o 18, some .free)]
  have hfl := dfilt_len (cvr c) (cwD l posP) k
  have h128 := cwD_len l posP
  refine wp_seq' ?_
  refine wp_region_t ?_
  refine wpc (step_plain rfl (acts_bin (d := 12) (ltN rfl) (OpV.tmp 11 (.int .i64 ((k : Nat) : Int))) (OpV.tmp 10 (.int .i64 (((cwD l posP).length : Nat) : Int))) (r_lss (c := (decide (((k : Nat) : Int) < (((cwD l posP).length : Nat) : Int)))) rfl))) (by kernel_rfl) ?_
  refine wpl_nil ?_
  refine wp_seq' ?_
  refine wp_if (t := 12) (decide (((k : Nat) : Int) < (((cwD l posP).length : Nat) : Int))) (by kernel_rfl) (fun c2 => ?_) (fun c2 => ?_)
  · skip
    have c2P := of_decide_eq_true c2
    have hok : okD (gD (cwD l posP) k) = true := cwD_ok (gD_mem (by omega))
    refine wp_skip' ?_
    refine wp_seq' ?_
    refine wp_block' ?_
    refine wp_seq' ?_
    refine wp_region_t ?_
    refine wpc (step_plain rfl (acts_index_sl (d := 13) (x := 9) (h := 9) (off := 0) (n := ((cwD l posP).length)) (k := k) (off' := (k * 3)) (o := ⟨32, 3, true, pl (dsl (cwD l posP))⟩) (ltN rfl) qC14_un_42 qC14_sz_32 (OpV.tmp 11 (.int .i64 ((k : Nat) : Int))) rfl (by omega) (by (simp; done)))) (by kernel_rfl) ?_
    refine wpc (step_plain rfl (acts_load_owns (d := 14) (t := 13) (h := 9) (off := (k * 3)) (o := ⟨32, 3, true, pl (dsl (cwD l posP))⟩)  (xs := [(.int .i64 ((gD (cwD l posP) k).x) : Value), .int .i64 ((gD (cwD l posP) k).y), .bool ((gD (cwD l posP) k).d)].map A.val) (ltN rfl) qC14_ti_32 rfl (by decide) (pl_at (dsl_at (k := k) (by omega))))) (by kernel_rfl) ?_
    refine wpc (step_plain rfl (acts_alloc' (d := 7) (h := 7) (cap := 1) (s := 3) (cells := [(.val (.int .i64 0) : A), .val (.int .i64 0), .val (.bool false)]) (ltN rfl) qC14_zi_32 rfl rfl (by decide))) (by kernel_rfl) ?_
    refine wpc (step_plain rfl (acts_store (t := 7) (h := 7) (off := 0) (o := ⟨32, 3, true, [(.val (.int .i64 0) : A), .val (.int .i64 0), .val (.bool false)]⟩) (b := .agg ([(.int .i64 ((gD (cwD l posP) k).x) : Value), .int .i64 ((gD (cwD l posP) k).y), .bool ((gD (cwD l posP) k).d)].map A.val)) (cells := [(.val (.int .i64 ((gD (cwD l posP) k).x)) : A), .val (.int .i64 ((gD (cwD l posP) k).y)), .val (.bool ((gD (cwD l posP) k).d))]) qC14_ti_32 (OpX.tmp 14 (V.av [(.int .i64 ((gD (cwD l posP) k).x) : Value), .int .i64 ((gD (cwD l posP) k).y), .bool ((gD (cwD l posP) k).d)])) rfl (by decide) (by intro y hy; simp [B.cs] at hy; rcases hy with rfl | rfl | rfl <;> rfl) (Nat.le_of_ble_eq_true rfl) rfl)) (by kernel_rfl) ?_
    refine wpl_nil ?_
    refine wp_seq' ?_
    refine wp_drawn' (by kernel_rfl) (AllSteps.cons (step_plain rfl (acts_load_owns (d := 15) (t := 7) (h := 7) (off := 0) (o := ⟨32, 3, true, [(.val (.int .i64 ((gD (cwD l posP) k).x)) : A), .val (.int .i64 ((gD (cwD l posP) k).y)), .val (.bool ((gD (cwD l posP) k).d))]⟩)  (xs := [(.int .i64 ((gD (cwD l posP) k).x) : Value), .int .i64 ((gD (cwD l posP) k).y), .bool ((gD (cwD l posP) k).d)].map A.val) (ltN rfl) qC14_ti_32 rfl (by decide) rfl)) (AllSteps.cons (step_plain rfl (acts_call1 (d := 16) (ltN rfl) (impl_Domino__set_fn (gD (cwD l posP) k) (by omega)) (ArgVs.cons (ArgV.va (vs := [(.int .i64 ((gD (cwD l posP) k).x) : Value), .int .i64 ((gD (cwD l posP) k).y), .bool ((gD (cwD l posP) k).d)]) (OpV.agg 15 [(.int .i64 ((gD (cwD l posP) k).x) : Value), .int .i64 ((gD (cwD l posP) k).y), .bool ((gD (cwD l posP) k).d)])) (ArgVs.nil)) (ResV.val _))) (AllSteps.cons (step_plain rfl (acts_load_owns (d := 17) (t := 3) (h := 3) (off := 0) (o := ⟨39, 2, true, [(.val (.int .i64 c.x) : A), .val (.int .i64 c.y)]⟩)  (xs := [(.int .i64 c.x : Value), .int .i64 c.y].map A.val) (ltN rfl) qC14_ti_39 rfl (by decide) rfl)) (AllSteps.cons (step_plain rfl (acts_call1 (d := 18) (ltN rfl) (impl_set__has_fn (domS (gD (cwD l posP) k)) c (by exact domS_lt (by assumption))) (ArgVs.cons (ArgV.v (OpV.tmp 16 (.int .u64 (((domS (gD (cwD l posP) k)) : Nat) : Int)))) (ArgVs.cons (ArgV.va (vs := [(.int .i64 c.x : Value), .int .i64 c.y]) (OpV.agg 17 [(.int .i64 c.x : Value), .int .i64 c.y])) (ArgVs.nil))) (ResV.val _))) (AllSteps.nil))))) (by kernel_rfl) (by kernel_rfl) (by kernel_rfl) ?_
    refine wp_if (t := 18) ((hasS (domS (gD (cwD l posP) k)) c)) (by kernel_rfl) (fun c3 => ?_) (fun c3 => ?_)
    · skip
      refine wp_region_t ?_
      refine wpc (step_plain rfl (acts_move (d := 19) (ltN rfl) (OpX.tmp 5 (V.v (.int .i64 (((((cwD l posP).take k).filter (cvr c)).length : Nat) : Int)))))) (by kernel_rfl) ?_
      refine wpc (step_plain rfl (acts_bin (d := 20) (ltN rfl) (OpV.tmp 19 (.int .i64 (((((cwD l posP).take k).filter (cvr c)).length : Nat) : Int))) (OpV.const (.int .i64 1)) (r_add (c := ((((((cwD l posP).take k).filter (cvr c)).length : Nat) : Int) + 1)) (w64 (by omega) (by omega))))) (by kernel_rfl) ?_
      refine wpc (step_plain rfl (acts_assign (d := 5) (ltN rfl) (OpX.tmp 20 (V.v (.int .i64 ((((((cwD l posP).take k).filter (cvr c)).length : Nat) : Int) + 1)))))) (by kernel_rfl) ?_
      refine wpl_nil ?_
      refine wp_region_t ?_
      refine wpc (step_plain rfl (acts_bin (d := 21) (ltN rfl) (OpV.tmp 11 (.int .i64 ((k : Nat) : Int))) (OpV.const (.int .i64 1)) (r_add (c := (((k : Nat) : Int) + 1)) (w64 (by omega) (by omega))))) (by kernel_rfl) ?_
      refine wpc (step_plain rfl (acts_move (d := 11) (ltN rfl) (OpX.tmp 21 (V.v (.int .i64 (((k : Nat) : Int) + 1)))))) (by kernel_rfl) ?_
      refine wpl_nil ?_
      exact loop_back ((k + 1)) (by show _ ≤ _; omega) (by show (cwD l posP).length - (k + 1) < (cwD l posP).length - k; omega) (weak_of id [2, 7, 10, 16, 18] (by kernel_rfl) (wk_s (v' := V.p 3 0) (by kernel_rfl) rfl rfl (wk_s (v' := V.v (.int .i64 ((((((cwD l posP).take k).filter (cvr c)).length : Nat) : Int) + 1))) (by kernel_rfl) (vint (by (rw [dfilt_yes (by omega) (by first | ((rw [← cvr_set (by assumption)]; assumption); done) | (unfold cvr; simp_all; done) | (unfold cvr; simp_all [cEq_cel]; done))]; simp; done))) rfl (wk_s (v' := V.b (.a (.sl 9 0 ((cwD l posP).length)))) (by kernel_rfl) rfl rfl (wk_s (v' := V.v (.int .i64 (((cwD l posP).length : Nat) : Int))) (by kernel_rfl) rfl rfl (wk_s (v' := V.v (.int .i64 (((k : Nat) : Int) + 1))) (by kernel_rfl) (vint (by rfl)) rfl (wk_o (o' := ⟨39, 2, true, [(.val (.int .i64 c.x) : A), .val (.int .i64 c.y)]⟩) (by kernel_rfl) (renob_l (fun h => h) rfl rfl) rfl (wk_o (o' := ⟨32, 3, true, pl (dsl (cwD l posP))⟩) (by kernel_rfl) (renob_pl (fun h => h)) rfl (wk_f rfl (wk_f rfl (wk_f rfl (wk_f rfl (wk_f rfl (wk_nil))))))))))))))
    · skip
      refine wp_skip' ?_
      refine wp_region_t ?_
      refine wpc (step_plain rfl (acts_bin (d := 21) (ltN rfl) (OpV.tmp 11 (.int .i64 ((k : Nat) : Int))) (OpV.const (.int .i64 1)) (r_add (c := (((k : Nat) : Int) + 1)) (w64 (by omega) (by omega))))) (by kernel_rfl) ?_
      refine wpc (step_plain rfl (acts_move (d := 11) (ltN rfl) (OpX.tmp 21 (V.v (.int .i64 (((k : Nat) : Int) + 1)))))) (by kernel_rfl) ?_
      refine wpl_nil ?_
      exact loop_back ((k + 1)) (by show _ ≤ _; omega) (by show (cwD l posP).length - (k + 1) < (cwD l posP).length - k; omega) (weak_of id [2, 7, 10, 16, 18] (by kernel_rfl) (wk_s (v' := V.p 3 0) (by kernel_rfl) rfl rfl (wk_s (v' := V.v (.int .i64 (((((cwD l posP).take k).filter (cvr c)).length : Nat) : Int))) (by kernel_rfl) (vint (by (rw [dfilt_no (by omega) (by first | ((rw [← cvr_set (by assumption)]; assumption); done) | (unfold cvr; simp_all; done) | (unfold cvr; simp_all [cEq_cel]; done))]; done))) rfl (wk_s (v' := V.b (.a (.sl 9 0 ((cwD l posP).length)))) (by kernel_rfl) rfl rfl (wk_s (v' := V.v (.int .i64 (((cwD l posP).length : Nat) : Int))) (by kernel_rfl) rfl rfl (wk_s (v' := V.v (.int .i64 (((k : Nat) : Int) + 1))) (by kernel_rfl) (vint (by rfl)) rfl (wk_o (o' := ⟨39, 2, true, [(.val (.int .i64 c.x) : A), .val (.int .i64 c.y)]⟩) (by kernel_rfl) (renob_l (fun h => h) rfl rfl) rfl (wk_o (o' := ⟨32, 3, true, pl (dsl (cwD l posP))⟩) (by kernel_rfl) (renob_pl (fun h => h)) rfl (wk_f rfl (wk_f rfl (wk_f rfl (wk_f rfl (wk_f rfl (wk_nil))))))))))))))
  · skip
    have c2P := of_decide_eq_false c2
    refine wp_exit' ?_
    refine wp_seq' ?_
    refine wp_region_t ?_
    refine wpc (step_plain rfl (acts_move (d := 22) (ltN rfl) (OpX.tmp 5 (V.v (.int .i64 (((((cwD l posP).take k).filter (cvr c)).length : Nat) : Int)))))) (by kernel_rfl) ?_
    refine wpc (step_plain rfl (acts_assign (d := 4) (ltN rfl) (OpX.tmp 22 (V.v (.int .i64 (((((cwD l posP).take k).filter (cvr c)).length : Nat) : Int)))))) (by kernel_rfl) ?_
    refine wpl_nil ?_
    refine wp_ret' ?_
    exact VRes.tmp 4 (.a (.val (.int .i64 (((((cwD l posP).take k).filter (cvr c)).length : Nat) : Int)))) _ (by kernel_rfl) (bval (congrArg (Value.int .i64) (by rw [dfilt_all _ (by assumption)])))

set_option maxHeartbeats 4000000 in
set_option maxRecDepth 100000 in
theorem spec_CountOver_fn (l : List Int) (c : Cel) (hl : l.length ≤ 4194304) : Fn Try.prog 15 [.agg [(.slv l.length 1 (isl l) : A)], .agg ([(.int .i64 c.x : Value), .int .i64 c.y].map A.val)] [.val (.int .i64 ((((cwD l posP).filter (cvr c)).length : Nat) : Int))] := by
  refine fn_intro (N := 37) Try.func15 rfl (by kernel_rfl) rfl (Nat.le_of_ble_eq_true rfl) [2, 3, 8, 9, 11, 14, 23] (ret1 rfl) (fun W => ?_)
  show Wp _ _ _ [(.s 0, some (.s (V.b (.agg [(.slv l.length 1 (isl l) : A)])))), (.s 1, some (.s (V.av [(.int .i64 c.x : Value), .int .i64 c.y]))), (.o 2, some .free), (.o 3, some .free), (.o 8, some .free), (.o 9, some .free), (.o 11, some .free), (.o 14, some .free), (.o 23, some .free)]
  refine wp_seq' ?_
  refine wp_region_t ?_
  refine wpc (step_plain rfl (acts_box (d := 2) (h := 2) (b := .agg [(.slv l.length 1 (isl l) : A)]) (ltN rfl) (OpX.tmp 0 (V.b (.agg [(.slv l.length 1 (isl l) : A)]))) (by intro y hy; simp [B.cs] at hy; subst hy; rfl))) (by kernel_rfl) ?_
  refine wpc (step_plain rfl (acts_box (d := 3) (h := 3) (b := .agg ([(.int .i64 c.x : Value), .int .i64 c.y].map A.val)) (ltN rfl) (OpX.tmp 1 (V.av [(.int .i64 c.x : Value), .int .i64 c.y])) (by intro y hy; simp [B.cs] at hy; rcases hy with rfl | rfl <;> rfl))) (by kernel_rfl) ?_
  refine wpc (step_plain rfl (acts_assign (d := 4) (ltN rfl) (OpX.const (.int .i64 0)))) (by kernel_rfl) ?_
  refine wpl_nil ?_
  refine wp_seq' ?_
  refine wp_region_t ?_
  refine wpc (step_plain rfl (acts_assign (d := 5) (ltN rfl) (OpX.const (.int .i64 0)))) (by kernel_rfl) ?_
  refine wpl_nil ?_
  refine wp_seq' ?_
  refine wp_region_t ?_
  refine wpc (step_plain rfl (acts_load_owns (d := 10) (t := 2) (h := 2) (off := 0) (o := ⟨30, 1, true, [(.slv l.length 1 (isl l) : A)]⟩)  (xs := [(.slv l.length 1 (isl l) : A)]) (ltN rfl) qC14_ti_30 rfl (by decide) rfl)) (by kernel_rfl) ?_
  refine wpc (step_plain rfl (acts_call1 (d := 11) (ltN rfl) (spec_PossibleDominoes_fn l (by omega)) (ArgVs.cons (ArgV.regv 10 l.length 1 (isl l)) (ArgVs.nil)) (ResV.row 32 3 ((cwD l posP).length) (dsl (cwD l posP)) 11))) (by kernel_rfl) ?_
  refine wpc (step_plain rfl (acts_assign (d := 6) (ltN rfl) (OpX.tmp 11 (V.b (.a (.sl 11 0 ((cwD l posP).length))))))) (by kernel_rfl) ?_
  refine wpl_nil ?_
  refine wp_seq' ?_
  refine wp_seq' ?_
  refine wp_region_t ?_
  refine wpc (step_plain rfl (acts_assign (d := 7) (ltN rfl) (OpX.const (.int .i64 0)))) (by kernel_rfl) ?_
  refine wpl_nil ?_
  refine wp_block' ?_
  refine wp_loop' (fun (k : Nat) => k ≤ (cwD l posP).length) (fun (k : Nat) => [(.s 3, some (.s (V.p 3 0))), (.s 5, some (.s (V.v (.int .i64 (((((cwD l posP).take k).filter (cvr c)).length : Nat) : Int))))), (.s 6, some (.s (V.b (.a (.sl 11 0 ((cwD l posP).length)))))), (.s 7, some (.s (V.v (.int .i64 ((k : Nat) : Int))))), (.o 3, some (.o ⟨39, 2, true, [(.val (.int .i64 c.x) : A), .val (.int .i64 c.y)]⟩)), (.o 11, some (.o ⟨32, 3, true, pl (dsl (cwD l posP))⟩)), (.o 2, some .free), (.o 8, some .free), (.o 9, some .free), (.o 14, some .free), (.o 23, some .free)]) (fun (k : Nat) => (cwD l posP).length - k) ((0 : Nat)) (by exact (Nat.zero_le _ : 0 ≤ _)) (weak_of id [2, 8, 9, 14, 23] (by kernel_rfl) (wk_s (v' := V.p 3 0) (by kernel_rfl) rfl rfl (wk_s (v' := V.v (.int .i64 0)) (by kernel_rfl) (vint (by rfl)) rfl (wk_s (v' := V.b (.a (.sl 11 0 ((cwD l posP).length)))) (by kernel_rfl) rfl rfl (wk_s (v' := V.v (.int .i64 0)) (by kernel_rfl) (vint (by rfl)) rfl (wk_o (o' := ⟨39, 2, true, [(.val (.int .i64 c.x) : A), .val (.int .i64 c.y)]⟩) (by kernel_rfl) (renob_l (fun h => h) rfl rfl) rfl (wk_o (o' := ⟨32, 3, true, pl (dsl (cwD l posP))⟩) (by kernel_rfl) (renob_pl (fun h => h)) rfl (wk_f rfl (wk_f rfl (wk_f rfl (wk_f rfl (wk_f rfl (wk_nil))))))))))))) ?_
  rintro k inv1
  replace inv1 : k ≤ (cwD l posP).length := inv1
  have inv := inv1
  show Wp _ _ _ [(.s 3, some (.s (V.p 3 0))), (.s 5, some (.s (V.v (.int .i64 (((((cwD l posP).take k).filter (cvr c)).length : Nat) : Int))))), (.s 6, some (.s (V.b (.a (.sl 11 0 ((cwD l posP).length)))))), (.s 7, some (.s (V.v (.int .i64 ((k : Nat) : Int))))), (.o 3, some (.o ⟨39, 2, true, [(.val (.int .i64 c.x) : A), .val (.int .i64 c.y)]⟩)), (.o 11, some (.o ⟨32, 3, true, pl (dsl (cwD l posP))⟩)), (.o 2, some .free), (.o 8, some .free), (.o 9, some .free), (.o 14, some .free), (.o 23, some .free)]
  have hfl := dfilt_len (cvr c) (cwD l posP) k
  have h128 := cwD_len l posP
  refine wp_seq' ?_
  refine wp_seq' ?_
  refine wp_region_t ?_
  refine wpc (step_plain rfl (acts_move (d := 12) (ltN rfl) (OpX.tmp 7 (V.v (.int .i64 ((k : Nat) : Int)))))) (by kernel_rfl) ?_
  refine wpc (step_plain rfl (acts_move (d := 13) (ltN rfl) (OpX.tmp 6 (V.b (.a (.sl 11 0 ((cwD l posP).length))))))) (by kernel_rfl) ?_
  refine wpc (step_plain rfl (acts_len (d := 14) (X := .sl 11 0 ((cwD l posP).length)) (n := ((cwD l posP).length)) (iv := (((cwD l posP).length : Nat) : Int)) (ltN rfl) qC14_un_42 (OpX.tmp 13 (V.b (.a (.sl 11 0 ((cwD l posP).length))))) (LenOf.sl _ _ _) rfl)) (by kernel_rfl) ?_
  refine wpc (step_plain rfl (acts_bin (d := 15) (ltN rfl) (OpV.tmp 12 (.int .i64 ((k : Nat) : Int))) (OpV.tmp 14 (.int .i64 (((cwD l posP).length : Nat) : Int))) (r_lss (c := (decide (((k : Nat) : Int) < (((cwD l posP).length : Nat) : Int)))) rfl))) (by kernel_rfl) ?_
  refine wpl_nil ?_
  refine wp_if (t := 15) (decide (((k : Nat) : Int) < (((cwD l posP).length : Nat) : Int))) (by kernel_rfl) (fun c2 => ?_) (fun c2 => ?_)
  · skip
    have c2P := of_decide_eq_true c2
    have hok : okD (gD (cwD l posP) k) = true := cwD_ok (gD_mem (by omega))
    refine wp_skip' ?_
    refine wp_seq' ?_
    refine wp_block' ?_
    refine wp_seq' ?_
    refine wp_region_t ?_
    refine wpc (step_plain rfl (acts_move (d := 19) (ltN rfl) (OpX.tmp 6 (V.b (.a (.sl 11 0 ((cwD l posP).length))))))) (by kernel_rfl) ?_
    refine wpc (step_plain rfl (acts_move (d := 20) (ltN rfl) (OpX.tmp 7 (V.v (.int .i64 ((k : Nat) : Int)))))) (by kernel_rfl) ?_
    refine wpc (step_plain rfl (acts_index_sl (d := 21) (x := 19) (h := 11) (off := 0) (n := ((cwD l posP).length)) (k := k) (off' := (k * 3)) (o := ⟨32, 3, true, pl (dsl (cwD l posP))⟩) (ltN rfl) qC14_un_42 qC14_sz_32 (OpV.tmp 20 (.int .i64 ((k : Nat) : Int))) rfl (by omega) (by (simp; done)))) (by kernel_rfl) ?_
    refine wpc (step_plain rfl (acts_load_owns (d := 22) (t := 21) (h := 11) (off := (k * 3)) (o := ⟨32, 3, true, pl (dsl (cwD l posP))⟩)  (xs := [(.int .i64 ((gD (cwD l posP) k).x) : Value), .int .i64 ((gD (cwD l posP) k).y), .bool ((gD (cwD l posP) k).d)].map A.val) (ltN rfl) qC14_ti_32 rfl (by decide) (pl_at (dsl_at (k := k) (by omega))))) (by kernel_rfl) ?_
    refine wpc (step_plain rfl (acts_call2 (d := 23) (ltN rfl) (spec_CellsUnder_fn (gD (cwD l posP) k) (by omega)) (ArgVs.cons (ArgV.va (vs := [(.int .i64 ((gD (cwD l posP) k).x) : Value), .int .i64 ((gD (cwD l posP) k).y), .bool ((gD (cwD l posP) k).d)]) (OpV.agg 22 [(.int .i64 ((gD (cwD l posP) k).x) : Value), .int .i64 ((gD (cwD l posP) k).y), .bool ((gD (cwD l posP) k).d)])) (ArgVs.nil)) (ResV.agg [(.int .i64 ((ca (gD (cwD l posP) k)).x) : Value), .int .i64 ((ca (gD (cwD l posP) k)).y)]) (ResV.agg [(.int .i64 ((cb (gD (cwD l posP) k)).x) : Value), .int .i64 ((cb (gD (cwD l posP) k)).y)]))) (by kernel_rfl) ?_
    refine wpc (step_plain rfl (acts_move (d := 18) (ltN rfl) (OpX.tmp 23 (V.tup [.agg ([(.int .i64 ((ca (gD (cwD l posP) k)).x) : Value), .int .i64 ((ca (gD (cwD l posP) k)).y)].map A.val), .agg ([(.int .i64 ((cb (gD (cwD l posP) k)).x) : Value), .int .i64 ((cb (gD (cwD l posP) k)).y)].map A.val)])))) (by kernel_rfl) ?_
    refine wpc (step_plain rfl (acts_extract (d := 24) (t := 18) (ix := 0) (xs := [.agg ([(.int .i64 ((ca (gD (cwD l posP) k)).x) : Value), .int .i64 ((ca (gD (cwD l posP) k)).y)].map A.val), .agg ([(.int .i64 ((cb (gD (cwD l posP) k)).x) : Value), .int .i64 ((cb (gD (cwD l posP) k)).y)].map A.val)]) (X := .agg ([(.int .i64 ((ca (gD (cwD l posP) k)).x) : Value), .int .i64 ((ca (gD (cwD l posP) k)).y)].map A.val)) (ltN rfl) rfl)) (by kernel_rfl) ?_
    refine wpc (step_plain rfl (acts_extract (d := 25) (t := 18) (ix := 1) (xs := [.agg ([(.int .i64 ((ca (gD (cwD l posP) k)).x) : Value), .int .i64 ((ca (gD (cwD l posP) k)).y)].map A.val), .agg ([(.int .i64 ((cb (gD (cwD l posP) k)).x) : Value), .int .i64 ((cb (gD (cwD l posP) k)).y)].map A.val)]) (X := .agg ([(.int .i64 ((cb (gD (cwD l posP) k)).x) : Value), .int .i64 ((cb (gD (cwD l posP) k)).y)].map A.val)) (ltN rfl) rfl)) (by kernel_rfl) ?_
    refine wpc (step_plain rfl (acts_alloc' (d := 8) (h := 8) (cap := 1) (s := 2) (cells := [(.val (.int .i64 0) : A), .val (.int .i64 0)]) (ltN rfl) qC14_zi_39 rfl rfl (by decide))) (by kernel_rfl) ?_
    refine wpc (step_plain rfl (acts_alloc' (d := 9) (h := 9) (cap := 1) (s := 2) (cells := [(.val (.int .i64 0) : A), .val (.int .i64 0)]) (ltN rfl) qC14_zi_39 rfl rfl (by decide))) (by kernel_rfl) ?_
    refine wpc (step_plain rfl (acts_store (t := 8) (h := 8) (off := 0) (o := ⟨39, 2, true, [(.val (.int .i64 0) : A), .val (.int .i64 0)]⟩) (b := .agg ([(.int .i64 ((ca (gD (cwD l posP) k)).x) : Value), .int .i64 ((ca (gD (cwD l posP) k)).y)].map A.val)) (cells := [(.val (.int .i64 ((ca (gD (cwD l posP) k)).x)) : A), .val (.int .i64 ((ca (gD (cwD l posP) k)).y))]) qC14_ti_39 (OpX.tmp 24 (V.av [(.int .i64 ((ca (gD (cwD l posP) k)).x) : Value), .int .i64 ((ca (gD (cwD l posP) k)).y)])) rfl (by decide) (by intro y hy; simp [B.cs] at hy; rcases hy with rfl | rfl <;> rfl) (Nat.le_of_ble_eq_true rfl) rfl)) (by kernel_rfl) ?_
    refine wpc (step_plain rfl (acts_store (t := 9) (h := 9) (off := 0) (o := ⟨39, 2, true, [(.val (.int .i64 0) : A), .val (.int .i64 0)]⟩) (b := .agg ([(.int .i64 ((cb (gD (cwD l posP) k)).x) : Value), .int .i64 ((cb (gD (cwD l posP) k)).y)].map A.val)) (cells := [(.val (.int .i64 ((cb (gD (cwD l posP) k)).x)) : A), .val (.int .i64 ((cb (gD (cwD l posP) k)).y))]) qC14_ti_39 (OpX.tmp 25 (V.av [(.int .i64 ((cb (gD (cwD l posP) k)).x) : Value), .int .i64 ((cb (gD (cwD l posP) k)).y)])) rfl (by decide) (by intro y hy; simp [B.cs] at hy; rcases hy with rfl | rfl <;> rfl) (Nat.le_of_ble_eq_true rfl) rfl)) (by kernel_rfl) ?_
    refine wpl_nil ?_
    refine wp_seq' ?_
    rcases Bool.eq_false_or_eq_true ((cEq ((ca (gD (cwD l posP) k)).x) ((ca (gD (cwD l posP) k)).y) c.x c.y)) with c3 | c3
    · skip
      refine wp_region_t ?_
      refine wpc (step_plain rfl (acts_load_owns (d := 26) (t := 8) (h := 8) (off := 0) (o := ⟨39, 2, true, [(.val (.int .i64 ((ca (gD (cwD l posP) k)).x)) : A), .val (.int .i64 ((ca (gD (cwD l posP) k)).y))]⟩)  (xs := [(.int .i64 ((ca (gD (cwD l posP) k)).x) : Value), .int .i64 ((ca (gD (cwD l posP) k)).y)].map A.val) (ltN rfl) qC14_ti_39 rfl (by decide) rfl)) (by kernel_rfl) ?_
      refine wpc (step_plain rfl (acts_load_owns (d := 27) (t := 3) (h := 3) (off := 0) (o := ⟨39, 2, true, [(.val (.int .i64 c.x) : A), .val (.int .i64 c.y)]⟩)  (xs := [(.int .i64 c.x : Value), .int .i64 c.y].map A.val) (ltN rfl) qC14_ti_39 rfl (by decide) rfl)) (by kernel_rfl) ?_
      refine wpc (step_plain rfl (acts_bin (d := 28) (ltN rfl) (OpV.agg 26 [(.int .i64 ((ca (gD (cwD l posP) k)).x) : Value), .int .i64 ((ca (gD (cwD l posP) k)).y)]) (OpV.agg 27 [(.int .i64 c.x : Value), .int .i64 c.y]) (r_aggeq qC14_eg_39 (fun w => (run_eql_cel ((ca (gD (cwD l posP) k)).x) ((ca (gD (cwD l posP) k)).y) c.x c.y w).trans (congrArg (fun z => Result.ok (Value.bool z) w) c3))))) (by kernel_rfl) ?_
      refine wpc (step_plain rfl (acts_move (d := 29) (ltN rfl) (OpX.tmp 28 (V.v (.bool true))))) (by kernel_rfl) ?_
      refine wpc (step_off (dj := 29) (b' := true) rfl rfl (by decide) rfl (ltN rfl)) (by kernel_rfl) ?_
      refine wpc (step_off (dj := 29) (b' := true) rfl rfl (by decide) rfl (ltN rfl)) (by kernel_rfl) ?_
      refine wpc (step_off (dj := 29) (b' := true) rfl rfl (by decide) rfl (ltN rfl)) (by kernel_rfl) ?_
      refine wpc (step_plain rfl (acts_pick_t (d := 33) (ltN rfl) (OpV.tmp 29 (.bool true)) (OpX.const (.bool true)))) (by kernel_rfl) ?_
      refine wpl_nil ?_
      refine wp_if_t (t := 33) (by kernel_rfl) ?_
      refine wp_region_t ?_
      refine wpc (step_plain rfl (acts_move (d := 34) (ltN rfl) (OpX.tmp 5 (V.v (.int .i64 (((((cwD l posP).take k).filter (cvr c)).length : Nat) : Int)))))) (by kernel_rfl) ?_
      refine wpc (step_plain rfl (acts_bin (d := 35) (ltN rfl) (OpV.tmp 34 (.int .i64 (((((cwD l posP).take k).filter (cvr c)).length : Nat) : Int))) (OpV.const (.int .i64 1)) (r_add (c := ((((((cwD l posP).take k).filter (cvr c)).length : Nat) : Int) + 1)) (w64 (by omega) (by omega))))) (by kernel_rfl) ?_
      refine wpc (step_plain rfl (acts_assign (d := 5) (ltN rfl) (OpX.tmp 35 (V.v (.int .i64 ((((((cwD l posP).take k).filter (cvr c)).length : Nat) : Int) + 1)))))) (by kernel_rfl) ?_
      refine wpl_nil ?_
      refine wp_region_t ?_
      refine wpc (step_plain rfl (acts_move (d := 16) (ltN rfl) (OpX.tmp 7 (V.v (.int .i64 ((k : Nat) : Int)))))) (by kernel_rfl) ?_
      refine wpc (step_plain rfl (acts_bin (d := 17) (ltN rfl) (OpV.tmp 16 (.int .i64 ((k : Nat) : Int))) (OpV.const (.int .i64 1)) (r_add (c := (((k : Nat) : Int) + 1)) (w64 (by omega) (by omega))))) (by kernel_rfl) ?_
      refine wpc (step_plain rfl (acts_assign (d := 7) (ltN rfl) (OpX.tmp 17 (V.v (.int .i64 (((k : Nat) : Int) + 1)))))) (by kernel_rfl) ?_
      refine wpl_nil ?_
      exact loop_back ((k + 1)) (by show _ ≤ _; omega) (by show (cwD l posP).length - (k + 1) < (cwD l posP).length - k; omega) (weak_of id [2, 8, 9, 14, 23] (by kernel_rfl) (wk_s (v' := V.p 3 0) (by kernel_rfl) rfl rfl (wk_s (v' := V.v (.int .i64 ((((((cwD l posP).take k).filter (cvr c)).length : Nat) : Int) + 1))) (by kernel_rfl) (vint (by (rw [dfilt_yes (by omega) (by first | ((rw [← cvr_set (by assumption)]; assumption); done) | (unfold cvr; simp_all; done) | (unfold cvr; simp_all [cEq_cel]; done))]; simp; done))) rfl (wk_s (v' := V.b (.a (.sl 11 0 ((cwD l posP).length)))) (by kernel_rfl) rfl rfl (wk_s (v' := V.v (.int .i64 (((k : Nat) : Int) + 1))) (by kernel_rfl) (vint (by rfl)) rfl (wk_o (o' := ⟨39, 2, true, [(.val (.int .i64 c.x) : A), .val (.int .i64 c.y)]⟩) (by kernel_rfl) (renob_l (fun h => h) rfl rfl) rfl (wk_o (o' := ⟨32, 3, true, pl (dsl (cwD l posP))⟩) (by kernel_rfl) (renob_pl (fun h => h)) rfl (wk_f rfl (wk_f rfl (wk_f rfl (wk_f rfl (wk_f rfl (wk_nil)))))))))))))
    · skip
      refine wp_region_t ?_
      refine wpc (step_plain rfl (acts_load_owns (d := 26) (t := 8) (h := 8) (off := 0) (o := ⟨39, 2, true, [(.val (.int .i64 ((ca (gD (cwD l posP) k)).x)) : A), .val (.int .i64 ((ca (gD (cwD l posP) k)).y))]⟩)  (xs := [(.int .i64 ((ca (gD (cwD l posP) k)).x) : Value), .int .i64 ((ca (gD (cwD l posP) k)).y)].map A.val) (ltN rfl) qC14_ti_39 rfl (by decide) rfl)) (by kernel_rfl) ?_
      refine wpc (step_plain rfl (acts_load_owns (d := 27) (t := 3) (h := 3) (off := 0) (o := ⟨39, 2, true, [(.val (.int .i64 c.x) : A), .val (.int .i64 c.y)]⟩)  (xs := [(.int .i64 c.x : Value), .int .i64 c.y].map A.val) (ltN rfl) qC14_ti_39 rfl (by decide) rfl)) (by kernel_rfl) ?_
      refine wpc (step_plain rfl (acts_bin (d := 28) (ltN rfl) (OpV.agg 26 [(.int .i64 ((ca (gD (cwD l posP) k)).x) : Value), .int .i64 ((ca (gD (cwD l posP) k)).y)]) (OpV.agg 27 [(.int .i64 c.x : Value), .int .i64 c.y]) (r_aggeq qC14_eg_39 (fun w => (run_eql_cel ((ca (gD (cwD l posP) k)).x) ((ca (gD (cwD l posP) k)).y) c.x c.y w).trans (congrArg (fun z => Result.ok (Value.bool z) w) c3))))) (by kernel_rfl) ?_
      refine wpc (step_plain rfl (acts_move (d := 29) (ltN rfl) (OpX.tmp 28 (V.v (.bool false))))) (by kernel_rfl) ?_
      refine wpc (step_on (dj := 29) rfl rfl (acts_load_owns (d := 30) (t := 9) (h := 9) (off := 0) (o := ⟨39, 2, true, [(.val (.int .i64 ((cb (gD (cwD l posP) k)).x)) : A), .val (.int .i64 ((cb (gD (cwD l posP) k)).y))]⟩)  (xs := [(.int .i64 ((cb (gD (cwD l posP) k)).x) : Value), .int .i64 ((cb (gD (cwD l posP) k)).y)].map A.val) (ltN rfl) qC14_ti_39 rfl (by decide) rfl)) (by kernel_rfl) ?_
      refine wpc (step_on (dj := 29) rfl rfl (acts_load_owns (d := 31) (t := 3) (h := 3) (off := 0) (o := ⟨39, 2, true, [(.val (.int .i64 c.x) : A), .val (.int .i64 c.y)]⟩)  (xs := [(.int .i64 c.x : Value), .int .i64 c.y].map A.val) (ltN rfl) qC14_ti_39 rfl (by decide) rfl)) (by kernel_rfl) ?_
      refine wpc (step_on (dj := 29) rfl rfl (acts_bin (d := 32) (ltN rfl) (OpV.agg 30 [(.int .i64 ((cb (gD (cwD l posP) k)).x) : Value), .int .i64 ((cb (gD (cwD l posP) k)).y)]) (OpV.agg 31 [(.int .i64 c.x : Value), .int .i64 c.y]) (r_aggeq qC14_eg_39 (fun w => (run_eql_cel ((cb (gD (cwD l posP) k)).x) ((cb (gD (cwD l posP) k)).y) c.x c.y w).trans (congrArg (fun z => Result.ok (Value.bool z) w) (rfl : (cEq ((cb (gD (cwD l posP) k)).x) ((cb (gD (cwD l posP) k)).y) c.x c.y) = (cEq ((cb (gD (cwD l posP) k)).x) ((cb (gD (cwD l posP) k)).y) c.x c.y))))))) (by kernel_rfl) ?_
      refine wpc (step_plain rfl (acts_pick_f (d := 33) (ltN rfl) (OpV.tmp 29 (.bool false)) (OpX.tmp 32 (V.v (.bool (cEq ((cb (gD (cwD l posP) k)).x) ((cb (gD (cwD l posP) k)).y) c.x c.y)))))) (by kernel_rfl) ?_
      refine wpl_nil ?_
      refine wp_if (t := 33) ((cEq ((cb (gD (cwD l posP) k)).x) ((cb (gD (cwD l posP) k)).y) c.x c.y)) (by kernel_rfl) (fun c4 => ?_) (fun c4 => ?_)
      · skip
        refine wp_region_t ?_
        refine wpc (step_plain rfl (acts_move (d := 34) (ltN rfl) (OpX.tmp 5 (V.v (.int .i64 (((((cwD l posP).take k).filter (cvr c)).length : Nat) : Int)))))) (by kernel_rfl) ?_
        refine wpc (step_plain rfl (acts_bin (d := 35) (ltN rfl) (OpV.tmp 34 (.int .i64 (((((cwD l posP).take k).filter (cvr c)).length : Nat) : Int))) (OpV.const (.int .i64 1)) (r_add (c := ((((((cwD l posP).take k).filter (cvr c)).length : Nat) : Int) + 1)) (w64 (by omega) (by omega))))) (by kernel_rfl) ?_
        refine wpc (step_plain rfl (acts_assign (d := 5) (ltN rfl) (OpX.tmp 35 (V.v (.int .i64 ((((((cwD l posP).take k).filter (cvr c)).length : Nat) : Int) + 1)))))) (by kernel_rfl) ?_
        refine wpl_nil ?_
        refine wp_region_t ?_
        refine wpc (step_plain rfl (acts_move (d := 16) (ltN rfl) (OpX.tmp 7 (V.v (.int .i64 ((k : Nat) : Int)))))) (by kernel_rfl) ?_
        refine wpc (step_plain rfl (acts_bin (d := 17) (ltN rfl) (OpV.tmp 16 (.int .i64 ((k : Nat) : Int))) (OpV.const (.int .i64 1)) (r_add (c := (((k : Nat) : Int) + 1)) (w64 (by omega) (by omega))))) (by kernel_rfl) ?_
        refine wpc (step_plain rfl (acts_assign (d := 7) (ltN rfl) (OpX.tmp 17 (V.v (.int .i64 (((k : Nat) : Int) + 1)))))) (by kernel_rfl) ?_
        refine wpl_nil ?_
        exact loop_back ((k + 1)) (by show _ ≤ _; omega) (by show (cwD l posP).length - (k + 1) < (cwD l posP).length - k; omega) (weak_of id [2, 8, 9, 14, 23] (by kernel_rfl) (wk_s (v' := V.p 3 0) (by kernel_rfl) rfl rfl (wk_s (v' := V.v (.int .i64 ((((((cwD l posP).take k).filter (cvr c)).length : Nat) : Int) + 1))) (by kernel_rfl) (vint (by (rw [dfilt_yes (by omega) (by first | ((rw [← cvr_set (by assumption)]; assumption); done) | (unfold cvr; simp_all; done) | (unfold cvr; simp_all [cEq_cel]; done))]; simp; done))) rfl (wk_s (v' := V.b (.a (.sl 11 0 ((cwD l posP).length)))) (by kernel_rfl) rfl rfl (wk_s (v' := V.v (.int .i64 (((k : Nat) : Int) + 1))) (by kernel_rfl) (vint (by rfl)) rfl (wk_o (o' := ⟨39, 2, true, [(.val (.int .i64 c.x) : A), .val (.int .i64 c.y)]⟩) (by kernel_rfl) (renob_l (fun h => h) rfl rfl) rfl (wk_o (o' := ⟨32, 3, true, pl (dsl (cwD l posP))⟩) (by kernel_rfl) (renob_pl (fun h => h)) rfl (wk_f rfl (wk_f rfl (wk_f rfl (wk_f rfl (wk_f rfl (wk_nil)))))))))))))
      · skip
        refine wp_skip' ?_
        refine wp_region_t ?_
        refine wpc (step_plain rfl (acts_move (d := 16) (ltN rfl) (OpX.tmp 7 (V.v (.int .i64 ((k : Nat) : Int)))))) (by kernel_rfl) ?_
        refine wpc (step_plain rfl (acts_bin (d := 17) (ltN rfl) (OpV.tmp 16 (.int .i64 ((k : Nat) : Int))) (OpV.const (.int .i64 1)) (r_add (c := (((k : Nat) : Int) + 1)) (w64 (by omega) (by omega))))) (by kernel_rfl) ?_
        refine wpc (step_plain rfl (acts_assign (d := 7) (ltN rfl) (OpX.tmp 17 (V.v (.int .i64 (((k : Nat) : Int) + 1)))))) (by kernel_rfl) ?_
        refine wpl_nil ?_
        exact loop_back ((k + 1)) (by show _ ≤ _; omega) (by show (cwD l posP).length - (k + 1) < (cwD l posP).length - k; omega) (weak_of id [2, 8, 9, 14, 23] (by kernel_rfl) (wk_s (v' := V.p 3 0) (by kernel_rfl) rfl rfl (wk_s (v' := V.v (.int .i64 (((((cwD l posP).take k).filter (cvr c)).length : Nat) : Int))) (by kernel_rfl) (vint (by (rw [dfilt_no (by omega) (by first | ((rw [← cvr_set (by assumption)]; assumption); done) | (unfold cvr; simp_all; done) | (unfold cvr; simp_all [cEq_cel]; done))]; done))) rfl (wk_s (v' := V.b (.a (.sl 11 0 ((cwD l posP).length)))) (by kernel_rfl) rfl rfl (wk_s (v' := V.v (.int .i64 (((k : Nat) : Int) + 1))) (by kernel_rfl) (vint (by rfl)) rfl (wk_o (o' := ⟨39, 2, true, [(.val (.int .i64 c.x) : A), .val (.int .i64 c.y)]⟩) (by kernel_rfl) (renob_l (fun h => h) rfl rfl) rfl (wk_o (o' := ⟨32, 3, true, pl (dsl (cwD l posP))⟩) (by kernel_rfl) (renob_pl (fun h => h)) rfl (wk_f rfl (wk_f rfl (wk_f rfl (wk_f rfl (wk_f rfl (wk_nil)))))))))))))
  · skip
    have c2P := of_decide_eq_false c2
    refine wp_exit' ?_
    refine wp_seq' ?_
    refine wp_region_t ?_
    refine wpc (step_plain rfl (acts_move (d := 36) (ltN rfl) (OpX.tmp 5 (V.v (.int .i64 (((((cwD l posP).take k).filter (cvr c)).length : Nat) : Int)))))) (by kernel_rfl) ?_
    refine wpc (step_plain rfl (acts_assign (d := 4) (ltN rfl) (OpX.tmp 36 (V.v (.int .i64 (((((cwD l posP).take k).filter (cvr c)).length : Nat) : Int)))))) (by kernel_rfl) ?_
    refine wpl_nil ?_
    refine wp_ret' ?_
    exact VRes.tmp 4 (.a (.val (.int .i64 (((((cwD l posP).take k).filter (cvr c)).length : Nat) : Int)))) _ (by kernel_rfl) (bval (congrArg (Value.int .i64) (by rw [dfilt_all _ (by assumption)])))
end Cl
end Go.Proofs.Ytabgfoindidigaa
