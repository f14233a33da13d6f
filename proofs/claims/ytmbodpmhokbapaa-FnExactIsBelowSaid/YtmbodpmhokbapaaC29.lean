/- Walks over clean states, printed by wg.py. No statement is proved here. -/
import Derived.Test.YtmbodpmhokbapaaCl18
import Derived.Test.YtmbodpmhokbapaaC28
namespace Go.Proofs.Ytmbodpmhokbapaa
namespace Cl
open Go.ChangeShapes Go.WideShapes Go.ChangeAt Go.RowKit

theorem dirI_C {t : Nat} (h : t < 4) : gC [(⟨1, 0⟩ : Cel), ⟨-1, 0⟩, ⟨0, 1⟩, ⟨0, -1⟩] t = ⟨(dirI t).1, (dirI t).2⟩ := by
  have : t = 0 ∨ t = 1 ∨ t = 2 ∨ t = 3 := by omega
  rcases this with rfl | rfl | rfl | rfl <;> rfl
theorem w_small {z : Int} (h : -1000 ≤ z ∧ z ≤ 1000) : IntKind.i64.wrap z = z := w64 (by omega) (by omega)
theorem add_bX {u t : Nat} (hu : u < 81) (ht : t < 4) : IntKind.i64.wrap (cX u + (gC [(⟨1, 0⟩ : Cel), (⟨(-1), 0⟩ : Cel), (⟨0, 1⟩ : Cel), (⟨0, (-1)⟩ : Cel)] t).x) = bX dirI u t := by
  rw [dirI_C ht]; exact w_small (z := bX dirI u t) (by have := (bXY_bd dirI_is hu t).1; omega)
theorem add_bY {u t : Nat} (hu : u < 81) (ht : t < 4) : IntKind.i64.wrap (cY u + (gC [(⟨1, 0⟩ : Cel), (⟨(-1), 0⟩ : Cel), (⟨0, 1⟩ : Cel), (⟨0, (-1)⟩ : Cel)] t).y) = bY dirI u t := by
  rw [dirI_C ht]; exact w_small (z := bY dirI u t) (by have := (bXY_bd dirI_is hu t).2; omega)
theorem qapp {Q : List Int} {M : List Nat} {o k w : Nat} {z : Int} (h : Q.drop o = (nI M).drop (k + 1)) (hk : k + 1 ≤ M.length) (hz : z = ((w : Nat) : Int)) : (Q.drop o ++ [z]).drop 0 = (nI (M ++ [w])).drop (k + 1) := by
  subst hz; rw [← nI_app]; exact drop_app h (by rw [nI_len]; exact hk) _
theorem side_f {s : Nat} {ds : List Dom} {p q : Cel} (h : (hasS s p = false ∧ hasS s q = false) ∨ (nbr p q = true ∧ decide (dOv p q ∈ ds) = true)) : sideB s ds p q = false := by
  unfold sideB
  rcases h with ⟨h1, h2⟩ | ⟨h1, h2⟩
  · rw [h1, h2]; rfl
  · rw [h1, h2]; simp
theorem side_t {s : Nat} {ds : List Dom} {p q : Cel} (h : hasS s p = true ∨ hasS s q = true) (h2 : nbr p q = false ∨ decide (dOv p q ∈ ds) = false) : sideB s ds p q = true := by
  unfold sideB
  rcases h with h | h <;> rcases h2 with h2 | h2 <;> rw [h, h2] <;> simp
theorem side_or {s : Nat} {p q : Cel} (h : (!(hasS s p)) = false ∨ (!(hasS s q)) = false) : hasS s p = true ∨ hasS s q = true := by simpa using h
theorem skip_or {dir : Nat → Int × Int} (hd : ∀ t, isDir (dir t)) {l : List Int} {ds : List Dom} {L M : List Nat} {u t : Nat} (hM : HIn dir l ds L u t M) (hu : u < 81) (h : decide (estep (cX u) (cY u) (bX dir u t) (bY dir u t) = 0) = true ∨ decide (gI (hsL l ds M) (bY dir u t * 9 + bX dir u t).toNat ≠ -1000) = true) : HIn dir l ds L u (t + 1) M := by
  by_cases he : estep (cX u) (cY u) (bX dir u t) (bY dir u t) = 0
  · exact hM.skip (.inl (st_no hd hu he))
  · have hin := (st_yes hd hu he).1
    rcases h with h | h
    · exact absurd (of_decide_eq_true h) he
    · exact hM.skip (.inr (.inl (Classical.not_not.1 fun hn => of_decide_eq_true h ((hM.val (atU_lt hin).1).2 hn))))
theorem HInv.at {dir : Nat → Int × Int} {l : List Int} {ds : List Dom} {L : List Nat} {k : Nat} (h : HInv dir l ds L k) (hk : k < L.length) : gN L k ∈ L ∧ gN L k < 81 := by
  rw [gN_eq hk]; exact ⟨List.getElem_mem hk, h.lt _ (List.getElem_mem hk)⟩
theorem HIn.fin {dir : Nat → Int × Int} {l : List Int} {ds : List Dom} {L M : List Nat} {k t : Nat} (h : HInv dir l ds L k) (hk : k < L.length) (hM : HIn dir l ds L (gN L k) t M) (ht : t = 4) : HInv dir l ds M (k + 1) := by
  subst ht; rw [gN_eq hk] at hM; exact HIn.out h hk hM
theorem hts_fin {l : List Int} {ds : List Dom} {L : List Nat} {k : Nat} {dir : Nat → Int × Int} (hd : dir = dirI ∨ dir = dirS) (h : HInv dir l ds L k) (hk : ¬ k < (nI L).length) : hsL l ds L = htsF l ds := hts_end hd h (by rw [nI_len] at hk; exact hk)

theorem qC29_fo_53_0 : fieldOff Try.prog 53 0 = some 0 := by kernel_rfl
theorem qC29_fo_53_1 : fieldOff Try.prog 53 1 = some 1 := by kernel_rfl
theorem qC29_sz_3 : (Try.prog.info? 3).map (·.size) = some 1 := by kernel_rfl
theorem qC29_sz_53 : (Try.prog.info? 53).map (·.size) = some 2 := by kernel_rfl
theorem qC29_ti_29 : TI Try.prog 29 true 1 := ⟨⟨_, Try.underlying29, rfl⟩, by kernel_rfl⟩
theorem qC29_ti_3 : TI Try.prog 3 false 1 := ⟨⟨_, Try.underlying3, rfl⟩, by kernel_rfl⟩
theorem qC29_ti_53 : TI Try.prog 53 true 2 := ⟨⟨_, Try.underlying53, rfl⟩, by kernel_rfl⟩
theorem qC29_ti_58 : TI Try.prog 58 true 3 := ⟨⟨_, Try.underlying58, rfl⟩, by kernel_rfl⟩
theorem qC29_un_22 : Try.prog.underlying 22 = some (.slice 3) := Try.underlying22
theorem qC29_un_69 : Try.prog.underlying 69 = some (.slice 53) := Try.underlying69
theorem qC29_zi_3 : ZI Try.prog 3 (.int .i64 0) 1 8 := by unfold ZI; kernel_rfl
theorem qC29_zi_53 : ZI Try.prog 53 (.agg #[.int .i64 0, .int .i64 0]) 2 16 := by unfold ZI; kernel_rfl
theorem qC29_zi_58 : ZI Try.prog 58 (.agg #[.int .i64 0, .int .i64 0, .bool false]) 3 24 := by unfold ZI; kernel_rfl
set_option maxHeartbeats 4000000 in
set_option maxRecDepth 100000 in
theorem HeightsOf_yes (l : List Int) (ds : List Dom) (hl : l.length ≤ 4194304) (hd : ds.length ≤ 2097152) (hg : (simB l && isTil l ds) = true) : Fn Try.prog 14 [.agg [(.slv l.length 1 (isl l) : A)], .a (.slv ds.length 3 (dsl ds))] [.row 3 1 (htsF l ds).length (isl (htsF l ds))] := by
 have hg2 := hg
 rw [Bool.and_eq_true] at hg2
 obtain ⟨hsi, hti⟩ := hg2
 have hro := (simB_ok hsi).1
 have hne := sim_ne hsi
 have hsl := regSet_lt hro
 obtain ⟨hf64, hfb⟩ := firstI_lt hsl hne
 have hstu := stU_lt hsl hne
 have hix := idx_cN hf64
 have hsl0 := hsL_len l ds [stU (regSet l)]
 refine fn_intro (N := 152) Try.func14 rfl (by kernel_rfl) rfl (Nat.le_of_ble_eq_true rfl) [2, 14, 18, 19, 20, 23, 28, 32, 33, 37, 38, 41, 42, 53, 55, 70, 71, 88, 106, 111, 116, 122, 129, 148, 149] (ret1 rfl) (fun W => ?_)
 show Wp _ _ _ [(.s 0, some (.s (V.b (.agg [(.slv l.length 1 (isl l) : A)])))), (.s 1, some (.s (V.b (.a (.slv ds.length 3 (dsl ds)))))), (.o 2, some .free), (.o 14, some .free), (.o 18, some .free), (.o 19, some .free), (.o 20, some .free), (.o 23, some .free), (.o 28, some .free), (.o 32, some .free), (.o 33, some .free), (.o 37, some .free), (.o 38, some .free), (.o 41, some .free), (.o 42, some .free), (.o 53, some .free), (.o 55, some .free), (.o 70, some .free), (.o 71, some .free), (.o 88, some .free), (.o 106, some .free), (.o 111, some .free), (.o 116, some .free), (.o 122, some .free), (.o 129, some .free), (.o 148, some .free), (.o 149, some .free)]
 refine wp_seq' ?_
 refine wp_region_t ?_
 refine w1 (acts_box (d := 2) (h := 2) (b := .agg [(.slv l.length 1 (isl l) : A)]) (ltN rfl) (OpX.tmp 0 (V.b (.agg [(.slv l.length 1 (isl l) : A)]))) (by intro y hy; simp [B.cs] at hy; subst hy; rfl)) ?_
 refine w1 (acts_assign (d := 4) (ltN rfl) (OpX.const (.slice none 0 0))) ?_
 refine wpl_nil ?_
 refine wp_seq' ?_
 refine wp_seq' ?_
 refine wp_region_t ?_
 refine w1 (acts_load_owns (d := 22) (t := 2) (h := 2) (off := 0) (o := ⟨29, 1, true, [(.slv l.length 1 (isl l) : A)]⟩)  (xs := [(.slv l.length 1 (isl l) : A)]) (ltN rfl) qC29_ti_29 rfl (by decide) rfl) ?_
 refine w1 (acts_call1 (d := 23) (ltN rfl) (impl_IsSimple_fn l (by omega)) (ArgVs.cons (ArgV.regv 22 l.length 1 (isl l)) (ArgVs.nil)) ((resval (congrArg Value.bool hsi)))) ?_
 refine w1 (acts_un (d := 24) (ltN rfl) (OpV.tmp 23 (.bool true)) (r_not (c := false) rfl)) ?_
 refine w1 (mv 25 24 (V.v (.bool false))) ?_
 refine w2 (step_on (dj := 25) rfl rfl (acts_load_owns (d := 26) (t := 2) (h := 2) (off := 0) (o := ⟨29, 1, true, [(.slv l.length 1 (isl l) : A)]⟩)  (xs := [(.slv l.length 1 (isl l) : A)]) (ltN rfl) qC29_ti_29 rfl (by decide) rfl)) ?_
 refine w2 (step_on (dj := 25) rfl rfl (mv 27 1 (V.b (.a (.slv ds.length 3 (dsl ds)))))) ?_
 refine w2 (step_on (dj := 25) rfl rfl (acts_call1 (d := 28) (ltN rfl) (impl_IsTiling_fn l ds (by omega) (by omega)) (ArgVs.cons (ArgV.regv 26 l.length 1 (isl l)) (ArgVs.cons (ArgV.slv 27 ds.length 3 (dsl ds)) (ArgVs.nil))) ((resval (congrArg Value.bool hti))))) ?_
 refine w2 (step_on (dj := 25) rfl rfl (acts_un (d := 29) (ltN rfl) (OpV.tmp 28 (.bool true)) (r_not (c := false) rfl))) ?_
 refine w1 (acts_pick_f (d := 30) (ltN rfl) (OpV.tmp 25 (.bool false)) (OpX.tmp 29 (V.v (.bool false)))) ?_
 refine wpl_nil ?_
 refine wp_if_f (t := 30) (by kernel_rfl) ?_
 refine wp_skip' ?_
 refine wp_seq' ?_
 refine wp_region_t ?_
 refine w1 (acts_load_owns (d := 31) (t := 2) (h := 2) (off := 0) (o := ⟨29, 1, true, [(.slv l.length 1 (isl l) : A)]⟩)  (xs := [(.slv l.length 1 (isl l) : A)]) (ltN rfl) qC29_ti_29 rfl (by decide) rfl) ?_
 refine w1 (acts_call1 (d := 32) (ltN rfl) (impl_Region__set_fn l (by omega)) (ArgVs.cons (ArgV.regv 31 l.length 1 (isl l)) (ArgVs.nil)) (ResV.val _)) ?_
 refine w1 (acts_buildSlice0' (d := 33) (h := 33) (s := 1) (ltN rfl) qC29_un_22 qC29_zi_3) ?_
 refine w1 (asg 5 32 (V.v (.int .u64 (((regSet l) : Nat) : Int)))) ?_
 refine w1 (asg 6 33 (V.b (.a (.sl 33 0 0)))) ?_
 refine wpl_nil ?_
 refine wp_seq' ?_
 refine wp_seq' ?_
 refine wp_region_t ?_
 refine w1 (acts_move (d := 34) (ltN rfl) (OpX.const (.int .i64 0))) ?_
 refine wpl_nil ?_
 refine wp_block' ?_
 refine wp_loop' (fun (i : Nat) => i ≤ 81) (fun (i : Nat) => [(.s 1, some (.s (V.b (.a (.slv ds.length 3 (dsl ds)))))), (.s 5, some (.s (V.v (.int .u64 (((regSet l) : Nat) : Int))))), (.s 6, some (.s (V.b (.a (.sl 33 0 ((List.replicate i (-1000)).length)))))), (.s 34, some (.s (V.v (.int .i64 ((i : Nat) : Int))))), (.o 33, some (.o ⟨3, 1, true, pl (isl (List.replicate i (-1000)))⟩)), (.o 2, some .free), (.o 14, some .free), (.o 18, some .free), (.o 19, some .free), (.o 20, some .free), (.o 23, some .free), (.o 28, some .free), (.o 32, some .free), (.o 37, some .free), (.o 38, some .free), (.o 41, some .free), (.o 42, some .free), (.o 53, some .free), (.o 55, some .free), (.o 70, some .free), (.o 71, some .free), (.o 88, some .free), (.o 106, some .free), (.o 111, some .free), (.o 116, some .free), (.o 122, some .free), (.o 129, some .free), (.o 148, some .free), (.o 149, some .free)]) (fun (i : Nat) => 81 - i) ((0 : Nat)) (by exact (Nat.zero_le _ : 0 ≤ _)) (weak_of id [2, 14, 18, 19, 20, 23, 28, 32, 37, 38, 41, 42, 53, 55, 70, 71, 88, 106, 111, 116, 122, 129, 148, 149] (by kernel_rfl) (wk_s (v' := V.b (.a (.slv ds.length 3 (dsl ds)))) (by kernel_rfl) rfl rfl (wk_s (v' := V.v (.int .u64 (((regSet l) : Nat) : Int))) (by kernel_rfl) rfl rfl (wk_s (v' := V.b (.a (.sl 33 0 0))) (by kernel_rfl) (vsl (by rfl) rfl) rfl (wk_s (v' := V.v (.int .i64 0)) (by kernel_rfl) (vint (by rfl)) rfl (wk_o (o' := ⟨3, 1, true, pl (isl [])⟩) (by kernel_rfl) (renob_eq (fun h => h) (congrArg isl (by rfl))) rfl (wk_f rfl (wk_f rfl (wk_f rfl (wk_f rfl (wk_f rfl (wk_f rfl (wk_f rfl (wk_f rfl (wk_f rfl (wk_f rfl (wk_f rfl (wk_f rfl (wk_f rfl (wk_f rfl (wk_f rfl (wk_f rfl (wk_f rfl (wk_f rfl (wk_f rfl (wk_f rfl (wk_f rfl (wk_f rfl (wk_f rfl (wk_f rfl (wk_nil))))))))))))))))))))))))))))))) ?_
 rintro i inv1
 replace inv1 : i ≤ 81 := inv1
 have inv1 := inv1
 show Wp _ _ _ [(.s 1, some (.s (V.b (.a (.slv ds.length 3 (dsl ds)))))), (.s 5, some (.s (V.v (.int .u64 (((regSet l) : Nat) : Int))))), (.s 6, some (.s (V.b (.a (.sl 33 0 ((List.replicate i (-1000)).length)))))), (.s 34, some (.s (V.v (.int .i64 ((i : Nat) : Int))))), (.o 33, some (.o ⟨3, 1, true, pl (isl (List.replicate i (-1000)))⟩)), (.o 2, some .free), (.o 14, some .free), (.o 18, some .free), (.o 19, some .free), (.o 20, some .free), (.o 23, some .free), (.o 28, some .free), (.o 32, some .free), (.o 37, some .free), (.o 38, some .free), (.o 41, some .free), (.o 42, some .free), (.o 53, some .free), (.o 55, some .free), (.o 70, some .free), (.o 71, some .free), (.o 88, some .free), (.o 106, some .free), (.o 111, some .free), (.o 116, some .free), (.o 122, some .free), (.o 129, some .free), (.o 148, some .free), (.o 149, some .free)]
 have hrl : (List.replicate i (-1000 : Int)).length = i := List.length_replicate
 refine wp_seq' ?_
 refine wp_region_t ?_
 refine w1 (bn 35 (OpV.tmp 34 (.int .i64 ((i : Nat) : Int))) (OpV.const (.int .i64 81)) (r_lss (c := (decide (((i : Nat) : Int) < 81))) rfl)) ?_
 refine wpl_nil ?_
 refine wp_seq' ?_
 refine wp_if (t := 35) (decide (((i : Nat) : Int) < 81)) (by kernel_rfl) (fun c2 => ?_) (fun c2 => ?_)
 ·skip
  have c2P := of_decide_eq_true c2
  refine wp_skip' ?_
  refine wp_seq' ?_
  refine wp_block' ?_
  refine wp_region_t ?_
  refine w1 (mv 36 6 (V.b (.a (.sl 33 0 ((List.replicate i (-1000)).length))))) ?_
  refine w1 (acts_buildSlice' (d := 37) (h := 37) (n := 1) (s := 1) (xs := isl ([(-1000)] : List Int)) (ltN rfl) qC29_un_22 qC29_zi_3 (OpVs.cons (i := 0) (OpV.const (.int .i64 (-1000))) (OpVs.nil)) (by decide) (by decide) (by kernel_rfl) rfl) ?_
  refine w1 (acts_app (d := 38) (x := 36) (h := 33) (h2 := 38) (n := ((List.replicate i (-1000)).length)) (m := 1) (nm := (((List.replicate i (-1000)) ++ [(-1000)]).length)) (X := .sl 37 0 1) (xs := isl (List.replicate i (-1000))) (ys := isl [(-1000)]) (zs := isl ((List.replicate i (-1000)) ++ [(-1000)])) (ltN rfl) qC29_un_22 qC29_zi_3 rfl (by decide) (by decide) (by exact isl_len _) (OpX.tmp 37 (V.b (.a (.sl 37 0 1)))) (src_own (h := 37) (T := 3) (s := 1) (ex := true) (n := 1) (by exact isl_len _)) (isl_one' _) (by omega) (by exact (isl_append _ _).symm) (by (simp; done))) ?_
  refine w1 (asg 6 38 (V.b (.a (.sl 38 0 (((List.replicate i (-1000)) ++ [(-1000)]).length))))) ?_
  refine wpl_nil ?_
  refine wp_region_t ?_
  refine w1 (bn 39 (OpV.tmp 34 (.int .i64 ((i : Nat) : Int))) (OpV.const (.int .i64 1)) (r_add (c := (((i : Nat) : Int) + 1)) (w64 (by omega) (by omega)))) ?_
  refine w1 (mv 34 39 (V.v (.int .i64 (((i : Nat) : Int) + 1)))) ?_
  refine wpl_nil ?_
  exact loop_back ((i + 1)) (by show _ ≤ _; omega) (by show 81 - (i + 1) < 81 - i; omega) (weak_of (subst1 [(33, 38)]) [2, 14, 18, 19, 20, 23, 28, 32, 37, 38, 41, 42, 53, 55, 70, 71, 88, 106, 111, 116, 122, 129, 148, 149] (by kernel_rfl) (wk_s (v' := V.b (.a (.slv ds.length 3 (dsl ds)))) (by kernel_rfl) rfl rfl (wk_s (v' := V.v (.int .u64 (((regSet l) : Nat) : Int))) (by kernel_rfl) rfl rfl (wk_s (v' := V.b (.a (.sl 38 0 (((List.replicate i (-1000)) ++ [(-1000)]).length)))) (by kernel_rfl) (vsl (by (simp; done)) rfl) rfl (wk_s (v' := V.v (.int .i64 (((i : Nat) : Int) + 1))) (by kernel_rfl) (vint (by rfl)) rfl (wk_o (o' := ⟨3, 1, true, pl (isl ((List.replicate i (-1000)) ++ [(-1000)]))⟩) (by kernel_rfl) (renob_eq (fun h => h) (congrArg isl (by exact (rep_snoc _ _).symm))) rfl (wk_f rfl (wk_f rfl (wk_f rfl (wk_f rfl (wk_f rfl (wk_f rfl (wk_f rfl (wk_f rfl (wk_f rfl (wk_f rfl (wk_f rfl (wk_f rfl (wk_f rfl (wk_f rfl (wk_f rfl (wk_f rfl (wk_f rfl (wk_f rfl (wk_f rfl (wk_f rfl (wk_f rfl (wk_f rfl (wk_f rfl (wk_f rfl (wk_nil)))))))))))))))))))))))))))))))
 ·skip
  have c2P := of_decide_eq_false c2
  refine wp_exit' ?_
  refine wp_seq' ?_
  refine wp_region_t ?_
  refine w1 (mv 40 5 (V.v (.int .u64 (((regSet l) : Nat) : Int)))) ?_
  refine w1 (acts_call1 (d := 41) (ltN rfl) (impl_set__firstCell_fn (regSet l) (by omega) (by omega)) (ArgVs.cons (ArgV.v (OpV.tmp 40 (.int .u64 (((regSet l) : Nat) : Int)))) (ArgVs.nil)) (ResV.agg [(.int .i64 ((cN (firstI (regSet l))).x) : Value), .int .i64 ((cN (firstI (regSet l))).y)])) ?_
  refine w1 (acts_call1 (d := 42) (ltN rfl) (impl_CellIndex_fn (cN (firstI (regSet l))) (by exact cN_ok hf64)) (ArgVs.cons (ArgV.va (vs := [(.int .i64 ((cN (firstI (regSet l))).x) : Value), .int .i64 ((cN (firstI (regSet l))).y)]) (OpV.agg 41 [(.int .i64 ((cN (firstI (regSet l))).x) : Value), .int .i64 ((cN (firstI (regSet l))).y)])) (ArgVs.nil)) (ResV.val _)) ?_
  refine w1 (asg 7 42 (V.v (.int .i64 (((idx (cN (firstI (regSet l)))) : Nat) : Int)))) ?_
  refine wpl_nil ?_
  refine wp_seq' ?_
  refine wp_region_t ?_
  refine w1 (mv 43 7 (V.v (.int .i64 (((idx (cN (firstI (regSet l)))) : Nat) : Int)))) ?_
  refine w1 (bn 44 (OpV.tmp 43 (.int .i64 (((idx (cN (firstI (regSet l)))) : Nat) : Int))) (OpV.const (.int .i64 8)) (r_quo (c := ((((idx (cN (firstI (regSet l)))) / 8) : Nat) : Int)) (by decide) (quoN (a := (((idx (cN (firstI (regSet l)))) : Nat) : Int)) (b := (idx (cN (firstI (regSet l))))) (c := 8) rfl (by decide) (by omega)))) ?_
  refine w1 (bn 45 (OpV.tmp 44 (.int .i64 ((((idx (cN (firstI (regSet l)))) / 8) : Nat) : Int))) (OpV.const (.int .i64 9)) (r_mul (c := (((((idx (cN (firstI (regSet l)))) / 8) : Nat) : Int) * 9)) (w64 (by omega) (by omega)))) ?_
  refine w1 (mv 46 7 (V.v (.int .i64 (((idx (cN (firstI (regSet l)))) : Nat) : Int)))) ?_
  refine w1 (bn 47 (OpV.tmp 46 (.int .i64 (((idx (cN (firstI (regSet l)))) : Nat) : Int))) (OpV.const (.int .i64 8)) (r_rem (c := ((((idx (cN (firstI (regSet l)))) % 8) : Nat) : Int)) (by decide) (remN (a := (((idx (cN (firstI (regSet l)))) : Nat) : Int)) (b := (idx (cN (firstI (regSet l))))) (c := 8) rfl))) ?_
  refine w1 (bn 48 (OpV.tmp 45 (.int .i64 (((((idx (cN (firstI (regSet l)))) / 8) : Nat) : Int) * 9))) (OpV.tmp 47 (.int .i64 ((((idx (cN (firstI (regSet l)))) % 8) : Nat) : Int))) (r_add (c := ((((((idx (cN (firstI (regSet l)))) / 8) : Nat) : Int) * 9) + ((((idx (cN (firstI (regSet l)))) % 8) : Nat) : Int))) (w64 (by omega) (by omega)))) ?_
  refine w1 (acts_assign (d := 8) (ltN rfl) (OpX.tmp 48 (V.v (.int .i64 ((((((idx (cN (firstI (regSet l)))) / 8) : Nat) : Int) * 9) + ((((idx (cN (firstI (regSet l)))) % 8) : Nat) : Int)))))) ?_
  refine wpl_nil ?_
  refine wp_seq' ?_
  refine wp_region_t ?_
  refine w1 (mv 49 6 (V.b (.a (.sl 33 0 ((List.replicate i (-1000)).length))))) ?_
  refine w1 (acts_move (d := 50) (ltN rfl) (OpX.tmp 8 (V.v (.int .i64 ((((((idx (cN (firstI (regSet l)))) / 8) : Nat) : Int) * 9) + ((((idx (cN (firstI (regSet l)))) % 8) : Nat) : Int)))))) ?_
  refine w1 (acts_index_sl (d := 51) (x := 49) (h := 33) (off := 0) (n := ((List.replicate i (-1000)).length)) (k := ((((idx (cN (firstI (regSet l)))) / 8) * 9) + ((idx (cN (firstI (regSet l)))) % 8))) (off' := (((((idx (cN (firstI (regSet l)))) / 8) * 9) + ((idx (cN (firstI (regSet l)))) % 8)) * 1)) (o := ⟨3, 1, true, pl (isl (List.replicate i (-1000)))⟩) (ltN rfl) qC29_un_22 qC29_sz_3 (OpV.tmp 50 (.int .i64 ((((((idx (cN (firstI (regSet l)))) / 8) : Nat) : Int) * 9) + ((((idx (cN (firstI (regSet l)))) % 8) : Nat) : Int)))) (by rfl) (by omega) (by (simp; done))) ?_
  refine w1 (acts_store (t := 51) (h := 33) (off := (((((idx (cN (firstI (regSet l)))) / 8) * 9) + ((idx (cN (firstI (regSet l)))) % 8)) * 1)) (o := ⟨3, 1, true, pl (isl (List.replicate i (-1000)))⟩) (b := .a (.val (.int .i64 0))) (cells := pl (isl ((List.replicate i (-1000)).set ((((idx (cN (firstI (regSet l)))) / 8) * 9) + ((idx (cN (firstI (regSet l)))) % 8)) 0))) qC29_ti_3 (OpX.const (.int .i64 0)) rfl (by decide) (by intro y hy; simp [B.cs] at hy; subst hy; rfl) (by simp only [pl_len, isl_len]; first | omega | assumption | exact cN_ok hf64 | exact regSet_lt (by assumption) | (rw [hownN]; omega) | (rw [hsL_len]; omega) | (simp only [List.length_cons, List.length_nil]; omega) | (rw [List.length_replicate]; omega)) (isl_put (k := ((((idx (cN (firstI (regSet l)))) / 8) * 9) + ((idx (cN (firstI (regSet l)))) % 8))) (by omega))) ?_
  refine wpl_nil ?_
  refine wp_seq' ?_
  refine wp_seq' ?_
  refine wp_region_t ?_
  refine w1 (acts_move (d := 52) (ltN rfl) (OpX.tmp 8 (V.v (.int .i64 ((((((idx (cN (firstI (regSet l)))) / 8) : Nat) : Int) * 9) + ((((idx (cN (firstI (regSet l)))) % 8) : Nat) : Int)))))) ?_
  refine w1 (acts_buildSlice' (d := 53) (h := 53) (n := 1) (s := 1) (xs := isl ([((((((idx (cN (firstI (regSet l)))) / 8) : Nat) : Int) * 9) + ((((idx (cN (firstI (regSet l)))) % 8) : Nat) : Int))] : List Int)) (ltN rfl) qC29_un_22 qC29_zi_3 (OpVs.cons (i := 0) (OpV.tmp 52 (.int .i64 ((((((idx (cN (firstI (regSet l)))) / 8) : Nat) : Int) * 9) + ((((idx (cN (firstI (regSet l)))) % 8) : Nat) : Int)))) (OpVs.nil)) (by decide) (by decide) (by kernel_rfl) rfl) ?_
  refine w1 (asg 9 53 (V.b (.a (.sl 53 0 1)))) ?_
  refine wpl_nil ?_
  refine wp_block' ?_
  refine wp_loop' (fun (x : Nat × Nat × (List Nat) × (List Int)) => match x with | (k, off, L, Lw) => off ≤ Lw.length ∧ Lw.drop off = (nI L).drop k ∧ HInv dirI l ds L k) (fun (x : Nat × Nat × (List Nat) × (List Int)) => match x with | (k, off, L, Lw) => [(.s 1, some (.s (V.b (.a (.slv ds.length 3 (dsl ds)))))), (.s 5, some (.s (V.v (.int .u64 (((regSet l) : Nat) : Int))))), (.s 6, some (.s (V.b (.a (.sl 33 0 ((hsL l ds L).length)))))), (.s 9, some (.s (V.b (.a (.sl 53 off (Lw.length - off)))))), (.o 33, some (.o ⟨3, 1, true, pl (isl (hsL l ds L))⟩)), (.o 53, some (.o ⟨3, 1, false, pl (isl Lw)⟩)), (.o 2, some .free), (.o 14, some .free), (.o 18, some .free), (.o 19, some .free), (.o 20, some .free), (.o 23, some .free), (.o 28, some .free), (.o 32, some .free), (.o 37, some .free), (.o 38, some .free), (.o 41, some .free), (.o 42, some .free), (.o 55, some .free), (.o 70, some .free), (.o 71, some .free), (.o 88, some .free), (.o 106, some .free), (.o 111, some .free), (.o 116, some .free), (.o 122, some .free), (.o 129, some .free), (.o 148, some .free), (.o 149, some .free)]) (fun (x : Nat × Nat × (List Nat) × (List Int)) => match x with | (k, off, L, Lw) => 81 - k) ((0 : Nat), (0 : Nat), ([stU (regSet l)] : List Nat), ([((stU (regSet l) : Nat) : Int)] : List Int)) (by exact ⟨Nat.zero_le _, rfl, HInv.init dirI l ds hstu⟩) (weak_of id [2, 14, 18, 19, 20, 23, 28, 32, 37, 38, 41, 42, 55, 70, 71, 88, 106, 111, 116, 122, 129, 148, 149] (by kernel_rfl) (wk_s (v' := V.b (.a (.slv ds.length 3 (dsl ds)))) (by kernel_rfl) rfl rfl (wk_s (v' := V.v (.int .u64 (((regSet l) : Nat) : Int))) (by kernel_rfl) rfl rfl (wk_s (v' := V.b (.a (.sl 33 0 ((List.replicate i (-1000)).length)))) (by kernel_rfl) (vsl (by (simp; omega)) rfl) rfl (wk_s (v' := V.b (.a (.sl 53 0 1))) (by kernel_rfl) (vsl (by rfl) rfl) rfl (wk_o (o' := ⟨3, 1, true, pl (isl ((List.replicate i (-1000)).set ((((idx (cN (firstI (regSet l)))) / 8) * 9) + ((idx (cN (firstI (regSet l)))) % 8)) 0))⟩) (by kernel_rfl) (renob_eq (fun h => h) (congrArg isl (by ((have e : i = 81 := by omega); subst e; rw [hix]; first | exact hsL_init l ds hstu | exact (hsL_init l ds hstu).symm)))) rfl (wk_o (o' := ⟨3, 1, true, pl (isl [((((((idx (cN (firstI (regSet l)))) / 8) : Nat) : Int) * 9) + ((((idx (cN (firstI (regSet l)))) % 8) : Nat) : Int))])⟩) (by kernel_rfl) (renob_eq (fun h => by cases h) (congrArg isl (by (rw [hix]; rfl)))) rfl (wk_f rfl (wk_f rfl (wk_f rfl (wk_f rfl (wk_f rfl (wk_f rfl (wk_f rfl (wk_f rfl (wk_f rfl (wk_f rfl (wk_f rfl (wk_f rfl (wk_f rfl (wk_f rfl (wk_f rfl (wk_f rfl (wk_f rfl (wk_f rfl (wk_f rfl (wk_f rfl (wk_f rfl (wk_f rfl (wk_f rfl (wk_nil))))))))))))))))))))))))))))))) ?_
  rintro ⟨k, off, L, Lw⟩ inv3
  replace inv3 : off ≤ Lw.length ∧ Lw.drop off = (nI L).drop k ∧ HInv dirI l ds L k := inv3
  obtain ⟨inv3_0, inv3_1, inv3_2⟩ := inv3
  show Wp _ _ _ [(.s 1, some (.s (V.b (.a (.slv ds.length 3 (dsl ds)))))), (.s 5, some (.s (V.v (.int .u64 (((regSet l) : Nat) : Int))))), (.s 6, some (.s (V.b (.a (.sl 33 0 ((hsL l ds L).length)))))), (.s 9, some (.s (V.b (.a (.sl 53 off (Lw.length - off)))))), (.o 33, some (.o ⟨3, 1, true, pl (isl (hsL l ds L))⟩)), (.o 53, some (.o ⟨3, 1, false, pl (isl Lw)⟩)), (.o 2, some .free), (.o 14, some .free), (.o 18, some .free), (.o 19, some .free), (.o 20, some .free), (.o 23, some .free), (.o 28, some .free), (.o 32, some .free), (.o 37, some .free), (.o 38, some .free), (.o 41, some .free), (.o 42, some .free), (.o 55, some .free), (.o 70, some .free), (.o 71, some .free), (.o 88, some .free), (.o 106, some .free), (.o 111, some .free), (.o 116, some .free), (.o 122, some .free), (.o 129, some .free), (.o 148, some .free), (.o 149, some .free)]
  have hH : HInv dirI l ds L k := by assumption
  have hHl := hH.len
  refine wp_seq' ?_
  refine wp_seq' ?_
  refine wp_region_t ?_
  refine w1 (mv 54 9 (V.b (.a (.sl 53 off (Lw.length - off))))) ?_
  refine w1 (acts_len (d := 55) (X := .sl 53 off (Lw.length - off)) (n := (Lw.length - off)) (iv := (((Lw.length - off) : Nat) : Int)) (ltN rfl) qC29_un_22 (OpX.tmp 54 (V.b (.a (.sl 53 off (Lw.length - off))))) (LenOf.sl _ _ _) rfl) ?_
  refine w1 (bn 56 (OpV.tmp 55 (.int .i64 (((Lw.length - off) : Nat) : Int))) (OpV.const (.int .i64 0)) (r_gtr (c := (decide (0 < (((Lw.length - off) : Nat) : Int)))) rfl)) ?_
  refine wpl_nil ?_
  refine wp_if (t := 56) (decide (0 < (((Lw.length - off) : Nat) : Int))) (by kernel_rfl) (fun c4 => ?_) (fun c4 => ?_)
  ·skip
   have c4P := of_decide_eq_true c4
   have hdg := drop_getI (L := Lw) (M := nI L) (i := off) (j := k) (by assumption) (by omega)
   obtain ⟨hk1, hown1⟩ := hdg
   have hnl := nI_len L
   have hk2 : k < L.length := by omega
   have hown : gI Lw off = ((gN L k : Nat) : Int) := hown1.trans (gI_nI hk2)
   have hownN : (gI Lw off).toNat = gN L k := by rw [hown]; rfl
   obtain ⟨huL, hu81⟩ := hH.at hk2
   obtain ⟨hcx, hcy⟩ := cXY hu81
   refine wp_skip' ?_
   refine wp_block' ?_
   refine wp_seq' ?_
   refine wp_region_t ?_
   refine w1 (mv 57 9 (V.b (.a (.sl 53 off (Lw.length - off))))) ?_
   refine w1 (acts_index_sl (d := 58) (x := 57) (h := 53) (off := off) (n := (Lw.length - off)) (k := 0) (off' := (off * 1)) (o := ⟨3, 1, false, pl (isl Lw)⟩) (ltN rfl) qC29_un_22 qC29_sz_3 (OpV.const (.int .i64 0)) rfl (by omega) (by (simp; done))) ?_
   refine w1 (acts_load_own (d := 59) (t := 58) (h := 53) (off := (off * 1)) (o := ⟨3, 1, false, pl (isl Lw)⟩)  (x := .val (.int .i64 (gI Lw off))) (ltN rfl) qC29_ti_3 (pl_get (isl_get1 (k := off) (by omega)))) ?_
   refine w1 (asg 10 59 (V.v (.int .i64 (gI Lw off)))) ?_
   refine wpl_nil ?_
   refine wp_seq' ?_
   refine wp_region_t ?_
   refine w1 (mv 60 9 (V.b (.a (.sl 53 off (Lw.length - off))))) ?_
   refine w1 (acts_slice_sl (d := 61) (x := 60) (h0 := 53) (off := off) (n := (Lw.length - off)) (l := 1) (h := (Lw.length - off)) (m := ((Lw.length - off) - 1)) (off' := (off + 1)) (o := ⟨3, 1, false, pl (isl Lw)⟩) (ltN rfl) qC29_un_22 qC29_sz_3 (OpB.so 0 1 (OpV.const (.int .i64 1)) rfl) (OpB.no (Lw.length - off)) (by omega) (by omega) rfl (by omega)) ?_
   refine w1 (asg 9 61 (V.b (.a (.sl 53 (off + 1) ((Lw.length - off) - 1))))) ?_
   refine wpl_nil ?_
   refine wp_seq' ?_
   refine wp_region_t ?_
   refine w1 (mv 62 10 (V.v (.int .i64 (gI Lw off)))) ?_
   refine w1 (bn 63 (OpV.tmp 62 (.int .i64 (gI Lw off))) (OpV.const (.int .i64 9)) (r_rem (c := (cX (gN L k))) (by omega) (remN hown))) ?_
   refine w1 (mv 64 10 (V.v (.int .i64 (gI Lw off)))) ?_
   refine w1 (bn 65 (OpV.tmp 64 (.int .i64 (gI Lw off))) (OpV.const (.int .i64 9)) (r_quo (c := (cY (gN L k))) (by omega) (quoN hown (by decide) (by omega)))) ?_
   refine w1 (asg 11 63 (V.v (.int .i64 (cX (gN L k))))) ?_
   refine w1 (asg 12 65 (V.v (.int .i64 (cY (gN L k))))) ?_
   refine wpl_nil ?_
   refine wp_seq' ?_
   refine wp_region_t ?_
   refine w1 (acts_build (d := 66) (t := 53) (cells := [(.int .i64 1 : Value), .int .i64 0]) (ltN rfl) (OpVs.cons (i := 0) (OpV.const (.int .i64 1)) (OpVs.cons (i := 1) (OpV.const (.int .i64 0)) (OpVs.nil))) rfl) ?_
   refine w1 (acts_build (d := 67) (t := 53) (cells := [(.int .i64 (-1) : Value), .int .i64 0]) (ltN rfl) (OpVs.cons (i := 0) (OpV.const (.int .i64 (-1))) (OpVs.cons (i := 1) (OpV.const (.int .i64 0)) (OpVs.nil))) rfl) ?_
   refine w1 (acts_build (d := 68) (t := 53) (cells := [(.int .i64 0 : Value), .int .i64 1]) (ltN rfl) (OpVs.cons (i := 0) (OpV.const (.int .i64 0)) (OpVs.cons (i := 1) (OpV.const (.int .i64 1)) (OpVs.nil))) rfl) ?_
   refine w1 (acts_build (d := 69) (t := 53) (cells := [(.int .i64 0 : Value), .int .i64 (-1)]) (ltN rfl) (OpVs.cons (i := 0) (OpV.const (.int .i64 0)) (OpVs.cons (i := 1) (OpV.const (.int .i64 (-1))) (OpVs.nil))) rfl) ?_
   refine w1 (acts_buildSlice' (d := 70) (h := 70) (n := 4) (s := 2) (xs := csl ([(⟨1, 0⟩ : Cel), (⟨(-1), 0⟩ : Cel), (⟨0, 1⟩ : Cel), (⟨0, (-1)⟩ : Cel)] : List Cel)) (ltN rfl) qC29_un_69 qC29_zi_53 (OpVs.cons (i := 0) (OpV.agg 66 [(.int .i64 1 : Value), .int .i64 0]) (OpVs.cons (i := 1) (OpV.agg 67 [(.int .i64 (-1) : Value), .int .i64 0]) (OpVs.cons (i := 2) (OpV.agg 68 [(.int .i64 0 : Value), .int .i64 1]) (OpVs.cons (i := 3) (OpV.agg 69 [(.int .i64 0 : Value), .int .i64 (-1)]) (OpVs.nil))))) (by decide) (by decide) (by kernel_rfl) rfl) ?_
   refine w1 (acts_len (d := 71) (X := .sl 70 0 4) (n := 4) (iv := 4) (ltN rfl) qC29_un_69 (OpX.tmp 70 (V.b (.a (.sl 70 0 4)))) (LenOf.sl _ _ _) rfl) ?_
   refine w1 (acts_move (d := 72) (ltN rfl) (OpX.const (.int .i64 0))) ?_
   refine wpl_nil ?_
   refine wp_block' ?_
   refine wp_loop' (fun (x : Nat × Nat × (List Nat) × (List Int)) => match x with | (t, off2, M, Lw2) => off2 ≤ Lw2.length ∧ Lw2.drop off2 = (nI M).drop (k + 1) ∧ t ≤ 4 ∧ HIn dirI l ds L (gN L k) t M) (fun (x : Nat × Nat × (List Nat) × (List Int)) => match x with | (t, off2, M, Lw2) => [(.s 1, some (.s (V.b (.a (.slv ds.length 3 (dsl ds)))))), (.s 5, some (.s (V.v (.int .u64 (((regSet l) : Nat) : Int))))), (.s 6, some (.s (V.b (.a (.sl 33 0 ((hsL l ds M).length)))))), (.s 9, some (.s (V.b (.a (.sl 53 off2 (Lw2.length - off2)))))), (.s 10, some (.s (V.v (.int .i64 (gI Lw off))))), (.s 11, some (.s (V.v (.int .i64 (cX (gN L k)))))), (.s 12, some (.s (V.v (.int .i64 (cY (gN L k)))))), (.s 70, some (.s (V.b (.a (.sl 70 0 4))))), (.s 71, some (.s (V.v (.int .i64 4)))), (.s 72, some (.s (V.v (.int .i64 ((t : Nat) : Int))))), (.o 33, some (.o ⟨3, 1, true, pl (isl (hsL l ds M))⟩)), (.o 53, some (.o ⟨3, 1, false, pl (isl Lw2)⟩)), (.o 70, some (.o ⟨53, 2, true, pl (csl [(⟨1, 0⟩ : Cel), (⟨(-1), 0⟩ : Cel), (⟨0, 1⟩ : Cel), (⟨0, (-1)⟩ : Cel)])⟩)), (.o 2, some .free), (.o 14, some .free), (.o 18, some .free), (.o 19, some .free), (.o 20, some .free), (.o 23, some .free), (.o 28, some .free), (.o 32, some .free), (.o 37, some .free), (.o 38, some .free), (.o 41, some .free), (.o 42, some .free), (.o 55, some .free), (.o 71, some .free), (.o 88, some .free), (.o 106, some .free), (.o 111, some .free), (.o 116, some .free), (.o 122, some .free), (.o 129, some .free), (.o 148, some .free), (.o 149, some .free)]) (fun (x : Nat × Nat × (List Nat) × (List Int)) => match x with | (t, off2, M, Lw2) => 4 - t) ((0 : Nat), ((off + 1) : Nat), (L : List Nat), (Lw : List Int)) (by exact ⟨by omega, drop_more (by assumption), by omega, hH.into _⟩) (weak_of id [2, 14, 18, 19, 20, 23, 28, 32, 37, 38, 41, 42, 55, 71, 88, 106, 111, 116, 122, 129, 148, 149] (by kernel_rfl) (wk_s (v' := V.b (.a (.slv ds.length 3 (dsl ds)))) (by kernel_rfl) rfl rfl (wk_s (v' := V.v (.int .u64 (((regSet l) : Nat) : Int))) (by kernel_rfl) rfl rfl (wk_s (v' := V.b (.a (.sl 33 0 ((hsL l ds L).length)))) (by kernel_rfl) rfl rfl (wk_s (v' := V.b (.a (.sl 53 (off + 1) ((Lw.length - off) - 1)))) (by kernel_rfl) (vsl (by rfl) rfl) rfl (wk_s (v' := V.v (.int .i64 (gI Lw off))) (by kernel_rfl) rfl rfl (wk_s (v' := V.v (.int .i64 (cX (gN L k)))) (by kernel_rfl) rfl rfl (wk_s (v' := V.v (.int .i64 (cY (gN L k)))) (by kernel_rfl) rfl rfl (wk_s (v' := V.b (.a (.sl 70 0 4))) (by kernel_rfl) rfl rfl (wk_s (v' := V.v (.int .i64 4)) (by kernel_rfl) rfl rfl (wk_s (v' := V.v (.int .i64 0)) (by kernel_rfl) (vint (by rfl)) rfl (wk_o (o' := ⟨3, 1, true, pl (isl (hsL l ds L))⟩) (by kernel_rfl) (renob_pl (fun h => h)) rfl (wk_o (o' := ⟨3, 1, false, pl (isl Lw)⟩) (by kernel_rfl) (renob_pl (fun h => h)) rfl (wk_o (o' := ⟨53, 2, true, pl (csl [(⟨1, 0⟩ : Cel), (⟨(-1), 0⟩ : Cel), (⟨0, 1⟩ : Cel), (⟨0, (-1)⟩ : Cel)])⟩) (by kernel_rfl) (renob_pl (fun h => h)) rfl (wk_f rfl (wk_f rfl (wk_f rfl (wk_f rfl (wk_f rfl (wk_f rfl (wk_f rfl (wk_f rfl (wk_f rfl (wk_f rfl (wk_f rfl (wk_f rfl (wk_f rfl (wk_f rfl (wk_f rfl (wk_f rfl (wk_f rfl (wk_f rfl (wk_f rfl (wk_f rfl (wk_f rfl (wk_f rfl (wk_nil))))))))))))))))))))))))))))))))))))) ?_
   rintro ⟨t, off2, M, Lw2⟩ inv5
   replace inv5 : off2 ≤ Lw2.length ∧ Lw2.drop off2 = (nI M).drop (k + 1) ∧ t ≤ 4 ∧ HIn dirI l ds L (gN L k) t M := inv5
   obtain ⟨inv5_0, inv5_1, inv5_2, inv5_3⟩ := inv5
   show Wp _ _ _ [(.s 1, some (.s (V.b (.a (.slv ds.length 3 (dsl ds)))))), (.s 5, some (.s (V.v (.int .u64 (((regSet l) : Nat) : Int))))), (.s 6, some (.s (V.b (.a (.sl 33 0 ((hsL l ds M).length)))))), (.s 9, some (.s (V.b (.a (.sl 53 off2 (Lw2.length - off2)))))), (.s 10, some (.s (V.v (.int .i64 (gI Lw off))))), (.s 11, some (.s (V.v (.int .i64 (cX (gN L k)))))), (.s 12, some (.s (V.v (.int .i64 (cY (gN L k)))))), (.s 70, some (.s (V.b (.a (.sl 70 0 4))))), (.s 71, some (.s (V.v (.int .i64 4)))), (.s 72, some (.s (V.v (.int .i64 ((t : Nat) : Int))))), (.o 33, some (.o ⟨3, 1, true, pl (isl (hsL l ds M))⟩)), (.o 53, some (.o ⟨3, 1, false, pl (isl Lw2)⟩)), (.o 70, some (.o ⟨53, 2, true, pl (csl [(⟨1, 0⟩ : Cel), (⟨(-1), 0⟩ : Cel), (⟨0, 1⟩ : Cel), (⟨0, (-1)⟩ : Cel)])⟩)), (.o 2, some .free), (.o 14, some .free), (.o 18, some .free), (.o 19, some .free), (.o 20, some .free), (.o 23, some .free), (.o 28, some .free), (.o 32, some .free), (.o 37, some .free), (.o 38, some .free), (.o 41, some .free), (.o 42, some .free), (.o 55, some .free), (.o 71, some .free), (.o 88, some .free), (.o 106, some .free), (.o 111, some .free), (.o 116, some .free), (.o 122, some .free), (.o 129, some .free), (.o 148, some .free), (.o 149, some .free)]
   have hM : HIn dirI l ds L (gN L k) t M := by assumption
   have hMl := hM.len
   have hMe := hM.le
   have hdr3 : Lw2.drop off2 = (nI M).drop (k + 1) := by assumption
   have hdl3 := congrArg List.length hdr3
   have hnl2 := nI_len M
   simp only [List.length_drop] at hdl3
   have hbu := hM.bd2 hu81
   obtain ⟨hbx0, hby0⟩ := bXY_bd dirI_is hu81 t
   have hsll := hsL_len l ds M
   refine wp_seq' ?_
   refine wp_region_t ?_
   refine w1 (bn 73 (OpV.tmp 72 (.int .i64 ((t : Nat) : Int))) (OpV.tmp 71 (.int .i64 4)) (r_lss (c := (decide (((t : Nat) : Int) < 4))) rfl)) ?_
   refine wpl_nil ?_
   refine wp_seq' ?_
   refine wp_if (t := 73) (decide (((t : Nat) : Int) < 4)) (by kernel_rfl) (fun c6 => ?_) (fun c6 => ?_)
   ·skip
    have c6P := of_decide_eq_true c6
    refine wp_skip' ?_
    refine wp_seq' ?_
    refine wp_block' ?_
    refine wp_seq' ?_
    refine wp_region_t ?_
    refine w1 (acts_index_sl (d := 74) (x := 70) (h := 70) (off := 0) (n := 4) (k := t) (off' := (t * 2)) (o := ⟨53, 2, true, pl (csl [(⟨1, 0⟩ : Cel), (⟨(-1), 0⟩ : Cel), (⟨0, 1⟩ : Cel), (⟨0, (-1)⟩ : Cel)])⟩) (ltN rfl) qC29_un_69 qC29_sz_53 (OpV.tmp 72 (.int .i64 ((t : Nat) : Int))) rfl (by omega) (by (simp; done))) ?_
    refine w1 (acts_load_owns (d := 75) (t := 74) (h := 70) (off := (t * 2)) (o := ⟨53, 2, true, pl (csl [(⟨1, 0⟩ : Cel), (⟨(-1), 0⟩ : Cel), (⟨0, 1⟩ : Cel), (⟨0, (-1)⟩ : Cel)])⟩)  (xs := [(.int .i64 ((gC [(⟨1, 0⟩ : Cel), (⟨(-1), 0⟩ : Cel), (⟨0, 1⟩ : Cel), (⟨0, (-1)⟩ : Cel)] t).x) : Value), .int .i64 ((gC [(⟨1, 0⟩ : Cel), (⟨(-1), 0⟩ : Cel), (⟨0, 1⟩ : Cel), (⟨0, (-1)⟩ : Cel)] t).y)].map A.val) (ltN rfl) qC29_ti_53 rfl (by decide) (pl_at (csl_at (k := t) (by (simp only [List.length_cons, List.length_nil]; omega))))) ?_
    refine w1 (acts_alloc' (d := 14) (h := 14) (cap := 1) (s := 2) (cells := [(.val (.int .i64 0) : A), .val (.int .i64 0)]) (ltN rfl) qC29_zi_53 rfl rfl (by decide)) ?_
    refine w1 (acts_store (t := 14) (h := 14) (off := 0) (o := ⟨53, 2, true, [(.val (.int .i64 0) : A), .val (.int .i64 0)]⟩) (b := .agg ([(.int .i64 ((gC [(⟨1, 0⟩ : Cel), (⟨(-1), 0⟩ : Cel), (⟨0, 1⟩ : Cel), (⟨0, (-1)⟩ : Cel)] t).x) : Value), .int .i64 ((gC [(⟨1, 0⟩ : Cel), (⟨(-1), 0⟩ : Cel), (⟨0, 1⟩ : Cel), (⟨0, (-1)⟩ : Cel)] t).y)].map A.val)) (cells := [(.val (.int .i64 ((gC [(⟨1, 0⟩ : Cel), (⟨(-1), 0⟩ : Cel), (⟨0, 1⟩ : Cel), (⟨0, (-1)⟩ : Cel)] t).x)) : A), .val (.int .i64 ((gC [(⟨1, 0⟩ : Cel), (⟨(-1), 0⟩ : Cel), (⟨0, 1⟩ : Cel), (⟨0, (-1)⟩ : Cel)] t).y))]) qC29_ti_53 (OpX.tmp 75 (V.av [(.int .i64 ((gC [(⟨1, 0⟩ : Cel), (⟨(-1), 0⟩ : Cel), (⟨0, 1⟩ : Cel), (⟨0, (-1)⟩ : Cel)] t).x) : Value), .int .i64 ((gC [(⟨1, 0⟩ : Cel), (⟨(-1), 0⟩ : Cel), (⟨0, 1⟩ : Cel), (⟨0, (-1)⟩ : Cel)] t).y)])) rfl (by decide) (by intro y hy; simp [B.cs] at hy; rcases hy with rfl | rfl <;> rfl) (Nat.le_of_ble_eq_true rfl) rfl) ?_
    refine wpl_nil ?_
    refine wp_seq' ?_
    refine wp_drawn' (by kernel_rfl) (AllSteps.cons (step_plain rfl (mv 76 11 (V.v (.int .i64 (cX (gN L k)))))) (AllSteps.cons (step_plain rfl (acts_field (d := 77) (t := 14) (h := 14) (off := 0) (off' := 0) (ltN rfl) qC29_fo_53_0 rfl)) (AllSteps.cons (step_plain rfl (acts_load_own (d := 78) (t := 77) (h := 14) (off := 0) (o := ⟨53, 2, true, [(.val (.int .i64 ((gC [(⟨1, 0⟩ : Cel), (⟨(-1), 0⟩ : Cel), (⟨0, 1⟩ : Cel), (⟨0, (-1)⟩ : Cel)] t).x)) : A), .val (.int .i64 ((gC [(⟨1, 0⟩ : Cel), (⟨(-1), 0⟩ : Cel), (⟨0, 1⟩ : Cel), (⟨0, (-1)⟩ : Cel)] t).y))]⟩)  (x := .val (.int .i64 ((gC [(⟨1, 0⟩ : Cel), (⟨(-1), 0⟩ : Cel), (⟨0, 1⟩ : Cel), (⟨0, (-1)⟩ : Cel)] t).x))) (ltN rfl) qC29_ti_3 rfl)) (AllSteps.cons (step_plain rfl (bn 79 (OpV.tmp 76 (.int .i64 (cX (gN L k)))) (OpV.tmp 78 (.int .i64 ((gC [(⟨1, 0⟩ : Cel), (⟨(-1), 0⟩ : Cel), (⟨0, 1⟩ : Cel), (⟨0, (-1)⟩ : Cel)] t).x))) (r_add (c := (bX dirI (gN L k) t)) (add_bX hu81 (by omega))))) (AllSteps.cons (step_plain rfl (mv 80 12 (V.v (.int .i64 (cY (gN L k)))))) (AllSteps.cons (step_plain rfl (acts_field (d := 81) (t := 14) (h := 14) (off := 0) (off' := 1) (ltN rfl) qC29_fo_53_1 rfl)) (AllSteps.cons (step_plain rfl (acts_load_own (d := 82) (t := 81) (h := 14) (off := 1) (o := ⟨53, 2, true, [(.val (.int .i64 ((gC [(⟨1, 0⟩ : Cel), (⟨(-1), 0⟩ : Cel), (⟨0, 1⟩ : Cel), (⟨0, (-1)⟩ : Cel)] t).x)) : A), .val (.int .i64 ((gC [(⟨1, 0⟩ : Cel), (⟨(-1), 0⟩ : Cel), (⟨0, 1⟩ : Cel), (⟨0, (-1)⟩ : Cel)] t).y))]⟩)  (x := .val (.int .i64 ((gC [(⟨1, 0⟩ : Cel), (⟨(-1), 0⟩ : Cel), (⟨0, 1⟩ : Cel), (⟨0, (-1)⟩ : Cel)] t).y))) (ltN rfl) qC29_ti_3 rfl)) (AllSteps.cons (step_plain rfl (bn 83 (OpV.tmp 80 (.int .i64 (cY (gN L k)))) (OpV.tmp 82 (.int .i64 ((gC [(⟨1, 0⟩ : Cel), (⟨(-1), 0⟩ : Cel), (⟨0, 1⟩ : Cel), (⟨0, (-1)⟩ : Cel)] t).y))) (r_add (c := (bY dirI (gN L k) t)) (add_bY hu81 (by omega))))) (AllSteps.cons (step_plain rfl (asg 15 79 (V.v (.int .i64 (bX dirI (gN L k) t))))) (AllSteps.cons (step_plain rfl (asg 16 83 (V.v (.int .i64 (bY dirI (gN L k) t))))) (AllSteps.nil))))))))))) (by kernel_rfl) (by kernel_rfl) (by kernel_rfl) ?_
    refine wp_seq' ?_
    refine wp_region_t ?_
    refine w1 (mv 84 11 (V.v (.int .i64 (cX (gN L k))))) ?_
    refine w1 (mv 85 12 (V.v (.int .i64 (cY (gN L k))))) ?_
    refine w1 (mv 86 15 (V.v (.int .i64 (bX dirI (gN L k) t)))) ?_
    refine w1 (mv 87 16 (V.v (.int .i64 (bY dirI (gN L k) t)))) ?_
    refine w1 (acts_call1 (d := 88) (ltN rfl) (impl_EdgeStep_fn (cX (gN L k)) (cY (gN L k)) (bX dirI (gN L k) t) (bY dirI (gN L k) t) ) (ArgVs.cons (ArgV.v (OpV.tmp 84 (.int .i64 (cX (gN L k))))) (ArgVs.cons (ArgV.v (OpV.tmp 85 (.int .i64 (cY (gN L k))))) (ArgVs.cons (ArgV.v (OpV.tmp 86 (.int .i64 (bX dirI (gN L k) t)))) (ArgVs.cons (ArgV.v (OpV.tmp 87 (.int .i64 (bY dirI (gN L k) t)))) (ArgVs.nil))))) (ResV.val _)) ?_
    refine w1 (asg 17 88 (V.v (.int .i64 (estep (cX (gN L k)) (cY (gN L k)) (bX dirI (gN L k) t) (bY dirI (gN L k) t))))) ?_
    refine wpl_nil ?_
    refine wp_seq' ?_
    refine wp_seq' ?_
    refine wp_join [(.s 100, some (.s (V.v (.bool ((decide ((estep (cX (gN L k)) (cY (gN L k)) (bX dirI (gN L k) t) (bY dirI (gN L k) t)) = 0)) || (decide ((gI (hsL l ds M) ((((bY dirI (gN L k) t) * 9) + (bX dirI (gN L k) t)).toNat)) ≠ (-1000)))))))), (.s 1, some (.s (V.b (.a (.slv ds.length 3 (dsl ds)))))), (.s 5, some (.s (V.v (.int .u64 (((regSet l) : Nat) : Int))))), (.s 6, some (.s (V.b (.a (.sl 33 0 ((hsL l ds M).length)))))), (.s 9, some (.s (V.b (.a (.sl 53 off2 (Lw2.length - off2)))))), (.s 10, some (.s (V.v (.int .i64 (gI Lw off))))), (.s 11, some (.s (V.v (.int .i64 (cX (gN L k)))))), (.s 12, some (.s (V.v (.int .i64 (cY (gN L k)))))), (.s 15, some (.s (V.v (.int .i64 (bX dirI (gN L k) t))))), (.s 16, some (.s (V.v (.int .i64 (bY dirI (gN L k) t))))), (.s 17, some (.s (V.v (.int .i64 (estep (cX (gN L k)) (cY (gN L k)) (bX dirI (gN L k) t) (bY dirI (gN L k) t)))))), (.s 70, some (.s (V.b (.a (.sl 70 0 4))))), (.s 71, some (.s (V.v (.int .i64 4)))), (.s 72, some (.s (V.v (.int .i64 ((t : Nat) : Int))))), (.o 14, some (.o ⟨53, 2, true, [(.val (.int .i64 ((gC [(⟨1, 0⟩ : Cel), (⟨(-1), 0⟩ : Cel), (⟨0, 1⟩ : Cel), (⟨0, (-1)⟩ : Cel)] t).x)) : A), .val (.int .i64 ((gC [(⟨1, 0⟩ : Cel), (⟨(-1), 0⟩ : Cel), (⟨0, 1⟩ : Cel), (⟨0, (-1)⟩ : Cel)] t).y))]⟩)), (.o 33, some (.o ⟨3, 1, true, pl (isl (hsL l ds M))⟩)), (.o 53, some (.o ⟨3, 1, false, pl (isl Lw2)⟩)), (.o 70, some (.o ⟨53, 2, true, pl (csl [(⟨1, 0⟩ : Cel), (⟨(-1), 0⟩ : Cel), (⟨0, 1⟩ : Cel), (⟨0, (-1)⟩ : Cel)])⟩)), (.o 2, some .free), (.o 18, some .free), (.o 19, some .free), (.o 20, some .free), (.o 23, some .free), (.o 28, some .free), (.o 32, some .free), (.o 37, some .free), (.o 38, some .free), (.o 41, some .free), (.o 42, some .free), (.o 55, some .free), (.o 71, some .free), (.o 88, some .free), (.o 106, some .free), (.o 111, some .free), (.o 116, some .free), (.o 122, some .free), (.o 129, some .free), (.o 148, some .free), (.o 149, some .free)] ?_ ?_
    ·skip
     rcases Bool.eq_false_or_eq_true (decide ((estep (cX (gN L k)) (cY (gN L k)) (bX dirI (gN L k) t) (bY dirI (gN L k) t)) = 0)) with c7 | c7
     ·skip
      have c7P := of_decide_eq_true c7
      have hno := st_no dirI_is hu81 (of_decide_eq_true c7)
      refine wp_region_t ?_
      refine w1 (mv 89 17 (V.v (.int .i64 (estep (cX (gN L k)) (cY (gN L k)) (bX dirI (gN L k) t) (bY dirI (gN L k) t))))) ?_
      refine w1 (bn 90 (OpV.tmp 89 (.int .i64 (estep (cX (gN L k)) (cY (gN L k)) (bX dirI (gN L k) t) (bY dirI (gN L k) t)))) (OpV.const (.int .i64 0)) (r_eql (c := true) c7)) ?_
      refine w1 (mv 91 90 (V.v (.bool true))) ?_
      refine w2 (step_off (dj := 91) (b' := true) rfl rfl (by decide) rfl (ltN rfl)) ?_
      refine w2 (step_off (dj := 91) (b' := true) rfl rfl (by decide) rfl (ltN rfl)) ?_
      refine w2 (step_off (dj := 91) (b' := true) rfl rfl (by decide) rfl (ltN rfl)) ?_
      refine w2 (step_off (dj := 91) (b' := true) rfl rfl (by decide) rfl (ltN rfl)) ?_
      refine w2 (step_off (dj := 91) (b' := true) rfl rfl (by decide) rfl (ltN rfl)) ?_
      refine w2 (step_off (dj := 91) (b' := true) rfl rfl (by decide) rfl (ltN rfl)) ?_
      refine w2 (step_off (dj := 91) (b' := true) rfl rfl (by decide) rfl (ltN rfl)) ?_
      refine w2 (step_off (dj := 91) (b' := true) rfl rfl (by decide) rfl (ltN rfl)) ?_
      refine w1 (acts_pick_t (d := 100) (ltN rfl) (OpV.tmp 91 (.bool true)) (OpX.const (.bool true))) ?_
      refine wpl_nil ?_
      exact ⟨rfl, weak_reads ⟨(by simp only [c7]; first | done | kernel_rfl), (by repeat (first | exact trivial | refine ⟨by kernel_rfl, ?_⟩))⟩⟩
     ·skip
      have c7P := of_decide_eq_false c7
      obtain ⟨hin, hst⟩ := st_yes dirI_is hu81 (of_decide_eq_false c7)
      obtain ⟨hbx, hby⟩ := in_b hin
      have hw81 := (atU_lt hin).1
      have hst1 := stE_one (gN L k) (atU (gN L k) (dirI t))
      have hxw : ((bY dirI (gN L k) t) * 9 + (bX dirI (gN L k) t)) = (((atU (gN L k) (dirI t)) : Nat) : Int) := (Int.toNat_of_nonneg (by omega)).symm
      have hop := op_lf (s := regSet l) (til_okd hti) hu81 (dirI_is t) hin
      refine wp_region_t ?_
      refine w1 (mv 89 17 (V.v (.int .i64 (estep (cX (gN L k)) (cY (gN L k)) (bX dirI (gN L k) t) (bY dirI (gN L k) t))))) ?_
      refine w1 (bn 90 (OpV.tmp 89 (.int .i64 (estep (cX (gN L k)) (cY (gN L k)) (bX dirI (gN L k) t) (bY dirI (gN L k) t)))) (OpV.const (.int .i64 0)) (r_eql (c := false) c7)) ?_
      refine w1 (mv 91 90 (V.v (.bool false))) ?_
      refine w2 (step_on (dj := 91) rfl rfl (mv 92 6 (V.b (.a (.sl 33 0 ((hsL l ds M).length)))))) ?_
      refine w2 (step_on (dj := 91) rfl rfl (mv 93 16 (V.v (.int .i64 (bY dirI (gN L k) t))))) ?_
      refine w2 (step_on (dj := 91) rfl rfl (bn 94 (OpV.tmp 93 (.int .i64 (bY dirI (gN L k) t))) (OpV.const (.int .i64 9)) (r_mul (c := ((bY dirI (gN L k) t) * 9)) (w64 (by omega) (by omega))))) ?_
      refine w2 (step_on (dj := 91) rfl rfl (mv 95 15 (V.v (.int .i64 (bX dirI (gN L k) t))))) ?_
      refine w2 (step_on (dj := 91) rfl rfl (bn 96 (OpV.tmp 94 (.int .i64 ((bY dirI (gN L k) t) * 9))) (OpV.tmp 95 (.int .i64 (bX dirI (gN L k) t))) (r_add (c := (((bY dirI (gN L k) t) * 9) + (bX dirI (gN L k) t))) (w64 (by omega) (by omega))))) ?_
      refine w2 (step_on (dj := 91) rfl rfl (acts_index_sl (d := 97) (x := 92) (h := 33) (off := 0) (n := ((hsL l ds M).length)) (k := ((((bY dirI (gN L k) t) * 9) + (bX dirI (gN L k) t)).toNat)) (off' := (((((bY dirI (gN L k) t) * 9) + (bX dirI (gN L k) t)).toNat) * 1)) (o := ⟨3, 1, true, pl (isl (hsL l ds M))⟩) (ltN rfl) qC29_un_22 qC29_sz_3 (OpV.tmp 96 (.int .i64 (((bY dirI (gN L k) t) * 9) + (bX dirI (gN L k) t)))) (Int.toNat_of_nonneg (by omega)).symm (by omega) (by (simp; done)))) ?_
      refine w2 (step_on (dj := 91) rfl rfl (acts_load_own (d := 98) (t := 97) (h := 33) (off := (((((bY dirI (gN L k) t) * 9) + (bX dirI (gN L k) t)).toNat) * 1)) (o := ⟨3, 1, true, pl (isl (hsL l ds M))⟩)  (x := .val (.int .i64 (gI (hsL l ds M) ((((bY dirI (gN L k) t) * 9) + (bX dirI (gN L k) t)).toNat)))) (ltN rfl) qC29_ti_3 (pl_get (isl_get1 (k := ((((bY dirI (gN L k) t) * 9) + (bX dirI (gN L k) t)).toNat)) (by omega))))) ?_
      refine w2 (step_on (dj := 91) rfl rfl (bn 99 (OpV.tmp 98 (.int .i64 (gI (hsL l ds M) ((((bY dirI (gN L k) t) * 9) + (bX dirI (gN L k) t)).toNat)))) (OpV.const (.int .i64 (-1000))) (r_neq (c := (decide ((gI (hsL l ds M) ((((bY dirI (gN L k) t) * 9) + (bX dirI (gN L k) t)).toNat)) ≠ (-1000)))) rfl))) ?_
      refine w1 (acts_pick_f (d := 100) (ltN rfl) (OpV.tmp 91 (.bool false)) (OpX.tmp 99 (V.v (.bool (decide ((gI (hsL l ds M) ((((bY dirI (gN L k) t) * 9) + (bX dirI (gN L k) t)).toNat)) ≠ (-1000))))))) ?_
      refine wpl_nil ?_
      exact ⟨rfl, weak_reads ⟨(by simp only [c7]; first | done | kernel_rfl), (by repeat (first | exact trivial | refine ⟨by kernel_rfl, ?_⟩))⟩⟩
    refine wp_if (t := 100) (((decide ((estep (cX (gN L k)) (cY (gN L k)) (bX dirI (gN L k) t) (bY dirI (gN L k) t)) = 0)) || (decide ((gI (hsL l ds M) ((((bY dirI (gN L k) t) * 9) + (bX dirI (gN L k) t)).toNat)) ≠ (-1000))))) (by kernel_rfl) (fun c8 => ?_) (fun c8 => ?_)
    ·skip
     have c9 := or_tt c8
     have hsk := skip_or dirI_is hM hu81 c9
     refine wp_exit' ?_
     refine wp_region_t ?_
     refine w1 (bn 150 (OpV.tmp 72 (.int .i64 ((t : Nat) : Int))) (OpV.const (.int .i64 1)) (r_add (c := (((t : Nat) : Int) + 1)) (w64 (by omega) (by omega)))) ?_
     refine w1 (mv 72 150 (V.v (.int .i64 (((t : Nat) : Int) + 1)))) ?_
     refine wpl_nil ?_
     exact loop_back ((t + 1), off2, M, Lw2) (by exact ⟨by assumption, by assumption, by omega, hsk⟩) (by show 4 - (t + 1) < 4 - t; omega) (weak_of id [2, 14, 18, 19, 20, 23, 28, 32, 37, 38, 41, 42, 55, 71, 88, 106, 111, 116, 122, 129, 148, 149] (by kernel_rfl) (wk_s (v' := V.b (.a (.slv ds.length 3 (dsl ds)))) (by kernel_rfl) rfl rfl (wk_s (v' := V.v (.int .u64 (((regSet l) : Nat) : Int))) (by kernel_rfl) rfl rfl (wk_s (v' := V.b (.a (.sl 33 0 ((hsL l ds M).length)))) (by kernel_rfl) rfl rfl (wk_s (v' := V.b (.a (.sl 53 off2 (Lw2.length - off2)))) (by kernel_rfl) rfl rfl (wk_s (v' := V.v (.int .i64 (gI Lw off))) (by kernel_rfl) rfl rfl (wk_s (v' := V.v (.int .i64 (cX (gN L k)))) (by kernel_rfl) rfl rfl (wk_s (v' := V.v (.int .i64 (cY (gN L k)))) (by kernel_rfl) rfl rfl (wk_s (v' := V.b (.a (.sl 70 0 4))) (by kernel_rfl) rfl rfl (wk_s (v' := V.v (.int .i64 4)) (by kernel_rfl) rfl rfl (wk_s (v' := V.v (.int .i64 (((t : Nat) : Int) + 1))) (by kernel_rfl) (vint (by rfl)) rfl (wk_o (o' := ⟨3, 1, true, pl (isl (hsL l ds M))⟩) (by kernel_rfl) (renob_pl (fun h => h)) rfl (wk_o (o' := ⟨3, 1, false, pl (isl Lw2)⟩) (by kernel_rfl) (renob_pl (fun h => h)) rfl (wk_o (o' := ⟨53, 2, true, pl (csl [(⟨1, 0⟩ : Cel), (⟨(-1), 0⟩ : Cel), (⟨0, 1⟩ : Cel), (⟨0, (-1)⟩ : Cel)])⟩) (by kernel_rfl) (renob_pl (fun h => h)) rfl (wk_f rfl (wk_f rfl (wk_f rfl (wk_f rfl (wk_f rfl (wk_f rfl (wk_f rfl (wk_f rfl (wk_f rfl (wk_f rfl (wk_f rfl (wk_f rfl (wk_f rfl (wk_f rfl (wk_f rfl (wk_f rfl (wk_f rfl (wk_f rfl (wk_f rfl (wk_f rfl (wk_f rfl (wk_f rfl (wk_nil)))))))))))))))))))))))))))))))))))))
    ·skip
     obtain ⟨c10, c11⟩ := or_ff c8
     have c10P := of_decide_eq_false c10
     obtain ⟨hin, hst⟩ := st_yes dirI_is hu81 (of_decide_eq_false c10)
     obtain ⟨hbx, hby⟩ := in_b hin
     have hw81 := (atU_lt hin).1
     have hst1 := stE_one (gN L k) (atU (gN L k) (dirI t))
     have hxw : ((bY dirI (gN L k) t) * 9 + (bX dirI (gN L k) t)) = (((atU (gN L k) (dirI t)) : Nat) : Int) := (Int.toNat_of_nonneg (by omega)).symm
     have hop := op_lf (s := regSet l) (til_okd hti) hu81 (dirI_is t) hin
     have c11P := of_decide_eq_false c11
     have hmem : (atU (gN L k) (dirI t)) ∉ M := (hM.val hw81).1 (Decidable.not_not.1 (of_decide_eq_false c11))
     refine wp_skip' ?_
     refine wp_seq' ?_
     refine wp_region_t ?_
     refine w1 (mv 102 11 (V.v (.int .i64 (cX (gN L k))))) ?_
     refine w1 (mv 103 12 (V.v (.int .i64 (cY (gN L k))))) ?_
     refine w1 (mv 104 15 (V.v (.int .i64 (bX dirI (gN L k) t)))) ?_
     refine w1 (mv 105 16 (V.v (.int .i64 (bY dirI (gN L k) t)))) ?_
     refine w1 (acts_call2 (d := 106) (ltN rfl) (impl_besides_fn (cX (gN L k)) (cY (gN L k)) (bX dirI (gN L k) t) (bY dirI (gN L k) t) (by omega) (by omega) (by omega) (by omega) (by omega) (by omega) (by omega) (by omega)) (ArgVs.cons (ArgV.v (OpV.tmp 102 (.int .i64 (cX (gN L k))))) (ArgVs.cons (ArgV.v (OpV.tmp 103 (.int .i64 (cY (gN L k))))) (ArgVs.cons (ArgV.v (OpV.tmp 104 (.int .i64 (bX dirI (gN L k) t)))) (ArgVs.cons (ArgV.v (OpV.tmp 105 (.int .i64 (bY dirI (gN L k) t)))) (ArgVs.nil))))) (ResV.agg [(.int .i64 ((lfC (cX (gN L k)) (cY (gN L k)) (bX dirI (gN L k) t) (bY dirI (gN L k) t)).x) : Value), .int .i64 ((lfC (cX (gN L k)) (cY (gN L k)) (bX dirI (gN L k) t) (bY dirI (gN L k) t)).y)]) (ResV.agg [(.int .i64 ((lfC (bX dirI (gN L k) t) (bY dirI (gN L k) t) (cX (gN L k)) (cY (gN L k))).x) : Value), .int .i64 ((lfC (bX dirI (gN L k) t) (bY dirI (gN L k) t) (cX (gN L k)) (cY (gN L k))).y)])) ?_
     refine w1 (mv 101 106 (V.tup [.agg ([(.int .i64 ((lfC (cX (gN L k)) (cY (gN L k)) (bX dirI (gN L k) t) (bY dirI (gN L k) t)).x) : Value), .int .i64 ((lfC (cX (gN L k)) (cY (gN L k)) (bX dirI (gN L k) t) (bY dirI (gN L k) t)).y)].map A.val), .agg ([(.int .i64 ((lfC (bX dirI (gN L k) t) (bY dirI (gN L k) t) (cX (gN L k)) (cY (gN L k))).x) : Value), .int .i64 ((lfC (bX dirI (gN L k) t) (bY dirI (gN L k) t) (cX (gN L k)) (cY (gN L k))).y)].map A.val)])) ?_
     refine w1 (acts_extract (d := 107) (t := 101) (ix := 0) (xs := [.agg ([(.int .i64 ((lfC (cX (gN L k)) (cY (gN L k)) (bX dirI (gN L k) t) (bY dirI (gN L k) t)).x) : Value), .int .i64 ((lfC (cX (gN L k)) (cY (gN L k)) (bX dirI (gN L k) t) (bY dirI (gN L k) t)).y)].map A.val), .agg ([(.int .i64 ((lfC (bX dirI (gN L k) t) (bY dirI (gN L k) t) (cX (gN L k)) (cY (gN L k))).x) : Value), .int .i64 ((lfC (bX dirI (gN L k) t) (bY dirI (gN L k) t) (cX (gN L k)) (cY (gN L k))).y)].map A.val)]) (X := .agg ([(.int .i64 ((lfC (cX (gN L k)) (cY (gN L k)) (bX dirI (gN L k) t) (bY dirI (gN L k) t)).x) : Value), .int .i64 ((lfC (cX (gN L k)) (cY (gN L k)) (bX dirI (gN L k) t) (bY dirI (gN L k) t)).y)].map A.val)) (ltN rfl) rfl) ?_
     refine w1 (acts_extract (d := 108) (t := 101) (ix := 1) (xs := [.agg ([(.int .i64 ((lfC (cX (gN L k)) (cY (gN L k)) (bX dirI (gN L k) t) (bY dirI (gN L k) t)).x) : Value), .int .i64 ((lfC (cX (gN L k)) (cY (gN L k)) (bX dirI (gN L k) t) (bY dirI (gN L k) t)).y)].map A.val), .agg ([(.int .i64 ((lfC (bX dirI (gN L k) t) (bY dirI (gN L k) t) (cX (gN L k)) (cY (gN L k))).x) : Value), .int .i64 ((lfC (bX dirI (gN L k) t) (bY dirI (gN L k) t) (cX (gN L k)) (cY (gN L k))).y)].map A.val)]) (X := .agg ([(.int .i64 ((lfC (bX dirI (gN L k) t) (bY dirI (gN L k) t) (cX (gN L k)) (cY (gN L k))).x) : Value), .int .i64 ((lfC (bX dirI (gN L k) t) (bY dirI (gN L k) t) (cX (gN L k)) (cY (gN L k))).y)].map A.val)) (ltN rfl) rfl) ?_
     refine w1 (acts_alloc' (d := 18) (h := 18) (cap := 1) (s := 2) (cells := [(.val (.int .i64 0) : A), .val (.int .i64 0)]) (ltN rfl) qC29_zi_53 rfl rfl (by decide)) ?_
     refine w1 (acts_alloc' (d := 19) (h := 19) (cap := 1) (s := 2) (cells := [(.val (.int .i64 0) : A), .val (.int .i64 0)]) (ltN rfl) qC29_zi_53 rfl rfl (by decide)) ?_
     refine w1 (acts_store (t := 18) (h := 18) (off := 0) (o := ⟨53, 2, true, [(.val (.int .i64 0) : A), .val (.int .i64 0)]⟩) (b := .agg ([(.int .i64 ((lfC (cX (gN L k)) (cY (gN L k)) (bX dirI (gN L k) t) (bY dirI (gN L k) t)).x) : Value), .int .i64 ((lfC (cX (gN L k)) (cY (gN L k)) (bX dirI (gN L k) t) (bY dirI (gN L k) t)).y)].map A.val)) (cells := [(.val (.int .i64 ((lfC (cX (gN L k)) (cY (gN L k)) (bX dirI (gN L k) t) (bY dirI (gN L k) t)).x)) : A), .val (.int .i64 ((lfC (cX (gN L k)) (cY (gN L k)) (bX dirI (gN L k) t) (bY dirI (gN L k) t)).y))]) qC29_ti_53 (OpX.tmp 107 (V.av [(.int .i64 ((lfC (cX (gN L k)) (cY (gN L k)) (bX dirI (gN L k) t) (bY dirI (gN L k) t)).x) : Value), .int .i64 ((lfC (cX (gN L k)) (cY (gN L k)) (bX dirI (gN L k) t) (bY dirI (gN L k) t)).y)])) rfl (by decide) (by intro y hy; simp [B.cs] at hy; rcases hy with rfl | rfl <;> rfl) (Nat.le_of_ble_eq_true rfl) rfl) ?_
     refine w1 (acts_store (t := 19) (h := 19) (off := 0) (o := ⟨53, 2, true, [(.val (.int .i64 0) : A), .val (.int .i64 0)]⟩) (b := .agg ([(.int .i64 ((lfC (bX dirI (gN L k) t) (bY dirI (gN L k) t) (cX (gN L k)) (cY (gN L k))).x) : Value), .int .i64 ((lfC (bX dirI (gN L k) t) (bY dirI (gN L k) t) (cX (gN L k)) (cY (gN L k))).y)].map A.val)) (cells := [(.val (.int .i64 ((lfC (bX dirI (gN L k) t) (bY dirI (gN L k) t) (cX (gN L k)) (cY (gN L k))).x)) : A), .val (.int .i64 ((lfC (bX dirI (gN L k) t) (bY dirI (gN L k) t) (cX (gN L k)) (cY (gN L k))).y))]) qC29_ti_53 (OpX.tmp 108 (V.av [(.int .i64 ((lfC (bX dirI (gN L k) t) (bY dirI (gN L k) t) (cX (gN L k)) (cY (gN L k))).x) : Value), .int .i64 ((lfC (bX dirI (gN L k) t) (bY dirI (gN L k) t) (cX (gN L k)) (cY (gN L k))).y)])) rfl (by decide) (by intro y hy; simp [B.cs] at hy; rcases hy with rfl | rfl <;> rfl) (Nat.le_of_ble_eq_true rfl) rfl) ?_
     refine wpl_nil ?_
     refine wp_seq' ?_
     refine wp_seq' ?_
     refine wp_join [(.s 118, some (.s (V.v (.bool ((!(hasS (regSet l) (lfC (cX (gN L k)) (cY (gN L k)) (bX dirI (gN L k) t) (bY dirI (gN L k) t)))) && (!(hasS (regSet l) (lfC (bX dirI (gN L k) t) (bY dirI (gN L k) t) (cX (gN L k)) (cY (gN L k)))))))))), (.s 1, some (.s (V.b (.a (.slv ds.length 3 (dsl ds)))))), (.s 5, some (.s (V.v (.int .u64 (((regSet l) : Nat) : Int))))), (.s 6, some (.s (V.b (.a (.sl 33 0 ((hsL l ds M).length)))))), (.s 9, some (.s (V.b (.a (.sl 53 off2 (Lw2.length - off2)))))), (.s 10, some (.s (V.v (.int .i64 (gI Lw off))))), (.s 11, some (.s (V.v (.int .i64 (cX (gN L k)))))), (.s 12, some (.s (V.v (.int .i64 (cY (gN L k)))))), (.s 15, some (.s (V.v (.int .i64 (bX dirI (gN L k) t))))), (.s 16, some (.s (V.v (.int .i64 (bY dirI (gN L k) t))))), (.s 17, some (.s (V.v (.int .i64 (estep (cX (gN L k)) (cY (gN L k)) (bX dirI (gN L k) t) (bY dirI (gN L k) t)))))), (.s 18, some (.s (V.p 18 0))), (.s 19, some (.s (V.p 19 0))), (.s 70, some (.s (V.b (.a (.sl 70 0 4))))), (.s 71, some (.s (V.v (.int .i64 4)))), (.s 72, some (.s (V.v (.int .i64 ((t : Nat) : Int))))), (.o 14, some (.o ⟨53, 2, true, [(.val (.int .i64 ((gC [(⟨1, 0⟩ : Cel), (⟨(-1), 0⟩ : Cel), (⟨0, 1⟩ : Cel), (⟨0, (-1)⟩ : Cel)] t).x)) : A), .val (.int .i64 ((gC [(⟨1, 0⟩ : Cel), (⟨(-1), 0⟩ : Cel), (⟨0, 1⟩ : Cel), (⟨0, (-1)⟩ : Cel)] t).y))]⟩)), (.o 18, some (.o ⟨53, 2, true, [(.val (.int .i64 ((lfC (cX (gN L k)) (cY (gN L k)) (bX dirI (gN L k) t) (bY dirI (gN L k) t)).x)) : A), .val (.int .i64 ((lfC (cX (gN L k)) (cY (gN L k)) (bX dirI (gN L k) t) (bY dirI (gN L k) t)).y))]⟩)), (.o 19, some (.o ⟨53, 2, true, [(.val (.int .i64 ((lfC (bX dirI (gN L k) t) (bY dirI (gN L k) t) (cX (gN L k)) (cY (gN L k))).x)) : A), .val (.int .i64 ((lfC (bX dirI (gN L k) t) (bY dirI (gN L k) t) (cX (gN L k)) (cY (gN L k))).y))]⟩)), (.o 33, some (.o ⟨3, 1, true, pl (isl (hsL l ds M))⟩)), (.o 53, some (.o ⟨3, 1, false, pl (isl Lw2)⟩)), (.o 70, some (.o ⟨53, 2, true, pl (csl [(⟨1, 0⟩ : Cel), (⟨(-1), 0⟩ : Cel), (⟨0, 1⟩ : Cel), (⟨0, (-1)⟩ : Cel)])⟩)), (.o 2, some .free), (.o 20, some .free), (.o 23, some .free), (.o 28, some .free), (.o 32, some .free), (.o 37, some .free), (.o 38, some .free), (.o 41, some .free), (.o 42, some .free), (.o 55, some .free), (.o 71, some .free), (.o 88, some .free), (.o 106, some .free), (.o 111, some .free), (.o 116, some .free), (.o 122, some .free), (.o 129, some .free), (.o 148, some .free), (.o 149, some .free)] ?_ ?_
     ·skip
      rcases Bool.eq_false_or_eq_true ((hasS (regSet l) (lfC (cX (gN L k)) (cY (gN L k)) (bX dirI (gN L k) t) (bY dirI (gN L k) t)))) with c12 | c12
      ·skip
       refine wp_region_t ?_
       refine w1 (mv 109 5 (V.v (.int .u64 (((regSet l) : Nat) : Int)))) ?_
       refine w1 (acts_load_owns (d := 110) (t := 18) (h := 18) (off := 0) (o := ⟨53, 2, true, [(.val (.int .i64 ((lfC (cX (gN L k)) (cY (gN L k)) (bX dirI (gN L k) t) (bY dirI (gN L k) t)).x)) : A), .val (.int .i64 ((lfC (cX (gN L k)) (cY (gN L k)) (bX dirI (gN L k) t) (bY dirI (gN L k) t)).y))]⟩)  (xs := [(.int .i64 ((lfC (cX (gN L k)) (cY (gN L k)) (bX dirI (gN L k) t) (bY dirI (gN L k) t)).x) : Value), .int .i64 ((lfC (cX (gN L k)) (cY (gN L k)) (bX dirI (gN L k) t) (bY dirI (gN L k) t)).y)].map A.val) (ltN rfl) qC29_ti_53 rfl (by decide) rfl) ?_
       refine w1 (acts_call1 (d := 111) (ltN rfl) (impl_set__has_fn (regSet l) (lfC (cX (gN L k)) (cY (gN L k)) (bX dirI (gN L k) t) (bY dirI (gN L k) t)) (by omega)) (ArgVs.cons (ArgV.v (OpV.tmp 109 (.int .u64 (((regSet l) : Nat) : Int)))) (ArgVs.cons (ArgV.va (vs := [(.int .i64 ((lfC (cX (gN L k)) (cY (gN L k)) (bX dirI (gN L k) t) (bY dirI (gN L k) t)).x) : Value), .int .i64 ((lfC (cX (gN L k)) (cY (gN L k)) (bX dirI (gN L k) t) (bY dirI (gN L k) t)).y)]) (OpV.agg 110 [(.int .i64 ((lfC (cX (gN L k)) (cY (gN L k)) (bX dirI (gN L k) t) (bY dirI (gN L k) t)).x) : Value), .int .i64 ((lfC (cX (gN L k)) (cY (gN L k)) (bX dirI (gN L k) t) (bY dirI (gN L k) t)).y)])) (ArgVs.nil))) ((resval (congrArg Value.bool c12)))) ?_
       refine w1 (acts_un (d := 112) (ltN rfl) (OpV.tmp 111 (.bool true)) (r_not (c := false) rfl)) ?_
       refine w1 (mv 113 112 (V.v (.bool false))) ?_
       refine w2 (step_off (dj := 113) (b' := false) rfl rfl (by decide) rfl (ltN rfl)) ?_
       refine w2 (step_off (dj := 113) (b' := false) rfl rfl (by decide) rfl (ltN rfl)) ?_
       refine w2 (step_off (dj := 113) (b' := false) rfl rfl (by decide) rfl (ltN rfl)) ?_
       refine w2 (step_off (dj := 113) (b' := false) rfl rfl (by decide) rfl (ltN rfl)) ?_
       refine w1 (acts_pick_f (d := 118) (ltN rfl) (OpV.tmp 113 (.bool false)) (OpX.const (.bool false))) ?_
       refine wpl_nil ?_
       exact ⟨rfl, weak_reads ⟨(by simp only [c12]; first | done | kernel_rfl), (by repeat (first | exact trivial | refine ⟨by kernel_rfl, ?_⟩))⟩⟩
      ·skip
       refine wp_region_t ?_
       refine w1 (mv 109 5 (V.v (.int .u64 (((regSet l) : Nat) : Int)))) ?_
       refine w1 (acts_load_owns (d := 110) (t := 18) (h := 18) (off := 0) (o := ⟨53, 2, true, [(.val (.int .i64 ((lfC (cX (gN L k)) (cY (gN L k)) (bX dirI (gN L k) t) (bY dirI (gN L k) t)).x)) : A), .val (.int .i64 ((lfC (cX (gN L k)) (cY (gN L k)) (bX dirI (gN L k) t) (bY dirI (gN L k) t)).y))]⟩)  (xs := [(.int .i64 ((lfC (cX (gN L k)) (cY (gN L k)) (bX dirI (gN L k) t) (bY dirI (gN L k) t)).x) : Value), .int .i64 ((lfC (cX (gN L k)) (cY (gN L k)) (bX dirI (gN L k) t) (bY dirI (gN L k) t)).y)].map A.val) (ltN rfl) qC29_ti_53 rfl (by decide) rfl) ?_
       refine w1 (acts_call1 (d := 111) (ltN rfl) (impl_set__has_fn (regSet l) (lfC (cX (gN L k)) (cY (gN L k)) (bX dirI (gN L k) t) (bY dirI (gN L k) t)) (by omega)) (ArgVs.cons (ArgV.v (OpV.tmp 109 (.int .u64 (((regSet l) : Nat) : Int)))) (ArgVs.cons (ArgV.va (vs := [(.int .i64 ((lfC (cX (gN L k)) (cY (gN L k)) (bX dirI (gN L k) t) (bY dirI (gN L k) t)).x) : Value), .int .i64 ((lfC (cX (gN L k)) (cY (gN L k)) (bX dirI (gN L k) t) (bY dirI (gN L k) t)).y)]) (OpV.agg 110 [(.int .i64 ((lfC (cX (gN L k)) (cY (gN L k)) (bX dirI (gN L k) t) (bY dirI (gN L k) t)).x) : Value), .int .i64 ((lfC (cX (gN L k)) (cY (gN L k)) (bX dirI (gN L k) t) (bY dirI (gN L k) t)).y)])) (ArgVs.nil))) ((resval (congrArg Value.bool c12)))) ?_
       refine w1 (acts_un (d := 112) (ltN rfl) (OpV.tmp 111 (.bool false)) (r_not (c := true) rfl)) ?_
       refine w1 (mv 113 112 (V.v (.bool true))) ?_
       refine w2 (step_on (dj := 113) rfl rfl (mv 114 5 (V.v (.int .u64 (((regSet l) : Nat) : Int))))) ?_
       refine w2 (step_on (dj := 113) rfl rfl (acts_load_owns (d := 115) (t := 19) (h := 19) (off := 0) (o := ⟨53, 2, true, [(.val (.int .i64 ((lfC (bX dirI (gN L k) t) (bY dirI (gN L k) t) (cX (gN L k)) (cY (gN L k))).x)) : A), .val (.int .i64 ((lfC (bX dirI (gN L k) t) (bY dirI (gN L k) t) (cX (gN L k)) (cY (gN L k))).y))]⟩)  (xs := [(.int .i64 ((lfC (bX dirI (gN L k) t) (bY dirI (gN L k) t) (cX (gN L k)) (cY (gN L k))).x) : Value), .int .i64 ((lfC (bX dirI (gN L k) t) (bY dirI (gN L k) t) (cX (gN L k)) (cY (gN L k))).y)].map A.val) (ltN rfl) qC29_ti_53 rfl (by decide) rfl)) ?_
       refine w2 (step_on (dj := 113) rfl rfl (acts_call1 (d := 116) (ltN rfl) (impl_set__has_fn (regSet l) (lfC (bX dirI (gN L k) t) (bY dirI (gN L k) t) (cX (gN L k)) (cY (gN L k))) (by omega)) (ArgVs.cons (ArgV.v (OpV.tmp 114 (.int .u64 (((regSet l) : Nat) : Int)))) (ArgVs.cons (ArgV.va (vs := [(.int .i64 ((lfC (bX dirI (gN L k) t) (bY dirI (gN L k) t) (cX (gN L k)) (cY (gN L k))).x) : Value), .int .i64 ((lfC (bX dirI (gN L k) t) (bY dirI (gN L k) t) (cX (gN L k)) (cY (gN L k))).y)]) (OpV.agg 115 [(.int .i64 ((lfC (bX dirI (gN L k) t) (bY dirI (gN L k) t) (cX (gN L k)) (cY (gN L k))).x) : Value), .int .i64 ((lfC (bX dirI (gN L k) t) (bY dirI (gN L k) t) (cX (gN L k)) (cY (gN L k))).y)])) (ArgVs.nil))) (ResV.val _))) ?_
       refine w2 (step_on (dj := 113) rfl rfl (acts_un (d := 117) (ltN rfl) (OpV.tmp 116 (.bool (hasS (regSet l) (lfC (bX dirI (gN L k) t) (bY dirI (gN L k) t) (cX (gN L k)) (cY (gN L k)))))) (r_not (c := (!(hasS (regSet l) (lfC (bX dirI (gN L k) t) (bY dirI (gN L k) t) (cX (gN L k)) (cY (gN L k)))))) rfl))) ?_
       refine w1 (acts_pick_t (d := 118) (ltN rfl) (OpV.tmp 113 (.bool true)) (OpX.tmp 117 (V.v (.bool (!(hasS (regSet l) (lfC (bX dirI (gN L k) t) (bY dirI (gN L k) t) (cX (gN L k)) (cY (gN L k))))))))) ?_
       refine wpl_nil ?_
       exact ⟨rfl, weak_reads ⟨(by simp only [c12]; first | done | kernel_rfl), (by repeat (first | exact trivial | refine ⟨by kernel_rfl, ?_⟩))⟩⟩
     refine wp_if (t := 118) (((!(hasS (regSet l) (lfC (cX (gN L k)) (cY (gN L k)) (bX dirI (gN L k) t) (bY dirI (gN L k) t)))) && (!(hasS (regSet l) (lfC (bX dirI (gN L k) t) (bY dirI (gN L k) t) (cX (gN L k)) (cY (gN L k))))))) (by kernel_rfl) (fun c13 => ?_) (fun c13 => ?_)
     ·skip
      obtain ⟨c14, c15⟩ := and_tt c13
      have c16 : (hasS (regSet l) (lfC (cX (gN L k)) (cY (gN L k)) (bX dirI (gN L k) t) (bY dirI (gN L k) t))) = false := by simpa using c14
      have c17 : (hasS (regSet l) (lfC (bX dirI (gN L k) t) (bY dirI (gN L k) t) (cX (gN L k)) (cY (gN L k)))) = false := by simpa using c15
      refine wp_exit' ?_
      refine wp_region_t ?_
      refine w1 (bn 150 (OpV.tmp 72 (.int .i64 ((t : Nat) : Int))) (OpV.const (.int .i64 1)) (r_add (c := (((t : Nat) : Int) + 1)) (w64 (by omega) (by omega)))) ?_
      refine w1 (mv 72 150 (V.v (.int .i64 (((t : Nat) : Int) + 1)))) ?_
      refine wpl_nil ?_
      exact loop_back ((t + 1), off2, M, Lw2) (by exact ⟨by assumption, by assumption, by omega, hM.skip (.inr (.inr (hop.trans (side_f (.inl ⟨by assumption, by assumption⟩)))))⟩) (by show 4 - (t + 1) < 4 - t; omega) (weak_of id [2, 14, 18, 19, 20, 23, 28, 32, 37, 38, 41, 42, 55, 71, 88, 106, 111, 116, 122, 129, 148, 149] (by kernel_rfl) (wk_s (v' := V.b (.a (.slv ds.length 3 (dsl ds)))) (by kernel_rfl) rfl rfl (wk_s (v' := V.v (.int .u64 (((regSet l) : Nat) : Int))) (by kernel_rfl) rfl rfl (wk_s (v' := V.b (.a (.sl 33 0 ((hsL l ds M).length)))) (by kernel_rfl) rfl rfl (wk_s (v' := V.b (.a (.sl 53 off2 (Lw2.length - off2)))) (by kernel_rfl) rfl rfl (wk_s (v' := V.v (.int .i64 (gI Lw off))) (by kernel_rfl) rfl rfl (wk_s (v' := V.v (.int .i64 (cX (gN L k)))) (by kernel_rfl) rfl rfl (wk_s (v' := V.v (.int .i64 (cY (gN L k)))) (by kernel_rfl) rfl rfl (wk_s (v' := V.b (.a (.sl 70 0 4))) (by kernel_rfl) rfl rfl (wk_s (v' := V.v (.int .i64 4)) (by kernel_rfl) rfl rfl (wk_s (v' := V.v (.int .i64 (((t : Nat) : Int) + 1))) (by kernel_rfl) (vint (by rfl)) rfl (wk_o (o' := ⟨3, 1, true, pl (isl (hsL l ds M))⟩) (by kernel_rfl) (renob_pl (fun h => h)) rfl (wk_o (o' := ⟨3, 1, false, pl (isl Lw2)⟩) (by kernel_rfl) (renob_pl (fun h => h)) rfl (wk_o (o' := ⟨53, 2, true, pl (csl [(⟨1, 0⟩ : Cel), (⟨(-1), 0⟩ : Cel), (⟨0, 1⟩ : Cel), (⟨0, (-1)⟩ : Cel)])⟩) (by kernel_rfl) (renob_pl (fun h => h)) rfl (wk_f rfl (wk_f rfl (wk_f rfl (wk_f rfl (wk_f rfl (wk_f rfl (wk_f rfl (wk_f rfl (wk_f rfl (wk_f rfl (wk_f rfl (wk_f rfl (wk_f rfl (wk_f rfl (wk_f rfl (wk_f rfl (wk_f rfl (wk_f rfl (wk_f rfl (wk_f rfl (wk_f rfl (wk_f rfl (wk_nil)))))))))))))))))))))))))))))))))))))
     ·skip
      have c18 := and_ff c13
      have hor := side_or c18
      refine wp_skip' ?_
      refine wp_seq' ?_
      refine wp_seq' ?_
      refine wp_region_t ?_
      refine w1 (acts_load_owns (d := 120) (t := 18) (h := 18) (off := 0) (o := ⟨53, 2, true, [(.val (.int .i64 ((lfC (cX (gN L k)) (cY (gN L k)) (bX dirI (gN L k) t) (bY dirI (gN L k) t)).x)) : A), .val (.int .i64 ((lfC (cX (gN L k)) (cY (gN L k)) (bX dirI (gN L k) t) (bY dirI (gN L k) t)).y))]⟩)  (xs := [(.int .i64 ((lfC (cX (gN L k)) (cY (gN L k)) (bX dirI (gN L k) t) (bY dirI (gN L k) t)).x) : Value), .int .i64 ((lfC (cX (gN L k)) (cY (gN L k)) (bX dirI (gN L k) t) (bY dirI (gN L k) t)).y)].map A.val) (ltN rfl) qC29_ti_53 rfl (by decide) rfl) ?_
      refine w1 (acts_load_owns (d := 121) (t := 19) (h := 19) (off := 0) (o := ⟨53, 2, true, [(.val (.int .i64 ((lfC (bX dirI (gN L k) t) (bY dirI (gN L k) t) (cX (gN L k)) (cY (gN L k))).x)) : A), .val (.int .i64 ((lfC (bX dirI (gN L k) t) (bY dirI (gN L k) t) (cX (gN L k)) (cY (gN L k))).y))]⟩)  (xs := [(.int .i64 ((lfC (bX dirI (gN L k) t) (bY dirI (gN L k) t) (cX (gN L k)) (cY (gN L k))).x) : Value), .int .i64 ((lfC (bX dirI (gN L k) t) (bY dirI (gN L k) t) (cX (gN L k)) (cY (gN L k))).y)].map A.val) (ltN rfl) qC29_ti_53 rfl (by decide) rfl) ?_
      refine w1 (acts_call2 (d := 122) (ltN rfl) (impl_DominoOver_fn (lfC (cX (gN L k)) (cY (gN L k)) (bX dirI (gN L k) t) (bY dirI (gN L k) t)) (lfC (bX dirI (gN L k) t) (bY dirI (gN L k) t) (cX (gN L k)) (cY (gN L k))) ) (ArgVs.cons (ArgV.va (vs := [(.int .i64 ((lfC (cX (gN L k)) (cY (gN L k)) (bX dirI (gN L k) t) (bY dirI (gN L k) t)).x) : Value), .int .i64 ((lfC (cX (gN L k)) (cY (gN L k)) (bX dirI (gN L k) t) (bY dirI (gN L k) t)).y)]) (OpV.agg 120 [(.int .i64 ((lfC (cX (gN L k)) (cY (gN L k)) (bX dirI (gN L k) t) (bY dirI (gN L k) t)).x) : Value), .int .i64 ((lfC (cX (gN L k)) (cY (gN L k)) (bX dirI (gN L k) t) (bY dirI (gN L k) t)).y)])) (ArgVs.cons (ArgV.va (vs := [(.int .i64 ((lfC (bX dirI (gN L k) t) (bY dirI (gN L k) t) (cX (gN L k)) (cY (gN L k))).x) : Value), .int .i64 ((lfC (bX dirI (gN L k) t) (bY dirI (gN L k) t) (cX (gN L k)) (cY (gN L k))).y)]) (OpV.agg 121 [(.int .i64 ((lfC (bX dirI (gN L k) t) (bY dirI (gN L k) t) (cX (gN L k)) (cY (gN L k))).x) : Value), .int .i64 ((lfC (bX dirI (gN L k) t) (bY dirI (gN L k) t) (cX (gN L k)) (cY (gN L k))).y)])) (ArgVs.nil))) (ResV.agg [(.int .i64 ((dOv (lfC (cX (gN L k)) (cY (gN L k)) (bX dirI (gN L k) t) (bY dirI (gN L k) t)) (lfC (bX dirI (gN L k) t) (bY dirI (gN L k) t) (cX (gN L k)) (cY (gN L k)))).x) : Value), .int .i64 ((dOv (lfC (cX (gN L k)) (cY (gN L k)) (bX dirI (gN L k) t) (bY dirI (gN L k) t)) (lfC (bX dirI (gN L k) t) (bY dirI (gN L k) t) (cX (gN L k)) (cY (gN L k)))).y), .bool ((dOv (lfC (cX (gN L k)) (cY (gN L k)) (bX dirI (gN L k) t) (bY dirI (gN L k) t)) (lfC (bX dirI (gN L k) t) (bY dirI (gN L k) t) (cX (gN L k)) (cY (gN L k)))).d)]) (ResV.val _)) ?_
      refine w1 (mv 119 122 (V.tup [.agg ([(.int .i64 ((dOv (lfC (cX (gN L k)) (cY (gN L k)) (bX dirI (gN L k) t) (bY dirI (gN L k) t)) (lfC (bX dirI (gN L k) t) (bY dirI (gN L k) t) (cX (gN L k)) (cY (gN L k)))).x) : Value), .int .i64 ((dOv (lfC (cX (gN L k)) (cY (gN L k)) (bX dirI (gN L k) t) (bY dirI (gN L k) t)) (lfC (bX dirI (gN L k) t) (bY dirI (gN L k) t) (cX (gN L k)) (cY (gN L k)))).y), .bool ((dOv (lfC (cX (gN L k)) (cY (gN L k)) (bX dirI (gN L k) t) (bY dirI (gN L k) t)) (lfC (bX dirI (gN L k) t) (bY dirI (gN L k) t) (cX (gN L k)) (cY (gN L k)))).d)].map A.val), .a (.val (.bool (nbr (lfC (cX (gN L k)) (cY (gN L k)) (bX dirI (gN L k) t) (bY dirI (gN L k) t)) (lfC (bX dirI (gN L k) t) (bY dirI (gN L k) t) (cX (gN L k)) (cY (gN L k))))))])) ?_
      refine w1 (acts_extract (d := 123) (t := 119) (ix := 0) (xs := [.agg ([(.int .i64 ((dOv (lfC (cX (gN L k)) (cY (gN L k)) (bX dirI (gN L k) t) (bY dirI (gN L k) t)) (lfC (bX dirI (gN L k) t) (bY dirI (gN L k) t) (cX (gN L k)) (cY (gN L k)))).x) : Value), .int .i64 ((dOv (lfC (cX (gN L k)) (cY (gN L k)) (bX dirI (gN L k) t) (bY dirI (gN L k) t)) (lfC (bX dirI (gN L k) t) (bY dirI (gN L k) t) (cX (gN L k)) (cY (gN L k)))).y), .bool ((dOv (lfC (cX (gN L k)) (cY (gN L k)) (bX dirI (gN L k) t) (bY dirI (gN L k) t)) (lfC (bX dirI (gN L k) t) (bY dirI (gN L k) t) (cX (gN L k)) (cY (gN L k)))).d)].map A.val), .a (.val (.bool (nbr (lfC (cX (gN L k)) (cY (gN L k)) (bX dirI (gN L k) t) (bY dirI (gN L k) t)) (lfC (bX dirI (gN L k) t) (bY dirI (gN L k) t) (cX (gN L k)) (cY (gN L k))))))]) (X := .agg ([(.int .i64 ((dOv (lfC (cX (gN L k)) (cY (gN L k)) (bX dirI (gN L k) t) (bY dirI (gN L k) t)) (lfC (bX dirI (gN L k) t) (bY dirI (gN L k) t) (cX (gN L k)) (cY (gN L k)))).x) : Value), .int .i64 ((dOv (lfC (cX (gN L k)) (cY (gN L k)) (bX dirI (gN L k) t) (bY dirI (gN L k) t)) (lfC (bX dirI (gN L k) t) (bY dirI (gN L k) t) (cX (gN L k)) (cY (gN L k)))).y), .bool ((dOv (lfC (cX (gN L k)) (cY (gN L k)) (bX dirI (gN L k) t) (bY dirI (gN L k) t)) (lfC (bX dirI (gN L k) t) (bY dirI (gN L k) t) (cX (gN L k)) (cY (gN L k)))).d)].map A.val)) (ltN rfl) rfl) ?_
      refine w1 (acts_extract (d := 124) (t := 119) (ix := 1) (xs := [.agg ([(.int .i64 ((dOv (lfC (cX (gN L k)) (cY (gN L k)) (bX dirI (gN L k) t) (bY dirI (gN L k) t)) (lfC (bX dirI (gN L k) t) (bY dirI (gN L k) t) (cX (gN L k)) (cY (gN L k)))).x) : Value), .int .i64 ((dOv (lfC (cX (gN L k)) (cY (gN L k)) (bX dirI (gN L k) t) (bY dirI (gN L k) t)) (lfC (bX dirI (gN L k) t) (bY dirI (gN L k) t) (cX (gN L k)) (cY (gN L k)))).y), .bool ((dOv (lfC (cX (gN L k)) (cY (gN L k)) (bX dirI (gN L k) t) (bY dirI (gN L k) t)) (lfC (bX dirI (gN L k) t) (bY dirI (gN L k) t) (cX (gN L k)) (cY (gN L k)))).d)].map A.val), .a (.val (.bool (nbr (lfC (cX (gN L k)) (cY (gN L k)) (bX dirI (gN L k) t) (bY dirI (gN L k) t)) (lfC (bX dirI (gN L k) t) (bY dirI (gN L k) t) (cX (gN L k)) (cY (gN L k))))))]) (X := .a (.val (.bool (nbr (lfC (cX (gN L k)) (cY (gN L k)) (bX dirI (gN L k) t) (bY dirI (gN L k) t)) (lfC (bX dirI (gN L k) t) (bY dirI (gN L k) t) (cX (gN L k)) (cY (gN L k))))))) (ltN rfl) rfl) ?_
      refine w1 (acts_alloc' (d := 20) (h := 20) (cap := 1) (s := 3) (cells := [(.val (.int .i64 0) : A), .val (.int .i64 0), .val (.bool false)]) (ltN rfl) qC29_zi_58 rfl rfl (by decide)) ?_
      refine w1 (acts_store (t := 20) (h := 20) (off := 0) (o := ⟨58, 3, true, [(.val (.int .i64 0) : A), .val (.int .i64 0), .val (.bool false)]⟩) (b := .agg ([(.int .i64 ((dOv (lfC (cX (gN L k)) (cY (gN L k)) (bX dirI (gN L k) t) (bY dirI (gN L k) t)) (lfC (bX dirI (gN L k) t) (bY dirI (gN L k) t) (cX (gN L k)) (cY (gN L k)))).x) : Value), .int .i64 ((dOv (lfC (cX (gN L k)) (cY (gN L k)) (bX dirI (gN L k) t) (bY dirI (gN L k) t)) (lfC (bX dirI (gN L k) t) (bY dirI (gN L k) t) (cX (gN L k)) (cY (gN L k)))).y), .bool ((dOv (lfC (cX (gN L k)) (cY (gN L k)) (bX dirI (gN L k) t) (bY dirI (gN L k) t)) (lfC (bX dirI (gN L k) t) (bY dirI (gN L k) t) (cX (gN L k)) (cY (gN L k)))).d)].map A.val)) (cells := [(.val (.int .i64 ((dOv (lfC (cX (gN L k)) (cY (gN L k)) (bX dirI (gN L k) t) (bY dirI (gN L k) t)) (lfC (bX dirI (gN L k) t) (bY dirI (gN L k) t) (cX (gN L k)) (cY (gN L k)))).x)) : A), .val (.int .i64 ((dOv (lfC (cX (gN L k)) (cY (gN L k)) (bX dirI (gN L k) t) (bY dirI (gN L k) t)) (lfC (bX dirI (gN L k) t) (bY dirI (gN L k) t) (cX (gN L k)) (cY (gN L k)))).y)), .val (.bool ((dOv (lfC (cX (gN L k)) (cY (gN L k)) (bX dirI (gN L k) t) (bY dirI (gN L k) t)) (lfC (bX dirI (gN L k) t) (bY dirI (gN L k) t) (cX (gN L k)) (cY (gN L k)))).d))]) qC29_ti_58 (OpX.tmp 123 (V.av [(.int .i64 ((dOv (lfC (cX (gN L k)) (cY (gN L k)) (bX dirI (gN L k) t) (bY dirI (gN L k) t)) (lfC (bX dirI (gN L k) t) (bY dirI (gN L k) t) (cX (gN L k)) (cY (gN L k)))).x) : Value), .int .i64 ((dOv (lfC (cX (gN L k)) (cY (gN L k)) (bX dirI (gN L k) t) (bY dirI (gN L k) t)) (lfC (bX dirI (gN L k) t) (bY dirI (gN L k) t) (cX (gN L k)) (cY (gN L k)))).y), .bool ((dOv (lfC (cX (gN L k)) (cY (gN L k)) (bX dirI (gN L k) t) (bY dirI (gN L k) t)) (lfC (bX dirI (gN L k) t) (bY dirI (gN L k) t) (cX (gN L k)) (cY (gN L k)))).d)])) rfl (by decide) (by intro y hy; simp [B.cs] at hy; rcases hy with rfl | rfl | rfl <;> rfl) (Nat.le_of_ble_eq_true rfl) rfl) ?_
      refine w1 (asg 21 124 (V.v (.bool (nbr (lfC (cX (gN L k)) (cY (gN L k)) (bX dirI (gN L k) t) (bY dirI (gN L k) t)) (lfC (bX dirI (gN L k) t) (bY dirI (gN L k) t) (cX (gN L k)) (cY (gN L k))))))) ?_
      refine wpl_nil ?_
      refine wp_seq' ?_
      refine wp_join [(.s 130, some (.s (V.v (.bool ((nbr (lfC (cX (gN L k)) (cY (gN L k)) (bX dirI (gN L k) t) (bY dirI (gN L k) t)) (lfC (bX dirI (gN L k) t) (bY dirI (gN L k) t) (cX (gN L k)) (cY (gN L k)))) && (decide ((dOv (lfC (cX (gN L k)) (cY (gN L k)) (bX dirI (gN L k) t) (bY dirI (gN L k) t)) (lfC (bX dirI (gN L k) t) (bY dirI (gN L k) t) (cX (gN L k)) (cY (gN L k)))) ∈ ds))))))), (.s 1, some (.s (V.b (.a (.slv ds.length 3 (dsl ds)))))), (.s 5, some (.s (V.v (.int .u64 (((regSet l) : Nat) : Int))))), (.s 6, some (.s (V.b (.a (.sl 33 0 ((hsL l ds M).length)))))), (.s 9, some (.s (V.b (.a (.sl 53 off2 (Lw2.length - off2)))))), (.s 10, some (.s (V.v (.int .i64 (gI Lw off))))), (.s 11, some (.s (V.v (.int .i64 (cX (gN L k)))))), (.s 12, some (.s (V.v (.int .i64 (cY (gN L k)))))), (.s 15, some (.s (V.v (.int .i64 (bX dirI (gN L k) t))))), (.s 16, some (.s (V.v (.int .i64 (bY dirI (gN L k) t))))), (.s 17, some (.s (V.v (.int .i64 (estep (cX (gN L k)) (cY (gN L k)) (bX dirI (gN L k) t) (bY dirI (gN L k) t)))))), (.s 70, some (.s (V.b (.a (.sl 70 0 4))))), (.s 71, some (.s (V.v (.int .i64 4)))), (.s 72, some (.s (V.v (.int .i64 ((t : Nat) : Int))))), (.o 14, some (.o ⟨53, 2, true, [(.val (.int .i64 ((gC [(⟨1, 0⟩ : Cel), (⟨(-1), 0⟩ : Cel), (⟨0, 1⟩ : Cel), (⟨0, (-1)⟩ : Cel)] t).x)) : A), .val (.int .i64 ((gC [(⟨1, 0⟩ : Cel), (⟨(-1), 0⟩ : Cel), (⟨0, 1⟩ : Cel), (⟨0, (-1)⟩ : Cel)] t).y))]⟩)), (.o 18, some (.o ⟨53, 2, true, [(.val (.int .i64 ((lfC (cX (gN L k)) (cY (gN L k)) (bX dirI (gN L k) t) (bY dirI (gN L k) t)).x)) : A), .val (.int .i64 ((lfC (cX (gN L k)) (cY (gN L k)) (bX dirI (gN L k) t) (bY dirI (gN L k) t)).y))]⟩)), (.o 19, some (.o ⟨53, 2, true, [(.val (.int .i64 ((lfC (bX dirI (gN L k) t) (bY dirI (gN L k) t) (cX (gN L k)) (cY (gN L k))).x)) : A), .val (.int .i64 ((lfC (bX dirI (gN L k) t) (bY dirI (gN L k) t) (cX (gN L k)) (cY (gN L k))).y))]⟩)), (.o 20, some (.o ⟨58, 3, true, [(.val (.int .i64 ((dOv (lfC (cX (gN L k)) (cY (gN L k)) (bX dirI (gN L k) t) (bY dirI (gN L k) t)) (lfC (bX dirI (gN L k) t) (bY dirI (gN L k) t) (cX (gN L k)) (cY (gN L k)))).x)) : A), .val (.int .i64 ((dOv (lfC (cX (gN L k)) (cY (gN L k)) (bX dirI (gN L k) t) (bY dirI (gN L k) t)) (lfC (bX dirI (gN L k) t) (bY dirI (gN L k) t) (cX (gN L k)) (cY (gN L k)))).y)), .val (.bool ((dOv (lfC (cX (gN L k)) (cY (gN L k)) (bX dirI (gN L k) t) (bY dirI (gN L k) t)) (lfC (bX dirI (gN L k) t) (bY dirI (gN L k) t) (cX (gN L k)) (cY (gN L k)))).d))]⟩)), (.o 33, some (.o ⟨3, 1, true, pl (isl (hsL l ds M))⟩)), (.o 53, some (.o ⟨3, 1, false, pl (isl Lw2)⟩)), (.o 70, some (.o ⟨53, 2, true, pl (csl [(⟨1, 0⟩ : Cel), (⟨(-1), 0⟩ : Cel), (⟨0, 1⟩ : Cel), (⟨0, (-1)⟩ : Cel)])⟩)), (.o 2, some .free), (.o 23, some .free), (.o 28, some .free), (.o 32, some .free), (.o 37, some .free), (.o 38, some .free), (.o 41, some .free), (.o 42, some .free), (.o 55, some .free), (.o 71, some .free), (.o 88, some .free), (.o 106, some .free), (.o 111, some .free), (.o 116, some .free), (.o 122, some .free), (.o 129, some .free), (.o 148, some .free), (.o 149, some .free)] ?_ ?_
      ·skip
       rcases Bool.eq_false_or_eq_true ((nbr (lfC (cX (gN L k)) (cY (gN L k)) (bX dirI (gN L k) t) (bY dirI (gN L k) t)) (lfC (bX dirI (gN L k) t) (bY dirI (gN L k) t) (cX (gN L k)) (cY (gN L k))))) with c19 | c19
       ·skip
        rw [c19]
        refine wp_region_t ?_
        refine w1 (mv 125 21 (V.v (.bool true))) ?_
        refine w1 (mv 126 125 (V.v (.bool true))) ?_
        refine w2 (step_on (dj := 126) rfl rfl (mv 127 1 (V.b (.a (.slv ds.length 3 (dsl ds)))))) ?_
        refine w2 (step_on (dj := 126) rfl rfl (acts_load_owns (d := 128) (t := 20) (h := 20) (off := 0) (o := ⟨58, 3, true, [(.val (.int .i64 ((dOv (lfC (cX (gN L k)) (cY (gN L k)) (bX dirI (gN L k) t) (bY dirI (gN L k) t)) (lfC (bX dirI (gN L k) t) (bY dirI (gN L k) t) (cX (gN L k)) (cY (gN L k)))).x)) : A), .val (.int .i64 ((dOv (lfC (cX (gN L k)) (cY (gN L k)) (bX dirI (gN L k) t) (bY dirI (gN L k) t)) (lfC (bX dirI (gN L k) t) (bY dirI (gN L k) t) (cX (gN L k)) (cY (gN L k)))).y)), .val (.bool ((dOv (lfC (cX (gN L k)) (cY (gN L k)) (bX dirI (gN L k) t) (bY dirI (gN L k) t)) (lfC (bX dirI (gN L k) t) (bY dirI (gN L k) t) (cX (gN L k)) (cY (gN L k)))).d))]⟩)  (xs := [(.int .i64 ((dOv (lfC (cX (gN L k)) (cY (gN L k)) (bX dirI (gN L k) t) (bY dirI (gN L k) t)) (lfC (bX dirI (gN L k) t) (bY dirI (gN L k) t) (cX (gN L k)) (cY (gN L k)))).x) : Value), .int .i64 ((dOv (lfC (cX (gN L k)) (cY (gN L k)) (bX dirI (gN L k) t) (bY dirI (gN L k) t)) (lfC (bX dirI (gN L k) t) (bY dirI (gN L k) t) (cX (gN L k)) (cY (gN L k)))).y), .bool ((dOv (lfC (cX (gN L k)) (cY (gN L k)) (bX dirI (gN L k) t) (bY dirI (gN L k) t)) (lfC (bX dirI (gN L k) t) (bY dirI (gN L k) t) (cX (gN L k)) (cY (gN L k)))).d)].map A.val) (ltN rfl) qC29_ti_58 rfl (by decide) rfl)) ?_
        refine w2 (step_on (dj := 126) rfl rfl (acts_call1 (d := 129) (ltN rfl) (impl_hasDomino_fn ds (dOv (lfC (cX (gN L k)) (cY (gN L k)) (bX dirI (gN L k) t) (bY dirI (gN L k) t)) (lfC (bX dirI (gN L k) t) (bY dirI (gN L k) t) (cX (gN L k)) (cY (gN L k)))) (by omega)) (ArgVs.cons (ArgV.slv 127 ds.length 3 (dsl ds)) (ArgVs.cons (ArgV.va (vs := [(.int .i64 ((dOv (lfC (cX (gN L k)) (cY (gN L k)) (bX dirI (gN L k) t) (bY dirI (gN L k) t)) (lfC (bX dirI (gN L k) t) (bY dirI (gN L k) t) (cX (gN L k)) (cY (gN L k)))).x) : Value), .int .i64 ((dOv (lfC (cX (gN L k)) (cY (gN L k)) (bX dirI (gN L k) t) (bY dirI (gN L k) t)) (lfC (bX dirI (gN L k) t) (bY dirI (gN L k) t) (cX (gN L k)) (cY (gN L k)))).y), .bool ((dOv (lfC (cX (gN L k)) (cY (gN L k)) (bX dirI (gN L k) t) (bY dirI (gN L k) t)) (lfC (bX dirI (gN L k) t) (bY dirI (gN L k) t) (cX (gN L k)) (cY (gN L k)))).d)]) (OpV.agg 128 [(.int .i64 ((dOv (lfC (cX (gN L k)) (cY (gN L k)) (bX dirI (gN L k) t) (bY dirI (gN L k) t)) (lfC (bX dirI (gN L k) t) (bY dirI (gN L k) t) (cX (gN L k)) (cY (gN L k)))).x) : Value), .int .i64 ((dOv (lfC (cX (gN L k)) (cY (gN L k)) (bX dirI (gN L k) t) (bY dirI (gN L k) t)) (lfC (bX dirI (gN L k) t) (bY dirI (gN L k) t) (cX (gN L k)) (cY (gN L k)))).y), .bool ((dOv (lfC (cX (gN L k)) (cY (gN L k)) (bX dirI (gN L k) t) (bY dirI (gN L k) t)) (lfC (bX dirI (gN L k) t) (bY dirI (gN L k) t) (cX (gN L k)) (cY (gN L k)))).d)])) (ArgVs.nil))) (ResV.val _))) ?_
        refine w1 (acts_pick_t (d := 130) (ltN rfl) (OpV.tmp 126 (.bool true)) (OpX.tmp 129 (V.v (.bool (decide ((dOv (lfC (cX (gN L k)) (cY (gN L k)) (bX dirI (gN L k) t) (bY dirI (gN L k) t)) (lfC (bX dirI (gN L k) t) (bY dirI (gN L k) t) (cX (gN L k)) (cY (gN L k)))) ∈ ds)))))) ?_
        refine wpl_nil ?_
        exact ⟨rfl, weak_reads ⟨(by simp only [c19]; first | done | kernel_rfl), (by repeat (first | exact trivial | refine ⟨by kernel_rfl, ?_⟩))⟩⟩
       ·skip
        rw [c19]
        refine wp_region_t ?_
        refine w1 (mv 125 21 (V.v (.bool false))) ?_
        refine w1 (mv 126 125 (V.v (.bool false))) ?_
        refine w2 (step_off (dj := 126) (b' := false) rfl rfl (by decide) rfl (ltN rfl)) ?_
        refine w2 (step_off (dj := 126) (b' := false) rfl rfl (by decide) rfl (ltN rfl)) ?_
        refine w2 (step_off (dj := 126) (b' := false) rfl rfl (by decide) rfl (ltN rfl)) ?_
        refine w1 (acts_pick_f (d := 130) (ltN rfl) (OpV.tmp 126 (.bool false)) (OpX.const (.bool false))) ?_
        refine wpl_nil ?_
        exact ⟨rfl, weak_reads ⟨(by simp only [c19]; first | done | kernel_rfl), (by repeat (first | exact trivial | refine ⟨by kernel_rfl, ?_⟩))⟩⟩
      refine wp_if (t := 130) (((nbr (lfC (cX (gN L k)) (cY (gN L k)) (bX dirI (gN L k) t) (bY dirI (gN L k) t)) (lfC (bX dirI (gN L k) t) (bY dirI (gN L k) t) (cX (gN L k)) (cY (gN L k)))) && (decide ((dOv (lfC (cX (gN L k)) (cY (gN L k)) (bX dirI (gN L k) t) (bY dirI (gN L k) t)) (lfC (bX dirI (gN L k) t) (bY dirI (gN L k) t) (cX (gN L k)) (cY (gN L k)))) ∈ ds)))) (by kernel_rfl) (fun c20 => ?_) (fun c20 => ?_)
      ·skip
       obtain ⟨c21, c22⟩ := and_tt c20
       refine wp_exit' ?_
       refine wp_region_t ?_
       refine w1 (bn 150 (OpV.tmp 72 (.int .i64 ((t : Nat) : Int))) (OpV.const (.int .i64 1)) (r_add (c := (((t : Nat) : Int) + 1)) (w64 (by omega) (by omega)))) ?_
       refine w1 (mv 72 150 (V.v (.int .i64 (((t : Nat) : Int) + 1)))) ?_
       refine wpl_nil ?_
       exact loop_back ((t + 1), off2, M, Lw2) (by exact ⟨by assumption, by assumption, by omega, hM.skip (.inr (.inr (hop.trans (side_f (.inr ⟨by assumption, by assumption⟩)))))⟩) (by show 4 - (t + 1) < 4 - t; omega) (weak_of id [2, 14, 18, 19, 20, 23, 28, 32, 37, 38, 41, 42, 55, 71, 88, 106, 111, 116, 122, 129, 148, 149] (by kernel_rfl) (wk_s (v' := V.b (.a (.slv ds.length 3 (dsl ds)))) (by kernel_rfl) rfl rfl (wk_s (v' := V.v (.int .u64 (((regSet l) : Nat) : Int))) (by kernel_rfl) rfl rfl (wk_s (v' := V.b (.a (.sl 33 0 ((hsL l ds M).length)))) (by kernel_rfl) rfl rfl (wk_s (v' := V.b (.a (.sl 53 off2 (Lw2.length - off2)))) (by kernel_rfl) rfl rfl (wk_s (v' := V.v (.int .i64 (gI Lw off))) (by kernel_rfl) rfl rfl (wk_s (v' := V.v (.int .i64 (cX (gN L k)))) (by kernel_rfl) rfl rfl (wk_s (v' := V.v (.int .i64 (cY (gN L k)))) (by kernel_rfl) rfl rfl (wk_s (v' := V.b (.a (.sl 70 0 4))) (by kernel_rfl) rfl rfl (wk_s (v' := V.v (.int .i64 4)) (by kernel_rfl) rfl rfl (wk_s (v' := V.v (.int .i64 (((t : Nat) : Int) + 1))) (by kernel_rfl) (vint (by rfl)) rfl (wk_o (o' := ⟨3, 1, true, pl (isl (hsL l ds M))⟩) (by kernel_rfl) (renob_pl (fun h => h)) rfl (wk_o (o' := ⟨3, 1, false, pl (isl Lw2)⟩) (by kernel_rfl) (renob_pl (fun h => h)) rfl (wk_o (o' := ⟨53, 2, true, pl (csl [(⟨1, 0⟩ : Cel), (⟨(-1), 0⟩ : Cel), (⟨0, 1⟩ : Cel), (⟨0, (-1)⟩ : Cel)])⟩) (by kernel_rfl) (renob_pl (fun h => h)) rfl (wk_f rfl (wk_f rfl (wk_f rfl (wk_f rfl (wk_f rfl (wk_f rfl (wk_f rfl (wk_f rfl (wk_f rfl (wk_f rfl (wk_f rfl (wk_f rfl (wk_f rfl (wk_f rfl (wk_f rfl (wk_f rfl (wk_f rfl (wk_f rfl (wk_f rfl (wk_f rfl (wk_f rfl (wk_f rfl (wk_nil)))))))))))))))))))))))))))))))))))))
      ·skip
       have c23 := and_ff c20
       have hslw := hsL_len l ds (M ++ [(atU (gN L k) (dirI t))])
       have hgo := hM.go hti hsi huL hin hmem (hop.trans (side_t hor c23))
       refine wp_skip' ?_
       refine wp_seq' ?_
       refine wp_region_t ?_
       refine w1 (mv 131 6 (V.b (.a (.sl 33 0 ((hsL l ds M).length))))) ?_
       refine w1 (mv 132 16 (V.v (.int .i64 (bY dirI (gN L k) t)))) ?_
       refine w1 (bn 133 (OpV.tmp 132 (.int .i64 (bY dirI (gN L k) t))) (OpV.const (.int .i64 9)) (r_mul (c := ((bY dirI (gN L k) t) * 9)) (w64 (by omega) (by omega)))) ?_
       refine w1 (mv 134 15 (V.v (.int .i64 (bX dirI (gN L k) t)))) ?_
       refine w1 (bn 135 (OpV.tmp 133 (.int .i64 ((bY dirI (gN L k) t) * 9))) (OpV.tmp 134 (.int .i64 (bX dirI (gN L k) t))) (r_add (c := (((bY dirI (gN L k) t) * 9) + (bX dirI (gN L k) t))) (w64 (by omega) (by omega)))) ?_
       refine w1 (mv 136 6 (V.b (.a (.sl 33 0 ((hsL l ds M).length))))) ?_
       refine w1 (mv 137 10 (V.v (.int .i64 (gI Lw off)))) ?_
       refine w1 (acts_index_sl (d := 138) (x := 136) (h := 33) (off := 0) (n := ((hsL l ds M).length)) (k := ((gI Lw off).toNat)) (off' := (((gI Lw off).toNat) * 1)) (o := ⟨3, 1, true, pl (isl (hsL l ds M))⟩) (ltN rfl) qC29_un_22 qC29_sz_3 (OpV.tmp 137 (.int .i64 (gI Lw off))) (Int.toNat_of_nonneg (by omega)).symm (by omega) (by (simp; done))) ?_
       refine w1 (acts_load_own (d := 139) (t := 138) (h := 33) (off := (((gI Lw off).toNat) * 1)) (o := ⟨3, 1, true, pl (isl (hsL l ds M))⟩)  (x := .val (.int .i64 (gI (hsL l ds M) ((gI Lw off).toNat)))) (ltN rfl) qC29_ti_3 (pl_get (isl_get1 (k := ((gI Lw off).toNat)) (by omega)))) ?_
       refine w1 (mv 140 17 (V.v (.int .i64 (estep (cX (gN L k)) (cY (gN L k)) (bX dirI (gN L k) t) (bY dirI (gN L k) t))))) ?_
       refine w1 (bn 141 (OpV.tmp 139 (.int .i64 (gI (hsL l ds M) ((gI Lw off).toNat)))) (OpV.tmp 140 (.int .i64 (estep (cX (gN L k)) (cY (gN L k)) (bX dirI (gN L k) t) (bY dirI (gN L k) t)))) (r_add (c := ((gI (hsL l ds M) ((gI Lw off).toNat)) + (estep (cX (gN L k)) (cY (gN L k)) (bX dirI (gN L k) t) (bY dirI (gN L k) t)))) (w64 (by (rw [hownN]; omega)) (by (rw [hownN]; omega))))) ?_
       refine w1 (acts_index_sl (d := 142) (x := 131) (h := 33) (off := 0) (n := ((hsL l ds M).length)) (k := ((((bY dirI (gN L k) t) * 9) + (bX dirI (gN L k) t)).toNat)) (off' := (((((bY dirI (gN L k) t) * 9) + (bX dirI (gN L k) t)).toNat) * 1)) (o := ⟨3, 1, true, pl (isl (hsL l ds M))⟩) (ltN rfl) qC29_un_22 qC29_sz_3 (OpV.tmp 135 (.int .i64 (((bY dirI (gN L k) t) * 9) + (bX dirI (gN L k) t)))) (Int.toNat_of_nonneg (by omega)).symm (by omega) (by (simp; done))) ?_
       refine w1 (acts_store (t := 142) (h := 33) (off := (((((bY dirI (gN L k) t) * 9) + (bX dirI (gN L k) t)).toNat) * 1)) (o := ⟨3, 1, true, pl (isl (hsL l ds M))⟩) (b := .a (.val (.int .i64 ((gI (hsL l ds M) ((gI Lw off).toNat)) + (estep (cX (gN L k)) (cY (gN L k)) (bX dirI (gN L k) t) (bY dirI (gN L k) t)))))) (cells := pl (isl ((hsL l ds M).set ((((bY dirI (gN L k) t) * 9) + (bX dirI (gN L k) t)).toNat) ((gI (hsL l ds M) ((gI Lw off).toNat)) + (estep (cX (gN L k)) (cY (gN L k)) (bX dirI (gN L k) t) (bY dirI (gN L k) t)))))) qC29_ti_3 (OpX.tmp 141 (V.v (.int .i64 ((gI (hsL l ds M) ((gI Lw off).toNat)) + (estep (cX (gN L k)) (cY (gN L k)) (bX dirI (gN L k) t) (bY dirI (gN L k) t)))))) rfl (by decide) (by intro y hy; simp [B.cs] at hy; subst hy; rfl) (by simp only [pl_len, isl_len]; first | omega | assumption | exact cN_ok hf64 | exact regSet_lt (by assumption) | (rw [hownN]; omega) | (rw [hsL_len]; omega) | (simp only [List.length_cons, List.length_nil]; omega) | (rw [List.length_replicate]; omega)) (isl_put (k := ((((bY dirI (gN L k) t) * 9) + (bX dirI (gN L k) t)).toNat)) (by omega))) ?_
       refine wpl_nil ?_
       refine wp_region_t ?_
       refine w1 (mv 143 9 (V.b (.a (.sl 53 off2 (Lw2.length - off2))))) ?_
       refine w1 (mv 144 16 (V.v (.int .i64 (bY dirI (gN L k) t)))) ?_
       refine w1 (bn 145 (OpV.tmp 144 (.int .i64 (bY dirI (gN L k) t))) (OpV.const (.int .i64 9)) (r_mul (c := ((bY dirI (gN L k) t) * 9)) (w64 (by omega) (by omega)))) ?_
       refine w1 (mv 146 15 (V.v (.int .i64 (bX dirI (gN L k) t)))) ?_
       refine w1 (bn 147 (OpV.tmp 145 (.int .i64 ((bY dirI (gN L k) t) * 9))) (OpV.tmp 146 (.int .i64 (bX dirI (gN L k) t))) (r_add (c := (((bY dirI (gN L k) t) * 9) + (bX dirI (gN L k) t))) (w64 (by omega) (by omega)))) ?_
       refine w1 (acts_buildSlice' (d := 148) (h := 148) (n := 1) (s := 1) (xs := isl ([(((bY dirI (gN L k) t) * 9) + (bX dirI (gN L k) t))] : List Int)) (ltN rfl) qC29_un_22 qC29_zi_3 (OpVs.cons (i := 0) (OpV.tmp 147 (.int .i64 (((bY dirI (gN L k) t) * 9) + (bX dirI (gN L k) t)))) (OpVs.nil)) (by decide) (by decide) (by kernel_rfl) rfl) ?_
       refine w1 (acts_app_ints (d := 149) (x := 143) (h := 53) (off := off2) (h2 := 149) (n := (Lw2.length - off2)) (m := 1) (nm := ((Lw2.drop off2 ++ [(((bY dirI (gN L k) t) * 9) + (bX dirI (gN L k) t))]).length)) (X := .sl 148 0 1) (L := Lw2) (L2 := [(((bY dirI (gN L k) t) * 9) + (bX dirI (gN L k) t))]) (ex := false) (ltN rfl) qC29_un_22 qC29_zi_3 (by omega) (OpX.tmp 148 (V.b (.a (.sl 148 0 1)))) (src_own (h := 148) (T := 3) (s := 1) (ex := true) (n := 1) (by exact isl_len _)) (by omega) (by (simp; done))) ?_
       refine w1 (asg 9 149 (V.b (.a (.sl 149 0 ((Lw2.drop off2 ++ [(((bY dirI (gN L k) t) * 9) + (bX dirI (gN L k) t))]).length))))) ?_
       refine wpl_nil ?_
       refine wp_region_t ?_
       refine w1 (bn 150 (OpV.tmp 72 (.int .i64 ((t : Nat) : Int))) (OpV.const (.int .i64 1)) (r_add (c := (((t : Nat) : Int) + 1)) (w64 (by omega) (by omega)))) ?_
       refine w1 (mv 72 150 (V.v (.int .i64 (((t : Nat) : Int) + 1)))) ?_
       refine wpl_nil ?_
       exact loop_back ((t + 1), 0, (M ++ [(atU (gN L k) (dirI t))]), (Lw2.drop off2 ++ [(((bY dirI (gN L k) t) * 9) + (bX dirI (gN L k) t))])) (by exact ⟨Nat.zero_le _, qapp hdr3 (by omega) hxw, by omega, hgo.1⟩) (by show 4 - (t + 1) < 4 - t; omega) (weak_of (subst1 [(53, 149)]) [2, 14, 18, 19, 20, 23, 28, 32, 37, 38, 41, 42, 55, 71, 88, 106, 111, 116, 122, 129, 148, 149] (by kernel_rfl) (wk_s (v' := V.b (.a (.slv ds.length 3 (dsl ds)))) (by kernel_rfl) rfl rfl (wk_s (v' := V.v (.int .u64 (((regSet l) : Nat) : Int))) (by kernel_rfl) rfl rfl (wk_s (v' := V.b (.a (.sl 33 0 ((hsL l ds M).length)))) (by kernel_rfl) (vsl (by rfl) rfl) rfl (wk_s (v' := V.b (.a (.sl 149 0 ((Lw2.drop off2 ++ [(((bY dirI (gN L k) t) * 9) + (bX dirI (gN L k) t))]).length)))) (by kernel_rfl) (vsl (by rfl) rfl) rfl (wk_s (v' := V.v (.int .i64 (gI Lw off))) (by kernel_rfl) rfl rfl (wk_s (v' := V.v (.int .i64 (cX (gN L k)))) (by kernel_rfl) rfl rfl (wk_s (v' := V.v (.int .i64 (cY (gN L k)))) (by kernel_rfl) rfl rfl (wk_s (v' := V.b (.a (.sl 70 0 4))) (by kernel_rfl) rfl rfl (wk_s (v' := V.v (.int .i64 4)) (by kernel_rfl) rfl rfl (wk_s (v' := V.v (.int .i64 (((t : Nat) : Int) + 1))) (by kernel_rfl) (vint (by rfl)) rfl (wk_o (o' := ⟨3, 1, true, pl (isl ((hsL l ds M).set ((((bY dirI (gN L k) t) * 9) + (bX dirI (gN L k) t)).toNat) ((gI (hsL l ds M) ((gI Lw off).toNat)) + (estep (cX (gN L k)) (cY (gN L k)) (bX dirI (gN L k) t) (bY dirI (gN L k) t)))))⟩) (by kernel_rfl) (renob_eq (fun h => h) (congrArg isl (by (rw [hst, hownN]; exact hgo.2)))) rfl (wk_o (o' := ⟨3, 1, false, pl (isl (Lw2.drop off2 ++ [(((bY dirI (gN L k) t) * 9) + (bX dirI (gN L k) t))]))⟩) (by kernel_rfl) (renob_pl (fun h => h)) rfl (wk_o (o' := ⟨53, 2, true, pl (csl [(⟨1, 0⟩ : Cel), (⟨(-1), 0⟩ : Cel), (⟨0, 1⟩ : Cel), (⟨0, (-1)⟩ : Cel)])⟩) (by kernel_rfl) (renob_pl (fun h => h)) rfl (wk_f rfl (wk_f rfl (wk_f rfl (wk_f rfl (wk_f rfl (wk_f rfl (wk_f rfl (wk_f rfl (wk_f rfl (wk_f rfl (wk_f rfl (wk_f rfl (wk_f rfl (wk_f rfl (wk_f rfl (wk_f rfl (wk_f rfl (wk_f rfl (wk_f rfl (wk_f rfl (wk_f rfl (wk_f rfl (wk_nil)))))))))))))))))))))))))))))))))))))
   ·skip
    have c6P := of_decide_eq_false c6
    refine wp_exit' ?_
    exact Exists.intro ((k + 1), off2, M, Lw2) (And.intro (by exact ⟨by assumption, by assumption, hM.fin hH hk2 (by omega)⟩) (And.intro (by show 81 - (k + 1) < 81 - k; omega) (weak_of id [2, 14, 18, 19, 20, 23, 28, 32, 37, 38, 41, 42, 55, 70, 71, 88, 106, 111, 116, 122, 129, 148, 149] (by kernel_rfl) (wk_s (v' := V.b (.a (.slv ds.length 3 (dsl ds)))) (by kernel_rfl) rfl rfl (wk_s (v' := V.v (.int .u64 (((regSet l) : Nat) : Int))) (by kernel_rfl) rfl rfl (wk_s (v' := V.b (.a (.sl 33 0 ((hsL l ds M).length)))) (by kernel_rfl) rfl rfl (wk_s (v' := V.b (.a (.sl 53 off2 (Lw2.length - off2)))) (by kernel_rfl) rfl rfl (wk_o (o' := ⟨3, 1, true, pl (isl (hsL l ds M))⟩) (by kernel_rfl) (renob_pl (fun h => h)) rfl (wk_o (o' := ⟨3, 1, false, pl (isl Lw2)⟩) (by kernel_rfl) (renob_pl (fun h => h)) rfl (wk_f rfl (wk_f rfl (wk_f rfl (wk_f rfl (wk_f rfl (wk_f rfl (wk_f rfl (wk_f rfl (wk_f rfl (wk_f rfl (wk_f rfl (wk_f rfl (wk_f rfl (wk_f rfl (wk_f rfl (wk_f rfl (wk_f rfl (wk_f rfl (wk_f rfl (wk_f rfl (wk_f rfl (wk_f rfl (wk_f rfl (wk_nil)))))))))))))))))))))))))))))))))
  ·skip
   have c4P := of_decide_eq_false c4
   have hend := drop_none (L := Lw) (M := nI L) (i := off) (j := k) (by assumption) (by assumption)
   refine wp_exit' ?_
   refine wp_seq' ?_
   refine wp_region_t ?_
   refine w1 (mv 151 6 (V.b (.a (.sl 33 0 ((hsL l ds L).length))))) ?_
   refine w1 (asg 4 151 (V.b (.a (.sl 33 0 ((hsL l ds L).length))))) ?_
   refine wpl_nil ?_
   refine wp_ret' ?_
   exact VRes.tmp 4 (.a (.sl 33 0 ((hsL l ds L).length))) _ (by kernel_rfl) (brow_ints (h := 33) (L := (hsL l ds L)) (by kernel_rfl) (by exact hts_fin (.inl rfl) hH hend) (by rfl))

set_option maxHeartbeats 4000000 in
set_option maxRecDepth 100000 in
theorem HeightsOf_no1 (l : List Int) (ds : List Dom) (hl : l.length ≤ 4194304) (hd : ds.length ≤ 2097152) (hs : simB l = false) : Fn Try.prog 14 [.agg [(.slv l.length 1 (isl l) : A)], .a (.slv ds.length 3 (dsl ds))] [.val (.slice none 0 0)] := by
 refine fn_intro (N := 152) Try.func14 rfl (by kernel_rfl) rfl (Nat.le_of_ble_eq_true rfl) [2, 14, 18, 19, 20, 23, 28, 32, 33, 37, 38, 41, 42, 53, 55, 70, 71, 88, 106, 111, 116, 122, 129, 148, 149] (ret1 rfl) (fun W => ?_)
 show Wp _ _ _ [(.s 0, some (.s (V.b (.agg [(.slv l.length 1 (isl l) : A)])))), (.s 1, some (.s (V.b (.a (.slv ds.length 3 (dsl ds)))))), (.o 2, some .free), (.o 14, some .free), (.o 18, some .free), (.o 19, some .free), (.o 20, some .free), (.o 23, some .free), (.o 28, some .free), (.o 32, some .free), (.o 33, some .free), (.o 37, some .free), (.o 38, some .free), (.o 41, some .free), (.o 42, some .free), (.o 53, some .free), (.o 55, some .free), (.o 70, some .free), (.o 71, some .free), (.o 88, some .free), (.o 106, some .free), (.o 111, some .free), (.o 116, some .free), (.o 122, some .free), (.o 129, some .free), (.o 148, some .free), (.o 149, some .free)]
 refine wp_seq' ?_
 refine wp_region_t ?_
 refine w1 (acts_box (d := 2) (h := 2) (b := .agg [(.slv l.length 1 (isl l) : A)]) (ltN rfl) (OpX.tmp 0 (V.b (.agg [(.slv l.length 1 (isl l) : A)]))) (by intro y hy; simp [B.cs] at hy; subst hy; rfl)) ?_
 refine w1 (acts_assign (d := 4) (ltN rfl) (OpX.const (.slice none 0 0))) ?_
 refine wpl_nil ?_
 refine wp_seq' ?_
 refine wp_seq' ?_
 refine wp_region_t ?_
 refine w1 (acts_load_owns (d := 22) (t := 2) (h := 2) (off := 0) (o := ⟨29, 1, true, [(.slv l.length 1 (isl l) : A)]⟩)  (xs := [(.slv l.length 1 (isl l) : A)]) (ltN rfl) qC29_ti_29 rfl (by decide) rfl) ?_
 refine w1 (acts_call1 (d := 23) (ltN rfl) (impl_IsSimple_fn l (by omega)) (ArgVs.cons (ArgV.regv 22 l.length 1 (isl l)) (ArgVs.nil)) ((resval (congrArg Value.bool hs)))) ?_
 refine w1 (acts_un (d := 24) (ltN rfl) (OpV.tmp 23 (.bool false)) (r_not (c := true) rfl)) ?_
 refine w1 (mv 25 24 (V.v (.bool true))) ?_
 refine w2 (step_off (dj := 25) (b' := true) rfl rfl (by decide) rfl (ltN rfl)) ?_
 refine w2 (step_off (dj := 25) (b' := true) rfl rfl (by decide) rfl (ltN rfl)) ?_
 refine w2 (step_off (dj := 25) (b' := true) rfl rfl (by decide) rfl (ltN rfl)) ?_
 refine w2 (step_off (dj := 25) (b' := true) rfl rfl (by decide) rfl (ltN rfl)) ?_
 refine w1 (acts_pick_t (d := 30) (ltN rfl) (OpV.tmp 25 (.bool true)) (OpX.const (.bool true))) ?_
 refine wpl_nil ?_
 refine wp_if_t (t := 30) (by kernel_rfl) ?_
 refine wp_seq' ?_
 refine wp_region_t ?_
 refine w1 (acts_assign (d := 4) (ltN rfl) (OpX.const (.slice none 0 0))) ?_
 refine wpl_nil ?_
 refine wp_ret' ?_
 exact VRes.tmp 4 (.a (.val (.slice none 0 0))) _ (by kernel_rfl) (BRes.val _)

set_option maxHeartbeats 4000000 in
set_option maxRecDepth 100000 in
theorem HeightsOf_no2 (l : List Int) (ds : List Dom) (hl : l.length ≤ 4194304) (hd : ds.length ≤ 2097152) (hs : simB l = true) (ht : isTil l ds = false) : Fn Try.prog 14 [.agg [(.slv l.length 1 (isl l) : A)], .a (.slv ds.length 3 (dsl ds))] [.val (.slice none 0 0)] := by
 refine fn_intro (N := 152) Try.func14 rfl (by kernel_rfl) rfl (Nat.le_of_ble_eq_true rfl) [2, 14, 18, 19, 20, 23, 28, 32, 33, 37, 38, 41, 42, 53, 55, 70, 71, 88, 106, 111, 116, 122, 129, 148, 149] (ret1 rfl) (fun W => ?_)
 show Wp _ _ _ [(.s 0, some (.s (V.b (.agg [(.slv l.length 1 (isl l) : A)])))), (.s 1, some (.s (V.b (.a (.slv ds.length 3 (dsl ds)))))), (.o 2, some .free), (.o 14, some .free), (.o 18, some .free), (.o 19, some .free), (.o 20, some .free), (.o 23, some .free), (.o 28, some .free), (.o 32, some .free), (.o 33, some .free), (.o 37, some .free), (.o 38, some .free), (.o 41, some .free), (.o 42, some .free), (.o 53, some .free), (.o 55, some .free), (.o 70, some .free), (.o 71, some .free), (.o 88, some .free), (.o 106, some .free), (.o 111, some .free), (.o 116, some .free), (.o 122, some .free), (.o 129, some .free), (.o 148, some .free), (.o 149, some .free)]
 refine wp_seq' ?_
 refine wp_region_t ?_
 refine w1 (acts_box (d := 2) (h := 2) (b := .agg [(.slv l.length 1 (isl l) : A)]) (ltN rfl) (OpX.tmp 0 (V.b (.agg [(.slv l.length 1 (isl l) : A)]))) (by intro y hy; simp [B.cs] at hy; subst hy; rfl)) ?_
 refine w1 (acts_assign (d := 4) (ltN rfl) (OpX.const (.slice none 0 0))) ?_
 refine wpl_nil ?_
 refine wp_seq' ?_
 refine wp_seq' ?_
 refine wp_region_t ?_
 refine w1 (acts_load_owns (d := 22) (t := 2) (h := 2) (off := 0) (o := ⟨29, 1, true, [(.slv l.length 1 (isl l) : A)]⟩)  (xs := [(.slv l.length 1 (isl l) : A)]) (ltN rfl) qC29_ti_29 rfl (by decide) rfl) ?_
 refine w1 (acts_call1 (d := 23) (ltN rfl) (impl_IsSimple_fn l (by omega)) (ArgVs.cons (ArgV.regv 22 l.length 1 (isl l)) (ArgVs.nil)) ((resval (congrArg Value.bool hs)))) ?_
 refine w1 (acts_un (d := 24) (ltN rfl) (OpV.tmp 23 (.bool true)) (r_not (c := false) rfl)) ?_
 refine w1 (mv 25 24 (V.v (.bool false))) ?_
 refine w2 (step_on (dj := 25) rfl rfl (acts_load_owns (d := 26) (t := 2) (h := 2) (off := 0) (o := ⟨29, 1, true, [(.slv l.length 1 (isl l) : A)]⟩)  (xs := [(.slv l.length 1 (isl l) : A)]) (ltN rfl) qC29_ti_29 rfl (by decide) rfl)) ?_
 refine w2 (step_on (dj := 25) rfl rfl (mv 27 1 (V.b (.a (.slv ds.length 3 (dsl ds)))))) ?_
 refine w2 (step_on (dj := 25) rfl rfl (acts_call1 (d := 28) (ltN rfl) (impl_IsTiling_fn l ds (by omega) (by omega)) (ArgVs.cons (ArgV.regv 26 l.length 1 (isl l)) (ArgVs.cons (ArgV.slv 27 ds.length 3 (dsl ds)) (ArgVs.nil))) ((resval (congrArg Value.bool ht))))) ?_
 refine w2 (step_on (dj := 25) rfl rfl (acts_un (d := 29) (ltN rfl) (OpV.tmp 28 (.bool false)) (r_not (c := true) rfl))) ?_
 refine w1 (acts_pick_f (d := 30) (ltN rfl) (OpV.tmp 25 (.bool false)) (OpX.tmp 29 (V.v (.bool true)))) ?_
 refine wpl_nil ?_
 refine wp_if_t (t := 30) (by kernel_rfl) ?_
 refine wp_seq' ?_
 refine wp_region_t ?_
 refine w1 (acts_assign (d := 4) (ltN rfl) (OpX.const (.slice none 0 0))) ?_
 refine wpl_nil ?_
 refine wp_ret' ?_
 exact VRes.tmp 4 (.a (.val (.slice none 0 0))) _ (by kernel_rfl) (BRes.val _)
end Cl
end Go.Proofs.Ytmbodpmhokbapaa
