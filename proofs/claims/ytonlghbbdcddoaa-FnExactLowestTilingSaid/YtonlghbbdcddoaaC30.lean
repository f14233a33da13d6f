/- Walks over clean states, printed by wg.py. No statement is proved here. -/
import Derived.Test.YtonlghbbdcddoaaC29
import Derived.Test.YtonlghbbdcddoaaClB
namespace Go.Proofs.Ytonlghbbdcddoaa
namespace Cl
open Go.ChangeShapes Go.WideShapes Go.ChangeAt Go.RowKit
set_option maxRecDepth 20000

theorem posM_or {ds : List Dom} {p q : Cel} (h : nbr p q = false ∨ decide (0 ≤ posM ds (dOv p q)) = false) : nbr p q = false ∨ decide (dOv p q ∈ ds) = false := by rw [posM_nn] at h; exact h
theorem hasC_or {l : List Int} (hr : regOk l = true) {p q : Cel} (h : (!(hasC l p)) = false ∨ (!(hasC l q)) = false) : hasS (regSet l) p = true ∨ hasS (regSet l) q = true := by
  have e : ∀ c, hasC l c = hasS (regSet l) c := fun c => by unfold hasC hasS; rw [hr]; rfl
  rw [e, e] at h; simpa using h
theorem sim_cells {l : List Int} (h : simB l = true) : ¬ (((cellsOf l).length : Nat) : Int) = 0 := by
  have hr := (simB_ok h).1
  have := cells_pos (regSet_lt hr) (sim_ne h)
  unfold cellsOf; rw [if_pos hr]; omega
theorem hts_bad {l : List Int} {ds : List Dom} (h : (!(simB l)) = true ∨ ((!(isTil l ds)) || decide (((cellsOf l).length : Int) = 0)) = true) : hts l ds = [] := by
  rcases Bool.eq_false_or_eq_true (simB l) with h1 | h1
  · rcases Bool.eq_false_or_eq_true (isTil l ds) with h2 | h2
    · have := sim_cells h1
      rw [h1, h2, decide_eq_false this] at h; simp at h
    · exact hts_no (by rw [h2]; exact Bool.and_false _)
  · exact hts_no (by rw [h1]; rfl)
/-- the first corner of the reference -/
def tchK (l : List Int) (k i : Nat) : Bool := (List.range i).any fun j => hasC l ⟨((k % 9 : Nat) : Int) - ((j % 2 : Nat) : Int), ((k / 9 : Nat) : Int) - ((j / 2 : Nat) : Int)⟩
theorem tchK_snoc {l : List Int} {k i : Nat} {b : Bool} (h : hasC l ⟨((k % 9 : Nat) : Int) - ((i % 2 : Nat) : Int), ((k / 9 : Nat) : Int) - ((i / 2 : Nat) : Int)⟩ = b) : tchK l k (i + 1) = (tchK l k i || b) := by
  unfold tchK; rw [List.range_succ, List.any_append]; simp only [List.any_cons, List.any_nil, Bool.or_false, h]
theorem has_first {s : Nat} {c : Cel} (h : hasS s c = true) : firstI s ≤ idx c := by
  rcases Nat.lt_or_ge (idx c) (firstI s) with h1 | h1
  · have := firstI_min h1
    unfold hasS at h; rw [this] at h; simp at h
  · exact h1
theorem tchK_first {l : List Int} (hr : regOk l = true) (hne : regSet l ≠ 0) {k : Nat} (hk : k ≤ stU (regSet l)) : tchK l k 4 = decide (k = stU (regSet l)) := by
  have hs := regSet_lt hr
  obtain ⟨hf, hfb⟩ := firstI_lt hs hne
  rw [Bool.eq_iff_iff, decide_eq_true_eq]
  constructor
  · intro h
    unfold tchK at h
    rw [List.any_eq_true] at h
    obtain ⟨j, hj, hc⟩ := h
    rw [List.mem_range] at hj
    obtain ⟨_, h1⟩ := hasC_S hc
    have h2 := has_first h1
    have h3 := okc_true.1 (hasS_ok h1)
    have hcc := hasS_ok h1
    simp only at h3
    unfold idx at h2
    simp only at h2
    unfold stU at hk ⊢
    omega
  · rintro rfl
    unfold tchK
    rw [List.any_eq_true]
    refine ⟨0, by simp, ?_⟩
    have e1 : stU (regSet l) % 9 = firstI (regSet l) % 8 := by unfold stU; omega
    have e2 : stU (regSet l) / 9 = firstI (regSet l) / 8 := by unfold stU; omega
    rw [e1, e2]
    have : hasS (regSet l) (cN (firstI (regSet l))) = true := by unfold hasS; rw [cN_ok hf, idx_cN hf, hfb]; rfl
    unfold hasC; unfold hasS at this; rw [hr]
    have e3 : (⟨((firstI (regSet l) % 8 : Nat) : Int) - ((0 % 2 : Nat) : Int), ((firstI (regSet l) / 8 : Nat) : Int) - ((0 / 2 : Nat) : Int)⟩ : Cel) = cN (firstI (regSet l)) := by unfold cN; simp
    rw [e3]
    rw [Bool.and_eq_true] at this
    simp [this.1, this.2]
theorem hasC_hs {l : List Int} (hr : regOk l = true) (c : Cel) : hasC l c = hasS (regSet l) c := by unfold hasC hasS; rw [hr]; rfl
theorem HIn.ow {dir : Nat → Int × Int} {l : List Int} {ds : List Dom} {L M : List Nat} {u t k : Nat} (h : HIn dir l ds L u t M) (hk : k < L.length) : gI (nI M) k = ((gN L k : Nat) : Int) := by
  obtain ⟨e, he⟩ := foldl_pre (opE (regSet l) ds) u (hnbT dir u t) L
  have : M = L ++ e := by rw [h.eq]; exact he
  rw [gI_nI (by rw [this, List.length_append]; omega), this, gN_eq hk, gN_eq (by rw [List.length_append]; omega), List.getElem_append_left hk]
theorem dirS_X {t : Nat} (h : t < 4) : gI [1, 0, (-1), 0] t = (dirS t).1 := by
  have : t = 0 ∨ t = 1 ∨ t = 2 ∨ t = 3 := by omega
  rcases this with rfl | rfl | rfl | rfl <;> rfl
theorem dirS_Y {t : Nat} (h : t < 4) : gI [0, 1, 0, (-1)] t = (dirS t).2 := by
  have : t = 0 ∨ t = 1 ∨ t = 2 ∨ t = 3 := by omega
  rcases this with rfl | rfl | rfl | rfl <;> rfl
theorem addS_X {u t : Nat} (hu : u < 81) (ht : t < 4) : IntKind.i64.wrap (cX u + gI [1, 0, (-1), 0] t) = bX dirS u t := by
  rw [dirS_X ht]; exact w_small (z := bX dirS u t) (by have := (bXY_bd dirS_is hu t).1; omega)
theorem addS_Y {u t : Nat} (hu : u < 81) (ht : t < 4) : IntKind.i64.wrap (cY u + gI [0, 1, 0, (-1)] t) = bY dirS u t := by
  rw [dirS_Y ht]; exact w_small (z := bY dirS u t) (by have := (bXY_bd dirS_is hu t).2; omega)

theorem qC30_bs_46 : ∀ (a b : Int), Try.prog.built 46 [(0, .int .i64 a), (1, .int .i64 b)] = some ([.int .i64 a, .int .i64 b] : List Value).toArray := fun _ _ => rfl
theorem qC30_sz_3 : (Try.prog.info? 3).map (·.size) = some 1 := by kernel_rfl
theorem qC30_ti_29 : TI Try.prog 29 true 1 := ⟨⟨_, Try.underlying29, rfl⟩, by kernel_rfl⟩
theorem qC30_ti_3 : TI Try.prog 3 false 1 := ⟨⟨_, Try.underlying3, rfl⟩, by kernel_rfl⟩
theorem qC30_ti_46 : TI Try.prog 46 true 2 := ⟨⟨_, Try.underlying46, rfl⟩, by kernel_rfl⟩
theorem qC30_ti_57 : TI Try.prog 57 true 3 := ⟨⟨_, Try.underlying57, rfl⟩, by kernel_rfl⟩
theorem qC30_un_22 : Try.prog.underlying 22 = some (.slice 3) := Try.underlying22
theorem qC30_zi_3 : ZI Try.prog 3 (.int .i64 0) 1 8 := by unfold ZI; kernel_rfl
theorem qC30_zi_46 : ZI Try.prog 46 (.agg #[.int .i64 0, .int .i64 0]) 2 16 := by unfold ZI; kernel_rfl
theorem qC30_zi_57 : ZI Try.prog 57 (.agg #[.int .i64 0, .int .i64 0, .bool false]) 3 24 := by unfold ZI; kernel_rfl
set_option maxHeartbeats 4000000 in
set_option maxRecDepth 100000 in
theorem spec_HeightsOf_fn (l : List Int) (ds : List Dom) (hl : l.length ≤ 4194304) (hd : ds.length ≤ 2097152) : Fn Try.prog 60 [.agg [(.slv l.length 1 (isl l) : A)], .a (.slv ds.length 3 (dsl ds))] [.row 3 1 (hts l ds).length (isl (hts l ds))] := by
 refine fn_intro (N := 193) Try.func60 rfl (by kernel_rfl) rfl (Nat.le_of_ble_eq_true rfl) [2, 19, 20, 21, 24, 29, 34, 37, 38, 47, 48, 78, 84, 87, 108, 114, 123, 142, 147, 152, 158, 165, 190, 191] (ret1 rfl) (fun W => ?_)
 show Wp _ _ _ [kV 0 (V.b (.agg [(.slv l.length 1 (isl l) : A)])), kV 1 (V.b (.a (.slv ds.length 3 (dsl ds)))), kF 2, kF 19, kF 20, kF 21, kF 24, kF 29, kF 34, kF 37, kF 38, kF 47, kF 48, kF 78, kF 84, kF 87, kF 108, kF 114, kF 123, kF 142, kF 147, kF 152, kF 158, kF 165, kF 190, kF 191]
 refine sq (rg ?_)
 refine z ?_ (h := fun ν => acts_box (h := 2) ν xt (by exact ob1 rfl))
 refine zk (nl (sq (sq ?_)))
 refine wp_join [kB 36 ((!(simB l)) || ((!(isTil l ds)) || (decide ((((cellsOf l).length : Nat) : Int) = 0)))), kV 1 (V.b (.a (.slv ds.length 3 (dsl ds)))), kP 2 2 0, kO 2 29 1 true [(.slv l.length 1 (isl l) : A)], kF 19, kF 20, kF 21, kF 24, kF 29, kF 34, kF 37, kF 38, kF 47, kF 48, kF 78, kF 84, kF 87, kF 108, kF 114, kF 123, kF 142, kF 147, kF 152, kF 158, kF 165, kF 190, kF 191] ?_ ?_
 ·skip
  rcases Bool.eq_false_or_eq_true ((simB l)) with c1 | c1
  ·skip
   have hsi := c1
   have hro := (simB_ok hsi).1
   have hne := sim_ne hsi
   have hsl := regSet_lt hro
   have hstu := stU_lt hsl hne
   have hsl0 := hsL_len l ds [stU (regSet l)]
   have hcn := sim_cells hsi
   rcases Bool.eq_false_or_eq_true ((isTil l ds)) with c2 | c2
   ·skip
    have hti := c2
    refine rg ?_
    refine z ?_ (h := fun ν => acts_load_owns (xs := [(.slv l.length 1 (isl l) : A)]) ν qC30_ti_29 rfl (by decide) rfl)
    refine z ?_ (h := fun ν => acts_call1 ν (spec_IsSimple_fn l (by omega)) (ac (ArgV.regv _ _ 1 _) an) (resval (congrArg Value.bool c1)))
    refine z ?_ (h := fun ν => acts_un ν vt (r_not (c := false) rfl))
    refine zm ?_
    refine zg ?_ (h := fun ν => step_on rfl rfl (acts_load_owns (xs := [(.slv l.length 1 (isl l) : A)]) ν qC30_ti_29 rfl (by decide) rfl))
    refine zg ?_ (h := fun ν => step_on rfl rfl (mt ν))
    refine zg ?_ (h := fun ν => step_on rfl rfl (acts_call1 ν (spec_IsTiling_fn l ds (by omega) (by omega)) (ac (ArgV.regv _ _ 1 _) (ac (ArgV.slv _ _ _ _) an)) (resval (congrArg Value.bool c2))))
    refine zg ?_ (h := fun ν => step_on rfl rfl (acts_un ν vt (r_not (c := false) rfl)))
    refine z ?_ (h := fun ν => acts_pick_f ν vt xt)
    refine zm ?_
    refine zg ?_ (h := fun ν => step_on rfl rfl (acts_load_owns (xs := [(.slv l.length 1 (isl l) : A)]) ν qC30_ti_29 rfl (by decide) rfl))
    refine zg ?_ (h := fun ν => step_on rfl rfl (acts_call1 ν (spec_CountCells_fn l (by omega)) (ac (ArgV.regv _ _ 1 _) an) rv))
    refine zg ?_ (h := fun ν => step_on rfl rfl (acts_bin ν vt vc (r_eql rfl)))
    refine z ?_ (h := fun ν => acts_pick_f ν vt xt)
    refine nl ?_
    exact ⟨rfl, weak_reads ⟨(by simp only [c1, c2]; first | done | kernel_rfl), (by repeat (first | exact trivial | refine ⟨by kernel_rfl, ?_⟩))⟩⟩
   ·skip
    have hno1 : hts l ds = [] := hts_no (by rw [c2]; exact Bool.and_false _)
    refine rg ?_
    refine z ?_ (h := fun ν => acts_load_owns (xs := [(.slv l.length 1 (isl l) : A)]) ν qC30_ti_29 rfl (by decide) rfl)
    refine z ?_ (h := fun ν => acts_call1 ν (spec_IsSimple_fn l (by omega)) (ac (ArgV.regv _ _ 1 _) an) (resval (congrArg Value.bool c1)))
    refine z ?_ (h := fun ν => acts_un ν vt (r_not (c := false) rfl))
    refine zm ?_
    refine zg ?_ (h := fun ν => step_on rfl rfl (acts_load_owns (xs := [(.slv l.length 1 (isl l) : A)]) ν qC30_ti_29 rfl (by decide) rfl))
    refine zg ?_ (h := fun ν => step_on rfl rfl (mt ν))
    refine zg ?_ (h := fun ν => step_on rfl rfl (acts_call1 ν (spec_IsTiling_fn l ds (by omega) (by omega)) (ac (ArgV.regv _ _ 1 _) (ac (ArgV.slv _ _ _ _) an)) (resval (congrArg Value.bool c2))))
    refine zg ?_ (h := fun ν => step_on rfl rfl (acts_un ν vt (r_not (c := true) rfl)))
    refine z ?_ (h := fun ν => acts_pick_f ν vt xt)
    refine zm (zo (zo (zo ?_)))
    refine z ?_ (h := fun ν => acts_pick_t ν vt xc)
    refine nl ?_
    exact ⟨rfl, weak_reads ⟨(by simp only [c1, c2]; first | done | kernel_rfl), (by repeat (first | exact trivial | refine ⟨by kernel_rfl, ?_⟩))⟩⟩
  ·skip
   have hno1 : hts l ds = [] := hts_no (by rw [c1]; rfl)
   refine rg ?_
   refine z ?_ (h := fun ν => acts_load_owns (xs := [(.slv l.length 1 (isl l) : A)]) ν qC30_ti_29 rfl (by decide) rfl)
   refine z ?_ (h := fun ν => acts_call1 ν (spec_IsSimple_fn l (by omega)) (ac (ArgV.regv _ _ 1 _) an) (resval (congrArg Value.bool c1)))
   refine z ?_ (h := fun ν => acts_un ν vt (r_not (c := true) rfl))
   refine zm (zo (zo (zo (zo ?_))))
   refine z ?_ (h := fun ν => acts_pick_t ν vt xc)
   refine zm (zo (zo (zo ?_)))
   refine z ?_ (h := fun ν => acts_pick_t ν vt xc)
   refine nl ?_
   exact ⟨rfl, weak_reads ⟨(by simp only [c1]; first | done | kernel_rfl), (by repeat (first | exact trivial | refine ⟨by kernel_rfl, ?_⟩))⟩⟩
 refine wi (b := ((!(simB l)) || ((!(isTil l ds)) || (decide ((((cellsOf l).length : Nat) : Int) = 0))))) (fun c3 => ?_) (fun c3 => ?_)
 ·skip
  have c4 := or_tt c3
  have hno1 := hts_bad c4
  refine sq (rg ?_)
  refine z ?_ (h := fun ν => b0I (h := 37) ν qC30_un_22 qC30_zi_3)
  refine za (nl (wp_ret' ?_))
  exact VRes.tmp _ _ _ (by exact rfl) (brow_ints (h := 37) (L := []) (by kernel_rfl) (by exact hno1.symm) (by rfl))
 ·skip
  obtain ⟨c5, c6⟩ := or_ff c3
  have c7 : (simB l) = true := by first | (rw [← Bool.not_eq_false']; exact c5) | simpa using c5
  have hsi := c7
  have hro := (simB_ok hsi).1
  have hne := sim_ne hsi
  have hsl := regSet_lt hro
  have hstu := stU_lt hsl hne
  have hsl0 := hsL_len l ds [stU (regSet l)]
  have hcn := sim_cells hsi
  obtain ⟨c8, c9⟩ := or_ff c6
  have c10 : (isTil l ds) = true := by first | (rw [← Bool.not_eq_false']; exact c8) | simpa using c8
  have hti := c10
  have c9P := of_decide_eq_false c9
  refine sk (sq (rg (zk (nl (sq (rg ?_))))))
  refine z ?_ (h := fun ν => b0I (h := 38) ν qC30_un_22 qC30_zi_3)
  refine za (nl (sq (sq (rg (zk (nl (bkk ?_)))))))
  refine wp_loop' (fun (i : Nat) => i ≤ 81) (fun (i : Nat) => [kV 1 (V.b (.a (.slv ds.length 3 (dsl ds)))), kP 2 2 0, kI 5 9, kS 6 38 0 ((List.replicate i (-1000)).length), kI 7 ((i : Nat) : Int), kO 2 29 1 true [(.slv l.length 1 (isl l) : A)], kO 38 3 1 true (pl (isl (List.replicate i (-1000)))), kF 19, kF 20, kF 21, kF 24, kF 29, kF 34, kF 37, kF 47, kF 48, kF 78, kF 84, kF 87, kF 108, kF 114, kF 123, kF 142, kF 147, kF 152, kF 158, kF 165, kF 190, kF 191]) (fun (i : Nat) => 81 - i) ((0 : Nat)) (by exact (Nat.zero_le _ : 0 ≤ _)) (wkf id (wS <| wS <| wS <| wE (e := (vsl (by rfl) rfl)) <| wE (e := (vint (by rfl))) <| wX <| wO (e := renob_eq (fun h => h) (congrArg isl (by rfl))) <| by (iterate 22 refine wF ?_); exact wN)) ?_
  rintro i inv11
  replace inv11 : i ≤ 81 := inv11
  have inv1 := inv11
  have hrl : (List.replicate i (-1000 : Int)).length = i := List.length_replicate
  refine sq (sq (rg (zm (zm (zm ?_)))))
  refine z ?_ (h := fun ν => acts_bin ν vt vt (r_mul (c := 81) rfl))
  refine z ?_ (h := fun ν => acts_bin ν vt vt (r_lss rfl))
  refine nl ?_
  refine wi (fun c12 => ?_) (fun c12 => ?_)
  ·skip
   have c12P := of_decide_eq_true c12
   refine sk (sq (bkk (rg (zm ?_))))
   refine z ?_ (h := fun ν => acts_buildSlice' (h := 47) (xs := isl ([(-1000)] : List Int)) ν qC30_un_22 qC30_zi_3 (.cons vc OpVs.nil) (by decide) (by decide) (by kernel_rfl) rfl)
   refine z ?_ (h := fun ν => aI_ (h2 := 48) (L3 := ((List.replicate i (-1000)) ++ [(-1000)])) ν qC30_un_22 qC30_zi_3 (by exact rfl) rfl (by exact rfl) (by (simp; omega)))
   refine za (nl (rg (zm ?_)))
   refine z ?_ (h := fun ν => acts_bin ν vt vc (rA (by omega) (by omega)))
   refine za (nl ?_)
   exact loop_back ((i + 1)) (by show _ ≤ _; omega) (by show 81 - (i + 1) < 81 - i; omega) (wkf (subst1 [(38, 48)]) (wS <| wS <| wS <| wE (e := (vsl (by (simp; done)) rfl)) <| wE (e := (vint (by rfl))) <| wX <| wO (e := renob_eq (fun h => h) (congrArg isl (by exact (rep_snoc _ _).symm))) <| by (iterate 22 refine wF ?_); exact wN))
  ·skip
   have c12P := of_decide_eq_false c12
   refine wp_exit' (sq (rg (zk (nl (sq (sq (rg (zk (nl (bkk ?_))))))))))
   refine wp_loop' (fun ((k2, f) : Nat × Int) => k2 ≤ 81 ∧ ((f = -1 ∧ k2 ≤ stU (regSet l)) ∨ (f = (stU (regSet l) : Int) ∧ k2 = stU (regSet l) + 1))) (fun ((k2, f) : Nat × Int) => [kV 1 (V.b (.a (.slv ds.length 3 (dsl ds)))), kP 2 2 0, kI 5 9, kS 6 38 0 ((List.replicate i (-1000)).length), kI 8 f, kI 9 ((k2 : Nat) : Int), kO 2 29 1 true [(.slv l.length 1 (isl l) : A)], kO 38 3 1 true (pl (isl (List.replicate i (-1000)))), kF 19, kF 20, kF 21, kF 24, kF 29, kF 34, kF 37, kF 47, kF 48, kF 78, kF 84, kF 87, kF 108, kF 114, kF 123, kF 142, kF 147, kF 152, kF 158, kF 165, kF 190, kF 191]) (fun ((k2, f) : Nat × Int) => 81 - k2) ((0 : Nat), (-1 : Int)) (by exact ⟨by omega, .inl ⟨rfl, Nat.zero_le _⟩⟩) (wkf id (wS <| wS <| wS <| wS <| wS <| wE (e := (vint (by rfl))) <| wX <| wP <| by (iterate 22 refine wF ?_); exact wN)) ?_
   rintro ⟨k2, f⟩ inv13
   replace inv13 : k2 ≤ 81 ∧ ((f = -1 ∧ k2 ≤ stU (regSet l)) ∨ (f = (stU (regSet l) : Int) ∧ k2 = stU (regSet l) + 1)) := inv13
   obtain ⟨hk81, hfk⟩ := inv13
   refine sq (sq ?_)
   refine wp_join [kB 57 ((decide (((k2 : Nat) : Int) < 81)) && (decide (f < 0))), kV 1 (V.b (.a (.slv ds.length 3 (dsl ds)))), kP 2 2 0, kI 5 9, kS 6 38 0 ((List.replicate i (-1000)).length), kI 8 f, kI 9 ((k2 : Nat) : Int), kO 2 29 1 true [(.slv l.length 1 (isl l) : A)], kO 38 3 1 true (pl (isl (List.replicate i (-1000)))), kF 19, kF 20, kF 21, kF 24, kF 29, kF 34, kF 37, kF 47, kF 48, kF 78, kF 84, kF 87, kF 108, kF 114, kF 123, kF 142, kF 147, kF 152, kF 158, kF 165, kF 190, kF 191] ?_ ?_
   ·skip
    rcases Bool.eq_false_or_eq_true (decide (((k2 : Nat) : Int) < 81)) with c14 | c14
    ·skip
     have c14P := of_decide_eq_true c14
     refine rg (zm (zm (zm ?_)))
     refine z ?_ (h := fun ν => acts_bin ν vt vt (r_mul (c := 81) rfl))
     refine z ?_ (h := fun ν => acts_bin ν vt vt (r_lss (c := true) c14))
     refine zm ?_
     refine zg ?_ (h := fun ν => step_on rfl rfl (mt ν))
     refine zg ?_ (h := fun ν => step_on rfl rfl (acts_bin ν vt vc (r_lss rfl)))
     refine z ?_ (h := fun ν => acts_pick_t ν vt xt)
     refine nl ?_
     exact ⟨rfl, weak_reads ⟨(by simp only [c14]; first | done | kernel_rfl), (by repeat (first | exact trivial | refine ⟨by kernel_rfl, ?_⟩))⟩⟩
    ·skip
     have c14P := of_decide_eq_false c14
     refine rg (zm (zm (zm ?_)))
     refine z ?_ (h := fun ν => acts_bin ν vt vt (r_mul (c := 81) rfl))
     refine z ?_ (h := fun ν => acts_bin ν vt vt (r_lss (c := false) c14))
     refine zm (zo (zo ?_))
     refine z ?_ (h := fun ν => acts_pick_f ν vt xc)
     refine nl ?_
     exact ⟨rfl, weak_reads ⟨(by simp only [c14]; first | done | kernel_rfl), (by repeat (first | exact trivial | refine ⟨by kernel_rfl, ?_⟩))⟩⟩
   refine wi (b := ((decide (((k2 : Nat) : Int) < 81)) && (decide (f < 0)))) (fun c15 => ?_) (fun c15 => ?_)
   ·skip
    obtain ⟨c16, c17⟩ := and_tt c15
    have c16P := of_decide_eq_true c16
    have c17P := of_decide_eq_true c17
    refine sk (sq (bkk (sq (rg (zk (nl (bkk ?_)))))))
    refine wp_loop' (fun ((j, f2) : Nat × Int) => j ≤ 4 ∧ f2 = (if tchK l k2 j = true then (k2 : Int) else -1)) (fun ((j, f2) : Nat × Int) => [kV 1 (V.b (.a (.slv ds.length 3 (dsl ds)))), kP 2 2 0, kI 5 9, kS 6 38 0 ((List.replicate i (-1000)).length), kI 8 f2, kI 9 ((k2 : Nat) : Int), kI 10 ((j : Nat) : Int), kO 2 29 1 true [(.slv l.length 1 (isl l) : A)], kO 38 3 1 true (pl (isl (List.replicate i (-1000)))), kF 19, kF 20, kF 21, kF 24, kF 29, kF 34, kF 37, kF 47, kF 48, kF 78, kF 84, kF 87, kF 108, kF 114, kF 123, kF 142, kF 147, kF 152, kF 158, kF 165, kF 190, kF 191]) (fun ((j, f2) : Nat × Int) => 4 - j) ((0 : Nat), (f : Int)) (by exact ⟨by omega, by have : tchK l k2 0 = false := rfl; rw [this]; simp; omega⟩) (wkf id (wS <| wS <| wS <| wS <| wS <| wS <| wE (e := (vint (by rfl))) <| wX <| wP <| by (iterate 22 refine wF ?_); exact wN)) ?_
    rintro ⟨j, f2⟩ inv18
    replace inv18 : j ≤ 4 ∧ f2 = (if tchK l k2 j = true then (k2 : Int) else -1) := inv18
    obtain ⟨hj4, hf2⟩ := inv18
    refine sq (sq (rg (zm ?_)))
    refine z ?_ (h := fun ν => acts_bin ν vt vc (r_lss rfl))
    refine nl ?_
    refine wi (fun c19 => ?_) (fun c19 => ?_)
    ·skip
     have c19P := of_decide_eq_true c19
     refine sk (sq (bkk (sq (wp_dr ?_))))
     refine zd ?_ (h := fun ν => acts_load_owns (xs := [(.slv l.length 1 (isl l) : A)]) ν qC30_ti_29 rfl (by decide) rfl)
     refine zdm (zdm ?_)
     refine zd ?_ (h := fun ν => acts_bin ν vt vt (r_rem (c := (((k2 % 9) : Nat) : Int)) (by decide) (remN (a := ((k2 : Nat) : Int)) (b := k2) (c := 9) rfl)))
     refine zdm ?_
     refine zd ?_ (h := fun ν => acts_bin ν vt vc (r_rem (c := (((j % 2) : Nat) : Int)) (by decide) (remN (a := ((j : Nat) : Int)) (b := j) (c := 2) rfl)))
     refine zd ?_ (h := fun ν => acts_bin ν vt vt (rS (by omega) (by omega)))
     refine zdm (zdm ?_)
     refine zd ?_ (h := fun ν => acts_bin ν vt vt (r_quo (c := (((k2 / 9) : Nat) : Int)) (by decide) (quoN (a := ((k2 : Nat) : Int)) (b := k2) (c := 9) rfl (by decide) (by omega))))
     refine zdm ?_
     refine zd ?_ (h := fun ν => acts_bin ν vt vc (r_quo (c := (((j / 2) : Nat) : Int)) (by decide) (quoN (a := ((j : Nat) : Int)) (b := j) (c := 2) rfl (by decide) (by omega))))
     refine zd ?_ (h := fun ν => acts_bin ν vt vt (rS (by omega) (by omega)))
     refine zd ?_ (h := fun ν => bC ν qC30_bs_46 vt vt)
     refine zd ?_ (h := fun ν => acts_call1 ν (spec_HasCell_fn l (⟨((((k2 % 9) : Nat) : Int) - (((j % 2) : Nat) : Int)), ((((k2 / 9) : Nat) : Int) - (((j / 2) : Nat) : Int))⟩ : Cel) (by omega)) (ac (ArgV.regv _ _ 1 _) (ac (ArgV.va va) an)) rv)
     refine dw_nil ?_
     refine wi (b := (hasC l (⟨((((k2 % 9) : Nat) : Int) - (((j % 2) : Nat) : Int)), ((((k2 / 9) : Nat) : Int) - (((j / 2) : Nat) : Int))⟩ : Cel))) (fun c20 => ?_) (fun c20 => ?_)
     ·skip
      have htc := tchK_snoc c20
      refine rg (zm (za (nl (rg (zm ?_)))))
      refine z ?_ (h := fun ν => acts_bin ν vt vc (rA (by omega) (by omega)))
      refine za (nl ?_)
      exact loop_back ((j + 1), ((k2 : Nat) : Int)) (by refine ⟨by omega, ?_⟩; rw [htc]; first | (rw [Bool.or_true, if_pos rfl]; done) | (rw [Bool.or_false]; exact hf2)) (by show 4 - (j + 1) < 4 - j; omega) (wkf id (wS <| wS <| wS <| wS <| wS <| wS <| wE (e := (vint (by rfl))) <| wX <| wP <| by (iterate 22 refine wF ?_); exact wN))
     ·skip
      have htc := tchK_snoc c20
      refine sk (rg (zm ?_))
      refine z ?_ (h := fun ν => acts_bin ν vt vc (rA (by omega) (by omega)))
      refine za (nl ?_)
      exact loop_back ((j + 1), f2) (by refine ⟨by omega, ?_⟩; rw [htc]; first | (rw [Bool.or_true, if_pos rfl]; done) | (rw [Bool.or_false]; exact hf2)) (by show 4 - (j + 1) < 4 - j; omega) (wkf id (wS <| wS <| wS <| wS <| wS <| wS <| wE (e := (vint (by rfl))) <| wX <| wP <| by (iterate 22 refine wF ?_); exact wN))
    ·skip
     have c19P := of_decide_eq_false c19
     refine wp_exit' (rg (zm ?_))
     refine z ?_ (h := fun ν => acts_bin ν vt vc (rA (by omega) (by omega)))
     refine za (nl ?_)
     exact loop_back ((k2 + 1), f2) (by refine ⟨by omega, ?_⟩; (have e : j = 4 := by omega); subst e; rw [tchK_first hro hne (by omega)] at hf2; simp only [decide_eq_true_eq] at hf2; split at hf2 <;> omega) (by show 81 - (k2 + 1) < 81 - k2; omega) (wkf id (wS <| wS <| wS <| wS <| wS <| wE (e := (vint (by rfl))) <| wX <| wP <| by (iterate 22 refine wF ?_); exact wN))
   ·skip
    have c21 := and_ff c15
    have hfe : f = (stU (regSet l) : Int) := by
     rcases c21 with q | q <;> (have q2 := of_decide_eq_false q; omega)
    refine wp_exit' (sq (rg (zm (zm ?_))))
    refine z ?_ (h := fun ν => ix0 (k := f.toNat) ν qC30_un_22 qC30_sz_3 vt (Int.toNat_of_nonneg (by omega)).symm (by omega))
    refine z ?_ (h := fun _ => sI qC30_ti_3 xc (by omega))
    refine nl (sq (rg (zm ?_)))
    refine z ?_ (h := fun ν => acts_buildSlice' (h := 84) (xs := isl ([f] : List Int)) ν qC30_un_22 qC30_zi_3 (.cons vt OpVs.nil) (by decide) (by decide) (by kernel_rfl) rfl)
    refine za (nl (sq (sq (rg (zk (nl (bkk ?_)))))))
    refine wp_loop' (fun ((k, L) : Nat × (List Nat)) => HInv dirS l ds L k) (fun ((k, L) : Nat × (List Nat)) => [kV 1 (V.b (.a (.slv ds.length 3 (dsl ds)))), kP 2 2 0, kI 5 9, kS 6 38 0 ((hsL l ds L).length), kS 11 84 0 ((nI L).length), kI 12 ((k : Nat) : Int), kO 2 29 1 true [(.slv l.length 1 (isl l) : A)], kO 38 3 1 true (pl (isl (hsL l ds L))), kO 84 3 1 true (pl (isl (nI L))), kF 19, kF 20, kF 21, kF 24, kF 29, kF 34, kF 37, kF 47, kF 48, kF 78, kF 87, kF 108, kF 114, kF 123, kF 142, kF 147, kF 152, kF 158, kF 165, kF 190, kF 191]) (fun ((k, L) : Nat × (List Nat)) => 81 - k) ((0 : Nat), ([stU (regSet l)] : List Nat)) (by exact HInv.init dirS l ds hstu) (wkf id (wS <| wS <| wS <| wE (e := (vsl (by (simp; omega)) rfl)) <| wE (e := (vsl (by rfl) rfl)) <| wE (e := (vint (by rfl))) <| wX <| wO (e := renob_eq (fun h => h) (congrArg isl (by ((have e : i = 81 := by omega); (have ef : f = (stU (regSet l) : Int) := by omega); subst e; subst ef; first | exact hsL_init l ds hstu | exact (hsL_init l ds hstu).symm | rfl)))) <| wO (e := renob_eq (fun h => h) (congrArg isl (by ((have e : i = 81 := by omega); (have ef : f = (stU (regSet l) : Int) := by omega); subst e; subst ef; first | exact hsL_init l ds hstu | exact (hsL_init l ds hstu).symm | rfl)))) <| by (iterate 21 refine wF ?_); exact wN)) ?_
    rintro ⟨k, L⟩ inv22
    replace inv22 : HInv dirS l ds L k := inv22
    have hH := inv22
    have hHl := hH.len
    have hnl0 := nI_len L
    refine sq (sq (rg (zm (zm ?_))))
    refine z ?_ (h := fun ν => lnS ν qC30_un_22)
    refine z ?_ (h := fun ν => acts_bin ν vt vt (r_lss rfl))
    refine nl ?_
    refine wi (fun c23 => ?_) (fun c23 => ?_)
    ·skip
     have c23P := of_decide_eq_true c23
     have hnl := nI_len L
     have hk2 : k < L.length := by omega
     have hown0 : gI (nI L) k = ((gN L k : Nat) : Int) := gI_nI hk2
     obtain ⟨huL, hu81⟩ := hH.at hk2
     obtain ⟨hcx, hcy⟩ := cXY hu81
     refine sk (sq (bkk (sq (rg (zm (zm ?_))))))
     refine z ?_ (h := fun ν => ix0 ν qC30_un_22 qC30_sz_3 vt (hlt := (by omega)))
     refine z ?_ (h := fun ν => lI ν qC30_ti_3 (by omega))
     refine zm ?_
     refine z ?_ (h := fun ν => acts_bin ν vt vt (r_rem (c := (cX (gN L k))) (by omega) (remN hown0)))
     refine za (nl (sq (rg (zm (zm ?_)))))
     refine z ?_ (h := fun ν => ix0 ν qC30_un_22 qC30_sz_3 vt (hlt := (by omega)))
     refine z ?_ (h := fun ν => lI ν qC30_ti_3 (by omega))
     refine zm ?_
     refine z ?_ (h := fun ν => acts_bin ν vt vt (r_quo (c := (cY (gN L k))) (by omega) (quoN hown0 (by decide) (by omega))))
     refine za (nl (sq (rg (zk (nl (bkk ?_))))))
     refine wp_loop' (fun ((t, M) : Nat × (List Nat)) => t ≤ 4 ∧ HIn dirS l ds L (gN L k) t M) (fun ((t, M) : Nat × (List Nat)) => [kV 1 (V.b (.a (.slv ds.length 3 (dsl ds)))), kP 2 2 0, kI 5 9, kS 6 38 0 ((hsL l ds M).length), kS 11 84 0 ((nI M).length), kI 12 ((k : Nat) : Int), kI 13 (cX (gN L k)), kI 14 (cY (gN L k)), kI 15 ((t : Nat) : Int), kO 2 29 1 true [(.slv l.length 1 (isl l) : A)], kO 38 3 1 true (pl (isl (hsL l ds M))), kO 84 3 1 true (pl (isl (nI M))), kF 19, kF 20, kF 21, kF 24, kF 29, kF 34, kF 37, kF 47, kF 48, kF 78, kF 87, kF 108, kF 114, kF 123, kF 142, kF 147, kF 152, kF 158, kF 165, kF 190, kF 191]) (fun ((t, M) : Nat × (List Nat)) => 4 - t) ((0 : Nat), (L : List Nat)) (by exact ⟨by omega, hH.into _⟩) (wkf id (wS <| wS <| wS <| wS <| wS <| wS <| wS <| wS <| wE (e := (vint (by rfl))) <| wX <| wP <| wP <| by (iterate 21 refine wF ?_); exact wN)) ?_
     rintro ⟨t, M⟩ inv24
     replace inv24 : t ≤ 4 ∧ HIn dirS l ds L (gN L k) t M := inv24
     obtain ⟨inv24_0, inv24_1⟩ := inv24
     have hM : HIn dirS l ds L (gN L k) t M := by assumption
     have hMl := hM.len
     have hMe := hM.le
     have hnl2 := nI_len M
     have hown := hM.ow hk2
     have hownN : (gI (nI M) k).toNat = gN L k := by rw [hown]; rfl
     have hbu := hM.bd2 hu81
     obtain ⟨hbx0, hby0⟩ := bXY_bd dirS_is hu81 t
     have hsll := hsL_len l ds M
     refine sq (sq (rg (zm ?_)))
     refine z ?_ (h := fun ν => acts_bin ν vt vc (r_lss rfl))
     refine nl ?_
     refine wi (fun c25 => ?_) (fun c25 => ?_)
     ·skip
      have c25P := of_decide_eq_true c25
      refine sk (sq (bkk (sq (rg (zm ?_)))))
      refine z ?_ (h := fun ν => acts_buildSlice' (h := 108) (xs := isl ([1, 0, (-1), 0] : List Int)) ν qC30_un_22 qC30_zi_3 (.cons vc (.cons vc (.cons vc (.cons vc OpVs.nil)))) (by decide) (by decide) (by kernel_rfl) rfl)
      refine zm ?_
      refine z ?_ (h := fun ν => ix0 ν qC30_un_22 qC30_sz_3 vt (hlt := (by omega)))
      refine z ?_ (h := fun ν => lI ν qC30_ti_3 (by (simp only [List.length_cons, List.length_nil]; omega)))
      refine z ?_ (h := fun ν => acts_bin ν vt vt (r_add (c := (bX dirS (gN L k) t)) (addS_X hu81 (by omega))))
      refine za (nl (sq (rg (zm ?_))))
      refine z ?_ (h := fun ν => acts_buildSlice' (h := 114) (xs := isl ([0, 1, 0, (-1)] : List Int)) ν qC30_un_22 qC30_zi_3 (.cons vc (.cons vc (.cons vc (.cons vc OpVs.nil)))) (by decide) (by decide) (by kernel_rfl) rfl)
      refine zm ?_
      refine z ?_ (h := fun ν => ix0 ν qC30_un_22 qC30_sz_3 vt (hlt := (by omega)))
      refine z ?_ (h := fun ν => lI ν qC30_ti_3 (by (simp only [List.length_cons, List.length_nil]; omega)))
      refine z ?_ (h := fun ν => acts_bin ν vt vt (r_add (c := (bY dirS (gN L k) t)) (addS_Y hu81 (by omega))))
      refine za (nl (sq (rg (zm (zm (zm (zm ?_)))))))
      refine z ?_ (h := fun ν => acts_call1 ν (spec_EdgeStep_fn (cX (gN L k)) (cY (gN L k)) (bX dirS (gN L k) t) (bY dirS (gN L k) t) ) (ac (ArgV.v vt) (ac (ArgV.v vt) (ac (ArgV.v vt) (ac (ArgV.v vt) an)))) rv)
      refine za (nl (sq (sq ?_)))
      refine wp_join [kB 136 ((decide ((estep (cX (gN L k)) (cY (gN L k)) (bX dirS (gN L k) t) (bY dirS (gN L k) t)) = 0)) || (decide ((gI (hsL l ds M) ((((bY dirS (gN L k) t) * 9) + (bX dirS (gN L k) t)).toNat)) ≠ (-1000)))), kV 1 (V.b (.a (.slv ds.length 3 (dsl ds)))), kP 2 2 0, kI 5 9, kS 6 38 0 ((hsL l ds M).length), kS 11 84 0 ((nI M).length), kI 12 ((k : Nat) : Int), kI 13 (cX (gN L k)), kI 14 (cY (gN L k)), kI 15 ((t : Nat) : Int), kI 16 (bX dirS (gN L k) t), kI 17 (bY dirS (gN L k) t), kI 18 (estep (cX (gN L k)) (cY (gN L k)) (bX dirS (gN L k) t) (bY dirS (gN L k) t)), kO 2 29 1 true [(.slv l.length 1 (isl l) : A)], kO 38 3 1 true (pl (isl (hsL l ds M))), kO 84 3 1 true (pl (isl (nI M))), kO 108 3 1 true (pl (isl [1, 0, (-1), 0])), kO 114 3 1 true (pl (isl [0, 1, 0, (-1)])), kF 19, kF 20, kF 21, kF 24, kF 29, kF 34, kF 37, kF 47, kF 48, kF 78, kF 87, kF 123, kF 142, kF 147, kF 152, kF 158, kF 165, kF 190, kF 191] ?_ ?_
      ·skip
       rcases Bool.eq_false_or_eq_true (decide ((estep (cX (gN L k)) (cY (gN L k)) (bX dirS (gN L k) t) (bY dirS (gN L k) t)) = 0)) with c26 | c26
       ·skip
        have c26P := of_decide_eq_true c26
        have hno := st_no dirS_is hu81 (of_decide_eq_true c26)
        refine rg (zm ?_)
        refine z ?_ (h := fun ν => acts_bin ν vt vc (r_eql (c := true) c26))
        refine zm (zo (zo (zo (zo (zo (zo (zo (zo (zo ?_)))))))))
        refine z ?_ (h := fun ν => acts_pick_t ν vt xc)
        refine nl ?_
        exact ⟨rfl, weak_reads ⟨(by simp only [c26]; first | done | kernel_rfl), (by repeat (first | exact trivial | refine ⟨by kernel_rfl, ?_⟩))⟩⟩
       ·skip
        have c26P := of_decide_eq_false c26
        obtain ⟨hin, hst⟩ := st_yes dirS_is hu81 (of_decide_eq_false c26)
        obtain ⟨hbx, hby⟩ := in_b hin
        have hw81 := (atU_lt hin).1
        have hst1 := stE_one (gN L k) (atU (gN L k) (dirS t))
        have hxw : ((bY dirS (gN L k) t) * 9 + (bX dirS (gN L k) t)) = (((atU (gN L k) (dirS t)) : Nat) : Int) := (Int.toNat_of_nonneg (by omega)).symm
        have hop := op_sd (s := regSet l) (til_okd hti) hu81 (dirS_is t) hin
        refine rg (zm ?_)
        refine z ?_ (h := fun ν => acts_bin ν vt vc (r_eql (c := false) c26))
        refine zm ?_
        refine zg ?_ (h := fun ν => step_on rfl rfl (mt ν))
        refine zg ?_ (h := fun ν => step_on rfl rfl (mt ν))
        refine zg ?_ (h := fun ν => step_on rfl rfl (mt ν))
        refine zg ?_ (h := fun ν => step_on rfl rfl (acts_bin ν vt vt (rM (by omega) (by omega))))
        refine zg ?_ (h := fun ν => step_on rfl rfl (mt ν))
        refine zg ?_ (h := fun ν => step_on rfl rfl (acts_bin ν vt vt (rA (by omega) (by omega))))
        refine zg ?_ (h := fun ν => step_on rfl rfl (ix0 (k := (((bY dirS (gN L k) t) * 9) + (bX dirS (gN L k) t)).toNat) ν qC30_un_22 qC30_sz_3 vt (Int.toNat_of_nonneg (by omega)).symm (by omega)))
        refine zg ?_ (h := fun ν => step_on rfl rfl (lI ν qC30_ti_3 (by omega)))
        refine zg ?_ (h := fun ν => step_on rfl rfl (acts_bin ν vt vc (r_neq rfl)))
        refine z ?_ (h := fun ν => acts_pick_f ν vt xt)
        refine nl ?_
        exact ⟨rfl, weak_reads ⟨(by simp only [c26]; first | done | kernel_rfl), (by repeat (first | exact trivial | refine ⟨by kernel_rfl, ?_⟩))⟩⟩
      refine wi (b := ((decide ((estep (cX (gN L k)) (cY (gN L k)) (bX dirS (gN L k) t) (bY dirS (gN L k) t)) = 0)) || (decide ((gI (hsL l ds M) ((((bY dirS (gN L k) t) * 9) + (bX dirS (gN L k) t)).toNat)) ≠ (-1000))))) (fun c27 => ?_) (fun c27 => ?_)
      ·skip
       have c28 := or_tt c27
       have hsk := skip_or dirS_is hM hu81 c28
       refine wp_exit' (rg (zm ?_))
       refine z ?_ (h := fun ν => acts_bin ν vt vc (rA (by omega) (by omega)))
       refine za (nl ?_)
       exact loop_back ((t + 1), M) (by exact ⟨by omega, hsk⟩) (by show 4 - (t + 1) < 4 - t; omega) (wkf id (wS <| wS <| wS <| wS <| wS <| wS <| wS <| wS <| wE (e := (vint (by rfl))) <| wX <| wP <| wP <| by (iterate 21 refine wF ?_); exact wN))
      ·skip
       obtain ⟨c29, c30⟩ := or_ff c27
       have c29P := of_decide_eq_false c29
       obtain ⟨hin, hst⟩ := st_yes dirS_is hu81 (of_decide_eq_false c29)
       obtain ⟨hbx, hby⟩ := in_b hin
       have hw81 := (atU_lt hin).1
       have hst1 := stE_one (gN L k) (atU (gN L k) (dirS t))
       have hxw : ((bY dirS (gN L k) t) * 9 + (bX dirS (gN L k) t)) = (((atU (gN L k) (dirS t)) : Nat) : Int) := (Int.toNat_of_nonneg (by omega)).symm
       have hop := op_sd (s := regSet l) (til_okd hti) hu81 (dirS_is t) hin
       have c30P := of_decide_eq_false c30
       have hmem : (atU (gN L k) (dirS t)) ∉ M := (hM.val hw81).1 (Decidable.not_not.1 (of_decide_eq_false c30))
       refine sk (sq (rg (zm (zm (zm (zm ?_))))))
       refine z ?_ (h := fun ν => acts_call2 ν (spec_l13Sides_fn (cX (gN L k)) (cY (gN L k)) (bX dirS (gN L k) t) (bY dirS (gN L k) t) (by omega) (by omega) (by omega) (by omega) (by omega) (by omega) (by omega) (by omega)) (ac (ArgV.v vt) (ac (ArgV.v vt) (ac (ArgV.v vt) (ac (ArgV.v vt) an)))) (ResV.agg [vI ((sdA (cX (gN L k)) (cY (gN L k)) (bX dirS (gN L k) t) (bY dirS (gN L k) t)).x), vI ((sdA (cX (gN L k)) (cY (gN L k)) (bX dirS (gN L k) t) (bY dirS (gN L k) t)).y)]) (ResV.agg [vI ((sdB (cX (gN L k)) (cY (gN L k)) (bX dirS (gN L k) t) (bY dirS (gN L k) t)).x), vI ((sdB (cX (gN L k)) (cY (gN L k)) (bX dirS (gN L k) t) (bY dirS (gN L k) t)).y)]))
       refine zm ?_
       refine z ?_ (h := fun ν => acts_extract ν (by exact rfl))
       refine z ?_ (h := fun ν => acts_extract ν (by exact rfl))
       refine z ?_ (h := fun ν => acts_alloc' (h := 19) (cap := 1) (s := 2) (cells := [aI 0, aI 0]) ν qC30_zi_46 rfl rfl (by decide))
       refine z ?_ (h := fun ν => acts_alloc' (h := 20) (cap := 1) (s := 2) (cells := [aI 0, aI 0]) ν qC30_zi_46 rfl rfl (by decide))
       refine z ?_ (h := fun _ => acts_store (cells := [aI ((sdA (cX (gN L k)) (cY (gN L k)) (bX dirS (gN L k) t) (bY dirS (gN L k) t)).x), aI ((sdA (cX (gN L k)) (cY (gN L k)) (bX dirS (gN L k) t) (bY dirS (gN L k) t)).y)]) qC30_ti_46 xt (by exact rfl) (by decide) (by exact ob1 rfl) (by exact Nat.le_of_ble_eq_true rfl) (by exact rfl))
       refine z ?_ (h := fun _ => acts_store (cells := [aI ((sdB (cX (gN L k)) (cY (gN L k)) (bX dirS (gN L k) t) (bY dirS (gN L k) t)).x), aI ((sdB (cX (gN L k)) (cY (gN L k)) (bX dirS (gN L k) t) (bY dirS (gN L k) t)).y)]) qC30_ti_46 xt (by exact rfl) (by decide) (by exact ob1 rfl) (by exact Nat.le_of_ble_eq_true rfl) (by exact rfl))
       refine nl (sq (sq ?_))
       refine wp_join [kB 154 ((!(hasC l (sdA (cX (gN L k)) (cY (gN L k)) (bX dirS (gN L k) t) (bY dirS (gN L k) t)))) && (!(hasC l (sdB (cX (gN L k)) (cY (gN L k)) (bX dirS (gN L k) t) (bY dirS (gN L k) t))))), kV 1 (V.b (.a (.slv ds.length 3 (dsl ds)))), kP 2 2 0, kI 5 9, kS 6 38 0 ((hsL l ds M).length), kS 11 84 0 ((nI M).length), kI 12 ((k : Nat) : Int), kI 13 (cX (gN L k)), kI 14 (cY (gN L k)), kI 15 ((t : Nat) : Int), kI 16 (bX dirS (gN L k) t), kI 17 (bY dirS (gN L k) t), kI 18 (estep (cX (gN L k)) (cY (gN L k)) (bX dirS (gN L k) t) (bY dirS (gN L k) t)), kP 19 19 0, kP 20 20 0, kO 2 29 1 true [(.slv l.length 1 (isl l) : A)], kO 19 46 2 true [aI ((sdA (cX (gN L k)) (cY (gN L k)) (bX dirS (gN L k) t) (bY dirS (gN L k) t)).x), aI ((sdA (cX (gN L k)) (cY (gN L k)) (bX dirS (gN L k) t) (bY dirS (gN L k) t)).y)], kO 20 46 2 true [aI ((sdB (cX (gN L k)) (cY (gN L k)) (bX dirS (gN L k) t) (bY dirS (gN L k) t)).x), aI ((sdB (cX (gN L k)) (cY (gN L k)) (bX dirS (gN L k) t) (bY dirS (gN L k) t)).y)], kO 38 3 1 true (pl (isl (hsL l ds M))), kO 84 3 1 true (pl (isl (nI M))), kO 108 3 1 true (pl (isl [1, 0, (-1), 0])), kO 114 3 1 true (pl (isl [0, 1, 0, (-1)])), kF 21, kF 24, kF 29, kF 34, kF 37, kF 47, kF 48, kF 78, kF 87, kF 123, kF 142, kF 147, kF 152, kF 158, kF 165, kF 190, kF 191] ?_ ?_
       ·skip
        rcases Bool.eq_false_or_eq_true ((hasC l (sdA (cX (gN L k)) (cY (gN L k)) (bX dirS (gN L k) t) (bY dirS (gN L k) t)))) with c31 | c31
        ·skip
         have hSp : hasS (regSet l) (sdA (cX (gN L k)) (cY (gN L k)) (bX dirS (gN L k) t) (bY dirS (gN L k) t)) = true := (hasC_hs hro _).symm.trans c31
         refine rg ?_
         refine z ?_ (h := fun ν => acts_load_owns (xs := [(.slv l.length 1 (isl l) : A)]) ν qC30_ti_29 rfl (by decide) rfl)
         refine z ?_ (h := fun ν => acts_load_owns (xs := [vI ((sdA (cX (gN L k)) (cY (gN L k)) (bX dirS (gN L k) t) (bY dirS (gN L k) t)).x), vI ((sdA (cX (gN L k)) (cY (gN L k)) (bX dirS (gN L k) t) (bY dirS (gN L k) t)).y)].map A.val) ν qC30_ti_46 rfl (by decide) rfl)
         refine z ?_ (h := fun ν => acts_call1 ν (spec_HasCell_fn l (sdA (cX (gN L k)) (cY (gN L k)) (bX dirS (gN L k) t) (bY dirS (gN L k) t)) (by omega)) (ac (ArgV.regv _ _ 1 _) (ac (ArgV.va va) an)) (resval (congrArg Value.bool c31)))
         refine z ?_ (h := fun ν => acts_un ν vt (r_not (c := false) rfl))
         refine zm (zo (zo (zo (zo ?_))))
         refine z ?_ (h := fun ν => acts_pick_f ν vt xc)
         refine nl ?_
         exact ⟨rfl, weak_reads ⟨(by simp only [c31]; first | done | kernel_rfl), (by repeat (first | exact trivial | refine ⟨by kernel_rfl, ?_⟩))⟩⟩
        ·skip
         have hSp : hasS (regSet l) (sdA (cX (gN L k)) (cY (gN L k)) (bX dirS (gN L k) t) (bY dirS (gN L k) t)) = false := (hasC_hs hro _).symm.trans c31
         refine rg ?_
         refine z ?_ (h := fun ν => acts_load_owns (xs := [(.slv l.length 1 (isl l) : A)]) ν qC30_ti_29 rfl (by decide) rfl)
         refine z ?_ (h := fun ν => acts_load_owns (xs := [vI ((sdA (cX (gN L k)) (cY (gN L k)) (bX dirS (gN L k) t) (bY dirS (gN L k) t)).x), vI ((sdA (cX (gN L k)) (cY (gN L k)) (bX dirS (gN L k) t) (bY dirS (gN L k) t)).y)].map A.val) ν qC30_ti_46 rfl (by decide) rfl)
         refine z ?_ (h := fun ν => acts_call1 ν (spec_HasCell_fn l (sdA (cX (gN L k)) (cY (gN L k)) (bX dirS (gN L k) t) (bY dirS (gN L k) t)) (by omega)) (ac (ArgV.regv _ _ 1 _) (ac (ArgV.va va) an)) (resval (congrArg Value.bool c31)))
         refine z ?_ (h := fun ν => acts_un ν vt (r_not (c := true) rfl))
         refine zm ?_
         refine zg ?_ (h := fun ν => step_on rfl rfl (acts_load_owns (xs := [(.slv l.length 1 (isl l) : A)]) ν qC30_ti_29 rfl (by decide) rfl))
         refine zg ?_ (h := fun ν => step_on rfl rfl (acts_load_owns (xs := [vI ((sdB (cX (gN L k)) (cY (gN L k)) (bX dirS (gN L k) t) (bY dirS (gN L k) t)).x), vI ((sdB (cX (gN L k)) (cY (gN L k)) (bX dirS (gN L k) t) (bY dirS (gN L k) t)).y)].map A.val) ν qC30_ti_46 rfl (by decide) rfl))
         refine zg ?_ (h := fun ν => step_on rfl rfl (acts_call1 ν (spec_HasCell_fn l (sdB (cX (gN L k)) (cY (gN L k)) (bX dirS (gN L k) t) (bY dirS (gN L k) t)) (by omega)) (ac (ArgV.regv _ _ 1 _) (ac (ArgV.va va) an)) rv))
         refine zg ?_ (h := fun ν => step_on rfl rfl (acts_un ν vt (r_not rfl)))
         refine z ?_ (h := fun ν => acts_pick_t ν vt xt)
         refine nl ?_
         exact ⟨rfl, weak_reads ⟨(by simp only [c31]; first | done | kernel_rfl), (by repeat (first | exact trivial | refine ⟨by kernel_rfl, ?_⟩))⟩⟩
       refine wi (b := ((!(hasC l (sdA (cX (gN L k)) (cY (gN L k)) (bX dirS (gN L k) t) (bY dirS (gN L k) t)))) && (!(hasC l (sdB (cX (gN L k)) (cY (gN L k)) (bX dirS (gN L k) t) (bY dirS (gN L k) t)))))) (fun c32 => ?_) (fun c32 => ?_)
       ·skip
        obtain ⟨c33, c34⟩ := and_tt c32
        have c35 : (hasC l (sdA (cX (gN L k)) (cY (gN L k)) (bX dirS (gN L k) t) (bY dirS (gN L k) t))) = false := by first | (rw [← Bool.not_eq_true']; exact c33) | simpa using c33
        have hSp : hasS (regSet l) (sdA (cX (gN L k)) (cY (gN L k)) (bX dirS (gN L k) t) (bY dirS (gN L k) t)) = false := (hasC_hs hro _).symm.trans c35
        have c36 : (hasC l (sdB (cX (gN L k)) (cY (gN L k)) (bX dirS (gN L k) t) (bY dirS (gN L k) t))) = false := by first | (rw [← Bool.not_eq_true']; exact c34) | simpa using c34
        have hSq : hasS (regSet l) (sdB (cX (gN L k)) (cY (gN L k)) (bX dirS (gN L k) t) (bY dirS (gN L k) t)) = false := (hasC_hs hro _).symm.trans c36
        refine wp_exit' (rg (zm ?_))
        refine z ?_ (h := fun ν => acts_bin ν vt vc (rA (by omega) (by omega)))
        refine za (nl ?_)
        exact loop_back ((t + 1), M) (by exact ⟨by omega, hM.skip (.inr (.inr (hop.trans (side_f (.inl ⟨hSp, hSq⟩)))))⟩) (by show 4 - (t + 1) < 4 - t; omega) (wkf id (wS <| wS <| wS <| wS <| wS <| wS <| wS <| wS <| wE (e := (vint (by rfl))) <| wX <| wP <| wP <| by (iterate 21 refine wF ?_); exact wN))
       ·skip
        have c37 := and_ff c32
        have hor := hasC_or hro c37
        refine sk (sq (rg ?_))
        refine z ?_ (h := fun ν => acts_load_owns (xs := [vI ((sdA (cX (gN L k)) (cY (gN L k)) (bX dirS (gN L k) t) (bY dirS (gN L k) t)).x), vI ((sdA (cX (gN L k)) (cY (gN L k)) (bX dirS (gN L k) t) (bY dirS (gN L k) t)).y)].map A.val) ν qC30_ti_46 rfl (by decide) rfl)
        refine z ?_ (h := fun ν => acts_load_owns (xs := [vI ((sdB (cX (gN L k)) (cY (gN L k)) (bX dirS (gN L k) t) (bY dirS (gN L k) t)).x), vI ((sdB (cX (gN L k)) (cY (gN L k)) (bX dirS (gN L k) t) (bY dirS (gN L k) t)).y)].map A.val) ν qC30_ti_46 rfl (by decide) rfl)
        refine z ?_ (h := fun ν => acts_call2 ν (spec_DominoOver_fn (sdA (cX (gN L k)) (cY (gN L k)) (bX dirS (gN L k) t) (bY dirS (gN L k) t)) (sdB (cX (gN L k)) (cY (gN L k)) (bX dirS (gN L k) t) (bY dirS (gN L k) t)) ) (ac (ArgV.va va) (ac (ArgV.va va) an)) (ResV.agg [vI ((dOv (sdA (cX (gN L k)) (cY (gN L k)) (bX dirS (gN L k) t) (bY dirS (gN L k) t)) (sdB (cX (gN L k)) (cY (gN L k)) (bX dirS (gN L k) t) (bY dirS (gN L k) t))).x), vI ((dOv (sdA (cX (gN L k)) (cY (gN L k)) (bX dirS (gN L k) t) (bY dirS (gN L k) t)) (sdB (cX (gN L k)) (cY (gN L k)) (bX dirS (gN L k) t) (bY dirS (gN L k) t))).y), .bool ((dOv (sdA (cX (gN L k)) (cY (gN L k)) (bX dirS (gN L k) t) (bY dirS (gN L k) t)) (sdB (cX (gN L k)) (cY (gN L k)) (bX dirS (gN L k) t) (bY dirS (gN L k) t))).d)]) rv)
        refine zm ?_
        refine z ?_ (h := fun ν => acts_extract ν (by exact rfl))
        refine z ?_ (h := fun ν => acts_extract ν (by exact rfl))
        refine z ?_ (h := fun ν => acts_alloc' (h := 21) (cap := 1) (s := 3) (cells := [aI 0, aI 0, aB false]) ν qC30_zi_57 rfl rfl (by decide))
        refine z ?_ (h := fun _ => acts_store (cells := [aI ((dOv (sdA (cX (gN L k)) (cY (gN L k)) (bX dirS (gN L k) t) (bY dirS (gN L k) t)) (sdB (cX (gN L k)) (cY (gN L k)) (bX dirS (gN L k) t) (bY dirS (gN L k) t))).x), aI ((dOv (sdA (cX (gN L k)) (cY (gN L k)) (bX dirS (gN L k) t) (bY dirS (gN L k) t)) (sdB (cX (gN L k)) (cY (gN L k)) (bX dirS (gN L k) t) (bY dirS (gN L k) t))).y), aB ((dOv (sdA (cX (gN L k)) (cY (gN L k)) (bX dirS (gN L k) t) (bY dirS (gN L k) t)) (sdB (cX (gN L k)) (cY (gN L k)) (bX dirS (gN L k) t) (bY dirS (gN L k) t))).d)]) qC30_ti_57 xt (by exact rfl) (by decide) (by exact ob1 rfl) (by exact Nat.le_of_ble_eq_true rfl) (by exact rfl))
        refine za (nl (sq (sq ?_)))
        refine wp_join [kB 167 ((nbr (sdA (cX (gN L k)) (cY (gN L k)) (bX dirS (gN L k) t) (bY dirS (gN L k) t)) (sdB (cX (gN L k)) (cY (gN L k)) (bX dirS (gN L k) t) (bY dirS (gN L k) t))) && (decide (0 ≤ (posM ds (dOv (sdA (cX (gN L k)) (cY (gN L k)) (bX dirS (gN L k) t) (bY dirS (gN L k) t)) (sdB (cX (gN L k)) (cY (gN L k)) (bX dirS (gN L k) t) (bY dirS (gN L k) t))))))), kV 1 (V.b (.a (.slv ds.length 3 (dsl ds)))), kP 2 2 0, kI 5 9, kS 6 38 0 ((hsL l ds M).length), kS 11 84 0 ((nI M).length), kI 12 ((k : Nat) : Int), kI 13 (cX (gN L k)), kI 14 (cY (gN L k)), kI 15 ((t : Nat) : Int), kI 16 (bX dirS (gN L k) t), kI 17 (bY dirS (gN L k) t), kI 18 (estep (cX (gN L k)) (cY (gN L k)) (bX dirS (gN L k) t) (bY dirS (gN L k) t)), kO 2 29 1 true [(.slv l.length 1 (isl l) : A)], kO 19 46 2 true [aI ((sdA (cX (gN L k)) (cY (gN L k)) (bX dirS (gN L k) t) (bY dirS (gN L k) t)).x), aI ((sdA (cX (gN L k)) (cY (gN L k)) (bX dirS (gN L k) t) (bY dirS (gN L k) t)).y)], kO 20 46 2 true [aI ((sdB (cX (gN L k)) (cY (gN L k)) (bX dirS (gN L k) t) (bY dirS (gN L k) t)).x), aI ((sdB (cX (gN L k)) (cY (gN L k)) (bX dirS (gN L k) t) (bY dirS (gN L k) t)).y)], kO 21 57 3 true [aI ((dOv (sdA (cX (gN L k)) (cY (gN L k)) (bX dirS (gN L k) t) (bY dirS (gN L k) t)) (sdB (cX (gN L k)) (cY (gN L k)) (bX dirS (gN L k) t) (bY dirS (gN L k) t))).x), aI ((dOv (sdA (cX (gN L k)) (cY (gN L k)) (bX dirS (gN L k) t) (bY dirS (gN L k) t)) (sdB (cX (gN L k)) (cY (gN L k)) (bX dirS (gN L k) t) (bY dirS (gN L k) t))).y), aB ((dOv (sdA (cX (gN L k)) (cY (gN L k)) (bX dirS (gN L k) t) (bY dirS (gN L k) t)) (sdB (cX (gN L k)) (cY (gN L k)) (bX dirS (gN L k) t) (bY dirS (gN L k) t))).d)], kO 38 3 1 true (pl (isl (hsL l ds M))), kO 84 3 1 true (pl (isl (nI M))), kO 108 3 1 true (pl (isl [1, 0, (-1), 0])), kO 114 3 1 true (pl (isl [0, 1, 0, (-1)])), kF 24, kF 29, kF 34, kF 37, kF 47, kF 48, kF 78, kF 87, kF 123, kF 142, kF 147, kF 152, kF 158, kF 165, kF 190, kF 191] ?_ ?_
        ·skip
         rcases Bool.eq_false_or_eq_true ((nbr (sdA (cX (gN L k)) (cY (gN L k)) (bX dirS (gN L k) t) (bY dirS (gN L k) t)) (sdB (cX (gN L k)) (cY (gN L k)) (bX dirS (gN L k) t) (bY dirS (gN L k) t)))) with c38 | c38
         ·skip
          rw [c38]
          refine rg (zm (zm ?_))
          refine zg ?_ (h := fun ν => step_on rfl rfl (mt ν))
          refine zg ?_ (h := fun ν => step_on rfl rfl (acts_load_owns (xs := [vI ((dOv (sdA (cX (gN L k)) (cY (gN L k)) (bX dirS (gN L k) t) (bY dirS (gN L k) t)) (sdB (cX (gN L k)) (cY (gN L k)) (bX dirS (gN L k) t) (bY dirS (gN L k) t))).x), vI ((dOv (sdA (cX (gN L k)) (cY (gN L k)) (bX dirS (gN L k) t) (bY dirS (gN L k) t)) (sdB (cX (gN L k)) (cY (gN L k)) (bX dirS (gN L k) t) (bY dirS (gN L k) t))).y), .bool ((dOv (sdA (cX (gN L k)) (cY (gN L k)) (bX dirS (gN L k) t) (bY dirS (gN L k) t)) (sdB (cX (gN L k)) (cY (gN L k)) (bX dirS (gN L k) t) (bY dirS (gN L k) t))).d)].map A.val) ν qC30_ti_57 rfl (by decide) rfl))
          refine zg ?_ (h := fun ν => step_on rfl rfl (acts_call1 ν (spec_l11Has_fn ds (dOv (sdA (cX (gN L k)) (cY (gN L k)) (bX dirS (gN L k) t) (bY dirS (gN L k) t)) (sdB (cX (gN L k)) (cY (gN L k)) (bX dirS (gN L k) t) (bY dirS (gN L k) t))) (by omega)) (ac (ArgV.slv _ _ _ _) (ac (ArgV.va va) an)) rv))
          refine zg ?_ (h := fun ν => step_on rfl rfl (acts_bin ν vt vc (r_geq rfl)))
          refine z ?_ (h := fun ν => acts_pick_t ν vt xt)
          refine nl ?_
          exact ⟨rfl, weak_reads ⟨(by simp only [c38]; first | done | kernel_rfl), (by repeat (first | exact trivial | refine ⟨by kernel_rfl, ?_⟩))⟩⟩
         ·skip
          rw [c38]
          refine rg (zm (zm (zo (zo (zo (zo ?_))))))
          refine z ?_ (h := fun ν => acts_pick_f ν vt xc)
          refine nl ?_
          exact ⟨rfl, weak_reads ⟨(by simp only [c38]; first | done | kernel_rfl), (by repeat (first | exact trivial | refine ⟨by kernel_rfl, ?_⟩))⟩⟩
        refine wi (b := ((nbr (sdA (cX (gN L k)) (cY (gN L k)) (bX dirS (gN L k) t) (bY dirS (gN L k) t)) (sdB (cX (gN L k)) (cY (gN L k)) (bX dirS (gN L k) t) (bY dirS (gN L k) t))) && (decide (0 ≤ (posM ds (dOv (sdA (cX (gN L k)) (cY (gN L k)) (bX dirS (gN L k) t) (bY dirS (gN L k) t)) (sdB (cX (gN L k)) (cY (gN L k)) (bX dirS (gN L k) t) (bY dirS (gN L k) t)))))))) (fun c39 => ?_) (fun c39 => ?_)
        ·skip
         obtain ⟨c40, c41⟩ := and_tt c39
         have c41P := of_decide_eq_true c41
         have hpm : decide (dOv (sdA (cX (gN L k)) (cY (gN L k)) (bX dirS (gN L k) t) (bY dirS (gN L k) t)) (sdB (cX (gN L k)) (cY (gN L k)) (bX dirS (gN L k) t) (bY dirS (gN L k) t)) ∈ ds) = true := (posM_nn _ _).symm.trans c41
         refine wp_exit' (rg (zm ?_))
         refine z ?_ (h := fun ν => acts_bin ν vt vc (rA (by omega) (by omega)))
         refine za (nl ?_)
         exact loop_back ((t + 1), M) (by exact ⟨by omega, hM.skip (.inr (.inr (hop.trans (side_f (.inr ⟨by assumption, hpm⟩)))))⟩) (by show 4 - (t + 1) < 4 - t; omega) (wkf id (wS <| wS <| wS <| wS <| wS <| wS <| wS <| wS <| wE (e := (vint (by rfl))) <| wX <| wP <| wP <| by (iterate 21 refine wF ?_); exact wN))
        ·skip
         have c42 := and_ff c39
         have hslw := hsL_len l ds (M ++ [(atU (gN L k) (dirS t))])
         have hgo := hM.go hti hsi huL hin hmem (hop.trans (side_t hor (posM_or c42)))
         refine sk (sq (rg (zm (zm (zm ?_)))))
         refine z ?_ (h := fun ν => acts_bin ν vt vt (rM (by omega) (by omega)))
         refine zm ?_
         refine z ?_ (h := fun ν => acts_bin ν vt vt (rA (by omega) (by omega)))
         refine zm (zm (zm ?_))
         refine z ?_ (h := fun ν => ix0 ν qC30_un_22 qC30_sz_3 vt (hlt := (by omega)))
         refine z ?_ (h := fun ν => lI ν qC30_ti_3 (by omega))
         refine z ?_ (h := fun ν => ix0 (k := (gI (nI M) k).toNat) ν qC30_un_22 qC30_sz_3 vt (Int.toNat_of_nonneg (by omega)).symm (by omega))
         refine z ?_ (h := fun ν => lI ν qC30_ti_3 (by omega))
         refine zm ?_
         refine z ?_ (h := fun ν => acts_bin ν vt vt (rA (by (rw [hownN]; omega)) (by (rw [hownN]; omega))))
         refine z ?_ (h := fun ν => ix0 (k := (((bY dirS (gN L k) t) * 9) + (bX dirS (gN L k) t)).toNat) ν qC30_un_22 qC30_sz_3 vt (Int.toNat_of_nonneg (by omega)).symm (by omega))
         refine z ?_ (h := fun _ => sI qC30_ti_3 xt (by omega))
         refine nl (rg (zm (zm (zm ?_))))
         refine z ?_ (h := fun ν => acts_bin ν vt vt (rM (by omega) (by omega)))
         refine zm ?_
         refine z ?_ (h := fun ν => acts_bin ν vt vt (rA (by omega) (by omega)))
         refine z ?_ (h := fun ν => acts_buildSlice' (h := 190) (xs := isl ([(((bY dirS (gN L k) t) * 9) + (bX dirS (gN L k) t))] : List Int)) ν qC30_un_22 qC30_zi_3 (.cons vt OpVs.nil) (by decide) (by decide) (by kernel_rfl) rfl)
         refine z ?_ (h := fun ν => aI_ (h2 := 191) (L3 := ((nI M) ++ [(((bY dirS (gN L k) t) * 9) + (bX dirS (gN L k) t))])) ν qC30_un_22 qC30_zi_3 (by exact rfl) rfl (by exact rfl) (by (simp; omega)))
         refine za (nl (rg (zm ?_)))
         refine z ?_ (h := fun ν => acts_bin ν vt vc (rA (by omega) (by omega)))
         refine za (nl ?_)
         exact loop_back ((t + 1), (M ++ [(atU (gN L k) (dirS t))])) (by exact ⟨by omega, hgo.1⟩) (by show 4 - (t + 1) < 4 - t; omega) (wkf (subst1 [(84, 191)]) (wS <| wS <| wS <| wE (e := (vsl (by rfl) rfl)) <| wE (e := (vsl (by (exact congrArg List.length (by first | rfl | omega | (rw [hst, hownN]; exact hgo.2) | (rw [← nI_app, ← hxw]; done) | (rw [← nI_app, ← hxw]; rfl) | (simp; done) | (simp [nI_len]; done) | (simp; omega)))) rfl)) <| wS <| wS <| wS <| wE (e := (vint (by rfl))) <| wX <| wO (e := renob_eq (fun h => h) (congrArg isl (by (rw [hst, hownN]; exact hgo.2)))) <| wO (e := renob_eq (fun h => h) (congrArg isl (by (rw [← nI_app, ← hxw]; done)))) <| by (iterate 21 refine wF ?_); exact wN))
     ·skip
      have c25P := of_decide_eq_false c25
      refine wp_exit' (rg (zm ?_))
      refine z ?_ (h := fun ν => acts_bin ν vt vc (rA (by omega) (by omega)))
      refine za (nl ?_)
      exact loop_back ((k + 1), M) (by exact hM.fin hH hk2 (by omega)) (by show 81 - (k + 1) < 81 - k; omega) (wkf id (wS <| wS <| wS <| wS <| wS <| wE (e := (vint (by rfl))) <| wX <| wP <| wP <| by (iterate 21 refine wF ?_); exact wN))
    ·skip
     have c23P := of_decide_eq_false c23
     refine wp_exit' (sq (rg (zm (za (nl (wp_ret' ?_))))))
     exact VRes.tmp _ _ _ (by exact rfl) (brow_ints (h := 38) (L := (hsL l ds L)) (by kernel_rfl) (by (rw [hts_yes (by rw [hsi, hti]; rfl)]; exact hts_fin (.inr rfl) hH (by omega))) (by rfl))
end Cl
end Go.Proofs.Ytonlghbbdcddoaa
