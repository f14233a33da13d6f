/- Walks over clean states, printed by wg.py. No statement is proved here. -/
import Derived.Test.YtonlghbbdcddoaaC28
import Derived.Test.YtonlghbbdcddoaaClB
namespace Go.Proofs.Ytonlghbbdcddoaa
namespace Cl
open Go.ChangeShapes Go.WideShapes Go.ChangeAt Go.RowKit
set_option maxRecDepth 20000

theorem dirI_C {t : Nat} (h : t < 4) : gC [(⟨1, 0⟩ : Cel), ⟨-1, 0⟩, ⟨0, 1⟩, ⟨0, -1⟩] t = ⟨(dirI t).1, (dirI t).2⟩ := by
  have : t = 0 ∨ t = 1 ∨ t = 2 ∨ t = 3 := by omega
  rcases this with rfl | rfl | rfl | rfl <;> rfl
theorem w_small {z : Int} (h : -1000 ≤ z ∧ z ≤ 1000) : IntKind.i64.wrap z = z := w64 (by omega) (by omega)
theorem add_bX {u t : Nat} (hu : u < 81) (ht : t < 4) : IntKind.i64.wrap (cX u + (gC [(⟨1, 0⟩ : Cel), (⟨(-1), 0⟩ : Cel), (⟨0, 1⟩ : Cel), (⟨0, (-1)⟩ : Cel)] t).x) = bX dirI u t := by
  rw [dirI_C ht]; exact w_small (z := bX dirI u t) (by have := (bXY_bd dirI_is hu t).1; omega)
theorem add_bY {u t : Nat} (hu : u < 81) (ht : t < 4) : IntKind.i64.wrap (cY u + (gC [(⟨1, 0⟩ : Cel), (⟨(-1), 0⟩ : Cel), (⟨0, 1⟩ : Cel), (⟨0, (-1)⟩ : Cel)] t).y) = bY dirI u t := by
  rw [dirI_C ht]; exact w_small (z := bY dirI u t) (by have := (bXY_bd dirI_is hu t).2; omega)
theorem qapp {Q : List Int} {M : List Nat} {o k w : Nat} {z : Int} (h : Q.drop o = (nI M).drop (k + 1)) (hk : k + 1 ≤ M.length) (hz : z = ((w : Nat) : Int)) : (Q.drop o ++ [z]).drop 0 = (nI (M ++ [w])).drop (k + 1) := by
  subst hz; rw [← nI_app]; exact drop_app h (by rw [nI_len]; exact hk) _
theorem side_f {s : Nat} {ds : List Dom} {p q : Cel} (h : (hasS s p = false ∧ hasS s q = false) ∨ (nbr p q = true ∧ decide (dOv p q ∈ ds) = true)) : sideB s ds p q = false := by
  unfold sideB
  rcases h with ⟨h1, h2⟩ | ⟨h1, h2⟩
  · rw [h1, h2]; rfl
  · rw [h1, h2]; simp
theorem side_t {s : Nat} {ds : List Dom} {p q : Cel} (h : hasS s p = true ∨ hasS s q = true) (h2 : nbr p q = false ∨ decide (dOv p q ∈ ds) = false) : sideB s ds p q = true := by
  unfold sideB
  rcases h with h | h <;> rcases h2 with h2 | h2 <;> rw [h, h2] <;> simp
theorem side_or {s : Nat} {p q : Cel} (h : (!(hasS s p)) = false ∨ (!(hasS s q)) = false) : hasS s p = true ∨ hasS s q = true := by simpa using h
theorem skip_or {dir : Nat → Int × Int} (hd : ∀ t, isDir (dir t)) {l : List Int} {ds : List Dom} {L M : List Nat} {u t : Nat} (hM : HIn dir l ds L u t M) (hu : u < 81) (h : decide (estep (cX u) (cY u) (bX dir u t) (bY dir u t) = 0) = true ∨ decide (gI (hsL l ds M) (bY dir u t * 9 + bX dir u t).toNat ≠ -1000) = true) : HIn dir l ds L u (t + 1) M := by
  by_cases he : estep (cX u) (cY u) (bX dir u t) (bY dir u t) = 0
  · exact hM.skip (.inl (st_no hd hu he))
  · have hin := (st_yes hd hu he).1
    rcases h with h | h
    · exact absurd (of_decide_eq_true h) he
    · exact hM.skip (.inr (.inl (Classical.not_not.1 fun hn => of_decide_eq_true h ((hM.val (atU_lt hin).1).2 hn))))
theorem HInv.at {dir : Nat → Int × Int} {l : List Int} {ds : List Dom} {L : List Nat} {k : Nat} (h : HInv dir l ds L k) (hk : k < L.length) : gN L k ∈ L ∧ gN L k < 81 := by
  rw [gN_eq hk]; exact ⟨List.getElem_mem hk, h.lt _ (List.getElem_mem hk)⟩
theorem HIn.fin {dir : Nat → Int × Int} {l : List Int} {ds : List Dom} {L M : List Nat} {k t : Nat} (h : HInv dir l ds L k) (hk : k < L.length) (hM : HIn dir l ds L (gN L k) t M) (ht : t = 4) : HInv dir l ds M (k + 1) := by
  subst ht; rw [gN_eq hk] at hM; exact HIn.out h hk hM
theorem hts_fin {l : List Int} {ds : List Dom} {L : List Nat} {k : Nat} {dir : Nat → Int × Int} (hd : dir = dirI ∨ dir = dirS) (h : HInv dir l ds L k) (hk : ¬ k < (nI L).length) : hsL l ds L = htsF l ds := hts_end hd h (by rw [nI_len] at hk; exact hk)

theorem qC29_bs_46 : ∀ (a b : Int), Try.prog.built 46 [(0, .int .i64 a), (1, .int .i64 b)] = some ([.int .i64 a, .int .i64 b] : List Value).toArray := fun _ _ => rfl
theorem qC29_fo_46_0 : fieldOff Try.prog 46 0 = some 0 := by kernel_rfl
theorem qC29_fo_46_1 : fieldOff Try.prog 46 1 = some 1 := by kernel_rfl
theorem qC29_sz_3 : (Try.prog.info? 3).map (·.size) = some 1 := by kernel_rfl
theorem qC29_sz_46 : (Try.prog.info? 46).map (·.size) = some 2 := by kernel_rfl
theorem qC29_ti_29 : TI Try.prog 29 true 1 := ⟨⟨_, Try.underlying29, rfl⟩, by kernel_rfl⟩
theorem qC29_ti_3 : TI Try.prog 3 false 1 := ⟨⟨_, Try.underlying3, rfl⟩, by kernel_rfl⟩
theorem qC29_ti_46 : TI Try.prog 46 true 2 := ⟨⟨_, Try.underlying46, rfl⟩, by kernel_rfl⟩
theorem qC29_ti_57 : TI Try.prog 57 true 3 := ⟨⟨_, Try.underlying57, rfl⟩, by kernel_rfl⟩
theorem qC29_un_22 : Try.prog.underlying 22 = some (.slice 3) := Try.underlying22
theorem qC29_un_42 : Try.prog.underlying 42 = some (.slice 46) := Try.underlying42
theorem qC29_zi_3 : ZI Try.prog 3 (.int .i64 0) 1 8 := by unfold ZI; kernel_rfl
theorem qC29_zi_46 : ZI Try.prog 46 (.agg #[.int .i64 0, .int .i64 0]) 2 16 := by unfold ZI; kernel_rfl
theorem qC29_zi_57 : ZI Try.prog 57 (.agg #[.int .i64 0, .int .i64 0, .bool false]) 3 24 := by unfold ZI; kernel_rfl
set_option maxHeartbeats 4000000 in
set_option maxRecDepth 100000 in
theorem HeightsOf_yes (l : List Int) (ds : List Dom) (hl : l.length ≤ 4194304) (hd : ds.length ≤ 2097152) (hg : (simB l && isTil l ds) = true) : Fn Try.prog 19 [.agg [(.slv l.length 1 (isl l) : A)], .a (.slv ds.length 3 (dsl ds))] [.row 3 1 (htsF l ds).length (isl (htsF l ds))] := by
 have hg2 := hg
 rw [Bool.and_eq_true] at hg2
 obtain ⟨hsi, hti⟩ := hg2
 have hro := (simB_ok hsi).1
 have hne := sim_ne hsi
 have hsl := regSet_lt hro
 obtain ⟨hf64, hfb⟩ := firstI_lt hsl hne
 have hstu := stU_lt hsl hne
 have hix := idx_cN hf64
 have hsl0 := hsL_len l ds [stU (regSet l)]
 refine fn_intro (N := 152) Try.func19 rfl (by kernel_rfl) rfl (Nat.le_of_ble_eq_true rfl) [2, 14, 18, 19, 20, 23, 28, 32, 33, 37, 38, 41, 42, 53, 55, 70, 71, 88, 106, 111, 116, 122, 129, 148, 149] (ret1 rfl) (fun W => ?_)
 show Wp _ _ _ [kV 0 (V.b (.agg [(.slv l.length 1 (isl l) : A)])), kV 1 (V.b (.a (.slv ds.length 3 (dsl ds)))), kF 2, kF 14, kF 18, kF 19, kF 20, kF 23, kF 28, kF 32, kF 33, kF 37, kF 38, kF 41, kF 42, kF 53, kF 55, kF 70, kF 71, kF 88, kF 106, kF 111, kF 116, kF 122, kF 129, kF 148, kF 149]
 refine sq (rg ?_)
 refine z ?_ (h := fun ν => acts_box (h := 2) ν xt (by exact ob1 rfl))
 refine zk (nl (sq (sq (rg ?_))))
 refine z ?_ (h := fun ν => acts_load_owns (xs := [(.slv l.length 1 (isl l) : A)]) ν qC29_ti_29 rfl (by decide) rfl)
 refine z ?_ (h := fun ν => acts_call1 ν (impl_IsSimple_fn l (by omega)) (ac (ArgV.regv _ _ 1 _) an) (resval (congrArg Value.bool hsi)))
 refine z ?_ (h := fun ν => acts_un ν vt (r_not (c := false) rfl))
 refine zm ?_
 refine zg ?_ (h := fun ν => step_on rfl rfl (acts_load_owns (xs := [(.slv l.length 1 (isl l) : A)]) ν qC29_ti_29 rfl (by decide) rfl))
 refine zg ?_ (h := fun ν => step_on rfl rfl (mt ν))
 refine zg ?_ (h := fun ν => step_on rfl rfl (acts_call1 ν (impl_IsTiling_fn l ds (by omega) (by omega)) (ac (ArgV.regv _ _ 1 _) (ac (ArgV.slv _ _ _ _) an)) (resval (congrArg Value.bool hti))))
 refine zg ?_ (h := fun ν => step_on rfl rfl (acts_un ν vt (r_not (c := false) rfl)))
 refine z ?_ (h := fun ν => acts_pick_f ν vt xt)
 refine nl (wf (sk (sq (rg ?_))))
 refine z ?_ (h := fun ν => acts_load_owns (xs := [(.slv l.length 1 (isl l) : A)]) ν qC29_ti_29 rfl (by decide) rfl)
 refine z ?_ (h := fun ν => acts_call1 ν (impl_Region__set_fn l (by omega)) (ac (ArgV.regv _ _ 1 _) an) rv)
 refine z ?_ (h := fun ν => b0I (h := 33) ν qC29_un_22 qC29_zi_3)
 refine za (za (nl (sq (sq (rg ?_)))))
 refine z ?_ (h := fun ν => mc ν)
 refine nl (bkk ?_)
 refine wp_loop' (fun (i : Nat) => i ≤ 81) (fun (i : Nat) => [kV 1 (V.b (.a (.slv ds.length 3 (dsl ds)))), kU 5 (((regSet l) : Nat) : Int), kS 6 33 0 ((List.replicate i (-1000)).length), kI 34 ((i : Nat) : Int), kO 33 3 1 true (pl (isl (List.replicate i (-1000)))), kF 2, kF 14, kF 18, kF 19, kF 20, kF 23, kF 28, kF 32, kF 37, kF 38, kF 41, kF 42, kF 53, kF 55, kF 70, kF 71, kF 88, kF 106, kF 111, kF 116, kF 122, kF 129, kF 148, kF 149]) (fun (i : Nat) => 81 - i) ((0 : Nat)) (by exact (Nat.zero_le _ : 0 ≤ _)) (wkf id (wS <| wS <| wE (e := (vsl (by rfl) rfl)) <| wE (e := (vint (by rfl))) <| wO (e := renob_eq (fun h => h) (congrArg isl (by rfl))) <| by (iterate 24 refine wF ?_); exact wN)) ?_
 rintro i inv1
 replace inv1 : i ≤ 81 := inv1
 have inv1 := inv1
 have hrl : (List.replicate i (-1000 : Int)).length = i := List.length_replicate
 refine sq (rg ?_)
 refine z ?_ (h := fun ν => acts_bin ν vt vc (r_lss rfl))
 refine nl (sq ?_)
 refine wi (fun c2 => ?_) (fun c2 => ?_)
 ·skip
  have c2P := of_decide_eq_true c2
  refine sk (sq (bkk (rg (zm ?_))))
  refine z ?_ (h := fun ν => acts_buildSlice' (h := 37) (xs := isl ([(-1000)] : List Int)) ν qC29_un_22 qC29_zi_3 (.cons vc OpVs.nil) (by decide) (by decide) (by kernel_rfl) rfl)
  refine z ?_ (h := fun ν => aI_ (h2 := 38) (L3 := ((List.replicate i (-1000)) ++ [(-1000)])) ν qC29_un_22 qC29_zi_3 (by exact rfl) rfl (by exact rfl) (by (simp; omega)))
  refine za (nl (rg ?_))
  refine z ?_ (h := fun ν => acts_bin ν vt vc (rA (by omega) (by omega)))
  refine zm (nl ?_)
  exact loop_back ((i + 1)) (by show _ ≤ _; omega) (by show 81 - (i + 1) < 81 - i; omega) (wkf (subst1 [(33, 38)]) (wS <| wS <| wE (e := (vsl (by (simp; done)) rfl)) <| wE (e := (vint (by rfl))) <| wO (e := renob_eq (fun h => h) (congrArg isl (by exact (rep_snoc _ _).symm))) <| by (iterate 24 refine wF ?_); exact wN))
 ·skip
  have c2P := of_decide_eq_false c2
  refine wp_exit' (sq (rg (zm ?_)))
  refine z ?_ (h := fun ν => acts_call1 ν (impl_set__firstCell_fn (regSet l) (by omega) (by omega)) (ac (ArgV.v vt) an) (ResV.agg [vI ((cN (firstI (regSet l))).x), vI ((cN (firstI (regSet l))).y)]))
  refine z ?_ (h := fun ν => acts_call1 ν (impl_CellIndex_fn (cN (firstI (regSet l))) (by exact cN_ok hf64)) (ac (ArgV.va va) an) rv)
  refine za (nl (sq (rg (zm ?_))))
  refine z ?_ (h := fun ν => acts_bin ν vt vc (r_quo (c := ((((idx (cN (firstI (regSet l)))) / 8) : Nat) : Int)) (by decide) (quoN (a := (((idx (cN (firstI (regSet l)))) : Nat) : Int)) (b := (idx (cN (firstI (regSet l))))) (c := 8) rfl (by decide) (by omega))))
  refine z ?_ (h := fun ν => acts_bin ν vt vc (rM (by omega) (by omega)))
  refine zm ?_
  refine z ?_ (h := fun ν => acts_bin ν vt vc (r_rem (c := ((((idx (cN (firstI (regSet l)))) % 8) : Nat) : Int)) (by decide) (remN (a := (((idx (cN (firstI (regSet l)))) : Nat) : Int)) (b := (idx (cN (firstI (regSet l))))) (c := 8) rfl)))
  refine z ?_ (h := fun ν => acts_bin ν vt vt (rA (by omega) (by omega)))
  refine za (nl (sq (rg (zm (zm ?_)))))
  refine z ?_ (h := fun ν => ix0 (k := ((((idx (cN (firstI (regSet l)))) / 8) * 9) + ((idx (cN (firstI (regSet l)))) % 8))) ν qC29_un_22 qC29_sz_3 vt (by rfl) (by omega))
  refine z ?_ (h := fun _ => sI qC29_ti_3 xc (by omega))
  refine nl (sq (sq (rg (zm ?_))))
  refine z ?_ (h := fun ν => acts_buildSlice' (h := 53) (xs := isl ([((((((idx (cN (firstI (regSet l)))) / 8) : Nat) : Int) * 9) + ((((idx (cN (firstI (regSet l)))) % 8) : Nat) : Int))] : List Int)) ν qC29_un_22 qC29_zi_3 (.cons vt OpVs.nil) (by decide) (by decide) (by kernel_rfl) rfl)
  refine za (nl (bkk ?_))
  refine wp_loop' (fun ((k, off, L, Lw) : Nat × Nat × (List Nat) × (List Int)) => off ≤ Lw.length ∧ Lw.drop off = (nI L).drop k ∧ HInv dirI l ds L k) (fun ((k, off, L, Lw) : Nat × Nat × (List Nat) × (List Int)) => [kV 1 (V.b (.a (.slv ds.length 3 (dsl ds)))), kU 5 (((regSet l) : Nat) : Int), kS 6 33 0 ((hsL l ds L).length), kS 9 53 off (Lw.length - off), kO 33 3 1 true (pl (isl (hsL l ds L))), kO 53 3 1 false (pl (isl Lw)), kF 2, kF 14, kF 18, kF 19, kF 20, kF 23, kF 28, kF 32, kF 37, kF 38, kF 41, kF 42, kF 55, kF 70, kF 71, kF 88, kF 106, kF 111, kF 116, kF 122, kF 129, kF 148, kF 149]) (fun ((k, off, L, Lw) : Nat × Nat × (List Nat) × (List Int)) => 81 - k) ((0 : Nat), (0 : Nat), ([stU (regSet l)] : List Nat), ([((stU (regSet l) : Nat) : Int)] : List Int)) (by exact ⟨Nat.zero_le _, rfl, HInv.init dirI l ds hstu⟩) (wkf id (wS <| wS <| wE (e := (vsl (by (simp; omega)) rfl)) <| wE (e := (vsl (by rfl) rfl)) <| wO (e := renob_eq (fun h => h) (congrArg isl (by ((have e : i = 81 := by omega); subst e; rw [hix]; first | exact hsL_init l ds hstu | exact (hsL_init l ds hstu).symm)))) <| wO (e := renob_eq (fun h => by cases h) (congrArg isl (by (rw [hix]; rfl)))) <| by (iterate 23 refine wF ?_); exact wN)) ?_
  rintro ⟨k, off, L, Lw⟩ inv3
  replace inv3 : off ≤ Lw.length ∧ Lw.drop off = (nI L).drop k ∧ HInv dirI l ds L k := inv3
  obtain ⟨inv3_0, inv3_1, inv3_2⟩ := inv3
  have hH : HInv dirI l ds L k := by assumption
  have hHl := hH.len
  refine sq (sq (rg (zm ?_)))
  refine z ?_ (h := fun ν => lnS ν qC29_un_22)
  refine z ?_ (h := fun ν => acts_bin ν vt vc (r_gtr rfl))
  refine nl ?_
  refine wi (fun c4 => ?_) (fun c4 => ?_)
  ·skip
   have c4P := of_decide_eq_true c4
   have hdg := drop_getI (L := Lw) (M := nI L) (i := off) (j := k) (by assumption) (by omega)
   obtain ⟨hk1, hown1⟩ := hdg
   have hnl := nI_len L
   have hk2 : k < L.length := by omega
   have hown : gI Lw off = ((gN L k : Nat) : Int) := hown1.trans (gI_nI hk2)
   have hownN : (gI Lw off).toNat = gN L k := by rw [hown]; rfl
   obtain ⟨huL, hu81⟩ := hH.at hk2
   obtain ⟨hcx, hcy⟩ := cXY hu81
   refine sk (bkk (sq (rg (zm ?_))))
   refine z ?_ (h := fun ν => ixz ν qC29_un_22 qC29_sz_3 vc (by omega))
   refine z ?_ (h := fun ν => lI ν qC29_ti_3 (by omega))
   refine za (nl (sq (rg (zm ?_))))
   refine z ?_ (h := fun ν => slS (m := ((Lw.length - off) - 1)) (off' := (off + 1)) ν qC29_un_22 qC29_sz_3 (OpB.so _ 1 vc rfl) (OpB.no _) (by omega) (by omega) (by exact rfl) (by omega))
   refine za (nl (sq (rg (zm ?_))))
   refine z ?_ (h := fun ν => acts_bin ν vt vc (r_rem (c := (cX (gN L k))) (by omega) (remN hown)))
   refine zm ?_
   refine z ?_ (h := fun ν => acts_bin ν vt vc (r_quo (c := (cY (gN L k))) (by omega) (quoN hown (by decide) (by omega))))
   refine za (za (nl (sq (rg ?_))))
   refine z ?_ (h := fun ν => bC ν qC29_bs_46 vc vc)
   refine z ?_ (h := fun ν => bC ν qC29_bs_46 vc vc)
   refine z ?_ (h := fun ν => bC ν qC29_bs_46 vc vc)
   refine z ?_ (h := fun ν => bC ν qC29_bs_46 vc vc)
   refine z ?_ (h := fun ν => acts_buildSlice' (h := 70) (xs := csl ([(⟨1, 0⟩ : Cel), (⟨(-1), 0⟩ : Cel), (⟨0, 1⟩ : Cel), (⟨0, (-1)⟩ : Cel)] : List Cel)) ν qC29_un_42 qC29_zi_46 (.cons va (.cons va (.cons va (.cons va OpVs.nil)))) (by decide) (by decide) (by kernel_rfl) rfl)
   refine z ?_ (h := fun ν => lnS (iv := 4) ν qC29_un_42)
   refine z ?_ (h := fun ν => mc ν)
   refine nl (bkk ?_)
   refine wp_loop' (fun ((t, off2, M, Lw2) : Nat × Nat × (List Nat) × (List Int)) => off2 ≤ Lw2.length ∧ Lw2.drop off2 = (nI M).drop (k + 1) ∧ t ≤ 4 ∧ HIn dirI l ds L (gN L k) t M) (fun ((t, off2, M, Lw2) : Nat × Nat × (List Nat) × (List Int)) => [kV 1 (V.b (.a (.slv ds.length 3 (dsl ds)))), kU 5 (((regSet l) : Nat) : Int), kS 6 33 0 ((hsL l ds M).length), kS 9 53 off2 (Lw2.length - off2), kI 10 (gI Lw off), kI 11 (cX (gN L k)), kI 12 (cY (gN L k)), kS 70 70 0 4, kI 71 4, kI 72 ((t : Nat) : Int), kO 33 3 1 true (pl (isl (hsL l ds M))), kO 53 3 1 false (pl (isl Lw2)), kO 70 46 2 true (pl (csl [(⟨1, 0⟩ : Cel), (⟨(-1), 0⟩ : Cel), (⟨0, 1⟩ : Cel), (⟨0, (-1)⟩ : Cel)])), kF 2, kF 14, kF 18, kF 19, kF 20, kF 23, kF 28, kF 32, kF 37, kF 38, kF 41, kF 42, kF 55, kF 71, kF 88, kF 106, kF 111, kF 116, kF 122, kF 129, kF 148, kF 149]) (fun ((t, off2, M, Lw2) : Nat × Nat × (List Nat) × (List Int)) => 4 - t) ((0 : Nat), ((off + 1) : Nat), (L : List Nat), (Lw : List Int)) (by exact ⟨by omega, drop_more (by assumption), by omega, hH.into _⟩) (wkf id (wS <| wS <| wS <| wE (e := (vsl (by rfl) rfl)) <| wS <| wS <| wS <| wS <| wS <| wE (e := (vint (by rfl))) <| wP <| wP <| wP <| by (iterate 22 refine wF ?_); exact wN)) ?_
   rintro ⟨t, off2, M, Lw2⟩ inv5
   replace inv5 : off2 ≤ Lw2.length ∧ Lw2.drop off2 = (nI M).drop (k + 1) ∧ t ≤ 4 ∧ HIn dirI l ds L (gN L k) t M := inv5
   obtain ⟨inv5_0, inv5_1, inv5_2, inv5_3⟩ := inv5
   have hM : HIn dirI l ds L (gN L k) t M := by assumption
   have hMl := hM.len
   have hMe := hM.le
   have hdr3 : Lw2.drop off2 = (nI M).drop (k + 1) := by assumption
   have hdl3 := congrArg List.length hdr3
   have hnl2 := nI_len M
   simp only [List.length_drop] at hdl3
   have hbu := hM.bd2 hu81
   obtain ⟨hbx0, hby0⟩ := bXY_bd dirI_is hu81 t
   have hsll := hsL_len l ds M
   refine sq (rg ?_)
   refine z ?_ (h := fun ν => acts_bin ν vt vt (r_lss rfl))
   refine nl (sq ?_)
   refine wi (fun c6 => ?_) (fun c6 => ?_)
   ·skip
    have c6P := of_decide_eq_true c6
    refine sk (sq (bkk (sq (rg ?_))))
    refine z ?_ (h := fun ν => ix0 ν qC29_un_42 qC29_sz_46 vt (hlt := (by omega)))
    refine z ?_ (h := fun ν => lC ν qC29_ti_46 (by (simp only [List.length_cons, List.length_nil]; omega)))
    refine z ?_ (h := fun ν => acts_alloc' (h := 14) (cap := 1) (s := 2) (cells := [aI 0, aI 0]) ν qC29_zi_46 rfl rfl (by decide))
    refine z ?_ (h := fun _ => acts_store (cells := [aI ((gC [(⟨1, 0⟩ : Cel), (⟨(-1), 0⟩ : Cel), (⟨0, 1⟩ : Cel), (⟨0, (-1)⟩ : Cel)] t).x), aI ((gC [(⟨1, 0⟩ : Cel), (⟨(-1), 0⟩ : Cel), (⟨0, 1⟩ : Cel), (⟨0, (-1)⟩ : Cel)] t).y)]) qC29_ti_46 xt (by exact rfl) (by decide) (by exact ob1 rfl) (by exact Nat.le_of_ble_eq_true rfl) (by exact rfl))
    refine nl (sq (wp_dr (zdm ?_)))
    refine zd ?_ (h := fun ν => acts_field (off' := 0) ν qC29_fo_46_0 rfl)
    refine zd ?_ (h := fun ν => acts_load_own (x := .val (.int .i64 ((gC [(⟨1, 0⟩ : Cel), (⟨(-1), 0⟩ : Cel), (⟨0, 1⟩ : Cel), (⟨0, (-1)⟩ : Cel)] t).x))) ν qC29_ti_3 (by exact rfl))
    refine zd ?_ (h := fun ν => acts_bin ν vt vt (r_add (c := (bX dirI (gN L k) t)) (add_bX hu81 (by omega))))
    refine zdm ?_
    refine zd ?_ (h := fun ν => acts_field (off' := 1) ν qC29_fo_46_1 rfl)
    refine zd ?_ (h := fun ν => acts_load_own (x := .val (.int .i64 ((gC [(⟨1, 0⟩ : Cel), (⟨(-1), 0⟩ : Cel), (⟨0, 1⟩ : Cel), (⟨0, (-1)⟩ : Cel)] t).y))) ν qC29_ti_3 (by exact rfl))
    refine zd ?_ (h := fun ν => acts_bin ν vt vt (r_add (c := (bY dirI (gN L k) t)) (add_bY hu81 (by omega))))
    refine zd ?_ (h := fun ν => gt ν)
    refine zd ?_ (h := fun ν => gt ν)
    refine dw_nil (sq (rg (zm (zm (zm (zm ?_))))))
    refine z ?_ (h := fun ν => acts_call1 ν (impl_EdgeStep_fn (cX (gN L k)) (cY (gN L k)) (bX dirI (gN L k) t) (bY dirI (gN L k) t) ) (ac (ArgV.v vt) (ac (ArgV.v vt) (ac (ArgV.v vt) (ac (ArgV.v vt) an)))) rv)
    refine za (nl (sq (sq ?_)))
    refine wp_join [kB 100 ((decide ((estep (cX (gN L k)) (cY (gN L k)) (bX dirI (gN L k) t) (bY dirI (gN L k) t)) = 0)) || (decide ((gI (hsL l ds M) ((((bY dirI (gN L k) t) * 9) + (bX dirI (gN L k) t)).toNat)) ≠ (-1000)))), kV 1 (V.b (.a (.slv ds.length 3 (dsl ds)))), kU 5 (((regSet l) : Nat) : Int), kS 6 33 0 ((hsL l ds M).length), kS 9 53 off2 (Lw2.length - off2), kI 10 (gI Lw off), kI 11 (cX (gN L k)), kI 12 (cY (gN L k)), kI 15 (bX dirI (gN L k) t), kI 16 (bY dirI (gN L k) t), kI 17 (estep (cX (gN L k)) (cY (gN L k)) (bX dirI (gN L k) t) (bY dirI (gN L k) t)), kS 70 70 0 4, kI 71 4, kI 72 ((t : Nat) : Int), kO 14 46 2 true [aI ((gC [(⟨1, 0⟩ : Cel), (⟨(-1), 0⟩ : Cel), (⟨0, 1⟩ : Cel), (⟨0, (-1)⟩ : Cel)] t).x), aI ((gC [(⟨1, 0⟩ : Cel), (⟨(-1), 0⟩ : Cel), (⟨0, 1⟩ : Cel), (⟨0, (-1)⟩ : Cel)] t).y)], kO 33 3 1 true (pl (isl (hsL l ds M))), kO 53 3 1 false (pl (isl Lw2)), kO 70 46 2 true (pl (csl [(⟨1, 0⟩ : Cel), (⟨(-1), 0⟩ : Cel), (⟨0, 1⟩ : Cel), (⟨0, (-1)⟩ : Cel)])), kF 2, kF 18, kF 19, kF 20, kF 23, kF 28, kF 32, kF 37, kF 38, kF 41, kF 42, kF 55, kF 71, kF 88, kF 106, kF 111, kF 116, kF 122, kF 129, kF 148, kF 149] ?_ ?_
    ·skip
     rcases Bool.eq_false_or_eq_true (decide ((estep (cX (gN L k)) (cY (gN L k)) (bX dirI (gN L k) t) (bY dirI (gN L k) t)) = 0)) with c7 | c7
     ·skip
      have c7P := of_decide_eq_true c7
      have hno := st_no dirI_is hu81 (of_decide_eq_true c7)
      refine rg (zm ?_)
      refine z ?_ (h := fun ν => acts_bin ν vt vc (r_eql (c := true) c7))
      refine zm (zo (zo (zo (zo (zo (zo (zo (zo ?_))))))))
      refine z ?_ (h := fun ν => acts_pick_t ν vt xc)
      refine nl ?_
      exact ⟨rfl, weak_reads ⟨(by simp only [c7]; first | done | kernel_rfl), (by repeat (first | exact trivial | refine ⟨by kernel_rfl, ?_⟩))⟩⟩
     ·skip
      have c7P := of_decide_eq_false c7
      obtain ⟨hin, hst⟩ := st_yes dirI_is hu81 (of_decide_eq_false c7)
      obtain ⟨hbx, hby⟩ := in_b hin
      have hw81 := (atU_lt hin).1
      have hst1 := stE_one (gN L k) (atU (gN L k) (dirI t))
      have hxw : ((bY dirI (gN L k) t) * 9 + (bX dirI (gN L k) t)) = (((atU (gN L k) (dirI t)) : Nat) : Int) := (Int.toNat_of_nonneg (by omega)).symm
      have hop := op_lf (s := regSet l) (til_okd hti) hu81 (dirI_is t) hin
      refine rg (zm ?_)
      refine z ?_ (h := fun ν => acts_bin ν vt vc (r_eql (c := false) c7))
      refine zm ?_
      refine zg ?_ (h := fun ν => step_on rfl rfl (mt ν))
      refine zg ?_ (h := fun ν => step_on rfl rfl (mt ν))
      refine zg ?_ (h := fun ν => step_on rfl rfl (acts_bin ν vt vc (rM (by omega) (by omega))))
      refine zg ?_ (h := fun ν => step_on rfl rfl (mt ν))
      refine zg ?_ (h := fun ν => step_on rfl rfl (acts_bin ν vt vt (rA (by omega) (by omega))))
      refine zg ?_ (h := fun ν => step_on rfl rfl (ix0 (k := (((bY dirI (gN L k) t) * 9) + (bX dirI (gN L k) t)).toNat) ν qC29_un_22 qC29_sz_3 vt (Int.toNat_of_nonneg (by omega)).symm (by omega)))
      refine zg ?_ (h := fun ν => step_on rfl rfl (lI ν qC29_ti_3 (by omega)))
      refine zg ?_ (h := fun ν => step_on rfl rfl (acts_bin ν vt vc (r_neq rfl)))
      refine z ?_ (h := fun ν => acts_pick_f ν vt xt)
      refine nl ?_
      exact ⟨rfl, weak_reads ⟨(by simp only [c7]; first | done | kernel_rfl), (by repeat (first | exact trivial | refine ⟨by kernel_rfl, ?_⟩))⟩⟩
    refine wi (b := ((decide ((estep (cX (gN L k)) (cY (gN L k)) (bX dirI (gN L k) t) (bY dirI (gN L k) t)) = 0)) || (decide ((gI (hsL l ds M) ((((bY dirI (gN L k) t) * 9) + (bX dirI (gN L k) t)).toNat)) ≠ (-1000))))) (fun c8 => ?_) (fun c8 => ?_)
    ·skip
     have c9 := or_tt c8
     have hsk := skip_or dirI_is hM hu81 c9
     refine wp_exit' (rg ?_)
     refine z ?_ (h := fun ν => acts_bin ν vt vc (rA (by omega) (by omega)))
     refine zm (nl ?_)
     exact loop_back ((t + 1), off2, M, Lw2) (by exact ⟨by assumption, by assumption, by omega, hsk⟩) (by show 4 - (t + 1) < 4 - t; omega) (wkf id (wS <| wS <| wS <| wS <| wS <| wS <| wS <| wS <| wS <| wE (e := (vint (by rfl))) <| wP <| wP <| wP <| by (iterate 22 refine wF ?_); exact wN))
    ·skip
     obtain ⟨c10, c11⟩ := or_ff c8
     have c10P := of_decide_eq_false c10
     obtain ⟨hin, hst⟩ := st_yes dirI_is hu81 (of_decide_eq_false c10)
     obtain ⟨hbx, hby⟩ := in_b hin
     have hw81 := (atU_lt hin).1
     have hst1 := stE_one (gN L k) (atU (gN L k) (dirI t))
     have hxw : ((bY dirI (gN L k) t) * 9 + (bX dirI (gN L k) t)) = (((atU (gN L k) (dirI t)) : Nat) : Int) := (Int.toNat_of_nonneg (by omega)).symm
     have hop := op_lf (s := regSet l) (til_okd hti) hu81 (dirI_is t) hin
     have c11P := of_decide_eq_false c11
     have hmem : (atU (gN L k) (dirI t)) ∉ M := (hM.val hw81).1 (Decidable.not_not.1 (of_decide_eq_false c11))
     refine sk (sq (rg (zm (zm (zm (zm ?_))))))
     refine z ?_ (h := fun ν => acts_call2 ν (impl_besides_fn (cX (gN L k)) (cY (gN L k)) (bX dirI (gN L k) t) (bY dirI (gN L k) t) (by omega) (by omega) (by omega) (by omega) (by omega) (by omega) (by omega) (by omega)) (ac (ArgV.v vt) (ac (ArgV.v vt) (ac (ArgV.v vt) (ac (ArgV.v vt) an)))) (ResV.agg [vI ((lfC (cX (gN L k)) (cY (gN L k)) (bX dirI (gN L k) t) (bY dirI (gN L k) t)).x), vI ((lfC (cX (gN L k)) (cY (gN L k)) (bX dirI (gN L k) t) (bY dirI (gN L k) t)).y)]) (ResV.agg [vI ((lfC (bX dirI (gN L k) t) (bY dirI (gN L k) t) (cX (gN L k)) (cY (gN L k))).x), vI ((lfC (bX dirI (gN L k) t) (bY dirI (gN L k) t) (cX (gN L k)) (cY (gN L k))).y)]))
     refine zm ?_
     refine z ?_ (h := fun ν => acts_extract ν (by exact rfl))
     refine z ?_ (h := fun ν => acts_extract ν (by exact rfl))
     refine z ?_ (h := fun ν => acts_alloc' (h := 18) (cap := 1) (s := 2) (cells := [aI 0, aI 0]) ν qC29_zi_46 rfl rfl (by decide))
     refine z ?_ (h := fun ν => acts_alloc' (h := 19) (cap := 1) (s := 2) (cells := [aI 0, aI 0]) ν qC29_zi_46 rfl rfl (by decide))
     refine z ?_ (h := fun _ => acts_store (cells := [aI ((lfC (cX (gN L k)) (cY (gN L k)) (bX dirI (gN L k) t) (bY dirI (gN L k) t)).x), aI ((lfC (cX (gN L k)) (cY (gN L k)) (bX dirI (gN L k) t) (bY dirI (gN L k) t)).y)]) qC29_ti_46 xt (by exact rfl) (by decide) (by exact ob1 rfl) (by exact Nat.le_of_ble_eq_true rfl) (by exact rfl))
     refine z ?_ (h := fun _ => acts_store (cells := [aI ((lfC (bX dirI (gN L k) t) (bY dirI (gN L k) t) (cX (gN L k)) (cY (gN L k))).x), aI ((lfC (bX dirI (gN L k) t) (bY dirI (gN L k) t) (cX (gN L k)) (cY (gN L k))).y)]) qC29_ti_46 xt (by exact rfl) (by decide) (by exact ob1 rfl) (by exact Nat.le_of_ble_eq_true rfl) (by exact rfl))
     refine nl (sq (sq ?_))
     refine wp_join [kB 118 ((!(hasS (regSet l) (lfC (cX (gN L k)) (cY (gN L k)) (bX dirI (gN L k) t) (bY dirI (gN L k) t)))) && (!(hasS (regSet l) (lfC (bX dirI (gN L k) t) (bY dirI (gN L k) t) (cX (gN L k)) (cY (gN L k)))))), kV 1 (V.b (.a (.slv ds.length 3 (dsl ds)))), kU 5 (((regSet l) : Nat) : Int), kS 6 33 0 ((hsL l ds M).length), kS 9 53 off2 (Lw2.length - off2), kI 10 (gI Lw off), kI 11 (cX (gN L k)), kI 12 (cY (gN L k)), kI 15 (bX dirI (gN L k) t), kI 16 (bY dirI (gN L k) t), kI 17 (estep (cX (gN L k)) (cY (gN L k)) (bX dirI (gN L k) t) (bY dirI (gN L k) t)), kP 18 18 0, kP 19 19 0, kS 70 70 0 4, kI 71 4, kI 72 ((t : Nat) : Int), kO 14 46 2 true [aI ((gC [(⟨1, 0⟩ : Cel), (⟨(-1), 0⟩ : Cel), (⟨0, 1⟩ : Cel), (⟨0, (-1)⟩ : Cel)] t).x), aI ((gC [(⟨1, 0⟩ : Cel), (⟨(-1), 0⟩ : Cel), (⟨0, 1⟩ : Cel), (⟨0, (-1)⟩ : Cel)] t).y)], kO 18 46 2 true [aI ((lfC (cX (gN L k)) (cY (gN L k)) (bX dirI (gN L k) t) (bY dirI (gN L k) t)).x), aI ((lfC (cX (gN L k)) (cY (gN L k)) (bX dirI (gN L k) t) (bY dirI (gN L k) t)).y)], kO 19 46 2 true [aI ((lfC (bX dirI (gN L k) t) (bY dirI (gN L k) t) (cX (gN L k)) (cY (gN L k))).x), aI ((lfC (bX dirI (gN L k) t) (bY dirI (gN L k) t) (cX (gN L k)) (cY (gN L k))).y)], kO 33 3 1 true (pl (isl (hsL l ds M))), kO 53 3 1 false (pl (isl Lw2)), kO 70 46 2 true (pl (csl [(⟨1, 0⟩ : Cel), (⟨(-1), 0⟩ : Cel), (⟨0, 1⟩ : Cel), (⟨0, (-1)⟩ : Cel)])), kF 2, kF 20, kF 23, kF 28, kF 32, kF 37, kF 38, kF 41, kF 42, kF 55, kF 71, kF 88, kF 106, kF 111, kF 116, kF 122, kF 129, kF 148, kF 149] ?_ ?_
     ·skip
      rcases Bool.eq_false_or_eq_true ((hasS (regSet l) (lfC (cX (gN L k)) (cY (gN L k)) (bX dirI (gN L k) t) (bY dirI (gN L k) t)))) with c12 | c12
      ·skip
       refine rg (zm ?_)
       refine z ?_ (h := fun ν => acts_load_owns (xs := [vI ((lfC (cX (gN L k)) (cY (gN L k)) (bX dirI (gN L k) t) (bY dirI (gN L k) t)).x), vI ((lfC (cX (gN L k)) (cY (gN L k)) (bX dirI (gN L k) t) (bY dirI (gN L k) t)).y)].map A.val) ν qC29_ti_46 rfl (by decide) rfl)
       refine z ?_ (h := fun ν => acts_call1 ν (impl_set__has_fn (regSet l) (lfC (cX (gN L k)) (cY (gN L k)) (bX dirI (gN L k) t) (bY dirI (gN L k) t)) (by omega)) (ac (ArgV.v vt) (ac (ArgV.va va) an)) (resval (congrArg Value.bool c12)))
       refine z ?_ (h := fun ν => acts_un ν vt (r_not (c := false) rfl))
       refine zm (zo (zo (zo (zo ?_))))
       refine z ?_ (h := fun ν => acts_pick_f ν vt xc)
       refine nl ?_
       exact ⟨rfl, weak_reads ⟨(by simp only [c12]; first | done | kernel_rfl), (by repeat (first | exact trivial | refine ⟨by kernel_rfl, ?_⟩))⟩⟩
      ·skip
       refine rg (zm ?_)
       refine z ?_ (h := fun ν => acts_load_owns (xs := [vI ((lfC (cX (gN L k)) (cY (gN L k)) (bX dirI (gN L k) t) (bY dirI (gN L k) t)).x), vI ((lfC (cX (gN L k)) (cY (gN L k)) (bX dirI (gN L k) t) (bY dirI (gN L k) t)).y)].map A.val) ν qC29_ti_46 rfl (by decide) rfl)
       refine z ?_ (h := fun ν => acts_call1 ν (impl_set__has_fn (regSet l) (lfC (cX (gN L k)) (cY (gN L k)) (bX dirI (gN L k) t) (bY dirI (gN L k) t)) (by omega)) (ac (ArgV.v vt) (ac (ArgV.va va) an)) (resval (congrArg Value.bool c12)))
       refine z ?_ (h := fun ν => acts_un ν vt (r_not (c := true) rfl))
       refine zm ?_
       refine zg ?_ (h := fun ν => step_on rfl rfl (mt ν))
       refine zg ?_ (h := fun ν => step_on rfl rfl (acts_load_owns (xs := [vI ((lfC (bX dirI (gN L k) t) (bY dirI (gN L k) t) (cX (gN L k)) (cY (gN L k))).x), vI ((lfC (bX dirI (gN L k) t) (bY dirI (gN L k) t) (cX (gN L k)) (cY (gN L k))).y)].map A.val) ν qC29_ti_46 rfl (by decide) rfl))
       refine zg ?_ (h := fun ν => step_on rfl rfl (acts_call1 ν (impl_set__has_fn (regSet l) (lfC (bX dirI (gN L k) t) (bY dirI (gN L k) t) (cX (gN L k)) (cY (gN L k))) (by omega)) (ac (ArgV.v vt) (ac (ArgV.va va) an)) rv))
       refine zg ?_ (h := fun ν => step_on rfl rfl (acts_un ν vt (r_not rfl)))
       refine z ?_ (h := fun ν => acts_pick_t ν vt xt)
       refine nl ?_
       exact ⟨rfl, weak_reads ⟨(by simp only [c12]; first | done | kernel_rfl), (by repeat (first | exact trivial | refine ⟨by kernel_rfl, ?_⟩))⟩⟩
     refine wi (b := ((!(hasS (regSet l) (lfC (cX (gN L k)) (cY (gN L k)) (bX dirI (gN L k) t) (bY dirI (gN L k) t)))) && (!(hasS (regSet l) (lfC (bX dirI (gN L k) t) (bY dirI (gN L k) t) (cX (gN L k)) (cY (gN L k))))))) (fun c13 => ?_) (fun c13 => ?_)
     ·skip
      obtain ⟨c14, c15⟩ := and_tt c13
      have c16 : (hasS (regSet l) (lfC (cX (gN L k)) (cY (gN L k)) (bX dirI (gN L k) t) (bY dirI (gN L k) t))) = false := by first | (rw [← Bool.not_eq_true']; exact c14) | simpa using c14
      have c17 : (hasS (regSet l) (lfC (bX dirI (gN L k) t) (bY dirI (gN L k) t) (cX (gN L k)) (cY (gN L k)))) = false := by first | (rw [← Bool.not_eq_true']; exact c15) | simpa using c15
      refine wp_exit' (rg ?_)
      refine z ?_ (h := fun ν => acts_bin ν vt vc (rA (by omega) (by omega)))
      refine zm (nl ?_)
      exact loop_back ((t + 1), off2, M, Lw2) (by exact ⟨by assumption, by assumption, by omega, hM.skip (.inr (.inr (hop.trans (side_f (.inl ⟨by assumption, by assumption⟩)))))⟩) (by show 4 - (t + 1) < 4 - t; omega) (wkf id (wS <| wS <| wS <| wS <| wS <| wS <| wS <| wS <| wS <| wE (e := (vint (by rfl))) <| wP <| wP <| wP <| by (iterate 22 refine wF ?_); exact wN))
     ·skip
      have c18 := and_ff c13
      have hor := side_or c18
      refine sk (sq (sq (rg ?_)))
      refine z ?_ (h := fun ν => acts_load_owns (xs := [vI ((lfC (cX (gN L k)) (cY (gN L k)) (bX dirI (gN L k) t) (bY dirI (gN L k) t)).x), vI ((lfC (cX (gN L k)) (cY (gN L k)) (bX dirI (gN L k) t) (bY dirI (gN L k) t)).y)].map A.val) ν qC29_ti_46 rfl (by decide) rfl)
      refine z ?_ (h := fun ν => acts_load_owns (xs := [vI ((lfC (bX dirI (gN L k) t) (bY dirI (gN L k) t) (cX (gN L k)) (cY (gN L k))).x), vI ((lfC (bX dirI (gN L k) t) (bY dirI (gN L k) t) (cX (gN L k)) (cY (gN L k))).y)].map A.val) ν qC29_ti_46 rfl (by decide) rfl)
      refine z ?_ (h := fun ν => acts_call2 ν (impl_DominoOver_fn (lfC (cX (gN L k)) (cY (gN L k)) (bX dirI (gN L k) t) (bY dirI (gN L k) t)) (lfC (bX dirI (gN L k) t) (bY dirI (gN L k) t) (cX (gN L k)) (cY (gN L k))) ) (ac (ArgV.va va) (ac (ArgV.va va) an)) (ResV.agg [vI ((dOv (lfC (cX (gN L k)) (cY (gN L k)) (bX dirI (gN L k) t) (bY dirI (gN L k) t)) (lfC (bX dirI (gN L k) t) (bY dirI (gN L k) t) (cX (gN L k)) (cY (gN L k)))).x), vI ((dOv (lfC (cX (gN L k)) (cY (gN L k)) (bX dirI (gN L k) t) (bY dirI (gN L k) t)) (lfC (bX dirI (gN L k) t) (bY dirI (gN L k) t) (cX (gN L k)) (cY (gN L k)))).y), .bool ((dOv (lfC (cX (gN L k)) (cY (gN L k)) (bX dirI (gN L k) t) (bY dirI (gN L k) t)) (lfC (bX dirI (gN L k) t) (bY dirI (gN L k) t) (cX (gN L k)) (cY (gN L k)))).d)]) rv)
      refine zm ?_
      refine z ?_ (h := fun ν => acts_extract ν (by exact rfl))
      refine z ?_ (h := fun ν => acts_extract ν (by exact rfl))
      refine z ?_ (h := fun ν => acts_alloc' (h := 20) (cap := 1) (s := 3) (cells := [aI 0, aI 0, aB false]) ν qC29_zi_57 rfl rfl (by decide))
      refine z ?_ (h := fun _ => acts_store (cells := [aI ((dOv (lfC (cX (gN L k)) (cY (gN L k)) (bX dirI (gN L k) t) (bY dirI (gN L k) t)) (lfC (bX dirI (gN L k) t) (bY dirI (gN L k) t) (cX (gN L k)) (cY (gN L k)))).x), aI ((dOv (lfC (cX (gN L k)) (cY (gN L k)) (bX dirI (gN L k) t) (bY dirI (gN L k) t)) (lfC (bX dirI (gN L k) t) (bY dirI (gN L k) t) (cX (gN L k)) (cY (gN L k)))).y), aB ((dOv (lfC (cX (gN L k)) (cY (gN L k)) (bX dirI (gN L k) t) (bY dirI (gN L k) t)) (lfC (bX dirI (gN L k) t) (bY dirI (gN L k) t) (cX (gN L k)) (cY (gN L k)))).d)]) qC29_ti_57 xt (by exact rfl) (by decide) (by exact ob1 rfl) (by exact Nat.le_of_ble_eq_true rfl) (by exact rfl))
      refine za (nl (sq ?_))
      refine wp_join [kB 130 ((nbr (lfC (cX (gN L k)) (cY (gN L k)) (bX dirI (gN L k) t) (bY dirI (gN L k) t)) (lfC (bX dirI (gN L k) t) (bY dirI (gN L k) t) (cX (gN L k)) (cY (gN L k)))) && (decide ((dOv (lfC (cX (gN L k)) (cY (gN L k)) (bX dirI (gN L k) t) (bY dirI (gN L k) t)) (lfC (bX dirI (gN L k) t) (bY dirI (gN L k) t) (cX (gN L k)) (cY (gN L k)))) ∈ ds))), kV 1 (V.b (.a (.slv ds.length 3 (dsl ds)))), kU 5 (((regSet l) : Nat) : Int), kS 6 33 0 ((hsL l ds M).length), kS 9 53 off2 (Lw2.length - off2), kI 10 (gI Lw off), kI 11 (cX (gN L k)), kI 12 (cY (gN L k)), kI 15 (bX dirI (gN L k) t), kI 16 (bY dirI (gN L k) t), kI 17 (estep (cX (gN L k)) (cY (gN L k)) (bX dirI (gN L k) t) (bY dirI (gN L k) t)), kS 70 70 0 4, kI 71 4, kI 72 ((t : Nat) : Int), kO 14 46 2 true [aI ((gC [(⟨1, 0⟩ : Cel), (⟨(-1), 0⟩ : Cel), (⟨0, 1⟩ : Cel), (⟨0, (-1)⟩ : Cel)] t).x), aI ((gC [(⟨1, 0⟩ : Cel), (⟨(-1), 0⟩ : Cel), (⟨0, 1⟩ : Cel), (⟨0, (-1)⟩ : Cel)] t).y)], kO 18 46 2 true [aI ((lfC (cX (gN L k)) (cY (gN L k)) (bX dirI (gN L k) t) (bY dirI (gN L k) t)).x), aI ((lfC (cX (gN L k)) (cY (gN L k)) (bX dirI (gN L k) t) (bY dirI (gN L k) t)).y)], kO 19 46 2 true [aI ((lfC (bX dirI (gN L k) t) (bY dirI (gN L k) t) (cX (gN L k)) (cY (gN L k))).x), aI ((lfC (bX dirI (gN L k) t) (bY dirI (gN L k) t) (cX (gN L k)) (cY (gN L k))).y)], kO 20 57 3 true [aI ((dOv (lfC (cX (gN L k)) (cY (gN L k)) (bX dirI (gN L k) t) (bY dirI (gN L k) t)) (lfC (bX dirI (gN L k) t) (bY dirI (gN L k) t) (cX (gN L k)) (cY (gN L k)))).x), aI ((dOv (lfC (cX (gN L k)) (cY (gN L k)) (bX dirI (gN L k) t) (bY dirI (gN L k) t)) (lfC (bX dirI (gN L k) t) (bY dirI (gN L k) t) (cX (gN L k)) (cY (gN L k)))).y), aB ((dOv (lfC (cX (gN L k)) (cY (gN L k)) (bX dirI (gN L k) t) (bY dirI (gN L k) t)) (lfC (bX dirI (gN L k) t) (bY dirI (gN L k) t) (cX (gN L k)) (cY (gN L k)))).d)], kO 33 3 1 true (pl (isl (hsL l ds M))), kO 53 3 1 false (pl (isl Lw2)), kO 70 46 2 true (pl (csl [(⟨1, 0⟩ : Cel), (⟨(-1), 0⟩ : Cel), (⟨0, 1⟩ : Cel), (⟨0, (-1)⟩ : Cel)])), kF 2, kF 23, kF 28, kF 32, kF 37, kF 38, kF 41, kF 42, kF 55, kF 71, kF 88, kF 106, kF 111, kF 116, kF 122, kF 129, kF 148, kF 149] ?_ ?_
      ·skip
       rcases Bool.eq_false_or_eq_true ((nbr (lfC (cX (gN L k)) (cY (gN L k)) (bX dirI (gN L k) t) (bY dirI (gN L k) t)) (lfC (bX dirI (gN L k) t) (bY dirI (gN L k) t) (cX (gN L k)) (cY (gN L k))))) with c19 | c19
       ·skip
        rw [c19]
        refine rg (zm (zm ?_))
        refine zg ?_ (h := fun ν => step_on rfl rfl (mt ν))
        refine zg ?_ (h := fun ν => step_on rfl rfl (acts_load_owns (xs := [vI ((dOv (lfC (cX (gN L k)) (cY (gN L k)) (bX dirI (gN L k) t) (bY dirI (gN L k) t)) (lfC (bX dirI (gN L k) t) (bY dirI (gN L k) t) (cX (gN L k)) (cY (gN L k)))).x), vI ((dOv (lfC (cX (gN L k)) (cY (gN L k)) (bX dirI (gN L k) t) (bY dirI (gN L k) t)) (lfC (bX dirI (gN L k) t) (bY dirI (gN L k) t) (cX (gN L k)) (cY (gN L k)))).y), .bool ((dOv (lfC (cX (gN L k)) (cY (gN L k)) (bX dirI (gN L k) t) (bY dirI (gN L k) t)) (lfC (bX dirI (gN L k) t) (bY dirI (gN L k) t) (cX (gN L k)) (cY (gN L k)))).d)].map A.val) ν qC29_ti_57 rfl (by decide) rfl))
        refine zg ?_ (h := fun ν => step_on rfl rfl (acts_call1 ν (hasDomino_k ds (dOv (lfC (cX (gN L k)) (cY (gN L k)) (bX dirI (gN L k) t) (bY dirI (gN L k) t)) (lfC (bX dirI (gN L k) t) (bY dirI (gN L k) t) (cX (gN L k)) (cY (gN L k)))) (by omega)) (ac (ArgV.slv _ _ _ _) (ac (ArgV.va va) an)) rv))
        refine z ?_ (h := fun ν => acts_pick_t ν vt xt)
        refine nl ?_
        exact ⟨rfl, weak_reads ⟨(by simp only [c19]; first | done | kernel_rfl), (by repeat (first | exact trivial | refine ⟨by kernel_rfl, ?_⟩))⟩⟩
       ·skip
        rw [c19]
        refine rg (zm (zm (zo (zo (zo ?_)))))
        refine z ?_ (h := fun ν => acts_pick_f ν vt xc)
        refine nl ?_
        exact ⟨rfl, weak_reads ⟨(by simp only [c19]; first | done | kernel_rfl), (by repeat (first | exact trivial | refine ⟨by kernel_rfl, ?_⟩))⟩⟩
      refine wi (b := ((nbr (lfC (cX (gN L k)) (cY (gN L k)) (bX dirI (gN L k) t) (bY dirI (gN L k) t)) (lfC (bX dirI (gN L k) t) (bY dirI (gN L k) t) (cX (gN L k)) (cY (gN L k)))) && (decide ((dOv (lfC (cX (gN L k)) (cY (gN L k)) (bX dirI (gN L k) t) (bY dirI (gN L k) t)) (lfC (bX dirI (gN L k) t) (bY dirI (gN L k) t) (cX (gN L k)) (cY (gN L k)))) ∈ ds)))) (fun c20 => ?_) (fun c20 => ?_)
      ·skip
       obtain ⟨c21, c22⟩ := and_tt c20
       refine wp_exit' (rg ?_)
       refine z ?_ (h := fun ν => acts_bin ν vt vc (rA (by omega) (by omega)))
       refine zm (nl ?_)
       exact loop_back ((t + 1), off2, M, Lw2) (by exact ⟨by assumption, by assumption, by omega, hM.skip (.inr (.inr (hop.trans (side_f (.inr ⟨by assumption, by assumption⟩)))))⟩) (by show 4 - (t + 1) < 4 - t; omega) (wkf id (wS <| wS <| wS <| wS <| wS <| wS <| wS <| wS <| wS <| wE (e := (vint (by rfl))) <| wP <| wP <| wP <| by (iterate 22 refine wF ?_); exact wN))
      ·skip
       have c23 := and_ff c20
       have hslw := hsL_len l ds (M ++ [(atU (gN L k) (dirI t))])
       have hgo := hM.go hti hsi huL hin hmem (hop.trans (side_t hor c23))
       refine sk (sq (rg (zm (zm ?_))))
       refine z ?_ (h := fun ν => acts_bin ν vt vc (rM (by omega) (by omega)))
       refine zm ?_
       refine z ?_ (h := fun ν => acts_bin ν vt vt (rA (by omega) (by omega)))
       refine zm (zm ?_)
       refine z ?_ (h := fun ν => ix0 (k := (gI Lw off).toNat) ν qC29_un_22 qC29_sz_3 vt (Int.toNat_of_nonneg (by omega)).symm (by omega))
       refine z ?_ (h := fun ν => lI ν qC29_ti_3 (by omega))
       refine zm ?_
       refine z ?_ (h := fun ν => acts_bin ν vt vt (rA (by (rw [hownN]; omega)) (by (rw [hownN]; omega))))
       refine z ?_ (h := fun ν => ix0 (k := (((bY dirI (gN L k) t) * 9) + (bX dirI (gN L k) t)).toNat) ν qC29_un_22 qC29_sz_3 vt (Int.toNat_of_nonneg (by omega)).symm (by omega))
       refine z ?_ (h := fun _ => sI qC29_ti_3 xt (by omega))
       refine nl (rg (zm (zm ?_)))
       refine z ?_ (h := fun ν => acts_bin ν vt vc (rM (by omega) (by omega)))
       refine zm ?_
       refine z ?_ (h := fun ν => acts_bin ν vt vt (rA (by omega) (by omega)))
       refine z ?_ (h := fun ν => acts_buildSlice' (h := 148) (xs := isl ([(((bY dirI (gN L k) t) * 9) + (bX dirI (gN L k) t))] : List Int)) ν qC29_un_22 qC29_zi_3 (.cons vt OpVs.nil) (by decide) (by decide) (by kernel_rfl) rfl)
       refine z ?_ (h := fun ν => acts_app_ints (h2 := 149) (m := 1) (nm := ((Lw2.drop off2 ++ [(((bY dirI (gN L k) t) * 9) + (bX dirI (gN L k) t))]).length)) (X := .sl 148 0 1) (L := Lw2) (L2 := [(((bY dirI (gN L k) t) * 9) + (bX dirI (gN L k) t))]) ν qC29_un_22 qC29_zi_3 (by omega) xt (src_own (h := 148) (T := 3) (s := 1) (ex := true) (n := 1) (by exact isl_len _)) (by omega) (by (simp; done)))
       refine za (nl (rg ?_))
       refine z ?_ (h := fun ν => acts_bin ν vt vc (rA (by omega) (by omega)))
       refine zm (nl ?_)
       exact loop_back ((t + 1), 0, (M ++ [(atU (gN L k) (dirI t))]), (Lw2.drop off2 ++ [(((bY dirI (gN L k) t) * 9) + (bX dirI (gN L k) t))])) (by exact ⟨Nat.zero_le _, qapp hdr3 (by omega) hxw, by omega, hgo.1⟩) (by show 4 - (t + 1) < 4 - t; omega) (wkf (subst1 [(53, 149)]) (wS <| wS <| wE (e := (vsl (by rfl) rfl)) <| wE (e := (vsl (by rfl) rfl)) <| wS <| wS <| wS <| wS <| wS <| wE (e := (vint (by rfl))) <| wO (e := renob_eq (fun h => h) (congrArg isl (by (rw [hst, hownN]; exact hgo.2)))) <| wP <| wP <| by (iterate 22 refine wF ?_); exact wN))
   ·skip
    have c6P := of_decide_eq_false c6
    refine wp_exit' ?_
    exact Exists.intro ((k + 1), off2, M, Lw2) (And.intro (by exact ⟨by assumption, by assumption, hM.fin hH hk2 (by omega)⟩) (And.intro (by show 81 - (k + 1) < 81 - k; omega) (wkf id (wS <| wS <| wS <| wS <| wP <| wP <| by (iterate 23 refine wF ?_); exact wN))))
  ·skip
   have c4P := of_decide_eq_false c4
   have hend := drop_none (L := Lw) (M := nI L) (i := off) (j := k) (by assumption) (by assumption)
   refine wp_exit' (sq (rg (zm (za (nl (wp_ret' ?_))))))
   exact VRes.tmp _ _ _ (by exact rfl) (brow_ints (h := 33) (L := (hsL l ds L)) (by kernel_rfl) (by exact hts_fin (.inl rfl) hH hend) (by rfl))

set_option maxHeartbeats 4000000 in
set_option maxRecDepth 100000 in
theorem HeightsOf_no1 (l : List Int) (ds : List Dom) (hl : l.length ≤ 4194304) (hd : ds.length ≤ 2097152) (hs : simB l = false) : Fn Try.prog 19 [.agg [(.slv l.length 1 (isl l) : A)], .a (.slv ds.length 3 (dsl ds))] [.val (.slice none 0 0)] := by
 refine fn_intro (N := 152) Try.func19 rfl (by kernel_rfl) rfl (Nat.le_of_ble_eq_true rfl) [2, 14, 18, 19, 20, 23, 28, 32, 33, 37, 38, 41, 42, 53, 55, 70, 71, 88, 106, 111, 116, 122, 129, 148, 149] (ret1 rfl) (fun W => ?_)
 show Wp _ _ _ [kV 0 (V.b (.agg [(.slv l.length 1 (isl l) : A)])), kV 1 (V.b (.a (.slv ds.length 3 (dsl ds)))), kF 2, kF 14, kF 18, kF 19, kF 20, kF 23, kF 28, kF 32, kF 33, kF 37, kF 38, kF 41, kF 42, kF 53, kF 55, kF 70, kF 71, kF 88, kF 106, kF 111, kF 116, kF 122, kF 129, kF 148, kF 149]
 refine sq (rg ?_)
 refine z ?_ (h := fun ν => acts_box (h := 2) ν xt (by exact ob1 rfl))
 refine zk (nl (sq (sq (rg ?_))))
 refine z ?_ (h := fun ν => acts_load_owns (xs := [(.slv l.length 1 (isl l) : A)]) ν qC29_ti_29 rfl (by decide) rfl)
 refine z ?_ (h := fun ν => acts_call1 ν (impl_IsSimple_fn l (by omega)) (ac (ArgV.regv _ _ 1 _) an) (resval (congrArg Value.bool hs)))
 refine z ?_ (h := fun ν => acts_un ν vt (r_not (c := true) rfl))
 refine zm (zo (zo (zo (zo ?_))))
 refine z ?_ (h := fun ν => acts_pick_t ν vt xc)
 refine nl (wt (sq (rg (zk (nl (wp_ret' ?_))))))
 exact VRes.tmp _ _ _ (by exact rfl) (BRes.val _)

set_option maxHeartbeats 4000000 in
set_option maxRecDepth 100000 in
theorem HeightsOf_no2 (l : List Int) (ds : List Dom) (hl : l.length ≤ 4194304) (hd : ds.length ≤ 2097152) (hs : simB l = true) (ht : isTil l ds = false) : Fn Try.prog 19 [.agg [(.slv l.length 1 (isl l) : A)], .a (.slv ds.length 3 (dsl ds))] [.val (.slice none 0 0)] := by
 refine fn_intro (N := 152) Try.func19 rfl (by kernel_rfl) rfl (Nat.le_of_ble_eq_true rfl) [2, 14, 18, 19, 20, 23, 28, 32, 33, 37, 38, 41, 42, 53, 55, 70, 71, 88, 106, 111, 116, 122, 129, 148, 149] (ret1 rfl) (fun W => ?_)
 show Wp _ _ _ [kV 0 (V.b (.agg [(.slv l.length 1 (isl l) : A)])), kV 1 (V.b (.a (.slv ds.length 3 (dsl ds)))), kF 2, kF 14, kF 18, kF 19, kF 20, kF 23, kF 28, kF 32, kF 33, kF 37, kF 38, kF 41, kF 42, kF 53, kF 55, kF 70, kF 71, kF 88, kF 106, kF 111, kF 116, kF 122, kF 129, kF 148, kF 149]
 refine sq (rg ?_)
 refine z ?_ (h := fun ν => acts_box (h := 2) ν xt (by exact ob1 rfl))
 refine zk (nl (sq (sq (rg ?_))))
 refine z ?_ (h := fun ν => acts_load_owns (xs := [(.slv l.length 1 (isl l) : A)]) ν qC29_ti_29 rfl (by decide) rfl)
 refine z ?_ (h := fun ν => acts_call1 ν (impl_IsSimple_fn l (by omega)) (ac (ArgV.regv _ _ 1 _) an) (resval (congrArg Value.bool hs)))
 refine z ?_ (h := fun ν => acts_un ν vt (r_not (c := false) rfl))
 refine zm ?_
 refine zg ?_ (h := fun ν => step_on rfl rfl (acts_load_owns (xs := [(.slv l.length 1 (isl l) : A)]) ν qC29_ti_29 rfl (by decide) rfl))
 refine zg ?_ (h := fun ν => step_on rfl rfl (mt ν))
 refine zg ?_ (h := fun ν => step_on rfl rfl (acts_call1 ν (impl_IsTiling_fn l ds (by omega) (by omega)) (ac (ArgV.regv _ _ 1 _) (ac (ArgV.slv _ _ _ _) an)) (resval (congrArg Value.bool ht))))
 refine zg ?_ (h := fun ν => step_on rfl rfl (acts_un ν vt (r_not (c := true) rfl)))
 refine z ?_ (h := fun ν => acts_pick_f ν vt xt)
 refine nl (wt (sq (rg (zk (nl (wp_ret' ?_))))))
 exact VRes.tmp _ _ _ (by exact rfl) (BRes.val _)
end Cl
end Go.Proofs.Ytonlghbbdcddoaa
