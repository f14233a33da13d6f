/- Walks over clean states, printed by wg.py. No statement is proved here. -/
import Derived.Test.YtokihekhelbijaaG1
import Derived.Test.YtokihekhelbijaaC25
import Derived.Test.YtokihekhelbijaaC13
import Derived.Test.YtokihekhelbijaaClB
set_option linter.unusedSimpArgs false
set_option linter.unusedVariables false
namespace Go.Proofs.Ytokihekhelbijaa
namespace Cl
open Go.ChangeShapes Go.WideShapes Go.ChangeAt Go.RowKit
set_option maxRecDepth 20000

theorem hol_one {l : List Int} (ho : regOk l = true) (h : hol l = 0) : holesN (regSet l) = 1 := by
  unfold hol at h
  rw [if_pos ho] at h
  omega
theorem bal_reg {l : List Int} (h : balB l = true) : regOk l = true := by unfold balB at h; rw [Bool.and_eq_true] at h; exact h.1

theorem qP18_sz_24 : (Try.prog.info? 24).map (·.size) = some 1 := by kernel_rfl
theorem qP18_sz_3 : (Try.prog.info? 3).map (·.size) = some 1 := by kernel_rfl
theorem qP18_ti_24 : TI Try.prog 24 false 1 := ⟨⟨_, Try.underlying24, rfl⟩, by kernel_rfl⟩
theorem qP18_ti_26 : TI Try.prog 26 true 1 := ⟨⟨_, Try.underlying26, rfl⟩, by kernel_rfl⟩
theorem qP18_ti_3 : TI Try.prog 3 false 1 := ⟨⟨_, Try.underlying3, rfl⟩, by kernel_rfl⟩
theorem qP18_un_24 : Try.prog.underlying 24 = some (.slice 3) := Try.underlying24
theorem qP18_un_29 : Try.prog.underlying 29 = some (.slice 24) := Try.underlying29
theorem qP18_un_4 : Try.prog.underlying 4 = some .bool := Try.underlying4
theorem qP18_zi_24 : ZI Try.prog 24 (.slice none 0 0) 1 24 := by unfold ZI; kernel_rfl
theorem qP18_zi_26 : ZI Try.prog 26 (.agg #[.slice none 0 0]) 1 24 := by unfold ZI; kernel_rfl
theorem qP18_zi_3 : ZI Try.prog 3 (.int .i64 0) 1 8 := by unfold ZI; kernel_rfl
set_option maxHeartbeats 4000000 in
set_option maxRecDepth 100000 in
theorem laws_FnSigned_R (b : List Nat) (R : List Int) (m : List (List Int)) (hbb : b.length ≤ 9223372036854775807) (hy : ∀ x ∈ b, x < 256) (hR : (r15 b (cu0 b)).1 = R) (hM : (sqM b (1 + cuX b (cu0 b) 4) (cuN b (cu0 b) 4) (1 + cuX b (cu0 b) 4)).1 = m) : Fn Try.prog 3 [.a (.slv b.length 1 (ysl b))] [.val (.bool true)] := by
 have hRl : R.length ≤ 9 := hR ▸ r15_len b (cu0 b)
 have hx4 : cuX b (cu0 b) 4 < 4 := cuX_lt (by decide)
 have hQ : SQ m := hM ▸ SQ.of b _ (by omega) (by omega)
 have hml := hQ.len
 have hmr := hQ.row
 have hS := SG.of R
 have hsq := hQ.sq
 have hd1 := hQ.b1
 have hd2 := hQ.b2
 have hneg := hS.neg
 have h44l : (rectR 4 4).length ≤ 4194304 := by decide
 have hnil1 : ([] : List (List Int)).length ≤ 4194304 := by decide
 have hnil2 : ∀ k, k < ([] : List (List Int)).length → (gLs [] k).length ≤ 4194304 := fun k hk => absurd hk (Nat.not_lt_zero k)
 have hr22 : ∀ k, k < m.length → (gLs m k).length ≤ 4194304 := fun k hk => by rw [hmr k hk]; omega
 refine fn_intro (N := 110) Try.func3 rfl (by kernel_rfl) rfl (Nat.le_of_ble_eq_true rfl) [3, 13, 15, 17, 19, 21, 22, 25, 29, 32, 44, 45, 48, 49, 51, 54, 57, 61, 62, 68, 73, 83, 92, 93, 105, 106] (ret1 rfl) (fun W => ?_)
 show Wp _ _ _ [kV 0 (V.b (.a (.slv b.length 1 (ysl b)))), kF 3, kF 13, kF 15, kF 17, kF 19, kF 21, kF 22, kF 25, kF 29, kF 32, kF 44, kF 45, kF 48, kF 49, kF 51, kF 54, kF 57, kF 61, kF 62, kF 68, kF 73, kF 83, kF 92, kF 93, kF 105, kF 106]
 refine sq (rg (zk (nl (sq (sq (rg (zm ?_)))))))
 refine z ?_ (h := fun ν => acts_call1 ν (laws_big_fn b ) (ac (ArgV.slv _ _ _ _) an) rv)
 refine nl ?_
 refine wi (b := (decide (1048576 < ((b.length : Nat) : Int)))) (fun c1 => ?_) (fun c1 => ?_)
 ·skip
  refine sq (rg (zk (nl (wp_ret' ?_))))
  exact VRes.tmp _ _ _ (by exact rfl) (BRes.val _)
 ·skip
  have hb : b.length ≤ 1048576 := by have := of_decide_eq_false c1; omega
  refine sk (sq (rg (zm ?_)))
  refine z ?_ (h := fun ν => acts_callO (d := 15) (f := 5) (os := []) (os' := [(.o 3, some (.o ⟨3, 1, true, pl (isl R)⟩))]) (r := V.b (.agg [(.sl 3 0 R.length : A)])) (bs := [.a (.slv b.length 1 (ysl b))]) (keep := []) (new := [3]) (dead := []) ν (FnO.ren' (spec_DrawSignMatrix_fn b R (by first | exact hR | omega | assumption) (by first | exact hR | omega | assumption) (by first | exact hR | omega | assumption)) (subst1 [(900, 3)]) rfl rfl (by kernel_rfl) (by kernel_rfl) ⟨oc_pl (fun _ => rfl), trivial⟩ (by kernel_rfl) rfl (by simp only [renS, Ob.ren, pl_ren, rws_ren_doms, rws_ren_ints, rws_ren_cels, rwI_ren, rwD_ren]; first | done | rfl) (by simp only [renS, Ob.ren, pl_ren, rws_ren_doms, rws_ren_ints, rws_ren_cels, rwI_ren, rwD_ren]; first | done | rfl) rfl rfl) (by kernel_rfl) ⟨oc_pl (fun _ => rfl), trivial⟩ (by kernel_rfl) (ArgOs.cons (ArgO.slot 14 (.a (.slv b.length 1 (ysl b)))) (ArgOs.nil)))
  refine z ?_ (h := fun ν => acts_alloc' (h := 13) (cap := 1) (s := 1) (cells := [(.val (.slice none 0 0) : A)]) ν qP18_zi_26 rfl rfl (by decide))
  refine z ?_ (h := fun _ => acts_store (cells := [(.sl 3 0 R.length : A)]) qP18_ti_26 xt (by exact rfl) (by decide) (by exact ob1 rfl) (by exact Nat.le_of_ble_eq_true rfl) (by exact rfl))
  refine nl (sq (rg ?_))
  refine z ?_ (h := fun ν => acts_load_owns (xs := [(.sl 3 0 R.length : A)]) ν qP18_ti_26 rfl (by decide) rfl)
  refine z ?_ (h := fun ν => acts_callO (d := 17) (f := 6) (os := [(.o 3, some (.o ⟨3, 1, true, pl (isl R)⟩))]) (os' := [(.o 3, some (.o ⟨3, 1, true, pl (isl R)⟩))]) (r := V.v (.int .i64 (cbs R))) (bs := [.agg [(.sl 3 0 R.length : A)]]) (keep := [3]) (new := []) (dead := []) ν (FnO.ren' (impl_CountBySigns_fn R (by first | omega | assumption | exact hr22 _ (by omega) | (rw [hmr _ (by omega)]; omega))) (subst1 [(800, 3)]) rfl rfl (by kernel_rfl) (by kernel_rfl) ⟨oc_pl (fun _ => rfl), trivial⟩ (by kernel_rfl) rfl (by simp only [renS, Ob.ren, pl_ren, rws_ren_doms, rws_ren_ints, rws_ren_cels, rwI_ren, rwD_ren]; first | done | rfl) (by simp only [renS, Ob.ren, pl_ren, rws_ren_doms, rws_ren_ints, rws_ren_cels, rwI_ren, rwD_ren]; first | done | rfl) rfl rfl) (by kernel_rfl) ⟨oc_pl (fun _ => rfl), trivial⟩ (by kernel_rfl) (ArgOs.cons (ArgO.slot 16 (.agg [(.sl 3 0 R.length : A)])) (ArgOs.nil)))
  refine za (nl (sq (rg ?_)))
  refine z ?_ (h := fun ν => acts_load_owns (xs := [(.sl 3 0 R.length : A)]) ν qP18_ti_26 rfl (by decide) rfl)
  refine z ?_ (h := fun ν => acts_callO (d := 19) (f := 7) (os := [(.o 3, some (.o ⟨3, 1, true, pl (isl R)⟩))]) (os' := [(.o 3, some (.o ⟨3, 1, true, pl (isl R)⟩))]) (r := V.v (.int .i64 (cbe R))) (bs := [.agg [(.sl 3 0 R.length : A)]]) (keep := [3]) (new := []) (dead := []) ν (FnO.ren' (impl_CountByExpansion_fn R (by first | omega | assumption | exact hr22 _ (by omega) | (rw [hmr _ (by omega)]; omega))) (subst1 [(800, 3)]) rfl rfl (by kernel_rfl) (by kernel_rfl) ⟨oc_pl (fun _ => rfl), trivial⟩ (by kernel_rfl) rfl (by simp only [renS, Ob.ren, pl_ren, rws_ren_doms, rws_ren_ints, rws_ren_cels, rwI_ren, rwD_ren]; first | done | rfl) (by simp only [renS, Ob.ren, pl_ren, rws_ren_doms, rws_ren_ints, rws_ren_cels, rwI_ren, rwD_ren]; first | done | rfl) rfl rfl) (by kernel_rfl) ⟨oc_pl (fun _ => rfl), trivial⟩ (by kernel_rfl) (ArgOs.cons (ArgO.slot 18 (.agg [(.sl 3 0 R.length : A)])) (ArgOs.nil)))
  refine za (nl (sq (rg (zm ?_))))
  refine z ?_ (h := fun ν => acts_callO (d := 21) (f := 8) (os := []) (os' := [(.o 15, some (.o ⟨24, 1, true, rwI 3 m⟩))]) (r := V.b (.a (.sl 15 0 m.length))) (bs := [.a (.slv b.length 1 (ysl b))]) (keep := []) (new := [15]) (dead := []) ν (FnO.ren' (spec_DrawSquare_fn b m (by first | exact hM | omega | assumption) (by first | exact hM | omega | assumption) (by first | exact hM | omega | assumption)) (subst1 [(900, 15)]) rfl rfl (by kernel_rfl) (by kernel_rfl) ⟨oc_rwI, trivial⟩ (by kernel_rfl) rfl (by simp only [renS, Ob.ren, pl_ren, rws_ren_doms, rws_ren_ints, rws_ren_cels, rwI_ren, rwD_ren]; first | done | rfl) (by simp only [renS, Ob.ren, pl_ren, rws_ren_doms, rws_ren_ints, rws_ren_cels, rwI_ren, rwD_ren]; first | done | rfl) rfl rfl) (by kernel_rfl) ⟨oc_rwI, trivial⟩ (by kernel_rfl) (ArgOs.cons (ArgO.slot 20 (.a (.slv b.length 1 (ysl b)))) (ArgOs.nil)))
  refine za (nl (sq ?_))
  refine wp_weak (fzI (k := 6) (h := 15) (T0 := 24) (T := 3) (ex0 := true) (n := m.length) (L := m) (hn := by rfl)) ?_
  refine rg ?_
  refine z ?_ (h := fun ν => b0Q (h := 22) (T := 3) ν qP18_un_29 qP18_zi_24)
  refine za (nl (sq (sq (rg (zk (nl (bkk ?_)))))))
  refine wp_loop' (fun (i : Nat) => i ≤ m.length) (fun (i : Nat) => [kP 3 13 0, kI 4 (cbs R), kI 5 (cbe R), kV 6 (V.b (.a (.slvv 1 (vwI m)))), kS 7 22 0 ((trM m i).length), kI 8 ((i : Nat) : Int), kO 3 3 1 true (pl (isl R)), kO 13 26 1 true [(.sl 3 0 R.length : A)], kO 22 24 1 true (rwI 3 (trM m i)), kF 17, kF 19, kF 21, kF 25, kF 29, kF 32, kF 44, kF 45, kF 48, kF 49, kF 51, kF 54, kF 57, kF 61, kF 62, kF 68, kF 73, kF 83, kF 92, kF 93, kF 105, kF 106]) (fun (i : Nat) => m.length - i) ((0 : Nat)) (by exact (Nat.zero_le _ : 0 ≤ _)) (wkf id (wS <| wS <| wS <| wS <| wE (e := (vsl (by first | rfl | (simp; done) | (simp; omega) | omega | (exact congrArg List.length (by first | rfl | omega | (rw [hke]; exact (trM_snoc m i).symm) | (rw [hke]; exact trM_snoc m i) | (simp [trM]; done)))) rfl)) <| wE (e := (vint (by first | rfl | omega | (rw [hke]; exact (trM_snoc m i).symm) | (rw [hke]; exact trM_snoc m i) | (simp [trM]; done)))) <| wP <| wX <| wQI (e := (by first | rfl | omega | (rw [hke]; exact (trM_snoc m i).symm) | (rw [hke]; exact trM_snoc m i) | (simp [trM]; done))) <| by (iterate 22 refine wF ?_); exact wN)) ?_
  rintro i inv2
  replace inv2 : i ≤ m.length := inv2
  have invi := inv2
  have htl := trM_len m i
  refine sq (sq (rg (zm (zm ?_))))
  refine z ?_ (h := fun ν => lnI ν qP18_un_29)
  refine z ?_ (h := fun ν => acts_bin ν vt vt (r_lss rfl))
  refine nl ?_
  refine wi (fun c3 => ?_) (fun c3 => ?_)
  ·skip
   have c3P := of_decide_eq_true c3
   refine sk (sq (bkk (sq (rg ?_))))
   refine z ?_ (h := fun ν => b0I (h := 29) ν qP18_un_24 qP18_zi_3)
   refine za (nl (sq (sq (rg (zk (nl (bkk ?_)))))))
   refine wp_loop' (fun (k : Nat) => k ≤ m.length) (fun (k : Nat) => [kP 3 13 0, kI 4 (cbs R), kI 5 (cbe R), kV 6 (V.b (.a (.slvv 1 (vwI m)))), kS 7 22 0 ((trM m i).length), kI 8 ((i : Nat) : Int), kS 9 29 0 ((trR m i k).length), kI 10 ((k : Nat) : Int), kO 3 3 1 true (pl (isl R)), kO 13 26 1 true [(.sl 3 0 R.length : A)], kO 22 24 1 true (rwI 3 (trM m i)), kO 29 3 1 true (pl (isl (trR m i k))), kF 17, kF 19, kF 21, kF 25, kF 32, kF 44, kF 45, kF 48, kF 49, kF 51, kF 54, kF 57, kF 61, kF 62, kF 68, kF 73, kF 83, kF 92, kF 93, kF 105, kF 106]) (fun (k : Nat) => m.length - k) ((0 : Nat)) (by exact (Nat.zero_le _ : 0 ≤ _)) (wkf id (wS <| wS <| wS <| wS <| wS <| wS <| wE (e := (vsl (by first | rfl | (simp; done) | (simp; omega) | omega | (exact congrArg List.length (by first | rfl | omega | exact (trR_snoc m i k).symm | exact trR_snoc m i k | (simp [trR]; done)))) rfl)) <| wE (e := (vint (by first | rfl | omega | exact (trR_snoc m i k).symm | exact trR_snoc m i k | (simp [trR]; done)))) <| wP <| wX <| wQI <| wO (e := renob_eq (fun h => h) (congrArg isl (by first | rfl | omega | exact (trR_snoc m i k).symm | exact trR_snoc m i k | (simp [trR]; done)))) <| by (iterate 21 refine wF ?_); exact wN)) ?_
   rintro k inv4
   replace inv4 : k ≤ m.length := inv4
   have invk := inv4
   have hrl := trR_len m i k
   refine sq (sq (rg (zm (zm ?_))))
   refine z ?_ (h := fun ν => lnI ν qP18_un_29)
   refine z ?_ (h := fun ν => acts_bin ν vt vt (r_lss rfl))
   refine nl ?_
   refine wi (fun c5 => ?_) (fun c5 => ?_)
   ·skip
    have c5P := of_decide_eq_true c5
    have hkr := hmr k (by omega)
    refine sk (sq (bkk (rg (zm (zm (zm ?_))))))
    refine z ?_ (h := fun ν => xvv ν qP18_un_29 qP18_sz_24 vt (hlt := (by simp only [vwI_len, vwD_len]; first | omega | assumption | exact hr22 _ (by omega) | (rw [hmr _ (by omega)]; omega))))
    refine z ?_ (h := fun ν => lvI ν qP18_ti_24 (by first | omega | assumption | exact hr22 _ (by omega) | (rw [hmr _ (by omega)]; omega)))
    refine zm ?_
    refine z ?_ (h := fun ν => ixv ν qP18_un_24 qP18_sz_3 vt (hlt := (by first | omega | assumption | exact hr22 _ (by omega) | (rw [hmr _ (by omega)]; omega))))
    refine z ?_ (h := fun ν => uI ν qP18_ti_3 (by first | omega | assumption | exact hr22 _ (by omega) | (rw [hmr _ (by omega)]; omega)))
    refine z ?_ (h := fun ν => acts_buildSlice' (h := 44) (xs := isl ([(gI (gLs m k) i)] : List Int)) ν qP18_un_24 qP18_zi_3 (.cons vt OpVs.nil) (by decide) (by decide) (by kernel_rfl) rfl)
    refine z ?_ (h := fun ν => aI_ (h2 := 45) (L3 := ((trR m i k) ++ [(gI (gLs m k) i)])) ν qP18_un_24 qP18_zi_3 (by first | exact rfl | (simp; done) | (simp; omega) | omega) rfl (by first | exact rfl | (simp; done) | (simp; omega) | omega) (by first | omega | (simp; omega) | (simp at *; omega)))
    refine za (nl (rg (zm ?_)))
    refine z ?_ (h := fun ν => acts_bin ν vt vc (rA (by first | omega | assumption | exact hr22 _ (by omega) | (rw [hmr _ (by omega)]; omega)) (by first | omega | assumption | exact hr22 _ (by omega) | (rw [hmr _ (by omega)]; omega))))
    refine za (nl ?_)
    exact loop_back ((k + 1)) (by show _ ≤ _; omega) (by show m.length - (k + 1) < m.length - k; omega) (wkf (subst1 [(29, 45)]) (wS <| wS <| wS <| wS <| wS <| wS <| wE (e := (vsl (by first | rfl | (simp; done) | (simp; omega) | omega | (exact congrArg List.length (by first | rfl | omega | exact (trR_snoc m i k).symm | exact trR_snoc m i k | (simp [trR]; done)))) rfl)) <| wE (e := (vint (by first | rfl | omega | exact (trR_snoc m i k).symm | exact trR_snoc m i k | (simp [trR]; done)))) <| wP <| wX <| wQI <| wO (e := renob_eq (fun h => h) (congrArg isl (by first | rfl | omega | exact (trR_snoc m i k).symm | exact trR_snoc m i k | (simp [trR]; done)))) <| by (iterate 21 refine wF ?_); exact wN))
   ·skip
    have c5P := of_decide_eq_false c5
    have hke : k = m.length := by omega
    refine wp_exit' (rg (zm (zm ?_)))
    refine z ?_ (h := fun ν => bs1 (h := 48) ν qP18_un_29 qP18_zi_24 (by exact ⟨_, _, _, .inl rfl⟩))
    refine z ?_ (h := fun ν => aQ (h2 := 49) (nm := ((trM m i) ++ [(trR m i k)]).length) ν qP18_un_29 qP18_zi_24 (by exact ⟨_, _, _, .inl rfl⟩) (by simp [rwI_len, rwD_len]) (by first | omega | (simp; omega) | (first | omega | assumption | exact hr22 _ (by omega) | (rw [hmr _ (by omega)]; omega))) (by simp))
    refine za (nl ?_)
    refine wp_weak (pkI (h := 49) (h1 := 29) (T := 3) (T0 := 24) (s0 := 1) (ex0 := true) (n := ((trR m i k).length)) (L := (trM m i)) (r := (trR m i k))) ?_
    refine rg (zm ?_)
    refine z ?_ (h := fun ν => acts_bin ν vt vc (rA (by first | omega | assumption | exact hr22 _ (by omega) | (rw [hmr _ (by omega)]; omega)) (by first | omega | assumption | exact hr22 _ (by omega) | (rw [hmr _ (by omega)]; omega))))
    refine za (nl ?_)
    exact loop_back ((i + 1)) (by show _ ≤ _; omega) (by show m.length - (i + 1) < m.length - i; omega) (wkf (subst1 [(22, 49)]) (wS <| wS <| wS <| wS <| wE (e := (vsl (by first | rfl | (simp; done) | (simp; omega) | omega | (exact congrArg List.length (by first | rfl | omega | (rw [hke]; exact (trM_snoc m i).symm) | (rw [hke]; exact trM_snoc m i) | (simp [trM]; done)))) rfl)) <| wE (e := (vint (by first | rfl | omega | (rw [hke]; exact (trM_snoc m i).symm) | (rw [hke]; exact trM_snoc m i) | (simp [trM]; done)))) <| wP <| wX <| wQI (e := (by first | rfl | omega | (rw [hke]; exact (trM_snoc m i).symm) | (rw [hke]; exact trM_snoc m i) | (simp [trM]; done))) <| by (iterate 22 refine wF ?_); exact wN))
  ·skip
   have c3P := of_decide_eq_false c3
   have hie : i = m.length := by omega
   have htr : detR (trM m i) = detR m := by rw [hie]; exact hQ.tr
   have htrr : ∀ k, k < (trM m i).length → (gLs (trM m i) k).length ≤ 4194304 := fun k hk => by
    rw [gLs_eq hk]; simp [trM, trR_len]; omega
   refine wp_exit' (sq (rg (zm ?_)))
   refine z ?_ (h := fun ν => acts_call1 ν (impl_DeterminantOf_fn m (by first | omega | assumption | exact hr22 _ (by omega) | (rw [hmr _ (by omega)]; omega)) (by first | omega | assumption | exact hr22 _ (by omega) | (rw [hmr _ (by omega)]; omega))) (ac (ArgV.slvv _ _ _) an) rv)
   refine za (nl (sq (sq ?_)))
   refine wp_weak (fzI (k := 7) (h := 22) (T0 := 24) (T := 3) (ex0 := true) (n := ((trM m i).length)) (L := (trM m i)) (hn := by rfl)) ?_
   refine rg (zm (zm ?_))
   refine z ?_ (h := fun ν => acts_call1 ν (spec_DeterminantOf_fn (trM m i) (by first | omega | assumption | (rw [trM_len]; omega) | (intro k hk; exact htrr k hk)) (by first | omega | assumption | (rw [trM_len]; omega) | (intro k hk; exact htrr k hk))) (ac (ArgV.slvv _ _ _) an) rv)
   refine z ?_ (h := fun ν => acts_bin ν vt vt (r_neq (c := false) (decide_eq_false (fun h => h htr.symm))))
   refine zm ?_
   refine zg ?_ (h := fun ν => step_on rfl rfl (acts_call1 ν (impl_DeterminantOf_fn [] (by first | omega | assumption | exact hr22 _ (by omega) | (rw [hmr _ (by omega)]; omega)) (by first | omega | assumption | exact hr22 _ (by omega) | (rw [hmr _ (by omega)]; omega))) (ac (ArgV.nilnil 1 vc) an) rv))
   refine zg ?_ (h := fun ν => step_on rfl rfl (acts_bin ν vt vc (r_neq (c := false) (decide_eq_false (fun h => h det_nil)))))
   refine z ?_ (h := fun ν => acts_pick_f ν vt xt)
   refine nl (wf (sk (sq (sq ?_))))
   rcases Bool.eq_false_or_eq_true ((balB R)) with c6 | c6
   ·skip
    have hro := bal_reg c6
    rcases Bool.eq_false_or_eq_true ((inB (((cellsOf R).length : Nat) : Int) 1 32)) with c7 | c7
    ·skip
     have hps := smR_pos (by assumption) c7
     have hpos := hS.pos hps
     refine rg ?_
     refine z ?_ (h := fun ν => acts_load_owns (xs := [(.sl 3 0 R.length : A)]) ν qP18_ti_26 rfl (by decide) rfl)
     refine z ?_ (h := fun ν => acts_callO (d := 61) (f := 11) (os := [(.o 3, some (.o ⟨3, 1, true, pl (isl R)⟩))]) (os' := [(.o 3, some (.o ⟨3, 1, true, pl (isl R)⟩)), (.o 17, some (.o ⟨24, 1, true, rwI 3 (smR R)⟩))]) (r := V.b (.a (.sl 17 0 ((smR R).length)))) (bs := [.agg [(.sl 3 0 R.length : A)]]) (keep := [3]) (new := [17]) (dead := []) ν (FnO.ren' (impl_SignMatrix_fn R (by first | omega | assumption | exact hr22 _ (by omega) | (rw [hmr _ (by omega)]; omega))) (subst1 [(800, 3), (900, 17)]) rfl rfl (by kernel_rfl) (by kernel_rfl) ⟨oc_pl (fun _ => rfl), oc_rwI, trivial⟩ (by kernel_rfl) rfl (by simp only [renS, Ob.ren, pl_ren, rws_ren_doms, rws_ren_ints, rws_ren_cels, rwI_ren, rwD_ren]; first | done | rfl) (by simp only [renS, Ob.ren, pl_ren, rws_ren_doms, rws_ren_ints, rws_ren_cels, rwI_ren, rwD_ren]; first | done | rfl) rfl rfl) (by kernel_rfl) ⟨oc_pl (fun _ => rfl), oc_rwI, trivial⟩ (by kernel_rfl) (ArgOs.cons (ArgO.slot 60 (.agg [(.sl 3 0 R.length : A)])) (ArgOs.nil)))
     refine z ?_ (h := fun ν => lnS ν qP18_un_29)
     refine z ?_ (h := fun ν => acts_bin ν vt vc (r_gtr rfl))
     refine nl ?_
     refine wi (fun c8 => ?_) (fun c8 => ?_)
     ·skip
      have c8P := of_decide_eq_true c8
      refine sq ?_
      rcases Bool.eq_false_or_eq_true (decide ((cbs R) < 0)) with c9 | c9
      ·skip
       have c9P := of_decide_eq_true c9
       refine rg (zm ?_)
       refine z ?_ (h := fun ν => acts_bin ν vt vc (r_lss (c := true) c9))
       refine zm (zo (zo (zo ?_)))
       refine zg ?_ (h := fun ν => step_offu rfl rfl (by decide) rfl ν)
       refine zg ?_ (h := fun ν => step_offx rfl rfl rfl ν)
       refine zg ?_ (h := fun ν => step_offx rfl rfl rfl ν)
       refine zg ?_ (h := fun ν => step_offx rfl rfl rfl ν)
       refine zg ?_ (h := fun ν => step_offx rfl rfl rfl ν)
       refine zo ?_
       refine z ?_ (h := fun ν => acts_pick_t ν vt xc)
       refine zm (zo (zo ?_))
       refine zg ?_ (h := fun ν => step_offu rfl rfl (by decide) rfl ν)
       refine zg ?_ (h := fun ν => step_offx rfl rfl rfl ν)
       refine zg ?_ (h := fun ν => step_offx rfl rfl rfl ν)
       refine zg ?_ (h := fun ν => step_offx rfl rfl rfl ν)
       refine zg ?_ (h := fun ν => step_offx rfl rfl rfl ν)
       refine zg ?_ (h := fun ν => step_offx rfl rfl rfl ν)
       refine zg ?_ (h := fun ν => step_offx rfl rfl rfl ν)
       refine zg ?_ (h := fun ν => step_offx rfl rfl rfl ν)
       refine zg ?_ (h := fun ν => step_offx rfl rfl rfl ν)
       refine zg ?_ (h := fun ν => step_offx rfl rfl rfl ν)
       refine zo ?_
       refine z ?_ (h := fun ν => acts_pick_t ν vt xc)
       refine nl (wt (sq (rg (zk (nl (wp_ret' ?_))))))
       exact VRes.tmp _ _ _ (by exact rfl) (bval (congrArg Value.bool (by first | rfl | (exfalso; omega) | (exfalso; simp_all; done) | (exfalso; simp_all; omega) | (simp_all; done) | (simp_all; omega))))
      ·skip
       have c9P := of_decide_eq_false c9
       rcases Bool.eq_false_or_eq_true (decide ((hol R) = 0)) with c10 | c10
       ·skip
        have c10P := of_decide_eq_true c10
        have hh1 := hol_one hro (of_decide_eq_true c10)
        have hce := hS.eq hps hh1
        rcases Bool.eq_false_or_eq_true (decide ((cbs R) ≠ (((cntR R) : Nat) : Int))) with c11 | c11
        ·skip
         have c11P := of_decide_eq_true c11
         refine rg (zm ?_)
         refine z ?_ (h := fun ν => acts_bin ν vt vc (r_lss (c := false) c9))
         refine zm ?_
         refine zg ?_ (h := fun ν => step_on rfl rfl (acts_load_owns (xs := [(.sl 3 0 R.length : A)]) ν qP18_ti_26 rfl (by decide) rfl))
         refine zg ?_ (h := fun ν => step_on rfl rfl (acts_call1 ν (spec_CountHoles_fn R (by first | omega | assumption | exact hr22 _ (by omega) | (rw [hmr _ (by omega)]; omega))) (ac (ArgV.reg _ _ _ (s := 1) (by simp [isl]) (by first | exact List.take_of_length_le (by simp [isl]) | (simp [isl]; done))) an) rv))
         refine zg ?_ (h := fun ν => step_on rfl rfl (acts_bin ν vt vc (r_eql (c := true) c10)))
         refine zg ?_ (h := fun ν => step_on rfl rfl (mt ν))
         refine zg ?_ (h := fun ν => step_on rfl rfl (mt ν))
         refine zg ?_ (h := fun ν => step_on rfl rfl (acts_load_owns (xs := [(.sl 3 0 R.length : A)]) ν qP18_ti_26 rfl (by decide) rfl))
         refine zg ?_ (h := fun ν => step_on rfl rfl (acts_call1 ν (spec_CountTilings_fn R (by first | omega | assumption | exact hr22 _ (by omega) | (rw [hmr _ (by omega)]; omega))) (ac (ArgV.reg _ _ _ (s := 1) (by simp [isl]) (by first | exact List.take_of_length_le (by simp [isl]) | (simp [isl]; done))) an) rv))
         refine zg ?_ (h := fun ν => step_on rfl rfl (acts_bin ν vt vt (r_neq (c := true) c11)))
         refine zg ?_ (h := fun ν => step_on rfl rfl (acts_pick_t ν vt xt))
         refine z ?_ (h := fun ν => acts_pick_f ν vt xt)
         refine zm (zo (zo ?_))
         refine zg ?_ (h := fun ν => step_offu rfl rfl (by decide) rfl ν)
         refine zg ?_ (h := fun ν => step_offx rfl rfl rfl ν)
         refine zg ?_ (h := fun ν => step_offx rfl rfl rfl ν)
         refine zg ?_ (h := fun ν => step_offx rfl rfl rfl ν)
         refine zg ?_ (h := fun ν => step_offx rfl rfl rfl ν)
         refine zg ?_ (h := fun ν => step_offx rfl rfl rfl ν)
         refine zg ?_ (h := fun ν => step_offx rfl rfl rfl ν)
         refine zg ?_ (h := fun ν => step_offx rfl rfl rfl ν)
         refine zg ?_ (h := fun ν => step_offx rfl rfl rfl ν)
         refine zg ?_ (h := fun ν => step_offx rfl rfl rfl ν)
         refine zo ?_
         refine z ?_ (h := fun ν => acts_pick_t ν vt xc)
         refine nl (wt (sq (rg (zk (nl (wp_ret' ?_))))))
         exact VRes.tmp _ _ _ (by exact rfl) (bval (congrArg Value.bool (by first | rfl | (exfalso; omega) | (exfalso; simp_all; done) | (exfalso; simp_all; omega) | (simp_all; done) | (simp_all; omega))))
        ·skip
         have c11P := of_decide_eq_false c11
         rcases Bool.eq_false_or_eq_true (decide (0 ≤ (cbe R))) with c12 | c12
         ·skip
          have c12P := of_decide_eq_true c12
          obtain ⟨hx1, hx2⟩ := hS.ex hps (of_decide_eq_true c12)
          rcases Bool.eq_false_or_eq_true (decide ((cbe R) ≠ (((cntR R) : Nat) : Int))) with c13 | c13
          ·skip
           have c13P := of_decide_eq_true c13
           refine rg (zm ?_)
           refine z ?_ (h := fun ν => acts_bin ν vt vc (r_lss (c := false) c9))
           refine zm ?_
           refine zg ?_ (h := fun ν => step_on rfl rfl (acts_load_owns (xs := [(.sl 3 0 R.length : A)]) ν qP18_ti_26 rfl (by decide) rfl))
           refine zg ?_ (h := fun ν => step_on rfl rfl (acts_call1 ν (spec_CountHoles_fn R (by first | omega | assumption | exact hr22 _ (by omega) | (rw [hmr _ (by omega)]; omega))) (ac (ArgV.reg _ _ _ (s := 1) (by simp [isl]) (by first | exact List.take_of_length_le (by simp [isl]) | (simp [isl]; done))) an) rv))
           refine zg ?_ (h := fun ν => step_on rfl rfl (acts_bin ν vt vc (r_eql (c := true) c10)))
           refine zg ?_ (h := fun ν => step_on rfl rfl (mt ν))
           refine zg ?_ (h := fun ν => step_on rfl rfl (mt ν))
           refine zg ?_ (h := fun ν => step_on rfl rfl (acts_load_owns (xs := [(.sl 3 0 R.length : A)]) ν qP18_ti_26 rfl (by decide) rfl))
           refine zg ?_ (h := fun ν => step_on rfl rfl (acts_call1 ν (spec_CountTilings_fn R (by first | omega | assumption | exact hr22 _ (by omega) | (rw [hmr _ (by omega)]; omega))) (ac (ArgV.reg _ _ _ (s := 1) (by simp [isl]) (by first | exact List.take_of_length_le (by simp [isl]) | (simp [isl]; done))) an) rv))
           refine zg ?_ (h := fun ν => step_on rfl rfl (acts_bin ν vt vt (r_neq (c := false) c11)))
           refine zg ?_ (h := fun ν => step_on rfl rfl (acts_pick_t ν vt xt))
           refine z ?_ (h := fun ν => acts_pick_f ν vt xt)
           refine zm ?_
           refine zg ?_ (h := fun ν => step_on rfl rfl (mt ν))
           refine zg ?_ (h := fun ν => step_on rfl rfl (acts_bin ν vt vc (r_geq (c := true) c12)))
           refine zg ?_ (h := fun ν => step_on rfl rfl (mt ν))
           refine zg ?_ (h := fun ν => step_on rfl rfl (mt ν))
           refine zg ?_ (h := fun ν => step_on rfl rfl (acts_load_owns (xs := [(.sl 3 0 R.length : A)]) ν qP18_ti_26 rfl (by decide) rfl))
           refine zg ?_ (h := fun ν => step_on rfl rfl (acts_call1 ν (spec_CountTilings_fn R (by first | omega | assumption | exact hr22 _ (by omega) | (rw [hmr _ (by omega)]; omega))) (ac (ArgV.reg _ _ _ (s := 1) (by simp [isl]) (by first | exact List.take_of_length_le (by simp [isl]) | (simp [isl]; done))) an) rv))
           refine zg ?_ (h := fun ν => step_on rfl rfl (acts_bin ν vt vt (r_neq (c := true) c13)))
           refine zg ?_ (h := fun ν => step_on rfl rfl (mt ν))
           refine zo (zo (zo ?_))
           refine zg ?_ (h := fun ν => step_on rfl rfl (acts_pick_t ν vt xc))
           refine zg ?_ (h := fun ν => step_on rfl rfl (acts_pick_t ν vt xt))
           refine z ?_ (h := fun ν => acts_pick_f ν vt xt)
           refine nl (wt (sq (rg (zk (nl (wp_ret' ?_))))))
           exact VRes.tmp _ _ _ (by exact rfl) (bval (congrArg Value.bool (by first | rfl | (exfalso; omega) | (exfalso; simp_all; done) | (exfalso; simp_all; omega) | (simp_all; done) | (simp_all; omega))))
          ·skip
           have c13P := of_decide_eq_false c13
           refine rg (zm ?_)
           refine z ?_ (h := fun ν => acts_bin ν vt vc (r_lss (c := false) c9))
           refine zm ?_
           refine zg ?_ (h := fun ν => step_on rfl rfl (acts_load_owns (xs := [(.sl 3 0 R.length : A)]) ν qP18_ti_26 rfl (by decide) rfl))
           refine zg ?_ (h := fun ν => step_on rfl rfl (acts_call1 ν (spec_CountHoles_fn R (by first | omega | assumption | exact hr22 _ (by omega) | (rw [hmr _ (by omega)]; omega))) (ac (ArgV.reg _ _ _ (s := 1) (by simp [isl]) (by first | exact List.take_of_length_le (by simp [isl]) | (simp [isl]; done))) an) rv))
           refine zg ?_ (h := fun ν => step_on rfl rfl (acts_bin ν vt vc (r_eql (c := true) c10)))
           refine zg ?_ (h := fun ν => step_on rfl rfl (mt ν))
           refine zg ?_ (h := fun ν => step_on rfl rfl (mt ν))
           refine zg ?_ (h := fun ν => step_on rfl rfl (acts_load_owns (xs := [(.sl 3 0 R.length : A)]) ν qP18_ti_26 rfl (by decide) rfl))
           refine zg ?_ (h := fun ν => step_on rfl rfl (acts_call1 ν (spec_CountTilings_fn R (by first | omega | assumption | exact hr22 _ (by omega) | (rw [hmr _ (by omega)]; omega))) (ac (ArgV.reg _ _ _ (s := 1) (by simp [isl]) (by first | exact List.take_of_length_le (by simp [isl]) | (simp [isl]; done))) an) rv))
           refine zg ?_ (h := fun ν => step_on rfl rfl (acts_bin ν vt vt (r_neq (c := false) c11)))
           refine zg ?_ (h := fun ν => step_on rfl rfl (acts_pick_t ν vt xt))
           refine z ?_ (h := fun ν => acts_pick_f ν vt xt)
           refine zm ?_
           refine zg ?_ (h := fun ν => step_on rfl rfl (mt ν))
           refine zg ?_ (h := fun ν => step_on rfl rfl (acts_bin ν vt vc (r_geq (c := true) c12)))
           refine zg ?_ (h := fun ν => step_on rfl rfl (mt ν))
           refine zg ?_ (h := fun ν => step_on rfl rfl (mt ν))
           refine zg ?_ (h := fun ν => step_on rfl rfl (acts_load_owns (xs := [(.sl 3 0 R.length : A)]) ν qP18_ti_26 rfl (by decide) rfl))
           refine zg ?_ (h := fun ν => step_on rfl rfl (acts_call1 ν (spec_CountTilings_fn R (by first | omega | assumption | exact hr22 _ (by omega) | (rw [hmr _ (by omega)]; omega))) (ac (ArgV.reg _ _ _ (s := 1) (by simp [isl]) (by first | exact List.take_of_length_le (by simp [isl]) | (simp [isl]; done))) an) rv))
           refine zg ?_ (h := fun ν => step_on rfl rfl (acts_bin ν vt vt (r_neq (c := false) c13)))
           refine zg ?_ (h := fun ν => step_on rfl rfl (mt ν))
           refine zg ?_ (h := fun ν => step_on rfl rfl (mt ν))
           refine zg ?_ (h := fun ν => step_on rfl rfl (mt ν))
           refine zg ?_ (h := fun ν => step_on rfl rfl (acts_bin ν vt vt (r_gtr rfl)))
           refine zg ?_ (h := fun ν => step_on rfl rfl (acts_pick_f ν vt xt))
           refine zg ?_ (h := fun ν => step_on rfl rfl (acts_pick_t ν vt xt))
           refine z ?_ (h := fun ν => acts_pick_f ν vt xt)
           refine nl ?_
           refine wi (fun c14 => ?_) (fun c14 => ?_)
           ·skip
            have c14P := of_decide_eq_true c14
            refine sq (rg (zk (nl (wp_ret' ?_))))
            exact VRes.tmp _ _ _ (by exact rfl) (bval (congrArg Value.bool (by first | rfl | (exfalso; omega) | (exfalso; simp_all; done) | (exfalso; simp_all; omega) | (simp_all; done) | (simp_all; omega))))
           ·skip
            have c14P := of_decide_eq_false c14
            refine sk (sq ?_)
            rcases Bool.eq_false_or_eq_true (decide (((detR m) * (detR m)) < 1000000)) with c15 | c15
            ·skip
             have c15P := of_decide_eq_true c15
             refine rg ?_
             refine z ?_ (h := fun ν => acts_call1 ν (impl_Rectangle_fn 4 4 (by first | omega | assumption | exact hr22 _ (by omega) | (rw [hmr _ (by omega)]; omega)) (by first | omega | assumption | exact hr22 _ (by omega) | (rw [hmr _ (by omega)]; omega))) (ac (ArgV.v vc) (ac (ArgV.v vc) an)) (ResV.reg _ _ _ _ 92))
             refine z ?_ (h := fun ν => acts_callO (d := 93) (f := 6) (os := [(.o 92, some (.o ⟨3, 1, true, pl (isl (rectR 4 4))⟩))]) (os' := [(.o 92, some (.o ⟨3, 1, true, pl (isl (rectR 4 4))⟩))]) (r := V.v (.int .i64 (cbs (rectR 4 4)))) (bs := [.agg [(.sl 92 0 ((rectR 4 4).length) : A)]]) (keep := [92]) (new := []) (dead := []) ν (FnO.ren' (impl_CountBySigns_fn (rectR 4 4) (by first | omega | assumption | exact hr22 _ (by omega) | (rw [hmr _ (by omega)]; omega))) (subst1 [(800, 92)]) rfl rfl (by kernel_rfl) (by kernel_rfl) ⟨oc_pl (fun _ => rfl), trivial⟩ (by kernel_rfl) rfl (by simp only [renS, Ob.ren, pl_ren, rws_ren_doms, rws_ren_ints, rws_ren_cels, rwI_ren, rwD_ren]; first | done | rfl) (by simp only [renS, Ob.ren, pl_ren, rws_ren_doms, rws_ren_ints, rws_ren_cels, rwI_ren, rwD_ren]; first | done | rfl) rfl rfl) (by kernel_rfl) ⟨oc_pl (fun _ => rfl), trivial⟩ (by kernel_rfl) (ArgOs.cons (ArgO.slot 92 (.agg [(.sl 92 0 ((rectR 4 4).length) : A)])) (ArgOs.nil)))
             refine z ?_ (h := fun ν => acts_bin ν vt vc (r_eql (c := true) (decide_eq_true cbs44)))
             refine zm ?_
             refine zg ?_ (h := fun ν => step_on rfl rfl (mt ν))
             refine zg ?_ (h := fun ν => step_on rfl rfl (mt ν))
             refine zg ?_ (h := fun ν => step_on rfl rfl (acts_bin ν vt vt (rM (by first | omega | assumption | exact hr22 _ (by omega) | (rw [hmr _ (by omega)]; omega)) (by first | omega | assumption | exact hr22 _ (by omega) | (rw [hmr _ (by omega)]; omega)))))
             refine zg ?_ (h := fun ν => step_on rfl rfl (acts_bin ν vt vc (r_lss (c := true) c15)))
             refine z ?_ (h := fun ν => acts_pick_t ν vt xt)
             refine zm ?_
             refine zg ?_ (h := fun ν => step_on rfl rfl (mt ν))
             refine zg ?_ (h := fun ν => step_on rfl rfl (acts_bin ν vt vc (r_geq (c := true) (dec_neg (p := 0 ≤ (cbs R)) (by omega) c9))))
             refine zg ?_ (h := fun ν => step_on rfl rfl (acts_load_owns (xs := [(.sl 3 0 R.length : A)]) ν qP18_ti_26 rfl (by decide) rfl))
             refine zg ?_ (h := fun ν => step_on rfl rfl (acts_callO (d := 105) (f := 11) (os := [(.o 3, some (.o ⟨3, 1, true, pl (isl R)⟩))]) (os' := [(.o 3, some (.o ⟨3, 1, true, pl (isl R)⟩)), (.o 19, some (.o ⟨24, 1, true, rwI 3 (smR R)⟩))]) (r := V.b (.a (.sl 19 0 ((smR R).length)))) (bs := [.agg [(.sl 3 0 R.length : A)]]) (keep := [3]) (new := [19]) (dead := []) ν (FnO.ren' (impl_SignMatrix_fn R (by first | omega | assumption | exact hr22 _ (by omega) | (rw [hmr _ (by omega)]; omega))) (subst1 [(800, 3), (900, 19)]) rfl rfl (by kernel_rfl) (by kernel_rfl) ⟨oc_pl (fun _ => rfl), oc_rwI, trivial⟩ (by kernel_rfl) rfl (by simp only [renS, Ob.ren, pl_ren, rws_ren_doms, rws_ren_ints, rws_ren_cels, rwI_ren, rwD_ren]; first | done | rfl) (by simp only [renS, Ob.ren, pl_ren, rws_ren_doms, rws_ren_ints, rws_ren_cels, rwI_ren, rwD_ren]; first | done | rfl) rfl rfl) (by kernel_rfl) ⟨oc_pl (fun _ => rfl), oc_rwI, trivial⟩ (by kernel_rfl) (ArgOs.cons (ArgO.slot 104 (.agg [(.sl 3 0 R.length : A)])) (ArgOs.nil))))
             refine zg ?_ (h := fun ν => step_on rfl rfl (lnS ν qP18_un_29))
             refine zg ?_ (h := fun ν => step_on rfl rfl (acts_bin ν vt vc (r_gtr (c := true) c8)))
             refine zg ?_ (h := fun ν => step_on rfl rfl (acts_bin ν vt vt (r_beql (c := true) qP18_un_4 rfl)))
             refine z ?_ (h := fun ν => acts_pick_t ν vt xt)
             refine za (nl (wp_ret' ?_))
             exact VRes.tmp _ _ _ (by exact rfl) (BRes.val _)
            ·skip
             have c15P := of_decide_eq_false c15
             refine rg ?_
             refine z ?_ (h := fun ν => acts_call1 ν (impl_Rectangle_fn 4 4 (by first | omega | assumption | exact hr22 _ (by omega) | (rw [hmr _ (by omega)]; omega)) (by first | omega | assumption | exact hr22 _ (by omega) | (rw [hmr _ (by omega)]; omega))) (ac (ArgV.v vc) (ac (ArgV.v vc) an)) (ResV.reg _ _ _ _ 92))
             refine z ?_ (h := fun ν => acts_callO (d := 93) (f := 6) (os := [(.o 92, some (.o ⟨3, 1, true, pl (isl (rectR 4 4))⟩))]) (os' := [(.o 92, some (.o ⟨3, 1, true, pl (isl (rectR 4 4))⟩))]) (r := V.v (.int .i64 (cbs (rectR 4 4)))) (bs := [.agg [(.sl 92 0 ((rectR 4 4).length) : A)]]) (keep := [92]) (new := []) (dead := []) ν (FnO.ren' (impl_CountBySigns_fn (rectR 4 4) (by first | omega | assumption | exact hr22 _ (by omega) | (rw [hmr _ (by omega)]; omega))) (subst1 [(800, 92)]) rfl rfl (by kernel_rfl) (by kernel_rfl) ⟨oc_pl (fun _ => rfl), trivial⟩ (by kernel_rfl) rfl (by simp only [renS, Ob.ren, pl_ren, rws_ren_doms, rws_ren_ints, rws_ren_cels, rwI_ren, rwD_ren]; first | done | rfl) (by simp only [renS, Ob.ren, pl_ren, rws_ren_doms, rws_ren_ints, rws_ren_cels, rwI_ren, rwD_ren]; first | done | rfl) rfl rfl) (by kernel_rfl) ⟨oc_pl (fun _ => rfl), trivial⟩ (by kernel_rfl) (ArgOs.cons (ArgO.slot 92 (.agg [(.sl 92 0 ((rectR 4 4).length) : A)])) (ArgOs.nil)))
             refine z ?_ (h := fun ν => acts_bin ν vt vc (r_eql (c := true) (decide_eq_true cbs44)))
             refine zm ?_
             refine zg ?_ (h := fun ν => step_on rfl rfl (mt ν))
             refine zg ?_ (h := fun ν => step_on rfl rfl (mt ν))
             refine zg ?_ (h := fun ν => step_on rfl rfl (acts_bin ν vt vt (rM (by first | omega | assumption | exact hr22 _ (by omega) | (rw [hmr _ (by omega)]; omega)) (by first | omega | assumption | exact hr22 _ (by omega) | (rw [hmr _ (by omega)]; omega)))))
             refine zg ?_ (h := fun ν => step_on rfl rfl (acts_bin ν vt vc (r_lss (c := false) c15)))
             refine z ?_ (h := fun ν => acts_pick_t ν vt xt)
             refine zm (zo (zo (zo (zo (zo (zo (zo ?_)))))))
             refine z ?_ (h := fun ν => acts_pick_f ν vt xc)
             refine za (nl (wp_ret' ?_))
             exact VRes.tmp _ _ _ (by exact rfl) (bval (congrArg Value.bool (by first | rfl | (exfalso; omega) | (exfalso; simp_all; done) | (exfalso; simp_all; omega) | (simp_all; done) | (simp_all; omega))))
         ·skip
          have c12P := of_decide_eq_false c12
          refine rg (zm ?_)
          refine z ?_ (h := fun ν => acts_bin ν vt vc (r_lss (c := false) c9))
          refine zm ?_
          refine zg ?_ (h := fun ν => step_on rfl rfl (acts_load_owns (xs := [(.sl 3 0 R.length : A)]) ν qP18_ti_26 rfl (by decide) rfl))
          refine zg ?_ (h := fun ν => step_on rfl rfl (acts_call1 ν (spec_CountHoles_fn R (by first | omega | assumption | exact hr22 _ (by omega) | (rw [hmr _ (by omega)]; omega))) (ac (ArgV.reg _ _ _ (s := 1) (by simp [isl]) (by first | exact List.take_of_length_le (by simp [isl]) | (simp [isl]; done))) an) rv))
          refine zg ?_ (h := fun ν => step_on rfl rfl (acts_bin ν vt vc (r_eql (c := true) c10)))
          refine zg ?_ (h := fun ν => step_on rfl rfl (mt ν))
          refine zg ?_ (h := fun ν => step_on rfl rfl (mt ν))
          refine zg ?_ (h := fun ν => step_on rfl rfl (acts_load_owns (xs := [(.sl 3 0 R.length : A)]) ν qP18_ti_26 rfl (by decide) rfl))
          refine zg ?_ (h := fun ν => step_on rfl rfl (acts_call1 ν (spec_CountTilings_fn R (by first | omega | assumption | exact hr22 _ (by omega) | (rw [hmr _ (by omega)]; omega))) (ac (ArgV.reg _ _ _ (s := 1) (by simp [isl]) (by first | exact List.take_of_length_le (by simp [isl]) | (simp [isl]; done))) an) rv))
          refine zg ?_ (h := fun ν => step_on rfl rfl (acts_bin ν vt vt (r_neq (c := false) c11)))
          refine zg ?_ (h := fun ν => step_on rfl rfl (acts_pick_t ν vt xt))
          refine z ?_ (h := fun ν => acts_pick_f ν vt xt)
          refine zm ?_
          refine zg ?_ (h := fun ν => step_on rfl rfl (mt ν))
          refine zg ?_ (h := fun ν => step_on rfl rfl (acts_bin ν vt vc (r_geq (c := false) c12)))
          refine zg ?_ (h := fun ν => step_on rfl rfl (mt ν))
          refine zo (zo (zo (zo ?_)))
          refine zg ?_ (h := fun ν => step_offu rfl rfl (by decide) rfl ν)
          refine zg ?_ (h := fun ν => step_offx rfl rfl rfl ν)
          refine zg ?_ (h := fun ν => step_offx rfl rfl rfl ν)
          refine zg ?_ (h := fun ν => step_offx rfl rfl rfl ν)
          refine zo ?_
          refine zg ?_ (h := fun ν => step_on rfl rfl (acts_pick_f ν vt xc))
          refine z ?_ (h := fun ν => acts_pick_f ν vt xt)
          refine nl (wf (sk (sq ?_)))
          rcases Bool.eq_false_or_eq_true (decide (((detR m) * (detR m)) < 1000000)) with c16 | c16
          ·skip
           have c16P := of_decide_eq_true c16
           refine rg ?_
           refine z ?_ (h := fun ν => acts_call1 ν (impl_Rectangle_fn 4 4 (by first | omega | assumption | exact hr22 _ (by omega) | (rw [hmr _ (by omega)]; omega)) (by first | omega | assumption | exact hr22 _ (by omega) | (rw [hmr _ (by omega)]; omega))) (ac (ArgV.v vc) (ac (ArgV.v vc) an)) (ResV.reg _ _ _ _ 92))
           refine z ?_ (h := fun ν => acts_callO (d := 93) (f := 6) (os := [(.o 92, some (.o ⟨3, 1, true, pl (isl (rectR 4 4))⟩))]) (os' := [(.o 92, some (.o ⟨3, 1, true, pl (isl (rectR 4 4))⟩))]) (r := V.v (.int .i64 (cbs (rectR 4 4)))) (bs := [.agg [(.sl 92 0 ((rectR 4 4).length) : A)]]) (keep := [92]) (new := []) (dead := []) ν (FnO.ren' (impl_CountBySigns_fn (rectR 4 4) (by first | omega | assumption | exact hr22 _ (by omega) | (rw [hmr _ (by omega)]; omega))) (subst1 [(800, 92)]) rfl rfl (by kernel_rfl) (by kernel_rfl) ⟨oc_pl (fun _ => rfl), trivial⟩ (by kernel_rfl) rfl (by simp only [renS, Ob.ren, pl_ren, rws_ren_doms, rws_ren_ints, rws_ren_cels, rwI_ren, rwD_ren]; first | done | rfl) (by simp only [renS, Ob.ren, pl_ren, rws_ren_doms, rws_ren_ints, rws_ren_cels, rwI_ren, rwD_ren]; first | done | rfl) rfl rfl) (by kernel_rfl) ⟨oc_pl (fun _ => rfl), trivial⟩ (by kernel_rfl) (ArgOs.cons (ArgO.slot 92 (.agg [(.sl 92 0 ((rectR 4 4).length) : A)])) (ArgOs.nil)))
           refine z ?_ (h := fun ν => acts_bin ν vt vc (r_eql (c := true) (decide_eq_true cbs44)))
           refine zm ?_
           refine zg ?_ (h := fun ν => step_on rfl rfl (mt ν))
           refine zg ?_ (h := fun ν => step_on rfl rfl (mt ν))
           refine zg ?_ (h := fun ν => step_on rfl rfl (acts_bin ν vt vt (rM (by first | omega | assumption | exact hr22 _ (by omega) | (rw [hmr _ (by omega)]; omega)) (by first | omega | assumption | exact hr22 _ (by omega) | (rw [hmr _ (by omega)]; omega)))))
           refine zg ?_ (h := fun ν => step_on rfl rfl (acts_bin ν vt vc (r_lss (c := true) c16)))
           refine z ?_ (h := fun ν => acts_pick_t ν vt xt)
           refine zm ?_
           refine zg ?_ (h := fun ν => step_on rfl rfl (mt ν))
           refine zg ?_ (h := fun ν => step_on rfl rfl (acts_bin ν vt vc (r_geq (c := true) (dec_neg (p := 0 ≤ (cbs R)) (by omega) c9))))
           refine zg ?_ (h := fun ν => step_on rfl rfl (acts_load_owns (xs := [(.sl 3 0 R.length : A)]) ν qP18_ti_26 rfl (by decide) rfl))
           refine zg ?_ (h := fun ν => step_on rfl rfl (acts_callO (d := 105) (f := 11) (os := [(.o 3, some (.o ⟨3, 1, true, pl (isl R)⟩))]) (os' := [(.o 3, some (.o ⟨3, 1, true, pl (isl R)⟩)), (.o 19, some (.o ⟨24, 1, true, rwI 3 (smR R)⟩))]) (r := V.b (.a (.sl 19 0 ((smR R).length)))) (bs := [.agg [(.sl 3 0 R.length : A)]]) (keep := [3]) (new := [19]) (dead := []) ν (FnO.ren' (impl_SignMatrix_fn R (by first | omega | assumption | exact hr22 _ (by omega) | (rw [hmr _ (by omega)]; omega))) (subst1 [(800, 3), (900, 19)]) rfl rfl (by kernel_rfl) (by kernel_rfl) ⟨oc_pl (fun _ => rfl), oc_rwI, trivial⟩ (by kernel_rfl) rfl (by simp only [renS, Ob.ren, pl_ren, rws_ren_doms, rws_ren_ints, rws_ren_cels, rwI_ren, rwD_ren]; first | done | rfl) (by simp only [renS, Ob.ren, pl_ren, rws_ren_doms, rws_ren_ints, rws_ren_cels, rwI_ren, rwD_ren]; first | done | rfl) rfl rfl) (by kernel_rfl) ⟨oc_pl (fun _ => rfl), oc_rwI, trivial⟩ (by kernel_rfl) (ArgOs.cons (ArgO.slot 104 (.agg [(.sl 3 0 R.length : A)])) (ArgOs.nil))))
           refine zg ?_ (h := fun ν => step_on rfl rfl (lnS ν qP18_un_29))
           refine zg ?_ (h := fun ν => step_on rfl rfl (acts_bin ν vt vc (r_gtr (c := true) c8)))
           refine zg ?_ (h := fun ν => step_on rfl rfl (acts_bin ν vt vt (r_beql (c := true) qP18_un_4 rfl)))
           refine z ?_ (h := fun ν => acts_pick_t ν vt xt)
           refine za (nl (wp_ret' ?_))
           exact VRes.tmp _ _ _ (by exact rfl) (BRes.val _)
          ·skip
           have c16P := of_decide_eq_false c16
           refine rg ?_
           refine z ?_ (h := fun ν => acts_call1 ν (impl_Rectangle_fn 4 4 (by first | omega | assumption | exact hr22 _ (by omega) | (rw [hmr _ (by omega)]; omega)) (by first | omega | assumption | exact hr22 _ (by omega) | (rw [hmr _ (by omega)]; omega))) (ac (ArgV.v vc) (ac (ArgV.v vc) an)) (ResV.reg _ _ _ _ 92))
           refine z ?_ (h := fun ν => acts_callO (d := 93) (f := 6) (os := [(.o 92, some (.o ⟨3, 1, true, pl (isl (rectR 4 4))⟩))]) (os' := [(.o 92, some (.o ⟨3, 1, true, pl (isl (rectR 4 4))⟩))]) (r := V.v (.int .i64 (cbs (rectR 4 4)))) (bs := [.agg [(.sl 92 0 ((rectR 4 4).length) : A)]]) (keep := [92]) (new := []) (dead := []) ν (FnO.ren' (impl_CountBySigns_fn (rectR 4 4) (by first | omega | assumption | exact hr22 _ (by omega) | (rw [hmr _ (by omega)]; omega))) (subst1 [(800, 92)]) rfl rfl (by kernel_rfl) (by kernel_rfl) ⟨oc_pl (fun _ => rfl), trivial⟩ (by kernel_rfl) rfl (by simp only [renS, Ob.ren, pl_ren, rws_ren_doms, rws_ren_ints, rws_ren_cels, rwI_ren, rwD_ren]; first | done | rfl) (by simp only [renS, Ob.ren, pl_ren, rws_ren_doms, rws_ren_ints, rws_ren_cels, rwI_ren, rwD_ren]; first | done | rfl) rfl rfl) (by kernel_rfl) ⟨oc_pl (fun _ => rfl), trivial⟩ (by kernel_rfl) (ArgOs.cons (ArgO.slot 92 (.agg [(.sl 92 0 ((rectR 4 4).length) : A)])) (ArgOs.nil)))
           refine z ?_ (h := fun ν => acts_bin ν vt vc (r_eql (c := true) (decide_eq_true cbs44)))
           refine zm ?_
           refine zg ?_ (h := fun ν => step_on rfl rfl (mt ν))
           refine zg ?_ (h := fun ν => step_on rfl rfl (mt ν))
           refine zg ?_ (h := fun ν => step_on rfl rfl (acts_bin ν vt vt (rM (by first | omega | assumption | exact hr22 _ (by omega) | (rw [hmr _ (by omega)]; omega)) (by first | omega | assumption | exact hr22 _ (by omega) | (rw [hmr _ (by omega)]; omega)))))
           refine zg ?_ (h := fun ν => step_on rfl rfl (acts_bin ν vt vc (r_lss (c := false) c16)))
           refine z ?_ (h := fun ν => acts_pick_t ν vt xt)
           refine zm (zo (zo (zo (zo (zo (zo (zo ?_)))))))
           refine z ?_ (h := fun ν => acts_pick_f ν vt xc)
           refine za (nl (wp_ret' ?_))
           exact VRes.tmp _ _ _ (by exact rfl) (bval (congrArg Value.bool (by first | rfl | (exfalso; omega) | (exfalso; simp_all; done) | (exfalso; simp_all; omega) | (simp_all; done) | (simp_all; omega))))
       ·skip
        have c10P := of_decide_eq_false c10
        rcases Bool.eq_false_or_eq_true (decide (0 ≤ (cbe R))) with c17 | c17
        ·skip
         have c17P := of_decide_eq_true c17
         obtain ⟨hx1, hx2⟩ := hS.ex hps (of_decide_eq_true c17)
         rcases Bool.eq_false_or_eq_true (decide ((cbe R) ≠ (((cntR R) : Nat) : Int))) with c18 | c18
         ·skip
          have c18P := of_decide_eq_true c18
          refine rg (zm ?_)
          refine z ?_ (h := fun ν => acts_bin ν vt vc (r_lss (c := false) c9))
          refine zm ?_
          refine zg ?_ (h := fun ν => step_on rfl rfl (acts_load_owns (xs := [(.sl 3 0 R.length : A)]) ν qP18_ti_26 rfl (by decide) rfl))
          refine zg ?_ (h := fun ν => step_on rfl rfl (acts_call1 ν (spec_CountHoles_fn R (by first | omega | assumption | exact hr22 _ (by omega) | (rw [hmr _ (by omega)]; omega))) (ac (ArgV.reg _ _ _ (s := 1) (by simp [isl]) (by first | exact List.take_of_length_le (by simp [isl]) | (simp [isl]; done))) an) rv))
          refine zg ?_ (h := fun ν => step_on rfl rfl (acts_bin ν vt vc (r_eql (c := false) c10)))
          refine zg ?_ (h := fun ν => step_on rfl rfl (mt ν))
          refine zo (zo (zo (zo ?_)))
          refine zg ?_ (h := fun ν => step_on rfl rfl (acts_pick_f ν vt xc))
          refine z ?_ (h := fun ν => acts_pick_f ν vt xt)
          refine zm ?_
          refine zg ?_ (h := fun ν => step_on rfl rfl (mt ν))
          refine zg ?_ (h := fun ν => step_on rfl rfl (acts_bin ν vt vc (r_geq (c := true) c17)))
          refine zg ?_ (h := fun ν => step_on rfl rfl (mt ν))
          refine zg ?_ (h := fun ν => step_on rfl rfl (mt ν))
          refine zg ?_ (h := fun ν => step_on rfl rfl (acts_load_owns (xs := [(.sl 3 0 R.length : A)]) ν qP18_ti_26 rfl (by decide) rfl))
          refine zg ?_ (h := fun ν => step_on rfl rfl (acts_call1 ν (spec_CountTilings_fn R (by first | omega | assumption | exact hr22 _ (by omega) | (rw [hmr _ (by omega)]; omega))) (ac (ArgV.reg _ _ _ (s := 1) (by simp [isl]) (by first | exact List.take_of_length_le (by simp [isl]) | (simp [isl]; done))) an) rv))
          refine zg ?_ (h := fun ν => step_on rfl rfl (acts_bin ν vt vt (r_neq (c := true) c18)))
          refine zg ?_ (h := fun ν => step_on rfl rfl (mt ν))
          refine zo (zo (zo ?_))
          refine zg ?_ (h := fun ν => step_on rfl rfl (acts_pick_t ν vt xc))
          refine zg ?_ (h := fun ν => step_on rfl rfl (acts_pick_t ν vt xt))
          refine z ?_ (h := fun ν => acts_pick_f ν vt xt)
          refine nl (wt (sq (rg (zk (nl (wp_ret' ?_))))))
          exact VRes.tmp _ _ _ (by exact rfl) (bval (congrArg Value.bool (by first | rfl | (exfalso; omega) | (exfalso; simp_all; done) | (exfalso; simp_all; omega) | (simp_all; done) | (simp_all; omega))))
         ·skip
          have c18P := of_decide_eq_false c18
          refine rg (zm ?_)
          refine z ?_ (h := fun ν => acts_bin ν vt vc (r_lss (c := false) c9))
          refine zm ?_
          refine zg ?_ (h := fun ν => step_on rfl rfl (acts_load_owns (xs := [(.sl 3 0 R.length : A)]) ν qP18_ti_26 rfl (by decide) rfl))
          refine zg ?_ (h := fun ν => step_on rfl rfl (acts_call1 ν (spec_CountHoles_fn R (by first | omega | assumption | exact hr22 _ (by omega) | (rw [hmr _ (by omega)]; omega))) (ac (ArgV.reg _ _ _ (s := 1) (by simp [isl]) (by first | exact List.take_of_length_le (by simp [isl]) | (simp [isl]; done))) an) rv))
          refine zg ?_ (h := fun ν => step_on rfl rfl (acts_bin ν vt vc (r_eql (c := false) c10)))
          refine zg ?_ (h := fun ν => step_on rfl rfl (mt ν))
          refine zo (zo (zo (zo ?_)))
          refine zg ?_ (h := fun ν => step_on rfl rfl (acts_pick_f ν vt xc))
          refine z ?_ (h := fun ν => acts_pick_f ν vt xt)
          refine zm ?_
          refine zg ?_ (h := fun ν => step_on rfl rfl (mt ν))
          refine zg ?_ (h := fun ν => step_on rfl rfl (acts_bin ν vt vc (r_geq (c := true) c17)))
          refine zg ?_ (h := fun ν => step_on rfl rfl (mt ν))
          refine zg ?_ (h := fun ν => step_on rfl rfl (mt ν))
          refine zg ?_ (h := fun ν => step_on rfl rfl (acts_load_owns (xs := [(.sl 3 0 R.length : A)]) ν qP18_ti_26 rfl (by decide) rfl))
          refine zg ?_ (h := fun ν => step_on rfl rfl (acts_call1 ν (spec_CountTilings_fn R (by first | omega | assumption | exact hr22 _ (by omega) | (rw [hmr _ (by omega)]; omega))) (ac (ArgV.reg _ _ _ (s := 1) (by simp [isl]) (by first | exact List.take_of_length_le (by simp [isl]) | (simp [isl]; done))) an) rv))
          refine zg ?_ (h := fun ν => step_on rfl rfl (acts_bin ν vt vt (r_neq (c := false) c18)))
          refine zg ?_ (h := fun ν => step_on rfl rfl (mt ν))
          refine zg ?_ (h := fun ν => step_on rfl rfl (mt ν))
          refine zg ?_ (h := fun ν => step_on rfl rfl (mt ν))
          refine zg ?_ (h := fun ν => step_on rfl rfl (acts_bin ν vt vt (r_gtr rfl)))
          refine zg ?_ (h := fun ν => step_on rfl rfl (acts_pick_f ν vt xt))
          refine zg ?_ (h := fun ν => step_on rfl rfl (acts_pick_t ν vt xt))
          refine z ?_ (h := fun ν => acts_pick_f ν vt xt)
          refine nl ?_
          refine wi (fun c19 => ?_) (fun c19 => ?_)
          ·skip
           have c19P := of_decide_eq_true c19
           refine sq (rg (zk (nl (wp_ret' ?_))))
           exact VRes.tmp _ _ _ (by exact rfl) (bval (congrArg Value.bool (by first | rfl | (exfalso; omega) | (exfalso; simp_all; done) | (exfalso; simp_all; omega) | (simp_all; done) | (simp_all; omega))))
          ·skip
           have c19P := of_decide_eq_false c19
           refine sk (sq ?_)
           rcases Bool.eq_false_or_eq_true (decide (((detR m) * (detR m)) < 1000000)) with c20 | c20
           ·skip
            have c20P := of_decide_eq_true c20
            refine rg ?_
            refine z ?_ (h := fun ν => acts_call1 ν (impl_Rectangle_fn 4 4 (by first | omega | assumption | exact hr22 _ (by omega) | (rw [hmr _ (by omega)]; omega)) (by first | omega | assumption | exact hr22 _ (by omega) | (rw [hmr _ (by omega)]; omega))) (ac (ArgV.v vc) (ac (ArgV.v vc) an)) (ResV.reg _ _ _ _ 92))
            refine z ?_ (h := fun ν => acts_callO (d := 93) (f := 6) (os := [(.o 92, some (.o ⟨3, 1, true, pl (isl (rectR 4 4))⟩))]) (os' := [(.o 92, some (.o ⟨3, 1, true, pl (isl (rectR 4 4))⟩))]) (r := V.v (.int .i64 (cbs (rectR 4 4)))) (bs := [.agg [(.sl 92 0 ((rectR 4 4).length) : A)]]) (keep := [92]) (new := []) (dead := []) ν (FnO.ren' (impl_CountBySigns_fn (rectR 4 4) (by first | omega | assumption | exact hr22 _ (by omega) | (rw [hmr _ (by omega)]; omega))) (subst1 [(800, 92)]) rfl rfl (by kernel_rfl) (by kernel_rfl) ⟨oc_pl (fun _ => rfl), trivial⟩ (by kernel_rfl) rfl (by simp only [renS, Ob.ren, pl_ren, rws_ren_doms, rws_ren_ints, rws_ren_cels, rwI_ren, rwD_ren]; first | done | rfl) (by simp only [renS, Ob.ren, pl_ren, rws_ren_doms, rws_ren_ints, rws_ren_cels, rwI_ren, rwD_ren]; first | done | rfl) rfl rfl) (by kernel_rfl) ⟨oc_pl (fun _ => rfl), trivial⟩ (by kernel_rfl) (ArgOs.cons (ArgO.slot 92 (.agg [(.sl 92 0 ((rectR 4 4).length) : A)])) (ArgOs.nil)))
            refine z ?_ (h := fun ν => acts_bin ν vt vc (r_eql (c := true) (decide_eq_true cbs44)))
            refine zm ?_
            refine zg ?_ (h := fun ν => step_on rfl rfl (mt ν))
            refine zg ?_ (h := fun ν => step_on rfl rfl (mt ν))
            refine zg ?_ (h := fun ν => step_on rfl rfl (acts_bin ν vt vt (rM (by first | omega | assumption | exact hr22 _ (by omega) | (rw [hmr _ (by omega)]; omega)) (by first | omega | assumption | exact hr22 _ (by omega) | (rw [hmr _ (by omega)]; omega)))))
            refine zg ?_ (h := fun ν => step_on rfl rfl (acts_bin ν vt vc (r_lss (c := true) c20)))
            refine z ?_ (h := fun ν => acts_pick_t ν vt xt)
            refine zm ?_
            refine zg ?_ (h := fun ν => step_on rfl rfl (mt ν))
            refine zg ?_ (h := fun ν => step_on rfl rfl (acts_bin ν vt vc (r_geq (c := true) (dec_neg (p := 0 ≤ (cbs R)) (by omega) c9))))
            refine zg ?_ (h := fun ν => step_on rfl rfl (acts_load_owns (xs := [(.sl 3 0 R.length : A)]) ν qP18_ti_26 rfl (by decide) rfl))
            refine zg ?_ (h := fun ν => step_on rfl rfl (acts_callO (d := 105) (f := 11) (os := [(.o 3, some (.o ⟨3, 1, true, pl (isl R)⟩))]) (os' := [(.o 3, some (.o ⟨3, 1, true, pl (isl R)⟩)), (.o 19, some (.o ⟨24, 1, true, rwI 3 (smR R)⟩))]) (r := V.b (.a (.sl 19 0 ((smR R).length)))) (bs := [.agg [(.sl 3 0 R.length : A)]]) (keep := [3]) (new := [19]) (dead := []) ν (FnO.ren' (impl_SignMatrix_fn R (by first | omega | assumption | exact hr22 _ (by omega) | (rw [hmr _ (by omega)]; omega))) (subst1 [(800, 3), (900, 19)]) rfl rfl (by kernel_rfl) (by kernel_rfl) ⟨oc_pl (fun _ => rfl), oc_rwI, trivial⟩ (by kernel_rfl) rfl (by simp only [renS, Ob.ren, pl_ren, rws_ren_doms, rws_ren_ints, rws_ren_cels, rwI_ren, rwD_ren]; first | done | rfl) (by simp only [renS, Ob.ren, pl_ren, rws_ren_doms, rws_ren_ints, rws_ren_cels, rwI_ren, rwD_ren]; first | done | rfl) rfl rfl) (by kernel_rfl) ⟨oc_pl (fun _ => rfl), oc_rwI, trivial⟩ (by kernel_rfl) (ArgOs.cons (ArgO.slot 104 (.agg [(.sl 3 0 R.length : A)])) (ArgOs.nil))))
            refine zg ?_ (h := fun ν => step_on rfl rfl (lnS ν qP18_un_29))
            refine zg ?_ (h := fun ν => step_on rfl rfl (acts_bin ν vt vc (r_gtr (c := true) c8)))
            refine zg ?_ (h := fun ν => step_on rfl rfl (acts_bin ν vt vt (r_beql (c := true) qP18_un_4 rfl)))
            refine z ?_ (h := fun ν => acts_pick_t ν vt xt)
            refine za (nl (wp_ret' ?_))
            exact VRes.tmp _ _ _ (by exact rfl) (BRes.val _)
           ·skip
            have c20P := of_decide_eq_false c20
            refine rg ?_
            refine z ?_ (h := fun ν => acts_call1 ν (impl_Rectangle_fn 4 4 (by first | omega | assumption | exact hr22 _ (by omega) | (rw [hmr _ (by omega)]; omega)) (by first | omega | assumption | exact hr22 _ (by omega) | (rw [hmr _ (by omega)]; omega))) (ac (ArgV.v vc) (ac (ArgV.v vc) an)) (ResV.reg _ _ _ _ 92))
            refine z ?_ (h := fun ν => acts_callO (d := 93) (f := 6) (os := [(.o 92, some (.o ⟨3, 1, true, pl (isl (rectR 4 4))⟩))]) (os' := [(.o 92, some (.o ⟨3, 1, true, pl (isl (rectR 4 4))⟩))]) (r := V.v (.int .i64 (cbs (rectR 4 4)))) (bs := [.agg [(.sl 92 0 ((rectR 4 4).length) : A)]]) (keep := [92]) (new := []) (dead := []) ν (FnO.ren' (impl_CountBySigns_fn (rectR 4 4) (by first | omega | assumption | exact hr22 _ (by omega) | (rw [hmr _ (by omega)]; omega))) (subst1 [(800, 92)]) rfl rfl (by kernel_rfl) (by kernel_rfl) ⟨oc_pl (fun _ => rfl), trivial⟩ (by kernel_rfl) rfl (by simp only [renS, Ob.ren, pl_ren, rws_ren_doms, rws_ren_ints, rws_ren_cels, rwI_ren, rwD_ren]; first | done | rfl) (by simp only [renS, Ob.ren, pl_ren, rws_ren_doms, rws_ren_ints, rws_ren_cels, rwI_ren, rwD_ren]; first | done | rfl) rfl rfl) (by kernel_rfl) ⟨oc_pl (fun _ => rfl), trivial⟩ (by kernel_rfl) (ArgOs.cons (ArgO.slot 92 (.agg [(.sl 92 0 ((rectR 4 4).length) : A)])) (ArgOs.nil)))
            refine z ?_ (h := fun ν => acts_bin ν vt vc (r_eql (c := true) (decide_eq_true cbs44)))
            refine zm ?_
            refine zg ?_ (h := fun ν => step_on rfl rfl (mt ν))
            refine zg ?_ (h := fun ν => step_on rfl rfl (mt ν))
            refine zg ?_ (h := fun ν => step_on rfl rfl (acts_bin ν vt vt (rM (by first | omega | assumption | exact hr22 _ (by omega) | (rw [hmr _ (by omega)]; omega)) (by first | omega | assumption | exact hr22 _ (by omega) | (rw [hmr _ (by omega)]; omega)))))
            refine zg ?_ (h := fun ν => step_on rfl rfl (acts_bin ν vt vc (r_lss (c := false) c20)))
            refine z ?_ (h := fun ν => acts_pick_t ν vt xt)
            refine zm (zo (zo (zo (zo (zo (zo (zo ?_)))))))
            refine z ?_ (h := fun ν => acts_pick_f ν vt xc)
            refine za (nl (wp_ret' ?_))
            exact VRes.tmp _ _ _ (by exact rfl) (bval (congrArg Value.bool (by first | rfl | (exfalso; omega) | (exfalso; simp_all; done) | (exfalso; simp_all; omega) | (simp_all; done) | (simp_all; omega))))
        ·skip
         have c17P := of_decide_eq_false c17
         refine rg (zm ?_)
         refine z ?_ (h := fun ν => acts_bin ν vt vc (r_lss (c := false) c9))
         refine zm ?_
         refine zg ?_ (h := fun ν => step_on rfl rfl (acts_load_owns (xs := [(.sl 3 0 R.length : A)]) ν qP18_ti_26 rfl (by decide) rfl))
         refine zg ?_ (h := fun ν => step_on rfl rfl (acts_call1 ν (spec_CountHoles_fn R (by first | omega | assumption | exact hr22 _ (by omega) | (rw [hmr _ (by omega)]; omega))) (ac (ArgV.reg _ _ _ (s := 1) (by simp [isl]) (by first | exact List.take_of_length_le (by simp [isl]) | (simp [isl]; done))) an) rv))
         refine zg ?_ (h := fun ν => step_on rfl rfl (acts_bin ν vt vc (r_eql (c := false) c10)))
         refine zg ?_ (h := fun ν => step_on rfl rfl (mt ν))
         refine zo (zo (zo (zo ?_)))
         refine zg ?_ (h := fun ν => step_on rfl rfl (acts_pick_f ν vt xc))
         refine z ?_ (h := fun ν => acts_pick_f ν vt xt)
         refine zm ?_
         refine zg ?_ (h := fun ν => step_on rfl rfl (mt ν))
         refine zg ?_ (h := fun ν => step_on rfl rfl (acts_bin ν vt vc (r_geq (c := false) c17)))
         refine zg ?_ (h := fun ν => step_on rfl rfl (mt ν))
         refine zo (zo (zo (zo ?_)))
         refine zg ?_ (h := fun ν => step_offu rfl rfl (by decide) rfl ν)
         refine zg ?_ (h := fun ν => step_offx rfl rfl rfl ν)
         refine zg ?_ (h := fun ν => step_offx rfl rfl rfl ν)
         refine zg ?_ (h := fun ν => step_offx rfl rfl rfl ν)
         refine zo ?_
         refine zg ?_ (h := fun ν => step_on rfl rfl (acts_pick_f ν vt xc))
         refine z ?_ (h := fun ν => acts_pick_f ν vt xt)
         refine nl (wf (sk (sq ?_)))
         rcases Bool.eq_false_or_eq_true (decide (((detR m) * (detR m)) < 1000000)) with c21 | c21
         ·skip
          have c21P := of_decide_eq_true c21
          refine rg ?_
          refine z ?_ (h := fun ν => acts_call1 ν (impl_Rectangle_fn 4 4 (by first | omega | assumption | exact hr22 _ (by omega) | (rw [hmr _ (by omega)]; omega)) (by first | omega | assumption | exact hr22 _ (by omega) | (rw [hmr _ (by omega)]; omega))) (ac (ArgV.v vc) (ac (ArgV.v vc) an)) (ResV.reg _ _ _ _ 92))
          refine z ?_ (h := fun ν => acts_callO (d := 93) (f := 6) (os := [(.o 92, some (.o ⟨3, 1, true, pl (isl (rectR 4 4))⟩))]) (os' := [(.o 92, some (.o ⟨3, 1, true, pl (isl (rectR 4 4))⟩))]) (r := V.v (.int .i64 (cbs (rectR 4 4)))) (bs := [.agg [(.sl 92 0 ((rectR 4 4).length) : A)]]) (keep := [92]) (new := []) (dead := []) ν (FnO.ren' (impl_CountBySigns_fn (rectR 4 4) (by first | omega | assumption | exact hr22 _ (by omega) | (rw [hmr _ (by omega)]; omega))) (subst1 [(800, 92)]) rfl rfl (by kernel_rfl) (by kernel_rfl) ⟨oc_pl (fun _ => rfl), trivial⟩ (by kernel_rfl) rfl (by simp only [renS, Ob.ren, pl_ren, rws_ren_doms, rws_ren_ints, rws_ren_cels, rwI_ren, rwD_ren]; first | done | rfl) (by simp only [renS, Ob.ren, pl_ren, rws_ren_doms, rws_ren_ints, rws_ren_cels, rwI_ren, rwD_ren]; first | done | rfl) rfl rfl) (by kernel_rfl) ⟨oc_pl (fun _ => rfl), trivial⟩ (by kernel_rfl) (ArgOs.cons (ArgO.slot 92 (.agg [(.sl 92 0 ((rectR 4 4).length) : A)])) (ArgOs.nil)))
          refine z ?_ (h := fun ν => acts_bin ν vt vc (r_eql (c := true) (decide_eq_true cbs44)))
          refine zm ?_
          refine zg ?_ (h := fun ν => step_on rfl rfl (mt ν))
          refine zg ?_ (h := fun ν => step_on rfl rfl (mt ν))
          refine zg ?_ (h := fun ν => step_on rfl rfl (acts_bin ν vt vt (rM (by first | omega | assumption | exact hr22 _ (by omega) | (rw [hmr _ (by omega)]; omega)) (by first | omega | assumption | exact hr22 _ (by omega) | (rw [hmr _ (by omega)]; omega)))))
          refine zg ?_ (h := fun ν => step_on rfl rfl (acts_bin ν vt vc (r_lss (c := true) c21)))
          refine z ?_ (h := fun ν => acts_pick_t ν vt xt)
          refine zm ?_
          refine zg ?_ (h := fun ν => step_on rfl rfl (mt ν))
          refine zg ?_ (h := fun ν => step_on rfl rfl (acts_bin ν vt vc (r_geq (c := true) (dec_neg (p := 0 ≤ (cbs R)) (by omega) c9))))
          refine zg ?_ (h := fun ν => step_on rfl rfl (acts_load_owns (xs := [(.sl 3 0 R.length : A)]) ν qP18_ti_26 rfl (by decide) rfl))
          refine zg ?_ (h := fun ν => step_on rfl rfl (acts_callO (d := 105) (f := 11) (os := [(.o 3, some (.o ⟨3, 1, true, pl (isl R)⟩))]) (os' := [(.o 3, some (.o ⟨3, 1, true, pl (isl R)⟩)), (.o 19, some (.o ⟨24, 1, true, rwI 3 (smR R)⟩))]) (r := V.b (.a (.sl 19 0 ((smR R).length)))) (bs := [.agg [(.sl 3 0 R.length : A)]]) (keep := [3]) (new := [19]) (dead := []) ν (FnO.ren' (impl_SignMatrix_fn R (by first | omega | assumption | exact hr22 _ (by omega) | (rw [hmr _ (by omega)]; omega))) (subst1 [(800, 3), (900, 19)]) rfl rfl (by kernel_rfl) (by kernel_rfl) ⟨oc_pl (fun _ => rfl), oc_rwI, trivial⟩ (by kernel_rfl) rfl (by simp only [renS, Ob.ren, pl_ren, rws_ren_doms, rws_ren_ints, rws_ren_cels, rwI_ren, rwD_ren]; first | done | rfl) (by simp only [renS, Ob.ren, pl_ren, rws_ren_doms, rws_ren_ints, rws_ren_cels, rwI_ren, rwD_ren]; first | done | rfl) rfl rfl) (by kernel_rfl) ⟨oc_pl (fun _ => rfl), oc_rwI, trivial⟩ (by kernel_rfl) (ArgOs.cons (ArgO.slot 104 (.agg [(.sl 3 0 R.length : A)])) (ArgOs.nil))))
          refine zg ?_ (h := fun ν => step_on rfl rfl (lnS ν qP18_un_29))
          refine zg ?_ (h := fun ν => step_on rfl rfl (acts_bin ν vt vc (r_gtr (c := true) c8)))
          refine zg ?_ (h := fun ν => step_on rfl rfl (acts_bin ν vt vt (r_beql (c := true) qP18_un_4 rfl)))
          refine z ?_ (h := fun ν => acts_pick_t ν vt xt)
          refine za (nl (wp_ret' ?_))
          exact VRes.tmp _ _ _ (by exact rfl) (BRes.val _)
         ·skip
          have c21P := of_decide_eq_false c21
          refine rg ?_
          refine z ?_ (h := fun ν => acts_call1 ν (impl_Rectangle_fn 4 4 (by first | omega | assumption | exact hr22 _ (by omega) | (rw [hmr _ (by omega)]; omega)) (by first | omega | assumption | exact hr22 _ (by omega) | (rw [hmr _ (by omega)]; omega))) (ac (ArgV.v vc) (ac (ArgV.v vc) an)) (ResV.reg _ _ _ _ 92))
          refine z ?_ (h := fun ν => acts_callO (d := 93) (f := 6) (os := [(.o 92, some (.o ⟨3, 1, true, pl (isl (rectR 4 4))⟩))]) (os' := [(.o 92, some (.o ⟨3, 1, true, pl (isl (rectR 4 4))⟩))]) (r := V.v (.int .i64 (cbs (rectR 4 4)))) (bs := [.agg [(.sl 92 0 ((rectR 4 4).length) : A)]]) (keep := [92]) (new := []) (dead := []) ν (FnO.ren' (impl_CountBySigns_fn (rectR 4 4) (by first | omega | assumption | exact hr22 _ (by omega) | (rw [hmr _ (by omega)]; omega))) (subst1 [(800, 92)]) rfl rfl (by kernel_rfl) (by kernel_rfl) ⟨oc_pl (fun _ => rfl), trivial⟩ (by kernel_rfl) rfl (by simp only [renS, Ob.ren, pl_ren, rws_ren_doms, rws_ren_ints, rws_ren_cels, rwI_ren, rwD_ren]; first | done | rfl) (by simp only [renS, Ob.ren, pl_ren, rws_ren_doms, rws_ren_ints, rws_ren_cels, rwI_ren, rwD_ren]; first | done | rfl) rfl rfl) (by kernel_rfl) ⟨oc_pl (fun _ => rfl), trivial⟩ (by kernel_rfl) (ArgOs.cons (ArgO.slot 92 (.agg [(.sl 92 0 ((rectR 4 4).length) : A)])) (ArgOs.nil)))
          refine z ?_ (h := fun ν => acts_bin ν vt vc (r_eql (c := true) (decide_eq_true cbs44)))
          refine zm ?_
          refine zg ?_ (h := fun ν => step_on rfl rfl (mt ν))
          refine zg ?_ (h := fun ν => step_on rfl rfl (mt ν))
          refine zg ?_ (h := fun ν => step_on rfl rfl (acts_bin ν vt vt (rM (by first | omega | assumption | exact hr22 _ (by omega) | (rw [hmr _ (by omega)]; omega)) (by first | omega | assumption | exact hr22 _ (by omega) | (rw [hmr _ (by omega)]; omega)))))
          refine zg ?_ (h := fun ν => step_on rfl rfl (acts_bin ν vt vc (r_lss (c := false) c21)))
          refine z ?_ (h := fun ν => acts_pick_t ν vt xt)
          refine zm (zo (zo (zo (zo (zo (zo (zo ?_)))))))
          refine z ?_ (h := fun ν => acts_pick_f ν vt xc)
          refine za (nl (wp_ret' ?_))
          exact VRes.tmp _ _ _ (by exact rfl) (bval (congrArg Value.bool (by first | rfl | (exfalso; omega) | (exfalso; simp_all; done) | (exfalso; simp_all; omega) | (simp_all; done) | (simp_all; omega))))
     ·skip
      have c8P := of_decide_eq_false c8
      refine sk (sq ?_)
      rcases Bool.eq_false_or_eq_true (decide (((detR m) * (detR m)) < 1000000)) with c22 | c22
      ·skip
       have c22P := of_decide_eq_true c22
       refine rg ?_
       refine z ?_ (h := fun ν => acts_call1 ν (impl_Rectangle_fn 4 4 (by first | omega | assumption | exact hr22 _ (by omega) | (rw [hmr _ (by omega)]; omega)) (by first | omega | assumption | exact hr22 _ (by omega) | (rw [hmr _ (by omega)]; omega))) (ac (ArgV.v vc) (ac (ArgV.v vc) an)) (ResV.reg _ _ _ _ 92))
       refine z ?_ (h := fun ν => acts_callO (d := 93) (f := 6) (os := [(.o 92, some (.o ⟨3, 1, true, pl (isl (rectR 4 4))⟩))]) (os' := [(.o 92, some (.o ⟨3, 1, true, pl (isl (rectR 4 4))⟩))]) (r := V.v (.int .i64 (cbs (rectR 4 4)))) (bs := [.agg [(.sl 92 0 ((rectR 4 4).length) : A)]]) (keep := [92]) (new := []) (dead := []) ν (FnO.ren' (impl_CountBySigns_fn (rectR 4 4) (by first | omega | assumption | exact hr22 _ (by omega) | (rw [hmr _ (by omega)]; omega))) (subst1 [(800, 92)]) rfl rfl (by kernel_rfl) (by kernel_rfl) ⟨oc_pl (fun _ => rfl), trivial⟩ (by kernel_rfl) rfl (by simp only [renS, Ob.ren, pl_ren, rws_ren_doms, rws_ren_ints, rws_ren_cels, rwI_ren, rwD_ren]; first | done | rfl) (by simp only [renS, Ob.ren, pl_ren, rws_ren_doms, rws_ren_ints, rws_ren_cels, rwI_ren, rwD_ren]; first | done | rfl) rfl rfl) (by kernel_rfl) ⟨oc_pl (fun _ => rfl), trivial⟩ (by kernel_rfl) (ArgOs.cons (ArgO.slot 92 (.agg [(.sl 92 0 ((rectR 4 4).length) : A)])) (ArgOs.nil)))
       refine z ?_ (h := fun ν => acts_bin ν vt vc (r_eql (c := true) (decide_eq_true cbs44)))
       refine zm ?_
       refine zg ?_ (h := fun ν => step_on rfl rfl (mt ν))
       refine zg ?_ (h := fun ν => step_on rfl rfl (mt ν))
       refine zg ?_ (h := fun ν => step_on rfl rfl (acts_bin ν vt vt (rM (by first | omega | assumption | exact hr22 _ (by omega) | (rw [hmr _ (by omega)]; omega)) (by first | omega | assumption | exact hr22 _ (by omega) | (rw [hmr _ (by omega)]; omega)))))
       refine zg ?_ (h := fun ν => step_on rfl rfl (acts_bin ν vt vc (r_lss (c := true) c22)))
       refine z ?_ (h := fun ν => acts_pick_t ν vt xt)
       refine zm ?_
       refine zg ?_ (h := fun ν => step_on rfl rfl (mt ν))
       refine zg ?_ (h := fun ν => step_on rfl rfl (acts_bin ν vt vc (r_geq rfl)))
       refine zg ?_ (h := fun ν => step_on rfl rfl (acts_load_owns (xs := [(.sl 3 0 R.length : A)]) ν qP18_ti_26 rfl (by decide) rfl))
       refine zg ?_ (h := fun ν => step_on rfl rfl (acts_callO (d := 105) (f := 11) (os := [(.o 3, some (.o ⟨3, 1, true, pl (isl R)⟩))]) (os' := [(.o 3, some (.o ⟨3, 1, true, pl (isl R)⟩)), (.o 19, some (.o ⟨24, 1, true, rwI 3 (smR R)⟩))]) (r := V.b (.a (.sl 19 0 ((smR R).length)))) (bs := [.agg [(.sl 3 0 R.length : A)]]) (keep := [3]) (new := [19]) (dead := []) ν (FnO.ren' (impl_SignMatrix_fn R (by first | omega | assumption | exact hr22 _ (by omega) | (rw [hmr _ (by omega)]; omega))) (subst1 [(800, 3), (900, 19)]) rfl rfl (by kernel_rfl) (by kernel_rfl) ⟨oc_pl (fun _ => rfl), oc_rwI, trivial⟩ (by kernel_rfl) rfl (by simp only [renS, Ob.ren, pl_ren, rws_ren_doms, rws_ren_ints, rws_ren_cels, rwI_ren, rwD_ren]; first | done | rfl) (by simp only [renS, Ob.ren, pl_ren, rws_ren_doms, rws_ren_ints, rws_ren_cels, rwI_ren, rwD_ren]; first | done | rfl) rfl rfl) (by kernel_rfl) ⟨oc_pl (fun _ => rfl), oc_rwI, trivial⟩ (by kernel_rfl) (ArgOs.cons (ArgO.slot 104 (.agg [(.sl 3 0 R.length : A)])) (ArgOs.nil))))
       refine zg ?_ (h := fun ν => step_on rfl rfl (lnS ν qP18_un_29))
       refine zg ?_ (h := fun ν => step_on rfl rfl (acts_bin ν vt vc (r_gtr (c := false) c8)))
       refine zg ?_ (h := fun ν => step_on rfl rfl (acts_bin ν vt vt (r_beql (c := (decide (decide (0 ≤ (cbs R)) = false))) qP18_un_4 rfl)))
       refine z ?_ (h := fun ν => acts_pick_t ν vt xt)
       refine za (nl (wp_ret' ?_))
       exact VRes.tmp _ _ _ (by exact rfl) (bval (congrArg Value.bool (by first | rfl | (exfalso; omega) | (exfalso; simp_all; done) | (exfalso; simp_all; omega) | (simp_all; done) | (simp_all; omega))))
      ·skip
       have c22P := of_decide_eq_false c22
       refine rg ?_
       refine z ?_ (h := fun ν => acts_call1 ν (impl_Rectangle_fn 4 4 (by first | omega | assumption | exact hr22 _ (by omega) | (rw [hmr _ (by omega)]; omega)) (by first | omega | assumption | exact hr22 _ (by omega) | (rw [hmr _ (by omega)]; omega))) (ac (ArgV.v vc) (ac (ArgV.v vc) an)) (ResV.reg _ _ _ _ 92))
       refine z ?_ (h := fun ν => acts_callO (d := 93) (f := 6) (os := [(.o 92, some (.o ⟨3, 1, true, pl (isl (rectR 4 4))⟩))]) (os' := [(.o 92, some (.o ⟨3, 1, true, pl (isl (rectR 4 4))⟩))]) (r := V.v (.int .i64 (cbs (rectR 4 4)))) (bs := [.agg [(.sl 92 0 ((rectR 4 4).length) : A)]]) (keep := [92]) (new := []) (dead := []) ν (FnO.ren' (impl_CountBySigns_fn (rectR 4 4) (by first | omega | assumption | exact hr22 _ (by omega) | (rw [hmr _ (by omega)]; omega))) (subst1 [(800, 92)]) rfl rfl (by kernel_rfl) (by kernel_rfl) ⟨oc_pl (fun _ => rfl), trivial⟩ (by kernel_rfl) rfl (by simp only [renS, Ob.ren, pl_ren, rws_ren_doms, rws_ren_ints, rws_ren_cels, rwI_ren, rwD_ren]; first | done | rfl) (by simp only [renS, Ob.ren, pl_ren, rws_ren_doms, rws_ren_ints, rws_ren_cels, rwI_ren, rwD_ren]; first | done | rfl) rfl rfl) (by kernel_rfl) ⟨oc_pl (fun _ => rfl), trivial⟩ (by kernel_rfl) (ArgOs.cons (ArgO.slot 92 (.agg [(.sl 92 0 ((rectR 4 4).length) : A)])) (ArgOs.nil)))
       refine z ?_ (h := fun ν => acts_bin ν vt vc (r_eql (c := true) (decide_eq_true cbs44)))
       refine zm ?_
       refine zg ?_ (h := fun ν => step_on rfl rfl (mt ν))
       refine zg ?_ (h := fun ν => step_on rfl rfl (mt ν))
       refine zg ?_ (h := fun ν => step_on rfl rfl (acts_bin ν vt vt (rM (by first | omega | assumption | exact hr22 _ (by omega) | (rw [hmr _ (by omega)]; omega)) (by first | omega | assumption | exact hr22 _ (by omega) | (rw [hmr _ (by omega)]; omega)))))
       refine zg ?_ (h := fun ν => step_on rfl rfl (acts_bin ν vt vc (r_lss (c := false) c22)))
       refine z ?_ (h := fun ν => acts_pick_t ν vt xt)
       refine zm (zo (zo (zo (zo (zo (zo (zo ?_)))))))
       refine z ?_ (h := fun ν => acts_pick_f ν vt xc)
       refine za (nl (wp_ret' ?_))
       exact VRes.tmp _ _ _ (by exact rfl) (bval (congrArg Value.bool (by first | rfl | (exfalso; omega) | (exfalso; simp_all; done) | (exfalso; simp_all; omega) | (simp_all; done) | (simp_all; omega))))
    ·skip
     have hno := so2 c7
     have hlz := smR_nl hno
     have hcn := hneg hlz
     refine rg ?_
     refine z ?_ (h := fun ν => acts_load_owns (xs := [(.sl 3 0 R.length : A)]) ν qP18_ti_26 rfl (by decide) rfl)
     refine z ?_ (h := fun ν => acts_callO (d := 61) (f := 11) (os := [(.o 3, some (.o ⟨3, 1, true, pl (isl R)⟩))]) (os' := [(.o 3, some (.o ⟨3, 1, true, pl (isl R)⟩))]) (r := V.v (.slice none 0 0)) (bs := [.agg [(.sl 3 0 R.length : A)]]) (keep := [3]) (new := []) (dead := []) ν (FnO.ren' (SignMatrix_no2 R (by first | omega | assumption | exact hr22 _ (by omega) | (rw [hmr _ (by omega)]; omega)) (by first | omega | assumption | exact hr22 _ (by omega) | (rw [hmr _ (by omega)]; omega)) (by first | omega | assumption | exact hr22 _ (by omega) | (rw [hmr _ (by omega)]; omega))) (subst1 [(800, 3)]) rfl rfl (by kernel_rfl) (by kernel_rfl) ⟨oc_pl (fun _ => rfl), trivial⟩ (by kernel_rfl) rfl (by simp only [renS, Ob.ren, pl_ren, rws_ren_doms, rws_ren_ints, rws_ren_cels, rwI_ren, rwD_ren]; first | done | rfl) (by simp only [renS, Ob.ren, pl_ren, rws_ren_doms, rws_ren_ints, rws_ren_cels, rwI_ren, rwD_ren]; first | done | rfl) rfl rfl) (by kernel_rfl) ⟨oc_pl (fun _ => rfl), trivial⟩ (by kernel_rfl) (ArgOs.cons (ArgO.slot 60 (.agg [(.sl 3 0 R.length : A)])) (ArgOs.nil)))
     refine z ?_ (h := fun ν => acts_len (iv := 0) ν qP18_un_29 xt (LenOf.nil 0 0) rfl)
     refine z ?_ (h := fun ν => acts_bin ν vt vc (r_gtr (c := false) rfl))
     refine nl (wf (sk (sq ?_)))
     rcases Bool.eq_false_or_eq_true (decide (((detR m) * (detR m)) < 1000000)) with c23 | c23
     ·skip
      have c23P := of_decide_eq_true c23
      refine rg ?_
      refine z ?_ (h := fun ν => acts_call1 ν (impl_Rectangle_fn 4 4 (by first | omega | assumption | exact hr22 _ (by omega) | (rw [hmr _ (by omega)]; omega)) (by first | omega | assumption | exact hr22 _ (by omega) | (rw [hmr _ (by omega)]; omega))) (ac (ArgV.v vc) (ac (ArgV.v vc) an)) (ResV.reg _ _ _ _ 92))
      refine z ?_ (h := fun ν => acts_callO (d := 93) (f := 6) (os := [(.o 92, some (.o ⟨3, 1, true, pl (isl (rectR 4 4))⟩))]) (os' := [(.o 92, some (.o ⟨3, 1, true, pl (isl (rectR 4 4))⟩))]) (r := V.v (.int .i64 (cbs (rectR 4 4)))) (bs := [.agg [(.sl 92 0 ((rectR 4 4).length) : A)]]) (keep := [92]) (new := []) (dead := []) ν (FnO.ren' (impl_CountBySigns_fn (rectR 4 4) (by first | omega | assumption | exact hr22 _ (by omega) | (rw [hmr _ (by omega)]; omega))) (subst1 [(800, 92)]) rfl rfl (by kernel_rfl) (by kernel_rfl) ⟨oc_pl (fun _ => rfl), trivial⟩ (by kernel_rfl) rfl (by simp only [renS, Ob.ren, pl_ren, rws_ren_doms, rws_ren_ints, rws_ren_cels, rwI_ren, rwD_ren]; first | done | rfl) (by simp only [renS, Ob.ren, pl_ren, rws_ren_doms, rws_ren_ints, rws_ren_cels, rwI_ren, rwD_ren]; first | done | rfl) rfl rfl) (by kernel_rfl) ⟨oc_pl (fun _ => rfl), trivial⟩ (by kernel_rfl) (ArgOs.cons (ArgO.slot 92 (.agg [(.sl 92 0 ((rectR 4 4).length) : A)])) (ArgOs.nil)))
      refine z ?_ (h := fun ν => acts_bin ν vt vc (r_eql (c := true) (decide_eq_true cbs44)))
      refine zm ?_
      refine zg ?_ (h := fun ν => step_on rfl rfl (mt ν))
      refine zg ?_ (h := fun ν => step_on rfl rfl (mt ν))
      refine zg ?_ (h := fun ν => step_on rfl rfl (acts_bin ν vt vt (rM (by first | omega | assumption | exact hr22 _ (by omega) | (rw [hmr _ (by omega)]; omega)) (by first | omega | assumption | exact hr22 _ (by omega) | (rw [hmr _ (by omega)]; omega)))))
      refine zg ?_ (h := fun ν => step_on rfl rfl (acts_bin ν vt vc (r_lss (c := true) c23)))
      refine z ?_ (h := fun ν => acts_pick_t ν vt xt)
      refine zm ?_
      refine zg ?_ (h := fun ν => step_on rfl rfl (mt ν))
      refine zg ?_ (h := fun ν => step_on rfl rfl (acts_bin ν vt vc (r_geq rfl)))
      refine zg ?_ (h := fun ν => step_on rfl rfl (acts_load_owns (xs := [(.sl 3 0 R.length : A)]) ν qP18_ti_26 rfl (by decide) rfl))
      refine zg ?_ (h := fun ν => step_on rfl rfl (acts_callO (d := 105) (f := 11) (os := [(.o 3, some (.o ⟨3, 1, true, pl (isl R)⟩))]) (os' := [(.o 3, some (.o ⟨3, 1, true, pl (isl R)⟩))]) (r := V.v (.slice none 0 0)) (bs := [.agg [(.sl 3 0 R.length : A)]]) (keep := [3]) (new := []) (dead := []) ν (FnO.ren' (SignMatrix_no2 R (by first | omega | assumption | exact hr22 _ (by omega) | (rw [hmr _ (by omega)]; omega)) (by first | omega | assumption | exact hr22 _ (by omega) | (rw [hmr _ (by omega)]; omega)) (by first | omega | assumption | exact hr22 _ (by omega) | (rw [hmr _ (by omega)]; omega))) (subst1 [(800, 3)]) rfl rfl (by kernel_rfl) (by kernel_rfl) ⟨oc_pl (fun _ => rfl), trivial⟩ (by kernel_rfl) rfl (by simp only [renS, Ob.ren, pl_ren, rws_ren_doms, rws_ren_ints, rws_ren_cels, rwI_ren, rwD_ren]; first | done | rfl) (by simp only [renS, Ob.ren, pl_ren, rws_ren_doms, rws_ren_ints, rws_ren_cels, rwI_ren, rwD_ren]; first | done | rfl) rfl rfl) (by kernel_rfl) ⟨oc_pl (fun _ => rfl), trivial⟩ (by kernel_rfl) (ArgOs.cons (ArgO.slot 104 (.agg [(.sl 3 0 R.length : A)])) (ArgOs.nil))))
      refine zg ?_ (h := fun ν => step_on rfl rfl (acts_len (iv := 0) ν qP18_un_29 xt (LenOf.nil 0 0) rfl))
      refine zg ?_ (h := fun ν => step_on rfl rfl (acts_bin ν vt vc (r_gtr (c := false) rfl)))
      refine zg ?_ (h := fun ν => step_on rfl rfl (acts_bin ν vt vt (r_beql (c := (decide (decide (0 ≤ (cbs R)) = false))) qP18_un_4 rfl)))
      refine z ?_ (h := fun ν => acts_pick_t ν vt xt)
      refine za (nl (wp_ret' ?_))
      exact VRes.tmp _ _ _ (by exact rfl) (bval (congrArg Value.bool (by first | rfl | (exfalso; omega) | (exfalso; simp_all; done) | (exfalso; simp_all; omega) | (simp_all; done) | (simp_all; omega))))
     ·skip
      have c23P := of_decide_eq_false c23
      refine rg ?_
      refine z ?_ (h := fun ν => acts_call1 ν (impl_Rectangle_fn 4 4 (by first | omega | assumption | exact hr22 _ (by omega) | (rw [hmr _ (by omega)]; omega)) (by first | omega | assumption | exact hr22 _ (by omega) | (rw [hmr _ (by omega)]; omega))) (ac (ArgV.v vc) (ac (ArgV.v vc) an)) (ResV.reg _ _ _ _ 92))
      refine z ?_ (h := fun ν => acts_callO (d := 93) (f := 6) (os := [(.o 92, some (.o ⟨3, 1, true, pl (isl (rectR 4 4))⟩))]) (os' := [(.o 92, some (.o ⟨3, 1, true, pl (isl (rectR 4 4))⟩))]) (r := V.v (.int .i64 (cbs (rectR 4 4)))) (bs := [.agg [(.sl 92 0 ((rectR 4 4).length) : A)]]) (keep := [92]) (new := []) (dead := []) ν (FnO.ren' (impl_CountBySigns_fn (rectR 4 4) (by first | omega | assumption | exact hr22 _ (by omega) | (rw [hmr _ (by omega)]; omega))) (subst1 [(800, 92)]) rfl rfl (by kernel_rfl) (by kernel_rfl) ⟨oc_pl (fun _ => rfl), trivial⟩ (by kernel_rfl) rfl (by simp only [renS, Ob.ren, pl_ren, rws_ren_doms, rws_ren_ints, rws_ren_cels, rwI_ren, rwD_ren]; first | done | rfl) (by simp only [renS, Ob.ren, pl_ren, rws_ren_doms, rws_ren_ints, rws_ren_cels, rwI_ren, rwD_ren]; first | done | rfl) rfl rfl) (by kernel_rfl) ⟨oc_pl (fun _ => rfl), trivial⟩ (by kernel_rfl) (ArgOs.cons (ArgO.slot 92 (.agg [(.sl 92 0 ((rectR 4 4).length) : A)])) (ArgOs.nil)))
      refine z ?_ (h := fun ν => acts_bin ν vt vc (r_eql (c := true) (decide_eq_true cbs44)))
      refine zm ?_
      refine zg ?_ (h := fun ν => step_on rfl rfl (mt ν))
      refine zg ?_ (h := fun ν => step_on rfl rfl (mt ν))
      refine zg ?_ (h := fun ν => step_on rfl rfl (acts_bin ν vt vt (rM (by first | omega | assumption | exact hr22 _ (by omega) | (rw [hmr _ (by omega)]; omega)) (by first | omega | assumption | exact hr22 _ (by omega) | (rw [hmr _ (by omega)]; omega)))))
      refine zg ?_ (h := fun ν => step_on rfl rfl (acts_bin ν vt vc (r_lss (c := false) c23)))
      refine z ?_ (h := fun ν => acts_pick_t ν vt xt)
      refine zm (zo (zo (zo (zo (zo (zo (zo ?_)))))))
      refine z ?_ (h := fun ν => acts_pick_f ν vt xc)
      refine za (nl (wp_ret' ?_))
      exact VRes.tmp _ _ _ (by exact rfl) (bval (congrArg Value.bool (by first | rfl | (exfalso; omega) | (exfalso; simp_all; done) | (exfalso; simp_all; omega) | (simp_all; done) | (simp_all; omega))))
   ·skip
    have hno := so1 c6
    have hlz := smR_nl hno
    have hcn := hneg hlz
    refine rg ?_
    refine z ?_ (h := fun ν => acts_load_owns (xs := [(.sl 3 0 R.length : A)]) ν qP18_ti_26 rfl (by decide) rfl)
    refine z ?_ (h := fun ν => acts_callO (d := 61) (f := 11) (os := [(.o 3, some (.o ⟨3, 1, true, pl (isl R)⟩))]) (os' := [(.o 3, some (.o ⟨3, 1, true, pl (isl R)⟩))]) (r := V.v (.slice none 0 0)) (bs := [.agg [(.sl 3 0 R.length : A)]]) (keep := [3]) (new := []) (dead := []) ν (FnO.ren' (SignMatrix_no1 R (by first | omega | assumption | exact hr22 _ (by omega) | (rw [hmr _ (by omega)]; omega)) (by first | omega | assumption | exact hr22 _ (by omega) | (rw [hmr _ (by omega)]; omega))) (subst1 [(800, 3)]) rfl rfl (by kernel_rfl) (by kernel_rfl) ⟨oc_pl (fun _ => rfl), trivial⟩ (by kernel_rfl) rfl (by simp only [renS, Ob.ren, pl_ren, rws_ren_doms, rws_ren_ints, rws_ren_cels, rwI_ren, rwD_ren]; first | done | rfl) (by simp only [renS, Ob.ren, pl_ren, rws_ren_doms, rws_ren_ints, rws_ren_cels, rwI_ren, rwD_ren]; first | done | rfl) rfl rfl) (by kernel_rfl) ⟨oc_pl (fun _ => rfl), trivial⟩ (by kernel_rfl) (ArgOs.cons (ArgO.slot 60 (.agg [(.sl 3 0 R.length : A)])) (ArgOs.nil)))
    refine z ?_ (h := fun ν => acts_len (iv := 0) ν qP18_un_29 xt (LenOf.nil 0 0) rfl)
    refine z ?_ (h := fun ν => acts_bin ν vt vc (r_gtr (c := false) rfl))
    refine nl (wf (sk (sq ?_)))
    rcases Bool.eq_false_or_eq_true (decide (((detR m) * (detR m)) < 1000000)) with c24 | c24
    ·skip
     have c24P := of_decide_eq_true c24
     refine rg ?_
     refine z ?_ (h := fun ν => acts_call1 ν (impl_Rectangle_fn 4 4 (by first | omega | assumption | exact hr22 _ (by omega) | (rw [hmr _ (by omega)]; omega)) (by first | omega | assumption | exact hr22 _ (by omega) | (rw [hmr _ (by omega)]; omega))) (ac (ArgV.v vc) (ac (ArgV.v vc) an)) (ResV.reg _ _ _ _ 92))
     refine z ?_ (h := fun ν => acts_callO (d := 93) (f := 6) (os := [(.o 92, some (.o ⟨3, 1, true, pl (isl (rectR 4 4))⟩))]) (os' := [(.o 92, some (.o ⟨3, 1, true, pl (isl (rectR 4 4))⟩))]) (r := V.v (.int .i64 (cbs (rectR 4 4)))) (bs := [.agg [(.sl 92 0 ((rectR 4 4).length) : A)]]) (keep := [92]) (new := []) (dead := []) ν (FnO.ren' (impl_CountBySigns_fn (rectR 4 4) (by first | omega | assumption | exact hr22 _ (by omega) | (rw [hmr _ (by omega)]; omega))) (subst1 [(800, 92)]) rfl rfl (by kernel_rfl) (by kernel_rfl) ⟨oc_pl (fun _ => rfl), trivial⟩ (by kernel_rfl) rfl (by simp only [renS, Ob.ren, pl_ren, rws_ren_doms, rws_ren_ints, rws_ren_cels, rwI_ren, rwD_ren]; first | done | rfl) (by simp only [renS, Ob.ren, pl_ren, rws_ren_doms, rws_ren_ints, rws_ren_cels, rwI_ren, rwD_ren]; first | done | rfl) rfl rfl) (by kernel_rfl) ⟨oc_pl (fun _ => rfl), trivial⟩ (by kernel_rfl) (ArgOs.cons (ArgO.slot 92 (.agg [(.sl 92 0 ((rectR 4 4).length) : A)])) (ArgOs.nil)))
     refine z ?_ (h := fun ν => acts_bin ν vt vc (r_eql (c := true) (decide_eq_true cbs44)))
     refine zm ?_
     refine zg ?_ (h := fun ν => step_on rfl rfl (mt ν))
     refine zg ?_ (h := fun ν => step_on rfl rfl (mt ν))
     refine zg ?_ (h := fun ν => step_on rfl rfl (acts_bin ν vt vt (rM (by first | omega | assumption | exact hr22 _ (by omega) | (rw [hmr _ (by omega)]; omega)) (by first | omega | assumption | exact hr22 _ (by omega) | (rw [hmr _ (by omega)]; omega)))))
     refine zg ?_ (h := fun ν => step_on rfl rfl (acts_bin ν vt vc (r_lss (c := true) c24)))
     refine z ?_ (h := fun ν => acts_pick_t ν vt xt)
     refine zm ?_
     refine zg ?_ (h := fun ν => step_on rfl rfl (mt ν))
     refine zg ?_ (h := fun ν => step_on rfl rfl (acts_bin ν vt vc (r_geq rfl)))
     refine zg ?_ (h := fun ν => step_on rfl rfl (acts_load_owns (xs := [(.sl 3 0 R.length : A)]) ν qP18_ti_26 rfl (by decide) rfl))
     refine zg ?_ (h := fun ν => step_on rfl rfl (acts_callO (d := 105) (f := 11) (os := [(.o 3, some (.o ⟨3, 1, true, pl (isl R)⟩))]) (os' := [(.o 3, some (.o ⟨3, 1, true, pl (isl R)⟩))]) (r := V.v (.slice none 0 0)) (bs := [.agg [(.sl 3 0 R.length : A)]]) (keep := [3]) (new := []) (dead := []) ν (FnO.ren' (SignMatrix_no1 R (by first | omega | assumption | exact hr22 _ (by omega) | (rw [hmr _ (by omega)]; omega)) (by first | omega | assumption | exact hr22 _ (by omega) | (rw [hmr _ (by omega)]; omega))) (subst1 [(800, 3)]) rfl rfl (by kernel_rfl) (by kernel_rfl) ⟨oc_pl (fun _ => rfl), trivial⟩ (by kernel_rfl) rfl (by simp only [renS, Ob.ren, pl_ren, rws_ren_doms, rws_ren_ints, rws_ren_cels, rwI_ren, rwD_ren]; first | done | rfl) (by simp only [renS, Ob.ren, pl_ren, rws_ren_doms, rws_ren_ints, rws_ren_cels, rwI_ren, rwD_ren]; first | done | rfl) rfl rfl) (by kernel_rfl) ⟨oc_pl (fun _ => rfl), trivial⟩ (by kernel_rfl) (ArgOs.cons (ArgO.slot 104 (.agg [(.sl 3 0 R.length : A)])) (ArgOs.nil))))
     refine zg ?_ (h := fun ν => step_on rfl rfl (acts_len (iv := 0) ν qP18_un_29 xt (LenOf.nil 0 0) rfl))
     refine zg ?_ (h := fun ν => step_on rfl rfl (acts_bin ν vt vc (r_gtr (c := false) rfl)))
     refine zg ?_ (h := fun ν => step_on rfl rfl (acts_bin ν vt vt (r_beql (c := (decide (decide (0 ≤ (cbs R)) = false))) qP18_un_4 rfl)))
     refine z ?_ (h := fun ν => acts_pick_t ν vt xt)
     refine za (nl (wp_ret' ?_))
     exact VRes.tmp _ _ _ (by exact rfl) (bval (congrArg Value.bool (by first | rfl | (exfalso; omega) | (exfalso; simp_all; done) | (exfalso; simp_all; omega) | (simp_all; done) | (simp_all; omega))))
    ·skip
     have c24P := of_decide_eq_false c24
     refine rg ?_
     refine z ?_ (h := fun ν => acts_call1 ν (impl_Rectangle_fn 4 4 (by first | omega | assumption | exact hr22 _ (by omega) | (rw [hmr _ (by omega)]; omega)) (by first | omega | assumption | exact hr22 _ (by omega) | (rw [hmr _ (by omega)]; omega))) (ac (ArgV.v vc) (ac (ArgV.v vc) an)) (ResV.reg _ _ _ _ 92))
     refine z ?_ (h := fun ν => acts_callO (d := 93) (f := 6) (os := [(.o 92, some (.o ⟨3, 1, true, pl (isl (rectR 4 4))⟩))]) (os' := [(.o 92, some (.o ⟨3, 1, true, pl (isl (rectR 4 4))⟩))]) (r := V.v (.int .i64 (cbs (rectR 4 4)))) (bs := [.agg [(.sl 92 0 ((rectR 4 4).length) : A)]]) (keep := [92]) (new := []) (dead := []) ν (FnO.ren' (impl_CountBySigns_fn (rectR 4 4) (by first | omega | assumption | exact hr22 _ (by omega) | (rw [hmr _ (by omega)]; omega))) (subst1 [(800, 92)]) rfl rfl (by kernel_rfl) (by kernel_rfl) ⟨oc_pl (fun _ => rfl), trivial⟩ (by kernel_rfl) rfl (by simp only [renS, Ob.ren, pl_ren, rws_ren_doms, rws_ren_ints, rws_ren_cels, rwI_ren, rwD_ren]; first | done | rfl) (by simp only [renS, Ob.ren, pl_ren, rws_ren_doms, rws_ren_ints, rws_ren_cels, rwI_ren, rwD_ren]; first | done | rfl) rfl rfl) (by kernel_rfl) ⟨oc_pl (fun _ => rfl), trivial⟩ (by kernel_rfl) (ArgOs.cons (ArgO.slot 92 (.agg [(.sl 92 0 ((rectR 4 4).length) : A)])) (ArgOs.nil)))
     refine z ?_ (h := fun ν => acts_bin ν vt vc (r_eql (c := true) (decide_eq_true cbs44)))
     refine zm ?_
     refine zg ?_ (h := fun ν => step_on rfl rfl (mt ν))
     refine zg ?_ (h := fun ν => step_on rfl rfl (mt ν))
     refine zg ?_ (h := fun ν => step_on rfl rfl (acts_bin ν vt vt (rM (by first | omega | assumption | exact hr22 _ (by omega) | (rw [hmr _ (by omega)]; omega)) (by first | omega | assumption | exact hr22 _ (by omega) | (rw [hmr _ (by omega)]; omega)))))
     refine zg ?_ (h := fun ν => step_on rfl rfl (acts_bin ν vt vc (r_lss (c := false) c24)))
     refine z ?_ (h := fun ν => acts_pick_t ν vt xt)
     refine zm (zo (zo (zo (zo (zo (zo (zo ?_)))))))
     refine z ?_ (h := fun ν => acts_pick_f ν vt xc)
     refine za (nl (wp_ret' ?_))
     exact VRes.tmp _ _ _ (by exact rfl) (bval (congrArg Value.bool (by first | rfl | (exfalso; omega) | (exfalso; simp_all; done) | (exfalso; simp_all; omega) | (simp_all; done) | (simp_all; omega))))
end Cl
end Go.Proofs.Ytokihekhelbijaa
