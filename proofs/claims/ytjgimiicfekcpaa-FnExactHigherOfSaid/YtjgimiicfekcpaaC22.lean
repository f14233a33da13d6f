/- Walks over clean states, printed by wg.py. No statement is proved here. -/
import Derived.Test.YtjgimiicfekcpaaC21
import Derived.Test.YtjgimiicfekcpaaCl18
import Derived.Test.YtjgimiicfekcpaaCl19
namespace Go.Proofs.Ytjgimiicfekcpaa
namespace Cl
open Go.ChangeShapes Go.WideShapes Go.ChangeAt Go.RowKit

theorem qC22_eg_52 : Try.prog.eqGuardType Try.prog.depth 52 = false := by kernel_rfl
theorem qC22_sz_4 : (Try.prog.info? 4).map (·.size) = some 1 := by kernel_rfl
theorem qC22_sz_52 : (Try.prog.info? 52).map (·.size) = some 2 := by kernel_rfl
theorem qC22_ti_29 : TI Try.prog 29 true 1 := ⟨⟨_, Try.underlying29, rfl⟩, by kernel_rfl⟩
theorem qC22_ti_4 : TI Try.prog 4 false 1 := ⟨⟨_, Try.underlying4, rfl⟩, by kernel_rfl⟩
theorem qC22_ti_52 : TI Try.prog 52 true 2 := ⟨⟨_, Try.underlying52, rfl⟩, by kernel_rfl⟩
theorem qC22_un_45 : Try.prog.underlying 45 = some (.slice 52) := Try.underlying45
theorem qC22_un_91 : Try.prog.underlying 91 = some (.slice 4) := Try.underlying91
theorem qC22_zi_4 : ZI Try.prog 4 (.bool false) 1 1 := by unfold ZI; kernel_rfl
theorem qC22_zi_52 : ZI Try.prog 52 (.agg #[.int .i64 0, .int .i64 0]) 2 16 := by unfold ZI; kernel_rfl
set_option maxHeartbeats 4000000 in
set_option maxRecDepth 100000 in
theorem spec_PieceOf_fn (l : List Int) (c : Cel) (hl : l.length ≤ 4194304) : Fn Try.prog 83 [.agg [(.slv l.length 1 (isl l) : A)], .agg ([vI c.x, vI c.y].map A.val)] [.row 52 2 (pcs l c).length (csl (pcs l c))] := by
 refine fn_intro (N := 95) Try.func83 rfl (by kernel_rfl) rfl (Nat.le_of_ble_eq_true rfl) [2, 3, 12, 14, 17, 20, 23, 26, 29, 37, 40, 49, 56, 66, 73, 74, 77, 87, 92, 93] (ret1 rfl) (fun W => ?_)
 show Wp _ _ _ [kV 0 (V.b (.agg [(.slv l.length 1 (isl l) : A)])), kV 1 (V.av [vI c.x, vI c.y]), kF 2, kF 3, kF 12, kF 14, kF 17, kF 20, kF 23, kF 26, kF 29, kF 37, kF 40, kF 49, kF 56, kF 66, kF 73, kF 74, kF 77, kF 87, kF 92, kF 93]
 refine sq (rg ?_)
 refine z ?_ (h := fun ν => acts_box (h := 2) ν xt (by exact ob1 rfl))
 refine z ?_ (h := fun ν => acts_box (h := 3) ν xt (by exact ob1 rfl))
 refine zk (nl (sq (rg ?_)))
 refine z ?_ (h := fun ν => b0C (h := 14) ν qC22_un_45 qC22_zi_52)
 refine za (nl (sq (sq (rg ?_))))
 refine z ?_ (h := fun ν => acts_load_owns (xs := [(.slv l.length 1 (isl l) : A)]) ν qC22_ti_29 rfl (by decide) rfl)
 refine z ?_ (h := fun ν => acts_load_owns (xs := [vI c.x, vI c.y].map A.val) ν qC22_ti_52 rfl (by decide) rfl)
 refine z ?_ (h := fun ν => acts_call1 ν (spec_HasCell_fn l c (by first | omega | assumption | exact hasS_ok (ginv_has hc hg (gC_mem (by omega))) | (simp; done) | (rw [List.length_replicate]; omega) | (rw [bitsL_len]; omega) | exact nbs_ok (by omega))) (ac (ArgV.regv _ _ 1 _) (ac (ArgV.va va) an)) rv)
 refine z ?_ (h := fun ν => acts_un ν vt (r_not rfl))
 refine nl ?_
 refine wi (b := (!(hasC l c))) (fun c1 => ?_) (fun c1 => ?_)
 ·skip
  have c2 : (hasC l c) = false := by first | simpa using c1 | (rw [← Bool.not_eq_true']; exact c1)
  refine sq (rg (zm (za (nl (wp_ret' ?_)))))
  exact VRes.tmp _ _ _ (by exact rfl) (brow_cels (h := 14) (L := []) (by kernel_rfl) (by unfold pcs; rw [if_neg (by simp_all)]) (by first | rfl | (simp; done) | (simp; omega)))
 ·skip
  have c3 : (hasC l c) = true := by first | simpa using c1 | (rw [← Bool.not_eq_false']; exact c1)
  obtain ⟨hro, hc⟩ := hasC_S c3
  have hcx := hasS_ok hc
  have hidx := idx_lt hcx
  refine sk (sq (rg ?_))
  refine z ?_ (h := fun ν => acts_make' (h := 20) (n := 64) (xs := bsl (List.replicate 64 false)) ν qC22_un_91 qC22_zi_4 vc vc rfl rfl (by decide) (by first | omega | assumption | exact hasS_ok (ginv_has hc hg (gC_mem (by omega))) | (simp; done) | (rw [List.length_replicate]; omega) | (rw [bitsL_len]; omega) | exact nbs_ok (by omega)) (made_bools 64))
  refine za (nl (sq (rg (zm ?_))))
  refine z ?_ (h := fun ν => acts_load_owns (xs := [vI c.x, vI c.y].map A.val) ν qC22_ti_52 rfl (by decide) rfl)
  refine z ?_ (h := fun ν => acts_call1 ν (spec_CellIndex_fn c (by first | omega | assumption | exact hasS_ok (ginv_has hc hg (gC_mem (by omega))) | (simp; done) | (rw [List.length_replicate]; omega) | (rw [bitsL_len]; omega) | exact nbs_ok (by omega))) (ac (ArgV.va va) an) rv)
  refine z ?_ (h := fun ν => ix0 ν qC22_un_91 qC22_sz_4 vt (hlt := (by first | omega | assumption | exact hasS_ok (ginv_has hc hg (gC_mem (by omega))) | (simp; done) | (rw [List.length_replicate]; omega) | (rw [bitsL_len]; omega) | exact nbs_ok (by omega))))
  refine z ?_ (h := fun _ => sB qC22_ti_4 xc (by first | omega | assumption | exact hasS_ok (ginv_has hc hg (gC_mem (by omega))) | (simp; done) | (rw [List.length_replicate]; omega) | (rw [bitsL_len]; omega) | exact nbs_ok (by omega)))
  refine nl (sq (rg ?_))
  refine z ?_ (h := fun ν => acts_load_owns (xs := [vI c.x, vI c.y].map A.val) ν qC22_ti_52 rfl (by decide) rfl)
  refine z ?_ (h := fun ν => acts_buildSlice' (h := 26) (xs := csl ([c] : List Cel)) ν qC22_un_45 qC22_zi_52 (.cons va OpVs.nil) (by decide) (by decide) (by kernel_rfl) rfl)
  refine za (nl (sq (sq (rg (zk (nl (bkk ?_)))))))
  refine wp_loop' (fun ((k, L) : Nat × (List Cel)) => GInv nbs (okS (regSet l)) c L k) (fun ((k, L) : Nat × (List Cel)) => [kP 2 2 0, kS 5 14 0 0, kS 6 20 0 64, kS 7 26 0 L.length, kI 8 ((k : Nat) : Int), kO 2 29 1 true [(.slv l.length 1 (isl l) : A)], kO 14 52 2 true (pl (csl [])), kO 20 4 1 true (pl (bsl (bitsL (setL L)))), kO 26 52 2 true (pl (csl L)), kF 3, kF 12, kF 17, kF 23, kF 29, kF 37, kF 40, kF 49, kF 56, kF 66, kF 73, kF 74, kF 77, kF 87, kF 92, kF 93]) (fun ((k, L) : Nat × (List Cel)) => 64 - k) ((0 : Nat), ([c] : List Cel)) (by exact rinit) (wkf id (wS <| wS <| wS <| wE (e := (vsl (by first | rfl | (simp; done) | (simp; omega) | omega | (exact congrArg List.length (by first | rfl | omega | (rw [bitsL_zero, bitsL_set]; rfl) | (simp; done) | (simp; omega)))) rfl)) <| wE (e := (vint (by first | rfl | omega | (rw [bitsL_zero, bitsL_set]; rfl) | (simp; done) | (simp; omega)))) <| wX <| wP <| wO (e := renob_eq (fun h => h) (congrArg bsl (by first | rfl | omega | (rw [bitsL_zero, bitsL_set]; rfl) | (simp; done) | (simp; omega)))) <| wP <| by (iterate 16 refine wF ?_); exact wN)) ?_
  rintro ⟨k, L⟩ inv4
  replace inv4 : GInv nbs (okS (regSet l)) c L k := inv4
  have hg := inv4
  have hgl := ginv_len hc hg
  have hbl := bitsL_len (setL L)
  refine sq (sq (rg (zm (zm ?_))))
  refine z ?_ (h := fun ν => lnS ν qC22_un_45)
  refine z ?_ (h := fun ν => acts_bin ν vt vt (r_lss rfl))
  refine nl ?_
  refine wi (fun c5 => ?_) (fun c5 => ?_)
  ·skip
   have c5P := of_decide_eq_true c5
   have hR0 := RIn.zero hc hg (by omega)
   have hOk := hasS_ok (ginv_has hc hg (gC_mem (l := L) (k := k) (by omega)))
   refine sk (sq (bkk (sq (rg (zm (zm ?_))))))
   refine z ?_ (h := fun ν => ix0 ν qC22_un_45 qC22_sz_52 vt (hlt := (by first | omega | assumption | exact hasS_ok (ginv_has hc hg (gC_mem (by omega))) | (simp; done) | (rw [List.length_replicate]; omega) | (rw [bitsL_len]; omega) | exact nbs_ok (by omega))))
   refine z ?_ (h := fun ν => lC ν qC22_ti_52 (by first | omega | assumption | exact hasS_ok (ginv_has hc hg (gC_mem (by omega))) | (simp; done) | (rw [List.length_replicate]; omega) | (rw [bitsL_len]; omega) | exact nbs_ok (by omega)))
   refine z ?_ (h := fun ν => acts_call1 ν (spec_NeighborsOf_fn (gC L k) ) (ac (ArgV.va va) an) (ResV.row _ _ _ _ 37))
   refine za (nl (sq (rg (zk (nl (bkk ?_))))))
   refine wp_loop' (fun ((j, M) : Nat × (List Cel)) => j ≤ (nbs (gC L k)).length ∧ RIn (regSet l) c L k M j) (fun ((j, M) : Nat × (List Cel)) => [kP 2 2 0, kS 5 14 0 0, kS 6 20 0 64, kS 7 26 0 M.length, kI 8 ((k : Nat) : Int), kS 9 37 0 ((nbs (gC L k)).length), kI 10 ((j : Nat) : Int), kO 2 29 1 true [(.slv l.length 1 (isl l) : A)], kO 14 52 2 true (pl (csl [])), kO 20 4 1 true (pl (bsl (bitsL (setL M)))), kO 26 52 2 true (pl (csl M)), kO 37 52 2 true (pl (csl (nbs (gC L k)))), kF 3, kF 12, kF 17, kF 23, kF 29, kF 40, kF 49, kF 56, kF 66, kF 73, kF 74, kF 77, kF 87, kF 92, kF 93]) (fun ((j, M) : Nat × (List Cel)) => (nbs (gC L k)).length - j) ((0 : Nat), (L : List Cel)) (by exact ⟨Nat.zero_le _, hR0⟩) (wkf id (wS <| wS <| wS <| wS <| wS <| wS <| wE (e := (vint (by first | rfl | omega | (rw [setL_app]; done) | (rw [setL_app, bitsL_set]; done) | (simp; done) | (simp; omega)))) <| wX <| wP <| wP <| wP <| wP <| by (iterate 15 refine wF ?_); exact wN)) ?_
   rintro ⟨j, M⟩ inv6
   replace inv6 : j ≤ (nbs (gC L k)).length ∧ RIn (regSet l) c L k M j := inv6
   obtain ⟨inv6_0, inv6_1⟩ := inv6
   have hR : RIn (regSet l) c L k M j := by assumption
   have hml := hR.len
   have hkl := hR.kl
   have hn4 := nbs_len (gC L k)
   have hbl2 := bitsL_len (setL M)
   refine sq (sq (rg (zm (zm ?_))))
   refine z ?_ (h := fun ν => lnS ν qC22_un_45)
   refine z ?_ (h := fun ν => acts_bin ν vt vt (r_lss rfl))
   refine nl ?_
   refine wi (fun c7 => ?_) (fun c7 => ?_)
   ·skip
    have c7P := of_decide_eq_true c7
    have hO := nbs_ok (b := gC L k) (k := j) (by omega)
    have hI := idx_lt hO
    refine sk (sq (bkk (sq ?_)))
    refine wp_join [kB 60 ((hasR l (gC (nbs (gC L k)) j)) && (!(gB (bitsL (setL M)) (idx (gC (nbs (gC L k)) j))))), kP 2 2 0, kS 5 14 0 0, kS 6 20 0 64, kS 7 26 0 M.length, kI 8 ((k : Nat) : Int), kS 9 37 0 ((nbs (gC L k)).length), kI 10 ((j : Nat) : Int), kO 2 29 1 true [(.slv l.length 1 (isl l) : A)], kO 14 52 2 true (pl (csl [])), kO 20 4 1 true (pl (bsl (bitsL (setL M)))), kO 26 52 2 true (pl (csl M)), kO 37 52 2 true (pl (csl (nbs (gC L k)))), kF 3, kF 12, kF 17, kF 23, kF 29, kF 40, kF 49, kF 56, kF 66, kF 73, kF 74, kF 77, kF 87, kF 92, kF 93] ?_ ?_
    ·skip
     rcases Bool.eq_false_or_eq_true ((hasR l (gC (nbs (gC L k)) j))) with c8 | c8
     ·skip
      have hS1 : hasS (regSet l) (gC (nbs (gC L k)) j) = true := (hasR_S hro hO).symm.trans c8
      refine wp_dr ?_
      refine zd ?_ (h := fun ν => acts_load_owns (xs := [(.slv l.length 1 (isl l) : A)]) ν qC22_ti_29 rfl (by decide) rfl)
      refine zdm (zdm ?_)
      refine zd ?_ (h := fun ν => ix0 ν qC22_un_45 qC22_sz_52 vt (hlt := (by first | omega | assumption | exact hasS_ok (ginv_has hc hg (gC_mem (by omega))) | (simp; done) | (rw [List.length_replicate]; omega) | (rw [bitsL_len]; omega) | exact nbs_ok (by omega))))
      refine zd ?_ (h := fun ν => lC ν qC22_ti_52 (by first | omega | assumption | exact hasS_ok (ginv_has hc hg (gC_mem (by omega))) | (simp; done) | (rw [List.length_replicate]; omega) | (rw [bitsL_len]; omega) | exact nbs_ok (by omega)))
      refine zd ?_ (h := fun ν => acts_call1 ν (spec_l03Has_fn l (gC (nbs (gC L k)) j) (by first | omega | assumption | exact hasS_ok (ginv_has hc hg (gC_mem (by omega))) | (simp; done) | (rw [List.length_replicate]; omega) | (rw [bitsL_len]; omega) | exact nbs_ok (by omega)) (by first | omega | assumption | exact hasS_ok (ginv_has hc hg (gC_mem (by omega))) | (simp; done) | (rw [List.length_replicate]; omega) | (rw [bitsL_len]; omega) | exact nbs_ok (by omega))) (ac (ArgV.regv _ _ 1 _) (ac (ArgV.va va) an)) (resval (congrArg Value.bool c8)))
      refine zdm ?_
      refine zdg ?_ (h := fun ν => step_on rfl rfl (mt ν))
      refine zdg ?_ (h := fun ν => step_on rfl rfl (mt ν))
      refine zdg ?_ (h := fun ν => step_on rfl rfl (mt ν))
      refine zdg ?_ (h := fun ν => step_on rfl rfl (ix0 ν qC22_un_45 qC22_sz_52 vt (hlt := (by first | omega | assumption | exact hasS_ok (ginv_has hc hg (gC_mem (by omega))) | (simp; done) | (rw [List.length_replicate]; omega) | (rw [bitsL_len]; omega) | exact nbs_ok (by omega)))))
      refine zdg ?_ (h := fun ν => step_on rfl rfl (lC ν qC22_ti_52 (by first | omega | assumption | exact hasS_ok (ginv_has hc hg (gC_mem (by omega))) | (simp; done) | (rw [List.length_replicate]; omega) | (rw [bitsL_len]; omega) | exact nbs_ok (by omega))))
      refine zdg ?_ (h := fun ν => step_on rfl rfl (acts_call1 ν (spec_CellIndex_fn (gC (nbs (gC L k)) j) (by first | omega | assumption | exact hasS_ok (ginv_has hc hg (gC_mem (by omega))) | (simp; done) | (rw [List.length_replicate]; omega) | (rw [bitsL_len]; omega) | exact nbs_ok (by omega))) (ac (ArgV.va va) an) rv))
      refine zdg ?_ (h := fun ν => step_on rfl rfl (ix0 ν qC22_un_91 qC22_sz_4 vt (hlt := (by first | omega | assumption | exact hasS_ok (ginv_has hc hg (gC_mem (by omega))) | (simp; done) | (rw [List.length_replicate]; omega) | (rw [bitsL_len]; omega) | exact nbs_ok (by omega)))))
      refine zdg ?_ (h := fun ν => step_on rfl rfl (lB ν qC22_ti_4 (by first | omega | assumption | exact hasS_ok (ginv_has hc hg (gC_mem (by omega))) | (simp; done) | (rw [List.length_replicate]; omega) | (rw [bitsL_len]; omega) | exact nbs_ok (by omega))))
      refine zdg ?_ (h := fun ν => step_on rfl rfl (acts_un ν vt (r_not rfl)))
      refine zd ?_ (h := fun ν => acts_pick_t ν vt xt)
      refine dw_nil ?_
      exact ⟨rfl, weak_reads ⟨(by simp only [c8]; first | done | kernel_rfl), (by repeat (first | exact trivial | refine ⟨by kernel_rfl, ?_⟩))⟩⟩
     ·skip
      have hS1 : hasS (regSet l) (gC (nbs (gC L k)) j) = false := (hasR_S hro hO).symm.trans c8
      refine wp_dr ?_
      refine zd ?_ (h := fun ν => acts_load_owns (xs := [(.slv l.length 1 (isl l) : A)]) ν qC22_ti_29 rfl (by decide) rfl)
      refine zdm (zdm ?_)
      refine zd ?_ (h := fun ν => ix0 ν qC22_un_45 qC22_sz_52 vt (hlt := (by first | omega | assumption | exact hasS_ok (ginv_has hc hg (gC_mem (by omega))) | (simp; done) | (rw [List.length_replicate]; omega) | (rw [bitsL_len]; omega) | exact nbs_ok (by omega))))
      refine zd ?_ (h := fun ν => lC ν qC22_ti_52 (by first | omega | assumption | exact hasS_ok (ginv_has hc hg (gC_mem (by omega))) | (simp; done) | (rw [List.length_replicate]; omega) | (rw [bitsL_len]; omega) | exact nbs_ok (by omega)))
      refine zd ?_ (h := fun ν => acts_call1 ν (spec_l03Has_fn l (gC (nbs (gC L k)) j) (by first | omega | assumption | exact hasS_ok (ginv_has hc hg (gC_mem (by omega))) | (simp; done) | (rw [List.length_replicate]; omega) | (rw [bitsL_len]; omega) | exact nbs_ok (by omega)) (by first | omega | assumption | exact hasS_ok (ginv_has hc hg (gC_mem (by omega))) | (simp; done) | (rw [List.length_replicate]; omega) | (rw [bitsL_len]; omega) | exact nbs_ok (by omega))) (ac (ArgV.regv _ _ 1 _) (ac (ArgV.va va) an)) (resval (congrArg Value.bool c8)))
      refine zdm ?_
      refine zdg ?_ (h := fun ν => step_off rfl rfl (by decide) rfl ν)
      refine zdg ?_ (h := fun ν => step_off rfl rfl (by decide) rfl ν)
      refine zdg ?_ (h := fun ν => step_off rfl rfl (by decide) rfl ν)
      refine zdg ?_ (h := fun ν => step_off rfl rfl (by decide) rfl ν)
      refine zdg ?_ (h := fun ν => step_off rfl rfl (by decide) rfl ν)
      refine zdg ?_ (h := fun ν => step_off rfl rfl (by decide) rfl ν)
      refine zdg ?_ (h := fun ν => step_off rfl rfl (by decide) rfl ν)
      refine zdg ?_ (h := fun ν => step_off rfl rfl (by decide) rfl ν)
      refine zdg ?_ (h := fun ν => step_off rfl rfl (by decide) rfl ν)
      refine zd ?_ (h := fun ν => acts_pick_f ν vt xc)
      refine dw_nil ?_
      exact ⟨rfl, weak_reads ⟨(by simp only [c8]; first | done | kernel_rfl), (by repeat (first | exact trivial | refine ⟨by kernel_rfl, ?_⟩))⟩⟩
    refine wi (b := ((hasR l (gC (nbs (gC L k)) j)) && (!(gB (bitsL (setL M)) (idx (gC (nbs (gC L k)) j)))))) (fun c9 => ?_) (fun c9 => ?_)
    ·skip
     obtain ⟨c10, c11⟩ := and_tt c9
     have hS1 : hasS (regSet l) (gC (nbs (gC L k)) j) = true := (hasR_S hro hO).symm.trans c10
     have c12 : (gB (bitsL (setL M)) (idx (gC (nbs (gC L k)) j))) = false := by first | simpa using c11 | (rw [← Bool.not_eq_true']; exact c11)
     have hS2 : hasS (setL M) (gC (nbs (gC L k)) j) = false := (gB_bitS hO).symm.trans c12
     refine sq (rg (zm (zm (zm ?_))))
     refine z ?_ (h := fun ν => ix0 ν qC22_un_45 qC22_sz_52 vt (hlt := (by first | omega | assumption | exact hasS_ok (ginv_has hc hg (gC_mem (by omega))) | (simp; done) | (rw [List.length_replicate]; omega) | (rw [bitsL_len]; omega) | exact nbs_ok (by omega))))
     refine z ?_ (h := fun ν => lC ν qC22_ti_52 (by first | omega | assumption | exact hasS_ok (ginv_has hc hg (gC_mem (by omega))) | (simp; done) | (rw [List.length_replicate]; omega) | (rw [bitsL_len]; omega) | exact nbs_ok (by omega)))
     refine z ?_ (h := fun ν => acts_call1 ν (spec_CellIndex_fn (gC (nbs (gC L k)) j) (by first | omega | assumption | exact hasS_ok (ginv_has hc hg (gC_mem (by omega))) | (simp; done) | (rw [List.length_replicate]; omega) | (rw [bitsL_len]; omega) | exact nbs_ok (by omega))) (ac (ArgV.va va) an) rv)
     refine z ?_ (h := fun ν => ix0 ν qC22_un_91 qC22_sz_4 vt (hlt := (by first | omega | assumption | exact hasS_ok (ginv_has hc hg (gC_mem (by omega))) | (simp; done) | (rw [List.length_replicate]; omega) | (rw [bitsL_len]; omega) | exact nbs_ok (by omega))))
     refine z ?_ (h := fun _ => sB qC22_ti_4 xc (by first | omega | assumption | exact hasS_ok (ginv_has hc hg (gC_mem (by omega))) | (simp; done) | (rw [List.length_replicate]; omega) | (rw [bitsL_len]; omega) | exact nbs_ok (by omega)))
     refine nl (rg (zm (zm (zm ?_))))
     refine z ?_ (h := fun ν => ix0 ν qC22_un_45 qC22_sz_52 vt (hlt := (by first | omega | assumption | exact hasS_ok (ginv_has hc hg (gC_mem (by omega))) | (simp; done) | (rw [List.length_replicate]; omega) | (rw [bitsL_len]; omega) | exact nbs_ok (by omega))))
     refine z ?_ (h := fun ν => lC ν qC22_ti_52 (by first | omega | assumption | exact hasS_ok (ginv_has hc hg (gC_mem (by omega))) | (simp; done) | (rw [List.length_replicate]; omega) | (rw [bitsL_len]; omega) | exact nbs_ok (by omega)))
     refine z ?_ (h := fun ν => acts_buildSlice' (h := 73) (xs := csl ([(gC (nbs (gC L k)) j)] : List Cel)) ν qC22_un_45 qC22_zi_52 (.cons va OpVs.nil) (by decide) (by decide) (by kernel_rfl) rfl)
     refine z ?_ (h := fun ν => aC_ (h2 := 74) (L3 := (M ++ [(gC (nbs (gC L k)) j)])) ν qC22_un_45 qC22_zi_52 (by first | exact rfl | (simp; done) | (simp; omega) | omega) rfl (by first | exact rfl | (simp; done) | (simp; omega) | omega) (by first | omega | (simp; omega) | (simp at *; omega)))
     refine za (nl (rg (zm ?_)))
     refine z ?_ (h := fun ν => acts_bin ν vt vc (rA (by first | omega | assumption | exact hasS_ok (ginv_has hc hg (gC_mem (by omega))) | (simp; done) | (rw [List.length_replicate]; omega) | (rw [bitsL_len]; omega) | exact nbs_ok (by omega)) (by first | omega | assumption | exact hasS_ok (ginv_has hc hg (gC_mem (by omega))) | (simp; done) | (rw [List.length_replicate]; omega) | (rw [bitsL_len]; omega) | exact nbs_ok (by omega))))
     refine za (nl ?_)
     exact loop_back ((j + 1), (M ++ [(gC (nbs (gC L k)) j)])) (by refine ⟨by omega, ?_⟩; first | exact hR.yes (by omega) (by assumption) (by assumption) | exact hR.no (by omega) hor) (by show (nbs (gC L k)).length - (j + 1) < (nbs (gC L k)).length - j; omega) (wkf (subst1 [(26, 74)]) (wS <| wS <| wS <| wS <| wS <| wS <| wE (e := (vint (by first | rfl | omega | (rw [setL_app]; done) | (rw [setL_app, bitsL_set]; done) | (simp; done) | (simp; omega)))) <| wX <| wP <| wO (e := renob_eq (fun h => h) (congrArg bsl (by first | rfl | omega | (rw [setL_app]; done) | (rw [setL_app, bitsL_set]; done) | (simp; done) | (simp; omega)))) <| wP <| wP <| by (iterate 15 refine wF ?_); exact wN))
    ·skip
     have c13 := and_ff c9
     have hor : hasS (regSet l) (gC (nbs (gC L k)) j) = false ∨ hasS (setL M) (gC (nbs (gC L k)) j) = true := by
      rcases c13 with q | q
      · exact .inl ((hasR_S hro hO).symm.trans q)
      · rw [Bool.not_eq_false'] at q; exact .inr ((gB_bitS hO).symm.trans q)
     refine sk (rg (zm ?_))
     refine z ?_ (h := fun ν => acts_bin ν vt vc (rA (by first | omega | assumption | exact hasS_ok (ginv_has hc hg (gC_mem (by omega))) | (simp; done) | (rw [List.length_replicate]; omega) | (rw [bitsL_len]; omega) | exact nbs_ok (by omega)) (by first | omega | assumption | exact hasS_ok (ginv_has hc hg (gC_mem (by omega))) | (simp; done) | (rw [List.length_replicate]; omega) | (rw [bitsL_len]; omega) | exact nbs_ok (by omega))))
     refine za (nl ?_)
     exact loop_back ((j + 1), M) (by refine ⟨by omega, ?_⟩; first | exact hR.yes (by omega) (by assumption) (by assumption) | exact hR.no (by omega) hor) (by show (nbs (gC L k)).length - (j + 1) < (nbs (gC L k)).length - j; omega) (wkf id (wS <| wS <| wS <| wS <| wS <| wS <| wE (e := (vint (by first | rfl | omega | (rw [setL_app]; done) | (rw [setL_app, bitsL_set]; done) | (simp; done) | (simp; omega)))) <| wX <| wP <| wP <| wP <| wP <| by (iterate 15 refine wF ?_); exact wN))
   ·skip
    have c7P := of_decide_eq_false c7
    refine wp_exit' (rg (zm ?_))
    refine z ?_ (h := fun ν => acts_bin ν vt vc (rA (by first | omega | assumption | exact hasS_ok (ginv_has hc hg (gC_mem (by omega))) | (simp; done) | (rw [List.length_replicate]; omega) | (rw [bitsL_len]; omega) | exact nbs_ok (by omega)) (by first | omega | assumption | exact hasS_ok (ginv_has hc hg (gC_mem (by omega))) | (simp; done) | (rw [List.length_replicate]; omega) | (rw [bitsL_len]; omega) | exact nbs_ok (by omega))))
    refine za (nl ?_)
    exact loop_back ((k + 1), M) (by exact RIn.out hg (by omega) hR (by omega)) (by show 64 - (k + 1) < 64 - k; omega) (wkf id (wS <| wS <| wS <| wS <| wE (e := (vint (by first | rfl | omega | (rw [bitsL_zero, bitsL_set]; rfl) | (simp; done) | (simp; omega)))) <| wX <| wP <| wP <| wP <| by (iterate 16 refine wF ?_); exact wN))
  ·skip
   have c5P := of_decide_eq_false c5
   refine wp_exit' (sq (sq (rg (zk (nl (bkk ?_))))))
   refine wp_loop' (fun (m : Nat) => m ≤ 64) (fun (m : Nat) => [kS 5 14 0 ((((List.range m).filter (setL L).testBit).map cN).length), kS 6 20 0 64, kI 11 ((m : Nat) : Int), kO 14 52 2 true (pl (csl (((List.range m).filter (setL L).testBit).map cN))), kO 20 4 1 true (pl (bsl (bitsL (setL L)))), kF 2, kF 3, kF 12, kF 17, kF 23, kF 26, kF 29, kF 37, kF 40, kF 49, kF 56, kF 66, kF 73, kF 74, kF 77, kF 87, kF 92, kF 93]) (fun (m : Nat) => 64 - m) ((0 : Nat)) (by exact (Nat.zero_le _ : 0 ≤ _)) (wkf id (wE (e := (vsl (by first | rfl | (simp; done) | (simp; omega) | omega | (exact congrArg List.length (by first | rfl | exact range_yes ((gB_bits (by omega)).symm.trans (by assumption)) | exact range_no ((gB_bits (by omega)).symm.trans (by assumption)) | omega))) rfl)) <| wS <| wE (e := (vint (by first | rfl | exact range_yes ((gB_bits (by omega)).symm.trans (by assumption)) | exact range_no ((gB_bits (by omega)).symm.trans (by assumption)) | omega))) <| wO (e := renob_eq (fun h => h) (congrArg csl (by first | rfl | exact range_yes ((gB_bits (by omega)).symm.trans (by assumption)) | exact range_no ((gB_bits (by omega)).symm.trans (by assumption)) | omega))) <| wP <| by (iterate 18 refine wF ?_); exact wN)) ?_
   rintro m inv14
   replace inv14 : m ≤ 64 := inv14
   have invm := inv14
   have hfl := range_len (setL L).testBit m
   refine sq (sq (rg (zm (zm ?_))))
   refine z ?_ (h := fun ν => lnS (iv := 64) ν qC22_un_91)
   refine z ?_ (h := fun ν => acts_bin ν vt vt (r_lss rfl))
   refine nl ?_
   refine wi (fun c15 => ?_) (fun c15 => ?_)
   ·skip
    have c15P := of_decide_eq_true c15
    refine sk (sq (bkk (sq (rg (zm (zm ?_))))))
    refine z ?_ (h := fun ν => ix0 ν qC22_un_91 qC22_sz_4 vt (hlt := (by first | omega | assumption | exact hasS_ok (ginv_has hc hg (gC_mem (by omega))) | (simp; done) | (rw [List.length_replicate]; omega) | (rw [bitsL_len]; omega) | exact nbs_ok (by omega))))
    refine z ?_ (h := fun ν => lB ν qC22_ti_4 (by first | omega | assumption | exact hasS_ok (ginv_has hc hg (gC_mem (by omega))) | (simp; done) | (rw [List.length_replicate]; omega) | (rw [bitsL_len]; omega) | exact nbs_ok (by omega)))
    refine nl ?_
    refine wi (b := (gB (bitsL (setL L)) m)) (fun c16 => ?_) (fun c16 => ?_)
    ·skip
     refine sq (rg (zm ?_))
     refine z ?_ (h := fun ν => acts_call2 ν (spec_CellAt_fn m (by first | omega | assumption | exact hasS_ok (ginv_has hc hg (gC_mem (by omega))) | (simp; done) | (rw [List.length_replicate]; omega) | (rw [bitsL_len]; omega) | exact nbs_ok (by omega))) (ac (ArgV.v vt) an) (ResV.agg [vI ((cN m).x), vI ((cN m).y)]) rv)
     refine zm ?_
     refine z ?_ (h := fun ν => acts_extract ν (by exact rfl))
     refine z ?_ (h := fun ν => acts_extract ν (by exact rfl))
     refine z ?_ (h := fun ν => acts_alloc' (h := 12) (cap := 1) (s := 2) (cells := [aI 0, aI 0]) ν qC22_zi_52 rfl rfl (by decide))
     refine z ?_ (h := fun _ => acts_store (cells := [aI ((cN m).x), aI ((cN m).y)]) qC22_ti_52 xt (by exact rfl) (by decide) (by exact ob1 rfl) (by exact Nat.le_of_ble_eq_true rfl) (by exact rfl))
     refine za (nl (rg (zm ?_)))
     refine z ?_ (h := fun ν => acts_load_owns (xs := [vI ((cN m).x), vI ((cN m).y)].map A.val) ν qC22_ti_52 rfl (by decide) rfl)
     refine z ?_ (h := fun ν => acts_buildSlice' (h := 92) (xs := csl ([(cN m)] : List Cel)) ν qC22_un_45 qC22_zi_52 (.cons va OpVs.nil) (by decide) (by decide) (by kernel_rfl) rfl)
     refine z ?_ (h := fun ν => aC_ (h2 := 93) (L3 := ((((List.range m).filter (setL L).testBit).map cN) ++ [(cN m)])) ν qC22_un_45 qC22_zi_52 (by first | exact rfl | (simp; done) | (simp; omega) | omega) rfl (by first | exact rfl | (simp; done) | (simp; omega) | omega) (by first | omega | (simp; omega) | (simp at *; omega)))
     refine za (nl (rg (zm ?_)))
     refine z ?_ (h := fun ν => acts_bin ν vt vc (rA (by first | omega | assumption | exact hasS_ok (ginv_has hc hg (gC_mem (by omega))) | (simp; done) | (rw [List.length_replicate]; omega) | (rw [bitsL_len]; omega) | exact nbs_ok (by omega)) (by first | omega | assumption | exact hasS_ok (ginv_has hc hg (gC_mem (by omega))) | (simp; done) | (rw [List.length_replicate]; omega) | (rw [bitsL_len]; omega) | exact nbs_ok (by omega))))
     refine za (nl ?_)
     exact loop_back ((m + 1)) (by show _ ≤ _; omega) (by show 64 - (m + 1) < 64 - m; omega) (wkf (subst1 [(14, 93)]) (wE (e := (vsl (by first | rfl | (simp; done) | (simp; omega) | omega | (exact congrArg List.length (by first | rfl | exact range_yes ((gB_bits (by omega)).symm.trans (by assumption)) | exact range_no ((gB_bits (by omega)).symm.trans (by assumption)) | omega))) rfl)) <| wS <| wE (e := (vint (by first | rfl | exact range_yes ((gB_bits (by omega)).symm.trans (by assumption)) | exact range_no ((gB_bits (by omega)).symm.trans (by assumption)) | omega))) <| wO (e := renob_eq (fun h => h) (congrArg csl (by first | rfl | exact range_yes ((gB_bits (by omega)).symm.trans (by assumption)) | exact range_no ((gB_bits (by omega)).symm.trans (by assumption)) | omega))) <| wP <| by (iterate 18 refine wF ?_); exact wN))
    ·skip
     refine sk (rg (zm ?_))
     refine z ?_ (h := fun ν => acts_bin ν vt vc (rA (by first | omega | assumption | exact hasS_ok (ginv_has hc hg (gC_mem (by omega))) | (simp; done) | (rw [List.length_replicate]; omega) | (rw [bitsL_len]; omega) | exact nbs_ok (by omega)) (by first | omega | assumption | exact hasS_ok (ginv_has hc hg (gC_mem (by omega))) | (simp; done) | (rw [List.length_replicate]; omega) | (rw [bitsL_len]; omega) | exact nbs_ok (by omega))))
     refine za (nl ?_)
     exact loop_back ((m + 1)) (by show _ ≤ _; omega) (by show 64 - (m + 1) < 64 - m; omega) (wkf id (wE (e := (vsl (by first | rfl | (simp; done) | (simp; omega) | omega | (exact congrArg List.length (by first | rfl | exact range_yes ((gB_bits (by omega)).symm.trans (by assumption)) | exact range_no ((gB_bits (by omega)).symm.trans (by assumption)) | omega))) rfl)) <| wS <| wE (e := (vint (by first | rfl | exact range_yes ((gB_bits (by omega)).symm.trans (by assumption)) | exact range_no ((gB_bits (by omega)).symm.trans (by assumption)) | omega))) <| wO (e := renob_eq (fun h => h) (congrArg csl (by first | rfl | exact range_yes ((gB_bits (by omega)).symm.trans (by assumption)) | exact range_no ((gB_bits (by omega)).symm.trans (by assumption)) | omega))) <| wP <| by (iterate 18 refine wF ?_); exact wN))
   ·skip
    have c15P := of_decide_eq_false c15
    refine wp_exit' (sq (rg (zm (za (nl (wp_ret' ?_))))))
    exact VRes.tmp _ _ _ (by exact rfl) (brow_cels (h := 14) (L := (((List.range m).filter (setL L).testBit).map cN)) (by kernel_rfl) (by (have e : m = 64 := by omega); subst e; unfold pcs; rw [if_pos (by assumption), ← rch_end hc hg (by omega)]; rfl) (by first | rfl | (simp; done) | (simp; omega)))

set_option maxHeartbeats 4000000 in
set_option maxRecDepth 100000 in
theorem impl_CountPieces_fn (l : List Int) (hl : l.length ≤ 4194304) : Fn Try.prog 77 [.agg [(.slv l.length 1 (isl l) : A)]] [.val (.int .i64 (((pcN l) : Nat) : Int))] := by
 refine fn_intro (N := 23) Try.func77 rfl (by kernel_rfl) rfl (Nat.le_of_ble_eq_true rfl) [1, 6, 9, 17, 20] (ret1 rfl) (fun W => ?_)
 show Wp _ _ _ [kV 0 (V.b (.agg [(.slv l.length 1 (isl l) : A)])), kF 1, kF 6, kF 9, kF 17, kF 20]
 refine sq (rg ?_)
 refine z ?_ (h := fun ν => acts_box (h := 1) ν xt (by exact ob1 rfl))
 refine zk (nl (sq (sq (rg ?_))))
 refine z ?_ (h := fun ν => acts_load_owns (xs := [(.slv l.length 1 (isl l) : A)]) ν qC22_ti_29 rfl (by decide) rfl)
 refine z ?_ (h := fun ν => acts_call1 ν (impl_RegionOk_fn l (by first | omega | assumption | exact regSet_lt (by assumption) | exact rchS_lt _ _ | exact set_mem.1 (gC_mem (by assumption)))) (ac (ArgV.regv _ _ 1 _) an) rv)
 refine z ?_ (h := fun ν => acts_un ν vt (r_not rfl))
 refine nl ?_
 refine wi (b := (!(regOk l))) (fun c1 => ?_) (fun c1 => ?_)
 ·skip
  have c2 : (regOk l) = false := by first | simpa using c1 | (rw [← Bool.not_eq_true']; exact c1)
  refine sq (rg (zk (nl (wp_ret' ?_))))
  exact VRes.tmp _ _ _ (by exact rfl) (bval (congrArg (Value.int .i64) (by first | (rw [pcN_no (by assumption)]; rfl) | (rw [pcN_no (by simp_all)]; rfl))))
 ·skip
  have c3 : (regOk l) = true := by first | simpa using c1 | (rw [← Bool.not_eq_false']; exact c1)
  refine sk (sq (rg (zk (nl (sq (sq (rg ?_)))))))
  refine z ?_ (h := fun ν => acts_load_owns (xs := [(.slv l.length 1 (isl l) : A)]) ν qC22_ti_29 rfl (by decide) rfl)
  refine z ?_ (h := fun ν => acts_call1 ν (impl_Region__set_fn l (by first | omega | assumption | exact regSet_lt (by assumption) | exact rchS_lt _ _ | exact set_mem.1 (gC_mem (by assumption)))) (ac (ArgV.regv _ _ 1 _) an) rv)
  refine za (nl (bkk ?_))
  refine wp_loop' (fun ((t, m) : Nat × Nat) => PInv (regSet l) t m) (fun ((t, m) : Nat × Nat) => [kI 3 (((rootsP (regSet l) m) : Nat) : Int), kU 4 ((t : Nat) : Int), kF 1, kF 6, kF 9, kF 17, kF 20]) (fun ((t, m) : Nat × Nat) => 64 - m) (((regSet l) : Nat), (0 : Nat)) (by exact PInv.zero (regSet_lt (by assumption))) (wkf id (wE (e := (vint (by first | rfl | omega | (rw [rootsP_zero]; rfl) | (rw [hn3]; rfl) | (rw [hn3]; simp; done)))) <| wS <| wF <| wF <| wF <| wF <| wF <| wN)) ?_
  rintro ⟨t, m⟩ inv4
  replace inv4 : PInv (regSet l) t m := inv4
  have hP := inv4
  have htl := hP.lt
  have hrl := rootsP_le (regSet l) m
  refine sq (sq (rg (zm ?_)))
  refine z ?_ (h := fun ν => acts_bin ν vt vc (r_neq rfl))
  refine nl ?_
  refine wi (fun c5 => ?_) (fun c5 => ?_)
  ·skip
   have c5P := of_decide_eq_true c5
   have ht0 : t ≠ 0 := by have := of_decide_eq_true c5; omega
   have hcp := cells_pos hP.lt ht0
   obtain ⟨hn1, hn2, hn3, hn4⟩ := hP.next ht0
   refine sk (sq (bkk (rg (zm (zm (zm ?_))))))
   refine z ?_ (h := fun ν => acts_call1 ν (impl_set__cells_fn t (by first | omega | assumption | exact regSet_lt (by assumption) | exact rchS_lt _ _ | exact set_mem.1 (gC_mem (by assumption)))) (ac (ArgV.v vt) an) (ResV.row _ _ _ _ 17))
   refine z ?_ (h := fun ν => ix0 (k := 0) ν qC22_un_45 qC22_sz_52 vc (hlt := (by first | omega | assumption | exact regSet_lt (by assumption) | exact rchS_lt _ _ | exact set_mem.1 (gC_mem (by assumption)))))
   refine z ?_ (h := fun ν => lC (k := 0) ν qC22_ti_52 (by first | omega | assumption | exact regSet_lt (by assumption) | exact rchS_lt _ _ | exact set_mem.1 (gC_mem (by assumption))))
   refine z ?_ (h := fun ν => acts_call1 ν (impl_set__reach_fn t (gC (setCells t) 0) (by first | omega | assumption | exact regSet_lt (by assumption) | exact rchS_lt _ _ | exact set_mem.1 (gC_mem (by assumption))) (by first | omega | assumption | exact regSet_lt (by assumption) | exact rchS_lt _ _ | exact set_mem.1 (gC_mem (by assumption)))) (ac (ArgV.v vt) (ac (ArgV.va va) an)) rv)
   refine z ?_ (h := fun ν => acts_bin ν vt vt (r_andNot (c := (((andn t (rchS t (gC (setCells t) 0))) : Nat) : Int)) (andnU (m := t) (n := (rchS t (gC (setCells t) 0))) rfl rfl (by first | omega | assumption | exact Nat.lt_of_le_of_lt (shr_le _ _) (by first | omega | assumption | (first | omega | assumption | exact regSet_lt (by assumption) | exact rchS_lt _ _ | exact set_mem.1 (gC_mem (by assumption)))) | (first | omega | assumption | exact regSet_lt (by assumption) | exact rchS_lt _ _ | exact set_mem.1 (gC_mem (by assumption)))) (by first | omega | assumption | exact Nat.lt_of_le_of_lt (shr_le _ _) (by first | omega | assumption | (first | omega | assumption | exact regSet_lt (by assumption) | exact rchS_lt _ _ | exact set_mem.1 (gC_mem (by assumption)))) | (first | omega | assumption | exact regSet_lt (by assumption) | exact rchS_lt _ _ | exact set_mem.1 (gC_mem (by assumption)))))))
   refine za (nl (rg (zm ?_)))
   refine z ?_ (h := fun ν => acts_bin ν vt vc (rA (by first | omega | assumption | exact regSet_lt (by assumption) | exact rchS_lt _ _ | exact set_mem.1 (gC_mem (by assumption))) (by first | omega | assumption | exact regSet_lt (by assumption) | exact rchS_lt _ _ | exact set_mem.1 (gC_mem (by assumption)))))
   refine za (nl ?_)
   exact loop_back ((andn t (rchS t (gC (setCells t) 0))), (idx (gC (setCells t) 0) + 1)) (by exact hn4) (by show 64 - (idx (gC (setCells t) 0) + 1) < 64 - m; omega) (wkf id (wE (e := (vint (by first | rfl | omega | (rw [rootsP_zero]; rfl) | (rw [hn3]; rfl) | (rw [hn3]; simp; done)))) <| wS <| wF <| wF <| wF <| wF <| wF <| wN))
  ·skip
   have c5P := of_decide_eq_false c5
   have ht0 : t = 0 := by have := of_decide_eq_false c5; omega
   refine wp_exit' (sq (rg (zm (za (nl (wp_ret' ?_))))))
   exact VRes.tmp _ _ _ (by exact rfl) (bval (congrArg (Value.int .i64) (by rw [pcN_yes (by assumption), ← pieces_end hP.mem ht0])))

set_option maxHeartbeats 4000000 in
set_option maxRecDepth 100000 in
theorem spec_CountPieces_fn (l : List Int) (hl : l.length ≤ 4194304) : Fn Try.prog 71 [.agg [(.slv l.length 1 (isl l) : A)]] [.val (.int .i64 (((pcN l) : Nat) : Int))] := by
 have h64 := cellsOf_len l
 refine fn_intro (N := 30) Try.func71 rfl (by kernel_rfl) rfl (Nat.le_of_ble_eq_true rfl) [1, 7, 10, 19] (ret1 rfl) (fun W => ?_)
 show Wp _ _ _ [kV 0 (V.b (.agg [(.slv l.length 1 (isl l) : A)])), kF 1, kF 7, kF 10, kF 19]
 refine sq (rg ?_)
 refine z ?_ (h := fun ν => acts_box (h := 1) ν xt (by exact ob1 rfl))
 refine zk (nl (sq (rg (zk (nl (sq (rg ?_)))))))
 refine z ?_ (h := fun ν => acts_load_owns (xs := [(.slv l.length 1 (isl l) : A)]) ν qC22_ti_29 rfl (by decide) rfl)
 refine z ?_ (h := fun ν => acts_call1 ν (spec_CellsOf_fn l (by first | omega | assumption)) (ac (ArgV.regv _ _ 1 _) an) (ResV.row _ _ _ _ 7))
 refine za (nl (sq (sq (rg (zk (nl (bkk ?_)))))))
 refine wp_loop' (fun (k : Nat) => k ≤ (cellsOf l).length) (fun (k : Nat) => [kP 1 1 0, kI 3 (((((cellsOf l).take k).filter (rootD (regSet l))).length : Nat) : Int), kS 4 7 0 ((cellsOf l).length), kI 5 ((k : Nat) : Int), kO 1 29 1 true [(.slv l.length 1 (isl l) : A)], kO 7 52 2 true (pl (csl (cellsOf l))), kF 10, kF 19]) (fun (k : Nat) => (cellsOf l).length - k) ((0 : Nat)) (by exact (Nat.zero_le _ : 0 ≤ _)) (wkf id (wS <| wE (e := (vint (by first | rfl | omega | (rw [cfilt_yes (by omega) (hpb true (by simp_all [cEq_cel]))]; simp; done) | (rw [cfilt_no (by omega) (hpb false (by simp_all [cEq_cel]))]; done)))) <| wS <| wE (e := (vint (by first | rfl | omega | (rw [cfilt_yes (by omega) (hpb true (by simp_all [cEq_cel]))]; simp; done) | (rw [cfilt_no (by omega) (hpb false (by simp_all [cEq_cel]))]; done)))) <| wX <| wP <| wF <| wF <| wN)) ?_
 rintro k inv1
 replace inv1 : k ≤ (cellsOf l).length := inv1
 have inv := inv1
 have hck := cfilt_len (rootD (regSet l)) (cellsOf l) k
 refine sq (sq (rg (zm (zm ?_))))
 refine z ?_ (h := fun ν => lnS ν qC22_un_45)
 refine z ?_ (h := fun ν => acts_bin ν vt vt (r_lss rfl))
 refine nl ?_
 refine wi (fun c2 => ?_) (fun c2 => ?_)
 ·skip
  have c2P := of_decide_eq_true c2
  obtain ⟨hpf, hpb⟩ := pcs_first (l := l) (k := k) (by omega)
  refine sk (sq (bkk (sq (wp_dr ?_))))
  refine zd ?_ (h := fun ν => acts_load_owns (xs := [(.slv l.length 1 (isl l) : A)]) ν qC22_ti_29 rfl (by decide) rfl)
  refine zdm (zdm ?_)
  refine zd ?_ (h := fun ν => ix0 ν qC22_un_45 qC22_sz_52 vt (hlt := (by first | omega | assumption)))
  refine zd ?_ (h := fun ν => lC ν qC22_ti_52 (by first | omega | assumption))
  refine zd ?_ (h := fun ν => acts_call1 ν (spec_PieceOf_fn l (gC (cellsOf l) k) (by first | omega | assumption)) (ac (ArgV.regv _ _ 1 _) (ac (ArgV.va va) an)) (ResV.row _ _ _ _ 19))
  refine zd ?_ (h := fun ν => ix0 (k := 0) ν qC22_un_45 qC22_sz_52 vc (hlt := (by first | omega | assumption)))
  refine zd ?_ (h := fun ν => lC (k := 0) ν qC22_ti_52 (by first | omega | assumption))
  refine zdm (zdm ?_)
  refine zd ?_ (h := fun ν => ix0 ν qC22_un_45 qC22_sz_52 vt (hlt := (by first | omega | assumption)))
  refine zd ?_ (h := fun ν => lC ν qC22_ti_52 (by first | omega | assumption))
  refine zd ?_ (h := fun ν => acts_bin ν va va (r_aggeq qC22_eg_52 (fun w => (run_eql_cel ((gC (pcs l (gC (cellsOf l) k)) 0).x) ((gC (pcs l (gC (cellsOf l) k)) 0).y) ((gC (cellsOf l) k).x) ((gC (cellsOf l) k).y) w).trans (congrArg (fun z => Result.ok (Value.bool z) w) (rfl : (cEq ((gC (pcs l (gC (cellsOf l) k)) 0).x) ((gC (pcs l (gC (cellsOf l) k)) 0).y) ((gC (cellsOf l) k).x) ((gC (cellsOf l) k).y)) = (cEq ((gC (pcs l (gC (cellsOf l) k)) 0).x) ((gC (pcs l (gC (cellsOf l) k)) 0).y) ((gC (cellsOf l) k).x) ((gC (cellsOf l) k).y)))))))
  refine dw_nil ?_
  refine wi (b := (cEq ((gC (pcs l (gC (cellsOf l) k)) 0).x) ((gC (pcs l (gC (cellsOf l) k)) 0).y) ((gC (cellsOf l) k).x) ((gC (cellsOf l) k).y))) (fun c3 => ?_) (fun c3 => ?_)
  ·skip
   refine rg (zm ?_)
   refine z ?_ (h := fun ν => acts_bin ν vt vc (rA (by first | omega | assumption) (by first | omega | assumption)))
   refine za (nl (rg (zm ?_)))
   refine z ?_ (h := fun ν => acts_bin ν vt vc (rA (by first | omega | assumption) (by first | omega | assumption)))
   refine za (nl ?_)
   exact loop_back ((k + 1)) (by show _ ≤ _; omega) (by show (cellsOf l).length - (k + 1) < (cellsOf l).length - k; omega) (wkf id (wS <| wE (e := (vint (by first | rfl | omega | (rw [cfilt_yes (by omega) (hpb true (by simp_all [cEq_cel]))]; simp; done) | (rw [cfilt_no (by omega) (hpb false (by simp_all [cEq_cel]))]; done)))) <| wS <| wE (e := (vint (by first | rfl | omega | (rw [cfilt_yes (by omega) (hpb true (by simp_all [cEq_cel]))]; simp; done) | (rw [cfilt_no (by omega) (hpb false (by simp_all [cEq_cel]))]; done)))) <| wX <| wP <| wF <| wF <| wN))
  ·skip
   refine sk (rg (zm ?_))
   refine z ?_ (h := fun ν => acts_bin ν vt vc (rA (by first | omega | assumption) (by first | omega | assumption)))
   refine za (nl ?_)
   exact loop_back ((k + 1)) (by show _ ≤ _; omega) (by show (cellsOf l).length - (k + 1) < (cellsOf l).length - k; omega) (wkf id (wS <| wE (e := (vint (by first | rfl | omega | (rw [cfilt_yes (by omega) (hpb true (by simp_all [cEq_cel]))]; simp; done) | (rw [cfilt_no (by omega) (hpb false (by simp_all [cEq_cel]))]; done)))) <| wS <| wE (e := (vint (by first | rfl | omega | (rw [cfilt_yes (by omega) (hpb true (by simp_all [cEq_cel]))]; simp; done) | (rw [cfilt_no (by omega) (hpb false (by simp_all [cEq_cel]))]; done)))) <| wX <| wP <| wF <| wF <| wN))
 ·skip
  have c2P := of_decide_eq_false c2
  refine wp_exit' (sq (rg (zm (za (nl (wp_ret' ?_))))))
  exact VRes.tmp _ _ _ (by exact rfl) (bval (congrArg (Value.int .i64) (by rw [pcN_eq, List.take_of_length_le (by omega)])))
end Cl
end Go.Proofs.Ytjgimiicfekcpaa
