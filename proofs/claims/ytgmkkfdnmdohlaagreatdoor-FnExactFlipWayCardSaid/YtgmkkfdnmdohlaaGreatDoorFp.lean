/- Walks over clean states, printed by wg.py. No statement is proved here. -/
import Derived.Test.YtgmkkfdnmdohlaaGreatDoorDs
import Derived.Test.YtgmkkfdnmdohlaaGreatDoorClB
set_option linter.unusedSimpArgs false
set_option linter.unusedVariables false
namespace Go.Proofs.YtgmkkfdnmdohlaaGreatDoor
namespace Cl
open Go.ChangeShapes Go.WideShapes Go.ChangeAt Go.RowKit
set_option maxRecDepth 20000
theorem fwI_at {l : List Int} {x q : List Dom} (hx : x ∈ ltR l) : gI (dsM (nrM (ltR l)) (ixT (ltR l) q) (nrM (ltR l)).length) (ixT (ltR l) x).toNat = dsD (lkM (ltR l)) (ixT (ltR l) q) (ixT (ltR l) x) := by
  have h1 := ixT_mem hx
  have h2 := (ixT_lt (ltR l) x).1
  have h3 := nrM_len (ltR l)
  rw [gI_dsW h1 (by omega), dsD_nr (FlipA.of l)]
theorem fwS_at {l : List Int} {x q : List Dom} (hx : x ∈ ltR l) : gI (dsM (lkM (ltR l)) (ixT (ltR l) q) (lkM (ltR l)).length) (ixT (ltR l) x).toNat = dsD (lkM (ltR l)) (ixT (ltR l) q) (ixT (ltR l) x) := by
  have h1 := ixT_mem hx
  have h2 := (ixT_lt (ltR l) x).1
  have h3 := lkM_len (ltR l)
  rw [gI_dsW h1 (by omega)]
theorem fd_im {l : List Int} {p q : List Dom} (h1 : ¬ ixT (ltR l) p < 0) (h2 : ¬ ixT (ltR l) q < 0) : gI (dsM (nrM (ltR l)) (ixT (ltR l) p) (nrM (ltR l)).length) (ixT (ltR l) q).toNat = fdR l p q := by
  rw [fwI_at (ix_in h2).1, ← fd_nr h1 h2, dsD_nr (FlipA.of l)]
theorem qFp_sz_3 : (Tryz.prog.info? 3).map (·.size) = some 1 := by kernel_rfl
theorem qFp_ti_29 : TI Tryz.prog 29 true 1 := ⟨⟨_, Tryz.underlying29, rfl⟩, by kernel_rfl⟩
theorem qFp_ti_3 : TI Tryz.prog 3 false 1 := ⟨⟨_, Tryz.underlying3, rfl⟩, by kernel_rfl⟩
theorem qFp_un_22 : Tryz.prog.underlying 22 = some (.slice 3) := Tryz.underlying22
set_option maxHeartbeats 4000000 in
set_option maxRecDepth 100000 in
theorem impl_FlipDistance_fn_o (l : List Int) (p q : List Dom) (hl : l.length ≤ 4194304) (hp : p.length ≤ 4194304) (hq : q.length ≤ 4194304) : FnO Tryz.prog 11 [.agg [(.sl 800 0 l.length : A)], .a (.sl 801 0 p.length), .a (.sl 802 0 q.length)] [(.o 800, some (.o ⟨3, 1, true, pl (isl l)⟩)), (.o 801, some (.o ⟨62, 3, true, pl (dsl p)⟩)), (.o 802, some (.o ⟨62, 3, true, pl (dsl q)⟩))] (V.v (.int .i64 (fdR l p q))) [(.o 800, some (.o ⟨3, 1, true, pl (isl l)⟩)), (.o 801, some (.o ⟨62, 3, true, pl (dsl p)⟩)), (.o 802, some (.o ⟨62, 3, true, pl (dsl q)⟩))] [800, 801, 802] := by
 have hll := ltR_len l
 have hlr : ∀ k, k < (ltR l).length → (gLd (ltR l) k).length ≤ 64 := fun k hk => Nat.le_trans (ltR_row hk) (by decide)
 have hA := FlipA.of l
 have hml := lkM_len (ltR l)
 have hnl := nrM_len (ltR l)
 have hi1 := ixT_lt (ltR l) p
 have hi2 := ixT_lt (ltR l) q
 have hRI : RowsIn (lkM (ltR l)) (lkM (ltR l)).length := by rw [hml]; exact rows_in hA
 have hNI : RowsIn (nrM (ltR l)) (nrM (ltR l)).length := nr_in hA
 have hdl := dsM_len (lkM (ltR l)) (ixT (ltR l) q) (lkM (ltR l)).length
 have hdn := dsM_len (nrM (ltR l)) (ixT (ltR l) p) (nrM (ltR l)).length
 refine fn_introO (N := 31) Tryz.func11 rfl (by kernel_rfl) rfl (Nat.le_of_ble_eq_true rfl) rfl rfl (by kernel_rfl) (by kernel_rfl) ⟨oc_pl (fun _ => rfl), oc_pl (fun _ => rfl), oc_pl (fun _ => rfl), trivial⟩ [3, 11, 14, 17, 25, 27, 31, 32, 33, 34] (retO1 rfl) (fun W own kp im0 => ?_)
 show Wp _ _ _ [kV 0 (V.b (.agg [(.sl 800 0 l.length : A)])), kS 1 801 0 p.length, kS 2 802 0 q.length, kO 800 3 1 true (pl (isl l)), kO 801 62 3 true (pl (dsl p)), kO 802 62 3 true (pl (dsl q)), kF 3, kF 11, kF 14, kF 17, kF 25, kF 27, kF 31, kF 32, kF 33, kF 34]
 refine sq (rg ?_)
 refine z ?_ (h := fun ν => acts_box (h := 3) ν xt (by exact ob1 rfl))
 refine zk (nl (sq (rg ?_)))
 refine z ?_ (h := fun ν => acts_load_owns (xs := [(.sl 800 0 l.length : A)]) ν qFp_ti_29 rfl (by decide) rfl)
 refine z ?_ (h := fun ν => acts_callO (d := 11) (f := 37) (os := [(.o 800, some (.o ⟨3, 1, true, pl (isl l)⟩))]) (os' := [(.o 800, some (.o ⟨3, 1, true, pl (isl l)⟩)), (.o 11, some (.o ⟨31, 1, true, rwD 62 (ltR l)⟩))]) (r := V.b (.a (.sl 11 0 ((ltR l).length)))) (bs := [.agg [(.sl 800 0 l.length : A)]]) (keep := [800]) (new := [11]) (dead := []) ν (FnO.ren' (impl_ListTilings_fn l (by first | omega | assumption | exact hlr _ (by first | assumption | omega) | exact Nat.le_trans (hlr _ (by first | assumption | omega)) (by decide))) (subst1 [(900, 11)]) rfl rfl (by kernel_rfl) (by kernel_rfl) ⟨oc_pl (fun _ => rfl), oc_rwD, trivial⟩ (by kernel_rfl) rfl (by simp only [renS, Ob.ren, pl_ren, rws_ren_doms, rws_ren_ints, rws_ren_cels, rwI_ren, rwD_ren]; first | done | rfl) (by simp only [renS, Ob.ren, pl_ren, rws_ren_doms, rws_ren_ints, rws_ren_cels, rwI_ren, rwD_ren]; first | done | rfl) rfl rfl) (by kernel_rfl) ⟨oc_pl (fun _ => rfl), oc_rwD, trivial⟩ (by kernel_rfl) (ArgOs.cons (ArgO.slot 10 (.agg [(.sl 800 0 l.length : A)])) (ArgOs.nil)))
 refine za (nl (sq (rg (zm (zm ?_)))))
 refine z ?_ (h := fun ν => acts_call1 ν (impl_indexIn_fn (ltR l) p (by first | omega | assumption | (intro k hk; exact Nat.le_trans (hlr k hk) (by decide))) (by first | omega | assumption | (intro k hk; exact Nat.le_trans (hlr k hk) (by decide))) (by first | omega | assumption | (intro k hk; exact Nat.le_trans (hlr k hk) (by decide)))) (ac (dvD (L := (ltR l))) (ac (argv_own (by first | exact dsl_len _ | (simp [isl_len, bsl_len, dsl_len, csl_len]; done) | (simp [isl_len, bsl_len, dsl_len, csl_len]; omega))) an)) rv)
 refine zm (zm ?_)
 refine z ?_ (h := fun ν => acts_call1 ν (impl_indexIn_fn (ltR l) q (by first | omega | assumption | (intro k hk; exact Nat.le_trans (hlr k hk) (by decide))) (by first | omega | assumption | (intro k hk; exact Nat.le_trans (hlr k hk) (by decide))) (by first | omega | assumption | (intro k hk; exact Nat.le_trans (hlr k hk) (by decide)))) (ac (dvD (L := (ltR l))) (ac (argv_own (by first | exact dsl_len _ | (simp [isl_len, bsl_len, dsl_len, csl_len]; done) | (simp [isl_len, bsl_len, dsl_len, csl_len]; omega))) an)) rv)
 refine za (za (nl (sq (sq ?_))))
 rcases Bool.eq_false_or_eq_true (decide ((ixT (ltR l) p) < 0)) with c1 | c1
 ·skip
  have c1P := of_decide_eq_true c1
  refine rg (zm ?_)
  refine z ?_ (h := fun ν => acts_bin ν vt vc (r_lss (c := true) c1))
  refine zm (zo (zo ?_))
  refine z ?_ (h := fun ν => acts_pick_t ν vt xc)
  refine nl (wt (sq (rg (zk (nl (wp_ret' ?_))))))
  exact ⟨_, weak_id, ⟨by kernel_rfl, by kernel_rfl, by kernel_rfl, trivial⟩, vo_eq 6 (.a (.val (.int .i64 (-1)))) (.a (.val (.int .i64 (fdR l p q)))) (by kernel_rfl) (congrArg (fun z : Int => B.a (.val (.int .i64 z))) (by first | exact (fdR_no (by omega)).symm | exact fdR_no (by omega) | exact fd_im (by omega) (by omega)))⟩
 ·skip
  have c1P := of_decide_eq_false c1
  refine rg (zm ?_)
  refine z ?_ (h := fun ν => acts_bin ν vt vc (r_lss (c := false) c1))
  refine zm ?_
  refine zg ?_ (h := fun ν => step_on rfl rfl (mt ν))
  refine zg ?_ (h := fun ν => step_on rfl rfl (acts_bin ν vt vc (r_lss rfl)))
  refine z ?_ (h := fun ν => acts_pick_f ν vt xt)
  refine nl ?_
  refine wi (fun c2 => ?_) (fun c2 => ?_)
  ·skip
   have c2P := of_decide_eq_true c2
   refine sq (rg (zk (nl (wp_ret' ?_))))
   exact ⟨_, weak_id, ⟨by kernel_rfl, by kernel_rfl, by kernel_rfl, trivial⟩, vo_eq 6 (.a (.val (.int .i64 (-1)))) (.a (.val (.int .i64 (fdR l p q)))) (by kernel_rfl) (congrArg (fun z : Int => B.a (.val (.int .i64 z))) (by first | exact (fdR_no (by omega)).symm | exact fdR_no (by omega) | exact fd_im (by omega) (by omega)))⟩
  ·skip
   have c2P := of_decide_eq_false c2
   refine sk (sq ?_)
   refine wp_weak (fzD (k := 7) (h := 11) (T0 := 31) (T := 62) (ex0 := true) (n := ((ltR l).length)) (L := (ltR l)) (hn := by rfl)) ?_
   refine rg (zm ?_)
   refine z ?_ (h := fun ν => acts_callO (d := 25) (f := 40) (os := []) (os' := []) (r := V.b (.a (.slvv 1 (vwI (nrM (ltR l)))))) (bs := [.a (.slvv 3 (vwD (ltR l)))]) (keep := []) (new := []) (dead := []) ν ((impl_flipNeighbors_fn (ltR l) (regSet l) (by first | omega | assumption | exact hA | exact hlr) (by first | omega | assumption | exact hA | exact hlr) (by first | omega | assumption | exact hA | exact hlr))) (by kernel_rfl) trivial (by kernel_rfl) (ArgOs.cons (ArgO.slot 24 (.a (.slvv 3 (vwD (ltR l))))) (ArgOs.nil)))
   refine zm ?_
   refine z ?_ (h := fun ν => acts_call1 ν (impl_flipDistances_fn (nrM (ltR l)) (ixT (ltR l) p) (by first | omega | assumption | exact hNI | (intro k hk; exact nr_row64 hk) | exact ⟨by omega, by omega⟩) (by first | omega | assumption | exact hNI | (intro k hk; exact nr_row64 hk) | exact ⟨by omega, by omega⟩) (by first | omega | assumption | exact hNI | (intro k hk; exact nr_row64 hk) | exact ⟨by omega, by omega⟩) (by first | omega | assumption | exact hNI | (intro k hk; exact nr_row64 hk) | exact ⟨by omega, by omega⟩)) (ac (ArgV.slvv _ _ _) (ac (ArgV.v vt) an)) (ResV.row _ _ _ _ 27))
   refine zm ?_
   refine z ?_ (h := fun ν => ix0 (k := (ixT (ltR l) q).toNat) ν qFp_un_22 qFp_sz_3 vt (Int.toNat_of_nonneg (by first | omega | assumption | exact hlr _ (by first | assumption | omega) | exact Nat.le_trans (hlr _ (by first | assumption | omega)) (by decide))).symm (by first | omega | assumption | exact hlr _ (by first | assumption | omega) | exact Nat.le_trans (hlr _ (by first | assumption | omega)) (by decide)))
   refine z ?_ (h := fun ν => lI ν qFp_ti_3 (by first | omega | assumption | exact hlr _ (by first | assumption | omega) | exact Nat.le_trans (hlr _ (by first | assumption | omega)) (by decide)))
   refine za (nl (wp_ret' ?_))
   exact ⟨_, weak_id, ⟨by kernel_rfl, by kernel_rfl, by kernel_rfl, trivial⟩, vo_eq 6 (.a (.val (.int .i64 (gI (dsM (nrM (ltR l)) (ixT (ltR l) p) (nrM (ltR l)).length) ((ixT (ltR l) q).toNat))))) (.a (.val (.int .i64 (fdR l p q)))) (by kernel_rfl) (congrArg (fun z : Int => B.a (.val (.int .i64 z))) (by first | exact (fdR_no (by omega)).symm | exact fdR_no (by omega) | exact fd_im (by omega) (by omega)))⟩

set_option maxHeartbeats 4000000 in
set_option maxRecDepth 100000 in
theorem spec_FlipDistance_fn_o (l : List Int) (p q : List Dom) (hl : l.length ≤ 4194304) (hp : p.length ≤ 4194304) (hq : q.length ≤ 4194304) : FnO Tryz.prog 8 [.agg [(.sl 800 0 l.length : A)], .a (.sl 801 0 p.length), .a (.sl 802 0 q.length)] [(.o 800, some (.o ⟨3, 1, true, pl (isl l)⟩)), (.o 801, some (.o ⟨62, 3, true, pl (dsl p)⟩)), (.o 802, some (.o ⟨62, 3, true, pl (dsl q)⟩))] (V.v (.int .i64 (fdR l p q))) [(.o 800, some (.o ⟨3, 1, true, pl (isl l)⟩)), (.o 801, some (.o ⟨62, 3, true, pl (dsl p)⟩)), (.o 802, some (.o ⟨62, 3, true, pl (dsl q)⟩))] [800, 801, 802] := by
 have hll := ltR_len l
 have hlr : ∀ k, k < (ltR l).length → (gLd (ltR l) k).length ≤ 64 := fun k hk => Nat.le_trans (ltR_row hk) (by decide)
 have hA := FlipA.of l
 have hml := lkM_len (ltR l)
 have hnl := nrM_len (ltR l)
 have hi1 := ixT_lt (ltR l) p
 have hi2 := ixT_lt (ltR l) q
 have hRI : RowsIn (lkM (ltR l)) (lkM (ltR l)).length := by rw [hml]; exact rows_in hA
 have hNI : RowsIn (nrM (ltR l)) (nrM (ltR l)).length := nr_in hA
 have hdl := dsM_len (lkM (ltR l)) (ixT (ltR l) q) (lkM (ltR l)).length
 have hdn := dsM_len (nrM (ltR l)) (ixT (ltR l) p) (nrM (ltR l)).length
 refine fn_introO (N := 29) Tryz.func8 rfl (by kernel_rfl) rfl (Nat.le_of_ble_eq_true rfl) rfl rfl (by kernel_rfl) (by kernel_rfl) ⟨oc_pl (fun _ => rfl), oc_pl (fun _ => rfl), oc_pl (fun _ => rfl), trivial⟩ [3, 11, 14, 22, 23, 25, 29, 30, 31, 32] (retO1 rfl) (fun W own kp im0 => ?_)
 show Wp _ _ _ [kV 0 (V.b (.agg [(.sl 800 0 l.length : A)])), kS 1 801 0 p.length, kS 2 802 0 q.length, kO 800 3 1 true (pl (isl l)), kO 801 62 3 true (pl (dsl p)), kO 802 62 3 true (pl (dsl q)), kF 3, kF 11, kF 14, kF 22, kF 23, kF 25, kF 29, kF 30, kF 31, kF 32]
 refine sq (rg ?_)
 refine z ?_ (h := fun ν => acts_box (h := 3) ν xt (by exact ob1 rfl))
 refine zk (nl (sq (rg ?_)))
 refine z ?_ (h := fun ν => acts_load_owns (xs := [(.sl 800 0 l.length : A)]) ν qFp_ti_29 rfl (by decide) rfl)
 refine zm ?_
 refine z ?_ (h := fun ν => acts_callO (d := 11) (f := 30) (os := [(.o 800, some (.o ⟨3, 1, true, pl (isl l)⟩)), (.o 801, some (.o ⟨62, 3, true, pl (dsl p)⟩))]) (os' := [(.o 800, some (.o ⟨3, 1, true, pl (isl l)⟩)), (.o 801, some (.o ⟨62, 3, true, pl (dsl p)⟩))]) (r := V.v (.int .i64 (ixT (ltR l) p))) (bs := [.agg [(.sl 800 0 l.length : A)], .a (.sl 801 0 p.length)]) (keep := [800, 801]) (new := []) (dead := []) ν ((spec_IndexOf_fn l p (by first | omega | assumption | exact hlr _ (by first | assumption | omega) | exact Nat.le_trans (hlr _ (by first | assumption | omega)) (by decide)) (by first | omega | assumption | exact hlr _ (by first | assumption | omega) | exact Nat.le_trans (hlr _ (by first | assumption | omega)) (by decide)))) (by kernel_rfl) ⟨oc_pl (fun _ => rfl), oc_pl (fun _ => rfl), trivial⟩ (by kernel_rfl) (ArgOs.cons (ArgO.slot 9 (.agg [(.sl 800 0 l.length : A)])) (ArgOs.cons (ArgO.slot 10 (.a (.sl 801 0 p.length))) (ArgOs.nil))))
 refine za (nl (sq (rg ?_)))
 refine z ?_ (h := fun ν => acts_load_owns (xs := [(.sl 800 0 l.length : A)]) ν qFp_ti_29 rfl (by decide) rfl)
 refine zm ?_
 refine z ?_ (h := fun ν => acts_callO (d := 14) (f := 30) (os := [(.o 800, some (.o ⟨3, 1, true, pl (isl l)⟩)), (.o 802, some (.o ⟨62, 3, true, pl (dsl q)⟩))]) (os' := [(.o 800, some (.o ⟨3, 1, true, pl (isl l)⟩)), (.o 802, some (.o ⟨62, 3, true, pl (dsl q)⟩))]) (r := V.v (.int .i64 (ixT (ltR l) q))) (bs := [.agg [(.sl 800 0 l.length : A)], .a (.sl 802 0 q.length)]) (keep := [800, 802]) (new := []) (dead := []) ν (FnO.ren' (spec_IndexOf_fn l q (by first | omega | assumption | exact hlr _ (by first | assumption | omega) | exact Nat.le_trans (hlr _ (by first | assumption | omega)) (by decide)) (by first | omega | assumption | exact hlr _ (by first | assumption | omega) | exact Nat.le_trans (hlr _ (by first | assumption | omega)) (by decide))) (subst1 [(801, 802)]) rfl rfl (by kernel_rfl) (by kernel_rfl) ⟨oc_pl (fun _ => rfl), oc_pl (fun _ => rfl), trivial⟩ (by kernel_rfl) rfl (by simp only [renS, Ob.ren, pl_ren, rws_ren_doms, rws_ren_ints, rws_ren_cels, rwI_ren, rwD_ren]; first | done | rfl) (by simp only [renS, Ob.ren, pl_ren, rws_ren_doms, rws_ren_ints, rws_ren_cels, rwI_ren, rwD_ren]; first | done | rfl) rfl rfl) (by kernel_rfl) ⟨oc_pl (fun _ => rfl), oc_pl (fun _ => rfl), trivial⟩ (by kernel_rfl) (ArgOs.cons (ArgO.slot 12 (.agg [(.sl 800 0 l.length : A)])) (ArgOs.cons (ArgO.slot 13 (.a (.sl 802 0 q.length))) (ArgOs.nil))))
 refine za (nl (sq (sq ?_)))
 rcases Bool.eq_false_or_eq_true (decide ((ixT (ltR l) p) < 0)) with c1 | c1
 ·skip
  have c1P := of_decide_eq_true c1
  refine rg (zm ?_)
  refine z ?_ (h := fun ν => acts_bin ν vt vc (r_lss (c := true) c1))
  refine zm (zo (zo ?_))
  refine z ?_ (h := fun ν => acts_pick_t ν vt xc)
  refine nl (wt (sq (rg (zk (nl (wp_ret' ?_))))))
  exact ⟨_, weak_id, ⟨by kernel_rfl, by kernel_rfl, by kernel_rfl, trivial⟩, vo_eq 6 (.a (.val (.int .i64 (-1)))) (.a (.val (.int .i64 (fdR l p q)))) (by kernel_rfl) (congrArg (fun z : Int => B.a (.val (.int .i64 z))) (by first | exact (fdR_no (by omega)).symm | exact fdR_no (by omega) | (rw [fdR_yes (by omega) (by omega)]; exact gI_dsW (by omega) (by omega))))⟩
 ·skip
  have c1P := of_decide_eq_false c1
  refine rg (zm ?_)
  refine z ?_ (h := fun ν => acts_bin ν vt vc (r_lss (c := false) c1))
  refine zm ?_
  refine zg ?_ (h := fun ν => step_on rfl rfl (mt ν))
  refine zg ?_ (h := fun ν => step_on rfl rfl (acts_bin ν vt vc (r_lss rfl)))
  refine z ?_ (h := fun ν => acts_pick_f ν vt xt)
  refine nl ?_
  refine wi (fun c2 => ?_) (fun c2 => ?_)
  ·skip
   have c2P := of_decide_eq_true c2
   refine sq (rg (zk (nl (wp_ret' ?_))))
   exact ⟨_, weak_id, ⟨by kernel_rfl, by kernel_rfl, by kernel_rfl, trivial⟩, vo_eq 6 (.a (.val (.int .i64 (-1)))) (.a (.val (.int .i64 (fdR l p q)))) (by kernel_rfl) (congrArg (fun z : Int => B.a (.val (.int .i64 z))) (by first | exact (fdR_no (by omega)).symm | exact fdR_no (by omega) | (rw [fdR_yes (by omega) (by omega)]; exact gI_dsW (by omega) (by omega))))⟩
  ·skip
   have c2P := of_decide_eq_false c2
   refine sk (sq (rg ?_))
   refine z ?_ (h := fun ν => acts_load_owns (xs := [(.sl 800 0 l.length : A)]) ν qFp_ti_29 rfl (by decide) rfl)
   refine z ?_ (h := fun ν => acts_callO (d := 22) (f := 34) (os := [(.o 800, some (.o ⟨3, 1, true, pl (isl l)⟩))]) (os' := [(.o 800, some (.o ⟨3, 1, true, pl (isl l)⟩))]) (r := V.b (.a (.slvv 3 (vwD (ltR l))))) (bs := [.agg [(.sl 800 0 l.length : A)]]) (keep := [800]) (new := []) (dead := []) ν ((spec_ListTilings_fn l (by first | omega | assumption | exact hlr _ (by first | assumption | omega) | exact Nat.le_trans (hlr _ (by first | assumption | omega)) (by decide)))) (by kernel_rfl) ⟨oc_pl (fun _ => rfl), trivial⟩ (by kernel_rfl) (ArgOs.cons (ArgO.slot 21 (.agg [(.sl 800 0 l.length : A)])) (ArgOs.nil)))
   refine z ?_ (h := fun ν => acts_callO (d := 23) (f := 33) (os := []) (os' := []) (r := V.b (.a (.slvv 1 (vwI (lkM (ltR l)))))) (bs := [.a (.slvv 3 (vwD (ltR l)))]) (keep := []) (new := []) (dead := []) ν ((spec_l12Links_fn (ltR l) (by first | omega | assumption | exact hlr _ (by first | assumption | omega) | exact Nat.le_trans (hlr _ (by first | assumption | omega)) (by decide)) (by first | omega | assumption | exact hlr _ (by first | assumption | omega) | exact Nat.le_trans (hlr _ (by first | assumption | omega)) (by decide)))) (by kernel_rfl) trivial (by kernel_rfl) (ArgOs.cons (ArgO.slot 22 (.a (.slvv 3 (vwD (ltR l))))) (ArgOs.nil)))
   refine zm ?_
   refine z ?_ (h := fun ν => acts_call1 ν (spec_l12Distances_fn (lkM (ltR l)) (ixT (ltR l) q) (by first | omega | assumption | exact hRI | (intro k hk; exact Nat.le_trans (lk_row64 hA hk) (by decide)) | exact ⟨by omega, by omega⟩) (by first | omega | assumption | exact hRI | (intro k hk; exact Nat.le_trans (lk_row64 hA hk) (by decide)) | exact ⟨by omega, by omega⟩) (by first | omega | assumption | exact hRI | (intro k hk; exact Nat.le_trans (lk_row64 hA hk) (by decide)) | exact ⟨by omega, by omega⟩) (by first | omega | assumption | exact hRI | (intro k hk; exact Nat.le_trans (lk_row64 hA hk) (by decide)) | exact ⟨by omega, by omega⟩)) (ac (ArgV.slvv _ _ _) (ac (ArgV.v vt) an)) (ResV.row _ _ _ _ 25))
   refine zm ?_
   refine z ?_ (h := fun ν => ix0 (k := (ixT (ltR l) p).toNat) ν qFp_un_22 qFp_sz_3 vt (Int.toNat_of_nonneg (by first | omega | assumption | exact hlr _ (by first | assumption | omega) | exact Nat.le_trans (hlr _ (by first | assumption | omega)) (by decide))).symm (by first | omega | assumption | exact hlr _ (by first | assumption | omega) | exact Nat.le_trans (hlr _ (by first | assumption | omega)) (by decide)))
   refine z ?_ (h := fun ν => lI ν qFp_ti_3 (by first | omega | assumption | exact hlr _ (by first | assumption | omega) | exact Nat.le_trans (hlr _ (by first | assumption | omega)) (by decide)))
   refine za (nl (wp_ret' ?_))
   exact ⟨_, weak_id, ⟨by kernel_rfl, by kernel_rfl, by kernel_rfl, trivial⟩, vo_eq 6 (.a (.val (.int .i64 (gI (dsM (lkM (ltR l)) (ixT (ltR l) q) (lkM (ltR l)).length) ((ixT (ltR l) p).toNat))))) (.a (.val (.int .i64 (fdR l p q)))) (by kernel_rfl) (congrArg (fun z : Int => B.a (.val (.int .i64 z))) (by first | exact (fdR_no (by omega)).symm | exact fdR_no (by omega) | (rw [fdR_yes (by omega) (by omega)]; exact gI_dsW (by omega) (by omega))))⟩

end Cl
end Go.Proofs.YtgmkkfdnmdohlaaGreatDoor
