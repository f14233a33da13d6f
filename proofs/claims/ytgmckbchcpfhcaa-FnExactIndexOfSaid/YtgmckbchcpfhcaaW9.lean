/- Walks over clean states, printed by wg.py. No statement is proved here. -/
import Derived.Test.YtgmckbchcpfhcaaE4
import Derived.Test.YtgmckbchcpfhcaaCl25
namespace Go.Proofs.Ytgmckbchcpfhcaa
namespace Cl
open Go.ChangeShapes Go.WideShapes Go.ChangeAt Go.RowKit
set_option maxRecDepth 20000

theorem qW9_ti_24 : TI Try.prog 24 true 1 := ⟨⟨_, Try.underlying24, rfl⟩, by kernel_rfl⟩
theorem qW9_ti_28 : TI Try.prog 28 true 1 := ⟨⟨_, Try.underlying28, rfl⟩, by kernel_rfl⟩
theorem qW9_zi_28 : ZI Try.prog 28 (.agg #[.slice none 0 0]) 1 24 := by unfold ZI; kernel_rfl
set_option maxHeartbeats 4000000 in
set_option maxRecDepth 100000 in
theorem laws_FnExactListTilings_fn (l : List Int) (hl : l.length ≤ 9223372036854775807) : Fn Try.prog 3 [.agg [(.slv l.length 1 (isl l) : A)]] [.val (.bool true)] := by
 have hll := ltR_len l
 have hl1 : (ltR l).length ≤ 1024 := by omega
 have hl64 : ∀ k, k < (ltR l).length → (gLd (ltR l) k).length ≤ 64 := fun k hk => Nat.le_trans (ltR_row hk) (by decide)
 have hlr : ∀ k, k < (ltR l).length → (gLd (ltR l) k).length ≤ 4194304 := fun k hk => Nat.le_trans (ltR_row hk) (by decide)
 have hcl := mkDD_len 1 (ltR l)
 have hc1 : (mkDD 1 (ltR l)).length ≤ 1024 := by omega
 have hcr : ∀ k, k < (mkDD 1 (ltR l)).length → (gLd (mkDD 1 (ltR l)) k).length ≤ 64 := fun k hk => by rw [mkDD_rlen (by omega)]; exact Nat.le_trans (ltR_row (by omega)) (by decide)
 have hcsz : szD (mkDD 1 (ltR l)) (mkDD 1 (ltR l)).length = szD (ltR l) (ltR l).length := by rw [hcl]; exact mkDD_sz (Nat.le_refl _)
 have hch := mkDD_held (v := 1) (m := ltR l)
 have hsb := szD_bd hl64 _ (Nat.le_refl _)
 refine fn_intro (N := 69) Try.func3 rfl (by kernel_rfl) rfl (Nat.le_of_ble_eq_true rfl) [1, 5, 13, 17, 18, 20, 22, 25, 29, 30, 34, 40, 45, 48, 55, 56, 59, 63] (ret1 rfl) (fun W => ?_)
 show Wp _ _ _ [kV 0 (V.b (.agg [(.slv l.length 1 (isl l) : A)])), kF 1, kF 5, kF 13, kF 17, kF 18, kF 20, kF 22, kF 25, kF 29, kF 30, kF 34, kF 40, kF 45, kF 48, kF 55, kF 56, kF 59, kF 63]
 refine sq (rg ?_)
 refine z ?_ (h := fun ν => acts_box (h := 1) ν xt (by exact ob1 rfl))
 refine zk (nl (sq (rg (zk (nl (sq (rg ?_)))))))
 refine z ?_ (h := fun ν => acts_load_owns (xs := [(.slv l.length 1 (isl l) : A)]) ν qW9_ti_24 rfl (by decide) rfl)
 refine zm ?_
 refine z ?_ (h := fun ν => acts_call1 ν (laws_szRegion_fn l 1048576 (by first | omega | assumption | (rw [hcl]; omega)) (by first | omega | assumption | (rw [hcl]; omega))) (ac (ArgV.regv _ _ 1 _) (ac (ArgV.v vt) an)) rv)
 refine za (nl (sq (sq (rg (zm ?_)))))
 refine z ?_ (h := fun ν => acts_bin ν vt vc (r_lss rfl))
 refine nl ?_
 refine wi (fun c1 => ?_) (fun c1 => ?_)
 ·skip
  have c1P := of_decide_eq_true c1
  refine sq (rg (zk (nl (wp_ret' ?_))))
  exact VRes.tmp _ _ _ (by exact rfl) (BRes.val _)
 ·skip
  have c1P := of_decide_eq_false c1
  have hsc := szS_cases 1048576 l.length
  have hA : l.length ≤ 4194304 := by omega
  refine sk (sq (rg ?_))
  refine z ?_ (h := fun ν => acts_load_owns (xs := [(.slv l.length 1 (isl l) : A)]) ν qW9_ti_24 rfl (by decide) rfl)
  refine z ?_ (h := fun ν => acts_call1 ν (laws_toRegion_fn l (by first | omega | assumption | (rw [hcl]; omega))) (ac (ArgV.regv _ _ 1 _) an) (ResV.reg _ _ _ _ 17))
  refine z ?_ (h := fun ν => acts_callO (d := 18) (f := 7) (os := [(.o 17, some (.o ⟨3, 1, true, pl (isl l)⟩))]) (os' := [(.o 17, some (.o ⟨3, 1, true, pl (isl l)⟩))]) (r := V.b (.a (.slvv 3 (vwD (ltR l))))) (bs := [.agg [(.sl 17 0 l.length : A)]]) (keep := [17]) (new := []) (dead := []) ν (FnO.ren' (spec_ListTilings_fn l (by first | omega | assumption | (rw [hcl]; omega))) (subst1 [(800, 17)]) rfl rfl (by kernel_rfl) (by kernel_rfl) ⟨oc_pl (fun _ => rfl), trivial⟩ (by kernel_rfl) rfl (by simp only [renS, Ob.ren, pl_ren, rws_ren_doms, rws_ren_ints, rws_ren_cels, rwI_ren, rwD_ren]; first | done | rfl) (by simp only [renS, Ob.ren, pl_ren, rws_ren_doms, rws_ren_ints, rws_ren_cels, rwI_ren, rwD_ren]; first | done | rfl) rfl rfl) (by kernel_rfl) ⟨oc_pl (fun _ => rfl), trivial⟩ (by kernel_rfl) (ArgOs.cons (ArgO.slot 17 (.agg [(.sl 17 0 l.length : A)])) (ArgOs.nil)))
  refine za (nl (sq (rg ?_)))
  refine z ?_ (h := fun ν => acts_load_owns (xs := [(.slv l.length 1 (isl l) : A)]) ν qW9_ti_24 rfl (by decide) rfl)
  refine z ?_ (h := fun ν => acts_call1 ν (laws_toRegion_fn l (by first | omega | assumption | (rw [hcl]; omega))) (ac (ArgV.regv _ _ 1 _) an) (ResV.reg _ _ _ _ 20))
  refine z ?_ (h := fun ν => acts_alloc' (h := 5) (cap := 1) (s := 1) (cells := [(.val (.slice none 0 0) : A)]) ν qW9_zi_28 rfl rfl (by decide))
  refine z ?_ (h := fun _ => acts_store (cells := [(.sl 20 0 l.length : A)]) qW9_ti_28 xt (by exact rfl) (by decide) (by exact ob1 rfl) (by exact Nat.le_of_ble_eq_true rfl) (by exact rfl))
  refine nl (sq (rg ?_))
  refine z ?_ (h := fun ν => acts_load_owns (xs := [(.sl 20 0 l.length : A)]) ν qW9_ti_28 rfl (by decide) rfl)
  refine z ?_ (h := fun ν => acts_callO (d := 22) (f := 9) (os := [(.o 20, some (.o ⟨3, 1, true, pl (isl l)⟩))]) (os' := [(.o 20, some (.o ⟨3, 1, true, pl (isl l)⟩)), (.o 13, some (.o ⟨38, 1, true, rwD 57 (ltR l)⟩))]) (r := V.b (.a (.sl 13 0 ((ltR l).length)))) (bs := [.agg [(.sl 20 0 l.length : A)]]) (keep := [20]) (new := [13]) (dead := []) ν (FnO.ren' (impl_ListTilings_fn l (by first | omega | assumption | (rw [hcl]; omega))) (subst1 [(800, 20), (900, 13)]) rfl rfl (by kernel_rfl) (by kernel_rfl) ⟨oc_pl (fun _ => rfl), oc_rwD, trivial⟩ (by kernel_rfl) rfl (by simp only [renS, Ob.ren, pl_ren, rws_ren_doms, rws_ren_ints, rws_ren_cels, rwI_ren, rwD_ren]; first | done | rfl) (by simp only [renS, Ob.ren, pl_ren, rws_ren_doms, rws_ren_ints, rws_ren_cels, rwI_ren, rwD_ren]; first | done | rfl) rfl rfl) (by kernel_rfl) ⟨oc_pl (fun _ => rfl), oc_rwD, trivial⟩ (by kernel_rfl) (ArgOs.cons (ArgO.slot 21 (.agg [(.sl 20 0 l.length : A)])) (ArgOs.nil)))
  refine za (nl (sq (sq (rg (zm (zm ?_))))))
  refine z ?_ (h := fun ν => acts_call1 ν (laws_eqDominoSS_fn (ltR l) (ltR l) (by first | omega | assumption | (rw [hcl]; omega)) (by first | omega | assumption | (rw [hcl]; omega)) (by first | omega | assumption | (rw [hcl]; omega)) (by first | omega | assumption | (rw [hcl]; omega))) (ac (dvD (L := (ltR l))) (ac (ArgV.slvv _ _ _) an)) rv)
  refine z ?_ (h := fun ν => acts_un ν vt (r_not rfl))
  refine nl ?_
  refine wi (b := (!(decide ((ltR l) = (ltR l))))) (fun c2 => ?_) (fun c2 => ?_)
  ·skip
   have c3 : decide ((ltR l) = (ltR l)) = false := by first | (rw [← Bool.not_eq_true']; exact c2) | simpa using c2
   have c3P := of_decide_eq_false c3
   refine sq (rg (zk (nl (wp_ret' ?_))))
   exact VRes.tmp _ _ _ (by exact rfl) (bval (congrArg Value.bool (by first | rfl | exact absurd (Eq.refl (ltR l)) (by assumption) | exact absurd (Eq.refl l) (by assumption) | (exfalso; omega))))
  ·skip
   have c4 : decide ((ltR l) = (ltR l)) = true := by first | (rw [← Bool.not_eq_false']; exact c2) | simpa using c2
   have c4P := of_decide_eq_true c4
   refine sk (sq (sq (wp_dr ?_)))
   refine zd ?_ (h := fun ν => acts_load_owns (xs := [(.sl 20 0 l.length : A)]) ν qW9_ti_28 rfl (by decide) rfl)
   refine zd ?_ (h := fun ν => acts_load_owns (xs := [(.slv l.length 1 (isl l) : A)]) ν qW9_ti_24 rfl (by decide) rfl)
   refine zd ?_ (h := fun ν => acts_call1 ν (laws_toRegion_fn l (by first | omega | assumption | (rw [hcl]; omega))) (ac (ArgV.regv _ _ 1 _) an) (ResV.reg _ _ _ _ 29))
   refine zd ?_ (h := fun ν => acts_call1 ν (laws_eqRegion_fn l l (by first | omega | assumption | (rw [hcl]; omega)) (by first | omega | assumption | (rw [hcl]; omega))) (ac (ArgV.reg _ _ _ (s := 1) (by simp [isl]) (by first | exact List.take_of_length_le (by simp [isl]) | (simp [isl]; done))) (ac (ArgV.reg _ _ _ (s := 1) (by simp [isl]) (by first | exact List.take_of_length_le (by simp [isl]) | (simp [isl]; done))) an)) rv)
   refine zd ?_ (h := fun ν => acts_un ν vt (r_not rfl))
   refine dw_nil ?_
   refine wi (b := (!(decide (l = l)))) (fun c5 => ?_) (fun c5 => ?_)
   ·skip
    have c6 : decide (l = l) = false := by first | (rw [← Bool.not_eq_true']; exact c5) | simpa using c5
    have c6P := of_decide_eq_false c6
    refine sq (rg (zk (nl (wp_ret' ?_))))
    exact VRes.tmp _ _ _ (by exact rfl) (bval (congrArg Value.bool (by first | rfl | exact absurd (Eq.refl (ltR l)) (by assumption) | exact absurd (Eq.refl l) (by assumption) | (exfalso; omega))))
   ·skip
    have c7 : decide (l = l) = true := by first | (rw [← Bool.not_eq_false']; exact c5) | simpa using c5
    have c7P := of_decide_eq_true c7
    refine sk (sq (rg (zk (nl (sq (rg ?_))))))
    refine z ?_ (h := fun ν => acts_load_owns (xs := [(.sl 20 0 l.length : A)]) ν qW9_ti_28 rfl (by decide) rfl)
    refine zm ?_
    refine z ?_ (h := fun ν => acts_callO (d := 34) (f := 12) (os := [(.o 20, some (.o ⟨3, 1, true, pl (isl l)⟩))]) (os' := [(.o 20, some (.o ⟨3, 1, true, pl (isl (cntI 1 l.length))⟩))]) (r := V.v (.int .i64 (1 + (l.length : Int)))) (bs := [.agg [(.sl 20 0 l.length : A)], .a (.val (.int .i64 1))]) (keep := [20]) (new := []) (dead := []) ν (FnO.ren' (laws_markRegion_fn l 1 (by first | omega | assumption | (rw [hcl]; omega)) (by first | omega | assumption | (rw [hcl]; omega))) (subst1 [(1, 20)]) rfl rfl (by kernel_rfl) (by kernel_rfl) ⟨oc_pl (fun _ => rfl), trivial⟩ (by kernel_rfl) rfl (by simp only [renS, Ob.ren, pl_ren, rws_ren_doms, rws_ren_ints, rws_ren_cels, rwI_ren, rwD_ren]; first | done | rfl) (by simp only [renS, Ob.ren, pl_ren, rws_ren_doms, rws_ren_ints, rws_ren_cels, rwI_ren, rwD_ren]; first | done | rfl) rfl rfl) (by kernel_rfl) ⟨oc_pl (fun _ => rfl), trivial⟩ (by kernel_rfl) (ArgOs.cons (ArgO.slot 32 (.agg [(.sl 20 0 l.length : A)])) (ArgOs.cons ((ArgO.v vt)) (ArgOs.nil))))
    refine za (nl (sq (sq ?_)))
    rcases Bool.eq_false_or_eq_true (decide ((1 + (l.length : Int)) < 0)) with c8 | c8
    ·skip
     have c8P := of_decide_eq_true c8
     refine rg (zm ?_)
     refine z ?_ (h := fun ν => acts_bin ν vt vc (r_lss (c := true) c8))
     refine zm (zo (zo (zo (zo ?_))))
     refine z ?_ (h := fun ν => acts_pick_t ν vt xc)
     refine nl (wt (sq (rg (zk (nl (wp_ret' ?_))))))
     exact VRes.tmp _ _ _ (by exact rfl) (bval (congrArg Value.bool (by first | rfl | exact absurd (Eq.refl (ltR l)) (by assumption) | exact absurd (Eq.refl l) (by assumption) | (exfalso; omega))))
    ·skip
     have c8P := of_decide_eq_false c8
     refine rg (zm ?_)
     refine z ?_ (h := fun ν => acts_bin ν vt vc (r_lss (c := false) c8))
     refine zm ?_
     refine zg ?_ (h := fun ν => step_on rfl rfl (mt ν))
     refine zg ?_ (h := fun ν => step_on rfl rfl (mt ν))
     refine zg ?_ (h := fun ν => step_on rfl rfl (acts_call1 ν (laws_eqDominoSS_fn (ltR l) (ltR l) (by first | omega | assumption | (rw [hcl]; omega)) (by first | omega | assumption | (rw [hcl]; omega)) (by first | omega | assumption | (rw [hcl]; omega)) (by first | omega | assumption | (rw [hcl]; omega))) (ac (dvD (L := (ltR l))) (ac (ArgV.slvv _ _ _) an)) (resval (congrArg Value.bool c4))))
     refine zg ?_ (h := fun ν => step_on rfl rfl (acts_un ν vt (r_not (c := false) rfl)))
     refine z ?_ (h := fun ν => acts_pick_f ν vt xt)
     refine nl (wf (sk (sq (rg (zk (nl (sq (rg (zm (zm ?_))))))))))
     refine z ?_ (h := fun ν => acts_callO (d := 45) (f := 13) (os := [(.o 13, some (.o ⟨38, 1, true, rwD 57 (ltR l)⟩))]) (os' := [(.o 13, some (.o ⟨38, 1, true, rwD 57 (mkDD 1 (ltR l))⟩))]) (r := V.v (.int .i64 (1 + 3 * (szD (ltR l) (ltR l).length : Int)))) (bs := [.a (.sl 13 0 ((ltR l).length)), .a (.val (.int .i64 1))]) (keep := [13]) (new := []) (dead := []) ν (FnO.ren' (laws_markDominoSS_fn (ltR l) 1 (by first | omega | assumption | (rw [hcl]; omega)) (by first | omega | assumption | (rw [hcl]; omega)) (by first | omega | assumption | (rw [hcl]; omega))) (subst1 [(1, 13)]) rfl rfl (by kernel_rfl) (by kernel_rfl) ⟨oc_rwD, trivial⟩ (by kernel_rfl) rfl (by simp only [renS, Ob.ren, pl_ren, rws_ren_doms, rws_ren_ints, rws_ren_cels, rwI_ren, rwD_ren]; first | done | rfl) (by simp only [renS, Ob.ren, pl_ren, rws_ren_doms, rws_ren_ints, rws_ren_cels, rwI_ren, rwD_ren]; first | done | rfl) rfl rfl) (by kernel_rfl) ⟨oc_rwD, trivial⟩ (by kernel_rfl) (ArgOs.cons (ArgO.slot 43 (.a (.sl 13 0 ((ltR l).length)))) (ArgOs.cons ((ArgO.v vt)) (ArgOs.nil))))
     refine za (nl (sq (rg (zk (nl (sq (rg (zm (zm ?_)))))))))
     refine z ?_ (h := fun ν => acts_call1 ν (laws_heldDominoSS_fn (mkDD 1 (ltR l)) 1 (by first | omega | assumption | (rw [hcl]; omega)) (by first | omega | assumption | (rw [hcl]; omega)) (by first | omega | assumption | (rw [hcl]; omega)) (by first | omega | assumption | (rw [hcl]; omega))) (ac (dvD (L := (mkDD 1 (ltR l))) (hn := by first | (simp; done) | (first | omega | assumption | (rw [hcl]; omega)))) (ac (ArgV.v vt) an)) rv)
     refine za (nl (sq (sq (rg (zm ?_)))))
     refine z ?_ (h := fun ν => acts_bin ν vt vc (r_lss rfl))
     refine nl ?_
     refine wi (fun c9 => ?_) (fun c9 => ?_)
     ·skip
      have c9P := of_decide_eq_true c9
      refine sq (rg (zk (nl (wp_ret' ?_))))
      exact VRes.tmp _ _ _ (by exact rfl) (bval (congrArg Value.bool (by first | rfl | exact absurd (Eq.refl (ltR l)) (by assumption) | exact absurd (Eq.refl l) (by assumption) | (exfalso; omega))))
     ·skip
      have c9P := of_decide_eq_false c9
      refine sk (sq (sq (rg (zm (zm ?_)))))
      refine z ?_ (h := fun ν => acts_bin ν vt vt (r_neq rfl))
      refine nl ?_
      refine wi (fun c10 => ?_) (fun c10 => ?_)
      ·skip
       have c10P := of_decide_eq_true c10
       refine sq (rg (zk (nl (wp_ret' ?_))))
       exact VRes.tmp _ _ _ (by exact rfl) (bval (congrArg Value.bool (by first | rfl | exact absurd (Eq.refl (ltR l)) (by assumption) | exact absurd (Eq.refl l) (by assumption) | (exfalso; omega))))
      ·skip
       have c10P := of_decide_eq_false c10
       refine sk (sq (rg ?_))
       refine z ?_ (h := fun ν => acts_load_owns (xs := [(.slv l.length 1 (isl l) : A)]) ν qW9_ti_24 rfl (by decide) rfl)
       refine z ?_ (h := fun ν => acts_call1 ν (laws_toRegion_fn l (by first | omega | assumption | (rw [hcl]; omega))) (ac (ArgV.regv _ _ 1 _) an) (ResV.reg _ _ _ _ 55))
       refine z ?_ (h := fun ν => acts_callO (d := 56) (f := 9) (os := [(.o 55, some (.o ⟨3, 1, true, pl (isl l)⟩))]) (os' := [(.o 55, some (.o ⟨3, 1, true, pl (isl l)⟩)), (.o 18, some (.o ⟨38, 1, true, rwD 57 (ltR l)⟩))]) (r := V.b (.a (.sl 18 0 ((ltR l).length)))) (bs := [.agg [(.sl 55 0 l.length : A)]]) (keep := [55]) (new := [18]) (dead := []) ν (FnO.ren' (impl_ListTilings_fn l (by first | omega | assumption | (rw [hcl]; omega))) (subst1 [(800, 55), (900, 18)]) rfl rfl (by kernel_rfl) (by kernel_rfl) ⟨oc_pl (fun _ => rfl), oc_rwD, trivial⟩ (by kernel_rfl) rfl (by simp only [renS, Ob.ren, pl_ren, rws_ren_doms, rws_ren_ints, rws_ren_cels, rwI_ren, rwD_ren]; first | done | rfl) (by simp only [renS, Ob.ren, pl_ren, rws_ren_doms, rws_ren_ints, rws_ren_cels, rwI_ren, rwD_ren]; first | done | rfl) rfl rfl) (by kernel_rfl) ⟨oc_pl (fun _ => rfl), oc_rwD, trivial⟩ (by kernel_rfl) (ArgOs.cons (ArgO.slot 55 (.agg [(.sl 55 0 l.length : A)])) (ArgOs.nil)))
       refine za (nl (sq (sq (rg (zm (zm ?_))))))
       refine z ?_ (h := fun ν => acts_call1 ν (laws_eqDominoSS_fn (ltR l) (ltR l) (by first | omega | assumption | (rw [hcl]; omega)) (by first | omega | assumption | (rw [hcl]; omega)) (by first | omega | assumption | (rw [hcl]; omega)) (by first | omega | assumption | (rw [hcl]; omega))) (ac (dvD (L := (ltR l))) (ac (ArgV.slvv _ _ _) an)) (resval (congrArg Value.bool c4)))
       refine z ?_ (h := fun ν => acts_un ν vt (r_not (c := false) rfl))
       refine nl (wf (sk (sq (rg (zk (nl (sq (rg (zm (zm ?_))))))))))
       refine z ?_ (h := fun ν => acts_call1 ν (laws_heldDominoSS_fn (mkDD 1 (ltR l)) 1 (by first | omega | assumption | (rw [hcl]; omega)) (by first | omega | assumption | (rw [hcl]; omega)) (by first | omega | assumption | (rw [hcl]; omega)) (by first | omega | assumption | (rw [hcl]; omega))) (ac (dvD (L := (mkDD 1 (ltR l))) (hn := by first | (simp; done) | (first | omega | assumption | (rw [hcl]; omega)))) (ac (ArgV.v vt) an)) rv)
       refine za (nl (sq (sq (rg (zm ?_)))))
       refine z ?_ (h := fun ν => acts_bin ν vt vc (r_lss (c := false) c9))
       refine nl (wf (sk (sq (sq (rg (zm (zm ?_)))))))
       refine z ?_ (h := fun ν => acts_bin ν vt vt (r_neq (c := false) c10))
       refine nl (wf (sk (sq (rg (zk (nl (wp_ret' ?_)))))))
       exact VRes.tmp _ _ _ (by exact rfl) (BRes.val _)

set_option maxHeartbeats 4000000 in
set_option maxRecDepth 100000 in
theorem laws_FnExactIndexOf_fn (l : List Int) (q : List Dom) (hl : l.length ≤ 9223372036854775807) (hq : q.length ≤ 9223372036854775807) : Fn Try.prog 4 [.agg [(.slv l.length 1 (isl l) : A)], .a (.slv q.length 3 (dsl q))] [.val (.bool true)] := by
 have hix := ixT_lt (ltR l) q
 have hll := ltR_len l
 refine fn_intro (N := 45) Try.func4 rfl (by kernel_rfl) rfl (Nat.le_of_ble_eq_true rfl) [2, 7, 12, 17, 21, 23, 24, 26, 28, 31, 37, 38, 42, 43] (ret1 rfl) (fun W => ?_)
 show Wp _ _ _ [kV 0 (V.b (.agg [(.slv l.length 1 (isl l) : A)])), kV 1 (V.b (.a (.slv q.length 3 (dsl q)))), kF 2, kF 7, kF 12, kF 17, kF 21, kF 23, kF 24, kF 26, kF 28, kF 31, kF 37, kF 38, kF 42, kF 43]
 refine sq (rg ?_)
 refine z ?_ (h := fun ν => acts_box (h := 2) ν xt (by exact ob1 rfl))
 refine zk (nl (sq (rg (zk (nl (sq (rg ?_)))))))
 refine z ?_ (h := fun ν => acts_load_owns (xs := [(.slv l.length 1 (isl l) : A)]) ν qW9_ti_24 rfl (by decide) rfl)
 refine zm ?_
 refine z ?_ (h := fun ν => acts_call1 ν (laws_szRegion_fn l 1048576 (by first | omega | assumption) (by first | omega | assumption)) (ac (ArgV.regv _ _ 1 _) (ac (ArgV.v vt) an)) rv)
 refine za (nl (sq (sq (rg (zm ?_)))))
 refine z ?_ (h := fun ν => acts_bin ν vt vc (r_lss rfl))
 refine nl ?_
 refine wi (fun c1 => ?_) (fun c1 => ?_)
 ·skip
  have c1P := of_decide_eq_true c1
  refine sq (rg (zk (nl (wp_ret' ?_))))
  exact VRes.tmp _ _ _ (by exact rfl) (BRes.val _)
 ·skip
  have c1P := of_decide_eq_false c1
  have hsc := szS_cases 1048576 l.length
  have hA : l.length ≤ 4194304 := by omega
  refine sk (sq (rg (zm (zm ?_))))
  refine z ?_ (h := fun ν => acts_call1 ν (laws_szDominoS_fn q (szS 1048576 l.length) (by first | omega | assumption) (by first | omega | assumption)) (ac (ArgV.slv _ _ _ _) (ac (ArgV.v vt) an)) rv)
  refine za (nl (sq (sq (rg (zm ?_)))))
  refine z ?_ (h := fun ν => acts_bin ν vt vc (r_lss rfl))
  refine nl ?_
  refine wi (fun c2 => ?_) (fun c2 => ?_)
  ·skip
   have c2P := of_decide_eq_true c2
   refine sq (rg (zk (nl (wp_ret' ?_))))
   exact VRes.tmp _ _ _ (by exact rfl) (BRes.val _)
  ·skip
   have c2P := of_decide_eq_false c2
   have hsc2 := szS_cases (szS 1048576 l.length) q.length
   have hB : q.length ≤ 4194304 := by omega
   refine sk (sq (rg ?_))
   refine z ?_ (h := fun ν => acts_load_owns (xs := [(.slv l.length 1 (isl l) : A)]) ν qW9_ti_24 rfl (by decide) rfl)
   refine z ?_ (h := fun ν => acts_call1 ν (laws_toRegion_fn l (by first | omega | assumption)) (ac (ArgV.regv _ _ 1 _) an) (ResV.reg _ _ _ _ 21))
   refine zm ?_
   refine z ?_ (h := fun ν => acts_call1 ν (laws_toDominoS_fn q (by first | omega | assumption)) (ac (ArgV.slv _ _ _ _) an) (ResV.row _ _ _ _ 23))
   refine z ?_ (h := fun ν => acts_callO (d := 24) (f := 16) (os := [(.o 21, some (.o ⟨3, 1, true, pl (isl l)⟩)), (.o 23, some (.o ⟨57, 3, true, pl (dsl q)⟩))]) (os' := [(.o 21, some (.o ⟨3, 1, true, pl (isl l)⟩)), (.o 23, some (.o ⟨57, 3, true, pl (dsl q)⟩))]) (r := V.v (.int .i64 (ixT (ltR l) q))) (bs := [.agg [(.sl 21 0 l.length : A)], .a (.sl 23 0 q.length)]) (keep := [21, 23]) (new := []) (dead := []) ν (FnO.ren' (spec_IndexOf_fn l q (by first | omega | assumption) (by first | omega | assumption)) (subst1 [(800, 21), (801, 23)]) rfl rfl (by kernel_rfl) (by kernel_rfl) ⟨oc_pl (fun _ => rfl), oc_pl (fun _ => rfl), trivial⟩ (by kernel_rfl) rfl (by simp only [renS, Ob.ren, pl_ren, rws_ren_doms, rws_ren_ints, rws_ren_cels, rwI_ren, rwD_ren]; first | done | rfl) (by simp only [renS, Ob.ren, pl_ren, rws_ren_doms, rws_ren_ints, rws_ren_cels, rwI_ren, rwD_ren]; first | done | rfl) rfl rfl) (by kernel_rfl) ⟨oc_pl (fun _ => rfl), oc_pl (fun _ => rfl), trivial⟩ (by kernel_rfl) (ArgOs.cons (ArgO.slot 21 (.agg [(.sl 21 0 l.length : A)])) (ArgOs.cons (ArgO.slot 23 (.a (.sl 23 0 q.length))) (ArgOs.nil))))
   refine za (nl (sq (rg ?_)))
   refine z ?_ (h := fun ν => acts_load_owns (xs := [(.slv l.length 1 (isl l) : A)]) ν qW9_ti_24 rfl (by decide) rfl)
   refine z ?_ (h := fun ν => acts_call1 ν (laws_toRegion_fn l (by first | omega | assumption)) (ac (ArgV.regv _ _ 1 _) an) (ResV.reg _ _ _ _ 26))
   refine z ?_ (h := fun ν => acts_alloc' (h := 7) (cap := 1) (s := 1) (cells := [(.val (.slice none 0 0) : A)]) ν qW9_zi_28 rfl rfl (by decide))
   refine z ?_ (h := fun _ => acts_store (cells := [(.sl 26 0 l.length : A)]) qW9_ti_28 xt (by exact rfl) (by decide) (by exact ob1 rfl) (by exact Nat.le_of_ble_eq_true rfl) (by exact rfl))
   refine nl (sq (rg (zm ?_)))
   refine z ?_ (h := fun ν => acts_call1 ν (laws_toDominoS_fn q (by first | omega | assumption)) (ac (ArgV.slv _ _ _ _) an) (ResV.row _ _ _ _ 28))
   refine za (nl (sq (rg ?_)))
   refine z ?_ (h := fun ν => acts_load_owns (xs := [(.sl 26 0 l.length : A)]) ν qW9_ti_28 rfl (by decide) rfl)
   refine zm ?_
   refine z ?_ (h := fun ν => acts_callO (d := 31) (f := 18) (os := [(.o 26, some (.o ⟨3, 1, true, pl (isl l)⟩)), (.o 28, some (.o ⟨57, 3, true, pl (dsl q)⟩))]) (os' := [(.o 26, some (.o ⟨3, 1, true, pl (isl l)⟩)), (.o 28, some (.o ⟨57, 3, true, pl (dsl q)⟩))]) (r := V.v (.int .i64 (ixT (ltR l) q))) (bs := [.agg [(.sl 26 0 l.length : A)], .a (.sl 28 0 q.length)]) (keep := [26, 28]) (new := []) (dead := []) ν (FnO.ren' (impl_IndexOf_fn l q (by first | omega | assumption) (by first | omega | assumption)) (subst1 [(800, 26), (801, 28)]) rfl rfl (by kernel_rfl) (by kernel_rfl) ⟨oc_pl (fun _ => rfl), oc_pl (fun _ => rfl), trivial⟩ (by kernel_rfl) rfl (by simp only [renS, Ob.ren, pl_ren, rws_ren_doms, rws_ren_ints, rws_ren_cels, rwI_ren, rwD_ren]; first | done | rfl) (by simp only [renS, Ob.ren, pl_ren, rws_ren_doms, rws_ren_ints, rws_ren_cels, rwI_ren, rwD_ren]; first | done | rfl) rfl rfl) (by kernel_rfl) ⟨oc_pl (fun _ => rfl), oc_pl (fun _ => rfl), trivial⟩ (by kernel_rfl) (ArgOs.cons (ArgO.slot 29 (.agg [(.sl 26 0 l.length : A)])) (ArgOs.cons (ArgO.slot 30 (.a (.sl 28 0 q.length))) (ArgOs.nil))))
   refine za (nl (sq (sq (rg (zm (zm ?_))))))
   refine z ?_ (h := fun ν => acts_bin ν vt vt (r_neq rfl))
   refine nl ?_
   refine wi (fun c3 => ?_) (fun c3 => ?_)
   ·skip
    have c3P := of_decide_eq_true c3
    refine sq (rg (zk (nl (wp_ret' ?_))))
    exact VRes.tmp _ _ _ (by exact rfl) (bval (congrArg Value.bool (by first | rfl | exact absurd (Eq.refl q) (by assumption) | exact absurd (Eq.refl l) (by assumption) | (exfalso; omega))))
   ·skip
    have c3P := of_decide_eq_false c3
    refine sk (sq (sq (wp_dr ?_)))
    refine zd ?_ (h := fun ν => acts_load_owns (xs := [(.sl 26 0 l.length : A)]) ν qW9_ti_28 rfl (by decide) rfl)
    refine zd ?_ (h := fun ν => acts_load_owns (xs := [(.slv l.length 1 (isl l) : A)]) ν qW9_ti_24 rfl (by decide) rfl)
    refine zd ?_ (h := fun ν => acts_call1 ν (laws_toRegion_fn l (by first | omega | assumption)) (ac (ArgV.regv _ _ 1 _) an) (ResV.reg _ _ _ _ 37))
    refine zd ?_ (h := fun ν => acts_call1 ν (laws_eqRegion_fn l l (by first | omega | assumption) (by first | omega | assumption)) (ac (ArgV.reg _ _ _ (s := 1) (by simp [isl]) (by first | exact List.take_of_length_le (by simp [isl]) | (simp [isl]; done))) (ac (ArgV.reg _ _ _ (s := 1) (by simp [isl]) (by first | exact List.take_of_length_le (by simp [isl]) | (simp [isl]; done))) an)) rv)
    refine zd ?_ (h := fun ν => acts_un ν vt (r_not rfl))
    refine dw_nil ?_
    refine wi (b := (!(decide (l = l)))) (fun c4 => ?_) (fun c4 => ?_)
    ·skip
     have c5 : decide (l = l) = false := by first | (rw [← Bool.not_eq_true']; exact c4) | simpa using c4
     have c5P := of_decide_eq_false c5
     refine sq (rg (zk (nl (wp_ret' ?_))))
     exact VRes.tmp _ _ _ (by exact rfl) (bval (congrArg Value.bool (by first | rfl | exact absurd (Eq.refl q) (by assumption) | exact absurd (Eq.refl l) (by assumption) | (exfalso; omega))))
    ·skip
     have c6 : decide (l = l) = true := by first | (rw [← Bool.not_eq_false']; exact c4) | simpa using c4
     have c6P := of_decide_eq_true c6
     refine sk (sq (sq (rg (zm (zm ?_)))))
     refine z ?_ (h := fun ν => acts_call1 ν (laws_toDominoS_fn q (by first | omega | assumption)) (ac (ArgV.slv _ _ _ _) an) (ResV.row _ _ _ _ 42))
     refine z ?_ (h := fun ν => acts_call1 ν (laws_eqDominoS_fn q q (by first | omega | assumption) (by first | omega | assumption)) (ac (argv_own (by first | exact dsl_len _ | (simp [isl_len, bsl_len, dsl_len, csl_len]; done) | (simp [isl_len, bsl_len, dsl_len, csl_len]; omega))) (ac (argv_own (by first | exact dsl_len _ | (simp [isl_len, bsl_len, dsl_len, csl_len]; done) | (simp [isl_len, bsl_len, dsl_len, csl_len]; omega))) an)) rv)
     refine z ?_ (h := fun ν => acts_un ν vt (r_not rfl))
     refine nl ?_
     refine wi (b := (!(decide (q = q)))) (fun c7 => ?_) (fun c7 => ?_)
     ·skip
      have c8 : decide (q = q) = false := by first | (rw [← Bool.not_eq_true']; exact c7) | simpa using c7
      have c8P := of_decide_eq_false c8
      refine sq (rg (zk (nl (wp_ret' ?_))))
      exact VRes.tmp _ _ _ (by exact rfl) (bval (congrArg Value.bool (by first | rfl | exact absurd (Eq.refl q) (by assumption) | exact absurd (Eq.refl l) (by assumption) | (exfalso; omega))))
     ·skip
      have c9 : decide (q = q) = true := by first | (rw [← Bool.not_eq_false']; exact c7) | simpa using c7
      have c9P := of_decide_eq_true c9
      refine sk (sq (rg (zk (nl (wp_ret' ?_)))))
      exact VRes.tmp _ _ _ (by exact rfl) (BRes.val _)
end Cl
end Go.Proofs.Ytgmckbchcpfhcaa
