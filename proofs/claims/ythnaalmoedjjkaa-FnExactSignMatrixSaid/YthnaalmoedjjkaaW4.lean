/- Walks over clean states, printed by wg.py. No statement is proved here. -/
import Derived.Test.YthnaalmoedjjkaaD2
import Derived.Test.YthnaalmoedjjkaaW3
import Derived.Test.YthnaalmoedjjkaaCl22
namespace Go.Proofs.Ythnaalmoedjjkaa
namespace Cl
open Go.ChangeShapes Go.WideShapes Go.ChangeAt Go.RowKit

theorem le22 {a : Nat} (h : a ≤ 64) : a ≤ 4194304 := Nat.le_trans h (by decide)

theorem qW4_ti_30 : TI Try.prog 30 true 1 := ⟨⟨_, Try.underlying30, rfl⟩, by kernel_rfl⟩
theorem qW4_ti_33 : TI Try.prog 33 true 1 := ⟨⟨_, Try.underlying33, rfl⟩, by kernel_rfl⟩
theorem qW4_zi_33 : ZI Try.prog 33 (.agg #[.slice none 0 0]) 1 24 := by unfold ZI; kernel_rfl
set_option maxHeartbeats 4000000 in
set_option maxRecDepth 100000 in
theorem laws_FnExactSignMatrix_fn (l : List Int) (hl : l.length ≤ 9223372036854775807) : Fn Try.prog 5 [.agg [(.slv l.length 1 (isl l) : A)]] [.val (.bool true)] := by
 have h64 := smR_len l
 have hr64 : ∀ k, k < (smR l).length → (gLs (smR l) k).length ≤ 64 := fun k hk => smR_row hk
 have hr22 : ∀ k, k < (smR l).length → (gLs (smR l) k).length ≤ 4194304 := fun k hk => le22 (smR_row hk)
 have hcl := cntM_len 1 (smR l)
 have hc64 : (cntM 1 (smR l)).length ≤ 64 := by omega
 have hcr : ∀ k, k < (cntM 1 (smR l)).length → (gLs (cntM 1 (smR l)) k).length ≤ 64 := fun k hk => by rw [cntM_rlen (by omega)]; exact smR_row (by omega)
 have hcsz : szN (cntM 1 (smR l)) (cntM 1 (smR l)).length = szN (smR l) (smR l).length := by rw [hcl]; exact cntM_sz (Nat.le_refl _)
 have hch := cntM_held (v := 1) (m := smR l)
 have hsb := szN_bd h64 hr64 _ (Nat.le_refl _)
 refine fn_intro (N := 69) Try.func5 rfl (by kernel_rfl) rfl (Nat.le_of_ble_eq_true rfl) [1, 5, 13, 17, 18, 20, 22, 25, 29, 30, 34, 40, 45, 48, 55, 56, 59, 63] (ret1 rfl) (fun W => ?_)
 show Wp _ _ _ [kV 0 (V.b (.agg [(.slv l.length 1 (isl l) : A)])), kF 1, kF 5, kF 13, kF 17, kF 18, kF 20, kF 22, kF 25, kF 29, kF 30, kF 34, kF 40, kF 45, kF 48, kF 55, kF 56, kF 59, kF 63]
 refine sq (rg ?_)
 refine z ?_ (h := fun ν => acts_box (h := 1) ν xt (by exact ob1 rfl))
 refine zk (nl (sq (rg (zk (nl (sq (rg ?_)))))))
 refine z ?_ (h := fun ν => acts_load_owns (xs := [(.slv l.length 1 (isl l) : A)]) ν qW4_ti_30 rfl (by decide) rfl)
 refine zm ?_
 refine z ?_ (h := fun ν => acts_call1 ν (laws_szRegion_fn l 1048576 (by first | omega | assumption | (rw [hcl]; omega)) (by first | omega | assumption | (rw [hcl]; omega))) (ac (ArgV.regv _ _ 1 _) (ac (ArgV.v vt) an)) rv)
 refine za (nl (sq (sq (rg (zm ?_)))))
 refine z ?_ (h := fun ν => acts_bin ν vt vc (r_lss rfl))
 refine nl ?_
 refine wi (fun c1 => ?_) (fun c1 => ?_)
 ·skip
  have c1P := of_decide_eq_true c1
  refine sq (rg (zk (nl (wp_ret' ?_))))
  exact VRes.tmp _ _ _ (by exact rfl) (BRes.val _)
 ·skip
  have c1P := of_decide_eq_false c1
  have hsc := szS_cases 1048576 l.length
  have hA : l.length ≤ 4194304 := by omega
  refine sk (sq (rg ?_))
  refine z ?_ (h := fun ν => acts_load_owns (xs := [(.slv l.length 1 (isl l) : A)]) ν qW4_ti_30 rfl (by decide) rfl)
  refine z ?_ (h := fun ν => acts_call1 ν (laws_toRegion_fn l (by first | omega | assumption | (rw [hcl]; omega))) (ac (ArgV.regv _ _ 1 _) an) (ResV.reg _ _ _ _ 17))
  refine z ?_ (h := fun ν => acts_callO (d := 18) (f := 16) (os := [(.o 17, some (.o ⟨3, 1, true, pl (isl l)⟩))]) (os' := [(.o 17, some (.o ⟨3, 1, true, pl (isl l)⟩)), (.o 5, some (.o ⟨28, 1, true, rwI 3 (smR l)⟩))]) (r := V.b (.a (.sl 5 0 ((smR l).length)))) (bs := [.agg [(.sl 17 0 l.length : A)]]) (keep := [17]) (new := [5]) (dead := []) ν (FnO.ren' (spec_SignMatrix_fn l (by first | omega | assumption | (rw [hcl]; omega))) (subst1 [(800, 17), (900, 5)]) rfl rfl (by kernel_rfl) (by kernel_rfl) ⟨oc_pl (fun _ => rfl), oc_rwI, trivial⟩ (by kernel_rfl) rfl (by simp only [renS, Ob.ren, pl_ren, rws_ren_doms, rws_ren_ints, rws_ren_cels, rwI_ren, rwD_ren]; first | done | rfl) (by simp only [renS, Ob.ren, pl_ren, rws_ren_doms, rws_ren_ints, rws_ren_cels, rwI_ren, rwD_ren]; first | done | rfl) rfl rfl) (by kernel_rfl) ⟨oc_pl (fun _ => rfl), oc_rwI, trivial⟩ (by kernel_rfl) (ArgOs.cons (ArgO.slot 17 (.agg [(.sl 17 0 l.length : A)])) (ArgOs.nil)))
  refine za (nl (sq (rg ?_)))
  refine z ?_ (h := fun ν => acts_load_owns (xs := [(.slv l.length 1 (isl l) : A)]) ν qW4_ti_30 rfl (by decide) rfl)
  refine z ?_ (h := fun ν => acts_call1 ν (laws_toRegion_fn l (by first | omega | assumption | (rw [hcl]; omega))) (ac (ArgV.regv _ _ 1 _) an) (ResV.reg _ _ _ _ 20))
  refine z ?_ (h := fun ν => acts_alloc' (h := 13) (cap := 1) (s := 1) (cells := [(.val (.slice none 0 0) : A)]) ν qW4_zi_33 rfl rfl (by decide))
  refine z ?_ (h := fun _ => acts_store (cells := [(.sl 20 0 l.length : A)]) qW4_ti_33 xt (by exact rfl) (by decide) (by exact ob1 rfl) (by exact Nat.le_of_ble_eq_true rfl) (by exact rfl))
  refine nl (sq (rg ?_))
  refine z ?_ (h := fun ν => acts_load_owns (xs := [(.sl 20 0 l.length : A)]) ν qW4_ti_33 rfl (by decide) rfl)
  refine z ?_ (h := fun ν => acts_callO (d := 22) (f := 18) (os := [(.o 20, some (.o ⟨3, 1, true, pl (isl l)⟩))]) (os' := [(.o 20, some (.o ⟨3, 1, true, pl (isl l)⟩)), (.o 18, some (.o ⟨28, 1, true, rwI 3 (smR l)⟩))]) (r := V.b (.a (.sl 18 0 ((smR l).length)))) (bs := [.agg [(.sl 20 0 l.length : A)]]) (keep := [20]) (new := [18]) (dead := []) ν (FnO.ren' (impl_SignMatrix_fn l (by first | omega | assumption | (rw [hcl]; omega))) (subst1 [(800, 20), (900, 18)]) rfl rfl (by kernel_rfl) (by kernel_rfl) ⟨oc_pl (fun _ => rfl), oc_rwI, trivial⟩ (by kernel_rfl) rfl (by simp only [renS, Ob.ren, pl_ren, rws_ren_doms, rws_ren_ints, rws_ren_cels, rwI_ren, rwD_ren]; first | done | rfl) (by simp only [renS, Ob.ren, pl_ren, rws_ren_doms, rws_ren_ints, rws_ren_cels, rwI_ren, rwD_ren]; first | done | rfl) rfl rfl) (by kernel_rfl) ⟨oc_pl (fun _ => rfl), oc_rwI, trivial⟩ (by kernel_rfl) (ArgOs.cons (ArgO.slot 21 (.agg [(.sl 20 0 l.length : A)])) (ArgOs.nil)))
  refine za (nl (sq (sq (rg (zm (zm ?_))))))
  refine z ?_ (h := fun ν => acts_call1 ν (laws_eqIntSS_fn (smR l) (smR l) (by first | omega | assumption | (rw [hcl]; omega)) (by first | omega | assumption | (rw [hcl]; omega)) (by first | omega | assumption | (rw [hcl]; omega)) (by first | omega | assumption | (rw [hcl]; omega))) (ac (dvI (L := (smR l))) (ac (dvI (L := (smR l))) an)) rv)
  refine z ?_ (h := fun ν => acts_un ν vt (r_not rfl))
  refine nl ?_
  refine wi (b := (!(decide ((smR l) = (smR l))))) (fun c2 => ?_) (fun c2 => ?_)
  ·skip
   have c3 : decide ((smR l) = (smR l)) = false := by first | (rw [← Bool.not_eq_true']; exact c2) | simpa using c2
   have c3P := of_decide_eq_false c3
   refine sq (rg (zk (nl (wp_ret' ?_))))
   exact VRes.tmp _ _ _ (by exact rfl) (bval (congrArg Value.bool (by first | rfl | exact absurd (Eq.refl (smR l)) (by assumption) | exact absurd (Eq.refl l) (by assumption) | (exfalso; omega))))
  ·skip
   have c4 : decide ((smR l) = (smR l)) = true := by first | (rw [← Bool.not_eq_false']; exact c2) | simpa using c2
   have c4P := of_decide_eq_true c4
   refine sk (sq (sq (wp_dr ?_)))
   refine zd ?_ (h := fun ν => acts_load_owns (xs := [(.sl 20 0 l.length : A)]) ν qW4_ti_33 rfl (by decide) rfl)
   refine zd ?_ (h := fun ν => acts_load_owns (xs := [(.slv l.length 1 (isl l) : A)]) ν qW4_ti_30 rfl (by decide) rfl)
   refine zd ?_ (h := fun ν => acts_call1 ν (laws_toRegion_fn l (by first | omega | assumption | (rw [hcl]; omega))) (ac (ArgV.regv _ _ 1 _) an) (ResV.reg _ _ _ _ 29))
   refine zd ?_ (h := fun ν => acts_call1 ν (laws_eqRegion_fn l l (by first | omega | assumption | (rw [hcl]; omega)) (by first | omega | assumption | (rw [hcl]; omega))) (ac (ArgV.reg _ _ _ (s := 1) (by simp [isl]) (by first | exact List.take_of_length_le (by simp [isl]) | (simp [isl]; done))) (ac (ArgV.reg _ _ _ (s := 1) (by simp [isl]) (by first | exact List.take_of_length_le (by simp [isl]) | (simp [isl]; done))) an)) rv)
   refine zd ?_ (h := fun ν => acts_un ν vt (r_not rfl))
   refine dw_nil ?_
   refine wi (b := (!(decide (l = l)))) (fun c5 => ?_) (fun c5 => ?_)
   ·skip
    have c6 : decide (l = l) = false := by first | (rw [← Bool.not_eq_true']; exact c5) | simpa using c5
    have c6P := of_decide_eq_false c6
    refine sq (rg (zk (nl (wp_ret' ?_))))
    exact VRes.tmp _ _ _ (by exact rfl) (bval (congrArg Value.bool (by first | rfl | exact absurd (Eq.refl (smR l)) (by assumption) | exact absurd (Eq.refl l) (by assumption) | (exfalso; omega))))
   ·skip
    have c7 : decide (l = l) = true := by first | (rw [← Bool.not_eq_false']; exact c5) | simpa using c5
    have c7P := of_decide_eq_true c7
    refine sk (sq (rg (zk (nl (sq (rg ?_))))))
    refine z ?_ (h := fun ν => acts_load_owns (xs := [(.sl 20 0 l.length : A)]) ν qW4_ti_33 rfl (by decide) rfl)
    refine zm ?_
    refine z ?_ (h := fun ν => acts_callO (d := 34) (f := 20) (os := [(.o 20, some (.o ⟨3, 1, true, pl (isl l)⟩))]) (os' := [(.o 20, some (.o ⟨3, 1, true, pl (isl (cntI 1 l.length))⟩))]) (r := V.v (.int .i64 (1 + (l.length : Int)))) (bs := [.agg [(.sl 20 0 l.length : A)], .a (.val (.int .i64 1))]) (keep := [20]) (new := []) (dead := []) ν (FnO.ren' (laws_markRegion_fn l 1 (by first | omega | assumption | (rw [hcl]; omega)) (by first | omega | assumption | (rw [hcl]; omega))) (subst1 [(1, 20)]) rfl rfl (by kernel_rfl) (by kernel_rfl) ⟨oc_pl (fun _ => rfl), trivial⟩ (by kernel_rfl) rfl (by simp only [renS, Ob.ren, pl_ren, rws_ren_doms, rws_ren_ints, rws_ren_cels, rwI_ren, rwD_ren]; first | done | rfl) (by simp only [renS, Ob.ren, pl_ren, rws_ren_doms, rws_ren_ints, rws_ren_cels, rwI_ren, rwD_ren]; first | done | rfl) rfl rfl) (by kernel_rfl) ⟨oc_pl (fun _ => rfl), trivial⟩ (by kernel_rfl) (ArgOs.cons (ArgO.slot 32 (.agg [(.sl 20 0 l.length : A)])) (ArgOs.cons ((ArgO.v vt)) (ArgOs.nil))))
    refine za (nl (sq (sq ?_)))
    rcases Bool.eq_false_or_eq_true (decide ((1 + (l.length : Int)) < 0)) with c8 | c8
    ·skip
     have c8P := of_decide_eq_true c8
     refine rg (zm ?_)
     refine z ?_ (h := fun ν => acts_bin ν vt vc (r_lss (c := true) c8))
     refine zm (zo (zo (zo (zo ?_))))
     refine z ?_ (h := fun ν => acts_pick_t ν vt xc)
     refine nl (wt (sq (rg (zk (nl (wp_ret' ?_))))))
     exact VRes.tmp _ _ _ (by exact rfl) (bval (congrArg Value.bool (by first | rfl | exact absurd (Eq.refl (smR l)) (by assumption) | exact absurd (Eq.refl l) (by assumption) | (exfalso; omega))))
    ·skip
     have c8P := of_decide_eq_false c8
     refine rg (zm ?_)
     refine z ?_ (h := fun ν => acts_bin ν vt vc (r_lss (c := false) c8))
     refine zm ?_
     refine zg ?_ (h := fun ν => step_on rfl rfl (mt ν))
     refine zg ?_ (h := fun ν => step_on rfl rfl (mt ν))
     refine zg ?_ (h := fun ν => step_on rfl rfl (acts_call1 ν (laws_eqIntSS_fn (smR l) (smR l) (by first | omega | assumption | (rw [hcl]; omega)) (by first | omega | assumption | (rw [hcl]; omega)) (by first | omega | assumption | (rw [hcl]; omega)) (by first | omega | assumption | (rw [hcl]; omega))) (ac (dvI (L := (smR l))) (ac (dvI (L := (smR l))) an)) (resval (congrArg Value.bool c4))))
     refine zg ?_ (h := fun ν => step_on rfl rfl (acts_un ν vt (r_not (c := false) rfl)))
     refine z ?_ (h := fun ν => acts_pick_f ν vt xt)
     refine nl (wf (sk (sq (rg (zk (nl (sq (rg (zm (zm ?_))))))))))
     refine z ?_ (h := fun ν => acts_callO (d := 45) (f := 21) (os := [(.o 18, some (.o ⟨28, 1, true, rwI 3 (smR l)⟩))]) (os' := [(.o 18, some (.o ⟨28, 1, true, rwI 3 (cntM 1 (smR l))⟩))]) (r := V.v (.int .i64 (1 + (szN (smR l) (smR l).length : Int)))) (bs := [.a (.sl 18 0 ((smR l).length)), .a (.val (.int .i64 1))]) (keep := [18]) (new := []) (dead := []) ν (FnO.ren' (laws_markIntSS_fn (smR l) 1 (by first | omega | assumption | (rw [hcl]; omega)) (by first | omega | assumption | (rw [hcl]; omega)) (by first | omega | assumption | (rw [hcl]; omega))) (subst1 [(1, 18)]) rfl rfl (by kernel_rfl) (by kernel_rfl) ⟨oc_rwI, trivial⟩ (by kernel_rfl) rfl (by simp only [renS, Ob.ren, pl_ren, rws_ren_doms, rws_ren_ints, rws_ren_cels, rwI_ren, rwD_ren]; first | done | rfl) (by simp only [renS, Ob.ren, pl_ren, rws_ren_doms, rws_ren_ints, rws_ren_cels, rwI_ren, rwD_ren]; first | done | rfl) rfl rfl) (by kernel_rfl) ⟨oc_rwI, trivial⟩ (by kernel_rfl) (ArgOs.cons (ArgO.slot 43 (.a (.sl 18 0 ((smR l).length)))) (ArgOs.cons ((ArgO.v vt)) (ArgOs.nil))))
     refine za (nl (sq (rg (zk (nl (sq (rg (zm (zm ?_)))))))))
     refine z ?_ (h := fun ν => acts_call1 ν (laws_heldIntSS_fn (cntM 1 (smR l)) 1 (by first | omega | assumption | (rw [hcl]; omega)) (by first | omega | assumption | (rw [hcl]; omega)) (by first | omega | assumption | (rw [hcl]; omega)) (by first | omega | assumption | (rw [hcl]; omega))) (ac (dvI (L := (cntM 1 (smR l))) (hn := by first | (simp; done) | (first | omega | assumption | (rw [hcl]; omega)))) (ac (ArgV.v vt) an)) rv)
     refine za (nl (sq (sq (rg (zm ?_)))))
     refine z ?_ (h := fun ν => acts_bin ν vt vc (r_lss rfl))
     refine nl ?_
     refine wi (fun c9 => ?_) (fun c9 => ?_)
     ·skip
      have c9P := of_decide_eq_true c9
      refine sq (rg (zk (nl (wp_ret' ?_))))
      exact VRes.tmp _ _ _ (by exact rfl) (bval (congrArg Value.bool (by first | rfl | exact absurd (Eq.refl (smR l)) (by assumption) | exact absurd (Eq.refl l) (by assumption) | (exfalso; omega))))
     ·skip
      have c9P := of_decide_eq_false c9
      refine sk (sq (sq (rg (zm (zm ?_)))))
      refine z ?_ (h := fun ν => acts_bin ν vt vt (r_neq rfl))
      refine nl ?_
      refine wi (fun c10 => ?_) (fun c10 => ?_)
      ·skip
       have c10P := of_decide_eq_true c10
       refine sq (rg (zk (nl (wp_ret' ?_))))
       exact VRes.tmp _ _ _ (by exact rfl) (bval (congrArg Value.bool (by first | rfl | exact absurd (Eq.refl (smR l)) (by assumption) | exact absurd (Eq.refl l) (by assumption) | (exfalso; omega))))
      ·skip
       have c10P := of_decide_eq_false c10
       refine sk (sq (rg ?_))
       refine z ?_ (h := fun ν => acts_load_owns (xs := [(.slv l.length 1 (isl l) : A)]) ν qW4_ti_30 rfl (by decide) rfl)
       refine z ?_ (h := fun ν => acts_call1 ν (laws_toRegion_fn l (by first | omega | assumption | (rw [hcl]; omega))) (ac (ArgV.regv _ _ 1 _) an) (ResV.reg _ _ _ _ 55))
       refine z ?_ (h := fun ν => acts_callO (d := 56) (f := 18) (os := [(.o 55, some (.o ⟨3, 1, true, pl (isl l)⟩))]) (os' := [(.o 55, some (.o ⟨3, 1, true, pl (isl l)⟩)), (.o 22, some (.o ⟨28, 1, true, rwI 3 (smR l)⟩))]) (r := V.b (.a (.sl 22 0 ((smR l).length)))) (bs := [.agg [(.sl 55 0 l.length : A)]]) (keep := [55]) (new := [22]) (dead := []) ν (FnO.ren' (impl_SignMatrix_fn l (by first | omega | assumption | (rw [hcl]; omega))) (subst1 [(800, 55), (900, 22)]) rfl rfl (by kernel_rfl) (by kernel_rfl) ⟨oc_pl (fun _ => rfl), oc_rwI, trivial⟩ (by kernel_rfl) rfl (by simp only [renS, Ob.ren, pl_ren, rws_ren_doms, rws_ren_ints, rws_ren_cels, rwI_ren, rwD_ren]; first | done | rfl) (by simp only [renS, Ob.ren, pl_ren, rws_ren_doms, rws_ren_ints, rws_ren_cels, rwI_ren, rwD_ren]; first | done | rfl) rfl rfl) (by kernel_rfl) ⟨oc_pl (fun _ => rfl), oc_rwI, trivial⟩ (by kernel_rfl) (ArgOs.cons (ArgO.slot 55 (.agg [(.sl 55 0 l.length : A)])) (ArgOs.nil)))
       refine za (nl (sq (sq (rg (zm (zm ?_))))))
       refine z ?_ (h := fun ν => acts_call1 ν (laws_eqIntSS_fn (smR l) (smR l) (by first | omega | assumption | (rw [hcl]; omega)) (by first | omega | assumption | (rw [hcl]; omega)) (by first | omega | assumption | (rw [hcl]; omega)) (by first | omega | assumption | (rw [hcl]; omega))) (ac (dvI (L := (smR l))) (ac (dvI (L := (smR l))) an)) (resval (congrArg Value.bool c4)))
       refine z ?_ (h := fun ν => acts_un ν vt (r_not (c := false) rfl))
       refine nl (wf (sk (sq (rg (zk (nl (sq (rg (zm (zm ?_))))))))))
       refine z ?_ (h := fun ν => acts_call1 ν (laws_heldIntSS_fn (cntM 1 (smR l)) 1 (by first | omega | assumption | (rw [hcl]; omega)) (by first | omega | assumption | (rw [hcl]; omega)) (by first | omega | assumption | (rw [hcl]; omega)) (by first | omega | assumption | (rw [hcl]; omega))) (ac (dvI (L := (cntM 1 (smR l))) (hn := by first | (simp; done) | (first | omega | assumption | (rw [hcl]; omega)))) (ac (ArgV.v vt) an)) rv)
       refine za (nl (sq (sq (rg (zm ?_)))))
       refine z ?_ (h := fun ν => acts_bin ν vt vc (r_lss (c := false) c9))
       refine nl (wf (sk (sq (sq (rg (zm (zm ?_)))))))
       refine z ?_ (h := fun ν => acts_bin ν vt vt (r_neq (c := false) c10))
       refine nl (wf (sk (sq (rg (zk (nl (wp_ret' ?_)))))))
       exact VRes.tmp _ _ _ (by exact rfl) (BRes.val _)
end Cl
end Go.Proofs.Ythnaalmoedjjkaa
