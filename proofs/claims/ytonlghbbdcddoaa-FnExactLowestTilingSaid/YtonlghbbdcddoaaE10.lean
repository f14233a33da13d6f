/- Walks over clean states, printed by wg.py. No statement is proved here. -/
import Derived.Test.YtonlghbbdcddoaaE9
import Derived.Test.YtonlghbbdcddoaaW8
import Derived.Test.YtonlghbbdcddoaaClB
namespace Go.Proofs.Ytonlghbbdcddoaa
namespace Cl
open Go.ChangeShapes Go.WideShapes Go.ChangeAt Go.RowKit
set_option maxRecDepth 20000

theorem qE10_ti_24 : TI Try.prog 24 true 1 := ⟨⟨_, Try.underlying24, rfl⟩, by kernel_rfl⟩
theorem qE10_ti_29 : TI Try.prog 29 true 1 := ⟨⟨_, Try.underlying29, rfl⟩, by kernel_rfl⟩
theorem qE10_un_4 : Try.prog.underlying 4 = some .bool := Try.underlying4
theorem qE10_zi_29 : ZI Try.prog 29 (.agg #[.slice none 0 0]) 1 24 := by unfold ZI; kernel_rfl
set_option maxHeartbeats 4000000 in
set_option maxRecDepth 100000 in
theorem laws_FnExactHighestTiling_fn (l : List Int) (hl : l.length ≤ 9223372036854775807) : Fn Try.prog 3 [.agg [(.slv l.length 1 (isl l) : A)]] [.val (.bool true)] := by
 have hel := endT_len l true
 have hml : (mkDs 1 (endT l true).length).length = (endT l true).length := mkDs_len _ _
 refine fn_intro (N := 96) Try.func3 rfl (by kernel_rfl) rfl (Nat.le_of_ble_eq_true rfl) [1, 6, 16, 21, 22, 26, 29, 34, 43, 44, 48, 54, 64, 67, 75, 76, 81, 90] (ret1 rfl) (fun W => ?_)
 show Wp _ _ _ [kV 0 (V.b (.agg [(.slv l.length 1 (isl l) : A)])), kF 1, kF 6, kF 16, kF 21, kF 22, kF 26, kF 29, kF 34, kF 43, kF 44, kF 48, kF 54, kF 64, kF 67, kF 75, kF 76, kF 81, kF 90]
 refine sq (rg ?_)
 refine z ?_ (h := fun ν => acts_box (h := 1) ν xt (by exact ob1 rfl))
 refine zk (nl (sq (rg (zk (nl (sq (rg ?_)))))))
 refine z ?_ (h := fun ν => acts_load_owns (xs := [(.slv l.length 1 (isl l) : A)]) ν qE10_ti_24 rfl (by decide) rfl)
 refine zm ?_
 refine z ?_ (h := fun ν => acts_call1 ν (laws_szRegion_fn l 1048576 (by omega) (by omega)) (ac (ArgV.regv _ _ 1 _) (ac (ArgV.v vt) an)) rv)
 refine za (nl (sq (sq (rg (zm ?_)))))
 refine z ?_ (h := fun ν => acts_bin ν vt vc (r_lss rfl))
 refine nl ?_
 refine wi (fun c1 => ?_) (fun c1 => ?_)
 ·skip
  have c1P := of_decide_eq_true c1
  refine sq (rg (zk (nl (wp_ret' ?_))))
  exact VRes.tmp _ _ _ (by exact rfl) (BRes.val _)
 ·skip
  have c1P := of_decide_eq_false c1
  have hsc := szS_cases 1048576 l.length
  have hA : l.length ≤ 4194304 := by omega
  refine sk (sq (rg ?_))
  refine z ?_ (h := fun ν => acts_load_owns (xs := [(.slv l.length 1 (isl l) : A)]) ν qE10_ti_24 rfl (by decide) rfl)
  refine z ?_ (h := fun ν => acts_call1 ν (laws_toRegion_fn l (by omega)) (ac (ArgV.regv _ _ 1 _) an) (ResV.reg _ _ _ _ 21))
  refine z ?_ (h := fun ν => acts_callO (d := 22) (f := 7) (os := [(.o 21, some (.o ⟨3, 1, true, pl (isl l)⟩))]) (os' := [(.o 21, some (.o ⟨3, 1, true, pl (isl l)⟩))]) (r := V.tup [.a (.slv ((endT l true).length) 3 (dsl (endT l true))), .a (.val (.bool (enOk l)))]) (bs := [.agg [(.sl 21 0 l.length : A)]]) (keep := [21]) (new := []) (dead := []) ν (FnO.ren' (spec_HighestTiling_fn l (by omega)) (subst1 [(800, 21)]) rfl rfl (by kernel_rfl) (by kernel_rfl) ⟨oc_pl (fun _ => rfl), trivial⟩ (by kernel_rfl) rfl (by simp only [renS, Ob.ren, pl_ren, rws_ren_doms, rws_ren_ints, rws_ren_cels, rwI_ren, rwD_ren]; first | done | rfl) (by simp only [renS, Ob.ren, pl_ren, rws_ren_doms, rws_ren_ints, rws_ren_cels, rwI_ren, rwD_ren]; first | done | rfl) rfl rfl) (by kernel_rfl) ⟨oc_pl (fun _ => rfl), trivial⟩ (by kernel_rfl) (ArgOs.cons (ArgO.slot 21 (.agg [(.sl 21 0 l.length : A)])) (ArgOs.nil)))
  refine zm ?_
  refine z ?_ (h := fun ν => acts_extract ν (by exact rfl))
  refine z ?_ (h := fun ν => acts_extract ν (by exact rfl))
  refine za (za (nl (sq (rg ?_))))
  refine z ?_ (h := fun ν => acts_load_owns (xs := [(.slv l.length 1 (isl l) : A)]) ν qE10_ti_24 rfl (by decide) rfl)
  refine z ?_ (h := fun ν => acts_call1 ν (laws_toRegion_fn l (by omega)) (ac (ArgV.regv _ _ 1 _) an) (ResV.reg _ _ _ _ 26))
  refine z ?_ (h := fun ν => acts_alloc' (h := 6) (cap := 1) (s := 1) (cells := [(.val (.slice none 0 0) : A)]) ν qE10_zi_29 rfl rfl (by decide))
  refine z ?_ (h := fun _ => acts_store (cells := [(.sl 26 0 l.length : A)]) qE10_ti_29 xt (by exact rfl) (by decide) (by exact ob1 rfl) (by exact Nat.le_of_ble_eq_true rfl) (by exact rfl))
  refine nl (sq (rg ?_))
  refine z ?_ (h := fun ν => acts_load_owns (xs := [(.sl 26 0 l.length : A)]) ν qE10_ti_29 rfl (by decide) rfl)
  refine z ?_ (h := fun ν => acts_callO (d := 29) (f := 9) (os := [(.o 26, some (.o ⟨3, 1, true, pl (isl l)⟩))]) (os' := [(.o 26, some (.o ⟨3, 1, true, pl (isl l)⟩)), (.o 16, some (.o ⟨57, 3, true, pl (dsl (endT l true))⟩))]) (r := V.tup [.a (.sl 16 0 ((endT l true).length)), .a (.val (.bool (enOk l)))]) (bs := [.agg [(.sl 26 0 l.length : A)]]) (keep := [26]) (new := [16]) (dead := []) ν (FnO.ren' (impl_HighestTiling_fn l (by omega)) (subst1 [(800, 26), (900, 16)]) rfl rfl (by kernel_rfl) (by kernel_rfl) ⟨oc_pl (fun _ => rfl), oc_pl (fun _ => rfl), trivial⟩ (by kernel_rfl) rfl (by simp only [renS, Ob.ren, pl_ren, rws_ren_doms, rws_ren_ints, rws_ren_cels, rwI_ren, rwD_ren]; first | done | rfl) (by simp only [renS, Ob.ren, pl_ren, rws_ren_doms, rws_ren_ints, rws_ren_cels, rwI_ren, rwD_ren]; first | done | rfl) rfl rfl) (by kernel_rfl) ⟨oc_pl (fun _ => rfl), oc_pl (fun _ => rfl), trivial⟩ (by kernel_rfl) (ArgOs.cons (ArgO.slot 28 (.agg [(.sl 26 0 l.length : A)])) (ArgOs.nil)))
  refine zm ?_
  refine z ?_ (h := fun ν => acts_extract ν (by exact rfl))
  refine z ?_ (h := fun ν => acts_extract ν (by exact rfl))
  refine za (za (nl (sq (sq ?_))))
  rcases Bool.eq_false_or_eq_true ((decide ((endT l true) = (endT l true)))) with c2 | c2
  ·skip
   refine rg (zm (zm ?_))
   refine z ?_ (h := fun ν => acts_call1 ν (laws_eqDominoS_fn (endT l true) (endT l true) (by omega) (by omega)) (ac (argv_own (by exact dsl_len _)) (ac (ArgV.slv _ _ _ _) an)) (resval (congrArg Value.bool c2)))
   refine z ?_ (h := fun ν => acts_un ν vt (r_not (c := false) rfl))
   refine zm ?_
   refine zg ?_ (h := fun ν => step_on rfl rfl (mt ν))
   refine zg ?_ (h := fun ν => step_on rfl rfl (mt ν))
   refine zg ?_ (h := fun ν => step_on rfl rfl (acts_bin ν vt vt (r_bneq (c := (decide ((enOk l) ≠ (enOk l)))) qE10_un_4 rfl)))
   refine z ?_ (h := fun ν => acts_pick_f ν vt xt)
   refine nl ?_
   refine wi (fun c3 => ?_) (fun c3 => ?_)
   ·skip
    have c3P := of_decide_eq_true c3
    refine sq (rg (zk (nl (wp_ret' ?_))))
    exact VRes.tmp _ _ _ (by exact rfl) (bval (congrArg Value.bool (by exact absurd (Eq.refl (enOk l)) (by assumption))))
   ·skip
    have c3P := of_decide_eq_false c3
    refine sk (sq (sq (wp_dr ?_)))
    refine zd ?_ (h := fun ν => acts_load_owns (xs := [(.sl 26 0 l.length : A)]) ν qE10_ti_29 rfl (by decide) rfl)
    refine zd ?_ (h := fun ν => acts_load_owns (xs := [(.slv l.length 1 (isl l) : A)]) ν qE10_ti_24 rfl (by decide) rfl)
    refine zd ?_ (h := fun ν => acts_call1 ν (laws_toRegion_fn l (by omega)) (ac (ArgV.regv _ _ 1 _) an) (ResV.reg _ _ _ _ 43))
    refine zd ?_ (h := fun ν => acts_call1 ν (laws_eqRegion_fn l l (by omega) (by omega)) (ac (ArgV.reg _ _ _ (s := 1) (by simp [isl]) (by exact List.take_of_length_le (by simp [isl]))) (ac (ArgV.reg _ _ _ (s := 1) (by simp [isl]) (by exact List.take_of_length_le (by simp [isl]))) an)) rv)
    refine zd ?_ (h := fun ν => acts_un ν vt (r_not rfl))
    refine dw_nil ?_
    refine wi (b := (!(decide (l = l)))) (fun c4 => ?_) (fun c4 => ?_)
    ·skip
     have c5 : decide (l = l) = false := by first | (rw [← Bool.not_eq_true']; exact c4) | simpa using c4
     have c5P := of_decide_eq_false c5
     refine sq (rg (zk (nl (wp_ret' ?_))))
     exact VRes.tmp _ _ _ (by exact rfl) (bval (congrArg Value.bool (by exact absurd (Eq.refl l) (by assumption))))
    ·skip
     have c6 : decide (l = l) = true := by first | (rw [← Bool.not_eq_false']; exact c4) | simpa using c4
     have c6P := of_decide_eq_true c6
     refine sk (sq (rg (zk (nl (sq (rg ?_))))))
     refine z ?_ (h := fun ν => acts_load_owns (xs := [(.sl 26 0 l.length : A)]) ν qE10_ti_29 rfl (by decide) rfl)
     refine zm ?_
     refine z ?_ (h := fun ν => acts_callO (d := 48) (f := 12) (os := [(.o 26, some (.o ⟨3, 1, true, pl (isl l)⟩))]) (os' := [(.o 26, some (.o ⟨3, 1, true, pl (isl (cntI 1 l.length))⟩))]) (r := V.v (.int .i64 (1 + (l.length : Int)))) (bs := [.agg [(.sl 26 0 l.length : A)], .a (.val (.int .i64 1))]) (keep := [26]) (new := []) (dead := []) ν (FnO.ren' (laws_markRegion_fn l 1 (by omega) (by omega)) (subst1 [(1, 26)]) rfl rfl (by kernel_rfl) (by kernel_rfl) ⟨oc_pl (fun _ => rfl), trivial⟩ (by kernel_rfl) rfl (by simp only [renS, Ob.ren, pl_ren, rws_ren_doms, rws_ren_ints, rws_ren_cels, rwI_ren, rwD_ren]; first | done | rfl) (by simp only [renS, Ob.ren, pl_ren, rws_ren_doms, rws_ren_ints, rws_ren_cels, rwI_ren, rwD_ren]; first | done | rfl) rfl rfl) (by kernel_rfl) ⟨oc_pl (fun _ => rfl), trivial⟩ (by kernel_rfl) (ArgOs.cons (ArgO.slot 46 (.agg [(.sl 26 0 l.length : A)])) (ArgOs.cons ((ArgO.v vt)) (ArgOs.nil))))
     refine za (nl (sq (sq ?_)))
     rcases Bool.eq_false_or_eq_true (decide ((1 + (l.length : Int)) < 0)) with c7 | c7
     ·skip
      have c7P := of_decide_eq_true c7
      refine rg (zm ?_)
      refine z ?_ (h := fun ν => acts_bin ν vt vc (r_lss (c := true) c7))
      refine zm (zo (zo (zo (zo ?_))))
      refine z ?_ (h := fun ν => acts_pick_t ν vt xc)
      refine zm (zo (zo (zo ?_)))
      refine z ?_ (h := fun ν => acts_pick_t ν vt xc)
      refine nl (wt (sq (rg (zk (nl (wp_ret' ?_))))))
      exact VRes.tmp _ _ _ (by exact rfl) (bval (congrArg Value.bool (by (exfalso; omega))))
     ·skip
      have c7P := of_decide_eq_false c7
      refine rg (zm ?_)
      refine z ?_ (h := fun ν => acts_bin ν vt vc (r_lss (c := false) c7))
      refine zm ?_
      refine zg ?_ (h := fun ν => step_on rfl rfl (mt ν))
      refine zg ?_ (h := fun ν => step_on rfl rfl (mt ν))
      refine zg ?_ (h := fun ν => step_on rfl rfl (acts_call1 ν (laws_eqDominoS_fn (endT l true) (endT l true) (by omega) (by omega)) (ac (argv_own (by exact dsl_len _)) (ac (ArgV.slv _ _ _ _) an)) (resval (congrArg Value.bool c2))))
      refine zg ?_ (h := fun ν => step_on rfl rfl (acts_un ν vt (r_not (c := false) rfl)))
      refine z ?_ (h := fun ν => acts_pick_f ν vt xt)
      refine zm ?_
      refine zg ?_ (h := fun ν => step_on rfl rfl (mt ν))
      refine zg ?_ (h := fun ν => step_on rfl rfl (mt ν))
      refine zg ?_ (h := fun ν => step_on rfl rfl (acts_bin ν vt vt (r_bneq (c := false) qE10_un_4 c3)))
      refine z ?_ (h := fun ν => acts_pick_f ν vt xt)
      refine nl (wf (sk (sq (rg (zk (nl (sq (rg (zm (zm ?_))))))))))
      refine z ?_ (h := fun ν => acts_callO (d := 64) (f := 13) (os := [(.o 16, some (.o ⟨57, 3, true, pl (dsl (endT l true))⟩))]) (os' := [(.o 16, some (.o ⟨57, 3, true, pl (dsl (mkDs 1 (endT l true).length))⟩))]) (r := V.v (.int .i64 (1 + 3 * ((endT l true).length : Int)))) (bs := [.a (.sl 16 0 ((endT l true).length)), .a (.val (.int .i64 1))]) (keep := [16]) (new := []) (dead := []) ν (FnO.ren' (laws_markDominoS_fn (endT l true) 1 (by omega) (by omega)) (subst1 [(1, 16)]) rfl rfl (by kernel_rfl) (by kernel_rfl) ⟨oc_pl (fun _ => rfl), trivial⟩ (by kernel_rfl) rfl (by simp only [renS, Ob.ren, pl_ren, rws_ren_doms, rws_ren_ints, rws_ren_cels, rwI_ren, rwD_ren]; first | done | rfl) (by simp only [renS, Ob.ren, pl_ren, rws_ren_doms, rws_ren_ints, rws_ren_cels, rwI_ren, rwD_ren]; first | done | rfl) rfl rfl) (by kernel_rfl) ⟨oc_pl (fun _ => rfl), trivial⟩ (by kernel_rfl) (ArgOs.cons (ArgO.slot 62 (.a (.sl 16 0 ((endT l true).length)))) (ArgOs.cons ((ArgO.v vt)) (ArgOs.nil))))
      refine za (nl (sq (rg (zk (nl (sq (rg (zm (zm ?_)))))))))
      refine z ?_ (h := fun ν => acts_call1 ν (laws_heldDominoS_fn (mkDs 1 (endT l true).length) 1 (by omega) (by omega) (by (rw [mkDs_len]; done))) (ac (argv_ownD (L := (mkDs 1 (endT l true).length)) (by rw [mkDs_len])) (ac (ArgV.v vt) an)) rv)
      refine za (nl (sq (sq (rg (zm ?_)))))
      refine z ?_ (h := fun ν => acts_bin ν vt vc (r_lss rfl))
      refine nl ?_
      refine wi (fun c8 => ?_) (fun c8 => ?_)
      ·skip
       have c8P := of_decide_eq_true c8
       refine sq (rg (zk (nl (wp_ret' ?_))))
       exact VRes.tmp _ _ _ (by exact rfl) (bval (congrArg Value.bool (by (exfalso; omega))))
      ·skip
       have c8P := of_decide_eq_false c8
       refine sk (sq (sq (rg (zm (zm ?_)))))
       refine z ?_ (h := fun ν => acts_bin ν vt vt (r_neq rfl))
       refine nl ?_
       refine wi (fun c9 => ?_) (fun c9 => ?_)
       ·skip
        have c9P := of_decide_eq_true c9
        refine sq (rg (zk (nl (wp_ret' ?_))))
        exact VRes.tmp _ _ _ (by exact rfl) (bval (congrArg Value.bool (by (exfalso; omega))))
       ·skip
        have c9P := of_decide_eq_false c9
        refine sk (sq (rg ?_))
        refine z ?_ (h := fun ν => acts_load_owns (xs := [(.slv l.length 1 (isl l) : A)]) ν qE10_ti_24 rfl (by decide) rfl)
        refine z ?_ (h := fun ν => acts_call1 ν (laws_toRegion_fn l (by omega)) (ac (ArgV.regv _ _ 1 _) an) (ResV.reg _ _ _ _ 75))
        refine z ?_ (h := fun ν => acts_callO (d := 76) (f := 9) (os := [(.o 75, some (.o ⟨3, 1, true, pl (isl l)⟩))]) (os' := [(.o 75, some (.o ⟨3, 1, true, pl (isl l)⟩)), (.o 22, some (.o ⟨57, 3, true, pl (dsl (endT l true))⟩))]) (r := V.tup [.a (.sl 22 0 ((endT l true).length)), .a (.val (.bool (enOk l)))]) (bs := [.agg [(.sl 75 0 l.length : A)]]) (keep := [75]) (new := [22]) (dead := []) ν (FnO.ren' (impl_HighestTiling_fn l (by omega)) (subst1 [(800, 75), (900, 22)]) rfl rfl (by kernel_rfl) (by kernel_rfl) ⟨oc_pl (fun _ => rfl), oc_pl (fun _ => rfl), trivial⟩ (by kernel_rfl) rfl (by simp only [renS, Ob.ren, pl_ren, rws_ren_doms, rws_ren_ints, rws_ren_cels, rwI_ren, rwD_ren]; first | done | rfl) (by simp only [renS, Ob.ren, pl_ren, rws_ren_doms, rws_ren_ints, rws_ren_cels, rwI_ren, rwD_ren]; first | done | rfl) rfl rfl) (by kernel_rfl) ⟨oc_pl (fun _ => rfl), oc_pl (fun _ => rfl), trivial⟩ (by kernel_rfl) (ArgOs.cons (ArgO.slot 75 (.agg [(.sl 75 0 l.length : A)])) (ArgOs.nil)))
        refine zm ?_
        refine z ?_ (h := fun ν => acts_extract ν (by exact rfl))
        refine z ?_ (h := fun ν => acts_extract ν (by exact rfl))
        refine za (za (nl (sq (sq (rg (zm (zm ?_)))))))
        refine z ?_ (h := fun ν => acts_call1 ν (laws_eqDominoS_fn (endT l true) (endT l true) (by omega) (by omega)) (ac (argv_own (by exact dsl_len _)) (ac (ArgV.slv _ _ _ _) an)) (resval (congrArg Value.bool c2)))
        refine z ?_ (h := fun ν => acts_un ν vt (r_not (c := false) rfl))
        refine zm ?_
        refine zg ?_ (h := fun ν => step_on rfl rfl (mt ν))
        refine zg ?_ (h := fun ν => step_on rfl rfl (mt ν))
        refine zg ?_ (h := fun ν => step_on rfl rfl (acts_bin ν vt vt (r_bneq (c := false) qE10_un_4 c3)))
        refine z ?_ (h := fun ν => acts_pick_f ν vt xt)
        refine nl (wf (sk (sq (rg (zk (nl (sq (rg (zm (zm ?_))))))))))
        refine z ?_ (h := fun ν => acts_call1 ν (laws_heldDominoS_fn (mkDs 1 (endT l true).length) 1 (by omega) (by omega) (by (rw [mkDs_len]; done))) (ac (argv_ownD (L := (mkDs 1 (endT l true).length)) (by rw [mkDs_len])) (ac (ArgV.v vt) an)) rv)
        refine za (nl (sq (sq (rg (zm ?_)))))
        refine z ?_ (h := fun ν => acts_bin ν vt vc (r_lss (c := false) c8))
        refine nl (wf (sk (sq (sq (rg (zm (zm ?_)))))))
        refine z ?_ (h := fun ν => acts_bin ν vt vt (r_neq (c := false) c9))
        refine nl (wf (sk (sq (rg (zk (nl (wp_ret' ?_)))))))
        exact VRes.tmp _ _ _ (by exact rfl) (BRes.val _)
  ·skip
   refine rg (zm (zm ?_))
   refine z ?_ (h := fun ν => acts_call1 ν (laws_eqDominoS_fn (endT l true) (endT l true) (by omega) (by omega)) (ac (argv_own (by exact dsl_len _)) (ac (ArgV.slv _ _ _ _) an)) (resval (congrArg Value.bool c2)))
   refine z ?_ (h := fun ν => acts_un ν vt (r_not (c := true) rfl))
   refine zm (zo (zo (zo ?_)))
   refine z ?_ (h := fun ν => acts_pick_t ν vt xc)
   refine nl (wt (sq (rg (zk (nl (wp_ret' ?_))))))
   exact VRes.tmp _ _ _ (by exact rfl) (bval (congrArg Value.bool (by (exfalso; simp_all; done))))

set_option maxHeartbeats 4000000 in
set_option maxRecDepth 100000 in
theorem laws_FnExactLowestTiling_fn (l : List Int) (hl : l.length ≤ 9223372036854775807) : Fn Try.prog 4 [.agg [(.slv l.length 1 (isl l) : A)]] [.val (.bool true)] := by
 have hel := endT_len l false
 have hml : (mkDs 1 (endT l false).length).length = (endT l false).length := mkDs_len _ _
 refine fn_intro (N := 96) Try.func4 rfl (by kernel_rfl) rfl (Nat.le_of_ble_eq_true rfl) [1, 6, 16, 21, 22, 26, 29, 34, 43, 44, 48, 54, 64, 67, 75, 76, 81, 90] (ret1 rfl) (fun W => ?_)
 show Wp _ _ _ [kV 0 (V.b (.agg [(.slv l.length 1 (isl l) : A)])), kF 1, kF 6, kF 16, kF 21, kF 22, kF 26, kF 29, kF 34, kF 43, kF 44, kF 48, kF 54, kF 64, kF 67, kF 75, kF 76, kF 81, kF 90]
 refine sq (rg ?_)
 refine z ?_ (h := fun ν => acts_box (h := 1) ν xt (by exact ob1 rfl))
 refine zk (nl (sq (rg (zk (nl (sq (rg ?_)))))))
 refine z ?_ (h := fun ν => acts_load_owns (xs := [(.slv l.length 1 (isl l) : A)]) ν qE10_ti_24 rfl (by decide) rfl)
 refine zm ?_
 refine z ?_ (h := fun ν => acts_call1 ν (laws_szRegion_fn l 1048576 (by omega) (by omega)) (ac (ArgV.regv _ _ 1 _) (ac (ArgV.v vt) an)) rv)
 refine za (nl (sq (sq (rg (zm ?_)))))
 refine z ?_ (h := fun ν => acts_bin ν vt vc (r_lss rfl))
 refine nl ?_
 refine wi (fun c1 => ?_) (fun c1 => ?_)
 ·skip
  have c1P := of_decide_eq_true c1
  refine sq (rg (zk (nl (wp_ret' ?_))))
  exact VRes.tmp _ _ _ (by exact rfl) (BRes.val _)
 ·skip
  have c1P := of_decide_eq_false c1
  have hsc := szS_cases 1048576 l.length
  have hA : l.length ≤ 4194304 := by omega
  refine sk (sq (rg ?_))
  refine z ?_ (h := fun ν => acts_load_owns (xs := [(.slv l.length 1 (isl l) : A)]) ν qE10_ti_24 rfl (by decide) rfl)
  refine z ?_ (h := fun ν => acts_call1 ν (laws_toRegion_fn l (by omega)) (ac (ArgV.regv _ _ 1 _) an) (ResV.reg _ _ _ _ 21))
  refine z ?_ (h := fun ν => acts_callO (d := 22) (f := 15) (os := [(.o 21, some (.o ⟨3, 1, true, pl (isl l)⟩))]) (os' := [(.o 21, some (.o ⟨3, 1, true, pl (isl l)⟩))]) (r := V.tup [.a (.slv ((endT l false).length) 3 (dsl (endT l false))), .a (.val (.bool (enOk l)))]) (bs := [.agg [(.sl 21 0 l.length : A)]]) (keep := [21]) (new := []) (dead := []) ν (FnO.ren' (spec_LowestTiling_fn l (by omega)) (subst1 [(800, 21)]) rfl rfl (by kernel_rfl) (by kernel_rfl) ⟨oc_pl (fun _ => rfl), trivial⟩ (by kernel_rfl) rfl (by simp only [renS, Ob.ren, pl_ren, rws_ren_doms, rws_ren_ints, rws_ren_cels, rwI_ren, rwD_ren]; first | done | rfl) (by simp only [renS, Ob.ren, pl_ren, rws_ren_doms, rws_ren_ints, rws_ren_cels, rwI_ren, rwD_ren]; first | done | rfl) rfl rfl) (by kernel_rfl) ⟨oc_pl (fun _ => rfl), trivial⟩ (by kernel_rfl) (ArgOs.cons (ArgO.slot 21 (.agg [(.sl 21 0 l.length : A)])) (ArgOs.nil)))
  refine zm ?_
  refine z ?_ (h := fun ν => acts_extract ν (by exact rfl))
  refine z ?_ (h := fun ν => acts_extract ν (by exact rfl))
  refine za (za (nl (sq (rg ?_))))
  refine z ?_ (h := fun ν => acts_load_owns (xs := [(.slv l.length 1 (isl l) : A)]) ν qE10_ti_24 rfl (by decide) rfl)
  refine z ?_ (h := fun ν => acts_call1 ν (laws_toRegion_fn l (by omega)) (ac (ArgV.regv _ _ 1 _) an) (ResV.reg _ _ _ _ 26))
  refine z ?_ (h := fun ν => acts_alloc' (h := 6) (cap := 1) (s := 1) (cells := [(.val (.slice none 0 0) : A)]) ν qE10_zi_29 rfl rfl (by decide))
  refine z ?_ (h := fun _ => acts_store (cells := [(.sl 26 0 l.length : A)]) qE10_ti_29 xt (by exact rfl) (by decide) (by exact ob1 rfl) (by exact Nat.le_of_ble_eq_true rfl) (by exact rfl))
  refine nl (sq (rg ?_))
  refine z ?_ (h := fun ν => acts_load_owns (xs := [(.sl 26 0 l.length : A)]) ν qE10_ti_29 rfl (by decide) rfl)
  refine z ?_ (h := fun ν => acts_callO (d := 29) (f := 16) (os := [(.o 26, some (.o ⟨3, 1, true, pl (isl l)⟩))]) (os' := [(.o 26, some (.o ⟨3, 1, true, pl (isl l)⟩)), (.o 16, some (.o ⟨57, 3, true, pl (dsl (endT l false))⟩))]) (r := V.tup [.a (.sl 16 0 ((endT l false).length)), .a (.val (.bool (enOk l)))]) (bs := [.agg [(.sl 26 0 l.length : A)]]) (keep := [26]) (new := [16]) (dead := []) ν (FnO.ren' (impl_LowestTiling_fn l (by omega)) (subst1 [(800, 26), (900, 16)]) rfl rfl (by kernel_rfl) (by kernel_rfl) ⟨oc_pl (fun _ => rfl), oc_pl (fun _ => rfl), trivial⟩ (by kernel_rfl) rfl (by simp only [renS, Ob.ren, pl_ren, rws_ren_doms, rws_ren_ints, rws_ren_cels, rwI_ren, rwD_ren]; first | done | rfl) (by simp only [renS, Ob.ren, pl_ren, rws_ren_doms, rws_ren_ints, rws_ren_cels, rwI_ren, rwD_ren]; first | done | rfl) rfl rfl) (by kernel_rfl) ⟨oc_pl (fun _ => rfl), oc_pl (fun _ => rfl), trivial⟩ (by kernel_rfl) (ArgOs.cons (ArgO.slot 28 (.agg [(.sl 26 0 l.length : A)])) (ArgOs.nil)))
  refine zm ?_
  refine z ?_ (h := fun ν => acts_extract ν (by exact rfl))
  refine z ?_ (h := fun ν => acts_extract ν (by exact rfl))
  refine za (za (nl (sq (sq ?_))))
  rcases Bool.eq_false_or_eq_true ((decide ((endT l false) = (endT l false)))) with c2 | c2
  ·skip
   refine rg (zm (zm ?_))
   refine z ?_ (h := fun ν => acts_call1 ν (laws_eqDominoS_fn (endT l false) (endT l false) (by omega) (by omega)) (ac (argv_own (by exact dsl_len _)) (ac (ArgV.slv _ _ _ _) an)) (resval (congrArg Value.bool c2)))
   refine z ?_ (h := fun ν => acts_un ν vt (r_not (c := false) rfl))
   refine zm ?_
   refine zg ?_ (h := fun ν => step_on rfl rfl (mt ν))
   refine zg ?_ (h := fun ν => step_on rfl rfl (mt ν))
   refine zg ?_ (h := fun ν => step_on rfl rfl (acts_bin ν vt vt (r_bneq (c := (decide ((enOk l) ≠ (enOk l)))) qE10_un_4 rfl)))
   refine z ?_ (h := fun ν => acts_pick_f ν vt xt)
   refine nl ?_
   refine wi (fun c3 => ?_) (fun c3 => ?_)
   ·skip
    have c3P := of_decide_eq_true c3
    refine sq (rg (zk (nl (wp_ret' ?_))))
    exact VRes.tmp _ _ _ (by exact rfl) (bval (congrArg Value.bool (by exact absurd (Eq.refl (enOk l)) (by assumption))))
   ·skip
    have c3P := of_decide_eq_false c3
    refine sk (sq (sq (wp_dr ?_)))
    refine zd ?_ (h := fun ν => acts_load_owns (xs := [(.sl 26 0 l.length : A)]) ν qE10_ti_29 rfl (by decide) rfl)
    refine zd ?_ (h := fun ν => acts_load_owns (xs := [(.slv l.length 1 (isl l) : A)]) ν qE10_ti_24 rfl (by decide) rfl)
    refine zd ?_ (h := fun ν => acts_call1 ν (laws_toRegion_fn l (by omega)) (ac (ArgV.regv _ _ 1 _) an) (ResV.reg _ _ _ _ 43))
    refine zd ?_ (h := fun ν => acts_call1 ν (laws_eqRegion_fn l l (by omega) (by omega)) (ac (ArgV.reg _ _ _ (s := 1) (by simp [isl]) (by exact List.take_of_length_le (by simp [isl]))) (ac (ArgV.reg _ _ _ (s := 1) (by simp [isl]) (by exact List.take_of_length_le (by simp [isl]))) an)) rv)
    refine zd ?_ (h := fun ν => acts_un ν vt (r_not rfl))
    refine dw_nil ?_
    refine wi (b := (!(decide (l = l)))) (fun c4 => ?_) (fun c4 => ?_)
    ·skip
     have c5 : decide (l = l) = false := by first | (rw [← Bool.not_eq_true']; exact c4) | simpa using c4
     have c5P := of_decide_eq_false c5
     refine sq (rg (zk (nl (wp_ret' ?_))))
     exact VRes.tmp _ _ _ (by exact rfl) (bval (congrArg Value.bool (by exact absurd (Eq.refl l) (by assumption))))
    ·skip
     have c6 : decide (l = l) = true := by first | (rw [← Bool.not_eq_false']; exact c4) | simpa using c4
     have c6P := of_decide_eq_true c6
     refine sk (sq (rg (zk (nl (sq (rg ?_))))))
     refine z ?_ (h := fun ν => acts_load_owns (xs := [(.sl 26 0 l.length : A)]) ν qE10_ti_29 rfl (by decide) rfl)
     refine zm ?_
     refine z ?_ (h := fun ν => acts_callO (d := 48) (f := 12) (os := [(.o 26, some (.o ⟨3, 1, true, pl (isl l)⟩))]) (os' := [(.o 26, some (.o ⟨3, 1, true, pl (isl (cntI 1 l.length))⟩))]) (r := V.v (.int .i64 (1 + (l.length : Int)))) (bs := [.agg [(.sl 26 0 l.length : A)], .a (.val (.int .i64 1))]) (keep := [26]) (new := []) (dead := []) ν (FnO.ren' (laws_markRegion_fn l 1 (by omega) (by omega)) (subst1 [(1, 26)]) rfl rfl (by kernel_rfl) (by kernel_rfl) ⟨oc_pl (fun _ => rfl), trivial⟩ (by kernel_rfl) rfl (by simp only [renS, Ob.ren, pl_ren, rws_ren_doms, rws_ren_ints, rws_ren_cels, rwI_ren, rwD_ren]; first | done | rfl) (by simp only [renS, Ob.ren, pl_ren, rws_ren_doms, rws_ren_ints, rws_ren_cels, rwI_ren, rwD_ren]; first | done | rfl) rfl rfl) (by kernel_rfl) ⟨oc_pl (fun _ => rfl), trivial⟩ (by kernel_rfl) (ArgOs.cons (ArgO.slot 46 (.agg [(.sl 26 0 l.length : A)])) (ArgOs.cons ((ArgO.v vt)) (ArgOs.nil))))
     refine za (nl (sq (sq ?_)))
     rcases Bool.eq_false_or_eq_true (decide ((1 + (l.length : Int)) < 0)) with c7 | c7
     ·skip
      have c7P := of_decide_eq_true c7
      refine rg (zm ?_)
      refine z ?_ (h := fun ν => acts_bin ν vt vc (r_lss (c := true) c7))
      refine zm (zo (zo (zo (zo ?_))))
      refine z ?_ (h := fun ν => acts_pick_t ν vt xc)
      refine zm (zo (zo (zo ?_)))
      refine z ?_ (h := fun ν => acts_pick_t ν vt xc)
      refine nl (wt (sq (rg (zk (nl (wp_ret' ?_))))))
      exact VRes.tmp _ _ _ (by exact rfl) (bval (congrArg Value.bool (by (exfalso; omega))))
     ·skip
      have c7P := of_decide_eq_false c7
      refine rg (zm ?_)
      refine z ?_ (h := fun ν => acts_bin ν vt vc (r_lss (c := false) c7))
      refine zm ?_
      refine zg ?_ (h := fun ν => step_on rfl rfl (mt ν))
      refine zg ?_ (h := fun ν => step_on rfl rfl (mt ν))
      refine zg ?_ (h := fun ν => step_on rfl rfl (acts_call1 ν (laws_eqDominoS_fn (endT l false) (endT l false) (by omega) (by omega)) (ac (argv_own (by exact dsl_len _)) (ac (ArgV.slv _ _ _ _) an)) (resval (congrArg Value.bool c2))))
      refine zg ?_ (h := fun ν => step_on rfl rfl (acts_un ν vt (r_not (c := false) rfl)))
      refine z ?_ (h := fun ν => acts_pick_f ν vt xt)
      refine zm ?_
      refine zg ?_ (h := fun ν => step_on rfl rfl (mt ν))
      refine zg ?_ (h := fun ν => step_on rfl rfl (mt ν))
      refine zg ?_ (h := fun ν => step_on rfl rfl (acts_bin ν vt vt (r_bneq (c := false) qE10_un_4 c3)))
      refine z ?_ (h := fun ν => acts_pick_f ν vt xt)
      refine nl (wf (sk (sq (rg (zk (nl (sq (rg (zm (zm ?_))))))))))
      refine z ?_ (h := fun ν => acts_callO (d := 64) (f := 13) (os := [(.o 16, some (.o ⟨57, 3, true, pl (dsl (endT l false))⟩))]) (os' := [(.o 16, some (.o ⟨57, 3, true, pl (dsl (mkDs 1 (endT l false).length))⟩))]) (r := V.v (.int .i64 (1 + 3 * ((endT l false).length : Int)))) (bs := [.a (.sl 16 0 ((endT l false).length)), .a (.val (.int .i64 1))]) (keep := [16]) (new := []) (dead := []) ν (FnO.ren' (laws_markDominoS_fn (endT l false) 1 (by omega) (by omega)) (subst1 [(1, 16)]) rfl rfl (by kernel_rfl) (by kernel_rfl) ⟨oc_pl (fun _ => rfl), trivial⟩ (by kernel_rfl) rfl (by simp only [renS, Ob.ren, pl_ren, rws_ren_doms, rws_ren_ints, rws_ren_cels, rwI_ren, rwD_ren]; first | done | rfl) (by simp only [renS, Ob.ren, pl_ren, rws_ren_doms, rws_ren_ints, rws_ren_cels, rwI_ren, rwD_ren]; first | done | rfl) rfl rfl) (by kernel_rfl) ⟨oc_pl (fun _ => rfl), trivial⟩ (by kernel_rfl) (ArgOs.cons (ArgO.slot 62 (.a (.sl 16 0 ((endT l false).length)))) (ArgOs.cons ((ArgO.v vt)) (ArgOs.nil))))
      refine za (nl (sq (rg (zk (nl (sq (rg (zm (zm ?_)))))))))
      refine z ?_ (h := fun ν => acts_call1 ν (laws_heldDominoS_fn (mkDs 1 (endT l false).length) 1 (by omega) (by omega) (by (rw [mkDs_len]; done))) (ac (argv_ownD (L := (mkDs 1 (endT l false).length)) (by rw [mkDs_len])) (ac (ArgV.v vt) an)) rv)
      refine za (nl (sq (sq (rg (zm ?_)))))
      refine z ?_ (h := fun ν => acts_bin ν vt vc (r_lss rfl))
      refine nl ?_
      refine wi (fun c8 => ?_) (fun c8 => ?_)
      ·skip
       have c8P := of_decide_eq_true c8
       refine sq (rg (zk (nl (wp_ret' ?_))))
       exact VRes.tmp _ _ _ (by exact rfl) (bval (congrArg Value.bool (by (exfalso; omega))))
      ·skip
       have c8P := of_decide_eq_false c8
       refine sk (sq (sq (rg (zm (zm ?_)))))
       refine z ?_ (h := fun ν => acts_bin ν vt vt (r_neq rfl))
       refine nl ?_
       refine wi (fun c9 => ?_) (fun c9 => ?_)
       ·skip
        have c9P := of_decide_eq_true c9
        refine sq (rg (zk (nl (wp_ret' ?_))))
        exact VRes.tmp _ _ _ (by exact rfl) (bval (congrArg Value.bool (by (exfalso; omega))))
       ·skip
        have c9P := of_decide_eq_false c9
        refine sk (sq (rg ?_))
        refine z ?_ (h := fun ν => acts_load_owns (xs := [(.slv l.length 1 (isl l) : A)]) ν qE10_ti_24 rfl (by decide) rfl)
        refine z ?_ (h := fun ν => acts_call1 ν (laws_toRegion_fn l (by omega)) (ac (ArgV.regv _ _ 1 _) an) (ResV.reg _ _ _ _ 75))
        refine z ?_ (h := fun ν => acts_callO (d := 76) (f := 16) (os := [(.o 75, some (.o ⟨3, 1, true, pl (isl l)⟩))]) (os' := [(.o 75, some (.o ⟨3, 1, true, pl (isl l)⟩)), (.o 22, some (.o ⟨57, 3, true, pl (dsl (endT l false))⟩))]) (r := V.tup [.a (.sl 22 0 ((endT l false).length)), .a (.val (.bool (enOk l)))]) (bs := [.agg [(.sl 75 0 l.length : A)]]) (keep := [75]) (new := [22]) (dead := []) ν (FnO.ren' (impl_LowestTiling_fn l (by omega)) (subst1 [(800, 75), (900, 22)]) rfl rfl (by kernel_rfl) (by kernel_rfl) ⟨oc_pl (fun _ => rfl), oc_pl (fun _ => rfl), trivial⟩ (by kernel_rfl) rfl (by simp only [renS, Ob.ren, pl_ren, rws_ren_doms, rws_ren_ints, rws_ren_cels, rwI_ren, rwD_ren]; first | done | rfl) (by simp only [renS, Ob.ren, pl_ren, rws_ren_doms, rws_ren_ints, rws_ren_cels, rwI_ren, rwD_ren]; first | done | rfl) rfl rfl) (by kernel_rfl) ⟨oc_pl (fun _ => rfl), oc_pl (fun _ => rfl), trivial⟩ (by kernel_rfl) (ArgOs.cons (ArgO.slot 75 (.agg [(.sl 75 0 l.length : A)])) (ArgOs.nil)))
        refine zm ?_
        refine z ?_ (h := fun ν => acts_extract ν (by exact rfl))
        refine z ?_ (h := fun ν => acts_extract ν (by exact rfl))
        refine za (za (nl (sq (sq (rg (zm (zm ?_)))))))
        refine z ?_ (h := fun ν => acts_call1 ν (laws_eqDominoS_fn (endT l false) (endT l false) (by omega) (by omega)) (ac (argv_own (by exact dsl_len _)) (ac (ArgV.slv _ _ _ _) an)) (resval (congrArg Value.bool c2)))
        refine z ?_ (h := fun ν => acts_un ν vt (r_not (c := false) rfl))
        refine zm ?_
        refine zg ?_ (h := fun ν => step_on rfl rfl (mt ν))
        refine zg ?_ (h := fun ν => step_on rfl rfl (mt ν))
        refine zg ?_ (h := fun ν => step_on rfl rfl (acts_bin ν vt vt (r_bneq (c := false) qE10_un_4 c3)))
        refine z ?_ (h := fun ν => acts_pick_f ν vt xt)
        refine nl (wf (sk (sq (rg (zk (nl (sq (rg (zm (zm ?_))))))))))
        refine z ?_ (h := fun ν => acts_call1 ν (laws_heldDominoS_fn (mkDs 1 (endT l false).length) 1 (by omega) (by omega) (by (rw [mkDs_len]; done))) (ac (argv_ownD (L := (mkDs 1 (endT l false).length)) (by rw [mkDs_len])) (ac (ArgV.v vt) an)) rv)
        refine za (nl (sq (sq (rg (zm ?_)))))
        refine z ?_ (h := fun ν => acts_bin ν vt vc (r_lss (c := false) c8))
        refine nl (wf (sk (sq (sq (rg (zm (zm ?_)))))))
        refine z ?_ (h := fun ν => acts_bin ν vt vt (r_neq (c := false) c9))
        refine nl (wf (sk (sq (rg (zk (nl (wp_ret' ?_)))))))
        exact VRes.tmp _ _ _ (by exact rfl) (BRes.val _)
  ·skip
   refine rg (zm (zm ?_))
   refine z ?_ (h := fun ν => acts_call1 ν (laws_eqDominoS_fn (endT l false) (endT l false) (by omega) (by omega)) (ac (argv_own (by exact dsl_len _)) (ac (ArgV.slv _ _ _ _) an)) (resval (congrArg Value.bool c2)))
   refine z ?_ (h := fun ν => acts_un ν vt (r_not (c := true) rfl))
   refine zm (zo (zo (zo ?_)))
   refine z ?_ (h := fun ν => acts_pick_t ν vt xc)
   refine nl (wt (sq (rg (zk (nl (wp_ret' ?_))))))
   exact VRes.tmp _ _ _ (by exact rfl) (bval (congrArg Value.bool (by (exfalso; simp_all; done))))
end Cl
end Go.Proofs.Ytonlghbbdcddoaa
