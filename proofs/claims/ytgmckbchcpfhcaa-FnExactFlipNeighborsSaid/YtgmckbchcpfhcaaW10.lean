/- Walks over clean states, printed by wg.py. No statement is proved here. -/
import Derived.Test.YtgmckbchcpfhcaaEA
import Derived.Test.YtgmckbchcpfhcaaClB
namespace Go.Proofs.Ytgmckbchcpfhcaa
namespace Cl
open Go.ChangeShapes Go.WideShapes Go.ChangeAt Go.RowKit
set_option maxRecDepth 20000

theorem qW10_ti_24 : TI Try.prog 24 true 1 := ⟨⟨_, Try.underlying24, rfl⟩, by kernel_rfl⟩
theorem qW10_ti_28 : TI Try.prog 28 true 1 := ⟨⟨_, Try.underlying28, rfl⟩, by kernel_rfl⟩
theorem qW10_zi_28 : ZI Try.prog 28 (.agg #[.slice none 0 0]) 1 24 := by unfold ZI; kernel_rfl
set_option maxHeartbeats 4000000 in
set_option maxRecDepth 100000 in
theorem laws_FnExactFlipNeighbors_fn (l : List Int) (q : List Dom) (hl : l.length ≤ 9223372036854775807) (hq : q.length ≤ 9223372036854775807) : Fn Try.prog 5 [.agg [(.slv l.length 1 (isl l) : A)], .a (.slv q.length 3 (dsl q))] [.val (.bool true)] := by
 have hfn := fnR_len l q
 have hcl : (cntI 1 (fnR l q).length).length = (fnR l q).length := cntI_len _ _
 have hch : cntI 1 (fnR l q).length = cntI 1 (cntI 1 (fnR l q).length).length := by rw [cntI_len]
 have hml : (mkDs (1 + (l.length : Int)) q.length).length = q.length := mkDs_len _ _
 refine fn_intro (N := 92) Try.func5 rfl (by kernel_rfl) rfl (Nat.le_of_ble_eq_true rfl) [2, 7, 16, 21, 25, 27, 28, 30, 32, 35, 38, 42, 43, 47, 48, 52, 55, 61, 66, 69, 76, 78, 79, 82, 86] (ret1 rfl) (fun W => ?_)
 show Wp _ _ _ [kV 0 (V.b (.agg [(.slv l.length 1 (isl l) : A)])), kV 1 (V.b (.a (.slv q.length 3 (dsl q)))), kF 2, kF 7, kF 16, kF 21, kF 25, kF 27, kF 28, kF 30, kF 32, kF 35, kF 38, kF 42, kF 43, kF 47, kF 48, kF 52, kF 55, kF 61, kF 66, kF 69, kF 76, kF 78, kF 79, kF 82, kF 86]
 refine sq (rg ?_)
 refine z ?_ (h := fun ν => acts_box (h := 2) ν xt (by exact ob1 rfl))
 refine zk (nl (sq (rg (zk (nl (sq (rg ?_)))))))
 refine z ?_ (h := fun ν => acts_load_owns (xs := [(.slv l.length 1 (isl l) : A)]) ν qW10_ti_24 rfl (by decide) rfl)
 refine zm ?_
 refine z ?_ (h := fun ν => acts_call1 ν (laws_szRegion_fn l 1048576 (by first | omega | assumption | (rw [hcl]; omega)) (by first | omega | assumption | (rw [hcl]; omega))) (ac (ArgV.regv _ _ 1 _) (ac (ArgV.v vt) an)) rv)
 refine za (nl (sq (sq (rg (zm ?_)))))
 refine z ?_ (h := fun ν => acts_bin ν vt vc (r_lss rfl))
 refine nl ?_
 refine wi (fun c1 => ?_) (fun c1 => ?_)
 ·skip
  have c1P := of_decide_eq_true c1
  refine sq (rg (zk (nl (wp_ret' ?_))))
  exact VRes.tmp _ _ _ (by exact rfl) (BRes.val _)
 ·skip
  have c1P := of_decide_eq_false c1
  have hsc := szS_cases 1048576 l.length
  have hA : l.length ≤ 4194304 := by omega
  refine sk (sq (rg (zm (zm ?_))))
  refine z ?_ (h := fun ν => acts_call1 ν (laws_szDominoS_fn q (szS 1048576 l.length) (by first | omega | assumption | (rw [hcl]; omega)) (by first | omega | assumption | (rw [hcl]; omega))) (ac (ArgV.slv _ _ _ _) (ac (ArgV.v vt) an)) rv)
  refine za (nl (sq (sq (rg (zm ?_)))))
  refine z ?_ (h := fun ν => acts_bin ν vt vc (r_lss rfl))
  refine nl ?_
  refine wi (fun c2 => ?_) (fun c2 => ?_)
  ·skip
   have c2P := of_decide_eq_true c2
   refine sq (rg (zk (nl (wp_ret' ?_))))
   exact VRes.tmp _ _ _ (by exact rfl) (BRes.val _)
  ·skip
   have c2P := of_decide_eq_false c2
   have hsc2 := szS_cases (szS 1048576 l.length) q.length
   have hB : q.length ≤ 1048576 := by omega
   have hA1 : l.length ≤ 1048576 := by omega
   refine sk (sq (rg ?_))
   refine z ?_ (h := fun ν => acts_load_owns (xs := [(.slv l.length 1 (isl l) : A)]) ν qW10_ti_24 rfl (by decide) rfl)
   refine z ?_ (h := fun ν => acts_call1 ν (laws_toRegion_fn l (by first | omega | assumption | (rw [hcl]; omega))) (ac (ArgV.regv _ _ 1 _) an) (ResV.reg _ _ _ _ 25))
   refine zm ?_
   refine z ?_ (h := fun ν => acts_call1 ν (laws_toDominoS_fn q (by first | omega | assumption | (rw [hcl]; omega))) (ac (ArgV.slv _ _ _ _) an) (ResV.row _ _ _ _ 27))
   refine z ?_ (h := fun ν => acts_callO (d := 28) (f := 20) (os := [(.o 25, some (.o ⟨3, 1, true, pl (isl l)⟩)), (.o 27, some (.o ⟨57, 3, true, pl (dsl q)⟩))]) (os' := [(.o 25, some (.o ⟨3, 1, true, pl (isl l)⟩)), (.o 27, some (.o ⟨57, 3, true, pl (dsl q)⟩)), (.o 7, some (.o ⟨3, 1, true, pl (isl (fnR l q))⟩))]) (r := V.b (.a (.sl 7 0 ((fnR l q).length)))) (bs := [.agg [(.sl 25 0 l.length : A)], .a (.sl 27 0 q.length)]) (keep := [25, 27]) (new := [7]) (dead := []) ν (FnO.ren' (spec_FlipNeighbors_fn l q (by first | omega | assumption | (rw [hcl]; omega)) (by first | omega | assumption | (rw [hcl]; omega))) (subst1 [(800, 25), (801, 27), (900, 7)]) rfl rfl (by kernel_rfl) (by kernel_rfl) ⟨oc_pl (fun _ => rfl), oc_pl (fun _ => rfl), oc_pl (fun _ => rfl), trivial⟩ (by kernel_rfl) rfl (by simp only [renS, Ob.ren, pl_ren, rws_ren_doms, rws_ren_ints, rws_ren_cels, rwI_ren, rwD_ren]; first | done | rfl) (by simp only [renS, Ob.ren, pl_ren, rws_ren_doms, rws_ren_ints, rws_ren_cels, rwI_ren, rwD_ren]; first | done | rfl) rfl rfl) (by kernel_rfl) ⟨oc_pl (fun _ => rfl), oc_pl (fun _ => rfl), oc_pl (fun _ => rfl), trivial⟩ (by kernel_rfl) (ArgOs.cons (ArgO.slot 25 (.agg [(.sl 25 0 l.length : A)])) (ArgOs.cons (ArgO.slot 27 (.a (.sl 27 0 q.length))) (ArgOs.nil))))
   refine za (nl (sq (rg ?_)))
   refine z ?_ (h := fun ν => acts_load_owns (xs := [(.slv l.length 1 (isl l) : A)]) ν qW10_ti_24 rfl (by decide) rfl)
   refine z ?_ (h := fun ν => acts_call1 ν (laws_toRegion_fn l (by first | omega | assumption | (rw [hcl]; omega))) (ac (ArgV.regv _ _ 1 _) an) (ResV.reg _ _ _ _ 30))
   refine z ?_ (h := fun ν => acts_alloc' (h := 16) (cap := 1) (s := 1) (cells := [(.val (.slice none 0 0) : A)]) ν qW10_zi_28 rfl rfl (by decide))
   refine z ?_ (h := fun _ => acts_store (cells := [(.sl 30 0 l.length : A)]) qW10_ti_28 xt (by exact rfl) (by decide) (by exact ob1 rfl) (by exact Nat.le_of_ble_eq_true rfl) (by exact rfl))
   refine nl (sq (rg (zm ?_)))
   refine z ?_ (h := fun ν => acts_call1 ν (laws_toDominoS_fn q (by first | omega | assumption | (rw [hcl]; omega))) (ac (ArgV.slv _ _ _ _) an) (ResV.row _ _ _ _ 32))
   refine za (nl (sq (rg ?_)))
   refine z ?_ (h := fun ν => acts_load_owns (xs := [(.sl 30 0 l.length : A)]) ν qW10_ti_28 rfl (by decide) rfl)
   refine zm ?_
   refine z ?_ (h := fun ν => acts_callO (d := 35) (f := 21) (os := [(.o 30, some (.o ⟨3, 1, true, pl (isl l)⟩)), (.o 32, some (.o ⟨57, 3, true, pl (dsl q)⟩))]) (os' := [(.o 30, some (.o ⟨3, 1, true, pl (isl l)⟩)), (.o 32, some (.o ⟨57, 3, true, pl (dsl q)⟩)), (.o 21, some (.o ⟨3, 1, true, pl (isl (fnR l q))⟩))]) (r := V.b (.a (.sl 21 0 ((fnR l q).length)))) (bs := [.agg [(.sl 30 0 l.length : A)], .a (.sl 32 0 q.length)]) (keep := [30, 32]) (new := [21]) (dead := []) ν (FnO.ren' (impl_FlipNeighbors_fn l q (by first | omega | assumption | (rw [hcl]; omega)) (by first | omega | assumption | (rw [hcl]; omega))) (subst1 [(800, 30), (801, 32), (900, 21)]) rfl rfl (by kernel_rfl) (by kernel_rfl) ⟨oc_pl (fun _ => rfl), oc_pl (fun _ => rfl), oc_pl (fun _ => rfl), trivial⟩ (by kernel_rfl) rfl (by simp only [renS, Ob.ren, pl_ren, rws_ren_doms, rws_ren_ints, rws_ren_cels, rwI_ren, rwD_ren]; first | done | rfl) (by simp only [renS, Ob.ren, pl_ren, rws_ren_doms, rws_ren_ints, rws_ren_cels, rwI_ren, rwD_ren]; first | done | rfl) rfl rfl) (by kernel_rfl) ⟨oc_pl (fun _ => rfl), oc_pl (fun _ => rfl), oc_pl (fun _ => rfl), trivial⟩ (by kernel_rfl) (ArgOs.cons (ArgO.slot 33 (.agg [(.sl 30 0 l.length : A)])) (ArgOs.cons (ArgO.slot 34 (.a (.sl 32 0 q.length))) (ArgOs.nil))))
   refine za (nl (sq (sq (rg (zm (zm ?_))))))
   refine z ?_ (h := fun ν => acts_call1 ν (laws_eqIntS_fn (fnR l q) (fnR l q) (by first | omega | assumption | (rw [hcl]; omega)) (by first | omega | assumption | (rw [hcl]; omega))) (ac (argv_own (by first | exact isl_len _ | (simp [isl_len, bsl_len, dsl_len, csl_len]; done) | (simp [isl_len, bsl_len, dsl_len, csl_len]; omega))) (ac (argv_own (by first | exact isl_len _ | (simp [isl_len, bsl_len, dsl_len, csl_len]; done) | (simp [isl_len, bsl_len, dsl_len, csl_len]; omega))) an)) rv)
   refine z ?_ (h := fun ν => acts_un ν vt (r_not rfl))
   refine nl ?_
   refine wi (b := (!(decide ((fnR l q) = (fnR l q))))) (fun c3 => ?_) (fun c3 => ?_)
   ·skip
    have c4 : decide ((fnR l q) = (fnR l q)) = false := by first | (rw [← Bool.not_eq_true']; exact c3) | simpa using c3
    have c4P := of_decide_eq_false c4
    refine sq (rg (zk (nl (wp_ret' ?_))))
    exact VRes.tmp _ _ _ (by exact rfl) (bval (congrArg Value.bool (by first | rfl | exact absurd (Eq.refl q) (by assumption) | exact absurd (Eq.refl l) (by assumption) | exact absurd (Eq.refl (fnR l q)) (by assumption) | (exfalso; omega))))
   ·skip
    have c5 : decide ((fnR l q) = (fnR l q)) = true := by first | (rw [← Bool.not_eq_false']; exact c3) | simpa using c3
    have c5P := of_decide_eq_true c5
    refine sk (sq (sq (wp_dr ?_)))
    refine zd ?_ (h := fun ν => acts_load_owns (xs := [(.sl 30 0 l.length : A)]) ν qW10_ti_28 rfl (by decide) rfl)
    refine zd ?_ (h := fun ν => acts_load_owns (xs := [(.slv l.length 1 (isl l) : A)]) ν qW10_ti_24 rfl (by decide) rfl)
    refine zd ?_ (h := fun ν => acts_call1 ν (laws_toRegion_fn l (by first | omega | assumption | (rw [hcl]; omega))) (ac (ArgV.regv _ _ 1 _) an) (ResV.reg _ _ _ _ 42))
    refine zd ?_ (h := fun ν => acts_call1 ν (laws_eqRegion_fn l l (by first | omega | assumption | (rw [hcl]; omega)) (by first | omega | assumption | (rw [hcl]; omega))) (ac (ArgV.reg _ _ _ (s := 1) (by simp [isl]) (by first | exact List.take_of_length_le (by simp [isl]) | (simp [isl]; done))) (ac (ArgV.reg _ _ _ (s := 1) (by simp [isl]) (by first | exact List.take_of_length_le (by simp [isl]) | (simp [isl]; done))) an)) rv)
    refine zd ?_ (h := fun ν => acts_un ν vt (r_not rfl))
    refine dw_nil ?_
    refine wi (b := (!(decide (l = l)))) (fun c6 => ?_) (fun c6 => ?_)
    ·skip
     have c7 : decide (l = l) = false := by first | (rw [← Bool.not_eq_true']; exact c6) | simpa using c6
     have c7P := of_decide_eq_false c7
     refine sq (rg (zk (nl (wp_ret' ?_))))
     exact VRes.tmp _ _ _ (by exact rfl) (bval (congrArg Value.bool (by first | rfl | exact absurd (Eq.refl q) (by assumption) | exact absurd (Eq.refl l) (by assumption) | exact absurd (Eq.refl (fnR l q)) (by assumption) | (exfalso; omega))))
    ·skip
     have c8 : decide (l = l) = true := by first | (rw [← Bool.not_eq_false']; exact c6) | simpa using c6
     have c8P := of_decide_eq_true c8
     refine sk (sq (sq (rg (zm (zm ?_)))))
     refine z ?_ (h := fun ν => acts_call1 ν (laws_toDominoS_fn q (by first | omega | assumption | (rw [hcl]; omega))) (ac (ArgV.slv _ _ _ _) an) (ResV.row _ _ _ _ 47))
     refine z ?_ (h := fun ν => acts_call1 ν (laws_eqDominoS_fn q q (by first | omega | assumption | (rw [hcl]; omega)) (by first | omega | assumption | (rw [hcl]; omega))) (ac (argv_own (by first | exact dsl_len _ | (simp [isl_len, bsl_len, dsl_len, csl_len]; done) | (simp [isl_len, bsl_len, dsl_len, csl_len]; omega))) (ac (argv_own (by first | exact dsl_len _ | (simp [isl_len, bsl_len, dsl_len, csl_len]; done) | (simp [isl_len, bsl_len, dsl_len, csl_len]; omega))) an)) rv)
     refine z ?_ (h := fun ν => acts_un ν vt (r_not rfl))
     refine nl ?_
     refine wi (b := (!(decide (q = q)))) (fun c9 => ?_) (fun c9 => ?_)
     ·skip
      have c10 : decide (q = q) = false := by first | (rw [← Bool.not_eq_true']; exact c9) | simpa using c9
      have c10P := of_decide_eq_false c10
      refine sq (rg (zk (nl (wp_ret' ?_))))
      exact VRes.tmp _ _ _ (by exact rfl) (bval (congrArg Value.bool (by first | rfl | exact absurd (Eq.refl q) (by assumption) | exact absurd (Eq.refl l) (by assumption) | exact absurd (Eq.refl (fnR l q)) (by assumption) | (exfalso; omega))))
     ·skip
      have c11 : decide (q = q) = true := by first | (rw [← Bool.not_eq_false']; exact c9) | simpa using c9
      have c11P := of_decide_eq_true c11
      refine sk (sq (rg (zk (nl (sq (rg ?_))))))
      refine z ?_ (h := fun ν => acts_load_owns (xs := [(.sl 30 0 l.length : A)]) ν qW10_ti_28 rfl (by decide) rfl)
      refine zm ?_
      refine z ?_ (h := fun ν => acts_callO (d := 52) (f := 12) (os := [(.o 30, some (.o ⟨3, 1, true, pl (isl l)⟩))]) (os' := [(.o 30, some (.o ⟨3, 1, true, pl (isl (cntI 1 l.length))⟩))]) (r := V.v (.int .i64 (1 + (l.length : Int)))) (bs := [.agg [(.sl 30 0 l.length : A)], .a (.val (.int .i64 1))]) (keep := [30]) (new := []) (dead := []) ν (FnO.ren' (laws_markRegion_fn l 1 (by first | omega | assumption | (rw [hcl]; omega)) (by first | omega | assumption | (rw [hcl]; omega))) (subst1 [(1, 30)]) rfl rfl (by kernel_rfl) (by kernel_rfl) ⟨oc_pl (fun _ => rfl), trivial⟩ (by kernel_rfl) rfl (by simp only [renS, Ob.ren, pl_ren, rws_ren_doms, rws_ren_ints, rws_ren_cels, rwI_ren, rwD_ren]; first | done | rfl) (by simp only [renS, Ob.ren, pl_ren, rws_ren_doms, rws_ren_ints, rws_ren_cels, rwI_ren, rwD_ren]; first | done | rfl) rfl rfl) (by kernel_rfl) ⟨oc_pl (fun _ => rfl), trivial⟩ (by kernel_rfl) (ArgOs.cons (ArgO.slot 50 (.agg [(.sl 30 0 l.length : A)])) (ArgOs.cons ((ArgO.v vt)) (ArgOs.nil))))
      refine za (nl (sq (rg (zm (zm ?_)))))
      refine z ?_ (h := fun ν => acts_callO (d := 55) (f := 23) (os := [(.o 32, some (.o ⟨57, 3, true, pl (dsl q)⟩))]) (os' := [(.o 32, some (.o ⟨57, 3, true, pl (dsl (mkDs (1 + (l.length : Int)) q.length))⟩))]) (r := V.v (.int .i64 ((1 + (l.length : Int)) + 3 * (q.length : Int)))) (bs := [.a (.sl 32 0 q.length), .a (.val (.int .i64 (1 + (l.length : Int))))]) (keep := [32]) (new := []) (dead := []) ν (FnO.ren' (laws_markDominoS_fn q (1 + (l.length : Int)) (by first | omega | assumption | (rw [hcl]; omega)) (by first | omega | assumption | (rw [hcl]; omega))) (subst1 [(1, 32)]) rfl rfl (by kernel_rfl) (by kernel_rfl) ⟨oc_pl (fun _ => rfl), trivial⟩ (by kernel_rfl) rfl (by simp only [renS, Ob.ren, pl_ren, rws_ren_doms, rws_ren_ints, rws_ren_cels, rwI_ren, rwD_ren]; first | done | rfl) (by simp only [renS, Ob.ren, pl_ren, rws_ren_doms, rws_ren_ints, rws_ren_cels, rwI_ren, rwD_ren]; first | done | rfl) rfl rfl) (by kernel_rfl) ⟨oc_pl (fun _ => rfl), trivial⟩ (by kernel_rfl) (ArgOs.cons (ArgO.slot 53 (.a (.sl 32 0 q.length))) (ArgOs.cons ((ArgO.v vt)) (ArgOs.nil))))
      refine za (nl (sq (sq ?_)))
      rcases Bool.eq_false_or_eq_true (decide (((1 + (l.length : Int)) + 3 * (q.length : Int)) < 0)) with c12 | c12
      ·skip
       have c12P := of_decide_eq_true c12
       refine rg (zm ?_)
       refine z ?_ (h := fun ν => acts_bin ν vt vc (r_lss (c := true) c12))
       refine zm (zo (zo (zo (zo ?_))))
       refine z ?_ (h := fun ν => acts_pick_t ν vt xc)
       refine nl (wt (sq (rg (zk (nl (wp_ret' ?_))))))
       exact VRes.tmp _ _ _ (by exact rfl) (bval (congrArg Value.bool (by first | rfl | exact absurd (Eq.refl q) (by assumption) | exact absurd (Eq.refl l) (by assumption) | exact absurd (Eq.refl (fnR l q)) (by assumption) | (exfalso; omega))))
      ·skip
       have c12P := of_decide_eq_false c12
       refine rg (zm ?_)
       refine z ?_ (h := fun ν => acts_bin ν vt vc (r_lss (c := false) c12))
       refine zm ?_
       refine zg ?_ (h := fun ν => step_on rfl rfl (mt ν))
       refine zg ?_ (h := fun ν => step_on rfl rfl (mt ν))
       refine zg ?_ (h := fun ν => step_on rfl rfl (acts_call1 ν (laws_eqIntS_fn (fnR l q) (fnR l q) (by first | omega | assumption | (rw [hcl]; omega)) (by first | omega | assumption | (rw [hcl]; omega))) (ac (argv_own (by first | exact isl_len _ | (simp [isl_len, bsl_len, dsl_len, csl_len]; done) | (simp [isl_len, bsl_len, dsl_len, csl_len]; omega))) (ac (argv_own (by first | exact isl_len _ | (simp [isl_len, bsl_len, dsl_len, csl_len]; done) | (simp [isl_len, bsl_len, dsl_len, csl_len]; omega))) an)) (resval (congrArg Value.bool c5))))
       refine zg ?_ (h := fun ν => step_on rfl rfl (acts_un ν vt (r_not (c := false) rfl)))
       refine z ?_ (h := fun ν => acts_pick_f ν vt xt)
       refine nl (wf (sk (sq (rg (zk (nl (sq (rg (zm (zm ?_))))))))))
       refine z ?_ (h := fun ν => acts_callO (d := 66) (f := 24) (os := [(.o 21, some (.o ⟨3, 1, true, pl (isl (fnR l q))⟩))]) (os' := [(.o 21, some (.o ⟨3, 1, true, pl (isl (cntI 1 (fnR l q).length))⟩))]) (r := V.v (.int .i64 (1 + ((fnR l q).length : Int)))) (bs := [.a (.sl 21 0 ((fnR l q).length)), .a (.val (.int .i64 1))]) (keep := [21]) (new := []) (dead := []) ν (FnO.ren' (laws_markIntS_fn (fnR l q) 1 (by first | omega | assumption | (rw [hcl]; omega)) (by first | omega | assumption | (rw [hcl]; omega))) (subst1 [(1, 21)]) rfl rfl (by kernel_rfl) (by kernel_rfl) ⟨oc_pl (fun _ => rfl), trivial⟩ (by kernel_rfl) rfl (by simp only [renS, Ob.ren, pl_ren, rws_ren_doms, rws_ren_ints, rws_ren_cels, rwI_ren, rwD_ren]; first | done | rfl) (by simp only [renS, Ob.ren, pl_ren, rws_ren_doms, rws_ren_ints, rws_ren_cels, rwI_ren, rwD_ren]; first | done | rfl) rfl rfl) (by kernel_rfl) ⟨oc_pl (fun _ => rfl), trivial⟩ (by kernel_rfl) (ArgOs.cons (ArgO.slot 64 (.a (.sl 21 0 ((fnR l q).length)))) (ArgOs.cons ((ArgO.v vt)) (ArgOs.nil))))
       refine za (nl (sq (rg (zk (nl (sq (rg (zm (zm ?_)))))))))
       refine z ?_ (h := fun ν => acts_call1 ν (laws_heldIntS_fn (cntI 1 (fnR l q).length) 1 (by first | omega | assumption | (rw [hcl]; omega)) (by first | omega | assumption | (rw [hcl]; omega)) (by first | omega | assumption | (rw [hcl]; omega))) (ac (argv_ownI (L := (cntI 1 (fnR l q).length)) (by rw [cntI_len])) (ac (ArgV.v vt) an)) rv)
       refine za (nl (sq (sq (rg (zm ?_)))))
       refine z ?_ (h := fun ν => acts_bin ν vt vc (r_lss rfl))
       refine nl ?_
       refine wi (fun c13 => ?_) (fun c13 => ?_)
       ·skip
        have c13P := of_decide_eq_true c13
        refine sq (rg (zk (nl (wp_ret' ?_))))
        exact VRes.tmp _ _ _ (by exact rfl) (bval (congrArg Value.bool (by first | rfl | exact absurd (Eq.refl q) (by assumption) | exact absurd (Eq.refl l) (by assumption) | exact absurd (Eq.refl (fnR l q)) (by assumption) | (exfalso; omega))))
       ·skip
        have c13P := of_decide_eq_false c13
        refine sk (sq (sq (rg (zm (zm ?_)))))
        refine z ?_ (h := fun ν => acts_bin ν vt vt (r_neq rfl))
        refine nl ?_
        refine wi (fun c14 => ?_) (fun c14 => ?_)
        ·skip
         have c14P := of_decide_eq_true c14
         refine sq (rg (zk (nl (wp_ret' ?_))))
         exact VRes.tmp _ _ _ (by exact rfl) (bval (congrArg Value.bool (by first | rfl | exact absurd (Eq.refl q) (by assumption) | exact absurd (Eq.refl l) (by assumption) | exact absurd (Eq.refl (fnR l q)) (by assumption) | (exfalso; omega))))
        ·skip
         have c14P := of_decide_eq_false c14
         refine sk (sq (rg ?_))
         refine z ?_ (h := fun ν => acts_load_owns (xs := [(.slv l.length 1 (isl l) : A)]) ν qW10_ti_24 rfl (by decide) rfl)
         refine z ?_ (h := fun ν => acts_call1 ν (laws_toRegion_fn l (by first | omega | assumption | (rw [hcl]; omega))) (ac (ArgV.regv _ _ 1 _) an) (ResV.reg _ _ _ _ 76))
         refine zm ?_
         refine z ?_ (h := fun ν => acts_call1 ν (laws_toDominoS_fn q (by first | omega | assumption | (rw [hcl]; omega))) (ac (ArgV.slv _ _ _ _) an) (ResV.row _ _ _ _ 78))
         refine z ?_ (h := fun ν => acts_callO (d := 79) (f := 21) (os := [(.o 76, some (.o ⟨3, 1, true, pl (isl l)⟩)), (.o 78, some (.o ⟨57, 3, true, pl (dsl q)⟩))]) (os' := [(.o 76, some (.o ⟨3, 1, true, pl (isl l)⟩)), (.o 78, some (.o ⟨57, 3, true, pl (dsl q)⟩)), (.o 28, some (.o ⟨3, 1, true, pl (isl (fnR l q))⟩))]) (r := V.b (.a (.sl 28 0 ((fnR l q).length)))) (bs := [.agg [(.sl 76 0 l.length : A)], .a (.sl 78 0 q.length)]) (keep := [76, 78]) (new := [28]) (dead := []) ν (FnO.ren' (impl_FlipNeighbors_fn l q (by first | omega | assumption | (rw [hcl]; omega)) (by first | omega | assumption | (rw [hcl]; omega))) (subst1 [(800, 76), (801, 78), (900, 28)]) rfl rfl (by kernel_rfl) (by kernel_rfl) ⟨oc_pl (fun _ => rfl), oc_pl (fun _ => rfl), oc_pl (fun _ => rfl), trivial⟩ (by kernel_rfl) rfl (by simp only [renS, Ob.ren, pl_ren, rws_ren_doms, rws_ren_ints, rws_ren_cels, rwI_ren, rwD_ren]; first | done | rfl) (by simp only [renS, Ob.ren, pl_ren, rws_ren_doms, rws_ren_ints, rws_ren_cels, rwI_ren, rwD_ren]; first | done | rfl) rfl rfl) (by kernel_rfl) ⟨oc_pl (fun _ => rfl), oc_pl (fun _ => rfl), oc_pl (fun _ => rfl), trivial⟩ (by kernel_rfl) (ArgOs.cons (ArgO.slot 76 (.agg [(.sl 76 0 l.length : A)])) (ArgOs.cons (ArgO.slot 78 (.a (.sl 78 0 q.length))) (ArgOs.nil))))
         refine za (nl (sq (sq (rg (zm (zm ?_))))))
         refine z ?_ (h := fun ν => acts_call1 ν (laws_eqIntS_fn (fnR l q) (fnR l q) (by first | omega | assumption | (rw [hcl]; omega)) (by first | omega | assumption | (rw [hcl]; omega))) (ac (argv_own (by first | exact isl_len _ | (simp [isl_len, bsl_len, dsl_len, csl_len]; done) | (simp [isl_len, bsl_len, dsl_len, csl_len]; omega))) (ac (argv_own (by first | exact isl_len _ | (simp [isl_len, bsl_len, dsl_len, csl_len]; done) | (simp [isl_len, bsl_len, dsl_len, csl_len]; omega))) an)) (resval (congrArg Value.bool c5)))
         refine z ?_ (h := fun ν => acts_un ν vt (r_not (c := false) rfl))
         refine nl (wf (sk (sq (rg (zk (nl (sq (rg (zm (zm ?_))))))))))
         refine z ?_ (h := fun ν => acts_call1 ν (laws_heldIntS_fn (cntI 1 (fnR l q).length) 1 (by first | omega | assumption | (rw [hcl]; omega)) (by first | omega | assumption | (rw [hcl]; omega)) (by first | omega | assumption | (rw [hcl]; omega))) (ac (argv_ownI (L := (cntI 1 (fnR l q).length)) (by rw [cntI_len])) (ac (ArgV.v vt) an)) rv)
         refine za (nl (sq (sq (rg (zm ?_)))))
         refine z ?_ (h := fun ν => acts_bin ν vt vc (r_lss (c := false) c13))
         refine nl (wf (sk (sq (sq (rg (zm (zm ?_)))))))
         refine z ?_ (h := fun ν => acts_bin ν vt vt (r_neq (c := false) c14))
         refine nl (wf (sk (sq (rg (zk (nl (wp_ret' ?_)))))))
         exact VRes.tmp _ _ _ (by exact rfl) (BRes.val _)
end Cl
end Go.Proofs.Ytgmckbchcpfhcaa
