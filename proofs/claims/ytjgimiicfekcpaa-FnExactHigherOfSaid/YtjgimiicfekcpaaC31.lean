/- Walks over clean states, printed by wg.py. No statement is proved here. -/
import Derived.Test.YtjgimiicfekcpaaC30
import Derived.Test.YtjgimiicfekcpaaCl19
namespace Go.Proofs.Ytjgimiicfekcpaa
namespace Cl
open Go.ChangeShapes Go.WideShapes Go.ChangeAt Go.RowKit

noncomputable def okH (l : List Int) (ds : List Dom) : Bool := simB l && isTil l ds
theorem hts_cases (l : List Int) (ds : List Dom) : ((hts l ds).length = 81 ∧ okH l ds = true) ∨ ((hts l ds).length = 0 ∧ okH l ds = false) := by
  unfold okH
  rcases Bool.eq_false_or_eq_true (simB l && isTil l ds) with h | h
  · left; rw [hts_yes h, htsF_len]; exact ⟨rfl, h⟩
  · right; rw [hts_no h]; exact ⟨rfl, h⟩
theorem okH_len {l : List Int} {ds : List Dom} (h : okH l ds = true) : (hts l ds).length = 81 := by
  rcases hts_cases l ds with h1 | h1
  · exact h1.1
  · rw [h] at h1; simp at h1
theorem len_okH {l : List Int} {ds : List Dom} (h : 0 < (hts l ds).length) : okH l ds = true ∧ (hts l ds).length = 81 := by
  rcases hts_cases l ds with h1 | h1
  · exact ⟨h1.2, h1.1⟩
  · omega
theorem nlen_okH {l : List Int} {ds : List Dom} (h : ¬ 0 < (hts l ds).length) : okH l ds = false := by
  rcases hts_cases l ds with h1 | h1
  · omega
  · exact h1.2
theorem hts_len (l : List Int) (ds : List Dom) : (hts l ds).length ≤ 81 := by rcases hts_cases l ds with h1 | h1 <;> omega
theorem qC31_ti_29 : TI Try.prog 29 true 1 := ⟨⟨_, Try.underlying29, rfl⟩, by kernel_rfl⟩
theorem qC31_un_22 : Try.prog.underlying 22 = some (.slice 3) := Try.underlying22
set_option maxHeartbeats 4000000 in
set_option maxRecDepth 100000 in
theorem impl_bothHeights_fn (l : List Int) (a b : List Dom) (hl : l.length ≤ 4194304) (ha : a.length ≤ 2097152) (hb : b.length ≤ 2097152) : FnO Try.prog 69 [.agg [(.slv l.length 1 (isl l) : A)], .a (.slv a.length 3 (dsl a)), .a (.slv b.length 3 (dsl b))] [] (V.tup [.a (.sl 7 0 ((hts l a).length)), .a (.sl 9 0 ((hts l b).length)), .a (.val (.bool (okH l a && okH l b)))]) [(.o 7, some (.o ⟨3, 1, true, pl (isl (hts l a))⟩)), (.o 9, some (.o ⟨3, 1, true, pl (isl (hts l b))⟩))] [] := by
 refine fn_introO (N := 25) Try.func69 rfl (by kernel_rfl) rfl (Nat.le_of_ble_eq_true rfl) rfl rfl (by kernel_rfl) (by kernel_rfl) trivial [3, 13, 16] (retO3 rfl) (fun W own kp im0 => ?_)
 show Wp _ _ _ [kV 0 (V.b (.agg [(.slv l.length 1 (isl l) : A)])), kV 1 (V.b (.a (.slv a.length 3 (dsl a)))), kV 2 (V.b (.a (.slv b.length 3 (dsl b)))), kF 3, kF 13, kF 16]
 refine sq (rg ?_)
 refine z ?_ (h := fun ν => acts_box (h := 3) ν xt (by exact ob1 rfl))
 refine zk (zk (zk (nl (sq ?_))))
 rcases Bool.eq_false_or_eq_true ((simB l && isTil l a)) with c1 | c1
 ·skip
  rcases Bool.eq_false_or_eq_true ((simB l && isTil l b)) with c2 | c2
  ·skip
   refine wp_dr ?_
   refine zd ?_ (h := fun ν => acts_load_owns (xs := [(.slv l.length 1 (isl l) : A)]) ν qC31_ti_29 rfl (by decide) rfl)
   refine zdm ?_
   refine zd ?_ (h := fun ν => acts_call1 ν (HeightsOf_yes l a (by first | omega | assumption | (rw [htsF_len]; omega)) (by first | omega | assumption | (rw [htsF_len]; omega)) (by first | omega | assumption | (rw [htsF_len]; omega))) (ac (ArgV.regv _ _ 1 _) (ac (ArgV.slv _ _ _ _) an)) (ResV.row _ _ _ _ 13))
   refine zd ?_ (h := fun ν => acts_load_owns (xs := [(.slv l.length 1 (isl l) : A)]) ν qC31_ti_29 rfl (by decide) rfl)
   refine zdm ?_
   refine zd ?_ (h := fun ν => acts_call1 ν (HeightsOf_yes l b (by first | omega | assumption | (rw [htsF_len]; omega)) (by first | omega | assumption | (rw [htsF_len]; omega)) (by first | omega | assumption | (rw [htsF_len]; omega))) (ac (ArgV.regv _ _ 1 _) (ac (ArgV.slv _ _ _ _) an)) (ResV.row _ _ _ _ 16))
   refine zd ?_ (h := fun ν => gt ν)
   refine zd ?_ (h := fun ν => gt ν)
   refine dw_nil (sq (rg (zm (zm (zm ?_)))))
   refine z ?_ (h := fun ν => acts_sneq ν qC31_un_22 (by first | omega | assumption | (rw [htsF_len]; omega)))
   refine zm ?_
   refine zg ?_ (h := fun ν => step_on rfl rfl (mt ν))
   refine zg ?_ (h := fun ν => step_on rfl rfl (acts_sneq ν qC31_un_22 (by first | omega | assumption | (rw [htsF_len]; omega))))
   refine z ?_ (h := fun ν => acts_pick_t ν vt xt)
   refine za (za (za (nl (wp_ret' ?_))))
   exact ⟨[kS 6 7 0 ((htsF l a).length), kS 7 9 0 ((htsF l b).length), kB 8 true, kO 7 3 1 true (pl (isl (htsF l a))), kO 9 3 1 true (pl (isl (htsF l b))), kF 3, kF 13, kF 16], wkf (subst1 [(7, 13), (9, 16)]) (wS <| wS <| wS <| wP <| wP <| wF <| wF <| wF <| wN), ⟨obj_eq (c := pl (isl (htsF l a))) (by kernel_rfl) (congrArg (fun z => pl (isl z)) (by first | exact hts_yes (by assumption) | exact (hts_yes (by assumption)).symm | exact hts_no (by assumption) | exact (hts_no (by assumption)).symm)), obj_eq (c := pl (isl (htsF l b))) (by kernel_rfl) (congrArg (fun z => pl (isl z)) (by first | exact hts_yes (by assumption) | exact (hts_yes (by assumption)).symm | exact hts_no (by assumption) | exact (hts_no (by assumption)).symm)), trivial⟩, ⟨vo_eq 6 (.a (.sl 7 0 ((htsF l a).length))) (.a (.sl 7 0 ((hts l a).length))) (by kernel_rfl) (congrArg (fun z : Nat => B.a (.sl 7 0 z)) (by first | (unfold okH; simp_all; done) | (rw [hts_no (by assumption)]; first | done | rfl) | (rw [hts_yes (by assumption)]; done))), vo_eq 7 (.a (.sl 9 0 ((htsF l b).length))) (.a (.sl 9 0 ((hts l b).length))) (by kernel_rfl) (congrArg (fun z : Nat => B.a (.sl 9 0 z)) (by first | (unfold okH; simp_all; done) | (rw [hts_no (by assumption)]; first | done | rfl) | (rw [hts_yes (by assumption)]; done))), vo_eq 8 (.a (.val (.bool true))) (.a (.val (.bool (okH l a && okH l b)))) (by kernel_rfl) (congrArg (fun z : Bool => B.a (.val (.bool z))) (by first | (unfold okH; simp_all; done) | (rw [hts_no (by assumption)]; first | done | rfl) | (rw [hts_yes (by assumption)]; done)))⟩⟩
  ·skip
   refine wp_dr ?_
   refine zd ?_ (h := fun ν => acts_load_owns (xs := [(.slv l.length 1 (isl l) : A)]) ν qC31_ti_29 rfl (by decide) rfl)
   refine zdm ?_
   refine zd ?_ (h := fun ν => acts_call1 ν (HeightsOf_yes l a (by first | omega | assumption | (rw [htsF_len]; omega)) (by first | omega | assumption | (rw [htsF_len]; omega)) (by first | omega | assumption | (rw [htsF_len]; omega))) (ac (ArgV.regv _ _ 1 _) (ac (ArgV.slv _ _ _ _) an)) (ResV.row _ _ _ _ 13))
   refine zd ?_ (h := fun ν => acts_load_owns (xs := [(.slv l.length 1 (isl l) : A)]) ν qC31_ti_29 rfl (by decide) rfl)
   refine zdm ?_
   refine zd ?_ (h := fun ν => acts_call1 ν (HeightsOf_no l b (by first | omega | assumption | (rw [htsF_len]; omega)) (by first | omega | assumption | (rw [htsF_len]; omega)) (by first | omega | assumption | (rw [htsF_len]; omega))) (ac (ArgV.regv _ _ 1 _) (ac (ArgV.slv _ _ _ _) an)) rv)
   refine zd ?_ (h := fun ν => gt ν)
   refine zd ?_ (h := fun ν => gt ν)
   refine dw_nil (sq (rg (zm (zm (zm ?_)))))
   refine z ?_ (h := fun ν => acts_sneq ν qC31_un_22 (by first | omega | assumption | (rw [htsF_len]; omega)))
   refine zm ?_
   refine zg ?_ (h := fun ν => step_on rfl rfl (mt ν))
   refine zg ?_ (h := fun ν => step_on rfl rfl (acts_bin ν vt vc (r_sneq0 qC31_un_22 rfl)))
   refine z ?_ (h := fun ν => acts_pick_t ν vt xt)
   refine za (za (za (nl ?_)))
   refine wp_weak (wnI (k := 7) (h := 16) (T := 3) (by kernel_rfl) (by kernel_rfl)) ?_
   refine wp_ret' ?_
   exact ⟨[kS 6 7 0 ((htsF l a).length), kS 7 9 0 0, kB 8 false, kO 7 3 1 true (pl (isl (htsF l a))), kO 9 3 1 true (pl (isl [])), kF 3, kF 13, kF 16], wkf (subst1 [(7, 13), (9, 16)]) (wS <| wS <| wS <| wP <| wP <| wF <| wF <| wF <| wN), ⟨obj_eq (c := pl (isl (htsF l a))) (by kernel_rfl) (congrArg (fun z => pl (isl z)) (by first | exact hts_yes (by assumption) | exact (hts_yes (by assumption)).symm | exact hts_no (by assumption) | exact (hts_no (by assumption)).symm)), obj_eq (c := pl (isl [])) (by kernel_rfl) (congrArg (fun z => pl (isl z)) (by first | exact hts_yes (by assumption) | exact (hts_yes (by assumption)).symm | exact hts_no (by assumption) | exact (hts_no (by assumption)).symm)), trivial⟩, ⟨vo_eq 6 (.a (.sl 7 0 ((htsF l a).length))) (.a (.sl 7 0 ((hts l a).length))) (by kernel_rfl) (congrArg (fun z : Nat => B.a (.sl 7 0 z)) (by first | (unfold okH; simp_all; done) | (rw [hts_no (by assumption)]; first | done | rfl) | (rw [hts_yes (by assumption)]; done))), vo_eq 7 (.a (.sl 9 0 0)) (.a (.sl 9 0 ((hts l b).length))) (by kernel_rfl) (congrArg (fun z : Nat => B.a (.sl 9 0 z)) (by first | (unfold okH; simp_all; done) | (rw [hts_no (by assumption)]; first | done | rfl) | (rw [hts_yes (by assumption)]; done))), vo_eq 8 (.a (.val (.bool false))) (.a (.val (.bool (okH l a && okH l b)))) (by kernel_rfl) (congrArg (fun z : Bool => B.a (.val (.bool z))) (by first | (unfold okH; simp_all; done) | (rw [hts_no (by assumption)]; first | done | rfl) | (rw [hts_yes (by assumption)]; done)))⟩⟩
 ·skip
  rcases Bool.eq_false_or_eq_true ((simB l && isTil l b)) with c3 | c3
  ·skip
   refine wp_dr ?_
   refine zd ?_ (h := fun ν => acts_load_owns (xs := [(.slv l.length 1 (isl l) : A)]) ν qC31_ti_29 rfl (by decide) rfl)
   refine zdm ?_
   refine zd ?_ (h := fun ν => acts_call1 ν (HeightsOf_no l a (by first | omega | assumption | (rw [htsF_len]; omega)) (by first | omega | assumption | (rw [htsF_len]; omega)) (by first | omega | assumption | (rw [htsF_len]; omega))) (ac (ArgV.regv _ _ 1 _) (ac (ArgV.slv _ _ _ _) an)) rv)
   refine zd ?_ (h := fun ν => acts_load_owns (xs := [(.slv l.length 1 (isl l) : A)]) ν qC31_ti_29 rfl (by decide) rfl)
   refine zdm ?_
   refine zd ?_ (h := fun ν => acts_call1 ν (HeightsOf_yes l b (by first | omega | assumption | (rw [htsF_len]; omega)) (by first | omega | assumption | (rw [htsF_len]; omega)) (by first | omega | assumption | (rw [htsF_len]; omega))) (ac (ArgV.regv _ _ 1 _) (ac (ArgV.slv _ _ _ _) an)) (ResV.row _ _ _ _ 16))
   refine zd ?_ (h := fun ν => gt ν)
   refine zd ?_ (h := fun ν => gt ν)
   refine dw_nil (sq (rg (zm (zm (zm ?_)))))
   refine z ?_ (h := fun ν => acts_bin ν vt vc (r_sneq0 qC31_un_22 rfl))
   refine zm (zo (zo ?_))
   refine z ?_ (h := fun ν => acts_pick_f ν vt xc)
   refine za (za (za (nl ?_)))
   refine wp_weak (wnI (k := 6) (h := 13) (T := 3) (by kernel_rfl) (by kernel_rfl)) ?_
   refine wp_ret' ?_
   exact ⟨[kS 6 7 0 0, kS 7 9 0 ((htsF l b).length), kB 8 false, kO 7 3 1 true (pl (isl [])), kO 9 3 1 true (pl (isl (htsF l b))), kF 3, kF 13, kF 16], wkf (subst1 [(7, 13), (9, 16)]) (wS <| wS <| wS <| wP <| wP <| wF <| wF <| wF <| wN), ⟨obj_eq (c := pl (isl [])) (by kernel_rfl) (congrArg (fun z => pl (isl z)) (by first | exact hts_yes (by assumption) | exact (hts_yes (by assumption)).symm | exact hts_no (by assumption) | exact (hts_no (by assumption)).symm)), obj_eq (c := pl (isl (htsF l b))) (by kernel_rfl) (congrArg (fun z => pl (isl z)) (by first | exact hts_yes (by assumption) | exact (hts_yes (by assumption)).symm | exact hts_no (by assumption) | exact (hts_no (by assumption)).symm)), trivial⟩, ⟨vo_eq 6 (.a (.sl 7 0 0)) (.a (.sl 7 0 ((hts l a).length))) (by kernel_rfl) (congrArg (fun z : Nat => B.a (.sl 7 0 z)) (by first | (unfold okH; simp_all; done) | (rw [hts_no (by assumption)]; first | done | rfl) | (rw [hts_yes (by assumption)]; done))), vo_eq 7 (.a (.sl 9 0 ((htsF l b).length))) (.a (.sl 9 0 ((hts l b).length))) (by kernel_rfl) (congrArg (fun z : Nat => B.a (.sl 9 0 z)) (by first | (unfold okH; simp_all; done) | (rw [hts_no (by assumption)]; first | done | rfl) | (rw [hts_yes (by assumption)]; done))), vo_eq 8 (.a (.val (.bool false))) (.a (.val (.bool (okH l a && okH l b)))) (by kernel_rfl) (congrArg (fun z : Bool => B.a (.val (.bool z))) (by first | (unfold okH; simp_all; done) | (rw [hts_no (by assumption)]; first | done | rfl) | (rw [hts_yes (by assumption)]; done)))⟩⟩
  ·skip
   refine wp_dr ?_
   refine zd ?_ (h := fun ν => acts_load_owns (xs := [(.slv l.length 1 (isl l) : A)]) ν qC31_ti_29 rfl (by decide) rfl)
   refine zdm ?_
   refine zd ?_ (h := fun ν => acts_call1 ν (HeightsOf_no l a (by first | omega | assumption | (rw [htsF_len]; omega)) (by first | omega | assumption | (rw [htsF_len]; omega)) (by first | omega | assumption | (rw [htsF_len]; omega))) (ac (ArgV.regv _ _ 1 _) (ac (ArgV.slv _ _ _ _) an)) rv)
   refine zd ?_ (h := fun ν => acts_load_owns (xs := [(.slv l.length 1 (isl l) : A)]) ν qC31_ti_29 rfl (by decide) rfl)
   refine zdm ?_
   refine zd ?_ (h := fun ν => acts_call1 ν (HeightsOf_no l b (by first | omega | assumption | (rw [htsF_len]; omega)) (by first | omega | assumption | (rw [htsF_len]; omega)) (by first | omega | assumption | (rw [htsF_len]; omega))) (ac (ArgV.regv _ _ 1 _) (ac (ArgV.slv _ _ _ _) an)) rv)
   refine zd ?_ (h := fun ν => gt ν)
   refine zd ?_ (h := fun ν => gt ν)
   refine dw_nil (sq (rg (zm (zm (zm ?_)))))
   refine z ?_ (h := fun ν => acts_bin ν vt vc (r_sneq0 qC31_un_22 rfl))
   refine zm (zo (zo ?_))
   refine z ?_ (h := fun ν => acts_pick_f ν vt xc)
   refine za (za (za (nl ?_)))
   refine wp_weak (wnI (k := 6) (h := 13) (T := 3) (by kernel_rfl) (by kernel_rfl)) ?_
   refine wp_weak (wnI (k := 7) (h := 16) (T := 3) (by kernel_rfl) (by kernel_rfl)) ?_
   refine wp_ret' ?_
   exact ⟨[kS 6 7 0 0, kS 7 9 0 0, kB 8 false, kO 7 3 1 true (pl (isl [])), kO 9 3 1 true (pl (isl [])), kF 3, kF 13, kF 16], wkf (subst1 [(7, 13), (9, 16)]) (wS <| wS <| wS <| wP <| wP <| wF <| wF <| wF <| wN), ⟨obj_eq (c := pl (isl [])) (by kernel_rfl) (congrArg (fun z => pl (isl z)) (by first | exact hts_yes (by assumption) | exact (hts_yes (by assumption)).symm | exact hts_no (by assumption) | exact (hts_no (by assumption)).symm)), obj_eq (c := pl (isl [])) (by kernel_rfl) (congrArg (fun z => pl (isl z)) (by first | exact hts_yes (by assumption) | exact (hts_yes (by assumption)).symm | exact hts_no (by assumption) | exact (hts_no (by assumption)).symm)), trivial⟩, ⟨vo_eq 6 (.a (.sl 7 0 0)) (.a (.sl 7 0 ((hts l a).length))) (by kernel_rfl) (congrArg (fun z : Nat => B.a (.sl 7 0 z)) (by first | (unfold okH; simp_all; done) | (rw [hts_no (by assumption)]; first | done | rfl) | (rw [hts_yes (by assumption)]; done))), vo_eq 7 (.a (.sl 9 0 0)) (.a (.sl 9 0 ((hts l b).length))) (by kernel_rfl) (congrArg (fun z : Nat => B.a (.sl 9 0 z)) (by first | (unfold okH; simp_all; done) | (rw [hts_no (by assumption)]; first | done | rfl) | (rw [hts_yes (by assumption)]; done))), vo_eq 8 (.a (.val (.bool false))) (.a (.val (.bool (okH l a && okH l b)))) (by kernel_rfl) (congrArg (fun z : Bool => B.a (.val (.bool z))) (by first | (unfold okH; simp_all; done) | (rw [hts_no (by assumption)]; first | done | rfl) | (rw [hts_yes (by assumption)]; done)))⟩⟩
end Cl
end Go.Proofs.Ytjgimiicfekcpaa
