/- Walks over clean states, printed by wg.py. No statement is proved here. -/
import Derived.Test.YtjgjeflidcembaaC3w
import Derived.Test.YtjgjeflidcembaaClB
namespace Go.Proofs.Ytjgjeflidcembaa
namespace Cl
open Go.ChangeShapes Go.WideShapes Go.ChangeAt Go.RowKit
set_option maxRecDepth 20000

theorem any_zeroC (p : Cel → Bool) (l : List Cel) : (l.take 0).any p = false := rfl
theorem nxt_end {p : Cel → Bool} {L : List Cel} {k : Nat} (hj : ¬ (k : Int) < (L.length : Int)) (h : (L.take k).any p = false) : L.any p = false := by rwa [List.take_of_length_le (by omega)] at h

theorem qC4_bs_46 : ∀ (a b : Int), Try.prog.built 46 [(0, .int .i64 a), (1, .int .i64 b)] = some ([.int .i64 a, .int .i64 b] : List Value).toArray := fun _ _ => rfl
theorem qC4_fo_46_0 : fieldOff Try.prog 46 0 = some 0 := by kernel_rfl
theorem qC4_fo_46_1 : fieldOff Try.prog 46 1 = some 1 := by kernel_rfl
theorem qC4_sz_46 : (Try.prog.info? 46).map (·.size) = some 2 := by kernel_rfl
theorem qC4_ti_26 : TI Try.prog 26 true 1 := ⟨⟨_, Try.underlying26, rfl⟩, by kernel_rfl⟩
theorem qC4_ti_3 : TI Try.prog 3 false 1 := ⟨⟨_, Try.underlying3, rfl⟩, by kernel_rfl⟩
theorem qC4_ti_46 : TI Try.prog 46 true 2 := ⟨⟨_, Try.underlying46, rfl⟩, by kernel_rfl⟩
theorem qC4_un_42 : Try.prog.underlying 42 = some (.slice 46) := Try.underlying42
theorem qC4_zi_46 : ZI Try.prog 46 (.agg #[.int .i64 0, .int .i64 0]) 2 16 := by unfold ZI; kernel_rfl
set_option maxHeartbeats 4000000 in
set_option maxRecDepth 100000 in
theorem impl_CanExtend_fn (l : List Int) (ds : List Dom) (hl : l.length ≤ 4194304) (hd : ds.length ≤ 2097152) : Fn Try.prog 30 [.agg [(.slv l.length 1 (isl l) : A)], .a (.slv ds.length 3 (dsl ds))] [.val (.bool (canX l ds))] := by
 have h64 := setCells_len (andn (regSet l) (covS ds))
 refine fn_intro (N := 43) Try.func30 rfl (by kernel_rfl) rfl (Nat.le_of_ble_eq_true rfl) [2, 7, 10, 13, 15, 18, 19, 31, 40] (ret1 rfl) (fun W => ?_)
 show Wp _ _ _ [kV 0 (V.b (.agg [(.slv l.length 1 (isl l) : A)])), kV 1 (V.b (.a (.slv ds.length 3 (dsl ds)))), kF 2, kF 7, kF 10, kF 13, kF 15, kF 18, kF 19, kF 31, kF 40]
 refine sq (rg ?_)
 refine z ?_ (h := fun ν => acts_box (h := 2) ν xt (by exact ob1 rfl))
 refine zk (nl (sq (sq (rg ?_))))
 refine z ?_ (h := fun ν => acts_load_owns (xs := [(.slv l.length 1 (isl l) : A)]) ν qC4_ti_26 rfl (by decide) rfl)
 refine zm ?_
 refine z ?_ (h := fun ν => acts_call1 ν (impl_IsPartial_fn l ds (by first | omega | assumption | (have hq := okc_true.1 (set_in (s := (andn (regSet l) (covS ds))) (k := k) (by omega)); omega) | exact (isPar_step (by assumption)).1 | exact regSet_lt (isPar_step (by assumption)).1 | exact covS_lt _ | exact andn_lt (regSet_lt (isPar_step (by assumption)).1)) (by first | omega | assumption | (have hq := okc_true.1 (set_in (s := (andn (regSet l) (covS ds))) (k := k) (by omega)); omega) | exact (isPar_step (by assumption)).1 | exact regSet_lt (isPar_step (by assumption)).1 | exact covS_lt _ | exact andn_lt (regSet_lt (isPar_step (by assumption)).1))) (ac (ArgV.regv _ _ 1 _) (ac (ArgV.slv _ _ _ _) an)) rv)
 refine z ?_ (h := fun ν => acts_un ν vt (r_not rfl))
 refine nl ?_
 refine wi (b := (!(isPar l ds))) (fun c1 => ?_) (fun c1 => ?_)
 ·skip
  have c2 : (isPar l ds) = false := by first | (rw [← Bool.not_eq_true']; exact c1) | simpa using c1
  refine sq (rg (zk (nl (wp_ret' ?_))))
  exact VRes.tmp _ _ _ (by exact rfl) (bval (congrArg Value.bool (by exact (canX_no (by assumption)).symm)))
 ·skip
  have c3 : (isPar l ds) = true := by first | (rw [← Bool.not_eq_false']; exact c1) | simpa using c1
  refine sk (sq (rg ?_))
  refine z ?_ (h := fun ν => acts_load_owns (xs := [(.slv l.length 1 (isl l) : A)]) ν qC4_ti_26 rfl (by decide) rfl)
  refine z ?_ (h := fun ν => acts_call1 ν (impl_Region__set_fn l (by first | omega | assumption | (have hq := okc_true.1 (set_in (s := (andn (regSet l) (covS ds))) (k := k) (by omega)); omega) | exact (isPar_step (by assumption)).1 | exact regSet_lt (isPar_step (by assumption)).1 | exact covS_lt _ | exact andn_lt (regSet_lt (isPar_step (by assumption)).1))) (ac (ArgV.regv _ _ 1 _) an) rv)
  refine zm ?_
  refine z ?_ (h := fun ν => acts_call1 ν (impl_covered_fn ds (by first | omega | assumption | (have hq := okc_true.1 (set_in (s := (andn (regSet l) (covS ds))) (k := k) (by omega)); omega) | exact (isPar_step (by assumption)).1 | exact regSet_lt (isPar_step (by assumption)).1 | exact covS_lt _ | exact andn_lt (regSet_lt (isPar_step (by assumption)).1))) (ac (ArgV.slv _ _ _ _) an) rv)
  refine z ?_ (h := fun ν => acts_bin ν vt vt (r_andNot (c := (((andn (regSet l) (covS ds)) : Nat) : Int)) (andnU (m := (regSet l)) (n := (covS ds)) rfl rfl (by first | omega | assumption | exact Nat.lt_of_le_of_lt (shr_le _ _) (by first | omega | assumption | (first | omega | assumption | (have hq := okc_true.1 (set_in (s := (andn (regSet l) (covS ds))) (k := k) (by omega)); omega) | exact (isPar_step (by assumption)).1 | exact regSet_lt (isPar_step (by assumption)).1 | exact covS_lt _ | exact andn_lt (regSet_lt (isPar_step (by assumption)).1))) | (first | omega | assumption | (have hq := okc_true.1 (set_in (s := (andn (regSet l) (covS ds))) (k := k) (by omega)); omega) | exact (isPar_step (by assumption)).1 | exact regSet_lt (isPar_step (by assumption)).1 | exact covS_lt _ | exact andn_lt (regSet_lt (isPar_step (by assumption)).1))) (by first | omega | assumption | exact Nat.lt_of_le_of_lt (shr_le _ _) (by first | omega | assumption | (first | omega | assumption | (have hq := okc_true.1 (set_in (s := (andn (regSet l) (covS ds))) (k := k) (by omega)); omega) | exact (isPar_step (by assumption)).1 | exact regSet_lt (isPar_step (by assumption)).1 | exact covS_lt _ | exact andn_lt (regSet_lt (isPar_step (by assumption)).1))) | (first | omega | assumption | (have hq := okc_true.1 (set_in (s := (andn (regSet l) (covS ds))) (k := k) (by omega)); omega) | exact (isPar_step (by assumption)).1 | exact regSet_lt (isPar_step (by assumption)).1 | exact covS_lt _ | exact andn_lt (regSet_lt (isPar_step (by assumption)).1))))))
  refine za (nl (sq (sq (rg (zm ?_)))))
  refine z ?_ (h := fun ν => acts_call1 ν (impl_set__cells_fn (andn (regSet l) (covS ds)) (by first | omega | assumption | (have hq := okc_true.1 (set_in (s := (andn (regSet l) (covS ds))) (k := k) (by omega)); omega) | exact (isPar_step (by assumption)).1 | exact regSet_lt (isPar_step (by assumption)).1 | exact covS_lt _ | exact andn_lt (regSet_lt (isPar_step (by assumption)).1))) (ac (ArgV.v vt) an) (ResV.row _ _ _ _ 18))
  refine z ?_ (h := fun ν => lnS ν qC4_un_42)
  refine z ?_ (h := fun ν => mc ν)
  refine nl (bkk ?_)
  refine wp_loop' (fun (k : Nat) => k ≤ (setCells (andn (regSet l) (covS ds))).length ∧ ((setCells (andn (regSet l) (covS ds))).take k).any (nxt (andn (regSet l) (covS ds))) = false) (fun (k : Nat) => [kU 5 (((andn (regSet l) (covS ds)) : Nat) : Int), kS 18 18 0 ((setCells (andn (regSet l) (covS ds))).length), kI 19 (((setCells (andn (regSet l) (covS ds))).length : Nat) : Int), kI 20 ((k : Nat) : Int), kO 18 46 2 true (pl (csl (setCells (andn (regSet l) (covS ds))))), kF 2, kF 7, kF 10, kF 13, kF 15, kF 19, kF 31, kF 40]) (fun (k : Nat) => (setCells (andn (regSet l) (covS ds))).length - k) ((0 : Nat)) (by exact ⟨Nat.zero_le _, any_zeroC _ _⟩) (wkf id (wS <| wS <| wS <| wE (e := (vint (by first | rfl | omega | (simp; done) | (simp; omega)))) <| wP <| wF <| wF <| wF <| wF <| wF <| wF <| wF <| wF <| wN)) ?_
  rintro k inv4
  replace inv4 : k ≤ (setCells (andn (regSet l) (covS ds))).length ∧ ((setCells (andn (regSet l) (covS ds))).take k).any (nxt (andn (regSet l) (covS ds))) = false := inv4
  obtain ⟨inv4_0, inv4_1⟩ := inv4
  refine sq (rg ?_)
  refine z ?_ (h := fun ν => acts_bin ν vt vt (r_lss rfl))
  refine nl (sq ?_)
  refine wi (fun c5 => ?_) (fun c5 => ?_)
  ·skip
   have c5P := of_decide_eq_true c5
   refine sk (sq (bkk (sq (rg ?_))))
   refine z ?_ (h := fun ν => ix0 ν qC4_un_42 qC4_sz_46 vt (hlt := (by first | omega | assumption | (have hq := okc_true.1 (set_in (s := (andn (regSet l) (covS ds))) (k := k) (by omega)); omega) | exact (isPar_step (by assumption)).1 | exact regSet_lt (isPar_step (by assumption)).1 | exact covS_lt _ | exact andn_lt (regSet_lt (isPar_step (by assumption)).1))))
   refine z ?_ (h := fun ν => lC ν qC4_ti_46 (by first | omega | assumption | (have hq := okc_true.1 (set_in (s := (andn (regSet l) (covS ds))) (k := k) (by omega)); omega) | exact (isPar_step (by assumption)).1 | exact regSet_lt (isPar_step (by assumption)).1 | exact covS_lt _ | exact andn_lt (regSet_lt (isPar_step (by assumption)).1)))
   refine z ?_ (h := fun ν => acts_alloc' (h := 7) (cap := 1) (s := 2) (cells := [aI 0, aI 0]) ν qC4_zi_46 rfl rfl (by decide))
   refine z ?_ (h := fun _ => acts_store (cells := [aI ((gC (setCells (andn (regSet l) (covS ds))) k).x), aI ((gC (setCells (andn (regSet l) (covS ds))) k).y)]) qC4_ti_46 xt (by exact rfl) (by decide) (by exact ob1 rfl) (by exact Nat.le_of_ble_eq_true rfl) (by exact rfl))
   refine nl (sq ?_)
   rcases Bool.eq_false_or_eq_true ((hasS (andn (regSet l) (covS ds)) (⟨((gC (setCells (andn (regSet l) (covS ds))) k).x + 1), (gC (setCells (andn (regSet l) (covS ds))) k).y⟩ : Cel))) with c6 | c6
   ·skip
    refine rg (zm ?_)
    refine z ?_ (h := fun ν => acts_field (off' := 0) ν qC4_fo_46_0 rfl)
    refine z ?_ (h := fun ν => acts_load_own (x := .val (.int .i64 ((gC (setCells (andn (regSet l) (covS ds))) k).x))) ν qC4_ti_3 (by exact rfl))
    refine z ?_ (h := fun ν => acts_bin ν vt vc (rA (by first | omega | assumption | (have hq := okc_true.1 (set_in (s := (andn (regSet l) (covS ds))) (k := k) (by omega)); omega) | exact (isPar_step (by assumption)).1 | exact regSet_lt (isPar_step (by assumption)).1 | exact covS_lt _ | exact andn_lt (regSet_lt (isPar_step (by assumption)).1)) (by first | omega | assumption | (have hq := okc_true.1 (set_in (s := (andn (regSet l) (covS ds))) (k := k) (by omega)); omega) | exact (isPar_step (by assumption)).1 | exact regSet_lt (isPar_step (by assumption)).1 | exact covS_lt _ | exact andn_lt (regSet_lt (isPar_step (by assumption)).1))))
    refine z ?_ (h := fun ν => acts_field (off' := 1) ν qC4_fo_46_1 rfl)
    refine z ?_ (h := fun ν => acts_load_own (x := .val (.int .i64 ((gC (setCells (andn (regSet l) (covS ds))) k).y))) ν qC4_ti_3 (by exact rfl))
    refine z ?_ (h := fun ν => bC ν qC4_bs_46 vt vt)
    refine z ?_ (h := fun ν => acts_call1 ν (impl_set__has_fn (andn (regSet l) (covS ds)) (⟨((gC (setCells (andn (regSet l) (covS ds))) k).x + 1), (gC (setCells (andn (regSet l) (covS ds))) k).y⟩ : Cel) (by first | omega | assumption | (have hq := okc_true.1 (set_in (s := (andn (regSet l) (covS ds))) (k := k) (by omega)); omega) | exact (isPar_step (by assumption)).1 | exact regSet_lt (isPar_step (by assumption)).1 | exact covS_lt _ | exact andn_lt (regSet_lt (isPar_step (by assumption)).1))) (ac (ArgV.v vt) (ac (ArgV.va va) an)) (resval (congrArg Value.bool c6)))
    refine zm (zo (zo (zo (zo (zo (zo (zo (zo ?_))))))))
    refine z ?_ (h := fun ν => acts_pick_t ν vt xc)
    refine nl (wt (sq (rg (zk (nl (wp_ret' ?_))))))
    exact VRes.tmp _ _ _ (by exact rfl) (bval (congrArg Value.bool (by unfold canX lft; rw [any_atC (k := k) (p := (nxt (andn (regSet l) (covS ds)))) (l := (setCells (andn (regSet l) (covS ds)))) (by omega) (by unfold nxt; simp_all)]; simp_all)))
   ·skip
    refine rg (zm ?_)
    refine z ?_ (h := fun ν => acts_field (off' := 0) ν qC4_fo_46_0 rfl)
    refine z ?_ (h := fun ν => acts_load_own (x := .val (.int .i64 ((gC (setCells (andn (regSet l) (covS ds))) k).x))) ν qC4_ti_3 (by exact rfl))
    refine z ?_ (h := fun ν => acts_bin ν vt vc (rA (by first | omega | assumption | (have hq := okc_true.1 (set_in (s := (andn (regSet l) (covS ds))) (k := k) (by omega)); omega) | exact (isPar_step (by assumption)).1 | exact regSet_lt (isPar_step (by assumption)).1 | exact covS_lt _ | exact andn_lt (regSet_lt (isPar_step (by assumption)).1)) (by first | omega | assumption | (have hq := okc_true.1 (set_in (s := (andn (regSet l) (covS ds))) (k := k) (by omega)); omega) | exact (isPar_step (by assumption)).1 | exact regSet_lt (isPar_step (by assumption)).1 | exact covS_lt _ | exact andn_lt (regSet_lt (isPar_step (by assumption)).1))))
    refine z ?_ (h := fun ν => acts_field (off' := 1) ν qC4_fo_46_1 rfl)
    refine z ?_ (h := fun ν => acts_load_own (x := .val (.int .i64 ((gC (setCells (andn (regSet l) (covS ds))) k).y))) ν qC4_ti_3 (by exact rfl))
    refine z ?_ (h := fun ν => bC ν qC4_bs_46 vt vt)
    refine z ?_ (h := fun ν => acts_call1 ν (impl_set__has_fn (andn (regSet l) (covS ds)) (⟨((gC (setCells (andn (regSet l) (covS ds))) k).x + 1), (gC (setCells (andn (regSet l) (covS ds))) k).y⟩ : Cel) (by first | omega | assumption | (have hq := okc_true.1 (set_in (s := (andn (regSet l) (covS ds))) (k := k) (by omega)); omega) | exact (isPar_step (by assumption)).1 | exact regSet_lt (isPar_step (by assumption)).1 | exact covS_lt _ | exact andn_lt (regSet_lt (isPar_step (by assumption)).1))) (ac (ArgV.v vt) (ac (ArgV.va va) an)) (resval (congrArg Value.bool c6)))
    refine zm ?_
    refine zg ?_ (h := fun ν => step_on rfl rfl (mt ν))
    refine zg ?_ (h := fun ν => step_on rfl rfl (acts_field (off' := 0) ν qC4_fo_46_0 rfl))
    refine zg ?_ (h := fun ν => step_on rfl rfl (acts_load_own (x := .val (.int .i64 ((gC (setCells (andn (regSet l) (covS ds))) k).x))) ν qC4_ti_3 (by exact rfl)))
    refine zg ?_ (h := fun ν => step_on rfl rfl (acts_field (off' := 1) ν qC4_fo_46_1 rfl))
    refine zg ?_ (h := fun ν => step_on rfl rfl (acts_load_own (x := .val (.int .i64 ((gC (setCells (andn (regSet l) (covS ds))) k).y))) ν qC4_ti_3 (by exact rfl)))
    refine zg ?_ (h := fun ν => step_on rfl rfl (acts_bin ν vt vc (rA (by first | omega | assumption | (have hq := okc_true.1 (set_in (s := (andn (regSet l) (covS ds))) (k := k) (by omega)); omega) | exact (isPar_step (by assumption)).1 | exact regSet_lt (isPar_step (by assumption)).1 | exact covS_lt _ | exact andn_lt (regSet_lt (isPar_step (by assumption)).1)) (by first | omega | assumption | (have hq := okc_true.1 (set_in (s := (andn (regSet l) (covS ds))) (k := k) (by omega)); omega) | exact (isPar_step (by assumption)).1 | exact regSet_lt (isPar_step (by assumption)).1 | exact covS_lt _ | exact andn_lt (regSet_lt (isPar_step (by assumption)).1)))))
    refine zg ?_ (h := fun ν => step_on rfl rfl (bC ν qC4_bs_46 vt vt))
    refine zg ?_ (h := fun ν => step_on rfl rfl (acts_call1 ν (impl_set__has_fn (andn (regSet l) (covS ds)) (⟨(gC (setCells (andn (regSet l) (covS ds))) k).x, ((gC (setCells (andn (regSet l) (covS ds))) k).y + 1)⟩ : Cel) (by first | omega | assumption | (have hq := okc_true.1 (set_in (s := (andn (regSet l) (covS ds))) (k := k) (by omega)); omega) | exact (isPar_step (by assumption)).1 | exact regSet_lt (isPar_step (by assumption)).1 | exact covS_lt _ | exact andn_lt (regSet_lt (isPar_step (by assumption)).1))) (ac (ArgV.v vt) (ac (ArgV.va va) an)) rv))
    refine z ?_ (h := fun ν => acts_pick_f ν vt xt)
    refine nl ?_
    refine wi (b := (hasS (andn (regSet l) (covS ds)) (⟨(gC (setCells (andn (regSet l) (covS ds))) k).x, ((gC (setCells (andn (regSet l) (covS ds))) k).y + 1)⟩ : Cel))) (fun c7 => ?_) (fun c7 => ?_)
    ·skip
     refine sq (rg (zk (nl (wp_ret' ?_))))
     exact VRes.tmp _ _ _ (by exact rfl) (bval (congrArg Value.bool (by unfold canX lft; rw [any_atC (k := k) (p := (nxt (andn (regSet l) (covS ds)))) (l := (setCells (andn (regSet l) (covS ds)))) (by omega) (by unfold nxt; simp_all)]; simp_all)))
    ·skip
     refine sk (rg ?_)
     refine z ?_ (h := fun ν => acts_bin ν vt vc (rA (by first | omega | assumption | (have hq := okc_true.1 (set_in (s := (andn (regSet l) (covS ds))) (k := k) (by omega)); omega) | exact (isPar_step (by assumption)).1 | exact regSet_lt (isPar_step (by assumption)).1 | exact covS_lt _ | exact andn_lt (regSet_lt (isPar_step (by assumption)).1)) (by first | omega | assumption | (have hq := okc_true.1 (set_in (s := (andn (regSet l) (covS ds))) (k := k) (by omega)); omega) | exact (isPar_step (by assumption)).1 | exact regSet_lt (isPar_step (by assumption)).1 | exact covS_lt _ | exact andn_lt (regSet_lt (isPar_step (by assumption)).1))))
     refine zm (nl ?_)
     exact loop_back ((k + 1)) (by refine ⟨by omega, any_snocC (by omega) (by assumption) ?_⟩; unfold nxt; simp_all) (by show (setCells (andn (regSet l) (covS ds))).length - (k + 1) < (setCells (andn (regSet l) (covS ds))).length - k; omega) (wkf id (wS <| wS <| wS <| wE (e := (vint (by first | rfl | omega | (simp; done) | (simp; omega)))) <| wP <| wF <| wF <| wF <| wF <| wF <| wF <| wF <| wF <| wN))
  ·skip
   have c5P := of_decide_eq_false c5
   refine wp_exit' (sq (rg (zk (nl (wp_ret' ?_)))))
   exact VRes.tmp _ _ _ (by exact rfl) (bval (congrArg Value.bool (by unfold canX lft; rw [nxt_end (k := k) (by omega) (by assumption)]; simp)))
end Cl
end Go.Proofs.Ytjgjeflidcembaa
