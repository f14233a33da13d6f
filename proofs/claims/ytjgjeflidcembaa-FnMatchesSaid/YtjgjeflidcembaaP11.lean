/- Walks over clean states, printed by wg.py. No statement is proved here. -/
import Derived.Test.YtjgjeflidcembaaP10
import Derived.Test.YtjgjeflidcembaaP9
import Derived.Test.YtjgjeflidcembaaC4
import Derived.Test.YtjgjeflidcembaaE3
import Derived.Test.YtjgjeflidcembaaClB
namespace Go.Proofs.Ytjgjeflidcembaa
namespace Cl
open Go.ChangeShapes Go.WideShapes Go.ChangeAt Go.RowKit
set_option maxRecDepth 20000

theorem cellsOf_pop {R : List Int} (ho : regOk R = true) : (cellsOf R).length = popc (regSet R) := by
  unfold cellsOf; rw [if_pos ho]; unfold setCells popc; simp
/-- what is known of a partial tiling that was drawn -/
structure PM (R : List Int) (P : List Dom) : Prop where
  ok : regOk R = true
  pp : isPar R P = true
  mp : isPar R (matR R) = true
  mq : (isPar R (matR R) && decide ((matR R).length = (matR R).length)) = true
  eq : decide ((isPar R P && decide (P.length = (matR R).length)) = decide (((P.length : Nat) : Int) = (((matR R).length : Nat) : Int))) = true
  le : P.length ≤ (matR R).length
  nx : canX R (matR R) = false
  fl : decide (2 * (((matR R).length : Nat) : Int) = (((cellsOf R).length : Nat) : Int)) = decide (0 < ((cntR R : Nat) : Int))
theorem PM.of {b : List Nat} {c : Cu} {R : List Int} {P : List Dom} (hR : (r3 b (cu0 b)).1 = R) (hP : (grL b R (cellsOf R) c []).1 = P) : PM R P := by
  have ho : regOk R = true := hR ▸ r3_ok b (cu0 b)
  obtain ⟨g1, g2⟩ := gr_all (b := b) ho c
  rw [hP] at g1 g2
  obtain ⟨m1, m2, m3, m4⟩ := matR_par ho
  have hp := par_isPar ho g1 g2
  refine ⟨ho, hp, m3, by rw [m3]; simp, ?_, most_le ho g1, mat_noX ho, ?_⟩
  · rw [hp, Bool.true_and, decide_eq_true_eq, decide_eq_decide]; omega
  have := mat_full ho
  rw [decide_eq_decide] at this ⊢
  rw [cellsOf_pop ho, cntR_yes ho]
  constructor
  · intro h; have := this.1 (by omega); omega
  · intro h; have := this.2 (by omega); omega

theorem qP11_bs_37 : ∀ (a b : Int) (c : Bool), Try.prog.built 37 [(0, .int .i64 a), (1, .int .i64 b), (2, .bool c)] = some ([.int .i64 a, .int .i64 b, .bool c] : List Value).toArray := fun _ _ _ => rfl
theorem qP11_fo_37_2 : fieldOff Try.prog 37 2 = some 2 := by kernel_rfl
theorem qP11_fo_46_0 : fieldOff Try.prog 46 0 = some 0 := by kernel_rfl
theorem qP11_fo_46_1 : fieldOff Try.prog 46 1 = some 1 := by kernel_rfl
theorem qP11_sz_46 : (Try.prog.info? 46).map (·.size) = some 2 := by kernel_rfl
theorem qP11_ti_26 : TI Try.prog 26 true 1 := ⟨⟨_, Try.underlying26, rfl⟩, by kernel_rfl⟩
theorem qP11_ti_3 : TI Try.prog 3 false 1 := ⟨⟨_, Try.underlying3, rfl⟩, by kernel_rfl⟩
theorem qP11_ti_37 : TI Try.prog 37 true 3 := ⟨⟨_, Try.underlying37, rfl⟩, by kernel_rfl⟩
theorem qP11_ti_4 : TI Try.prog 4 false 1 := ⟨⟨_, Try.underlying4, rfl⟩, by kernel_rfl⟩
theorem qP11_ti_46 : TI Try.prog 46 true 2 := ⟨⟨_, Try.underlying46, rfl⟩, by kernel_rfl⟩
theorem qP11_un_30 : Try.prog.underlying 30 = some (.slice 37) := Try.underlying30
theorem qP11_un_42 : Try.prog.underlying 42 = some (.slice 46) := Try.underlying42
theorem qP11_zi_26 : ZI Try.prog 26 (.agg #[.slice none 0 0]) 1 24 := by unfold ZI; kernel_rfl
theorem qP11_zi_37 : ZI Try.prog 37 (.agg #[.int .i64 0, .int .i64 0, .bool false]) 3 24 := by unfold ZI; kernel_rfl
theorem qP11_zi_46 : ZI Try.prog 46 (.agg #[.int .i64 0, .int .i64 0]) 2 16 := by unfold ZI; kernel_rfl
set_option maxHeartbeats 4000000 in
set_option maxRecDepth 100000 in
theorem l03Region_R (b : List Nat) (c : Cu) (R : List Int) (cz : Cu) (hb : b.length ≤ 1048576) (hy : ∀ x ∈ b, x < 256) (hi : c.i ≤ b.length) (hR : (r3 b c).1 = R) (hz : (r3 b c).2 = cz) : FnO Try.prog 65 [.a (.ptr 1 0)] [(.o 1, some (.o ⟨97, 3, true, [(.slv b.length 1 (ysl b) : A), aI ((c.i : Nat) : Int), aI c.h]⟩))] (V.b (.agg [(.sl 900 0 R.length : A)])) [(.o 1, some (.o ⟨97, 3, true, [(.slv b.length 1 (ysl b) : A), aI ((cz.i : Nat) : Int), aI cz.h]⟩)), (.o 900, some (.o ⟨3, 1, true, pl (isl R)⟩))] [1] := by
 subst hR hz
 exact spec_l03Region_fn b c hb hy hi

set_option maxHeartbeats 4000000 in
set_option maxRecDepth 100000 in
theorem spec_l06Greedy_fn (b : List Nat) (c : Cu) (R : List Int) (hb : b.length ≤ 1048576) (hy : ∀ x ∈ b, x < 256) (hi : c.i ≤ b.length) (hl : R.length ≤ 8) : FnO Try.prog 66 [.a (.ptr 1 0), .agg [(.sl 800 0 R.length : A)]] [(.o 1, some (.o ⟨97, 3, true, [(.slv b.length 1 (ysl b) : A), aI ((c.i : Nat) : Int), aI c.h]⟩)), (.o 800, some (.o ⟨3, 1, true, pl (isl R)⟩))] (V.b (.a (.sl 900 0 ((grL b R (cellsOf R) c []).1.length)))) [(.o 1, some (.o ⟨97, 3, true, [(.slv b.length 1 (ysl b) : A), aI ((((grL b R (cellsOf R) c []).2).i : Nat) : Int), aI (((grL b R (cellsOf R) c []).2).h)]⟩)), (.o 800, some (.o ⟨3, 1, true, pl (isl R)⟩)), (.o 900, some (.o ⟨37, 3, true, pl (dsl ((grL b R (cellsOf R) c []).1))⟩))] [1, 800] := by
 have hcl := cellsOf_len R
 refine fn_introO (N := 68) Try.func66 rfl (by kernel_rfl) rfl (Nat.le_of_ble_eq_true rfl) rfl rfl (by kernel_rfl) (by kernel_rfl) ⟨ocs (by kernel_rfl), oc_pl (fun _ => rfl), trivial⟩ [3, 8, 10, 11, 13, 16, 25, 38, 45, 47, 51, 56, 61, 62, 68, 69, 70, 71, 1000, 1001] (retO1 rfl) (fun W own kp im0 => ?_)
 show Wp _ _ _ [kP 0 1 0, kV 1 (V.b (.agg [(.sl 800 0 R.length : A)])), kO 1 97 3 true [(.slv b.length 1 (ysl b) : A), aI ((c.i : Nat) : Int), aI c.h], kO 800 3 1 true (pl (isl R)), kF 3, kF 8, kF 10, kF 11, kF 13, kF 16, kF 25, kF 38, kF 45, kF 47, kF 51, kF 56, kF 61, kF 62, kF 68, kF 69, kF 70, kF 71, kF 1000, kF 1001]
 refine sq (rg ?_)
 refine z ?_ (h := fun ν => acts_box (h := 3) ν xt (by exact ob1 rfl))
 refine zk (nl (sq (rg ?_)))
 refine z ?_ (h := fun ν => b0D (h := 11) ν qP11_un_30 qP11_zi_37)
 refine za (nl (sq (rg ?_)))
 refine z ?_ (h := fun ν => acts_load_owns (xs := [(.sl 800 0 R.length : A)]) ν qP11_ti_26 rfl (by decide) rfl)
 refine z ?_ (h := fun ν => acts_call1 ν (spec_CellsOf_fn R (by first | omega | assumption)) (ac (ArgV.reg _ _ _ (s := 1) (by simp [isl]) (by first | exact List.take_of_length_le (by simp [isl]) | (simp [isl]; done))) an) (ResV.row _ _ _ _ 13))
 refine za (nl (sq (sq (rg (zk (nl (bkk ?_)))))))
 refine wp_loop' (fun ((k, cz, P) : Nat × Cu × (List Dom)) => k ≤ (cellsOf R).length ∧ P.length ≤ k ∧ cz.i ≤ b.length ∧ grL b R ((cellsOf R).drop k) cz P = (grL b R (cellsOf R) c [])) (fun ((k, cz, P) : Nat × Cu × (List Dom)) => [kP 0 1 0, kP 3 3 0, kS 5 11 0 P.length, kS 6 13 0 ((cellsOf R).length), kI 7 ((k : Nat) : Int), kO 1 97 3 true [(.slv b.length 1 (ysl b) : A), aI ((cz.i : Nat) : Int), aI cz.h], kO 3 26 1 true [(.sl 800 0 R.length : A)], kO 11 37 3 true (pl (dsl P)), kO 13 46 2 true (pl (csl (cellsOf R))), kO 800 3 1 true (pl (isl R)), kF 8, kF 10, kF 16, kF 25, kF 38, kF 45, kF 47, kF 51, kF 56, kF 61, kF 62, kF 68, kF 69, kF 70, kF 71, kF 1000, kF 1001]) (fun ((k, cz, P) : Nat × Cu × (List Dom)) => (cellsOf R).length - k) ((0 : Nat), (c : Cu), ([] : List Dom)) (by exact ⟨Nat.zero_le _, Nat.zero_le _, hi, rfl⟩) (wkf id (wS <| wS <| wE (e := (vsl (by first | rfl | (simp; done) | (simp; omega) | omega | (exact congrArg List.length (by first | rfl | omega | (simp; done) | (simp; omega)))) rfl)) <| wS <| wE (e := (vint (by first | rfl | omega | (simp; done) | (simp; omega)))) <| wX <| wX <| wP <| wP <| wP <| by (iterate 17 refine wF ?_); exact wN)) ?_
 rintro ⟨k, cz, P⟩ inv1
 replace inv1 : k ≤ (cellsOf R).length ∧ P.length ≤ k ∧ cz.i ≤ b.length ∧ grL b R ((cellsOf R).drop k) cz P = (grL b R (cellsOf R) c []) := inv1
 obtain ⟨hkk, hPk, hi0, hgr⟩ := inv1
 refine sq (sq (rg (zm (zm ?_))))
 refine z ?_ (h := fun ν => lnS ν qP11_un_42)
 refine z ?_ (h := fun ν => acts_bin ν vt vt (r_lss rfl))
 refine nl ?_
 refine wi (fun c2 => ?_) (fun c2 => ?_)
 ·skip
  have c2P := of_decide_eq_true c2
  have hkl : k < (cellsOf R).length := by omega
  have hoc := okc_true.1 (cels_bd hkl)
  have hxb : 0 ≤ (gC (cellsOf R) k).x ∧ (gC (cellsOf R) k).x ≤ 100 ∧ 0 ≤ (gC (cellsOf R) k).y ∧ (gC (cellsOf R) k).y ≤ 100 := by omega
  have hi4 := cuI_le (n := 2) hi0
  refine sk (sq (bkk (sq (sq (rg (zm (zm (zm ?_))))))))
  refine z ?_ (h := fun ν => ix0 ν qP11_un_42 qP11_sz_46 vt (hlt := (by first | omega | assumption)))
  refine z ?_ (h := fun ν => lC ν qP11_ti_46 (by first | omega | assumption))
  refine z ?_ (h := fun ν => acts_call1 ν (spec_DominoAt_fn P (gC (cellsOf R) k) (by first | omega | assumption)) (ac (argv_own (by first | exact dsl_len _ | (simp [isl_len, bsl_len, dsl_len, csl_len]; done) | (simp [isl_len, bsl_len, dsl_len, csl_len]; omega))) (ac (ArgV.va va) an)) rv)
  refine z ?_ (h := fun ν => acts_bin ν vt vc (r_geq rfl))
  refine nl ?_
  refine wi (fun c3 => ?_) (fun c3 => ?_)
  ·skip
   have c3P := of_decide_eq_true c3
   have hnx := gr_cov (b := b) (R := R) (c := cz) hkl (of_decide_eq_true c3)
   refine wp_exit' (rg (zm ?_))
   refine z ?_ (h := fun ν => acts_bin ν vt vc (rA (by first | omega | assumption) (by first | omega | assumption)))
   refine za (nl ?_)
   exact loop_back ((k + 1), cz, P) (by first | exact ⟨by omega, by omega, hi0, hnx.symm.trans hgr⟩ | exact ⟨by omega, by omega, hi4, hnx.symm.trans hgr⟩ | exact ⟨by omega, by (simp only [List.length_append, List.length_singleton]; omega), hi4, hnx.symm.trans hgr⟩) (by show (cellsOf R).length - (k + 1) < (cellsOf R).length - k; omega) (wkf id (wS <| wS <| wS <| wS <| wE (e := (vint (by first | rfl | omega | (simp; done) | (simp; omega)))) <| wX <| wX <| wP <| wP <| wP <| by (iterate 17 refine wF ?_); exact wN))
  ·skip
   have c3P := of_decide_eq_false c3
   have hnx := gr_new (b := b) (R := R) (c := cz) hkl (of_decide_eq_false c3)
   refine sk (sq (wp_dr (zdm (zdm ?_))))
   refine zd ?_ (h := fun ν => ix0 ν qP11_un_42 qP11_sz_46 vt (hlt := (by first | omega | assumption)))
   refine zd ?_ (h := fun ν => acts_field (off' := (k * 2)) ν qP11_fo_46_0 rfl)
   refine zd ?_ (h := fun ν => acts_load_own ν qP11_ti_3 (by exact pl_get (csl_x (k := k) (by first | omega | assumption))))
   refine zdm (zdm ?_)
   refine zd ?_ (h := fun ν => ix0 ν qP11_un_42 qP11_sz_46 vt (hlt := (by first | omega | assumption)))
   refine zd ?_ (h := fun ν => acts_field (off' := (k * 2 + 1)) ν qP11_fo_46_1 rfl)
   refine zd ?_ (h := fun ν => acts_load_own ν qP11_ti_3 (by exact pl_get (csl_y (k := k) (by first | omega | assumption))))
   refine zdm ?_
   refine zd ?_ (h := fun ν => acts_callO (d := 38) (f := 104) (os := [(.o 1, some (.o ⟨97, 3, true, [(.slv b.length 1 (ysl b) : A), aI ((cz.i : Nat) : Int), aI cz.h]⟩))]) (os' := [(.o 1, some (.o ⟨97, 3, true, [(.slv b.length 1 (ysl b) : A), aI (((cuN b cz 2).i : Nat) : Int), aI ((cuN b cz 2).h)]⟩))]) (r := V.v (.bool (decide (cuX b cz 2 = 0)))) (bs := [.a (.ptr 1 0), .a (.val (.int .i64 2))]) (keep := [1]) (new := []) (dead := []) ν ((spec_l01Once_fn b cz 2 (by first | omega | assumption) (by first | omega | assumption) (by first | omega | assumption) (by first | omega | assumption) (by first | omega | assumption))) (by kernel_rfl) ⟨ocs (by kernel_rfl), trivial⟩ (by kernel_rfl) (ArgOs.cons (ArgO.slot 37 (.a (.ptr 1 0))) (ArgOs.cons ((ArgO.v vc)) (ArgOs.nil))))
   refine zd ?_ (h := fun ν => bD ν qP11_bs_37 vt vt vt)
   refine zd ?_ (h := fun ν => acts_alloc' (h := 8) (cap := 1) (s := 3) (cells := [aI 0, aI 0, aB false]) ν qP11_zi_37 rfl rfl (by decide))
   refine zd ?_ (h := fun _ => acts_store (cells := [aI ((gC (cellsOf R) k).x), aI ((gC (cellsOf R) k).y), aB (decide (cuX b cz 2 = 0))]) qP11_ti_37 xt (by exact rfl) (by decide) (by exact ob1 rfl) (by exact Nat.le_of_ble_eq_true rfl) (by exact rfl))
   refine dw_nil (sq (rg (zk (nl (bkk ?_)))))
   refine wp_loop' (fun ((j, e) : Nat × Bool) => j ≤ 2 ∧ (j = 0 → e = (decide (cuX b cz 2 = 0))) ∧ (j = 1 → e = (!(decide (cuX b cz 2 = 0))) ∧ grT R P ⟨(gC (cellsOf R) k).x, (gC (cellsOf R) k).y, (decide (cuX b cz 2 = 0))⟩ = false) ∧ (j = 2 → grT R P ⟨(gC (cellsOf R) k).x, (gC (cellsOf R) k).y, (decide (cuX b cz 2 = 0))⟩ = false ∧ grT R P ⟨(gC (cellsOf R) k).x, (gC (cellsOf R) k).y, !(decide (cuX b cz 2 = 0))⟩ = false)) (fun ((j, e) : Nat × Bool) => [kP 0 1 0, kP 3 3 0, kS 5 11 0 P.length, kS 6 13 0 ((cellsOf R).length), kI 7 ((k : Nat) : Int), kP 8 8 0, kI 9 ((j : Nat) : Int), kO 1 97 3 true [(.slv b.length 1 (ysl b) : A), aI (((cuN b cz 2).i : Nat) : Int), aI ((cuN b cz 2).h)], kO 3 26 1 true [(.sl 800 0 R.length : A)], kO 8 37 3 true [aI ((gC (cellsOf R) k).x), aI ((gC (cellsOf R) k).y), aB e], kO 11 37 3 true (pl (dsl P)), kO 13 46 2 true (pl (csl (cellsOf R))), kO 800 3 1 true (pl (isl R)), kF 10, kF 16, kF 25, kF 38, kF 45, kF 47, kF 51, kF 56, kF 61, kF 62, kF 68, kF 69, kF 70, kF 71, kF 1000, kF 1001]) (fun ((j, e) : Nat × Bool) => 2 - j) ((0 : Nat), ((decide (cuX b cz 2 = 0)) : Bool)) (by exact ⟨Nat.zero_le _, fun _ => rfl, fun h => absurd h (by decide), fun h => absurd h (by decide)⟩) (wkf id (wS <| wS <| wS <| wS <| wS <| wS <| wE (e := (vint (by first | rfl | omega | (simp; done) | (simp; omega)))) <| wX <| wX <| wX <| wP <| wP <| wP <| by (iterate 16 refine wF ?_); exact wN)) ?_
   rintro ⟨j, e⟩ inv4
   replace inv4 : j ≤ 2 ∧ (j = 0 → e = (decide (cuX b cz 2 = 0))) ∧ (j = 1 → e = (!(decide (cuX b cz 2 = 0))) ∧ grT R P ⟨(gC (cellsOf R) k).x, (gC (cellsOf R) k).y, (decide (cuX b cz 2 = 0))⟩ = false) ∧ (j = 2 → grT R P ⟨(gC (cellsOf R) k).x, (gC (cellsOf R) k).y, (decide (cuX b cz 2 = 0))⟩ = false ∧ grT R P ⟨(gC (cellsOf R) k).x, (gC (cellsOf R) k).y, !(decide (cuX b cz 2 = 0))⟩ = false) := inv4
   obtain ⟨hj2, hj0, hj1, hjj⟩ := inv4
   refine sq (sq (rg (zm ?_)))
   refine z ?_ (h := fun ν => acts_bin ν vt vc (r_lss rfl))
   refine nl ?_
   refine wi (fun c5 => ?_) (fun c5 => ?_)
   ·skip
    have c5P := of_decide_eq_true c5
    have hj : j < 2 := by omega
    refine sk (sq (bkk (sq (rg ?_))))
    refine z ?_ (h := fun ν => acts_load_owns (xs := [vI ((gC (cellsOf R) k).x), vI ((gC (cellsOf R) k).y), .bool e].map A.val) ν qP11_ti_37 rfl (by decide) rfl)
    refine z ?_ (h := fun ν => acts_call1 ν (l05Second_b (⟨(gC (cellsOf R) k).x, (gC (cellsOf R) k).y, e⟩ : Dom) (by first | omega | assumption)) (ac (ArgV.va va) an) (ResV.agg [vI ((cb (⟨(gC (cellsOf R) k).x, (gC (cellsOf R) k).y, e⟩ : Dom)).x), vI ((cb (⟨(gC (cellsOf R) k).x, (gC (cellsOf R) k).y, e⟩ : Dom)).y)]))
    refine z ?_ (h := fun ν => acts_alloc' (h := 10) (cap := 1) (s := 2) (cells := [aI 0, aI 0]) ν qP11_zi_46 rfl rfl (by decide))
    refine z ?_ (h := fun _ => acts_store (cells := [aI ((cb (⟨(gC (cellsOf R) k).x, (gC (cellsOf R) k).y, e⟩ : Dom)).x), aI ((cb (⟨(gC (cellsOf R) k).x, (gC (cellsOf R) k).y, e⟩ : Dom)).y)]) qP11_ti_46 xt (by exact rfl) (by decide) (by exact ob1 rfl) (by exact Nat.le_of_ble_eq_true rfl) (by exact rfl))
    refine nl (sq (sq ?_))
    rcases Bool.eq_false_or_eq_true ((okD (⟨(gC (cellsOf R) k).x, (gC (cellsOf R) k).y, e⟩ : Dom))) with c6 | c6
    ·skip
     have hok := c6
     rcases Bool.eq_false_or_eq_true ((hasC R (cb (⟨(gC (cellsOf R) k).x, (gC (cellsOf R) k).y, e⟩ : Dom)))) with c7 | c7
     ·skip
      have hhc := c7
      refine rg ?_
      refine z ?_ (h := fun ν => acts_load_owns (xs := [vI ((gC (cellsOf R) k).x), vI ((gC (cellsOf R) k).y), .bool e].map A.val) ν qP11_ti_37 rfl (by decide) rfl)
      refine z ?_ (h := fun ν => acts_call1 ν (spec_DominoOk_fn (⟨(gC (cellsOf R) k).x, (gC (cellsOf R) k).y, e⟩ : Dom) ) (ac (ArgV.va va) an) (resval (congrArg Value.bool c6)))
      refine zm ?_
      refine zg ?_ (h := fun ν => step_on rfl rfl (acts_load_owns (xs := [(.sl 800 0 R.length : A)]) ν qP11_ti_26 rfl (by decide) rfl))
      refine zg ?_ (h := fun ν => step_on rfl rfl (acts_load_owns (xs := [vI ((cb (⟨(gC (cellsOf R) k).x, (gC (cellsOf R) k).y, e⟩ : Dom)).x), vI ((cb (⟨(gC (cellsOf R) k).x, (gC (cellsOf R) k).y, e⟩ : Dom)).y)].map A.val) ν qP11_ti_46 rfl (by decide) rfl))
      refine zg ?_ (h := fun ν => step_on rfl rfl (acts_call1 ν (spec_HasCell_fn R (cb (⟨(gC (cellsOf R) k).x, (gC (cellsOf R) k).y, e⟩ : Dom)) (by first | omega | assumption)) (ac (ArgV.reg _ _ _ (s := 1) (by simp [isl]) (by first | exact List.take_of_length_le (by simp [isl]) | (simp [isl]; done))) (ac (ArgV.va va) an)) (resval (congrArg Value.bool c7))))
      refine z ?_ (h := fun ν => acts_pick_t ν vt xt)
      refine zm ?_
      refine zg ?_ (h := fun ν => step_on rfl rfl (mt ν))
      refine zg ?_ (h := fun ν => step_on rfl rfl (acts_load_owns (xs := [vI ((cb (⟨(gC (cellsOf R) k).x, (gC (cellsOf R) k).y, e⟩ : Dom)).x), vI ((cb (⟨(gC (cellsOf R) k).x, (gC (cellsOf R) k).y, e⟩ : Dom)).y)].map A.val) ν qP11_ti_46 rfl (by decide) rfl))
      refine zg ?_ (h := fun ν => step_on rfl rfl (acts_call1 ν (spec_DominoAt_fn P (cb (⟨(gC (cellsOf R) k).x, (gC (cellsOf R) k).y, e⟩ : Dom)) (by first | omega | assumption)) (ac (argv_own (by first | exact dsl_len _ | (simp [isl_len, bsl_len, dsl_len, csl_len]; done) | (simp [isl_len, bsl_len, dsl_len, csl_len]; omega))) (ac (ArgV.va va) an)) rv))
      refine zg ?_ (h := fun ν => step_on rfl rfl (acts_bin ν vt vc (r_lss rfl)))
      refine z ?_ (h := fun ν => acts_pick_t ν vt xt)
      refine nl ?_
      refine wi (fun c8 => ?_) (fun c8 => ?_)
      ·skip
       have c8P := of_decide_eq_true c8
       have hyes : grT R P (⟨(gC (cellsOf R) k).x, (gC (cellsOf R) k).y, e⟩ : Dom) = true := by unfold grT; rw [hok, hhc, c8]; rfl
       have hg2 := gr2_yes hyes hj hj0 hj1
       rw [hg2] at hnx
       refine sq (rg (zm ?_))
       refine z ?_ (h := fun ν => acts_load_owns (xs := [vI ((gC (cellsOf R) k).x), vI ((gC (cellsOf R) k).y), .bool e].map A.val) ν qP11_ti_37 rfl (by decide) rfl)
       refine z ?_ (h := fun ν => acts_buildSlice' (h := 61) (xs := dsl ([(⟨(gC (cellsOf R) k).x, (gC (cellsOf R) k).y, e⟩ : Dom)] : List Dom)) ν qP11_un_30 qP11_zi_37 (.cons va OpVs.nil) (by decide) (by decide) (by kernel_rfl) rfl)
       refine z ?_ (h := fun ν => aD_ (h2 := 62) (L3 := (P ++ [(⟨(gC (cellsOf R) k).x, (gC (cellsOf R) k).y, e⟩ : Dom)])) ν qP11_un_30 qP11_zi_37 (by first | exact rfl | (simp; done) | (simp; omega) | omega) rfl (by first | exact rfl | (simp; done) | (simp; omega) | omega) (by first | omega | (simp; omega) | (simp at *; omega)))
       refine za (nl (wp_exit' (rg (zm ?_))))
       refine z ?_ (h := fun ν => acts_bin ν vt vc (rA (by first | omega | assumption) (by first | omega | assumption)))
       refine za (nl ?_)
       exact loop_back ((k + 1), (cuN b cz 2), (P ++ [(⟨(gC (cellsOf R) k).x, (gC (cellsOf R) k).y, e⟩ : Dom)])) (by first | exact ⟨by omega, by omega, hi0, hnx.symm.trans hgr⟩ | exact ⟨by omega, by omega, hi4, hnx.symm.trans hgr⟩ | exact ⟨by omega, by (simp only [List.length_append, List.length_singleton]; omega), hi4, hnx.symm.trans hgr⟩) (by show (cellsOf R).length - (k + 1) < (cellsOf R).length - k; omega) (wkf (subst1 [(11, 62)]) (wS <| wS <| wS <| wS <| wE (e := (vint (by first | rfl | omega | (simp; done) | (simp; omega)))) <| wX <| wX <| wP <| wP <| wP <| by (iterate 17 refine wF ?_); exact wN))
      ·skip
       have c8P := of_decide_eq_false c8
       have hno : grT R P (⟨(gC (cellsOf R) k).x, (gC (cellsOf R) k).y, e⟩ : Dom) = false := by unfold grT; rw [hok, hhc, c8]; rfl
       refine sk (rg ?_)
       refine z ?_ (h := fun ν => acts_field (off' := 2) ν qP11_fo_37_2 rfl)
       refine z ?_ (h := fun ν => acts_load_own (x := .val (.bool e)) ν qP11_ti_4 (by exact rfl))
       refine z ?_ (h := fun ν => acts_un ν vt (r_not rfl))
       refine z ?_ (h := fun ν => acts_field (off' := 2) ν qP11_fo_37_2 rfl)
       refine z ?_ (h := fun _ => acts_store (cells := [aI ((gC (cellsOf R) k).x), aI ((gC (cellsOf R) k).y), aB (!e)]) qP11_ti_4 xt (by exact rfl) (by decide) (by exact ob1 rfl) (by exact Nat.le_of_ble_eq_true rfl) (by exact rfl))
       refine nl (rg (zm ?_))
       refine z ?_ (h := fun ν => acts_bin ν vt vc (rA (by first | omega | assumption) (by first | omega | assumption)))
       refine za (nl ?_)
       exact loop_back ((j + 1), (!e)) (by exact gr_turn hj (by omega) hj0 hj1 hno) (by show 2 - (j + 1) < 2 - j; omega) (wkf id (wS <| wS <| wS <| wS <| wS <| wS <| wE (e := (vint (by first | rfl | omega | (simp; done) | (simp; omega)))) <| wX <| wX <| wX <| wP <| wP <| wP <| by (iterate 16 refine wF ?_); exact wN))
     ·skip
      have hno : grT R P (⟨(gC (cellsOf R) k).x, (gC (cellsOf R) k).y, e⟩ : Dom) = false := by unfold grT; rw [hok, c7]; rfl
      refine rg ?_
      refine z ?_ (h := fun ν => acts_load_owns (xs := [vI ((gC (cellsOf R) k).x), vI ((gC (cellsOf R) k).y), .bool e].map A.val) ν qP11_ti_37 rfl (by decide) rfl)
      refine z ?_ (h := fun ν => acts_call1 ν (spec_DominoOk_fn (⟨(gC (cellsOf R) k).x, (gC (cellsOf R) k).y, e⟩ : Dom) ) (ac (ArgV.va va) an) (resval (congrArg Value.bool c6)))
      refine zm ?_
      refine zg ?_ (h := fun ν => step_on rfl rfl (acts_load_owns (xs := [(.sl 800 0 R.length : A)]) ν qP11_ti_26 rfl (by decide) rfl))
      refine zg ?_ (h := fun ν => step_on rfl rfl (acts_load_owns (xs := [vI ((cb (⟨(gC (cellsOf R) k).x, (gC (cellsOf R) k).y, e⟩ : Dom)).x), vI ((cb (⟨(gC (cellsOf R) k).x, (gC (cellsOf R) k).y, e⟩ : Dom)).y)].map A.val) ν qP11_ti_46 rfl (by decide) rfl))
      refine zg ?_ (h := fun ν => step_on rfl rfl (acts_call1 ν (spec_HasCell_fn R (cb (⟨(gC (cellsOf R) k).x, (gC (cellsOf R) k).y, e⟩ : Dom)) (by first | omega | assumption)) (ac (ArgV.reg _ _ _ (s := 1) (by simp [isl]) (by first | exact List.take_of_length_le (by simp [isl]) | (simp [isl]; done))) (ac (ArgV.va va) an)) (resval (congrArg Value.bool c7))))
      refine z ?_ (h := fun ν => acts_pick_t ν vt xt)
      refine zm (zo (zo (zo (zo ?_))))
      refine z ?_ (h := fun ν => acts_pick_f ν vt xc)
      refine nl (wf (sk (rg ?_)))
      refine z ?_ (h := fun ν => acts_field (off' := 2) ν qP11_fo_37_2 rfl)
      refine z ?_ (h := fun ν => acts_load_own (x := .val (.bool e)) ν qP11_ti_4 (by exact rfl))
      refine z ?_ (h := fun ν => acts_un ν vt (r_not rfl))
      refine z ?_ (h := fun ν => acts_field (off' := 2) ν qP11_fo_37_2 rfl)
      refine z ?_ (h := fun _ => acts_store (cells := [aI ((gC (cellsOf R) k).x), aI ((gC (cellsOf R) k).y), aB (!e)]) qP11_ti_4 xt (by exact rfl) (by decide) (by exact ob1 rfl) (by exact Nat.le_of_ble_eq_true rfl) (by exact rfl))
      refine nl (rg (zm ?_))
      refine z ?_ (h := fun ν => acts_bin ν vt vc (rA (by first | omega | assumption) (by first | omega | assumption)))
      refine za (nl ?_)
      exact loop_back ((j + 1), (!e)) (by exact gr_turn hj (by omega) hj0 hj1 hno) (by show 2 - (j + 1) < 2 - j; omega) (wkf id (wS <| wS <| wS <| wS <| wS <| wS <| wE (e := (vint (by first | rfl | omega | (simp; done) | (simp; omega)))) <| wX <| wX <| wX <| wP <| wP <| wP <| by (iterate 16 refine wF ?_); exact wN))
    ·skip
     have hno : grT R P (⟨(gC (cellsOf R) k).x, (gC (cellsOf R) k).y, e⟩ : Dom) = false := by unfold grT; rw [c6]; rfl
     refine rg ?_
     refine z ?_ (h := fun ν => acts_load_owns (xs := [vI ((gC (cellsOf R) k).x), vI ((gC (cellsOf R) k).y), .bool e].map A.val) ν qP11_ti_37 rfl (by decide) rfl)
     refine z ?_ (h := fun ν => acts_call1 ν (spec_DominoOk_fn (⟨(gC (cellsOf R) k).x, (gC (cellsOf R) k).y, e⟩ : Dom) ) (ac (ArgV.va va) an) (resval (congrArg Value.bool c6)))
     refine zm (zo (zo (zo ?_)))
     refine z ?_ (h := fun ν => acts_pick_f ν vt xc)
     refine zm (zo (zo (zo (zo ?_))))
     refine z ?_ (h := fun ν => acts_pick_f ν vt xc)
     refine nl (wf (sk (rg ?_)))
     refine z ?_ (h := fun ν => acts_field (off' := 2) ν qP11_fo_37_2 rfl)
     refine z ?_ (h := fun ν => acts_load_own (x := .val (.bool e)) ν qP11_ti_4 (by exact rfl))
     refine z ?_ (h := fun ν => acts_un ν vt (r_not rfl))
     refine z ?_ (h := fun ν => acts_field (off' := 2) ν qP11_fo_37_2 rfl)
     refine z ?_ (h := fun _ => acts_store (cells := [aI ((gC (cellsOf R) k).x), aI ((gC (cellsOf R) k).y), aB (!e)]) qP11_ti_4 xt (by exact rfl) (by decide) (by exact ob1 rfl) (by exact Nat.le_of_ble_eq_true rfl) (by exact rfl))
     refine nl (rg (zm ?_))
     refine z ?_ (h := fun ν => acts_bin ν vt vc (rA (by first | omega | assumption) (by first | omega | assumption)))
     refine za (nl ?_)
     exact loop_back ((j + 1), (!e)) (by exact gr_turn hj (by omega) hj0 hj1 hno) (by show 2 - (j + 1) < 2 - j; omega) (wkf id (wS <| wS <| wS <| wS <| wS <| wS <| wE (e := (vint (by first | rfl | omega | (simp; done) | (simp; omega)))) <| wX <| wX <| wX <| wP <| wP <| wP <| by (iterate 16 refine wF ?_); exact wN))
   ·skip
    have c5P := of_decide_eq_false c5
    have hj22 := hjj (by omega)
    have hg2 := gr2_no hj22.1 hj22.2
    rw [hg2] at hnx
    refine wp_exit' (rg (zm ?_))
    refine z ?_ (h := fun ν => acts_bin ν vt vc (rA (by first | omega | assumption) (by first | omega | assumption)))
    refine za (nl ?_)
    exact loop_back ((k + 1), (cuN b cz 2), P) (by first | exact ⟨by omega, by omega, hi0, hnx.symm.trans hgr⟩ | exact ⟨by omega, by omega, hi4, hnx.symm.trans hgr⟩ | exact ⟨by omega, by (simp only [List.length_append, List.length_singleton]; omega), hi4, hnx.symm.trans hgr⟩) (by show (cellsOf R).length - (k + 1) < (cellsOf R).length - k; omega) (wkf id (wS <| wS <| wS <| wS <| wE (e := (vint (by first | rfl | omega | (simp; done) | (simp; omega)))) <| wX <| wX <| wP <| wP <| wP <| by (iterate 17 refine wF ?_); exact wN))
 ·skip
  have c2P := of_decide_eq_false c2
  have hfin := hgr.symm.trans (gr_end (by omega))
  refine wp_exit' (sq (rg (zm (za (nl (wp_ret' ?_))))))
  exact ⟨[kS 4 900 0 P.length, kO 1 97 3 true [(.slv b.length 1 (ysl b) : A), aI ((cz.i : Nat) : Int), aI cz.h], kO 800 3 1 true (pl (isl R)), kO 900 37 3 true (pl (dsl P)), kF 3, kF 8, kF 10, kF 11, kF 13, kF 16, kF 25, kF 38, kF 45, kF 47, kF 51, kF 56, kF 61, kF 62, kF 68, kF 69, kF 70, kF 71, kF 1000, kF 1001], wkf (subst1 [(900, 11)]) (wS <| wX <| wP <| wP <| by (iterate 20 refine wF ?_); exact wN), ⟨obj_eq (c := [(.slv b.length 1 (ysl b) : A), aI ((cz.i : Nat) : Int), aI cz.h]) (by kernel_rfl) (by first | exact cu_cells (congrArg Prod.snd hfin).symm _ _ | exact cu_cells (congrArg Prod.snd hfin) _ _ | exact (congrArg Prod.fst hfin).symm | exact congrArg Prod.fst hfin), by kernel_rfl, obj_eq (c := pl (dsl P)) (by kernel_rfl) (congrArg (fun z => pl (dsl z)) (by first | exact cu_cells (congrArg Prod.snd hfin).symm _ _ | exact cu_cells (congrArg Prod.snd hfin) _ _ | exact (congrArg Prod.fst hfin).symm | exact congrArg Prod.fst hfin)), trivial⟩, vo_eq 4 (.a (.sl 900 0 P.length)) (.a (.sl 900 0 ((grL b R (cellsOf R) c []).1.length))) (by kernel_rfl) (congrArg (fun z : Nat => B.a (.sl 900 0 z)) (by first | exact congrArg (fun z => z.1.length) hfin.symm | exact congrArg (fun z => z.1.length) hfin))⟩

set_option maxHeartbeats 4000000 in
set_option maxRecDepth 100000 in
theorem l06Greedy_R (b : List Nat) (c : Cu) (R : List Int) (P : List Dom) (hb : b.length ≤ 1048576) (hy : ∀ x ∈ b, x < 256) (hi : c.i ≤ b.length) (hl : R.length ≤ 8) (hP : (grL b R (cellsOf R) c []).1 = P) : FnO Try.prog 66 [.a (.ptr 1 0), .agg [(.sl 800 0 R.length : A)]] [(.o 1, some (.o ⟨97, 3, true, [(.slv b.length 1 (ysl b) : A), aI ((c.i : Nat) : Int), aI c.h]⟩)), (.o 800, some (.o ⟨3, 1, true, pl (isl R)⟩))] (V.b (.a (.sl 900 0 P.length))) [(.o 1, some (.o ⟨97, 3, true, [(.slv b.length 1 (ysl b) : A), aI ((((grL b R (cellsOf R) c []).2).i : Nat) : Int), aI (((grL b R (cellsOf R) c []).2).h)]⟩)), (.o 800, some (.o ⟨3, 1, true, pl (isl R)⟩)), (.o 900, some (.o ⟨37, 3, true, pl (dsl P)⟩))] [1, 800] := by
 subst hP
 exact spec_l06Greedy_fn b c R hb hy hi hl

set_option maxHeartbeats 4000000 in
set_option maxRecDepth 100000 in
theorem spec_DrawPartial_fn (b : List Nat) (R : List Int) (cz : Cu) (P : List Dom) (hb : b.length ≤ 1048576) (hy : ∀ x ∈ b, x < 256) (hR : (r3 b (cu0 b)).1 = R) (hz : (r3 b (cu0 b)).2 = cz) (hP : (grL b R (cellsOf R) cz []).1 = P) : FnO Try.prog 25 [.a (.slv b.length 1 (ysl b))] [] (V.tup [.agg [(.sl 900 0 R.length : A)], .a (.sl 901 0 P.length)]) [(.o 900, some (.o ⟨3, 1, true, pl (isl R)⟩)), (.o 901, some (.o ⟨37, 3, true, pl (dsl P)⟩))] [] := by
 have hRl : R.length ≤ 8 := hR ▸ r3_len b (cu0 b)
 have hzi : cz.i ≤ b.length := hz ▸ r3_i (c := cu0 b) (Nat.zero_le _)
 refine fn_introO (N := 14) Try.func25 rfl (by kernel_rfl) rfl (Nat.le_of_ble_eq_true rfl) rfl rfl (by kernel_rfl) (by kernel_rfl) trivial [2, 5, 7, 9, 13, 14, 15, 16, 17] (retO2 rfl) (fun W own kp im0 => ?_)
 show Wp _ _ _ [kV 0 (V.b (.a (.slv b.length 1 (ysl b)))), kF 2, kF 5, kF 7, kF 9, kF 13, kF 14, kF 15, kF 16, kF 17]
 refine sq (rg ?_)
 refine z ?_ (h := fun ν => acts_alloc' (h := 2) (cap := 1) (s := 1) (cells := [(.val (.slice none 0 0) : A)]) ν qP11_zi_26 rfl rfl (by decide))
 refine zk (nl (sq (rg (zm ?_))))
 refine z ?_ (h := fun ν => acts_callO (d := 7) (f := 43) (os := []) (os' := [(.o 5, some (.o ⟨97, 3, true, [(.slv b.length 1 (ysl b) : A), aI (((cu0 b).i : Nat) : Int), aI ((cu0 b).h)]⟩))]) (r := V.p 5 0) (bs := [.a (.slv b.length 1 (ysl b))]) (keep := []) (new := [5]) (dead := []) ν (FnO.ren' (spec_l01New_fn b (by first | omega | assumption | exact (Nat.zero_le _ : 0 ≤ _)) (by first | omega | assumption | exact (Nat.zero_le _ : 0 ≤ _))) (subst1 [(900, 5)]) rfl rfl (by kernel_rfl) (by kernel_rfl) ⟨ocs (by kernel_rfl), trivial⟩ (by kernel_rfl) rfl (by simp only [renS, Ob.ren, pl_ren, rws_ren_doms, rws_ren_ints, rws_ren_cels, rwI_ren, rwD_ren]; first | done | rfl) (by simp only [renS, Ob.ren, pl_ren, rws_ren_doms, rws_ren_ints, rws_ren_cels, rwI_ren, rwD_ren]; first | done | rfl) rfl rfl) (by kernel_rfl) ⟨ocs (by kernel_rfl), trivial⟩ (by kernel_rfl) (ArgOs.cons (ArgO.slot 6 (.a (.slv b.length 1 (ysl b)))) (ArgOs.nil)))
 refine za (nl (sq (rg (zm ?_))))
 refine z ?_ (h := fun ν => acts_callO (d := 9) (f := 65) (os := [(.o 5, some (.o ⟨97, 3, true, [(.slv b.length 1 (ysl b) : A), aI (((cu0 b).i : Nat) : Int), aI ((cu0 b).h)]⟩))]) (os' := [(.o 5, some (.o ⟨97, 3, true, [(.slv b.length 1 (ysl b) : A), aI ((cz.i : Nat) : Int), aI cz.h]⟩)), (.o 7, some (.o ⟨3, 1, true, pl (isl R)⟩))]) (r := V.b (.agg [(.sl 7 0 R.length : A)])) (bs := [.a (.ptr 5 0)]) (keep := [5]) (new := [7]) (dead := []) ν (FnO.ren' (l03Region_R b (cu0 b) R cz (by first | exact hR | exact hz | omega | assumption | exact (Nat.zero_le _ : 0 ≤ _)) (by first | exact hR | exact hz | omega | assumption | exact (Nat.zero_le _ : 0 ≤ _)) (by first | exact hR | exact hz | omega | assumption | exact (Nat.zero_le _ : 0 ≤ _)) (by first | exact hR | exact hz | omega | assumption | exact (Nat.zero_le _ : 0 ≤ _)) (by first | exact hR | exact hz | omega | assumption | exact (Nat.zero_le _ : 0 ≤ _))) (subst1 [(1, 5), (900, 7)]) rfl rfl (by kernel_rfl) (by kernel_rfl) ⟨ocs (by kernel_rfl), oc_pl (fun _ => rfl), trivial⟩ (by kernel_rfl) rfl (by simp only [renS, Ob.ren, pl_ren, rws_ren_doms, rws_ren_ints, rws_ren_cels, rwI_ren, rwD_ren]; first | done | rfl) (by simp only [renS, Ob.ren, pl_ren, rws_ren_doms, rws_ren_ints, rws_ren_cels, rwI_ren, rwD_ren]; first | done | rfl) rfl rfl) (by kernel_rfl) ⟨ocs (by kernel_rfl), oc_pl (fun _ => rfl), trivial⟩ (by kernel_rfl) (ArgOs.cons (ArgO.slot 8 (.a (.ptr 5 0))) (ArgOs.nil)))
 refine z ?_ (h := fun ν => acts_alloc' (h := 9) (cap := 1) (s := 1) (cells := [(.val (.slice none 0 0) : A)]) ν qP11_zi_26 rfl rfl (by decide))
 refine z ?_ (h := fun _ => acts_store (cells := [(.sl 7 0 R.length : A)]) qP11_ti_26 xt (by exact rfl) (by decide) (by exact ob1 rfl) (by exact Nat.le_of_ble_eq_true rfl) (by exact rfl))
 refine nl (sq (wp_dr ?_))
 refine zd ?_ (h := fun ν => acts_load_owns (xs := [(.sl 7 0 R.length : A)]) ν qP11_ti_26 rfl (by decide) rfl)
 refine zdm ?_
 refine zd ?_ (h := fun ν => acts_load_owns (xs := [(.sl 7 0 R.length : A)]) ν qP11_ti_26 rfl (by decide) rfl)
 refine zd ?_ (h := fun ν => acts_callO (d := 13) (f := 66) (os := [(.o 5, some (.o ⟨97, 3, true, [(.slv b.length 1 (ysl b) : A), aI ((cz.i : Nat) : Int), aI cz.h]⟩)), (.o 7, some (.o ⟨3, 1, true, pl (isl R)⟩))]) (os' := [(.o 5, some (.o ⟨97, 3, true, [(.slv b.length 1 (ysl b) : A), aI ((((grL b R (cellsOf R) cz []).2).i : Nat) : Int), aI (((grL b R (cellsOf R) cz []).2).h)]⟩)), (.o 7, some (.o ⟨3, 1, true, pl (isl R)⟩)), (.o 13, some (.o ⟨37, 3, true, pl (dsl P)⟩))]) (r := V.b (.a (.sl 13 0 P.length))) (bs := [.a (.ptr 5 0), .agg [(.sl 7 0 R.length : A)]]) (keep := [5, 7]) (new := [13]) (dead := []) ν (FnO.ren' (l06Greedy_R b cz R P (by first | exact hP | omega | assumption) (by first | exact hP | omega | assumption) (by first | exact hP | omega | assumption) (by first | exact hP | omega | assumption) (by first | exact hP | omega | assumption)) (subst1 [(1, 5), (800, 7), (900, 13)]) rfl rfl (by kernel_rfl) (by kernel_rfl) ⟨ocs (by kernel_rfl), oc_pl (fun _ => rfl), oc_pl (fun _ => rfl), trivial⟩ (by kernel_rfl) rfl (by simp only [renS, Ob.ren, pl_ren, rws_ren_doms, rws_ren_ints, rws_ren_cels, rwI_ren, rwD_ren]; first | done | rfl) (by simp only [renS, Ob.ren, pl_ren, rws_ren_doms, rws_ren_ints, rws_ren_cels, rwI_ren, rwD_ren]; first | done | rfl) rfl rfl) (by kernel_rfl) ⟨ocs (by kernel_rfl), oc_pl (fun _ => rfl), oc_pl (fun _ => rfl), trivial⟩ (by kernel_rfl) (ArgOs.cons (ArgO.slot 11 (.a (.ptr 5 0))) (ArgOs.cons (ArgO.slot 12 (.agg [(.sl 7 0 R.length : A)])) (ArgOs.nil))))
 refine zd ?_ (h := fun _ => acts_store (cells := [(.sl 7 0 R.length : A)]) qP11_ti_26 xt (by exact rfl) (by decide) (by exact ob1 rfl) (by exact Nat.le_of_ble_eq_true rfl) (by exact rfl))
 refine zd ?_ (h := fun ν => gt ν)
 refine dw_nil (wp_ret' ?_)
 exact ⟨[kP 2 2 0, kS 3 901 0 P.length, kO 2 26 1 true [(.sl 900 0 R.length : A)], kO 900 3 1 true (pl (isl R)), kO 901 37 3 true (pl (dsl P)), kF 5, kF 7, kF 9, kF 13, kF 14, kF 15, kF 16, kF 17], wkf (subst1 [(900, 7), (901, 13)]) (wS <| wS <| wX <| wP <| wP <| wF <| wF <| wF <| wF <| wF <| wF <| wF <| wF <| wN), ⟨by kernel_rfl, by kernel_rfl, trivial⟩, ⟨vo_cells (h := 2) ⟨26, 1, true, [(.sl 900 0 R.length : A)]⟩ (by kernel_rfl) (by kernel_rfl) qP11_ti_26 (Nat.le_of_ble_eq_true rfl) rfl, VO.tmp 3 (.a (.sl 901 0 P.length)) (by kernel_rfl)⟩⟩
end Cl
end Go.Proofs.Ytjgjeflidcembaa
