/- Walks over clean states, printed by wg.py. No statement is proved here. -/
import Derived.Test.YtgmkkfdnmdohlaaGreatDoorC10
import Derived.Test.YtgmkkfdnmdohlaaGreatDoorC1
import Derived.Test.YtgmkkfdnmdohlaaGreatDoorClB
set_option linter.unusedSimpArgs false
set_option linter.unusedVariables false
namespace Go.Proofs.YtgmkkfdnmdohlaaGreatDoor
namespace Cl
open Go.ChangeShapes Go.WideShapes Go.ChangeAt Go.RowKit
set_option maxRecDepth 20000

theorem qC12_bs_70 : ∀ (a b : Int), Tryz.prog.built 70 [(0, .int .i64 a), (1, .int .i64 b)] = some ([.int .i64 a, .int .i64 b] : List Value).toArray := fun _ _ => rfl
theorem qC12_fo_70_0 : fieldOff Tryz.prog 70 0 = some 0 := by kernel_rfl
theorem qC12_fo_70_1 : fieldOff Tryz.prog 70 1 = some 1 := by kernel_rfl
theorem qC12_sz_3 : (Tryz.prog.info? 3).map (·.size) = some 1 := by kernel_rfl
theorem qC12_ti_29 : TI Tryz.prog 29 true 1 := ⟨⟨_, Tryz.underlying29, rfl⟩, by kernel_rfl⟩
theorem qC12_ti_3 : TI Tryz.prog 3 false 1 := ⟨⟨_, Tryz.underlying3, rfl⟩, by kernel_rfl⟩
theorem qC12_ti_70 : TI Tryz.prog 70 true 2 := ⟨⟨_, Tryz.underlying70, rfl⟩, by kernel_rfl⟩
theorem qC12_un_22 : Tryz.prog.underlying 22 = some (.slice 3) := Tryz.underlying22
theorem qC12_zi_3 : ZI Tryz.prog 3 (.int .i64 0) 1 8 := by unfold ZI; kernel_rfl
theorem qC12_zi_70 : ZI Tryz.prog 70 (.agg #[.int .i64 0, .int .i64 0]) 2 16 := by unfold ZI; kernel_rfl
set_option maxHeartbeats 4000000 in
set_option maxRecDepth 100000 in
theorem spec_l07Count_fn (l : List Int) (ho : regOk l = true) : Fn Tryz.prog 52 [.agg [(.slv l.length 1 (isl l) : A)]] [.val (.int .i64 (((cnt (regSet l)) : Nat) : Int))] := by
 have hpl0 := prof_len (regSet l) 0
 have hr0 : (List.replicate 256 (0 : Int)).length = 256 := List.length_replicate
 have hrl := (regOk_true ho).1
 refine fn_intro (N := 157) Tryz.func52 rfl (by kernel_rfl) rfl (Nat.le_of_ble_eq_true rfl) [1, 7, 14, 15, 18, 33, 38, 41, 64, 94, 98, 122, 126] (ret1 rfl) (fun W => ?_)
 show Wp _ _ _ [kV 0 (V.b (.agg [(.slv l.length 1 (isl l) : A)])), kF 1, kF 7, kF 14, kF 15, kF 18, kF 33, kF 38, kF 41, kF 64, kF 94, kF 98, kF 122, kF 126]
 refine sq (rg ?_)
 refine z ?_ (h := fun ν => acts_box (h := 1) ν xt (by exact ob1 rfl))
 refine zk (nl (sq (rg (zk (nl (sq (rg (zm ?_))))))))
 refine z ?_ (h := fun ν => acts_bin ν vc vt (r_shl (c := 256) (by omega) (by decide)))
 refine z ?_ (h := fun ν => acts_make' (h := 18) (n := 256) (xs := isl (List.replicate 256 0)) ν qC12_un_22 qC12_zi_3 vt vt rfl rfl (by decide) (by omega) (made_ints' 256))
 refine za (nl (sq (rg (zm ?_))))
 refine z ?_ (h := fun ν => ix0 (k := 0) ν qC12_un_22 qC12_sz_3 vc (hlt := (by omega)))
 refine z ?_ (h := fun _ => sI qC12_ti_3 xc (by omega))
 refine nl (sq (sq (rg (zk (nl (bkk ?_))))))
 refine wp_loop' (fun (i : Nat) => i ≤ 64) (fun (i : Nat) => [kP 1 1 0, kI 3 8, kS 4 18 0 ((prof (regSet l) i).length), kI 5 ((i : Nat) : Int), kO 1 29 1 true [(.slv l.length 1 (isl l) : A)], kO 18 3 1 true (pl (isl (prof (regSet l) i))), kF 7, kF 14, kF 15, kF 33, kF 38, kF 41, kF 64, kF 94, kF 98, kF 122, kF 126]) (fun (i : Nat) => 64 - i) ((0 : Nat)) (by exact (Nat.zero_le _ : 0 ≤ _)) (wkf id (wS <| wS <| wE (e := (vsl (by rfl) rfl)) <| wE (e := (vint (by rfl))) <| wX <| wO (e := renob_eq (fun h => h) (congrArg isl (by rfl))) <| by (iterate 11 refine wF ?_); exact wN)) ?_
 rintro i inv1
 replace inv1 : i ≤ 64 := inv1
 have invi := inv1
 have hpl := prof_len (regSet l) i
 have hpl1 := prof_len (regSet l) (i + 1)
 have hcx : (cN i).x = ((i % 8 : Nat) : Int) := rfl
 have hcx0 : 0 ≤ (cN i).x := Int.natCast_nonneg _
 have hcy : (cN i).y = ((i / 8 : Nat) : Int) := rfl
 have hpw : 2 ^ (i % 8) < 256 := Nat.pow_lt_pow_right (m := i % 8) (n := 8) (by decide) (by omega)
 have hpw1 : 2 ^ (i % 8 + 1) < 512 := Nat.pow_lt_pow_right (m := i % 8 + 1) (n := 9) (by decide) (by omega)
 refine sq (sq (rg (zm (zm (zm ?_)))))
 refine z ?_ (h := fun ν => acts_bin ν vt vt (r_mul (c := 64) (by exact w64 (by omega) (by omega))))
 refine z ?_ (h := fun ν => acts_bin ν vt vt (r_lss rfl))
 refine nl ?_
 refine wi (fun c2 => ?_) (fun c2 => ?_)
 ·skip
  have c2P := of_decide_eq_true c2
  refine sk (sq (bkk (sq (rg (zm (zm ?_))))))
  refine z ?_ (h := fun ν => acts_bin ν vt vt (r_rem (c := (((i % 8) : Nat) : Int)) (by decide) (remN (a := ((i : Nat) : Int)) (b := i) (c := 8) rfl)))
  refine za (nl (sq (rg (zm ?_))))
  refine z ?_ (h := fun ν => acts_call2 ν (spec_CellAt_fn i (by omega)) (ac (ArgV.v vt) an) (ResV.agg [vI ((cN i).x), vI ((cN i).y)]) rv)
  refine zm ?_
  refine z ?_ (h := fun ν => acts_extract ν (by exact rfl))
  refine z ?_ (h := fun ν => acts_extract ν (by exact rfl))
  refine z ?_ (h := fun ν => acts_alloc' (h := 7) (cap := 1) (s := 2) (cells := [aI 0, aI 0]) ν qC12_zi_70 rfl rfl (by decide))
  refine z ?_ (h := fun _ => acts_store (cells := [aI ((cN i).x), aI ((cN i).y)]) qC12_ti_70 xt (by exact rfl) (by decide) (by exact ob1 rfl) (by exact Nat.le_of_ble_eq_true rfl) (by exact rfl))
  refine za (nl (sq (rg (zm ?_))))
  refine z ?_ (h := fun ν => acts_bin ν vc vt (r_shl (c := 256) (by omega) (by decide)))
  refine z ?_ (h := fun ν => acts_make' (h := 38) (n := 256) (xs := isl (List.replicate 256 0)) ν qC12_un_22 qC12_zi_3 vt vt rfl rfl (by decide) (by omega) (made_ints' 256))
  refine za (nl (sq (sq (rg (zk (nl (bkk ?_)))))))
  refine wp_loop' (fun (k : Nat) => k ≤ 256) (fun (k : Nat) => [kP 1 1 0, kI 3 8, kS 4 18 0 ((prof (regSet l) i).length), kI 5 ((i : Nat) : Int), kI 6 (((i % 8) : Nat) : Int), kP 7 7 0, kS 9 38 0 256, kI 10 ((k : Nat) : Int), kO 1 29 1 true [(.slv l.length 1 (isl l) : A)], kO 7 70 2 true [aI ((cN i).x), aI ((cN i).y)], kO 18 3 1 true (pl (isl (prof (regSet l) i))), kO 38 3 1 true (pl (isl (stepT (regSet l) i (prof (regSet l) i) k))), kF 14, kF 15, kF 33, kF 41, kF 64, kF 94, kF 98, kF 122, kF 126]) (fun (k : Nat) => 256 - k) ((0 : Nat)) (by exact (Nat.zero_le _ : 0 ≤ _)) (wkf id (wS <| wS <| wS <| wS <| wS <| wS <| wS <| wE (e := (vint (by rfl))) <| wX <| wX <| wP <| wO (e := renob_eq (fun h => h) (congrArg isl (by rfl))) <| by (iterate 9 refine wF ?_); exact wN)) ?_
  rintro k inv3
  replace inv3 : k ≤ 256 := inv3
  have inv4 := inv3
  have hlt := stepT_len (regSet l) i (prof (regSet l) i) k
  have hbt : ∀ j, j < 256 → 0 ≤ gI (stepT (regSet l) i (prof (regSet l) i) k) j ∧ gI (stepT (regSet l) i (prof (regSet l) i) k) j ≤ 1099511627776 := fun j hj => by
   have := part_bd (s := regSet l) (i := i) (by omega) (m := k) (k := j) (by omega) hj
   omega
  refine sq (sq (rg (zm (zm ?_))))
  refine z ?_ (h := fun ν => lnS ν qC12_un_22)
  refine z ?_ (h := fun ν => acts_bin ν vt vt (r_lss rfl))
  refine nl ?_
  refine wi (fun c4 => ?_) (fun c4 => ?_)
  ·skip
   have c4P := of_decide_eq_true c4
   have hpk := prof_bd (s := regSet l) (i := i) (by omega) (k := k) (by omega)
   have ho1 : (k ||| 2 ^ (i % 8)) < 256 := or_lt (by omega) (by omega)
   have ha1 : andn k (2 ^ (i % 8)) < 256 := andn_lt8 (by omega)
   have hb1 := hbt _ ho1
   have hb2 := hbt _ ha1
   have hbk := hbt k (by omega)
   refine sk (sq (bkk (sq (rg (zm (zm ?_))))))
   refine z ?_ (h := fun ν => ix0 ν qC12_un_22 qC12_sz_3 vt (hlt := (by omega)))
   refine z ?_ (h := fun ν => lI ν qC12_ti_3 (by omega))
   refine za (nl (sq (sq (rg (zm ?_)))))
   refine z ?_ (h := fun ν => acts_bin ν vt vc (r_eql rfl))
   refine nl ?_
   refine wi (fun c5 => ?_) (fun c5 => ?_)
   ·skip
    have c5P := of_decide_eq_true c5
    refine wp_exit' (rg (zm ?_))
    refine z ?_ (h := fun ν => acts_bin ν vt vc (rA (by omega) (by omega)))
    refine za (nl ?_)
    exact loop_back ((k + 1)) (by show _ ≤ _; omega) (by show 256 - (k + 1) < 256 - k; omega) (wkf id (wS <| wS <| wS <| wS <| wS <| wS <| wS <| wE (e := (vint (by rfl))) <| wX <| wX <| wP <| wO (e := renob_eq (fun h => h) (congrArg isl (by (rw [stepT_snoc, sk_zero (by assumption)]; done)))) <| by (iterate 9 refine wF ?_); exact wN))
   ·skip
    have c5P := of_decide_eq_false c5
    have hN : ¬ gI (prof (regSet l) i) k = 0 := of_decide_eq_false c5
    refine sk (sq (rg (zm (zm ?_))))
    refine z ?_ (h := fun ν => acts_bin ν vt vt (r_shr (c := (((k >>> (i % 8)) : Nat) : Int)) (by omega) (shrU (m := k) (n := (i % 8)) rfl rfl (by omega) rfl)))
    refine z ?_ (h := fun ν => acts_bin ν vt vc (r_and (c := ((((k >>> (i % 8)) &&& 1) : Nat) : Int)) (andI (m := (k >>> (i % 8))) (n := 1) rfl rfl (by exact Nat.lt_of_le_of_lt (shr_le _ _) (by first | omega | assumption | (first | omega | assumption | exact cN_ok (by omega) | exact regSet_lt ho | (simp only [List.length_set]; omega)))) (by omega))))
    refine z ?_ (h := fun ν => acts_bin ν vt vc (r_eql (c := (k.testBit (i % 8))) (bit_one _ _)))
    refine za (nl (sq (rg (zm (za (nl (sq (sq (rg (zm (nl ?_)))))))))))
    refine wi (b := (k.testBit (i % 8))) (fun c6 => ?_) (fun c6 => ?_)
    ·skip
     have hK : k.testBit (i % 8) = true := c6
     refine rg (zm (zm ?_))
     refine z ?_ (h := fun ν => acts_bin ν vc vt (r_shl (c := (((2 ^ (i % 8)) : Nat) : Int)) (by omega) (shl1I (n := (i % 8)) rfl (by omega))))
     refine z ?_ (h := fun ν => acts_bin ν vt vt (r_sub (c := (((andn k (2 ^ (i % 8))) : Nat) : Int)) (sub_bit (by omega) (by assumption))))
     refine za (nl (sq (sq (rg ?_))))
     refine z ?_ (h := fun ν => acts_load_owns (xs := [(.slv l.length 1 (isl l) : A)]) ν qC12_ti_29 rfl (by decide) rfl)
     refine z ?_ (h := fun ν => acts_load_owns (xs := [vI ((cN i).x), vI ((cN i).y)].map A.val) ν qC12_ti_70 rfl (by decide) rfl)
     refine z ?_ (h := fun ν => acts_call1 ν (spec_l03Has_fn l (cN i) (by omega) (by exact cN_ok (by omega))) (ac (ArgV.regv _ _ 1 _) (ac (ArgV.va va) an)) rv)
     refine z ?_ (h := fun ν => acts_un ν vt (r_not rfl))
     refine nl ?_
     refine wi (b := (!(hasR l (cN i)))) (fun c7 => ?_) (fun c7 => ?_)
     ·skip
      have c8 : (hasR l (cN i)) = false := by first | (rw [← Bool.not_eq_true']; exact c7) | simpa using c7
      have hS : (regSet l).testBit i = false := hasR_i ho (by omega) c8
      refine sq (sq (rg (zm ?_)))
      refine z ?_ (h := fun ν => acts_un ν vt (r_not (c := false) (by (rw [c6]; rfl))))
      refine nl (wf (sk (wp_exit' (rg (zm ?_)))))
      refine z ?_ (h := fun ν => acts_bin ν vt vc (rA (by omega) (by omega)))
      refine za (nl ?_)
      exact loop_back ((k + 1)) (by show _ ≤ _; omega) (by show 256 - (k + 1) < 256 - k; omega) (wkf id (wS <| wS <| wS <| wS <| wS <| wS <| wS <| wE (e := (vint (by rfl))) <| wX <| wX <| wP <| wO (e := renob_eq (fun h => h) (congrArg isl (by (rw [stepT_snoc, sk_d hN hS hK]; done)))) <| by (iterate 9 refine wF ?_); exact wN))
     ·skip
      have c9 : (hasR l (cN i)) = true := by first | (rw [← Bool.not_eq_false']; exact c7) | simpa using c7
      have hS : (regSet l).testBit i = true := hasR_i ho (by omega) c9
      refine sk (sq (sq (rg (zm (nl ?_)))))
      refine wi (b := (k.testBit (i % 8))) (fun c10 => ?_) (fun c10 => ?_)
      ·skip
       have hK : k.testBit (i % 8) = true := c10
       refine sq (rg (zm (zm (zm (zm ?_)))))
       refine z ?_ (h := fun ν => ix0 ν qC12_un_22 qC12_sz_3 vt (hlt := (by omega)))
       refine z ?_ (h := fun ν => lI ν qC12_ti_3 (by omega))
       refine zm ?_
       refine z ?_ (h := fun ν => acts_bin ν vt vt (rA (by omega) (by omega)))
       refine z ?_ (h := fun ν => ix0 ν qC12_un_22 qC12_sz_3 vt (hlt := (by omega)))
       refine z ?_ (h := fun _ => sI qC12_ti_3 xt (by omega))
       refine nl (wp_exit' (rg (zm ?_)))
       refine z ?_ (h := fun ν => acts_bin ν vt vc (rA (by omega) (by omega)))
       refine za (nl ?_)
       exact loop_back ((k + 1)) (by show _ ≤ _; omega) (by show 256 - (k + 1) < 256 - k; omega) (wkf id (wS <| wS <| wS <| wS <| wS <| wS <| wS <| wE (e := (vint (by rfl))) <| wX <| wX <| wP <| wO (e := renob_eq (fun h => h) (congrArg isl (by (rw [stepT_snoc, sk_b hN hS hK]; first | done | rfl)))) <| by (iterate 9 refine wF ?_); exact wN))
      ·skip
       have hK : k.testBit (i % 8) = false := c10
       exact absurd (c6.symm.trans c10) (by decide)
    ·skip
     have hK : k.testBit (i % 8) = false := c6
     refine sk (sq (sq (rg ?_)))
     refine z ?_ (h := fun ν => acts_load_owns (xs := [(.slv l.length 1 (isl l) : A)]) ν qC12_ti_29 rfl (by decide) rfl)
     refine z ?_ (h := fun ν => acts_load_owns (xs := [vI ((cN i).x), vI ((cN i).y)].map A.val) ν qC12_ti_70 rfl (by decide) rfl)
     refine z ?_ (h := fun ν => acts_call1 ν (spec_l03Has_fn l (cN i) (by omega) (by exact cN_ok (by omega))) (ac (ArgV.regv _ _ 1 _) (ac (ArgV.va va) an)) rv)
     refine z ?_ (h := fun ν => acts_un ν vt (r_not rfl))
     refine nl ?_
     refine wi (b := (!(hasR l (cN i)))) (fun c11 => ?_) (fun c11 => ?_)
     ·skip
      have c12 : (hasR l (cN i)) = false := by first | (rw [← Bool.not_eq_true']; exact c11) | simpa using c11
      have hS : (regSet l).testBit i = false := hasR_i ho (by omega) c12
      refine sq (sq (rg (zm ?_)))
      refine z ?_ (h := fun ν => acts_un ν vt (r_not (c := true) (by (rw [c6]; rfl))))
      refine nl (wt (rg (zm (zm (zm (zm ?_))))))
      refine z ?_ (h := fun ν => ix0 ν qC12_un_22 qC12_sz_3 vt (hlt := (by omega)))
      refine z ?_ (h := fun ν => lI ν qC12_ti_3 (by omega))
      refine zm ?_
      refine z ?_ (h := fun ν => acts_bin ν vt vt (rA (by omega) (by omega)))
      refine z ?_ (h := fun ν => ix0 ν qC12_un_22 qC12_sz_3 vt (hlt := (by omega)))
      refine z ?_ (h := fun _ => sI qC12_ti_3 xt (by omega))
      refine nl (wp_exit' (rg (zm ?_)))
      refine z ?_ (h := fun ν => acts_bin ν vt vc (rA (by omega) (by omega)))
      refine za (nl ?_)
      exact loop_back ((k + 1)) (by show _ ≤ _; omega) (by show 256 - (k + 1) < 256 - k; omega) (wkf id (wS <| wS <| wS <| wS <| wS <| wS <| wS <| wE (e := (vint (by rfl))) <| wX <| wX <| wP <| wO (e := renob_eq (fun h => h) (congrArg isl (by (rw [stepT_snoc, sk_a hN hS hK]; first | done | rfl)))) <| by (iterate 9 refine wF ?_); exact wN))
     ·skip
      have c13 : (hasR l (cN i)) = true := by first | (rw [← Bool.not_eq_false']; exact c11) | simpa using c11
      have hS : (regSet l).testBit i = true := hasR_i ho (by omega) c13
      refine sk (sq (sq (rg (zm (nl ?_)))))
      refine wi (b := (k.testBit (i % 8))) (fun c14 => ?_) (fun c14 => ?_)
      ·skip
       have hK : k.testBit (i % 8) = true := c14
       exact absurd (c6.symm.trans c14) (by decide)
      ·skip
       have hK : k.testBit (i % 8) = false := c14
       refine sk (sq (rg ?_))
       refine z ?_ (h := fun ν => acts_field (off' := 0) ν qC12_fo_70_0 rfl)
       refine z ?_ (h := fun ν => acts_load_own (x := .val (.int .i64 ((cN i).x))) ν qC12_ti_3 (by exact rfl))
       refine z ?_ (h := fun ν => acts_field (off' := 1) ν qC12_fo_70_1 rfl)
       refine z ?_ (h := fun ν => acts_load_own (x := .val (.int .i64 ((cN i).y))) ν qC12_ti_3 (by exact rfl))
       refine z ?_ (h := fun ν => acts_bin ν vt vc (rA (by omega) (by omega)))
       refine z ?_ (h := fun ν => bC ν qC12_bs_70 vt vt)
       refine z ?_ (h := fun ν => acts_alloc' (h := 14) (cap := 1) (s := 2) (cells := [aI 0, aI 0]) ν qC12_zi_70 rfl rfl (by decide))
       refine z ?_ (h := fun _ => acts_store (cells := [aI ((cN i).x), aI ((cN i).y + 1)]) qC12_ti_70 xt (by exact rfl) (by decide) (by exact ob1 rfl) (by exact Nat.le_of_ble_eq_true rfl) (by exact rfl))
       refine nl (sq (sq ?_))
       rcases Bool.eq_false_or_eq_true ((okc ((cN i).x) ((cN i).y + 1))) with c15 | c15
       ·skip
        have hO1 := c15
        refine rg ?_
        refine z ?_ (h := fun ν => acts_load_owns (xs := [vI ((cN i).x), vI ((cN i).y + 1)].map A.val) ν qC12_ti_70 rfl (by decide) rfl)
        refine z ?_ (h := fun ν => acts_call1 ν (spec_CellOk_fn (⟨(cN i).x, ((cN i).y + 1)⟩ : Cel) ) (ac (ArgV.va va) an) (resval (congrArg Value.bool c15)))
        refine zm ?_
        refine zg ?_ (h := fun ν => step_on rfl rfl (acts_load_owns (xs := [(.slv l.length 1 (isl l) : A)]) ν qC12_ti_29 rfl (by decide) rfl))
        refine zg ?_ (h := fun ν => step_on rfl rfl (acts_load_owns (xs := [vI ((cN i).x), vI ((cN i).y + 1)].map A.val) ν qC12_ti_70 rfl (by decide) rfl))
        refine zg ?_ (h := fun ν => step_on rfl rfl (acts_call1 ν (spec_l03Has_fn l (⟨(cN i).x, ((cN i).y + 1)⟩ : Cel) (by omega) (by omega)) (ac (ArgV.regv _ _ 1 _) (ac (ArgV.va va) an)) rv))
        refine z ?_ (h := fun ν => acts_pick_t ν vt xt)
        refine nl ?_
        refine wi (b := (hasR l (⟨(cN i).x, ((cN i).y + 1)⟩ : Cel))) (fun c16 => ?_) (fun c16 => ?_)
        ·skip
         have hD : dnB (regSet l) i = true := dn_okR ho (by omega) hO1 c16
         refine wp_dr (zdm (zdm (zdm ?_)))
         refine zd ?_ (h := fun ν => acts_bin ν vc vt (r_shl (c := (((2 ^ (i % 8)) : Nat) : Int)) (by omega) (shl1I (n := (i % 8)) rfl (by omega))))
         refine zd ?_ (h := fun ν => acts_bin ν vt vt (r_or (c := (((k ||| (2 ^ (i % 8))) : Nat) : Int)) (orI (m := k) (n := (2 ^ (i % 8))) rfl rfl (by omega) (by omega))))
         refine zdm (zdm (zdm ?_))
         refine zd ?_ (h := fun ν => acts_bin ν vc vt (r_shl (c := (((2 ^ (i % 8)) : Nat) : Int)) (by omega) (shl1I (n := (i % 8)) rfl (by omega))))
         refine zd ?_ (h := fun ν => acts_bin ν vt vt (r_or (c := (((k ||| (2 ^ (i % 8))) : Nat) : Int)) (orI (m := k) (n := (2 ^ (i % 8))) rfl rfl (by omega) (by omega))))
         refine zd ?_ (h := fun ν => ix0 ν qC12_un_22 qC12_sz_3 vt (hlt := (by omega)))
         refine zd ?_ (h := fun ν => lI ν qC12_ti_3 (by omega))
         refine zdm ?_
         refine zd ?_ (h := fun ν => acts_bin ν vt vt (rA (by omega) (by omega)))
         refine zd ?_ (h := fun ν => ix0 ν qC12_un_22 qC12_sz_3 vt (hlt := (by omega)))
         refine zd ?_ (h := fun _ => sI qC12_ti_3 xt (by omega))
         refine dw_nil (sq (rg ?_))
         refine z ?_ (h := fun ν => acts_field (off' := 0) ν qC12_fo_70_0 rfl)
         refine z ?_ (h := fun ν => acts_load_own (x := .val (.int .i64 ((cN i).x))) ν qC12_ti_3 (by exact rfl))
         refine z ?_ (h := fun ν => acts_bin ν vt vc (rA (by omega) (by omega)))
         refine z ?_ (h := fun ν => acts_field (off' := 1) ν qC12_fo_70_1 rfl)
         refine z ?_ (h := fun ν => acts_load_own (x := .val (.int .i64 ((cN i).y))) ν qC12_ti_3 (by exact rfl))
         refine z ?_ (h := fun ν => bC ν qC12_bs_70 vt vt)
         refine z ?_ (h := fun ν => acts_alloc' (h := 15) (cap := 1) (s := 2) (cells := [aI 0, aI 0]) ν qC12_zi_70 rfl rfl (by decide))
         refine z ?_ (h := fun _ => acts_store (cells := [aI ((cN i).x + 1), aI ((cN i).y)]) qC12_ti_70 xt (by exact rfl) (by decide) (by exact ob1 rfl) (by exact Nat.le_of_ble_eq_true rfl) (by exact rfl))
         refine nl (sq ?_)
         rcases Bool.eq_false_or_eq_true ((okc ((cN i).x + 1) ((cN i).y))) with c17 | c17
         ·skip
          have hO2 := c17
          rcases Bool.eq_false_or_eq_true ((hasR l (⟨((cN i).x + 1), (cN i).y⟩ : Cel))) with c18 | c18
          ·skip
           have hR : rtB (regSet l) i = true := rt_okR ho (by omega) hO2 c18
           have hr7 := rt_lt hR
           have ho2 : (k ||| 2 ^ (i % 8 + 1)) < 256 := or_lt (by omega) hr7
           have hb3 := hbt _ ho2
           have hb4 := rt_bd2 (s := regSet l) (i := i) (k := k) (by omega) (by omega) hR
           unfold putI at hb4
           refine rg ?_
           refine z ?_ (h := fun ν => acts_load_owns (xs := [vI ((cN i).x + 1), vI ((cN i).y)].map A.val) ν qC12_ti_70 rfl (by decide) rfl)
           refine z ?_ (h := fun ν => acts_call1 ν (spec_CellOk_fn (⟨((cN i).x + 1), (cN i).y⟩ : Cel) ) (ac (ArgV.va va) an) (resval (congrArg Value.bool c17)))
           refine zm ?_
           refine zg ?_ (h := fun ν => step_on rfl rfl (acts_load_owns (xs := [(.slv l.length 1 (isl l) : A)]) ν qC12_ti_29 rfl (by decide) rfl))
           refine zg ?_ (h := fun ν => step_on rfl rfl (acts_load_owns (xs := [vI ((cN i).x + 1), vI ((cN i).y)].map A.val) ν qC12_ti_70 rfl (by decide) rfl))
           refine zg ?_ (h := fun ν => step_on rfl rfl (acts_call1 ν (spec_l03Has_fn l (⟨((cN i).x + 1), (cN i).y⟩ : Cel) (by omega) (by omega)) (ac (ArgV.regv _ _ 1 _) (ac (ArgV.va va) an)) (resval (congrArg Value.bool c18))))
           refine z ?_ (h := fun ν => acts_pick_t ν vt xt)
           refine zm ?_
           refine zg ?_ (h := fun ν => step_on rfl rfl (mt ν))
           refine zg ?_ (h := fun ν => step_on rfl rfl (mt ν))
           refine zg ?_ (h := fun ν => step_on rfl rfl (acts_bin ν vt vc (rA (by omega) (by omega))))
           refine zg ?_ (h := fun ν => step_on rfl rfl (acts_bin ν vt vt (r_shr (c := (((k >>> ((i % 8) + 1)) : Nat) : Int)) (by omega) (shrU (m := k) (n := ((i % 8) + 1)) rfl (by rfl) (by omega) rfl))))
           refine zg ?_ (h := fun ν => step_on rfl rfl (acts_bin ν vt vc (r_and (c := ((((k >>> ((i % 8) + 1)) &&& 1) : Nat) : Int)) (andI (m := (k >>> ((i % 8) + 1))) (n := 1) rfl rfl (by exact Nat.lt_of_le_of_lt (shr_le _ _) (by first | omega | assumption | (first | omega | assumption | exact cN_ok (by omega) | exact regSet_lt ho | (simp only [List.length_set]; omega)))) (by omega)))))
           refine zg ?_ (h := fun ν => step_on rfl rfl (acts_bin ν vt vc (r_eql (c := (!(k.testBit ((i % 8) + 1)))) (bit_zero _ _))))
           refine z ?_ (h := fun ν => acts_pick_t ν vt xt)
           refine nl ?_
           refine wi (b := (!(k.testBit ((i % 8) + 1)))) (fun c19 => ?_) (fun c19 => ?_)
           ·skip
            have c20 : (k.testBit ((i % 8) + 1)) = false := by first | (rw [← Bool.not_eq_true']; exact c19) | simpa using c19
            have hK1 : k.testBit (i % 8 + 1) = false := c20
            refine wp_dr (zdm (zdm (zdm ?_)))
            refine zd ?_ (h := fun ν => acts_bin ν vt vc (rA (by omega) (by omega)))
            refine zd ?_ (h := fun ν => acts_bin ν vc vt (r_shl (c := (((2 ^ ((i % 8) + 1)) : Nat) : Int)) (by omega) (shl1I (n := ((i % 8) + 1)) (by rfl) (by omega))))
            refine zd ?_ (h := fun ν => acts_bin ν vt vt (r_or (c := (((k ||| (2 ^ ((i % 8) + 1))) : Nat) : Int)) (orI (m := k) (n := (2 ^ ((i % 8) + 1))) rfl rfl (by omega) (by omega))))
            refine zdm (zdm (zdm ?_))
            refine zd ?_ (h := fun ν => acts_bin ν vt vc (rA (by omega) (by omega)))
            refine zd ?_ (h := fun ν => acts_bin ν vc vt (r_shl (c := (((2 ^ ((i % 8) + 1)) : Nat) : Int)) (by omega) (shl1I (n := ((i % 8) + 1)) (by rfl) (by omega))))
            refine zd ?_ (h := fun ν => acts_bin ν vt vt (r_or (c := (((k ||| (2 ^ ((i % 8) + 1))) : Nat) : Int)) (orI (m := k) (n := (2 ^ ((i % 8) + 1))) rfl rfl (by omega) (by omega))))
            refine zd ?_ (h := fun ν => ix0 ν qC12_un_22 qC12_sz_3 vt (hlt := (by omega)))
            refine zd ?_ (h := fun ν => lI ν qC12_ti_3 (by (simp only [List.length_set]; omega)))
            refine zdm ?_
            refine zd ?_ (h := fun ν => acts_bin ν vt vt (rA (by omega) (by omega)))
            refine zd ?_ (h := fun ν => ix0 ν qC12_un_22 qC12_sz_3 vt (hlt := (by omega)))
            refine zd ?_ (h := fun _ => sI qC12_ti_3 xt (by (simp only [List.length_set]; omega)))
            refine dw_nil (rg (zm ?_))
            refine z ?_ (h := fun ν => acts_bin ν vt vc (rA (by omega) (by omega)))
            refine za (nl ?_)
            exact loop_back ((k + 1)) (by show _ ≤ _; omega) (by show 256 - (k + 1) < 256 - k; omega) (wkf id (wS <| wS <| wS <| wS <| wS <| wS <| wS <| wE (e := (vint (by rfl))) <| wX <| wX <| wP <| wO (e := renob_eq (fun h => h) (congrArg isl (by (rw [stepT_snoc, sk_c hN hS hK]; simp only [hD, hR, hK1, shl_one, Bool.true_and, Bool.false_and, Bool.not_false, Bool.not_true, if_true, if_false, Bool.false_eq_true]; first | done | rfl)))) <| by (iterate 9 refine wF ?_); exact wN))
           ·skip
            have c21 : (k.testBit ((i % 8) + 1)) = true := by first | (rw [← Bool.not_eq_false']; exact c19) | simpa using c19
            have hK1 : k.testBit (i % 8 + 1) = true := c21
            refine sk (rg (zm ?_))
            refine z ?_ (h := fun ν => acts_bin ν vt vc (rA (by omega) (by omega)))
            refine za (nl ?_)
            exact loop_back ((k + 1)) (by show _ ≤ _; omega) (by show 256 - (k + 1) < 256 - k; omega) (wkf id (wS <| wS <| wS <| wS <| wS <| wS <| wS <| wE (e := (vint (by rfl))) <| wX <| wX <| wP <| wO (e := renob_eq (fun h => h) (congrArg isl (by (rw [stepT_snoc, sk_c hN hS hK]; simp only [hD, hR, hK1, shl_one, Bool.true_and, Bool.false_and, Bool.not_false, Bool.not_true, if_true, if_false, Bool.false_eq_true]; first | done | rfl)))) <| by (iterate 9 refine wF ?_); exact wN))
          ·skip
           have hR : rtB (regSet l) i = false := rt_okR ho (by omega) hO2 c18
           refine rg ?_
           refine z ?_ (h := fun ν => acts_load_owns (xs := [vI ((cN i).x + 1), vI ((cN i).y)].map A.val) ν qC12_ti_70 rfl (by decide) rfl)
           refine z ?_ (h := fun ν => acts_call1 ν (spec_CellOk_fn (⟨((cN i).x + 1), (cN i).y⟩ : Cel) ) (ac (ArgV.va va) an) (resval (congrArg Value.bool c17)))
           refine zm ?_
           refine zg ?_ (h := fun ν => step_on rfl rfl (acts_load_owns (xs := [(.slv l.length 1 (isl l) : A)]) ν qC12_ti_29 rfl (by decide) rfl))
           refine zg ?_ (h := fun ν => step_on rfl rfl (acts_load_owns (xs := [vI ((cN i).x + 1), vI ((cN i).y)].map A.val) ν qC12_ti_70 rfl (by decide) rfl))
           refine zg ?_ (h := fun ν => step_on rfl rfl (acts_call1 ν (spec_l03Has_fn l (⟨((cN i).x + 1), (cN i).y⟩ : Cel) (by omega) (by omega)) (ac (ArgV.regv _ _ 1 _) (ac (ArgV.va va) an)) (resval (congrArg Value.bool c18))))
           refine z ?_ (h := fun ν => acts_pick_t ν vt xt)
           refine zm (zo (zo (zo (zo (zo (zo ?_))))))
           refine z ?_ (h := fun ν => acts_pick_f ν vt xc)
           refine nl (wf (sk (rg (zm ?_))))
           refine z ?_ (h := fun ν => acts_bin ν vt vc (rA (by omega) (by omega)))
           refine za (nl ?_)
           exact loop_back ((k + 1)) (by show _ ≤ _; omega) (by show 256 - (k + 1) < 256 - k; omega) (wkf id (wS <| wS <| wS <| wS <| wS <| wS <| wS <| wE (e := (vint (by rfl))) <| wX <| wX <| wP <| wO (e := renob_eq (fun h => h) (congrArg isl (by (rw [stepT_snoc, sk_c hN hS hK]; simp only [hD, hR, shl_one, Bool.true_and, Bool.false_and, Bool.not_false, Bool.not_true, if_true, if_false, Bool.false_eq_true]; first | done | rfl)))) <| by (iterate 9 refine wF ?_); exact wN))
         ·skip
          have hR : rtB (regSet l) i = false := rt_no (by omega) c17
          refine rg ?_
          refine z ?_ (h := fun ν => acts_load_owns (xs := [vI ((cN i).x + 1), vI ((cN i).y)].map A.val) ν qC12_ti_70 rfl (by decide) rfl)
          refine z ?_ (h := fun ν => acts_call1 ν (spec_CellOk_fn (⟨((cN i).x + 1), (cN i).y⟩ : Cel) ) (ac (ArgV.va va) an) (resval (congrArg Value.bool c17)))
          refine zm (zo (zo (zo ?_)))
          refine z ?_ (h := fun ν => acts_pick_f ν vt xc)
          refine zm (zo (zo (zo (zo (zo (zo ?_))))))
          refine z ?_ (h := fun ν => acts_pick_f ν vt xc)
          refine nl (wf (sk (rg (zm ?_))))
          refine z ?_ (h := fun ν => acts_bin ν vt vc (rA (by omega) (by omega)))
          refine za (nl ?_)
          exact loop_back ((k + 1)) (by show _ ≤ _; omega) (by show 256 - (k + 1) < 256 - k; omega) (wkf id (wS <| wS <| wS <| wS <| wS <| wS <| wS <| wE (e := (vint (by rfl))) <| wX <| wX <| wP <| wO (e := renob_eq (fun h => h) (congrArg isl (by (rw [stepT_snoc, sk_c hN hS hK]; simp only [hD, hR, shl_one, Bool.true_and, Bool.false_and, Bool.not_false, Bool.not_true, if_true, if_false, Bool.false_eq_true]; first | done | rfl)))) <| by (iterate 9 refine wF ?_); exact wN))
        ·skip
         have hD : dnB (regSet l) i = false := dn_okR ho (by omega) hO1 c16
         refine sk (sq (rg ?_))
         refine z ?_ (h := fun ν => acts_field (off' := 0) ν qC12_fo_70_0 rfl)
         refine z ?_ (h := fun ν => acts_load_own (x := .val (.int .i64 ((cN i).x))) ν qC12_ti_3 (by exact rfl))
         refine z ?_ (h := fun ν => acts_bin ν vt vc (rA (by omega) (by omega)))
         refine z ?_ (h := fun ν => acts_field (off' := 1) ν qC12_fo_70_1 rfl)
         refine z ?_ (h := fun ν => acts_load_own (x := .val (.int .i64 ((cN i).y))) ν qC12_ti_3 (by exact rfl))
         refine z ?_ (h := fun ν => bC ν qC12_bs_70 vt vt)
         refine z ?_ (h := fun ν => acts_alloc' (h := 15) (cap := 1) (s := 2) (cells := [aI 0, aI 0]) ν qC12_zi_70 rfl rfl (by decide))
         refine z ?_ (h := fun _ => acts_store (cells := [aI ((cN i).x + 1), aI ((cN i).y)]) qC12_ti_70 xt (by exact rfl) (by decide) (by exact ob1 rfl) (by exact Nat.le_of_ble_eq_true rfl) (by exact rfl))
         refine nl (sq ?_)
         rcases Bool.eq_false_or_eq_true ((okc ((cN i).x + 1) ((cN i).y))) with c22 | c22
         ·skip
          have hO2 := c22
          rcases Bool.eq_false_or_eq_true ((hasR l (⟨((cN i).x + 1), (cN i).y⟩ : Cel))) with c23 | c23
          ·skip
           have hR : rtB (regSet l) i = true := rt_okR ho (by omega) hO2 c23
           have hr7 := rt_lt hR
           have ho2 : (k ||| 2 ^ (i % 8 + 1)) < 256 := or_lt (by omega) hr7
           have hb3 := hbt _ ho2
           have hb4 := rt_bd2 (s := regSet l) (i := i) (k := k) (by omega) (by omega) hR
           unfold putI at hb4
           refine rg ?_
           refine z ?_ (h := fun ν => acts_load_owns (xs := [vI ((cN i).x + 1), vI ((cN i).y)].map A.val) ν qC12_ti_70 rfl (by decide) rfl)
           refine z ?_ (h := fun ν => acts_call1 ν (spec_CellOk_fn (⟨((cN i).x + 1), (cN i).y⟩ : Cel) ) (ac (ArgV.va va) an) (resval (congrArg Value.bool c22)))
           refine zm ?_
           refine zg ?_ (h := fun ν => step_on rfl rfl (acts_load_owns (xs := [(.slv l.length 1 (isl l) : A)]) ν qC12_ti_29 rfl (by decide) rfl))
           refine zg ?_ (h := fun ν => step_on rfl rfl (acts_load_owns (xs := [vI ((cN i).x + 1), vI ((cN i).y)].map A.val) ν qC12_ti_70 rfl (by decide) rfl))
           refine zg ?_ (h := fun ν => step_on rfl rfl (acts_call1 ν (spec_l03Has_fn l (⟨((cN i).x + 1), (cN i).y⟩ : Cel) (by omega) (by omega)) (ac (ArgV.regv _ _ 1 _) (ac (ArgV.va va) an)) (resval (congrArg Value.bool c23))))
           refine z ?_ (h := fun ν => acts_pick_t ν vt xt)
           refine zm ?_
           refine zg ?_ (h := fun ν => step_on rfl rfl (mt ν))
           refine zg ?_ (h := fun ν => step_on rfl rfl (mt ν))
           refine zg ?_ (h := fun ν => step_on rfl rfl (acts_bin ν vt vc (rA (by omega) (by omega))))
           refine zg ?_ (h := fun ν => step_on rfl rfl (acts_bin ν vt vt (r_shr (c := (((k >>> ((i % 8) + 1)) : Nat) : Int)) (by omega) (shrU (m := k) (n := ((i % 8) + 1)) rfl (by rfl) (by omega) rfl))))
           refine zg ?_ (h := fun ν => step_on rfl rfl (acts_bin ν vt vc (r_and (c := ((((k >>> ((i % 8) + 1)) &&& 1) : Nat) : Int)) (andI (m := (k >>> ((i % 8) + 1))) (n := 1) rfl rfl (by exact Nat.lt_of_le_of_lt (shr_le _ _) (by first | omega | assumption | (first | omega | assumption | exact cN_ok (by omega) | exact regSet_lt ho | (simp only [List.length_set]; omega)))) (by omega)))))
           refine zg ?_ (h := fun ν => step_on rfl rfl (acts_bin ν vt vc (r_eql (c := (!(k.testBit ((i % 8) + 1)))) (bit_zero _ _))))
           refine z ?_ (h := fun ν => acts_pick_t ν vt xt)
           refine nl ?_
           refine wi (b := (!(k.testBit ((i % 8) + 1)))) (fun c24 => ?_) (fun c24 => ?_)
           ·skip
            have c25 : (k.testBit ((i % 8) + 1)) = false := by first | (rw [← Bool.not_eq_true']; exact c24) | simpa using c24
            have hK1 : k.testBit (i % 8 + 1) = false := c25
            refine wp_dr (zdm (zdm (zdm ?_)))
            refine zd ?_ (h := fun ν => acts_bin ν vt vc (rA (by omega) (by omega)))
            refine zd ?_ (h := fun ν => acts_bin ν vc vt (r_shl (c := (((2 ^ ((i % 8) + 1)) : Nat) : Int)) (by omega) (shl1I (n := ((i % 8) + 1)) (by rfl) (by omega))))
            refine zd ?_ (h := fun ν => acts_bin ν vt vt (r_or (c := (((k ||| (2 ^ ((i % 8) + 1))) : Nat) : Int)) (orI (m := k) (n := (2 ^ ((i % 8) + 1))) rfl rfl (by omega) (by omega))))
            refine zdm (zdm (zdm ?_))
            refine zd ?_ (h := fun ν => acts_bin ν vt vc (rA (by omega) (by omega)))
            refine zd ?_ (h := fun ν => acts_bin ν vc vt (r_shl (c := (((2 ^ ((i % 8) + 1)) : Nat) : Int)) (by omega) (shl1I (n := ((i % 8) + 1)) (by rfl) (by omega))))
            refine zd ?_ (h := fun ν => acts_bin ν vt vt (r_or (c := (((k ||| (2 ^ ((i % 8) + 1))) : Nat) : Int)) (orI (m := k) (n := (2 ^ ((i % 8) + 1))) rfl rfl (by omega) (by omega))))
            refine zd ?_ (h := fun ν => ix0 ν qC12_un_22 qC12_sz_3 vt (hlt := (by omega)))
            refine zd ?_ (h := fun ν => lI ν qC12_ti_3 (by omega))
            refine zdm ?_
            refine zd ?_ (h := fun ν => acts_bin ν vt vt (rA (by omega) (by omega)))
            refine zd ?_ (h := fun ν => ix0 ν qC12_un_22 qC12_sz_3 vt (hlt := (by omega)))
            refine zd ?_ (h := fun _ => sI qC12_ti_3 xt (by omega))
            refine dw_nil (rg (zm ?_))
            refine z ?_ (h := fun ν => acts_bin ν vt vc (rA (by omega) (by omega)))
            refine za (nl ?_)
            exact loop_back ((k + 1)) (by show _ ≤ _; omega) (by show 256 - (k + 1) < 256 - k; omega) (wkf id (wS <| wS <| wS <| wS <| wS <| wS <| wS <| wE (e := (vint (by rfl))) <| wX <| wX <| wP <| wO (e := renob_eq (fun h => h) (congrArg isl (by (rw [stepT_snoc, sk_c hN hS hK]; simp only [hD, hR, hK1, shl_one, Bool.true_and, Bool.false_and, Bool.not_false, Bool.not_true, if_true, if_false, Bool.false_eq_true]; first | done | rfl)))) <| by (iterate 9 refine wF ?_); exact wN))
           ·skip
            have c26 : (k.testBit ((i % 8) + 1)) = true := by first | (rw [← Bool.not_eq_false']; exact c24) | simpa using c24
            have hK1 : k.testBit (i % 8 + 1) = true := c26
            refine sk (rg (zm ?_))
            refine z ?_ (h := fun ν => acts_bin ν vt vc (rA (by omega) (by omega)))
            refine za (nl ?_)
            exact loop_back ((k + 1)) (by show _ ≤ _; omega) (by show 256 - (k + 1) < 256 - k; omega) (wkf id (wS <| wS <| wS <| wS <| wS <| wS <| wS <| wE (e := (vint (by rfl))) <| wX <| wX <| wP <| wO (e := renob_eq (fun h => h) (congrArg isl (by (rw [stepT_snoc, sk_c hN hS hK]; simp only [hD, hR, hK1, shl_one, Bool.true_and, Bool.false_and, Bool.not_false, Bool.not_true, if_true, if_false, Bool.false_eq_true]; first | done | rfl)))) <| by (iterate 9 refine wF ?_); exact wN))
          ·skip
           have hR : rtB (regSet l) i = false := rt_okR ho (by omega) hO2 c23
           refine rg ?_
           refine z ?_ (h := fun ν => acts_load_owns (xs := [vI ((cN i).x + 1), vI ((cN i).y)].map A.val) ν qC12_ti_70 rfl (by decide) rfl)
           refine z ?_ (h := fun ν => acts_call1 ν (spec_CellOk_fn (⟨((cN i).x + 1), (cN i).y⟩ : Cel) ) (ac (ArgV.va va) an) (resval (congrArg Value.bool c22)))
           refine zm ?_
           refine zg ?_ (h := fun ν => step_on rfl rfl (acts_load_owns (xs := [(.slv l.length 1 (isl l) : A)]) ν qC12_ti_29 rfl (by decide) rfl))
           refine zg ?_ (h := fun ν => step_on rfl rfl (acts_load_owns (xs := [vI ((cN i).x + 1), vI ((cN i).y)].map A.val) ν qC12_ti_70 rfl (by decide) rfl))
           refine zg ?_ (h := fun ν => step_on rfl rfl (acts_call1 ν (spec_l03Has_fn l (⟨((cN i).x + 1), (cN i).y⟩ : Cel) (by omega) (by omega)) (ac (ArgV.regv _ _ 1 _) (ac (ArgV.va va) an)) (resval (congrArg Value.bool c23))))
           refine z ?_ (h := fun ν => acts_pick_t ν vt xt)
           refine zm (zo (zo (zo (zo (zo (zo ?_))))))
           refine z ?_ (h := fun ν => acts_pick_f ν vt xc)
           refine nl (wf (sk (rg (zm ?_))))
           refine z ?_ (h := fun ν => acts_bin ν vt vc (rA (by omega) (by omega)))
           refine za (nl ?_)
           exact loop_back ((k + 1)) (by show _ ≤ _; omega) (by show 256 - (k + 1) < 256 - k; omega) (wkf id (wS <| wS <| wS <| wS <| wS <| wS <| wS <| wE (e := (vint (by rfl))) <| wX <| wX <| wP <| wO (e := renob_eq (fun h => h) (congrArg isl (by (rw [stepT_snoc, sk_c hN hS hK]; simp only [hD, hR, shl_one, Bool.true_and, Bool.false_and, Bool.not_false, Bool.not_true, if_true, if_false, Bool.false_eq_true]; first | done | rfl)))) <| by (iterate 9 refine wF ?_); exact wN))
         ·skip
          have hR : rtB (regSet l) i = false := rt_no (by omega) c22
          refine rg ?_
          refine z ?_ (h := fun ν => acts_load_owns (xs := [vI ((cN i).x + 1), vI ((cN i).y)].map A.val) ν qC12_ti_70 rfl (by decide) rfl)
          refine z ?_ (h := fun ν => acts_call1 ν (spec_CellOk_fn (⟨((cN i).x + 1), (cN i).y⟩ : Cel) ) (ac (ArgV.va va) an) (resval (congrArg Value.bool c22)))
          refine zm (zo (zo (zo ?_)))
          refine z ?_ (h := fun ν => acts_pick_f ν vt xc)
          refine zm (zo (zo (zo (zo (zo (zo ?_))))))
          refine z ?_ (h := fun ν => acts_pick_f ν vt xc)
          refine nl (wf (sk (rg (zm ?_))))
          refine z ?_ (h := fun ν => acts_bin ν vt vc (rA (by omega) (by omega)))
          refine za (nl ?_)
          exact loop_back ((k + 1)) (by show _ ≤ _; omega) (by show 256 - (k + 1) < 256 - k; omega) (wkf id (wS <| wS <| wS <| wS <| wS <| wS <| wS <| wE (e := (vint (by rfl))) <| wX <| wX <| wP <| wO (e := renob_eq (fun h => h) (congrArg isl (by (rw [stepT_snoc, sk_c hN hS hK]; simp only [hD, hR, shl_one, Bool.true_and, Bool.false_and, Bool.not_false, Bool.not_true, if_true, if_false, Bool.false_eq_true]; first | done | rfl)))) <| by (iterate 9 refine wF ?_); exact wN))
       ·skip
        have hD : dnB (regSet l) i = false := dn_no (by omega) c15
        refine rg ?_
        refine z ?_ (h := fun ν => acts_load_owns (xs := [vI ((cN i).x), vI ((cN i).y + 1)].map A.val) ν qC12_ti_70 rfl (by decide) rfl)
        refine z ?_ (h := fun ν => acts_call1 ν (spec_CellOk_fn (⟨(cN i).x, ((cN i).y + 1)⟩ : Cel) ) (ac (ArgV.va va) an) (resval (congrArg Value.bool c15)))
        refine zm (zo (zo (zo ?_)))
        refine z ?_ (h := fun ν => acts_pick_f ν vt xc)
        refine nl (wf (sk (sq (rg ?_))))
        refine z ?_ (h := fun ν => acts_field (off' := 0) ν qC12_fo_70_0 rfl)
        refine z ?_ (h := fun ν => acts_load_own (x := .val (.int .i64 ((cN i).x))) ν qC12_ti_3 (by exact rfl))
        refine z ?_ (h := fun ν => acts_bin ν vt vc (rA (by omega) (by omega)))
        refine z ?_ (h := fun ν => acts_field (off' := 1) ν qC12_fo_70_1 rfl)
        refine z ?_ (h := fun ν => acts_load_own (x := .val (.int .i64 ((cN i).y))) ν qC12_ti_3 (by exact rfl))
        refine z ?_ (h := fun ν => bC ν qC12_bs_70 vt vt)
        refine z ?_ (h := fun ν => acts_alloc' (h := 15) (cap := 1) (s := 2) (cells := [aI 0, aI 0]) ν qC12_zi_70 rfl rfl (by decide))
        refine z ?_ (h := fun _ => acts_store (cells := [aI ((cN i).x + 1), aI ((cN i).y)]) qC12_ti_70 xt (by exact rfl) (by decide) (by exact ob1 rfl) (by exact Nat.le_of_ble_eq_true rfl) (by exact rfl))
        refine nl (sq ?_)
        rcases Bool.eq_false_or_eq_true ((okc ((cN i).x + 1) ((cN i).y))) with c27 | c27
        ·skip
         have hO2 := c27
         rcases Bool.eq_false_or_eq_true ((hasR l (⟨((cN i).x + 1), (cN i).y⟩ : Cel))) with c28 | c28
         ·skip
          have hR : rtB (regSet l) i = true := rt_okR ho (by omega) hO2 c28
          have hr7 := rt_lt hR
          have ho2 : (k ||| 2 ^ (i % 8 + 1)) < 256 := or_lt (by omega) hr7
          have hb3 := hbt _ ho2
          have hb4 := rt_bd2 (s := regSet l) (i := i) (k := k) (by omega) (by omega) hR
          unfold putI at hb4
          refine rg ?_
          refine z ?_ (h := fun ν => acts_load_owns (xs := [vI ((cN i).x + 1), vI ((cN i).y)].map A.val) ν qC12_ti_70 rfl (by decide) rfl)
          refine z ?_ (h := fun ν => acts_call1 ν (spec_CellOk_fn (⟨((cN i).x + 1), (cN i).y⟩ : Cel) ) (ac (ArgV.va va) an) (resval (congrArg Value.bool c27)))
          refine zm ?_
          refine zg ?_ (h := fun ν => step_on rfl rfl (acts_load_owns (xs := [(.slv l.length 1 (isl l) : A)]) ν qC12_ti_29 rfl (by decide) rfl))
          refine zg ?_ (h := fun ν => step_on rfl rfl (acts_load_owns (xs := [vI ((cN i).x + 1), vI ((cN i).y)].map A.val) ν qC12_ti_70 rfl (by decide) rfl))
          refine zg ?_ (h := fun ν => step_on rfl rfl (acts_call1 ν (spec_l03Has_fn l (⟨((cN i).x + 1), (cN i).y⟩ : Cel) (by omega) (by omega)) (ac (ArgV.regv _ _ 1 _) (ac (ArgV.va va) an)) (resval (congrArg Value.bool c28))))
          refine z ?_ (h := fun ν => acts_pick_t ν vt xt)
          refine zm ?_
          refine zg ?_ (h := fun ν => step_on rfl rfl (mt ν))
          refine zg ?_ (h := fun ν => step_on rfl rfl (mt ν))
          refine zg ?_ (h := fun ν => step_on rfl rfl (acts_bin ν vt vc (rA (by omega) (by omega))))
          refine zg ?_ (h := fun ν => step_on rfl rfl (acts_bin ν vt vt (r_shr (c := (((k >>> ((i % 8) + 1)) : Nat) : Int)) (by omega) (shrU (m := k) (n := ((i % 8) + 1)) rfl (by rfl) (by omega) rfl))))
          refine zg ?_ (h := fun ν => step_on rfl rfl (acts_bin ν vt vc (r_and (c := ((((k >>> ((i % 8) + 1)) &&& 1) : Nat) : Int)) (andI (m := (k >>> ((i % 8) + 1))) (n := 1) rfl rfl (by exact Nat.lt_of_le_of_lt (shr_le _ _) (by first | omega | assumption | (first | omega | assumption | exact cN_ok (by omega) | exact regSet_lt ho | (simp only [List.length_set]; omega)))) (by omega)))))
          refine zg ?_ (h := fun ν => step_on rfl rfl (acts_bin ν vt vc (r_eql (c := (!(k.testBit ((i % 8) + 1)))) (bit_zero _ _))))
          refine z ?_ (h := fun ν => acts_pick_t ν vt xt)
          refine nl ?_
          refine wi (b := (!(k.testBit ((i % 8) + 1)))) (fun c29 => ?_) (fun c29 => ?_)
          ·skip
           have c30 : (k.testBit ((i % 8) + 1)) = false := by first | (rw [← Bool.not_eq_true']; exact c29) | simpa using c29
           have hK1 : k.testBit (i % 8 + 1) = false := c30
           refine wp_dr (zdm (zdm (zdm ?_)))
           refine zd ?_ (h := fun ν => acts_bin ν vt vc (rA (by omega) (by omega)))
           refine zd ?_ (h := fun ν => acts_bin ν vc vt (r_shl (c := (((2 ^ ((i % 8) + 1)) : Nat) : Int)) (by omega) (shl1I (n := ((i % 8) + 1)) (by rfl) (by omega))))
           refine zd ?_ (h := fun ν => acts_bin ν vt vt (r_or (c := (((k ||| (2 ^ ((i % 8) + 1))) : Nat) : Int)) (orI (m := k) (n := (2 ^ ((i % 8) + 1))) rfl rfl (by omega) (by omega))))
           refine zdm (zdm (zdm ?_))
           refine zd ?_ (h := fun ν => acts_bin ν vt vc (rA (by omega) (by omega)))
           refine zd ?_ (h := fun ν => acts_bin ν vc vt (r_shl (c := (((2 ^ ((i % 8) + 1)) : Nat) : Int)) (by omega) (shl1I (n := ((i % 8) + 1)) (by rfl) (by omega))))
           refine zd ?_ (h := fun ν => acts_bin ν vt vt (r_or (c := (((k ||| (2 ^ ((i % 8) + 1))) : Nat) : Int)) (orI (m := k) (n := (2 ^ ((i % 8) + 1))) rfl rfl (by omega) (by omega))))
           refine zd ?_ (h := fun ν => ix0 ν qC12_un_22 qC12_sz_3 vt (hlt := (by omega)))
           refine zd ?_ (h := fun ν => lI ν qC12_ti_3 (by omega))
           refine zdm ?_
           refine zd ?_ (h := fun ν => acts_bin ν vt vt (rA (by omega) (by omega)))
           refine zd ?_ (h := fun ν => ix0 ν qC12_un_22 qC12_sz_3 vt (hlt := (by omega)))
           refine zd ?_ (h := fun _ => sI qC12_ti_3 xt (by omega))
           refine dw_nil (rg (zm ?_))
           refine z ?_ (h := fun ν => acts_bin ν vt vc (rA (by omega) (by omega)))
           refine za (nl ?_)
           exact loop_back ((k + 1)) (by show _ ≤ _; omega) (by show 256 - (k + 1) < 256 - k; omega) (wkf id (wS <| wS <| wS <| wS <| wS <| wS <| wS <| wE (e := (vint (by rfl))) <| wX <| wX <| wP <| wO (e := renob_eq (fun h => h) (congrArg isl (by (rw [stepT_snoc, sk_c hN hS hK]; simp only [hD, hR, hK1, shl_one, Bool.true_and, Bool.false_and, Bool.not_false, Bool.not_true, if_true, if_false, Bool.false_eq_true]; first | done | rfl)))) <| by (iterate 9 refine wF ?_); exact wN))
          ·skip
           have c31 : (k.testBit ((i % 8) + 1)) = true := by first | (rw [← Bool.not_eq_false']; exact c29) | simpa using c29
           have hK1 : k.testBit (i % 8 + 1) = true := c31
           refine sk (rg (zm ?_))
           refine z ?_ (h := fun ν => acts_bin ν vt vc (rA (by omega) (by omega)))
           refine za (nl ?_)
           exact loop_back ((k + 1)) (by show _ ≤ _; omega) (by show 256 - (k + 1) < 256 - k; omega) (wkf id (wS <| wS <| wS <| wS <| wS <| wS <| wS <| wE (e := (vint (by rfl))) <| wX <| wX <| wP <| wO (e := renob_eq (fun h => h) (congrArg isl (by (rw [stepT_snoc, sk_c hN hS hK]; simp only [hD, hR, hK1, shl_one, Bool.true_and, Bool.false_and, Bool.not_false, Bool.not_true, if_true, if_false, Bool.false_eq_true]; first | done | rfl)))) <| by (iterate 9 refine wF ?_); exact wN))
         ·skip
          have hR : rtB (regSet l) i = false := rt_okR ho (by omega) hO2 c28
          refine rg ?_
          refine z ?_ (h := fun ν => acts_load_owns (xs := [vI ((cN i).x + 1), vI ((cN i).y)].map A.val) ν qC12_ti_70 rfl (by decide) rfl)
          refine z ?_ (h := fun ν => acts_call1 ν (spec_CellOk_fn (⟨((cN i).x + 1), (cN i).y⟩ : Cel) ) (ac (ArgV.va va) an) (resval (congrArg Value.bool c27)))
          refine zm ?_
          refine zg ?_ (h := fun ν => step_on rfl rfl (acts_load_owns (xs := [(.slv l.length 1 (isl l) : A)]) ν qC12_ti_29 rfl (by decide) rfl))
          refine zg ?_ (h := fun ν => step_on rfl rfl (acts_load_owns (xs := [vI ((cN i).x + 1), vI ((cN i).y)].map A.val) ν qC12_ti_70 rfl (by decide) rfl))
          refine zg ?_ (h := fun ν => step_on rfl rfl (acts_call1 ν (spec_l03Has_fn l (⟨((cN i).x + 1), (cN i).y⟩ : Cel) (by omega) (by omega)) (ac (ArgV.regv _ _ 1 _) (ac (ArgV.va va) an)) (resval (congrArg Value.bool c28))))
          refine z ?_ (h := fun ν => acts_pick_t ν vt xt)
          refine zm (zo (zo (zo (zo (zo (zo ?_))))))
          refine z ?_ (h := fun ν => acts_pick_f ν vt xc)
          refine nl (wf (sk (rg (zm ?_))))
          refine z ?_ (h := fun ν => acts_bin ν vt vc (rA (by omega) (by omega)))
          refine za (nl ?_)
          exact loop_back ((k + 1)) (by show _ ≤ _; omega) (by show 256 - (k + 1) < 256 - k; omega) (wkf id (wS <| wS <| wS <| wS <| wS <| wS <| wS <| wE (e := (vint (by rfl))) <| wX <| wX <| wP <| wO (e := renob_eq (fun h => h) (congrArg isl (by (rw [stepT_snoc, sk_c hN hS hK]; simp only [hD, hR, shl_one, Bool.true_and, Bool.false_and, Bool.not_false, Bool.not_true, if_true, if_false, Bool.false_eq_true]; first | done | rfl)))) <| by (iterate 9 refine wF ?_); exact wN))
        ·skip
         have hR : rtB (regSet l) i = false := rt_no (by omega) c27
         refine rg ?_
         refine z ?_ (h := fun ν => acts_load_owns (xs := [vI ((cN i).x + 1), vI ((cN i).y)].map A.val) ν qC12_ti_70 rfl (by decide) rfl)
         refine z ?_ (h := fun ν => acts_call1 ν (spec_CellOk_fn (⟨((cN i).x + 1), (cN i).y⟩ : Cel) ) (ac (ArgV.va va) an) (resval (congrArg Value.bool c27)))
         refine zm (zo (zo (zo ?_)))
         refine z ?_ (h := fun ν => acts_pick_f ν vt xc)
         refine zm (zo (zo (zo (zo (zo (zo ?_))))))
         refine z ?_ (h := fun ν => acts_pick_f ν vt xc)
         refine nl (wf (sk (rg (zm ?_))))
         refine z ?_ (h := fun ν => acts_bin ν vt vc (rA (by omega) (by omega)))
         refine za (nl ?_)
         exact loop_back ((k + 1)) (by show _ ≤ _; omega) (by show 256 - (k + 1) < 256 - k; omega) (wkf id (wS <| wS <| wS <| wS <| wS <| wS <| wS <| wE (e := (vint (by rfl))) <| wX <| wX <| wP <| wO (e := renob_eq (fun h => h) (congrArg isl (by (rw [stepT_snoc, sk_c hN hS hK]; simp only [hD, hR, shl_one, Bool.true_and, Bool.false_and, Bool.not_false, Bool.not_true, if_true, if_false, Bool.false_eq_true]; first | done | rfl)))) <| by (iterate 9 refine wF ?_); exact wN))
  ·skip
   have c4P := of_decide_eq_false c4
   refine wp_exit' (rg (zm (za (nl (rg (zm ?_))))))
   refine z ?_ (h := fun ν => acts_bin ν vt vc (rA (by omega) (by omega)))
   refine za (nl ?_)
   exact loop_back ((i + 1)) (by show _ ≤ _; omega) (by show 64 - (i + 1) < 64 - i; omega) (wkf (subst1 [(18, 38)]) (wS <| wS <| wE (e := (vsl (by omega) rfl)) <| wE (e := (vint (by rfl))) <| wX <| wO (e := renob_eq (fun h => h) (congrArg isl (by (have e : k = 256 := by omega); subst e; rfl))) <| by (iterate 11 refine wF ?_); exact wN))
 ·skip
  have c2P := of_decide_eq_false c2
  refine wp_exit' (sq (rg (zm ?_)))
  refine z ?_ (h := fun ν => ix0 (k := 0) ν qC12_un_22 qC12_sz_3 vc (hlt := (by omega)))
  refine z ?_ (h := fun ν => lI (k := 0) ν qC12_ti_3 (by omega))
  refine za (nl (wp_ret' ?_))
  exact VRes.tmp _ _ _ (by exact rfl) (bval (congrArg (Value.int .i64) (by (have e : i = 64 := by omega); subst e; exact prof_cnt (regSet_lt ho))))
end Cl
end Go.Proofs.YtgmkkfdnmdohlaaGreatDoor
