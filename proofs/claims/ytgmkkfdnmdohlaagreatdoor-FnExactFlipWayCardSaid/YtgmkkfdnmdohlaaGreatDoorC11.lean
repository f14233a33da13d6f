/- Walks over clean states, printed by wg.py. No statement is proved here. -/
import Derived.Test.YtgmkkfdnmdohlaaGreatDoorC10
import Derived.Test.YtgmkkfdnmdohlaaGreatDoorC1
import Derived.Test.YtgmkkfdnmdohlaaGreatDoorClB
set_option linter.unusedSimpArgs false
set_option linter.unusedVariables false
namespace Go.Proofs.YtgmkkfdnmdohlaaGreatDoor
namespace Cl
open Go.ChangeShapes Go.WideShapes Go.ChangeAt Go.RowKit
set_option maxRecDepth 20000

theorem qC11_bs_62 : ∀ (a b : Int) (c : Bool), Tryz.prog.built 62 [(0, .int .i64 a), (1, .int .i64 b), (2, .bool c)] = some ([.int .i64 a, .int .i64 b, .bool c] : List Value).toArray := fun _ _ _ => rfl
theorem qC11_bs_70 : ∀ (a b : Int), Tryz.prog.built 70 [(0, .int .i64 a), (1, .int .i64 b)] = some ([.int .i64 a, .int .i64 b] : List Value).toArray := fun _ _ => rfl
theorem qC11_fo_62_0 : fieldOff Tryz.prog 62 0 = some 0 := by kernel_rfl
theorem qC11_fo_70_0 : fieldOff Tryz.prog 70 0 = some 0 := by kernel_rfl
theorem qC11_fo_70_1 : fieldOff Tryz.prog 70 1 = some 1 := by kernel_rfl
theorem qC11_sz_3 : (Tryz.prog.info? 3).map (·.size) = some 1 := by kernel_rfl
theorem qC11_ti_127 : TI Tryz.prog 127 false 1 := ⟨⟨_, Tryz.underlying127, rfl⟩, by kernel_rfl⟩
theorem qC11_ti_22 : TI Tryz.prog 22 false 1 := ⟨⟨_, Tryz.underlying22, rfl⟩, by kernel_rfl⟩
theorem qC11_ti_3 : TI Tryz.prog 3 false 1 := ⟨⟨_, Tryz.underlying3, rfl⟩, by kernel_rfl⟩
theorem qC11_ti_70 : TI Tryz.prog 70 true 2 := ⟨⟨_, Tryz.underlying70, rfl⟩, by kernel_rfl⟩
theorem qC11_un_22 : Tryz.prog.underlying 22 = some (.slice 3) := Tryz.underlying22
theorem qC11_zi_22 : ZI Tryz.prog 22 (.slice none 0 0) 1 24 := by unfold ZI; kernel_rfl
theorem qC11_zi_3 : ZI Tryz.prog 3 (.int .i64 0) 1 8 := by unfold ZI; kernel_rfl
theorem qC11_zi_70 : ZI Tryz.prog 70 (.agg #[.int .i64 0, .int .i64 0]) 2 16 := by unfold ZI; kernel_rfl
set_option maxHeartbeats 4000000 in
set_option maxRecDepth 100000 in
theorem impl_set__count_1_fn (a b : Int) (h1 : -4611686018427387904 ≤ a + b) (h2 : a + b ≤ 4611686018427387904) : Fn Tryz.prog 109 [.a (.val (.int .i64 a)), .a (.val (.int .i64 b))] [.val (.int .i64 (a + b))] := by
 refine fn_intro (N := 8) Tryz.func109 rfl (by kernel_rfl) rfl (Nat.le_of_ble_eq_true rfl) [] (ret1 rfl) (fun W => ?_)
 show Wp _ _ _ [kI 0 a, kI 1 b]
 refine sq (rg (zk (nl (sq (rg (zm (zm ?_)))))))
 refine z ?_ (h := fun ν => acts_bin ν vt vt rA)
 refine za (nl (wp_ret' ?_))
 exact VRes.tmp _ _ _ (by exact rfl) (BRes.val _)

set_option maxHeartbeats 4000000 in
set_option maxRecDepth 100000 in
theorem impl_set__count_2_fn (n : Int) (d : Dom) : Fn Tryz.prog 110 [.a (.val (.int .i64 n)), .agg ([vI d.x, vI d.y, .bool d.d].map A.val)] [.val (.int .i64 (wth d.x n))] := by
 refine fn_intro (N := 9) Tryz.func110 rfl (by kernel_rfl) rfl (Nat.le_of_ble_eq_true rfl) [3] (ret1 rfl) (fun W => ?_)
 show Wp _ _ _ [kI 0 n, kV 1 (V.av [vI d.x, vI d.y, .bool d.d]), kF 3]
 refine sq (rg ?_)
 refine z ?_ (h := fun ν => acts_box (h := 3) ν xt (by exact ob1 rfl))
 refine zk (nl (sq (sq (rg ?_))))
 refine z ?_ (h := fun ν => acts_field (off' := 0) ν qC11_fo_62_0 rfl)
 refine z ?_ (h := fun ν => acts_load_own (x := .val (.int .i64 d.x)) ν qC11_ti_3 (by exact rfl))
 refine z ?_ (h := fun ν => acts_bin ν vt vc (r_lss rfl))
 refine nl ?_
 refine wi (fun c1 => ?_) (fun c1 => ?_)
 ·skip
  have c1P := of_decide_eq_true c1
  refine sq (rg (zk (nl (wp_ret' ?_))))
  exact VRes.tmp _ _ _ (by exact rfl) (bval (congrArg (Value.int .i64) (by unfold wth; rw [if_pos (by omega)])))
 ·skip
  have c1P := of_decide_eq_false c1
  refine sk (sq (rg (zm (za (nl (wp_ret' ?_))))))
  exact VRes.tmp _ _ _ (by exact rfl) (bval (congrArg (Value.int .i64) (by unfold wth; rw [if_neg (by omega)])))

set_option maxHeartbeats 4000000 in
set_option maxRecDepth 100000 in
theorem impl_profile_1_fn (k m : Nat) (n : Int) (L : List Int) (hk : k < 256) (hL : L.length = 256) (hm : m = 256) (hn : 0 ≤ n ∧ n ≤ 1099511627776) (hg : 0 ≤ gI L k ∧ gI L k ≤ 1099511627776) : FnO Tryz.prog 121 [.a (.val (.int .i64 ((k : Nat) : Int))), .a (.val (.int .i64 n)), .a (.ptr 2 0), .a (.ptr 3 0), .a (.ptr 4 0)] [(.o 2, some (.o ⟨22, 1, true, [(.sl 9 0 m : A)]⟩)), (.o 3, some (.o ⟨3, 1, true, [aI 0]⟩)), (.o 4, some (.o ⟨127, 1, true, [(.fn 109 [] : A)]⟩)), (.o 9, some (.o ⟨3, 1, true, pl (isl L)⟩))] (V.v (.tuple #[])) [(.o 2, some (.o ⟨22, 1, true, [(.sl 9 0 m : A)]⟩)), (.o 3, some (.o ⟨3, 1, true, [aI 0]⟩)), (.o 4, some (.o ⟨127, 1, true, [(.fn 109 [] : A)]⟩)), (.o 9, some (.o ⟨3, 1, true, pl (isl (putI L k n))⟩))] [2, 3, 4, 9] := by
 refine fn_introO (N := 27) Tryz.func121 rfl (by kernel_rfl) rfl (Nat.le_of_ble_eq_true rfl) rfl rfl (by kernel_rfl) (by kernel_rfl) ⟨ocs (by kernel_rfl), ocs (by kernel_rfl), ocs (by kernel_rfl), oc_pl (fun _ => rfl), trivial⟩ [25] (retO0 rfl) (fun W own kp im0 => ?_)
 show Wp _ _ _ [kI 0 ((k : Nat) : Int), kI 1 n, kP 2 2 0, kP 3 3 0, kP 4 4 0, kO 2 22 1 true [(.sl 9 0 m : A)], kO 3 3 1 true [aI 0], kO 4 127 1 true [(.fn 109 [] : A)], kO 9 3 1 true (pl (isl L)), kF 25]
 refine sq (wp_dr ?_)
 refine zd ?_ (h := fun ν => acts_load_own (x := .sl 9 0 m) ν qC11_ti_22 (by exact rfl))
 refine zdm ?_
 refine zd ?_ (h := fun ν => ix0 ν qC11_un_22 qC11_sz_3 vt)
 refine zd ?_ (h := fun ν => lI ν qC11_ti_3)
 refine zd ?_ (h := fun ν => acts_load_own (x := .val (.int .i64 0)) ν qC11_ti_3 (by exact rfl))
 refine zd ?_ (h := fun ν => acts_bin ν vt vt (r_eql rfl))
 refine dw_nil ?_
 refine wi (fun c1 => ?_) (fun c1 => ?_)
 ·skip
  have c1P := of_decide_eq_true c1
  refine rg ?_
  refine z ?_ (h := fun ν => acts_load_own (x := .sl 9 0 m) ν qC11_ti_22 (by exact rfl))
  refine zm (zm ?_)
  refine z ?_ (h := fun ν => ix0 ν qC11_un_22 qC11_sz_3 vt)
  refine z ?_ (h := fun _ => sI qC11_ti_3 xt)
  refine nl ?_
  exact ⟨_, weak_id, ⟨by kernel_rfl, by kernel_rfl, by kernel_rfl, obj_eq (c := pl (isl (L.set k n))) (by kernel_rfl) (congrArg (fun z => pl (isl z)) (by (unfold putI; rw [show gI L k = 0 by assumption, Int.zero_add]))), trivial⟩, trivial⟩
 ·skip
  have c1P := of_decide_eq_false c1
  refine wp_dr ?_
  refine zd ?_ (h := fun ν => acts_load_own (x := .sl 9 0 m) ν qC11_ti_22 (by exact rfl))
  refine zdm ?_
  refine zd ?_ (h := fun ν => acts_load_own (x := .fn 109 []) ν qC11_ti_127 (by exact rfl))
  refine zd ?_ (h := fun ν => acts_load_own (x := .sl 9 0 m) ν qC11_ti_22 (by exact rfl))
  refine zdm ?_
  refine zd ?_ (h := fun ν => ix0 ν qC11_un_22 qC11_sz_3 vt)
  refine zd ?_ (h := fun ν => lI ν qC11_ti_3)
  refine zdm ?_
  refine zd ?_ (h := fun ν => acts_callV (d := 25) (f := 109) (t := 19) (caps := []) (os := []) (os' := []) (r := V.v (.int .i64 ((gI L k) + n))) (bs := [.a (.val (.int .i64 (gI L k))), .a (.val (.int .i64 n))]) (keep := []) (new := []) (dead := []) ν (FnO.of_fn (impl_set__count_1_fn (gI L k) n (by omega) (by omega)) (by kernel_rfl)) rfl trivial rfl (ArgOs.cons ((ArgO.v vt)) (ArgOs.cons ((ArgO.v vt)) (ArgOs.nil))))
  refine zd ?_ (h := fun ν => ix0 ν qC11_un_22 qC11_sz_3 vt)
  refine zd ?_ (h := fun _ => sI qC11_ti_3 xt)
  refine dw_nil ?_
  exact ⟨_, weak_id, ⟨by kernel_rfl, by kernel_rfl, by kernel_rfl, obj_eq (c := pl (isl (L.set k ((gI L k) + n)))) (by kernel_rfl) (congrArg (fun z => pl (isl z)) (by rfl)), trivial⟩, trivial⟩

set_option maxHeartbeats 4000000 in
set_option maxRecDepth 100000 in
theorem impl_profile_fn (s : Nat) (hs : s < 18446744073709551616) : Fn Tryz.prog 108 [.a (.val (.int .u64 ((s : Nat) : Int))), .a (.val (.int .i64 0)), .a (.fn 109 []), .a (.fn 110 [])] [.val (.int .i64 (((cnt s) : Nat) : Int))] := by
 have hpl0 := prof_len s 0
 have hr0 : (List.replicate 256 (0 : Int)).length = 256 := List.length_replicate
 refine fn_intro (N := 157) Tryz.func108 rfl (by kernel_rfl) rfl (Nat.le_of_ble_eq_true rfl) [5, 6, 12, 13, 19, 21, 34, 40, 41, 43, 57, 69, 80, 84, 96, 100, 108, 120, 121, 129, 149, 150] (ret1 rfl) (fun W => ?_)
 show Wp _ _ _ [kU 0 ((s : Nat) : Int), kI 1 0, kV 2 (V.b (.a (.fn 109 []))), kV 3 (V.b (.a (.fn 110 []))), kF 5, kF 6, kF 12, kF 13, kF 19, kF 21, kF 34, kF 40, kF 41, kF 43, kF 57, kF 69, kF 80, kF 84, kF 96, kF 100, kF 108, kF 120, kF 121, kF 129, kF 149, kF 150]
 refine sq (rg ?_)
 refine z ?_ (h := fun ν => acts_box (h := 5) ν xt (by exact ob1 rfl))
 refine z ?_ (h := fun ν => acts_box (h := 6) ν xt (by exact ob1 rfl))
 refine zk (nl (sq (rg ?_)))
 refine z ?_ (h := fun ν => acts_make' (h := 19) (n := 256) (xs := isl (List.replicate 256 0)) ν qC11_un_22 qC11_zi_3 vc vc rfl rfl (by decide) (by omega) (made_ints' 256))
 refine za (nl (sq (sq (rg (zm ?_)))))
 refine z ?_ (h := fun ν => lnS (iv := 256) ν qC11_un_22)
 refine z ?_ (h := fun ν => mc ν)
 refine nl (bkk ?_)
 refine wp_loop' (fun (p : Nat) => p ≤ 256) (fun (p : Nat) => [kU 0 ((s : Nat) : Int), kV 3 (V.b (.a (.fn 110 []))), kP 5 5 0, kP 6 6 0, kS 9 19 0 256, kI 21 256, kI 22 ((p : Nat) : Int), kO 5 3 1 true [aI 0], kO 6 127 1 true [(.fn 109 [] : A)], kO 19 3 1 true (pl (isl (List.replicate 256 0))), kF 12, kF 13, kF 21, kF 34, kF 40, kF 41, kF 43, kF 57, kF 69, kF 80, kF 84, kF 96, kF 100, kF 108, kF 120, kF 121, kF 129, kF 149, kF 150]) (fun (p : Nat) => 256 - p) ((0 : Nat)) (by exact (Nat.zero_le _ : 0 ≤ _)) (wkf id (wS <| wS <| wS <| wS <| wS <| wS <| wE (e := (vint (by rfl))) <| wX <| wX <| wO (e := renob_eq (fun h => h) (congrArg isl (by rfl))) <| by (iterate 19 refine wF ?_); exact wN)) ?_
 rintro p inv1
 replace inv1 : p ≤ 256 := inv1
 have inv := inv1
 refine sq (rg ?_)
 refine z ?_ (h := fun ν => acts_bin ν vt vt (r_lss rfl))
 refine nl (sq ?_)
 refine wi (fun c2 => ?_) (fun c2 => ?_)
 ·skip
  have c2P := of_decide_eq_true c2
  refine sk (sq (bkk (sq (rg (zm (za (nl (rg (zm (zm ?_))))))))))
  refine z ?_ (h := fun ν => acts_load_own (x := .val (.int .i64 0)) ν qC11_ti_3 (by exact rfl))
  refine z ?_ (h := fun ν => ix0 ν qC11_un_22 qC11_sz_3 vt (hlt := (by omega)))
  refine z ?_ (h := fun _ => sI qC11_ti_3 xt (by omega))
  refine nl (rg ?_)
  refine z ?_ (h := fun ν => acts_bin ν vt vc (rA (by omega) (by omega)))
  refine zm (nl ?_)
  exact loop_back ((p + 1)) (by show _ ≤ _; omega) (by show 256 - (p + 1) < 256 - p; omega) (wkf id (wS <| wS <| wS <| wS <| wS <| wS <| wE (e := (vint (by rfl))) <| wX <| wX <| wO (e := renob_eq (fun h => h) (congrArg isl (by exact (rep_set0 _).symm))) <| by (iterate 19 refine wF ?_); exact wN))
 ·skip
  have c2P := of_decide_eq_false c2
  refine wp_exit' (sq (rg (zm (zm ?_))))
  refine z ?_ (h := fun ν => acts_load_own (x := .val (.int .i64 0)) ν qC11_ti_3 (by exact rfl))
  refine z ?_ (h := fun ν => acts_build (cells := [vI (-1), vI 0, .bool false]) ν (.cons vc OpVs.nil) rfl)
  refine z ?_ (h := fun ν => acts_callV (d := 34) (f := 110) (t := 31) (caps := []) (os := []) (os' := []) (r := V.v (.int .i64 (wth (-1) 0))) (bs := [.a (.val (.int .i64 0)), .agg ([vI (-1), vI 0, .bool false].map A.val)]) (keep := []) (new := []) (dead := []) ν (FnO.of_fn (impl_set__count_2_fn 0 (⟨(-1), 0, false⟩ : Dom) ) (by kernel_rfl)) rfl trivial rfl (ArgOs.cons ((ArgO.v vt)) (ArgOs.cons ((ArgO.va va)) (ArgOs.nil))))
  refine z ?_ (h := fun ν => ix0 (k := 0) ν qC11_un_22 qC11_sz_3 vc (hlt := (by omega)))
  refine z ?_ (h := fun _ => sI qC11_ti_3 xt (by omega))
  refine nl (sq (sq (rg ?_)))
  refine z ?_ (h := fun ν => mc ν)
  refine nl (bkk ?_)
  refine wp_loop' (fun (i : Nat) => i ≤ 64) (fun (i : Nat) => [kU 0 ((s : Nat) : Int), kV 3 (V.b (.a (.fn 110 []))), kP 5 5 0, kP 6 6 0, kS 9 19 0 ((prof s i).length), kI 36 ((i : Nat) : Int), kO 5 3 1 true [aI 0], kO 6 127 1 true [(.fn 109 [] : A)], kO 19 3 1 true (pl (isl (prof s i))), kF 12, kF 13, kF 21, kF 34, kF 40, kF 41, kF 43, kF 57, kF 69, kF 80, kF 84, kF 96, kF 100, kF 108, kF 120, kF 121, kF 129, kF 149, kF 150]) (fun (i : Nat) => 64 - i) ((0 : Nat)) (by exact (Nat.zero_le _ : 0 ≤ _)) (wkf id (wS <| wS <| wS <| wS <| wE (e := (vsl (by rfl) rfl)) <| wE (e := (vint (by rfl))) <| wX <| wX <| wO (e := renob_eq (fun h => h) (congrArg isl (by rfl))) <| by (iterate 19 refine wF ?_); exact wN)) ?_
  rintro i inv3
  replace inv3 : i ≤ 64 := inv3
  have invi := inv3
  have hpl := prof_len s i
  have hpl1 := prof_len s (i + 1)
  have hcx : (cN i).x = ((i % 8 : Nat) : Int) := rfl
  have hcx0 : 0 ≤ (cN i).x := Int.natCast_nonneg _
  have hpw : 2 ^ (cN i).x.toNat < 256 := Nat.pow_lt_pow_right (m := (cN i).x.toNat) (n := 8) (by decide) (by omega)
  have hcy : (cN i).y = ((i / 8 : Nat) : Int) := rfl
  refine sq (rg ?_)
  refine z ?_ (h := fun ν => acts_bin ν vt vc (r_lss rfl))
  refine nl (sq ?_)
  refine wi (fun c4 => ?_) (fun c4 => ?_)
  ·skip
   have c4P := of_decide_eq_true c4
   refine sk (sq (bkk (sq (rg (zm (za (nl (sq (rg (zm ?_))))))))))
   refine z ?_ (h := fun ν => acts_call1 ν (impl_cellAt_fn i (by omega)) (ac (ArgV.v vt) an) (ResV.agg [vI ((cN i).x), vI ((cN i).y)]))
   refine z ?_ (h := fun ν => acts_alloc' (h := 12) (cap := 1) (s := 2) (cells := [aI 0, aI 0]) ν qC11_zi_70 rfl rfl (by decide))
   refine z ?_ (h := fun _ => acts_store (cells := [aI ((cN i).x), aI ((cN i).y)]) qC11_ti_70 xt (by exact rfl) (by decide) (by exact ob1 rfl) (by exact Nat.le_of_ble_eq_true rfl) (by exact rfl))
   refine nl (sq (rg ?_))
   refine z ?_ (h := fun ν => acts_make' (h := 41) (n := 256) (xs := isl (List.replicate 256 0)) ν qC11_un_22 qC11_zi_3 vc vc rfl rfl (by decide) (by omega) (made_ints' 256))
   refine z ?_ (h := fun ν => acts_alloc' (h := 13) (cap := 1) (s := 1) (cells := [(.val (.slice none 0 0) : A)]) ν qC11_zi_22 rfl rfl (by decide))
   refine z ?_ (h := fun _ => acts_store (cells := [(.sl 41 0 256 : A)]) qC11_ti_22 xt (by exact rfl) (by decide) (by exact ob1 rfl) (by exact Nat.le_of_ble_eq_true rfl) (by exact rfl))
   refine nl (sq (sq (rg ?_)))
   refine z ?_ (h := fun ν => acts_load_own (x := .sl 41 0 256) ν qC11_ti_22 (by exact rfl))
   refine z ?_ (h := fun ν => lnS (iv := 256) ν qC11_un_22)
   refine z ?_ (h := fun ν => mc ν)
   refine nl (bkk ?_)
   refine wp_loop' (fun (q : Nat) => q ≤ 256) (fun (q : Nat) => [kU 0 ((s : Nat) : Int), kV 3 (V.b (.a (.fn 110 []))), kP 5 5 0, kP 6 6 0, kS 9 19 0 ((prof s i).length), kP 12 12 0, kP 13 13 0, kI 36 ((i : Nat) : Int), kI 43 256, kI 44 ((q : Nat) : Int), kO 5 3 1 true [aI 0], kO 6 127 1 true [(.fn 109 [] : A)], kO 12 70 2 true [aI ((cN i).x), aI ((cN i).y)], kO 13 22 1 true [(.sl 41 0 256 : A)], kO 19 3 1 true (pl (isl (prof s i))), kO 41 3 1 true (pl (isl (List.replicate 256 0))), kF 21, kF 34, kF 40, kF 43, kF 57, kF 69, kF 80, kF 84, kF 96, kF 100, kF 108, kF 120, kF 121, kF 129, kF 149, kF 150]) (fun (q : Nat) => 256 - q) ((0 : Nat)) (by exact (Nat.zero_le _ : 0 ≤ _)) (wkf id (wS <| wS <| wS <| wS <| wS <| wS <| wS <| wS <| wS <| wE (e := (vint (by rfl))) <| wX <| wX <| wX <| wX <| wP <| wO (e := renob_eq (fun h => h) (congrArg isl (by rfl))) <| by (iterate 16 refine wF ?_); exact wN)) ?_
   rintro q inv5
   replace inv5 : q ≤ 256 := inv5
   have inv3 := inv5
   refine sq (rg ?_)
   refine z ?_ (h := fun ν => acts_bin ν vt vt (r_lss rfl))
   refine nl (sq ?_)
   refine wi (fun c6 => ?_) (fun c6 => ?_)
   ·skip
    have c6P := of_decide_eq_true c6
    refine sk (sq (bkk (sq (rg (zm (za (nl (rg ?_))))))))
    refine z ?_ (h := fun ν => acts_load_own (x := .sl 41 0 256) ν qC11_ti_22 (by exact rfl))
    refine zm ?_
    refine z ?_ (h := fun ν => acts_load_own (x := .val (.int .i64 0)) ν qC11_ti_3 (by exact rfl))
    refine z ?_ (h := fun ν => ix0 ν qC11_un_22 qC11_sz_3 vt (hlt := (by omega)))
    refine z ?_ (h := fun _ => sI qC11_ti_3 xt (by omega))
    refine nl (rg ?_)
    refine z ?_ (h := fun ν => acts_bin ν vt vc (rA (by omega) (by omega)))
    refine zm (nl ?_)
    exact loop_back ((q + 1)) (by show _ ≤ _; omega) (by show 256 - (q + 1) < 256 - q; omega) (wkf id (wS <| wS <| wS <| wS <| wS <| wS <| wS <| wS <| wS <| wE (e := (vint (by rfl))) <| wX <| wX <| wX <| wX <| wP <| wO (e := renob_eq (fun h => h) (congrArg isl (by exact (rep_set0 _).symm))) <| by (iterate 16 refine wF ?_); exact wN))
   ·skip
    have c6P := of_decide_eq_false c6
    refine wp_exit' (sq (rg ?_))
    refine z ?_ (h := fun ν => acts_makeFunc (d := 52) (f := 121) (l := [(13, 13), (5, 5), (6, 6)]) ν)
    refine za (nl (sq (rg ?_)))
    refine z ?_ (h := fun ν => acts_field (off' := 0) ν qC11_fo_70_0 rfl)
    refine z ?_ (h := fun ν => acts_load_own (x := .val (.int .i64 ((cN i).x))) ν qC11_ti_3 (by exact rfl))
    refine z ?_ (h := fun ν => acts_bin ν vc vt (r_shl (c := (((2 ^ (((cN i).x).toNat)) : Nat) : Int)) (by omega) (shl1I (n := (((cN i).x).toNat)) (Int.toNat_of_nonneg (by omega)).symm (by omega))))
    refine za (nl (sq (sq (rg (zm ?_)))))
    refine z ?_ (h := fun ν => lnS ν qC11_un_22)
    refine z ?_ (h := fun ν => mc ν)
    refine nl (bkk ?_)
    refine wp_loop' (fun (k : Nat) => k ≤ 256) (fun (k : Nat) => [kU 0 ((s : Nat) : Int), kV 3 (V.b (.a (.fn 110 []))), kP 5 5 0, kP 6 6 0, kP 12 12 0, kP 13 13 0, kV 15 (V.b (.a (.fn 121 [13, 5, 6]))), kI 16 (((2 ^ (((cN i).x).toNat)) : Nat) : Int), kI 36 ((i : Nat) : Int), kS 56 19 0 ((prof s i).length), kI 57 (((prof s i).length : Nat) : Int), kI 58 ((k : Nat) : Int), kO 5 3 1 true [aI 0], kO 6 127 1 true [(.fn 109 [] : A)], kO 12 70 2 true [aI ((cN i).x), aI ((cN i).y)], kO 13 22 1 true [(.sl 41 0 256 : A)], kO 19 3 1 true (pl (isl (prof s i))), kO 41 3 1 true (pl (isl (stepT s i (prof s i) k))), kF 21, kF 34, kF 40, kF 43, kF 57, kF 69, kF 80, kF 84, kF 96, kF 100, kF 108, kF 120, kF 121, kF 129, kF 149, kF 150]) (fun (k : Nat) => 256 - k) ((0 : Nat)) (by exact (Nat.zero_le _ : 0 ≤ _)) (wkf id (wS <| wS <| wS <| wS <| wS <| wS <| wS <| wS <| wS <| wS <| wS <| wE (e := (vint (by rfl))) <| wX <| wX <| wX <| wX <| wP <| wO (e := renob_eq (fun h => h) (congrArg isl (by rfl))) <| by (iterate 16 refine wF ?_); exact wN)) ?_
    rintro k inv7
    replace inv7 : k ≤ 256 := inv7
    have inv4 := inv7
    have hlt := stepT_len s i (prof s i) k
    have hbt : ∀ j, j < 256 → 0 ≤ gI (stepT s i (prof s i) k) j ∧ gI (stepT s i (prof s i) k) j ≤ 1099511627776 := fun j hj => by
     have := part_bd (s := s) (i := i) (by omega) (m := k) (k := j) (by omega) hj
     omega
    refine sq (rg ?_)
    refine z ?_ (h := fun ν => acts_bin ν vt vt (r_lss rfl))
    refine nl (sq ?_)
    refine wi (fun c8 => ?_) (fun c8 => ?_)
    ·skip
     have c8P := of_decide_eq_true c8
     have hpk := prof_bd (s := s) (i := i) (by omega) (k := k) (by omega)
     refine sk (sq (bkk (sq (rg (zm ?_)))))
     refine z ?_ (h := fun ν => ix0 ν qC11_un_22 qC11_sz_3 vt (hlt := (by omega)))
     refine z ?_ (h := fun ν => lI ν qC11_ti_3 (by omega))
     refine za (za (nl (sq (sq (rg (zm ?_))))))
     refine z ?_ (h := fun ν => acts_load_own (x := .val (.int .i64 0)) ν qC11_ti_3 (by exact rfl))
     refine z ?_ (h := fun ν => acts_bin ν vt vt (r_eql rfl))
     refine nl ?_
     refine wi (fun c9 => ?_) (fun c9 => ?_)
     ·skip
      have c9P := of_decide_eq_true c9
      refine wp_exit' (rg ?_)
      refine z ?_ (h := fun ν => acts_bin ν vt vc (rA (by omega) (by omega)))
      refine zm (nl ?_)
      exact loop_back ((k + 1)) (by show _ ≤ _; omega) (by show 256 - (k + 1) < 256 - k; omega) (wkf id (wS <| wS <| wS <| wS <| wS <| wS <| wS <| wS <| wS <| wS <| wS <| wE (e := (vint (by rfl))) <| wX <| wX <| wX <| wX <| wP <| wO (e := renob_eq (fun h => h) (congrArg isl (by (rw [stepT_snoc, sk_zero (by assumption)]; done)))) <| by (iterate 16 refine wF ?_); exact wN))
     ·skip
      have c9P := of_decide_eq_false c9
      have hN : ¬ gI (prof s i) k = 0 := of_decide_eq_false c9
      refine sk (bkk (sq ?_))
      rcases Bool.eq_false_or_eq_true ((hasS s (cN i))) with c10 | c10
      ·skip
       have hS : s.testBit i = true := (has_i (by omega)).symm.trans c10
       refine rg (zm ?_)
       refine z ?_ (h := fun ν => acts_load_owns (xs := [vI ((cN i).x), vI ((cN i).y)].map A.val) ν qC11_ti_70 rfl (by decide) rfl)
       refine z ?_ (h := fun ν => acts_call1 ν (impl_set__has_fn s (cN i) (by omega)) (ac (ArgV.v vt) (ac (ArgV.va va) an)) (resval (congrArg Value.bool c10)))
       refine z ?_ (h := fun ν => acts_un ν vt (r_not (c := false) rfl))
       refine zm (zo (zo (zo (zo ?_))))
       refine z ?_ (h := fun ν => acts_pick_f ν vt xc)
       refine za (nl (wf (sq (rg (zm ?_)))))
       refine z ?_ (h := fun ν => acts_load_owns (xs := [vI ((cN i).x), vI ((cN i).y)].map A.val) ν qC11_ti_70 rfl (by decide) rfl)
       refine z ?_ (h := fun ν => acts_call1 ν (impl_set__has_fn s (cN i) (by omega)) (ac (ArgV.v vt) (ac (ArgV.va va) an)) (resval (congrArg Value.bool c10)))
       refine zm ?_
       refine zg ?_ (h := fun ν => step_on rfl rfl (mt ν))
       refine zg ?_ (h := fun ν => step_on rfl rfl (mt ν))
       refine zg ?_ (h := fun ν => step_on rfl rfl (acts_bin ν vt vt (r_and (c := (((k &&& (2 ^ (((cN i).x).toNat))) : Nat) : Int)) (andI (m := k) (n := (2 ^ (((cN i).x).toNat))) rfl rfl (by omega) (by omega)))))
       refine zg ?_ (h := fun ν => step_on rfl rfl (acts_bin ν vt vc (r_neq rfl)))
       refine z ?_ (h := fun ν => acts_pick_t ν vt xt)
       refine za (nl ?_)
       refine wi (fun c11 => ?_) (fun c11 => ?_)
       ·skip
        have c11P := of_decide_eq_true c11
        have hK : k.testBit (i % 8) = true := and0 (decide_eq_false (of_decide_eq_true c11))
        refine rg (zm (zm (zm ?_)))
        refine z ?_ (h := fun ν => acts_bin ν vt vt (r_andNot (c := (((andn k (2 ^ (((cN i).x).toNat))) : Nat) : Int)) (andnI (m := k) (n := (2 ^ (((cN i).x).toNat))) rfl rfl (by omega) (by omega))))
        refine zm ?_
        refine z ?_ (h := fun ν => acts_callV (d := 96) (f := 121) (t := 91) (caps := [13, 5, 6]) (os := [(.o 13, some (.o ⟨22, 1, true, [(.sl 41 0 256 : A)]⟩)), (.o 5, some (.o ⟨3, 1, true, [aI 0]⟩)), (.o 6, some (.o ⟨127, 1, true, [(.fn 109 [] : A)]⟩)), (.o 41, some (.o ⟨3, 1, true, pl (isl (stepT s i (prof s i) k))⟩))]) (os' := [(.o 13, some (.o ⟨22, 1, true, [(.sl 41 0 256 : A)]⟩)), (.o 5, some (.o ⟨3, 1, true, [aI 0]⟩)), (.o 6, some (.o ⟨127, 1, true, [(.fn 109 [] : A)]⟩)), (.o 41, some (.o ⟨3, 1, true, pl (isl (putI (stepT s i (prof s i) k) (andn k (2 ^ (((cN i).x).toNat))) (gI (prof s i) k)))⟩))]) (r := V.v (.tuple #[])) (bs := [.a (.val (.int .i64 (((andn k (2 ^ (((cN i).x).toNat))) : Nat) : Int))), .a (.val (.int .i64 (gI (prof s i) k)))]) (keep := [13, 5, 6, 41]) (new := []) (dead := []) ν (FnO.ren' (impl_profile_1_fn (andn k (2 ^ (((cN i).x).toNat))) 256 (gI (prof s i) k) (stepT s i (prof s i) k) (by exact andn_lt8 (by omega)) (by omega) (by omega) (by omega) (by exact hbt _ (andn_lt8 (by omega)))) (subst1 [(2, 13), (3, 5), (4, 6), (9, 41)]) rfl rfl (by kernel_rfl) (by kernel_rfl) ⟨ocs (by kernel_rfl), ocs (by kernel_rfl), ocs (by kernel_rfl), oc_pl (fun _ => rfl), trivial⟩ (by kernel_rfl) rfl (by simp only [renS, Ob.ren, pl_ren, rws_ren_doms, rws_ren_ints, rws_ren_cels, rwI_ren, rwD_ren]; first | done | rfl) (by simp only [renS, Ob.ren, pl_ren, rws_ren_doms, rws_ren_ints, rws_ren_cels, rwI_ren, rwD_ren]; first | done | rfl) rfl rfl) (by kernel_rfl) ⟨ocs (by kernel_rfl), ocs (by kernel_rfl), ocs (by kernel_rfl), oc_pl (fun _ => rfl), trivial⟩ (by kernel_rfl) (ArgOs.cons ((ArgO.v vt)) (ArgOs.cons ((ArgO.v vt)) (ArgOs.nil))))
        refine nl (rg ?_)
        refine z ?_ (h := fun ν => acts_bin ν vt vc (rA (by omega) (by omega)))
        refine zm (nl ?_)
        exact loop_back ((k + 1)) (by show _ ≤ _; omega) (by show 256 - (k + 1) < 256 - k; omega) (wkf id (wS <| wS <| wS <| wS <| wS <| wS <| wS <| wS <| wS <| wS <| wS <| wE (e := (vint (by rfl))) <| wX <| wX <| wX <| wX <| wP <| wO (e := renob_eq (fun h => h) (congrArg isl (by (rw [stepT_snoc, sk_b hN hS hK]; first | done | rfl)))) <| by (iterate 16 refine wF ?_); exact wN))
       ·skip
        have c11P := of_decide_eq_false c11
        have hK : k.testBit (i % 8) = false := and0 (decide_eq_true (Decidable.not_not.1 (of_decide_eq_false c11)))
        refine sq (rg (zm ?_))
        refine z ?_ (h := fun ν => acts_load_owns (xs := [vI ((cN i).x), vI ((cN i).y)].map A.val) ν qC11_ti_70 rfl (by decide) rfl)
        refine z ?_ (h := fun ν => acts_call1 ν (impl_set__has_fn s (cN i) (by omega)) (ac (ArgV.v vt) (ac (ArgV.va va) an)) (resval (congrArg Value.bool c10)))
        refine za (nl (wt (sq (sq (rg (zm ?_))))))
        refine z ?_ (h := fun ν => acts_field (off' := 0) ν qC11_fo_70_0 rfl)
        refine z ?_ (h := fun ν => acts_load_own (x := .val (.int .i64 ((cN i).x))) ν qC11_ti_3 (by exact rfl))
        refine z ?_ (h := fun ν => acts_field (off' := 1) ν qC11_fo_70_1 rfl)
        refine z ?_ (h := fun ν => acts_load_own (x := .val (.int .i64 ((cN i).y))) ν qC11_ti_3 (by exact rfl))
        refine z ?_ (h := fun ν => acts_bin ν vt vc (rA (by omega) (by omega)))
        refine z ?_ (h := fun ν => bC ν qC11_bs_70 vt vt)
        refine z ?_ (h := fun ν => acts_call1 ν (impl_set__has_fn s (⟨(cN i).x, ((cN i).y + 1)⟩ : Cel) (by omega)) (ac (ArgV.v vt) (ac (ArgV.va va) an)) rv)
        refine nl ?_
        refine wi (b := (hasS s (⟨(cN i).x, ((cN i).y + 1)⟩ : Cel))) (fun c12 => ?_) (fun c12 => ?_)
        ·skip
         have hD : dnB s i = true := (has_dn (by omega)).symm.trans c12
         refine rg (zm (zm (zm ?_)))
         refine z ?_ (h := fun ν => acts_bin ν vt vt (r_or (c := (((k ||| (2 ^ (((cN i).x).toNat))) : Nat) : Int)) (orI (m := k) (n := (2 ^ (((cN i).x).toNat))) rfl rfl (by omega) (by omega))))
         refine zm (zm ?_)
         refine z ?_ (h := fun ν => acts_field (off' := 0) ν qC11_fo_70_0 rfl)
         refine z ?_ (h := fun ν => acts_load_own (x := .val (.int .i64 ((cN i).x))) ν qC11_ti_3 (by exact rfl))
         refine z ?_ (h := fun ν => acts_field (off' := 1) ν qC11_fo_70_1 rfl)
         refine z ?_ (h := fun ν => acts_load_own (x := .val (.int .i64 ((cN i).y))) ν qC11_ti_3 (by exact rfl))
         refine z ?_ (h := fun ν => bD ν qC11_bs_62 vt vt vc)
         refine z ?_ (h := fun ν => acts_callV (d := 120) (f := 110) (t := 113) (caps := []) (os := []) (os' := []) (r := V.v (.int .i64 (wth ((cN i).x) (gI (prof s i) k)))) (bs := [.a (.val (.int .i64 (gI (prof s i) k))), .agg ([vI ((cN i).x), vI ((cN i).y), .bool true].map A.val)]) (keep := []) (new := []) (dead := []) ν (FnO.of_fn (impl_set__count_2_fn (gI (prof s i) k) (⟨(cN i).x, (cN i).y, true⟩ : Dom) ) (by kernel_rfl)) rfl trivial rfl (ArgOs.cons ((ArgO.v vt)) (ArgOs.cons ((ArgO.va va)) (ArgOs.nil))))
         refine z ?_ (h := fun ν => acts_callV (d := 121) (f := 121) (t := 109) (caps := [13, 5, 6]) (os := [(.o 13, some (.o ⟨22, 1, true, [(.sl 41 0 256 : A)]⟩)), (.o 5, some (.o ⟨3, 1, true, [aI 0]⟩)), (.o 6, some (.o ⟨127, 1, true, [(.fn 109 [] : A)]⟩)), (.o 41, some (.o ⟨3, 1, true, pl (isl (stepT s i (prof s i) k))⟩))]) (os' := [(.o 13, some (.o ⟨22, 1, true, [(.sl 41 0 256 : A)]⟩)), (.o 5, some (.o ⟨3, 1, true, [aI 0]⟩)), (.o 6, some (.o ⟨127, 1, true, [(.fn 109 [] : A)]⟩)), (.o 41, some (.o ⟨3, 1, true, pl (isl (putI (stepT s i (prof s i) k) (k ||| (2 ^ (((cN i).x).toNat))) (wth ((cN i).x) (gI (prof s i) k))))⟩))]) (r := V.v (.tuple #[])) (bs := [.a (.val (.int .i64 (((k ||| (2 ^ (((cN i).x).toNat))) : Nat) : Int))), .a (.val (.int .i64 (wth ((cN i).x) (gI (prof s i) k))))]) (keep := [13, 5, 6, 41]) (new := []) (dead := []) ν (FnO.ren' (impl_profile_1_fn (k ||| (2 ^ (((cN i).x).toNat))) 256 (wth ((cN i).x) (gI (prof s i) k)) (stepT s i (prof s i) k) (by exact or_lt (by omega) (by omega)) (by omega) (by omega) (by (rw [wth_n (by omega)]; omega)) (by exact hbt _ (or_lt (by omega) (by omega)))) (subst1 [(2, 13), (3, 5), (4, 6), (9, 41)]) rfl rfl (by kernel_rfl) (by kernel_rfl) ⟨ocs (by kernel_rfl), ocs (by kernel_rfl), ocs (by kernel_rfl), oc_pl (fun _ => rfl), trivial⟩ (by kernel_rfl) rfl (by simp only [renS, Ob.ren, pl_ren, rws_ren_doms, rws_ren_ints, rws_ren_cels, rwI_ren, rwD_ren]; first | done | rfl) (by simp only [renS, Ob.ren, pl_ren, rws_ren_doms, rws_ren_ints, rws_ren_cels, rwI_ren, rwD_ren]; first | done | rfl) rfl rfl) (by kernel_rfl) ⟨ocs (by kernel_rfl), ocs (by kernel_rfl), ocs (by kernel_rfl), oc_pl (fun _ => rfl), trivial⟩ (by kernel_rfl) (ArgOs.cons ((ArgO.v vt)) (ArgOs.cons ((ArgO.v vt)) (ArgOs.nil))))
         refine nl (sq ?_)
         rcases Bool.eq_false_or_eq_true ((hasS s (⟨((cN i).x + 1), (cN i).y⟩ : Cel))) with c13 | c13
         ·skip
          have hR : rtB s i = true := (has_rt (by omega)).symm.trans c13
          have hr7 := rt_lt hR
          refine rg (zm ?_)
          refine z ?_ (h := fun ν => acts_field (off' := 0) ν qC11_fo_70_0 rfl)
          refine z ?_ (h := fun ν => acts_load_own (x := .val (.int .i64 ((cN i).x))) ν qC11_ti_3 (by exact rfl))
          refine z ?_ (h := fun ν => acts_bin ν vt vc (rA (by omega) (by omega)))
          refine z ?_ (h := fun ν => acts_field (off' := 1) ν qC11_fo_70_1 rfl)
          refine z ?_ (h := fun ν => acts_load_own (x := .val (.int .i64 ((cN i).y))) ν qC11_ti_3 (by exact rfl))
          refine z ?_ (h := fun ν => bC ν qC11_bs_70 vt vt)
          refine z ?_ (h := fun ν => acts_call1 ν (impl_set__has_fn s (⟨((cN i).x + 1), (cN i).y⟩ : Cel) (by omega)) (ac (ArgV.v vt) (ac (ArgV.va va) an)) (resval (congrArg Value.bool c13)))
          refine zm ?_
          refine zg ?_ (h := fun ν => step_on rfl rfl (mt ν))
          refine zg ?_ (h := fun ν => step_on rfl rfl (mt ν))
          refine zg ?_ (h := fun ν => step_on rfl rfl (acts_bin ν vt vc (r_shl (c := ((((2 ^ (((cN i).x).toNat)) <<< 1) : Nat) : Int)) (by omega) (shlI (m := (2 ^ (((cN i).x).toNat))) (n := 1) rfl rfl (by omega) (by omega)))))
          refine zg ?_ (h := fun ν => step_on rfl rfl (acts_bin ν vt vt (r_and (c := (((k &&& ((2 ^ (((cN i).x).toNat)) <<< 1)) : Nat) : Int)) (andI (m := k) (n := ((2 ^ (((cN i).x).toNat)) <<< 1)) rfl rfl (by omega) (by omega)))))
          refine zg ?_ (h := fun ν => step_on rfl rfl (acts_bin ν vt vc (r_eql rfl)))
          refine z ?_ (h := fun ν => acts_pick_t ν vt xt)
          refine nl ?_
          refine wi (fun c14 => ?_) (fun c14 => ?_)
          ·skip
           have c14P := of_decide_eq_true c14
           have hK1 : k.testBit (i % 8 + 1) = false := and1 c14
           refine rg (zm (zm (zm ?_)))
           refine z ?_ (h := fun ν => acts_bin ν vt vc (r_shl (c := ((((2 ^ (((cN i).x).toNat)) <<< 1) : Nat) : Int)) (by omega) (shlI (m := (2 ^ (((cN i).x).toNat))) (n := 1) rfl rfl (by omega) (by omega))))
           refine z ?_ (h := fun ν => acts_bin ν vt vt (r_or (c := (((k ||| ((2 ^ (((cN i).x).toNat)) <<< 1)) : Nat) : Int)) (orI (m := k) (n := ((2 ^ (((cN i).x).toNat)) <<< 1)) rfl rfl (by omega) (by omega))))
           refine zm (zm ?_)
           refine z ?_ (h := fun ν => acts_field (off' := 0) ν qC11_fo_70_0 rfl)
           refine z ?_ (h := fun ν => acts_load_own (x := .val (.int .i64 ((cN i).x))) ν qC11_ti_3 (by exact rfl))
           refine z ?_ (h := fun ν => acts_field (off' := 1) ν qC11_fo_70_1 rfl)
           refine z ?_ (h := fun ν => acts_load_own (x := .val (.int .i64 ((cN i).y))) ν qC11_ti_3 (by exact rfl))
           refine z ?_ (h := fun ν => bD ν qC11_bs_62 vt vt vc)
           refine z ?_ (h := fun ν => acts_callV (d := 149) (f := 110) (t := 142) (caps := []) (os := []) (os' := []) (r := V.v (.int .i64 (wth ((cN i).x) (gI (prof s i) k)))) (bs := [.a (.val (.int .i64 (gI (prof s i) k))), .agg ([vI ((cN i).x), vI ((cN i).y), .bool false].map A.val)]) (keep := []) (new := []) (dead := []) ν (FnO.of_fn (impl_set__count_2_fn (gI (prof s i) k) (⟨(cN i).x, (cN i).y, false⟩ : Dom) ) (by kernel_rfl)) rfl trivial rfl (ArgOs.cons ((ArgO.v vt)) (ArgOs.cons ((ArgO.va va)) (ArgOs.nil))))
           refine z ?_ (h := fun ν => acts_callV (d := 150) (f := 121) (t := 137) (caps := [13, 5, 6]) (os := [(.o 13, some (.o ⟨22, 1, true, [(.sl 41 0 256 : A)]⟩)), (.o 5, some (.o ⟨3, 1, true, [aI 0]⟩)), (.o 6, some (.o ⟨127, 1, true, [(.fn 109 [] : A)]⟩)), (.o 41, some (.o ⟨3, 1, true, pl (isl (putI (stepT s i (prof s i) k) (k ||| (2 ^ (((cN i).x).toNat))) (wth ((cN i).x) (gI (prof s i) k))))⟩))]) (os' := [(.o 13, some (.o ⟨22, 1, true, [(.sl 41 0 256 : A)]⟩)), (.o 5, some (.o ⟨3, 1, true, [aI 0]⟩)), (.o 6, some (.o ⟨127, 1, true, [(.fn 109 [] : A)]⟩)), (.o 41, some (.o ⟨3, 1, true, pl (isl (putI (putI (stepT s i (prof s i) k) (k ||| (2 ^ (((cN i).x).toNat))) (wth ((cN i).x) (gI (prof s i) k))) (k ||| ((2 ^ (((cN i).x).toNat)) <<< 1)) (wth ((cN i).x) (gI (prof s i) k))))⟩))]) (r := V.v (.tuple #[])) (bs := [.a (.val (.int .i64 (((k ||| ((2 ^ (((cN i).x).toNat)) <<< 1)) : Nat) : Int))), .a (.val (.int .i64 (wth ((cN i).x) (gI (prof s i) k))))]) (keep := [13, 5, 6, 41]) (new := []) (dead := []) ν (FnO.ren' (impl_profile_1_fn (k ||| ((2 ^ (((cN i).x).toNat)) <<< 1)) 256 (wth ((cN i).x) (gI (prof s i) k)) (putI (stepT s i (prof s i) k) (k ||| (2 ^ (((cN i).x).toNat))) (wth ((cN i).x) (gI (prof s i) k))) (by (rw [shl_one]; exact or_lt (by omega) (by omega))) (by (simp only [putI_len, stepT_len]; done)) (by omega) (by (rw [wth_n (by omega)]; omega)) (by exact rt_bd (by omega) (by omega) hR)) (subst1 [(2, 13), (3, 5), (4, 6), (9, 41)]) rfl rfl (by kernel_rfl) (by kernel_rfl) ⟨ocs (by kernel_rfl), ocs (by kernel_rfl), ocs (by kernel_rfl), oc_pl (fun _ => rfl), trivial⟩ (by kernel_rfl) rfl (by simp only [renS, Ob.ren, pl_ren, rws_ren_doms, rws_ren_ints, rws_ren_cels, rwI_ren, rwD_ren]; first | done | rfl) (by simp only [renS, Ob.ren, pl_ren, rws_ren_doms, rws_ren_ints, rws_ren_cels, rwI_ren, rwD_ren]; first | done | rfl) rfl rfl) (by kernel_rfl) ⟨ocs (by kernel_rfl), ocs (by kernel_rfl), ocs (by kernel_rfl), oc_pl (fun _ => rfl), trivial⟩ (by kernel_rfl) (ArgOs.cons ((ArgO.v vt)) (ArgOs.cons ((ArgO.v vt)) (ArgOs.nil))))
           refine nl (rg ?_)
           refine z ?_ (h := fun ν => acts_bin ν vt vc (rA (by omega) (by omega)))
           refine zm (nl ?_)
           exact loop_back ((k + 1)) (by show _ ≤ _; omega) (by show 256 - (k + 1) < 256 - k; omega) (wkf id (wS <| wS <| wS <| wS <| wS <| wS <| wS <| wS <| wS <| wS <| wS <| wE (e := (vint (by rfl))) <| wX <| wX <| wX <| wX <| wP <| wO (e := renob_eq (fun h => h) (congrArg isl (by (rw [stepT_snoc, sk_c hN hS hK]; simp only [hD, hR, hK1, wth_n hcx0, shl_one, Bool.true_and, Bool.false_and, Bool.not_false, Bool.not_true, if_true, if_false, Bool.false_eq_true]; first | done | rfl)))) <| by (iterate 16 refine wF ?_); exact wN))
          ·skip
           have c14P := of_decide_eq_false c14
           have hK1 : k.testBit (i % 8 + 1) = true := and1 c14
           refine sk (rg ?_)
           refine z ?_ (h := fun ν => acts_bin ν vt vc (rA (by omega) (by omega)))
           refine zm (nl ?_)
           exact loop_back ((k + 1)) (by show _ ≤ _; omega) (by show 256 - (k + 1) < 256 - k; omega) (wkf id (wS <| wS <| wS <| wS <| wS <| wS <| wS <| wS <| wS <| wS <| wS <| wE (e := (vint (by rfl))) <| wX <| wX <| wX <| wX <| wP <| wO (e := renob_eq (fun h => h) (congrArg isl (by (rw [stepT_snoc, sk_c hN hS hK]; simp only [hD, hR, hK1, wth_n hcx0, shl_one, Bool.true_and, Bool.false_and, Bool.not_false, Bool.not_true, if_true, if_false, Bool.false_eq_true]; first | done | rfl)))) <| by (iterate 16 refine wF ?_); exact wN))
         ·skip
          have hR : rtB s i = false := (has_rt (by omega)).symm.trans c13
          refine rg (zm ?_)
          refine z ?_ (h := fun ν => acts_field (off' := 0) ν qC11_fo_70_0 rfl)
          refine z ?_ (h := fun ν => acts_load_own (x := .val (.int .i64 ((cN i).x))) ν qC11_ti_3 (by exact rfl))
          refine z ?_ (h := fun ν => acts_bin ν vt vc (rA (by omega) (by omega)))
          refine z ?_ (h := fun ν => acts_field (off' := 1) ν qC11_fo_70_1 rfl)
          refine z ?_ (h := fun ν => acts_load_own (x := .val (.int .i64 ((cN i).y))) ν qC11_ti_3 (by exact rfl))
          refine z ?_ (h := fun ν => bC ν qC11_bs_70 vt vt)
          refine z ?_ (h := fun ν => acts_call1 ν (impl_set__has_fn s (⟨((cN i).x + 1), (cN i).y⟩ : Cel) (by omega)) (ac (ArgV.v vt) (ac (ArgV.va va) an)) (resval (congrArg Value.bool c13)))
          refine zm (zo (zo (zo (zo (zo ?_)))))
          refine z ?_ (h := fun ν => acts_pick_f ν vt xc)
          refine nl (wf (sk (rg ?_)))
          refine z ?_ (h := fun ν => acts_bin ν vt vc (rA (by omega) (by omega)))
          refine zm (nl ?_)
          exact loop_back ((k + 1)) (by show _ ≤ _; omega) (by show 256 - (k + 1) < 256 - k; omega) (wkf id (wS <| wS <| wS <| wS <| wS <| wS <| wS <| wS <| wS <| wS <| wS <| wE (e := (vint (by rfl))) <| wX <| wX <| wX <| wX <| wP <| wO (e := renob_eq (fun h => h) (congrArg isl (by (rw [stepT_snoc, sk_c hN hS hK]; simp only [hD, hR, wth_n hcx0, shl_one, Bool.true_and, Bool.false_and, Bool.not_false, Bool.not_true, if_true, if_false, Bool.false_eq_true]; first | done | rfl)))) <| by (iterate 16 refine wF ?_); exact wN))
        ·skip
         have hD : dnB s i = false := (has_dn (by omega)).symm.trans c12
         refine sk (sq ?_)
         rcases Bool.eq_false_or_eq_true ((hasS s (⟨((cN i).x + 1), (cN i).y⟩ : Cel))) with c15 | c15
         ·skip
          have hR : rtB s i = true := (has_rt (by omega)).symm.trans c15
          have hr7 := rt_lt hR
          refine rg (zm ?_)
          refine z ?_ (h := fun ν => acts_field (off' := 0) ν qC11_fo_70_0 rfl)
          refine z ?_ (h := fun ν => acts_load_own (x := .val (.int .i64 ((cN i).x))) ν qC11_ti_3 (by exact rfl))
          refine z ?_ (h := fun ν => acts_bin ν vt vc (rA (by omega) (by omega)))
          refine z ?_ (h := fun ν => acts_field (off' := 1) ν qC11_fo_70_1 rfl)
          refine z ?_ (h := fun ν => acts_load_own (x := .val (.int .i64 ((cN i).y))) ν qC11_ti_3 (by exact rfl))
          refine z ?_ (h := fun ν => bC ν qC11_bs_70 vt vt)
          refine z ?_ (h := fun ν => acts_call1 ν (impl_set__has_fn s (⟨((cN i).x + 1), (cN i).y⟩ : Cel) (by omega)) (ac (ArgV.v vt) (ac (ArgV.va va) an)) (resval (congrArg Value.bool c15)))
          refine zm ?_
          refine zg ?_ (h := fun ν => step_on rfl rfl (mt ν))
          refine zg ?_ (h := fun ν => step_on rfl rfl (mt ν))
          refine zg ?_ (h := fun ν => step_on rfl rfl (acts_bin ν vt vc (r_shl (c := ((((2 ^ (((cN i).x).toNat)) <<< 1) : Nat) : Int)) (by omega) (shlI (m := (2 ^ (((cN i).x).toNat))) (n := 1) rfl rfl (by omega) (by omega)))))
          refine zg ?_ (h := fun ν => step_on rfl rfl (acts_bin ν vt vt (r_and (c := (((k &&& ((2 ^ (((cN i).x).toNat)) <<< 1)) : Nat) : Int)) (andI (m := k) (n := ((2 ^ (((cN i).x).toNat)) <<< 1)) rfl rfl (by omega) (by omega)))))
          refine zg ?_ (h := fun ν => step_on rfl rfl (acts_bin ν vt vc (r_eql rfl)))
          refine z ?_ (h := fun ν => acts_pick_t ν vt xt)
          refine nl ?_
          refine wi (fun c16 => ?_) (fun c16 => ?_)
          ·skip
           have c16P := of_decide_eq_true c16
           have hK1 : k.testBit (i % 8 + 1) = false := and1 c16
           refine rg (zm (zm (zm ?_)))
           refine z ?_ (h := fun ν => acts_bin ν vt vc (r_shl (c := ((((2 ^ (((cN i).x).toNat)) <<< 1) : Nat) : Int)) (by omega) (shlI (m := (2 ^ (((cN i).x).toNat))) (n := 1) rfl rfl (by omega) (by omega))))
           refine z ?_ (h := fun ν => acts_bin ν vt vt (r_or (c := (((k ||| ((2 ^ (((cN i).x).toNat)) <<< 1)) : Nat) : Int)) (orI (m := k) (n := ((2 ^ (((cN i).x).toNat)) <<< 1)) rfl rfl (by omega) (by omega))))
           refine zm (zm ?_)
           refine z ?_ (h := fun ν => acts_field (off' := 0) ν qC11_fo_70_0 rfl)
           refine z ?_ (h := fun ν => acts_load_own (x := .val (.int .i64 ((cN i).x))) ν qC11_ti_3 (by exact rfl))
           refine z ?_ (h := fun ν => acts_field (off' := 1) ν qC11_fo_70_1 rfl)
           refine z ?_ (h := fun ν => acts_load_own (x := .val (.int .i64 ((cN i).y))) ν qC11_ti_3 (by exact rfl))
           refine z ?_ (h := fun ν => bD ν qC11_bs_62 vt vt vc)
           refine z ?_ (h := fun ν => acts_callV (d := 149) (f := 110) (t := 142) (caps := []) (os := []) (os' := []) (r := V.v (.int .i64 (wth ((cN i).x) (gI (prof s i) k)))) (bs := [.a (.val (.int .i64 (gI (prof s i) k))), .agg ([vI ((cN i).x), vI ((cN i).y), .bool false].map A.val)]) (keep := []) (new := []) (dead := []) ν (FnO.of_fn (impl_set__count_2_fn (gI (prof s i) k) (⟨(cN i).x, (cN i).y, false⟩ : Dom) ) (by kernel_rfl)) rfl trivial rfl (ArgOs.cons ((ArgO.v vt)) (ArgOs.cons ((ArgO.va va)) (ArgOs.nil))))
           refine z ?_ (h := fun ν => acts_callV (d := 150) (f := 121) (t := 137) (caps := [13, 5, 6]) (os := [(.o 13, some (.o ⟨22, 1, true, [(.sl 41 0 256 : A)]⟩)), (.o 5, some (.o ⟨3, 1, true, [aI 0]⟩)), (.o 6, some (.o ⟨127, 1, true, [(.fn 109 [] : A)]⟩)), (.o 41, some (.o ⟨3, 1, true, pl (isl (stepT s i (prof s i) k))⟩))]) (os' := [(.o 13, some (.o ⟨22, 1, true, [(.sl 41 0 256 : A)]⟩)), (.o 5, some (.o ⟨3, 1, true, [aI 0]⟩)), (.o 6, some (.o ⟨127, 1, true, [(.fn 109 [] : A)]⟩)), (.o 41, some (.o ⟨3, 1, true, pl (isl (putI (stepT s i (prof s i) k) (k ||| ((2 ^ (((cN i).x).toNat)) <<< 1)) (wth ((cN i).x) (gI (prof s i) k))))⟩))]) (r := V.v (.tuple #[])) (bs := [.a (.val (.int .i64 (((k ||| ((2 ^ (((cN i).x).toNat)) <<< 1)) : Nat) : Int))), .a (.val (.int .i64 (wth ((cN i).x) (gI (prof s i) k))))]) (keep := [13, 5, 6, 41]) (new := []) (dead := []) ν (FnO.ren' (impl_profile_1_fn (k ||| ((2 ^ (((cN i).x).toNat)) <<< 1)) 256 (wth ((cN i).x) (gI (prof s i) k)) (stepT s i (prof s i) k) (by (rw [shl_one]; exact or_lt (by omega) (by omega))) (by omega) (by omega) (by (rw [wth_n (by omega)]; omega)) (by (rw [shl_one]; exact hbt _ (or_lt (by omega) (by omega))))) (subst1 [(2, 13), (3, 5), (4, 6), (9, 41)]) rfl rfl (by kernel_rfl) (by kernel_rfl) ⟨ocs (by kernel_rfl), ocs (by kernel_rfl), ocs (by kernel_rfl), oc_pl (fun _ => rfl), trivial⟩ (by kernel_rfl) rfl (by simp only [renS, Ob.ren, pl_ren, rws_ren_doms, rws_ren_ints, rws_ren_cels, rwI_ren, rwD_ren]; first | done | rfl) (by simp only [renS, Ob.ren, pl_ren, rws_ren_doms, rws_ren_ints, rws_ren_cels, rwI_ren, rwD_ren]; first | done | rfl) rfl rfl) (by kernel_rfl) ⟨ocs (by kernel_rfl), ocs (by kernel_rfl), ocs (by kernel_rfl), oc_pl (fun _ => rfl), trivial⟩ (by kernel_rfl) (ArgOs.cons ((ArgO.v vt)) (ArgOs.cons ((ArgO.v vt)) (ArgOs.nil))))
           refine nl (rg ?_)
           refine z ?_ (h := fun ν => acts_bin ν vt vc (rA (by omega) (by omega)))
           refine zm (nl ?_)
           exact loop_back ((k + 1)) (by show _ ≤ _; omega) (by show 256 - (k + 1) < 256 - k; omega) (wkf id (wS <| wS <| wS <| wS <| wS <| wS <| wS <| wS <| wS <| wS <| wS <| wE (e := (vint (by rfl))) <| wX <| wX <| wX <| wX <| wP <| wO (e := renob_eq (fun h => h) (congrArg isl (by (rw [stepT_snoc, sk_c hN hS hK]; simp only [hD, hR, hK1, wth_n hcx0, shl_one, Bool.true_and, Bool.false_and, Bool.not_false, Bool.not_true, if_true, if_false, Bool.false_eq_true]; first | done | rfl)))) <| by (iterate 16 refine wF ?_); exact wN))
          ·skip
           have c16P := of_decide_eq_false c16
           have hK1 : k.testBit (i % 8 + 1) = true := and1 c16
           refine sk (rg ?_)
           refine z ?_ (h := fun ν => acts_bin ν vt vc (rA (by omega) (by omega)))
           refine zm (nl ?_)
           exact loop_back ((k + 1)) (by show _ ≤ _; omega) (by show 256 - (k + 1) < 256 - k; omega) (wkf id (wS <| wS <| wS <| wS <| wS <| wS <| wS <| wS <| wS <| wS <| wS <| wE (e := (vint (by rfl))) <| wX <| wX <| wX <| wX <| wP <| wO (e := renob_eq (fun h => h) (congrArg isl (by (rw [stepT_snoc, sk_c hN hS hK]; simp only [hD, hR, hK1, wth_n hcx0, shl_one, Bool.true_and, Bool.false_and, Bool.not_false, Bool.not_true, if_true, if_false, Bool.false_eq_true]; first | done | rfl)))) <| by (iterate 16 refine wF ?_); exact wN))
         ·skip
          have hR : rtB s i = false := (has_rt (by omega)).symm.trans c15
          refine rg (zm ?_)
          refine z ?_ (h := fun ν => acts_field (off' := 0) ν qC11_fo_70_0 rfl)
          refine z ?_ (h := fun ν => acts_load_own (x := .val (.int .i64 ((cN i).x))) ν qC11_ti_3 (by exact rfl))
          refine z ?_ (h := fun ν => acts_bin ν vt vc (rA (by omega) (by omega)))
          refine z ?_ (h := fun ν => acts_field (off' := 1) ν qC11_fo_70_1 rfl)
          refine z ?_ (h := fun ν => acts_load_own (x := .val (.int .i64 ((cN i).y))) ν qC11_ti_3 (by exact rfl))
          refine z ?_ (h := fun ν => bC ν qC11_bs_70 vt vt)
          refine z ?_ (h := fun ν => acts_call1 ν (impl_set__has_fn s (⟨((cN i).x + 1), (cN i).y⟩ : Cel) (by omega)) (ac (ArgV.v vt) (ac (ArgV.va va) an)) (resval (congrArg Value.bool c15)))
          refine zm (zo (zo (zo (zo (zo ?_)))))
          refine z ?_ (h := fun ν => acts_pick_f ν vt xc)
          refine nl (wf (sk (rg ?_)))
          refine z ?_ (h := fun ν => acts_bin ν vt vc (rA (by omega) (by omega)))
          refine zm (nl ?_)
          exact loop_back ((k + 1)) (by show _ ≤ _; omega) (by show 256 - (k + 1) < 256 - k; omega) (wkf id (wS <| wS <| wS <| wS <| wS <| wS <| wS <| wS <| wS <| wS <| wS <| wE (e := (vint (by rfl))) <| wX <| wX <| wX <| wX <| wP <| wO (e := renob_eq (fun h => h) (congrArg isl (by (rw [stepT_snoc, sk_c hN hS hK]; simp only [hD, hR, wth_n hcx0, shl_one, Bool.true_and, Bool.false_and, Bool.not_false, Bool.not_true, if_true, if_false, Bool.false_eq_true]; first | done | rfl)))) <| by (iterate 16 refine wF ?_); exact wN))
      ·skip
       have hS : s.testBit i = false := (has_i (by omega)).symm.trans c10
       refine rg (zm ?_)
       refine z ?_ (h := fun ν => acts_load_owns (xs := [vI ((cN i).x), vI ((cN i).y)].map A.val) ν qC11_ti_70 rfl (by decide) rfl)
       refine z ?_ (h := fun ν => acts_call1 ν (impl_set__has_fn s (cN i) (by omega)) (ac (ArgV.v vt) (ac (ArgV.va va) an)) (resval (congrArg Value.bool c10)))
       refine z ?_ (h := fun ν => acts_un ν vt (r_not (c := true) rfl))
       refine zm ?_
       refine zg ?_ (h := fun ν => step_on rfl rfl (mt ν))
       refine zg ?_ (h := fun ν => step_on rfl rfl (mt ν))
       refine zg ?_ (h := fun ν => step_on rfl rfl (acts_bin ν vt vt (r_and (c := (((k &&& (2 ^ (((cN i).x).toNat))) : Nat) : Int)) (andI (m := k) (n := (2 ^ (((cN i).x).toNat))) rfl rfl (by omega) (by omega)))))
       refine zg ?_ (h := fun ν => step_on rfl rfl (acts_bin ν vt vc (r_eql rfl)))
       refine z ?_ (h := fun ν => acts_pick_t ν vt xt)
       refine za (nl ?_)
       refine wi (fun c17 => ?_) (fun c17 => ?_)
       ·skip
        have c17P := of_decide_eq_true c17
        have hK : k.testBit (i % 8) = false := and0 c17
        refine rg (zm (zm (zm ?_)))
        refine z ?_ (h := fun ν => acts_callV (d := 80) (f := 121) (t := 77) (caps := [13, 5, 6]) (os := [(.o 13, some (.o ⟨22, 1, true, [(.sl 41 0 256 : A)]⟩)), (.o 5, some (.o ⟨3, 1, true, [aI 0]⟩)), (.o 6, some (.o ⟨127, 1, true, [(.fn 109 [] : A)]⟩)), (.o 41, some (.o ⟨3, 1, true, pl (isl (stepT s i (prof s i) k))⟩))]) (os' := [(.o 13, some (.o ⟨22, 1, true, [(.sl 41 0 256 : A)]⟩)), (.o 5, some (.o ⟨3, 1, true, [aI 0]⟩)), (.o 6, some (.o ⟨127, 1, true, [(.fn 109 [] : A)]⟩)), (.o 41, some (.o ⟨3, 1, true, pl (isl (putI (stepT s i (prof s i) k) k (gI (prof s i) k)))⟩))]) (r := V.v (.tuple #[])) (bs := [.a (.val (.int .i64 ((k : Nat) : Int))), .a (.val (.int .i64 (gI (prof s i) k)))]) (keep := [13, 5, 6, 41]) (new := []) (dead := []) ν (FnO.ren' (impl_profile_1_fn k 256 (gI (prof s i) k) (stepT s i (prof s i) k) (by omega) (by omega) (by omega) (by omega) (by exact hbt _ (by omega))) (subst1 [(2, 13), (3, 5), (4, 6), (9, 41)]) rfl rfl (by kernel_rfl) (by kernel_rfl) ⟨ocs (by kernel_rfl), ocs (by kernel_rfl), ocs (by kernel_rfl), oc_pl (fun _ => rfl), trivial⟩ (by kernel_rfl) rfl (by simp only [renS, Ob.ren, pl_ren, rws_ren_doms, rws_ren_ints, rws_ren_cels, rwI_ren, rwD_ren]; first | done | rfl) (by simp only [renS, Ob.ren, pl_ren, rws_ren_doms, rws_ren_ints, rws_ren_cels, rwI_ren, rwD_ren]; first | done | rfl) rfl rfl) (by kernel_rfl) ⟨ocs (by kernel_rfl), ocs (by kernel_rfl), ocs (by kernel_rfl), oc_pl (fun _ => rfl), trivial⟩ (by kernel_rfl) (ArgOs.cons ((ArgO.v vt)) (ArgOs.cons ((ArgO.v vt)) (ArgOs.nil))))
        refine nl (rg ?_)
        refine z ?_ (h := fun ν => acts_bin ν vt vc (rA (by omega) (by omega)))
        refine zm (nl ?_)
        exact loop_back ((k + 1)) (by show _ ≤ _; omega) (by show 256 - (k + 1) < 256 - k; omega) (wkf id (wS <| wS <| wS <| wS <| wS <| wS <| wS <| wS <| wS <| wS <| wS <| wE (e := (vint (by rfl))) <| wX <| wX <| wX <| wX <| wP <| wO (e := renob_eq (fun h => h) (congrArg isl (by (rw [stepT_snoc, sk_a hN hS hK]; done)))) <| by (iterate 16 refine wF ?_); exact wN))
       ·skip
        have c17P := of_decide_eq_false c17
        have hK : k.testBit (i % 8) = true := and0 c17
        refine sq (rg (zm ?_))
        refine z ?_ (h := fun ν => acts_load_owns (xs := [vI ((cN i).x), vI ((cN i).y)].map A.val) ν qC11_ti_70 rfl (by decide) rfl)
        refine z ?_ (h := fun ν => acts_call1 ν (impl_set__has_fn s (cN i) (by omega)) (ac (ArgV.v vt) (ac (ArgV.va va) an)) (resval (congrArg Value.bool c10)))
        refine zm (zo (zo (zo (zo ?_))))
        refine z ?_ (h := fun ν => acts_pick_f ν vt xc)
        refine za (nl (wf (sq (rg (zm ?_)))))
        refine z ?_ (h := fun ν => acts_load_owns (xs := [vI ((cN i).x), vI ((cN i).y)].map A.val) ν qC11_ti_70 rfl (by decide) rfl)
        refine z ?_ (h := fun ν => acts_call1 ν (impl_set__has_fn s (cN i) (by omega)) (ac (ArgV.v vt) (ac (ArgV.va va) an)) (resval (congrArg Value.bool c10)))
        refine za (nl (wf (sk (rg ?_))))
        refine z ?_ (h := fun ν => acts_bin ν vt vc (rA (by omega) (by omega)))
        refine zm (nl ?_)
        exact loop_back ((k + 1)) (by show _ ≤ _; omega) (by show 256 - (k + 1) < 256 - k; omega) (wkf id (wS <| wS <| wS <| wS <| wS <| wS <| wS <| wS <| wS <| wS <| wS <| wE (e := (vint (by rfl))) <| wX <| wX <| wX <| wX <| wP <| wO (e := renob_eq (fun h => h) (congrArg isl (by (rw [stepT_snoc, sk_d hN hS hK]; done)))) <| by (iterate 16 refine wF ?_); exact wN))
    ·skip
     have c8P := of_decide_eq_false c8
     refine wp_exit' (rg ?_)
     refine z ?_ (h := fun ν => acts_load_own (x := .sl 41 0 256) ν qC11_ti_22 (by exact rfl))
     refine za (nl (rg ?_))
     refine z ?_ (h := fun ν => acts_bin ν vt vc (rA (by omega) (by omega)))
     refine zm (nl ?_)
     exact loop_back ((i + 1)) (by show _ ≤ _; omega) (by show 64 - (i + 1) < 64 - i; omega) (wkf (subst1 [(19, 41)]) (wS <| wS <| wS <| wS <| wE (e := (vsl (by omega) rfl)) <| wE (e := (vint (by rfl))) <| wX <| wX <| wO (e := renob_eq (fun h => h) (congrArg isl (by (have e : k = 256 := by omega); subst e; rfl))) <| by (iterate 19 refine wF ?_); exact wN))
  ·skip
   have c4P := of_decide_eq_false c4
   refine wp_exit' (sq (rg (zm ?_)))
   refine z ?_ (h := fun ν => ix0 (k := 0) ν qC11_un_22 qC11_sz_3 vc (hlt := (by omega)))
   refine z ?_ (h := fun ν => lI (k := 0) ν qC11_ti_3 (by omega))
   refine za (nl (wp_ret' ?_))
   exact VRes.tmp _ _ _ (by exact rfl) (bval (congrArg (Value.int .i64) (by (have e : i = 64 := by omega); subst e; exact prof_cnt hs)))

set_option maxHeartbeats 4000000 in
set_option maxRecDepth 100000 in
theorem impl_set__count_fn (s : Nat) (hs : s < 18446744073709551616) : Fn Tryz.prog 89 [.a (.val (.int .u64 ((s : Nat) : Int)))] [.val (.int .i64 (((cnt s) : Nat) : Int))] := by
 refine fn_intro (N := 5) Tryz.func89 rfl (by kernel_rfl) rfl (Nat.le_of_ble_eq_true rfl) [4] (ret1 rfl) (fun W => ?_)
 show Wp _ _ _ [kU 0 ((s : Nat) : Int), kF 4]
 refine sq (rg (zk (nl (sq (rg (zm ?_))))))
 refine z ?_ (h := fun ν => acts_call1 ν (impl_profile_fn s (by omega)) (ac (ArgV.v vt) (ac (ArgV.v vc) (ac (ArgV.fn 109) (ac (ArgV.fn 110) an)))) rv)
 refine za (nl (wp_ret' ?_))
 exact VRes.tmp _ _ _ (by exact rfl) (BRes.val _)
end Cl
end Go.Proofs.YtgmkkfdnmdohlaaGreatDoor
