/- Walks over clean states, printed by wg.py. No statement is proved here. -/
import Derived.Test.YtonlghbbdcddoaaE1
import Derived.Test.YtonlghbbdcddoaaClB
namespace Go.Proofs.Ytonlghbbdcddoaa
namespace Cl
open Go.ChangeShapes Go.WideShapes Go.ChangeAt Go.RowKit
set_option maxRecDepth 20000

theorem qE2_bs_57 : ∀ (a b : Int) (c : Bool), Try.prog.built 57 [(0, .int .i64 a), (1, .int .i64 b), (2, .bool c)] = some ([.int .i64 a, .int .i64 b, .bool c] : List Value).toArray := fun _ _ _ => rfl
theorem qE2_fo_46_0 : fieldOff Try.prog 46 0 = some 0 := by kernel_rfl
theorem qE2_fo_46_1 : fieldOff Try.prog 46 1 = some 1 := by kernel_rfl
theorem qE2_sz_4 : (Try.prog.info? 4).map (·.size) = some 1 := by kernel_rfl
theorem qE2_sz_57 : (Try.prog.info? 57).map (·.size) = some 3 := by kernel_rfl
theorem qE2_ti_102 : TI Try.prog 102 false 1 := ⟨⟨_, Try.underlying102, rfl⟩, by kernel_rfl⟩
theorem qE2_ti_113 : TI Try.prog 113 false 1 := ⟨⟨_, Try.underlying113, rfl⟩, by kernel_rfl⟩
theorem qE2_ti_26 : TI Try.prog 26 false 1 := ⟨⟨_, Try.underlying26, rfl⟩, by kernel_rfl⟩
theorem qE2_ti_29 : TI Try.prog 29 true 1 := ⟨⟨_, Try.underlying29, rfl⟩, by kernel_rfl⟩
theorem qE2_ti_3 : TI Try.prog 3 false 1 := ⟨⟨_, Try.underlying3, rfl⟩, by kernel_rfl⟩
theorem qE2_ti_4 : TI Try.prog 4 false 1 := ⟨⟨_, Try.underlying4, rfl⟩, by kernel_rfl⟩
theorem qE2_ti_46 : TI Try.prog 46 true 2 := ⟨⟨_, Try.underlying46, rfl⟩, by kernel_rfl⟩
theorem qE2_ti_57 : TI Try.prog 57 true 3 := ⟨⟨_, Try.underlying57, rfl⟩, by kernel_rfl⟩
theorem qE2_ti_85 : TI Try.prog 85 false 1 := ⟨⟨_, Try.underlying85, rfl⟩, by kernel_rfl⟩
theorem qE2_un_114 : Try.prog.underlying 114 = some (.slice 4) := Try.underlying114
theorem qE2_un_26 : Try.prog.underlying 26 = some (.slice 57) := Try.underlying26
theorem qE2_un_85 : Try.prog.underlying 85 = some (.slice 26) := Try.underlying85
theorem qE2_zi_113 : ZI Try.prog 113 (.nilFunc) 1 8 := by unfold ZI; kernel_rfl
theorem qE2_zi_26 : ZI Try.prog 26 (.slice none 0 0) 1 24 := by unfold ZI; kernel_rfl
theorem qE2_zi_4 : ZI Try.prog 4 (.bool false) 1 1 := by unfold ZI; kernel_rfl
theorem qE2_zi_46 : ZI Try.prog 46 (.agg #[.int .i64 0, .int .i64 0]) 2 16 := by unfold ZI; kernel_rfl
theorem qE2_zi_57 : ZI Try.prog 57 (.agg #[.int .i64 0, .int .i64 0, .bool false]) 3 24 := by unfold ZI; kernel_rfl
theorem qE2_zi_85 : ZI Try.prog 85 (.slice none 0 0) 1 24 := by unfold ZI; kernel_rfl
set_option maxHeartbeats 4000000 in
set_option maxRecDepth 100000 in
theorem impl_copyDominoes_fn (ds : List Dom) (hl : ds.length ≤ 1048576) : Fn Try.prog 91 [.a (.slv ds.length 3 (dsl ds))] [.row 57 3 ds.length (dsl ds)] := by
 refine fn_intro (N := 6) Try.func91 rfl (by kernel_rfl) rfl (Nat.le_of_ble_eq_true rfl) [3, 5] (ret1 rfl) (fun W => ?_)
 show Wp _ _ _ [kV 0 (V.b (.a (.slv ds.length 3 (dsl ds)))), kF 3, kF 5]
 refine sq (rg (zk (nl (sq (rg ?_)))))
 refine z ?_ (h := fun ν => b0D (h := 3) ν qE2_un_26 qE2_zi_57)
 refine zm ?_
 refine z ?_ (h := fun ν => acts_app (h2 := 5) (m := ds.length) (nm := ds.length) (X := .slv ds.length 3 (dsl ds)) (xs := dsl []) (ys := dsl ds) (zs := dsl ds) ν qE2_un_26 qE2_zi_57 rfl (by decide) (by decide) (by exact dsl_len _) xt (Src.slv _ _ _) (dsl_one' _) (by omega) (by exact (dsl_append _ _).symm) (by (simp; done)))
 refine za (nl (wp_ret' ?_))
 exact VRes.tmp _ _ _ (by exact rfl) (BRes.row 5 ds.length _ 3 _ (by kernel_rfl) (by exact dsl_len _))

set_option maxHeartbeats 4000000 in
set_option maxRecDepth 100000 in
theorem impl_ListTilings_1_fn (L : List (List Dom)) (P : List Dom) (hP : P.length ≤ 100) (hL : L.length ≤ 1000) : FnO Try.prog 90 [.a (.sl 12 0 P.length), .a (.ptr 11 0)] [(.o 11, some (.o ⟨85, 1, true, [(.sl 13 0 L.length : A)]⟩)), (.o 12, some (.o ⟨57, 3, true, pl (dsl P)⟩)), (.o 13, some (.o ⟨26, 1, true, rwD 57 L⟩))] (V.v (.tuple #[])) [(.o 11, some (.o ⟨85, 1, true, [(.sl 23 0 ((L ++ [P]).length) : A)]⟩)), (.o 12, some (.o ⟨57, 3, true, pl (dsl P)⟩)), (.o 23, some (.o ⟨26, 1, true, rwD 57 (L ++ [P])⟩))] [11, 12] := by
 refine fn_introO (N := 8) Try.func90 rfl (by kernel_rfl) rfl (Nat.le_of_ble_eq_true rfl) rfl rfl (by kernel_rfl) (by kernel_rfl) ⟨ocs (by kernel_rfl), oc_pl (fun _ => rfl), oc_rwD, trivial⟩ [5, 6, 7] (retO0 rfl) (fun W own kp im0 => ?_)
 show Wp _ _ _ [kS 0 12 0 P.length, kP 1 11 0, kO 11 85 1 true [(.sl 13 0 L.length : A)], kO 12 57 3 true (pl (dsl P)), kO 13 26 1 true (rwD 57 L), kF 5, kF 6, kF 7]
 refine wp_dr ?_
 refine zd ?_ (h := fun ν => acts_load_own (x := .sl 13 0 L.length) ν qE2_ti_85 (by exact rfl))
 refine zdm ?_
 refine zd ?_ (h := fun ν => acts_call1 ν (impl_copyDominoes_fn P (by omega)) (ac (argv_own (by exact dsl_len _)) an) (ResV.row _ _ _ _ 5))
 refine zd ?_ (h := fun ν => bs1 (h := 6) ν qE2_un_85 qE2_zi_26 (by exact ⟨_, _, _, .inl rfl⟩))
 refine zd ?_ (h := fun ν => aQ (h2 := 7) (nm := (L ++ [P]).length) ν qE2_un_85 qE2_zi_26 (by exact ⟨_, _, _, .inl rfl⟩) (by simp [rwI_len, rwD_len]) (by omega) (by simp))
 refine zd ?_ (h := fun _ => acts_store (cells := [(.sl 7 0 ((L ++ [P]).length) : A)]) qE2_ti_85 xt (by exact rfl) (by decide) (by exact ob1 rfl) (by exact Nat.le_of_ble_eq_true rfl) (by exact rfl))
 refine dw_nil ?_
 exact ⟨[kO 11 85 1 true [(.sl 23 0 ((L ++ [P]).length) : A)], kO 12 57 3 true (pl (dsl P)), kO 23 26 1 true (rwD 57 (L ++ [P])), kF 6, kF 7], weak_trans (pkD (h := 7) (h1 := 5) (T := 57) (T0 := 26) (s0 := 1) (ex0 := true) (n := P.length) (L := L) (r := P)) (wkf (subst1 [(23, 7)]) (wX <| wP <| wQD <| wF <| wF <| wN)), ⟨by kernel_rfl, by kernel_rfl, by kernel_rfl, trivial⟩, trivial⟩

set_option maxHeartbeats 4000000 in
set_option maxRecDepth 100000 in
theorem impl_set__each_1_fn : ∀ (n : Nat) (s : Nat) (L : List (List Dom)) (P : List Dom) (hs : s < 18446744073709551616) (hn : popc s < 2 * n) (hL : L.length + (tls n s).length ≤ 1000) (hP : P.length + n ≤ 100), FnO Try.prog 112 [.a (.val (.int .u64 ((s : Nat) : Int))), .a (.ptr 1 0), .a (.ptr 2 0), .a (.ptr 3 0)] [(.o 1, some (.o ⟨102, 1, true, [(.fn 90 [11] : A)]⟩)), (.o 2, some (.o ⟨26, 1, true, [(.sl 12 0 P.length : A)]⟩)), (.o 3, some (.o ⟨113, 1, true, [(.fn 112 [1, 2, 3] : A)]⟩)), (.o 11, some (.o ⟨85, 1, true, [(.sl 13 0 L.length : A)]⟩)), (.o 12, some (.o ⟨57, 3, true, pl (dsl P)⟩)), (.o 13, some (.o ⟨26, 1, true, rwD 57 L⟩))] (V.v (.tuple #[])) [(.o 1, some (.o ⟨102, 1, true, [(.fn 90 [11] : A)]⟩)), (.o 2, some (.o ⟨26, 1, true, [(.sl 22 0 P.length : A)]⟩)), (.o 3, some (.o ⟨113, 1, true, [(.fn 112 [1, 2, 3] : A)]⟩)), (.o 11, some (.o ⟨85, 1, true, [(.sl 23 0 ((L ++ (tls n s).map (P ++ ·)).length) : A)]⟩)), (.o 22, some (.o ⟨57, 3, true, pl (dsl P)⟩)), (.o 23, some (.o ⟨26, 1, true, rwD 57 (L ++ (tls n s).map (P ++ ·))⟩))] [1, 2, 3, 11] := by
 intro n
 induction n with
 | zero => intro s L P hs hn hL hP; exfalso; omega
 | succ n ih =>
  intro s L P hs hn hL hP
  refine fn_introO (N := 55) Try.func112 rfl (by kernel_rfl) rfl (Nat.le_of_ble_eq_true rfl) rfl rfl (by kernel_rfl) (by kernel_rfl) ⟨ocs (by kernel_rfl), ocs (by kernel_rfl), ocs (by kernel_rfl), ocs (by kernel_rfl), oc_pl (fun _ => rfl), oc_rwD, trivial⟩ [5, 8, 15, 16, 17, 29, 33, 36, 41, 42, 46, 48, 51, 55, 56, 57, 58, 2013] (retO0 rfl) (fun W own kp im0 => ?_)
  show Wp _ _ _ [kU 0 ((s : Nat) : Int), kP 1 1 0, kP 2 2 0, kP 3 3 0, kO 1 102 1 true [(.fn 90 [11] : A)], kO 2 26 1 true [(.sl 12 0 P.length : A)], kO 3 113 1 true [(.fn 112 [1, 2, 3] : A)], kO 11 85 1 true [(.sl 13 0 L.length : A)], kO 12 57 3 true (pl (dsl P)), kO 13 26 1 true (rwD 57 L), kF 5, kF 8, kF 15, kF 16, kF 17, kF 29, kF 33, kF 36, kF 41, kF 42, kF 46, kF 48, kF 51, kF 55, kF 56, kF 57, kF 58, kF 2013]
  refine sq (sq (rg (zm ?_)))
  refine z ?_ (h := fun ν => acts_bin ν vt vc (r_eql rfl))
  refine nl ?_
  refine wi (fun c1 => ?_) (fun c1 => ?_)
  ·skip
   have c1P := of_decide_eq_true c1
   have h0 : s = 0 := by omega
   refine sq (rg ?_)
   refine z ?_ (h := fun ν => acts_load_own (x := .fn 90 [11]) ν qE2_ti_102 (by exact rfl))
   refine z ?_ (h := fun ν => acts_load_own (x := .sl 12 0 P.length) ν qE2_ti_26 (by exact rfl))
   refine z ?_ (h := fun ν => acts_callV (d := 13) (f := 90) (t := 11) (caps := [11]) (os := [(.o 11, some (.o ⟨85, 1, true, [(.sl 13 0 L.length : A)]⟩)), (.o 12, some (.o ⟨57, 3, true, pl (dsl P)⟩)), (.o 13, some (.o ⟨26, 1, true, rwD 57 L⟩))]) (os' := [(.o 11, some (.o ⟨85, 1, true, [(.sl 5 0 ((L ++ [P]).length) : A)]⟩)), (.o 12, some (.o ⟨57, 3, true, pl (dsl P)⟩)), (.o 5, some (.o ⟨26, 1, true, rwD 57 (L ++ [P])⟩))]) (r := V.v (.tuple #[])) (bs := [.a (.sl 12 0 P.length)]) (keep := [11, 12]) (new := [5]) (dead := [13]) ν (FnO.ren' (impl_ListTilings_1_fn L P (by omega) (by omega)) (subst1 [(23, 5)]) rfl rfl (by kernel_rfl) (by kernel_rfl) ⟨ocs (by kernel_rfl), oc_pl (fun _ => rfl), oc_rwD, trivial⟩ (by kernel_rfl) rfl (by simp only [renS, Ob.ren, pl_ren, rws_ren_doms, rws_ren_ints, rws_ren_cels, rwI_ren, rwD_ren]; first | done | rfl) (by simp only [renS, Ob.ren, pl_ren, rws_ren_doms, rws_ren_ints, rws_ren_cels, rwI_ren, rwD_ren]; first | done | rfl) rfl rfl) (by kernel_rfl) ⟨ocs (by kernel_rfl), oc_pl (fun _ => rfl), oc_rwD, trivial⟩ (by kernel_rfl) (ArgOs.cons (ArgO.slot 12 (.a (.sl 12 0 P.length))) (ArgOs.nil)))
   refine nl (wp_ret' ?_)
   exact ⟨[kO 1 102 1 true [(.fn 90 [11] : A)], kO 2 26 1 true [(.sl 22 0 P.length : A)], kO 3 113 1 true [(.fn 112 [1, 2, 3] : A)], kO 11 85 1 true [(.sl 23 0 ((L ++ [P]).length) : A)], kO 22 57 3 true (pl (dsl P)), kO 23 26 1 true (rwD 57 (L ++ [P])), kF 5, kF 8, kF 12, kF 15, kF 16, kF 17, kF 29, kF 33, kF 36, kF 41, kF 42, kF 46, kF 48, kF 51, kF 55, kF 56, kF 57, kF 58, kF 2013], wkf (subst1 [(22, 12), (23, 5)]) (wX <| wX <| wX <| wX <| wP <| wQD <| by (iterate 19 refine wF ?_); exact wN), ⟨by kernel_rfl, by kernel_rfl, by kernel_rfl, obj_eq (c := [(.sl 23 0 ((L ++ [P]).length) : A)]) (by kernel_rfl) (congrArg (fun z : Nat => [(A.sl 23 0 z : A)]) (by exact congrArg List.length (tl_done h0))), by kernel_rfl, obj_eq (c := rwD 57 (L ++ [P])) (by kernel_rfl) (congrArg (fun z => rwD 57 z) (by exact tl_done h0)), trivial⟩, trivial⟩
  ·skip
   have c1P := of_decide_eq_false c1
   have h0 : s ≠ 0 := by omega
   refine sk (sq (rg (zm ?_)))
   refine z ?_ (h := fun ν => acts_call1 ν (impl_set__firstCell_fn s (by omega) (by omega)) (ac (ArgV.v vt) an) (ResV.agg [vI ((cN (firstI s)).x), vI ((cN (firstI s)).y)]))
   refine z ?_ (h := fun ν => acts_alloc' (h := 5) (cap := 1) (s := 2) (cells := [aI 0, aI 0]) ν qE2_zi_46 rfl rfl (by decide))
   refine z ?_ (h := fun _ => acts_store (cells := [aI ((cN (firstI s)).x), aI ((cN (firstI s)).y)]) qE2_ti_46 xt (by exact rfl) (by decide) (by exact ob1 rfl) (by exact Nat.le_of_ble_eq_true rfl) (by exact rfl))
   refine nl (sq (rg ?_))
   refine z ?_ (h := fun ν => acts_buildSlice' (h := 16) (xs := bsl ([false, true] : List Bool)) ν qE2_un_114 qE2_zi_4 (.cons vc (.cons vc OpVs.nil)) (by decide) (by decide) (by kernel_rfl) rfl)
   refine z ?_ (h := fun ν => lnS (iv := 2) ν qE2_un_114)
   refine z ?_ (h := fun ν => mc ν)
   refine nl (bkk ?_)
   refine wp_loop' (fun (k : Nat) => k ≤ 2) (fun (k : Nat) => [kU 0 ((s : Nat) : Int), kP 2 2 0, kP 3 3 0, kP 5 5 0, kS 16 16 0 2, kI 17 2, kI 18 ((k : Nat) : Int), kO 1 102 1 true [(.fn 90 [11] : A)], kO 2 26 1 true [(.sl 12 0 P.length : A)], kO 3 113 1 true [(.fn 112 [1, 2, 3] : A)], kO 5 46 2 true [aI ((cN (firstI s)).x), aI ((cN (firstI s)).y)], kO 11 85 1 true [(.sl 13 0 ((L ++ (tlk n s k).map (P ++ ·)).length) : A)], kO 12 57 3 true (pl (dsl P)), kO 13 26 1 true (rwD 57 (L ++ (tlk n s k).map (P ++ ·))), kO 16 4 1 true (pl (bsl [false, true])), kF 8, kF 15, kF 17, kF 29, kF 33, kF 36, kF 41, kF 42, kF 46, kF 48, kF 51, kF 55, kF 56, kF 57, kF 58, kF 2013]) (fun (k : Nat) => 2 - k) ((0 : Nat)) (by exact (Nat.zero_le _ : 0 ≤ _)) (wkf id (wS <| wS <| wS <| wS <| wS <| wS <| wE (e := (vint (by rfl))) <| wX <| wX <| wX <| wX <| wO (e := renob_l (fun h => h) (congrArg (fun z : Nat => [A.sl 13 0 z]) (by (exact congrArg List.length (by first | rfl | omega | (simp [tlk]; done) | exact tl_round hd hft | exact Eq.symm (tl_round hd hft) | exact tl_skip hd hno | exact Eq.symm (tl_skip hd hno))))) rfl) <| wP <| wQD (e := (by (simp [tlk]; done))) <| wP <| by (iterate 16 refine wF ?_); exact wN)) ?_
   rintro k inv2
   replace inv2 : k ≤ 2 := inv2
   have inv := inv2
   have hkl := tlk_le (n := n) h0 inv
   refine sq (rg ?_)
   refine z ?_ (h := fun ν => acts_bin ν vt vt (r_lss rfl))
   refine nl (sq ?_)
   refine wi (fun c3 => ?_) (fun c3 => ?_)
   ·skip
    have c3P := of_decide_eq_true c3
    have hk2 : k < 2 := by omega
    have hd : (⟨(cN (firstI s)).x, (cN (firstI s)).y, gB [false, true] k⟩ : Dom) = dmn (firstI s) (decide (((k : Nat) : Int) = 1)) := by rw [gB_ft hk2]; rfl
    have hfi := (firstI_lt hs h0).1
    refine sk (sq (bkk (sq (rg ?_))))
    refine z ?_ (h := fun ν => ix0 ν qE2_un_114 qE2_sz_4 vt (hlt := (by omega)))
    refine z ?_ (h := fun ν => lB ν qE2_ti_4 (by omega))
    refine za (nl (sq (rg ?_)))
    refine z ?_ (h := fun ν => acts_field (off' := 0) ν qE2_fo_46_0 rfl)
    refine z ?_ (h := fun ν => acts_load_own (x := .val (.int .i64 ((cN (firstI s)).x))) ν qE2_ti_3 (by exact rfl))
    refine z ?_ (h := fun ν => acts_field (off' := 1) ν qE2_fo_46_1 rfl)
    refine z ?_ (h := fun ν => acts_load_own (x := .val (.int .i64 ((cN (firstI s)).y))) ν qE2_ti_3 (by exact rfl))
    refine zm ?_
    refine z ?_ (h := fun ν => bD ν qE2_bs_57 vt vt vt)
    refine z ?_ (h := fun ν => acts_alloc' (h := 8) (cap := 1) (s := 3) (cells := [aI 0, aI 0, aB false]) ν qE2_zi_57 rfl rfl (by decide))
    refine z ?_ (h := fun _ => acts_store (cells := [aI ((cN (firstI s)).x), aI ((cN (firstI s)).y), aB (gB [false, true] k)]) qE2_ti_57 xt (by exact rfl) (by decide) (by exact ob1 rfl) (by exact Nat.le_of_ble_eq_true rfl) (by exact rfl))
    refine nl (sq ?_)
    rcases Bool.eq_false_or_eq_true ((okD (⟨(cN (firstI s)).x, (cN (firstI s)).y, (gB [false, true] k)⟩ : Dom))) with c4 | c4
    ·skip
     have hok := c4
     have hdl := domS_lt c4
     refine wp_dr ?_
     refine zd ?_ (h := fun ν => acts_load_owns (xs := [vI ((cN (firstI s)).x), vI ((cN (firstI s)).y), .bool (gB [false, true] k)].map A.val) ν qE2_ti_57 rfl (by decide) rfl)
     refine zd ?_ (h := fun ν => acts_call1 ν (impl_DominoOk_fn (⟨(cN (firstI s)).x, (cN (firstI s)).y, (gB [false, true] k)⟩ : Dom) ) (ac (ArgV.va va) an) (resval (congrArg Value.bool c4)))
     refine zdm ?_
     refine zdg ?_ (h := fun ν => step_on rfl rfl (mt ν))
     refine zdg ?_ (h := fun ν => step_on rfl rfl (acts_load_owns (xs := [vI ((cN (firstI s)).x), vI ((cN (firstI s)).y), .bool (gB [false, true] k)].map A.val) ν qE2_ti_57 rfl (by decide) rfl))
     refine zdg ?_ (h := fun ν => step_on rfl rfl (acts_call1 ν (impl_Domino__set_fn (⟨(cN (firstI s)).x, (cN (firstI s)).y, (gB [false, true] k)⟩ : Dom) (by omega)) (ac (ArgV.va va) an) rv))
     refine zdg ?_ (h := fun ν => step_on rfl rfl (acts_bin ν vt vt (r_and (c := (((s &&& (domS (⟨(cN (firstI s)).x, (cN (firstI s)).y, (gB [false, true] k)⟩ : Dom))) : Nat) : Int)) (andU (m := s) (n := (domS (⟨(cN (firstI s)).x, (cN (firstI s)).y, (gB [false, true] k)⟩ : Dom))) rfl rfl (by omega) (by omega)))))
     refine zdg ?_ (h := fun ν => step_on rfl rfl (acts_load_owns (xs := [vI ((cN (firstI s)).x), vI ((cN (firstI s)).y), .bool (gB [false, true] k)].map A.val) ν qE2_ti_57 rfl (by decide) rfl))
     refine zdg ?_ (h := fun ν => step_on rfl rfl (acts_call1 ν (impl_Domino__set_fn (⟨(cN (firstI s)).x, (cN (firstI s)).y, (gB [false, true] k)⟩ : Dom) (by omega)) (ac (ArgV.va va) an) rv))
     refine zdg ?_ (h := fun ν => step_on rfl rfl (acts_bin ν vt vt (r_eql rfl)))
     refine zd ?_ (h := fun ν => acts_pick_t ν vt xt)
     refine dw_nil ?_
     refine wi (fun c5 => ?_) (fun c5 => ?_)
     ·skip
      have c5P := of_decide_eq_true c5
      have hft := fit_yes hok (of_decide_eq_true c5)
      have hln := tl_len (n := n) hd hft h0 hk2
      have hpc := popc_sub hft
      refine sq (rg ?_)
      refine z ?_ (h := fun ν => acts_load_own (x := .sl 12 0 P.length) ν qE2_ti_26 (by exact rfl))
      refine z ?_ (h := fun ν => acts_load_owns (xs := [vI ((cN (firstI s)).x), vI ((cN (firstI s)).y), .bool (gB [false, true] k)].map A.val) ν qE2_ti_57 rfl (by decide) rfl)
      refine z ?_ (h := fun ν => acts_buildSlice' (h := 41) (xs := dsl ([(⟨(cN (firstI s)).x, (cN (firstI s)).y, (gB [false, true] k)⟩ : Dom)] : List Dom)) ν qE2_un_26 qE2_zi_57 (.cons va OpVs.nil) (by decide) (by decide) (by kernel_rfl) rfl)
      refine z ?_ (h := fun ν => aD_ (h2 := 42) (L3 := (P ++ [(⟨(cN (firstI s)).x, (cN (firstI s)).y, (gB [false, true] k)⟩ : Dom)])) ν qE2_un_26 qE2_zi_57 (by exact rfl) rfl (by exact rfl) (by (simp; omega)))
      refine z ?_ (h := fun _ => acts_store (cells := [(.sl 42 0 ((P ++ [(⟨(cN (firstI s)).x, (cN (firstI s)).y, (gB [false, true] k)⟩ : Dom)]).length) : A)]) qE2_ti_26 xt (by exact rfl) (by decide) (by exact ob1 rfl) (by exact Nat.le_of_ble_eq_true rfl) (by exact rfl))
      refine nl (sq (wp_dr ?_))
      refine zd ?_ (h := fun ν => acts_load_own (x := .fn 112 [1, 2, 3]) ν qE2_ti_113 (by exact rfl))
      refine zdm ?_
      refine zd ?_ (h := fun ν => acts_load_owns (xs := [vI ((cN (firstI s)).x), vI ((cN (firstI s)).y), .bool (gB [false, true] k)].map A.val) ν qE2_ti_57 rfl (by decide) rfl)
      refine zd ?_ (h := fun ν => acts_call1 ν (impl_Domino__set_fn (⟨(cN (firstI s)).x, (cN (firstI s)).y, (gB [false, true] k)⟩ : Dom) (by omega)) (ac (ArgV.va va) an) rv)
      refine zd ?_ (h := fun ν => acts_bin ν vt vt (r_andNot (c := (((andn s (domS (⟨(cN (firstI s)).x, (cN (firstI s)).y, (gB [false, true] k)⟩ : Dom))) : Nat) : Int)) (andnU (m := s) (n := (domS (⟨(cN (firstI s)).x, (cN (firstI s)).y, (gB [false, true] k)⟩ : Dom))) rfl rfl (by omega) (by omega))))
      refine zd ?_ (h := fun ν => acts_callV (d := 48) (f := 112) (t := 43) (caps := [1, 2, 3]) (os := [(.o 1, some (.o ⟨102, 1, true, [(.fn 90 [11] : A)]⟩)), (.o 2, some (.o ⟨26, 1, true, [(.sl 42 0 ((P ++ [(⟨(cN (firstI s)).x, (cN (firstI s)).y, (gB [false, true] k)⟩ : Dom)]).length) : A)]⟩)), (.o 3, some (.o ⟨113, 1, true, [(.fn 112 [1, 2, 3] : A)]⟩)), (.o 11, some (.o ⟨85, 1, true, [(.sl 13 0 ((L ++ (tlk n s k).map (P ++ ·)).length) : A)]⟩)), (.o 42, some (.o ⟨57, 3, true, pl (dsl (P ++ [(⟨(cN (firstI s)).x, (cN (firstI s)).y, (gB [false, true] k)⟩ : Dom)]))⟩)), (.o 13, some (.o ⟨26, 1, true, rwD 57 (L ++ (tlk n s k).map (P ++ ·))⟩))]) (os' := [(.o 1, some (.o ⟨102, 1, true, [(.fn 90 [11] : A)]⟩)), (.o 2, some (.o ⟨26, 1, true, [(.sl 15 0 ((P ++ [(⟨(cN (firstI s)).x, (cN (firstI s)).y, (gB [false, true] k)⟩ : Dom)]).length) : A)]⟩)), (.o 3, some (.o ⟨113, 1, true, [(.fn 112 [1, 2, 3] : A)]⟩)), (.o 11, some (.o ⟨85, 1, true, [(.sl 17 0 (((L ++ (tlk n s k).map (P ++ ·)) ++ (tls n (andn s (domS (⟨(cN (firstI s)).x, (cN (firstI s)).y, (gB [false, true] k)⟩ : Dom)))).map ((P ++ [(⟨(cN (firstI s)).x, (cN (firstI s)).y, (gB [false, true] k)⟩ : Dom)]) ++ ·)).length) : A)]⟩)), (.o 15, some (.o ⟨57, 3, true, pl (dsl (P ++ [(⟨(cN (firstI s)).x, (cN (firstI s)).y, (gB [false, true] k)⟩ : Dom)]))⟩)), (.o 17, some (.o ⟨26, 1, true, rwD 57 ((L ++ (tlk n s k).map (P ++ ·)) ++ (tls n (andn s (domS (⟨(cN (firstI s)).x, (cN (firstI s)).y, (gB [false, true] k)⟩ : Dom)))).map ((P ++ [(⟨(cN (firstI s)).x, (cN (firstI s)).y, (gB [false, true] k)⟩ : Dom)]) ++ ·))⟩))]) (r := V.v (.tuple #[])) (bs := [.a (.val (.int .u64 (((andn s (domS (⟨(cN (firstI s)).x, (cN (firstI s)).y, (gB [false, true] k)⟩ : Dom))) : Nat) : Int)))]) (keep := [1, 2, 3, 11]) (new := [15, 17]) (dead := [42, 13]) ν (FnO.ren' (ih (andn s (domS (⟨(cN (firstI s)).x, (cN (firstI s)).y, (gB [false, true] k)⟩ : Dom))) (L ++ (tlk n s k).map (P ++ ·)) (P ++ [(⟨(cN (firstI s)).x, (cN (firstI s)).y, (gB [false, true] k)⟩ : Dom)]) (by exact andn_lt hs) (by omega) (by (simp only [List.length_append, List.length_map, List.length_singleton]; omega)) (by (simp only [List.length_append, List.length_map, List.length_singleton]; omega))) (subst1 [(12, 42), (22, 15), (23, 17)]) rfl rfl (by kernel_rfl) (by kernel_rfl) ⟨ocs (by kernel_rfl), ocs (by kernel_rfl), ocs (by kernel_rfl), ocs (by kernel_rfl), oc_pl (fun _ => rfl), oc_rwD, trivial⟩ (by kernel_rfl) rfl (by simp only [renS, Ob.ren, pl_ren, rws_ren_doms, rws_ren_ints, rws_ren_cels, rwI_ren, rwD_ren]; first | done | rfl) (by simp only [renS, Ob.ren, pl_ren, rws_ren_doms, rws_ren_ints, rws_ren_cels, rwI_ren, rwD_ren]; first | done | rfl) rfl rfl) (by kernel_rfl) ⟨ocs (by kernel_rfl), ocs (by kernel_rfl), ocs (by kernel_rfl), ocs (by kernel_rfl), oc_pl (fun _ => rfl), oc_rwD, trivial⟩ (by kernel_rfl) (ArgOs.cons ((ArgO.v vt)) (ArgOs.nil)))
      refine dw_nil (rg ?_)
      refine z ?_ (h := fun ν => acts_load_own (x := .sl 15 0 ((P ++ [(⟨(cN (firstI s)).x, (cN (firstI s)).y, (gB [false, true] k)⟩ : Dom)]).length)) ν qE2_ti_26 (by exact rfl))
      refine z ?_ (h := fun ν => acts_load_own (x := .sl 15 0 ((P ++ [(⟨(cN (firstI s)).x, (cN (firstI s)).y, (gB [false, true] k)⟩ : Dom)]).length)) ν qE2_ti_26 (by exact rfl))
      refine z ?_ (h := fun ν => lnS ν qE2_un_26)
      refine z ?_ (h := fun ν => acts_bin ν vt vc (rS (by omega) (by (simp only [List.length_append, List.length_singleton]; omega))))
      refine z ?_ (h := fun ν => slS (m := (((((P ++ [(⟨(cN (firstI s)).x, (cN (firstI s)).y, (gB [false, true] k)⟩ : Dom)]).length : Nat) : Int) - 1).toNat)) (off' := 0) ν qE2_un_26 qE2_sz_57 (OpB.no _) (OpB.so _ (((((P ++ [(⟨(cN (firstI s)).x, (cN (firstI s)).y, (gB [false, true] k)⟩ : Dom)]).length : Nat) : Int) - 1).toNat) vt (Int.toNat_of_nonneg (by (simp only [List.length_append, List.length_singleton]; omega))).symm) (by omega) (by omega) (by exact rfl) (by omega))
      refine z ?_ (h := fun _ => acts_store (cells := [(.sl 15 0 (((((P ++ [(⟨(cN (firstI s)).x, (cN (firstI s)).y, (gB [false, true] k)⟩ : Dom)]).length : Nat) : Int) - 1).toNat) : A)]) qE2_ti_26 xt (by exact rfl) (by decide) (by exact ob1 rfl) (by exact Nat.le_of_ble_eq_true rfl) (by exact rfl))
      refine nl ?_
      rw [show ((((P ++ [(⟨(cN (firstI s)).x, (cN (firstI s)).y, (gB [false, true] k)⟩ : Dom)]).length : Nat) : Int) - 1).toNat = P.length from (by simp)]
      refine wp_weak (trD (h := 15) (T := 57) (ex := true) (L := (P ++ [(⟨(cN (firstI s)).x, (cN (firstI s)).y, (gB [false, true] k)⟩ : Dom)])) (L' := P) (P.length) (hc := by simp)) ?_
      refine rg ?_
      refine z ?_ (h := fun ν => acts_bin ν vt vc (rA (by omega) (by omega)))
      refine zm (nl ?_)
      exact loop_back ((k + 1)) (by show _ ≤ _; omega) (by show 2 - (k + 1) < 2 - k; omega) (wkf (subst1 [(12, 15), (13, 17)]) (wS <| wS <| wS <| wS <| wS <| wS <| wE (e := (vint (by rfl))) <| wX <| wX <| wX <| wX <| wO (e := renob_l (fun h => h) (congrArg (fun z : Nat => [A.sl 17 0 z]) (by (exact congrArg List.length (by first | rfl | omega | (simp [tlk]; done) | exact tl_round hd hft | exact Eq.symm (tl_round hd hft) | exact tl_skip hd hno | exact Eq.symm (tl_skip hd hno))))) rfl) <| wP <| wQD (e := (by exact Eq.symm (tl_round hd hft))) <| wP <| by (iterate 16 refine wF ?_); exact wN))
     ·skip
      have c5P := of_decide_eq_false c5
      have hno := fit_no2 (of_decide_eq_false c5)
      refine sk (rg ?_)
      refine z ?_ (h := fun ν => acts_bin ν vt vc (rA (by omega) (by omega)))
      refine zm (nl ?_)
      exact loop_back ((k + 1)) (by show _ ≤ _; omega) (by show 2 - (k + 1) < 2 - k; omega) (wkf id (wS <| wS <| wS <| wS <| wS <| wS <| wE (e := (vint (by rfl))) <| wX <| wX <| wX <| wX <| wO (e := renob_l (fun h => h) (congrArg (fun z : Nat => [A.sl 13 0 z]) (by (exact congrArg List.length (by first | rfl | omega | (simp [tlk]; done) | exact tl_round hd hft | exact Eq.symm (tl_round hd hft) | exact tl_skip hd hno | exact Eq.symm (tl_skip hd hno))))) rfl) <| wP <| wQD (e := (by exact Eq.symm (tl_skip hd hno))) <| wP <| by (iterate 16 refine wF ?_); exact wN))
    ·skip
     have hno := fit_no1 (s := s) c4
     refine wp_dr ?_
     refine zd ?_ (h := fun ν => acts_load_owns (xs := [vI ((cN (firstI s)).x), vI ((cN (firstI s)).y), .bool (gB [false, true] k)].map A.val) ν qE2_ti_57 rfl (by decide) rfl)
     refine zd ?_ (h := fun ν => acts_call1 ν (impl_DominoOk_fn (⟨(cN (firstI s)).x, (cN (firstI s)).y, (gB [false, true] k)⟩ : Dom) ) (ac (ArgV.va va) an) (resval (congrArg Value.bool c4)))
     refine zdm ?_
     refine zdg ?_ (h := fun ν => step_off rfl rfl (by decide) rfl ν)
     refine zdg ?_ (h := fun ν => step_off rfl rfl (by decide) rfl ν)
     refine zdg ?_ (h := fun ν => step_off rfl rfl (by decide) rfl ν)
     refine zdg ?_ (h := fun ν => step_off rfl rfl (by decide) rfl ν)
     refine zdg ?_ (h := fun ν => step_off rfl rfl (by decide) rfl ν)
     refine zdg ?_ (h := fun ν => step_off rfl rfl (by decide) rfl ν)
     refine zdg ?_ (h := fun ν => step_off rfl rfl (by decide) rfl ν)
     refine zd ?_ (h := fun ν => acts_pick_f ν vt xc)
     refine dw_nil (wf (sk (rg ?_)))
     refine z ?_ (h := fun ν => acts_bin ν vt vc (rA (by omega) (by omega)))
     refine zm (nl ?_)
     exact loop_back ((k + 1)) (by show _ ≤ _; omega) (by show 2 - (k + 1) < 2 - k; omega) (wkf id (wS <| wS <| wS <| wS <| wS <| wS <| wE (e := (vint (by rfl))) <| wX <| wX <| wX <| wX <| wO (e := renob_l (fun h => h) (congrArg (fun z : Nat => [A.sl 13 0 z]) (by (exact congrArg List.length (by first | rfl | omega | (simp [tlk]; done) | exact tl_round hd hft | exact Eq.symm (tl_round hd hft) | exact tl_skip hd hno | exact Eq.symm (tl_skip hd hno))))) rfl) <| wP <| wQD (e := (by exact Eq.symm (tl_skip hd hno))) <| wP <| by (iterate 16 refine wF ?_); exact wN))
   ·skip
    have c3P := of_decide_eq_false c3
    refine wp_exit' ?_
    exact ⟨[kO 1 102 1 true [(.fn 90 [11] : A)], kO 2 26 1 true [(.sl 22 0 P.length : A)], kO 3 113 1 true [(.fn 112 [1, 2, 3] : A)], kO 11 85 1 true [(.sl 23 0 ((L ++ (tlk n s k).map (P ++ ·)).length) : A)], kO 22 57 3 true (pl (dsl P)), kO 23 26 1 true (rwD 57 (L ++ (tlk n s k).map (P ++ ·))), kF 5, kF 8, kF 12, kF 13, kF 15, kF 16, kF 17, kF 29, kF 33, kF 36, kF 41, kF 42, kF 46, kF 48, kF 51, kF 55, kF 56, kF 57, kF 58, kF 2013], wkf (subst1 [(22, 12), (23, 13)]) (wX <| wX <| wX <| wX <| wP <| wQD <| by (iterate 20 refine wF ?_); exact wN), ⟨by kernel_rfl, by kernel_rfl, by kernel_rfl, obj_eq (c := [(.sl 23 0 ((L ++ (tlk n s k).map (P ++ ·)).length) : A)]) (by kernel_rfl) (congrArg (fun z : Nat => [(A.sl 23 0 z : A)]) (by exact congrArg List.length (tl_end h0 (by omega) (by omega)))), by kernel_rfl, obj_eq (c := rwD 57 (L ++ (tlk n s k).map (P ++ ·))) (by kernel_rfl) (congrArg (fun z => rwD 57 z) (by exact tl_end h0 (by omega) (by omega))), trivial⟩, trivial⟩

set_option maxHeartbeats 4000000 in
set_option maxRecDepth 100000 in
theorem impl_set__each_fn (s : Nat) (hs : s < 18446744073709551616) (hL : (tls 33 s).length ≤ 1000) : FnO Try.prog 89 [.a (.val (.int .u64 ((s : Nat) : Int))), .a (.fn 90 [11])] [(.o 11, some (.o ⟨85, 1, true, [(.sl 13 0 0 : A)]⟩)), (.o 13, some (.o ⟨26, 1, true, rwD 57 []⟩))] (V.v (.tuple #[])) [(.o 11, some (.o ⟨85, 1, true, [(.sl 23 0 ((tls 33 s).length) : A)]⟩)), (.o 23, some (.o ⟨26, 1, true, rwD 57 (tls 33 s)⟩))] [11] := by
 refine fn_introO (N := 11) Try.func89 rfl (by kernel_rfl) rfl (Nat.le_of_ble_eq_true rfl) rfl rfl (by kernel_rfl) (by kernel_rfl) ⟨ocs (by kernel_rfl), oc_rwD, trivial⟩ [3, 4, 5, 6, 10, 12, 14, 2011, 2013] (retO0 rfl) (fun W own kp im0 => ?_)
 show Wp _ _ _ [kU 0 ((s : Nat) : Int), kV 1 (V.b (.a (.fn 90 [11]))), kO 11 85 1 true [(.sl 13 0 0 : A)], kO 13 26 1 true (rwD 57 []), kF 3, kF 4, kF 5, kF 6, kF 10, kF 12, kF 14, kF 2011, kF 2013]
 refine sq (rg ?_)
 refine z ?_ (h := fun ν => acts_box (h := 3) ν xt (by exact ob1 rfl))
 refine nl (sq (rg ?_))
 refine z ?_ (h := fun ν => b0D (h := 6) ν qE2_un_26 qE2_zi_57)
 refine z ?_ (h := fun ν => acts_alloc' (h := 4) (cap := 1) (s := 1) (cells := [(.val (.slice none 0 0) : A)]) ν qE2_zi_26 rfl rfl (by decide))
 refine z ?_ (h := fun _ => acts_store (cells := [(.sl 6 0 0 : A)]) qE2_ti_26 xt (by exact rfl) (by decide) (by exact ob1 rfl) (by exact Nat.le_of_ble_eq_true rfl) (by exact rfl))
 refine nl (sq (rg ?_))
 refine z ?_ (h := fun ν => acts_alloc' (h := 5) (cap := 1) (s := 1) (cells := [(.val (.nilFunc) : A)]) ν qE2_zi_113 rfl rfl (by decide))
 refine nl (sq (rg ?_))
 refine z ?_ (h := fun ν => acts_makeFunc (d := 7) (f := 112) (l := [(3, 3), (4, 4), (5, 5)]) ν)
 refine z ?_ (h := fun _ => acts_store (cells := [(.fn 112 [3, 4, 5] : A)]) qE2_ti_113 xt (by exact rfl) (by decide) (by exact ob1 rfl) (by exact Nat.le_of_ble_eq_true rfl) (by exact rfl))
 refine nl (rg ?_)
 refine z ?_ (h := fun ν => acts_load_own (x := .fn 112 [3, 4, 5]) ν qE2_ti_113 (by exact rfl))
 refine zm ?_
 refine z ?_ (h := fun ν => acts_callV (d := 10) (f := 112) (t := 8) (caps := [3, 4, 5]) (os := [(.o 3, some (.o ⟨102, 1, true, [(.fn 90 [11] : A)]⟩)), (.o 4, some (.o ⟨26, 1, true, [(.sl 6 0 [].length : A)]⟩)), (.o 5, some (.o ⟨113, 1, true, [(.fn 112 [3, 4, 5] : A)]⟩)), (.o 11, some (.o ⟨85, 1, true, [(.sl 13 0 [].length : A)]⟩)), (.o 6, some (.o ⟨57, 3, true, pl (dsl [])⟩)), (.o 13, some (.o ⟨26, 1, true, rwD 57 []⟩))]) (os' := [(.o 3, some (.o ⟨102, 1, true, [(.fn 90 [11] : A)]⟩)), (.o 4, some (.o ⟨26, 1, true, [(.sl 10 0 [].length : A)]⟩)), (.o 5, some (.o ⟨113, 1, true, [(.fn 112 [3, 4, 5] : A)]⟩)), (.o 11, some (.o ⟨85, 1, true, [(.sl 12 0 (([] ++ (tls 33 s).map ([] ++ ·)).length) : A)]⟩)), (.o 10, some (.o ⟨57, 3, true, pl (dsl [])⟩)), (.o 12, some (.o ⟨26, 1, true, rwD 57 ([] ++ (tls 33 s).map ([] ++ ·))⟩))]) (r := V.v (.tuple #[])) (bs := [.a (.val (.int .u64 ((s : Nat) : Int)))]) (keep := [3, 4, 5, 11]) (new := [10, 12]) (dead := [6, 13]) ν (FnO.ren' (impl_set__each_1_fn 33 s [] [] (by omega) (by (have := popc_le s; omega)) (by (simp; omega)) (by simp)) (subst1 [(1, 3), (2, 4), (3, 5), (12, 6), (22, 10), (23, 12)]) rfl rfl (by kernel_rfl) (by kernel_rfl) ⟨ocs (by kernel_rfl), ocs (by kernel_rfl), ocs (by kernel_rfl), ocs (by kernel_rfl), oc_pl (fun _ => rfl), oc_rwD, trivial⟩ (by kernel_rfl) rfl (by simp only [renS, Ob.ren, pl_ren, rws_ren_doms, rws_ren_ints, rws_ren_cels, rwI_ren, rwD_ren]; first | done | rfl) (by simp only [renS, Ob.ren, pl_ren, rws_ren_doms, rws_ren_ints, rws_ren_cels, rwI_ren, rwD_ren]; first | done | rfl) rfl rfl) (by kernel_rfl) ⟨ocs (by kernel_rfl), ocs (by kernel_rfl), ocs (by kernel_rfl), ocs (by kernel_rfl), oc_pl (fun _ => rfl), oc_rwD, trivial⟩ (by kernel_rfl) (ArgOs.cons ((ArgO.v vt)) (ArgOs.nil)))
 refine nl ?_
 exact ⟨[kO 11 85 1 true [(.sl 23 0 (([] ++ (tls 33 s).map ([] ++ ·)).length) : A)], kO 23 26 1 true (rwD 57 ([] ++ (tls 33 s).map ([] ++ ·))), kF 3, kF 4, kF 5, kF 10, kF 12, kF 14, kF 2011, kF 2013], wkf (subst1 [(23, 12)]) (wX <| wQD <| wF <| wF <| wF <| wF <| wF <| wF <| wF <| wF <| wN), ⟨obj_eq (c := [(.sl 23 0 (([] ++ (tls 33 s).map ([] ++ ·)).length) : A)]) (by kernel_rfl) (congrArg (fun z : Nat => [(A.sl 23 0 z : A)]) (by simp)), obj_eq (c := rwD 57 ([] ++ (tls 33 s).map ([] ++ ·))) (by kernel_rfl) (congrArg (fun z => rwD 57 z) (by simp)), trivial⟩, trivial⟩

set_option maxHeartbeats 4000000 in
set_option maxRecDepth 100000 in
theorem impl_ListTilings_fn (l : List Int) (hl : l.length ≤ 4194304) : FnO Try.prog 61 [.agg [(.sl 800 0 l.length : A)]] [(.o 800, some (.o ⟨3, 1, true, pl (isl l)⟩))] (V.b (.a (.sl 900 0 ((ltR l).length)))) [(.o 800, some (.o ⟨3, 1, true, pl (isl l)⟩)), (.o 900, some (.o ⟨26, 1, true, rwD 57 (ltR l)⟩))] [800] := by
 refine fn_introO (N := 14) Try.func61 rfl (by kernel_rfl) rfl (Nat.le_of_ble_eq_true rfl) rfl rfl (by kernel_rfl) (by kernel_rfl) ⟨oc_pl (fun _ => rfl), trivial⟩ [1, 3, 5, 6, 8, 10, 12] (retO1 rfl) (fun W own kp im0 => ?_)
 show Wp _ _ _ [kV 0 (V.b (.agg [(.sl 800 0 l.length : A)])), kO 800 3 1 true (pl (isl l)), kF 1, kF 3, kF 5, kF 6, kF 8, kF 10, kF 12]
 refine sq (rg ?_)
 refine z ?_ (h := fun ν => acts_box (h := 1) ν xt (by exact ob1 rfl))
 refine zk (nl (sq (sq (rg ?_))))
 refine z ?_ (h := fun ν => acts_load_owns (xs := [(.sl 800 0 l.length : A)]) ν qE2_ti_29 rfl (by decide) rfl)
 refine z ?_ (h := fun ν => acts_call1 ν (impl_CountTilings_fn l (by omega)) (ac (ArgV.reg _ _ _ (s := 1) (by simp [isl]) (by exact List.take_of_length_le (by simp [isl]))) an) rv)
 refine z ?_ (h := fun ν => acts_call1 ν (impl_within_fn (((cntR l) : Nat) : Int) 1 300 ) (ac (ArgV.v vt) (ac (ArgV.v vc) (ac (ArgV.v vc) an))) rv)
 refine z ?_ (h := fun ν => acts_un ν vt (r_not rfl))
 refine nl ?_
 refine wi (b := (!(inB (((cntR l) : Nat) : Int) 1 300))) (fun c1 => ?_) (fun c1 => ?_)
 ·skip
  have c2 : (inB (((cntR l) : Nat) : Int) 1 300) = false := by first | (rw [← Bool.not_eq_true']; exact c1) | simpa using c1
  have hlt := ltR_no c2
  refine sq (rg (zk (nl ?_)))
  refine wp_weak (wnP (k := 2) (h := 3) (T := 26) (T' := 57) (by kernel_rfl) (by kernel_rfl)) ?_
  refine wp_ret' ?_
  exact ⟨[kS 2 900 0 0, kO 800 3 1 true (pl (isl l)), kO 900 26 1 true (rwD 57 []), kF 1, kF 3, kF 5, kF 6, kF 8, kF 10, kF 12], wkf (subst1 [(900, 3)]) (wS <| wP <| wQD <| wF <| wF <| wF <| wF <| wF <| wF <| wF <| wN), ⟨by kernel_rfl, obj_eq (c := rwD 57 []) (by kernel_rfl) (congrArg (fun z => rwD 57 z) (by exact hlt.symm)), trivial⟩, vo_eq 2 (.a (.sl 900 0 0)) (.a (.sl 900 0 ((ltR l).length))) (by kernel_rfl) (congrArg (fun z : Nat => B.a (.sl 900 0 z)) (by rw [hlt]; rfl))⟩
 ·skip
  have c3 : (inB (((cntR l) : Nat) : Int) 1 300) = true := by first | (rw [← Bool.not_eq_false']; exact c1) | simpa using c1
  obtain ⟨hlt, hro, hl3⟩ := ltR_yes c3
  refine sk (sq (rg ?_))
  refine z ?_ (h := fun ν => b0P (h := 8) (T := 57) ν qE2_un_85 qE2_zi_26)
  refine z ?_ (h := fun ν => acts_alloc' (h := 3) (cap := 1) (s := 1) (cells := [(.val (.slice none 0 0) : A)]) ν qE2_zi_85 rfl rfl (by decide))
  refine z ?_ (h := fun _ => acts_store (cells := [(.sl 8 0 0 : A)]) qE2_ti_85 xt (by exact rfl) (by decide) (by exact ob1 rfl) (by exact Nat.le_of_ble_eq_true rfl) (by exact rfl))
  refine nl (sq (rg ?_))
  refine z ?_ (h := fun ν => acts_load_owns (xs := [(.sl 800 0 l.length : A)]) ν qE2_ti_29 rfl (by decide) rfl)
  refine z ?_ (h := fun ν => acts_call1 ν (impl_Region__set_fn l (by omega)) (ac (ArgV.reg _ _ _ (s := 1) (by simp [isl]) (by exact List.take_of_length_le (by simp [isl]))) an) rv)
  refine z ?_ (h := fun ν => acts_makeFunc (d := 11) (f := 90) (l := [(3, 3)]) ν)
  refine z ?_ (h := fun ν => acts_callO (d := 12) (f := 89) (os := [(.o 3, some (.o ⟨85, 1, true, [(.sl 8 0 0 : A)]⟩)), (.o 8, some (.o ⟨26, 1, true, rwD 57 []⟩))]) (os' := [(.o 3, some (.o ⟨85, 1, true, [(.sl 5 0 ((tls 33 (regSet l)).length) : A)]⟩)), (.o 5, some (.o ⟨26, 1, true, rwD 57 (tls 33 (regSet l))⟩))]) (r := V.v (.tuple #[])) (bs := [.a (.val (.int .u64 (((regSet l) : Nat) : Int))), .a (.fn 90 [3])]) (keep := [3]) (new := [5]) (dead := [8]) ν (FnO.ren' (impl_set__each_fn (regSet l) (by exact regSet_lt hro) (by omega)) (subst1 [(11, 3), (13, 8), (23, 5)]) rfl rfl (by kernel_rfl) (by kernel_rfl) ⟨ocs (by kernel_rfl), oc_rwD, trivial⟩ (by kernel_rfl) rfl (by simp only [renS, Ob.ren, pl_ren, rws_ren_doms, rws_ren_ints, rws_ren_cels, rwI_ren, rwD_ren]; first | done | rfl) (by simp only [renS, Ob.ren, pl_ren, rws_ren_doms, rws_ren_ints, rws_ren_cels, rwI_ren, rwD_ren]; first | done | rfl) rfl rfl) (by kernel_rfl) ⟨ocs (by kernel_rfl), oc_rwD, trivial⟩ (by kernel_rfl) (ArgOs.cons ((ArgO.v vt)) (ArgOs.cons (ArgO.slot 11 (.a (.fn 90 [3]))) (ArgOs.nil))))
  refine nl (sq (rg ?_))
  refine z ?_ (h := fun ν => acts_load_own (x := .sl 5 0 ((tls 33 (regSet l)).length)) ν qE2_ti_85 (by exact rfl))
  refine za (nl (wp_ret' ?_))
  exact ⟨[kS 2 900 0 ((tls 33 (regSet l)).length), kO 800 3 1 true (pl (isl l)), kO 900 26 1 true (rwD 57 (tls 33 (regSet l))), kF 1, kF 3, kF 5, kF 6, kF 10, kF 12], wkf (subst1 [(900, 5)]) (wS <| wP <| wQD <| wF <| wF <| wF <| wF <| wF <| wF <| wN), ⟨by kernel_rfl, obj_eq (c := rwD 57 (tls 33 (regSet l))) (by kernel_rfl) (congrArg (fun z => rwD 57 z) (by exact hlt.symm)), trivial⟩, vo_eq 2 (.a (.sl 900 0 ((tls 33 (regSet l)).length))) (.a (.sl 900 0 ((ltR l).length))) (by kernel_rfl) (congrArg (fun z : Nat => B.a (.sl 900 0 z)) (by rw [hlt]))⟩
end Cl
end Go.Proofs.Ytonlghbbdcddoaa
