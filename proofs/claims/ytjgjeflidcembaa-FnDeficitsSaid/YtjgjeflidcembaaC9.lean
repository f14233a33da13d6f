/- Walks over clean states, printed by wg.py. No statement is proved here. -/
import Derived.Test.YtjgjeflidcembaaC7
import Derived.Test.YtjgjeflidcembaaClB
namespace Go.Proofs.Ytjgjeflidcembaa
namespace Cl
open Go.ChangeShapes Go.WideShapes Go.ChangeAt Go.RowKit
set_option maxRecDepth 20000

theorem outer_back {s : Nat} {jo : List Int} {out out2 k W : Nat} {lst lst2 : List Cel} (hjo : joOk jo) (hg : WG (out, lst)) (hk : k < lst.length) (he : (out2, lst2) = wrnd s jo (out, lst) (gC lst k)) (hw : wgo s jo (65 - k) (out, lst) k = W) :
    k + 1 ≤ lst2.length ∧ WG (out2, lst2) ∧ wgo s jo (65 - (k + 1)) (out2, lst2) (k + 1) = W := by
  obtain ⟨e, h2⟩ := foldl_wst_app s jo (nbs (gC lst k)) (out, lst)
  have h3 : lst2 = lst ++ e := by have := congrArg Prod.snd he; rw [show (out2, lst2).2 = lst2 from rfl] at this; rw [this]; exact h2
  refine ⟨by rw [h3, List.length_append]; omega, by rw [he]; exact foldl_wst_good hjo _ _ hg, ?_⟩
  rw [he, ← hw, wgo_step hk hg.len]
theorem ar_end {s : Nat} {jo : List Int} {st r : Nat × List Cel} {b : Cel} {j : Nat} (hj : ¬ (j : Int) < ((setCells (aroundS s [b])).length : Int)) (h : r = ((setCells (aroundS s [b])).take j).foldl (wst s jo) st) : r = wrnd s jo st b := by
  rw [h, List.take_of_length_le (by omega), foldl_around]
theorem wst_snoc {s : Nat} {jo : List Int} {st r r2 : Nat × List Cel} {C : List Cel} {j : Nat} (hj : j < C.length) (h : r = (C.take j).foldl (wst s jo) st) (h2 : r2 = wst s jo r (gC C j)) : r2 = (C.take (j+1)).foldl (wst s jo) st := by
  rw [foldl_wst_snoc _ _ _ hj, ← h]; exact h2
theorem wit_end {s k out : Nat} {lst : List Cel} (h : wgo s (joined s) (65 - k) (out, lst) k = witS s) (hg : WG (out, lst)) (hk : k ≤ lst.length) (hn : ¬ k < lst.length) : out = witS s := by
  rw [← h, wgo_end hn (by have : lst.length ≤ 64 := hg.len; omega)]

theorem qC9_sz_3 : (Try.prog.info? 3).map (·.size) = some 1 := by kernel_rfl
theorem qC9_sz_46 : (Try.prog.info? 46).map (·.size) = some 2 := by kernel_rfl
theorem qC9_ti_26 : TI Try.prog 26 true 1 := ⟨⟨_, Try.underlying26, rfl⟩, by kernel_rfl⟩
theorem qC9_ti_3 : TI Try.prog 3 false 1 := ⟨⟨_, Try.underlying3, rfl⟩, by kernel_rfl⟩
theorem qC9_ti_46 : TI Try.prog 46 true 2 := ⟨⟨_, Try.underlying46, rfl⟩, by kernel_rfl⟩
theorem qC9_ti_81 : TI Try.prog 81 true 64 := ⟨⟨_, Try.underlying81, rfl⟩, by kernel_rfl⟩
theorem qC9_un_42 : Try.prog.underlying 42 = some (.slice 46) := Try.underlying42
theorem qC9_un_81 : Try.prog.underlying 81 = some (.array 64 3) := Try.underlying81
theorem qC9_zi_46 : ZI Try.prog 46 (.agg #[.int .i64 0, .int .i64 0]) 2 16 := by unfold ZI; kernel_rfl
theorem qC9_zi_81 : ZI Try.prog 81 (.agg (isl (List.replicate 64 0)).toArray) 64 512 := by unfold ZI; kernel_rfl
set_option maxHeartbeats 4000000 in
set_option maxRecDepth 100000 in
theorem impl_WitnessOf_fn (l : List Int) (hl : l.length ≤ 4194304) : Fn Try.prog 34 [.agg [(.slv l.length 1 (isl l) : A)]] [.row 46 2 (wit l).length (csl (wit l))] := by
 have hjo := joined_ok (regSet l)
 obtain ⟨hjl, hjr⟩ := hjo
 have hjo := joined_ok (regSet l)
 have hs64 := setCells_len (regSet l)
 refine fn_intro (N := 88) Try.func34 rfl (by kernel_rfl) rfl (Nat.le_of_ble_eq_true rfl) [1, 4, 8, 9, 11, 14, 17, 19, 20, 22, 23, 29, 33, 34, 39, 42, 43, 46, 55, 56, 57, 58, 64, 72, 73, 78, 79, 82, 83, 84, 87] (ret1 rfl) (fun W => ?_)
 show Wp _ _ _ [kV 0 (V.b (.agg [(.slv l.length 1 (isl l) : A)])), kF 1, kF 4, kF 8, kF 9, kF 11, kF 14, kF 17, kF 19, kF 20, kF 22, kF 23, kF 29, kF 33, kF 34, kF 39, kF 42, kF 43, kF 46, kF 55, kF 56, kF 57, kF 58, kF 64, kF 72, kF 73, kF 78, kF 79, kF 82, kF 83, kF 84, kF 87]
 refine sq (rg ?_)
 refine z ?_ (h := fun ν => acts_box (h := 1) ν xt (by exact ob1 rfl))
 refine zk (nl (sq (sq (rg ?_))))
 refine z ?_ (h := fun ν => acts_load_owns (xs := [(.slv l.length 1 (isl l) : A)]) ν qC9_ti_26 rfl (by decide) rfl)
 refine z ?_ (h := fun ν => acts_call1 ν (impl_RegionOk_fn l (by first | omega | assumption | exact regSet_lt (by assumption) | exact aroundS_lt _ _ | exact WG.lt (by assumption) | exact set_in (by omega) | (simp only [List.length_singleton]; omega) | exact cN_ok (by omega) | (simp; done))) (ac (ArgV.regv _ _ 1 _) an) rv)
 refine z ?_ (h := fun ν => acts_un ν vt (r_not rfl))
 refine nl ?_
 refine wi (b := (!(regOk l))) (fun c1 => ?_) (fun c1 => ?_)
 ·skip
  have c2 : (regOk l) = false := by first | (rw [← Bool.not_eq_true']; exact c1) | simpa using c1
  refine sq (rg (zk (nl (wp_ret' ?_))))
  exact VRes.tmp _ _ _ (by exact rfl) (bnil_cels (L := (wit l)) (by unfold wit; simp_all))
 ·skip
  have c3 : (regOk l) = true := by first | (rw [← Bool.not_eq_false']; exact c1) | simpa using c1
  refine sk (sq (rg ?_))
  refine z ?_ (h := fun ν => acts_load_owns (xs := [(.slv l.length 1 (isl l) : A)]) ν qC9_ti_26 rfl (by decide) rfl)
  refine z ?_ (h := fun ν => acts_call1 ν (impl_Region__set_fn l (by first | omega | assumption | exact regSet_lt (by assumption) | exact aroundS_lt _ _ | exact WG.lt (by assumption) | exact set_in (by omega) | (simp only [List.length_singleton]; omega) | exact cN_ok (by omega) | (simp; done))) (ac (ArgV.regv _ _ 1 _) an) rv)
  refine za (nl (sq (rg (zm ?_))))
  refine z ?_ (h := fun ν => acts_call1 ν (impl_set__matching_fn (regSet l) (by first | omega | assumption | exact regSet_lt (by assumption) | exact aroundS_lt _ _ | exact WG.lt (by assumption) | exact set_in (by omega) | (simp only [List.length_singleton]; omega) | exact cN_ok (by omega) | (simp; done))) (ac (ArgV.v vt) an) (ResV.agg (isl (joined (regSet l)))))
  refine z ?_ (h := fun ν => acts_alloc' (h := 4) (cap := 64) (s := 1) (cells := pl (isl (List.replicate 64 0))) ν qC9_zi_81 rfl (by first | (simp [pl, isl]; done) | (simp [pl, isl_len, *]; done) | (simp [pl_len, isl_len, *]; done) | (simp [pl]; exact List.take_of_length_le (by simp [isl_len, *]))) (by decide))
  refine z ?_ (h := fun _ => acts_store (t := 4) (h := 4) (off := 0) (o := ⟨81, 1, true, pl (isl (List.replicate 64 0))⟩) (b := .agg ((isl (joined (regSet l))).map A.val)) (cells := pl (isl (joined (regSet l)))) qC9_ti_81 (xt) (by first | (simp [B.cs, isl]; done) | (simp [B.cs, isl, *]; done)) (by decide) (by simpa [B.cs, pl] using pl_one (isl_one' _)) (by first | (simp [pl, isl]; done) | (simp [pl, isl_len, *]; done) | (simp [pl_len, isl_len, *]; done) | (simp [pl]; exact List.take_of_length_le (by simp [isl_len, *]))) (by simp [pl, B.cs, isl]))
  refine nl (sq ?_)
  refine wp_weak (weak_freeze_ptr (k := 4) (h := 4) (T := 81) (s := 1) (ex := true) (xs := isl (joined (regSet l))) (by kernel_rfl) (by kernel_rfl) (by first | (rw [isl_len]; omega) | (simp only [isl_len]; omega) | (rw [isl_len]; first | omega | assumption | exact regSet_lt (by assumption) | exact aroundS_lt _ _ | exact WG.lt (by assumption) | exact set_in (by omega) | (simp only [List.length_singleton]; omega) | exact cN_ok (by omega) | (simp; done)))) ?_
  refine rg ?_
  refine z ?_ (h := fun ν => b0C (h := 20) ν qC9_un_42 qC9_zi_46)
  refine zk (za (nl (sq (sq (rg (zm ?_))))))
  refine z ?_ (h := fun ν => acts_call1 ν (impl_set__cells_fn (regSet l) (by first | omega | assumption | exact regSet_lt (by assumption) | exact aroundS_lt _ _ | exact WG.lt (by assumption) | exact set_in (by omega) | (simp only [List.length_singleton]; omega) | exact cN_ok (by omega) | (simp; done))) (ac (ArgV.v vt) an) (ResV.row _ _ _ _ 22))
  refine z ?_ (h := fun ν => lnS ν qC9_un_42)
  refine z ?_ (h := fun ν => mc ν)
  refine nl (bkk ?_)
  refine wp_loop' (fun (k : Nat) => k ≤ (setCells (regSet l)).length) (fun (k : Nat) => [kU 3 (((regSet l) : Nat) : Int), kV 4 (V.b (.a (.ptrv 1 (isl (joined (regSet l))) (0 * 1)))), kU 5 (((winiT (regSet l) (joined (regSet l)) k).1 : Nat) : Int), kS 6 20 0 (((winiT (regSet l) (joined (regSet l)) k).2).length), kS 22 22 0 ((setCells (regSet l)).length), kI 23 (((setCells (regSet l)).length : Nat) : Int), kI 24 ((k : Nat) : Int), kO 20 46 2 true (pl (csl ((winiT (regSet l) (joined (regSet l)) k).2))), kO 22 46 2 true (pl (csl (setCells (regSet l)))), kF 1, kF 8, kF 9, kF 11, kF 14, kF 17, kF 19, kF 23, kF 29, kF 33, kF 34, kF 39, kF 42, kF 43, kF 46, kF 55, kF 56, kF 57, kF 58, kF 64, kF 72, kF 73, kF 78, kF 79, kF 82, kF 83, kF 84, kF 87]) (fun (k : Nat) => (setCells (regSet l)).length - k) ((0 : Nat)) (by exact (Nat.zero_le _ : 0 ≤ _)) (wkf id (wS <| wS <| wE (e := (vint (by first | rfl | (rw [winiT_snoc (by omega), wini_yes (by assumption) (by rw [tk_pos (by assumption)]; rfl)]; done) | (rw [winiT_snoc (by omega), wini_no1 (by assumption)]; done) | (rw [winiT_snoc (by omega), wini_no2 (by rw [tk_pos (by assumption)]; rfl)]; done) | omega))) <| wE (e := (vsl (by first | rfl | (simp; done) | (simp; omega) | omega | (exact congrArg List.length (by first | rfl | (rw [winiT_snoc (by omega), wini_yes (by assumption) (by rw [tk_pos (by assumption)]; rfl)]; done) | (rw [winiT_snoc (by omega), wini_no1 (by assumption)]; done) | (rw [winiT_snoc (by omega), wini_no2 (by rw [tk_pos (by assumption)]; rfl)]; done) | omega))) rfl)) <| wS <| wS <| wE (e := (vint (by first | rfl | (rw [winiT_snoc (by omega), wini_yes (by assumption) (by rw [tk_pos (by assumption)]; rfl)]; done) | (rw [winiT_snoc (by omega), wini_no1 (by assumption)]; done) | (rw [winiT_snoc (by omega), wini_no2 (by rw [tk_pos (by assumption)]; rfl)]; done) | omega))) <| wO (e := renob_eq (fun h => h) (congrArg csl (by first | rfl | (rw [winiT_snoc (by omega), wini_yes (by assumption) (by rw [tk_pos (by assumption)]; rfl)]; done) | (rw [winiT_snoc (by omega), wini_no1 (by assumption)]; done) | (rw [winiT_snoc (by omega), wini_no2 (by rw [tk_pos (by assumption)]; rfl)]; done) | omega))) <| wP <| by (iterate 28 refine wF ?_); exact wN)) ?_
  rintro k inv4
  replace inv4 : k ≤ (setCells (regSet l)).length := inv4
  have inv := inv4
  have hg1 := (winiT_good (regSet l) (joined (regSet l)) k inv).1
  have hgl := hg1.lt
  have hgn := hg1.len
  refine sq (rg ?_)
  refine z ?_ (h := fun ν => acts_bin ν vt vt (r_lss rfl))
  refine nl (sq ?_)
  refine wi (fun c5 => ?_) (fun c5 => ?_)
  ·skip
   have c5P := of_decide_eq_true c5
   refine sk (sq (bkk (sq (rg ?_))))
   refine z ?_ (h := fun ν => ix0 ν qC9_un_42 qC9_sz_46 vt (hlt := (by first | omega | assumption | exact regSet_lt (by assumption) | exact aroundS_lt _ _ | exact WG.lt (by assumption) | exact set_in (by omega) | (simp only [List.length_singleton]; omega) | exact cN_ok (by omega) | (simp; done))))
   refine z ?_ (h := fun ν => lC ν qC9_ti_46 (by first | omega | assumption | exact regSet_lt (by assumption) | exact aroundS_lt _ _ | exact WG.lt (by assumption) | exact set_in (by omega) | (simp only [List.length_singleton]; omega) | exact cN_ok (by omega) | (simp; done)))
   refine z ?_ (h := fun ν => acts_alloc' (h := 8) (cap := 1) (s := 2) (cells := [aI 0, aI 0]) ν qC9_zi_46 rfl rfl (by decide))
   refine z ?_ (h := fun _ => acts_store (cells := [aI ((gC (setCells (regSet l)) k).x), aI ((gC (setCells (regSet l)) k).y)]) qC9_ti_46 xt (by exact rfl) (by decide) (by exact ob1 rfl) (by exact Nat.le_of_ble_eq_true rfl) (by exact rfl))
   refine nl (sq ?_)
   rcases Bool.eq_false_or_eq_true ((black (gC (setCells (regSet l)) k))) with c6 | c6
   ·skip
    refine wp_dr ?_
    refine zd ?_ (h := fun ν => acts_load_owns (xs := [vI ((gC (setCells (regSet l)) k).x), vI ((gC (setCells (regSet l)) k).y)].map A.val) ν qC9_ti_46 rfl (by decide) rfl)
    refine zd ?_ (h := fun ν => acts_call1 ν (impl_IsBlack_fn (gC (setCells (regSet l)) k) ) (ac (ArgV.va va) an) (resval (congrArg Value.bool c6)))
    refine zdm ?_
    refine zdg ?_ (h := fun ν => step_on rfl rfl (acts_slice_arr_v' (xs := isl (joined (regSet l))) (m := (joined (regSet l)).length) (n := 64) ν qC9_un_81 qC9_sz_3 (by simp only [isl_len]; omega) (by first | rfl | omega)))
    refine zdg ?_ (h := fun ν => step_on rfl rfl (acts_load_owns (xs := [vI ((gC (setCells (regSet l)) k).x), vI ((gC (setCells (regSet l)) k).y)].map A.val) ν qC9_ti_46 rfl (by decide) rfl))
    refine zdg ?_ (h := fun ν => step_on rfl rfl (acts_call1 ν (impl_CellIndex_fn (gC (setCells (regSet l)) k) (by first | omega | assumption | exact regSet_lt (by assumption) | exact aroundS_lt _ _ | exact WG.lt (by assumption) | exact set_in (by omega) | (simp only [List.length_singleton]; omega) | exact cN_ok (by omega) | (simp; done))) (ac (ArgV.va va) an) rv))
    refine zdg ?_ (h := fun ν => step_on rfl rfl (acts_call1 ν (impl_indexOf_fn (joined (regSet l)) (((idx (gC (setCells (regSet l)) k)) : Nat) : Int) (by first | omega | assumption | exact regSet_lt (by assumption) | exact aroundS_lt _ _ | exact WG.lt (by assumption) | exact set_in (by omega) | (simp only [List.length_singleton]; omega) | exact cN_ok (by omega) | (simp; done))) (ac (ArgV.slv _ _ _ _) (ac (ArgV.v vt) an)) rv))
    refine zdg ?_ (h := fun ν => step_on rfl rfl (acts_bin ν vt vc (r_lss rfl)))
    refine zd ?_ (h := fun ν => acts_pick_t ν vt xt)
    refine dw_nil ?_
    refine wi (fun c7 => ?_) (fun c7 => ?_)
    ·skip
     have c7P := of_decide_eq_true c7
     refine wp_dr (zdm ?_)
     refine zd ?_ (h := fun ν => acts_load_owns (xs := [vI ((gC (setCells (regSet l)) k).x), vI ((gC (setCells (regSet l)) k).y)].map A.val) ν qC9_ti_46 rfl (by decide) rfl)
     refine zd ?_ (h := fun ν => acts_call1 ν (impl_set__with_fn ((winiT (regSet l) (joined (regSet l)) k).1) (gC (setCells (regSet l)) k) (by first | omega | assumption | exact regSet_lt (by assumption) | exact aroundS_lt _ _ | exact WG.lt (by assumption) | exact set_in (by omega) | (simp only [List.length_singleton]; omega) | exact cN_ok (by omega) | (simp; done)) (by first | omega | assumption | exact regSet_lt (by assumption) | exact aroundS_lt _ _ | exact WG.lt (by assumption) | exact set_in (by omega) | (simp only [List.length_singleton]; omega) | exact cN_ok (by omega) | (simp; done))) (ac (ArgV.v vt) (ac (ArgV.va va) an)) rv)
     refine zdm ?_
     refine zd ?_ (h := fun ν => acts_load_owns (xs := [vI ((gC (setCells (regSet l)) k).x), vI ((gC (setCells (regSet l)) k).y)].map A.val) ν qC9_ti_46 rfl (by decide) rfl)
     refine zd ?_ (h := fun ν => acts_buildSlice' (h := 42) (xs := csl ([(gC (setCells (regSet l)) k)] : List Cel)) ν qC9_un_42 qC9_zi_46 (.cons va OpVs.nil) (by decide) (by decide) (by kernel_rfl) rfl)
     refine zd ?_ (h := fun ν => aC_ (h2 := 43) (L3 := ((winiT (regSet l) (joined (regSet l)) k).2 ++ [(gC (setCells (regSet l)) k)])) ν qC9_un_42 qC9_zi_46 (by first | exact rfl | (simp; done) | (simp; omega) | omega) rfl (by first | exact rfl | (simp; done) | (simp; omega) | omega) (by first | omega | (simp; omega) | (simp at *; omega)))
     refine zd ?_ (h := fun ν => gt ν)
     refine zd ?_ (h := fun ν => gt ν)
     refine dw_nil (rg ?_)
     refine z ?_ (h := fun ν => acts_bin ν vt vc (rA (by first | omega | assumption | exact regSet_lt (by assumption) | exact aroundS_lt _ _ | exact WG.lt (by assumption) | exact set_in (by omega) | (simp only [List.length_singleton]; omega) | exact cN_ok (by omega) | (simp; done)) (by first | omega | assumption | exact regSet_lt (by assumption) | exact aroundS_lt _ _ | exact WG.lt (by assumption) | exact set_in (by omega) | (simp only [List.length_singleton]; omega) | exact cN_ok (by omega) | (simp; done))))
     refine zm (nl ?_)
     exact loop_back ((k + 1)) (by show _ ≤ _; omega) (by show (setCells (regSet l)).length - (k + 1) < (setCells (regSet l)).length - k; omega) (wkf (subst1 [(20, 43)]) (wS <| wS <| wE (e := (vint (by first | rfl | (rw [winiT_snoc (by omega), wini_yes (by assumption) (by rw [tk_pos (by assumption)]; rfl)]; done) | (rw [winiT_snoc (by omega), wini_no1 (by assumption)]; done) | (rw [winiT_snoc (by omega), wini_no2 (by rw [tk_pos (by assumption)]; rfl)]; done) | omega))) <| wE (e := (vsl (by first | rfl | (simp; done) | (simp; omega) | omega | (exact congrArg List.length (by first | rfl | (rw [winiT_snoc (by omega), wini_yes (by assumption) (by rw [tk_pos (by assumption)]; rfl)]; done) | (rw [winiT_snoc (by omega), wini_no1 (by assumption)]; done) | (rw [winiT_snoc (by omega), wini_no2 (by rw [tk_pos (by assumption)]; rfl)]; done) | omega))) rfl)) <| wS <| wS <| wE (e := (vint (by first | rfl | (rw [winiT_snoc (by omega), wini_yes (by assumption) (by rw [tk_pos (by assumption)]; rfl)]; done) | (rw [winiT_snoc (by omega), wini_no1 (by assumption)]; done) | (rw [winiT_snoc (by omega), wini_no2 (by rw [tk_pos (by assumption)]; rfl)]; done) | omega))) <| wO (e := renob_eq (fun h => h) (congrArg csl (by first | rfl | (rw [winiT_snoc (by omega), wini_yes (by assumption) (by rw [tk_pos (by assumption)]; rfl)]; done) | (rw [winiT_snoc (by omega), wini_no1 (by assumption)]; done) | (rw [winiT_snoc (by omega), wini_no2 (by rw [tk_pos (by assumption)]; rfl)]; done) | omega))) <| wP <| by (iterate 28 refine wF ?_); exact wN))
    ·skip
     have c7P := of_decide_eq_false c7
     refine sk (rg ?_)
     refine z ?_ (h := fun ν => acts_bin ν vt vc (rA (by first | omega | assumption | exact regSet_lt (by assumption) | exact aroundS_lt _ _ | exact WG.lt (by assumption) | exact set_in (by omega) | (simp only [List.length_singleton]; omega) | exact cN_ok (by omega) | (simp; done)) (by first | omega | assumption | exact regSet_lt (by assumption) | exact aroundS_lt _ _ | exact WG.lt (by assumption) | exact set_in (by omega) | (simp only [List.length_singleton]; omega) | exact cN_ok (by omega) | (simp; done))))
     refine zm (nl ?_)
     exact loop_back ((k + 1)) (by show _ ≤ _; omega) (by show (setCells (regSet l)).length - (k + 1) < (setCells (regSet l)).length - k; omega) (wkf id (wS <| wS <| wE (e := (vint (by first | rfl | (rw [winiT_snoc (by omega), wini_yes (by assumption) (by rw [tk_pos (by assumption)]; rfl)]; done) | (rw [winiT_snoc (by omega), wini_no1 (by assumption)]; done) | (rw [winiT_snoc (by omega), wini_no2 (by rw [tk_pos (by assumption)]; rfl)]; done) | omega))) <| wE (e := (vsl (by first | rfl | (simp; done) | (simp; omega) | omega | (exact congrArg List.length (by first | rfl | (rw [winiT_snoc (by omega), wini_yes (by assumption) (by rw [tk_pos (by assumption)]; rfl)]; done) | (rw [winiT_snoc (by omega), wini_no1 (by assumption)]; done) | (rw [winiT_snoc (by omega), wini_no2 (by rw [tk_pos (by assumption)]; rfl)]; done) | omega))) rfl)) <| wS <| wS <| wE (e := (vint (by first | rfl | (rw [winiT_snoc (by omega), wini_yes (by assumption) (by rw [tk_pos (by assumption)]; rfl)]; done) | (rw [winiT_snoc (by omega), wini_no1 (by assumption)]; done) | (rw [winiT_snoc (by omega), wini_no2 (by rw [tk_pos (by assumption)]; rfl)]; done) | omega))) <| wO (e := renob_eq (fun h => h) (congrArg csl (by first | rfl | (rw [winiT_snoc (by omega), wini_yes (by assumption) (by rw [tk_pos (by assumption)]; rfl)]; done) | (rw [winiT_snoc (by omega), wini_no1 (by assumption)]; done) | (rw [winiT_snoc (by omega), wini_no2 (by rw [tk_pos (by assumption)]; rfl)]; done) | omega))) <| wP <| by (iterate 28 refine wF ?_); exact wN))
   ·skip
    refine wp_dr ?_
    refine zd ?_ (h := fun ν => acts_load_owns (xs := [vI ((gC (setCells (regSet l)) k).x), vI ((gC (setCells (regSet l)) k).y)].map A.val) ν qC9_ti_46 rfl (by decide) rfl)
    refine zd ?_ (h := fun ν => acts_call1 ν (impl_IsBlack_fn (gC (setCells (regSet l)) k) ) (ac (ArgV.va va) an) (resval (congrArg Value.bool c6)))
    refine zdm ?_
    refine zdg ?_ (h := fun ν => step_off rfl rfl (by decide) rfl ν)
    refine zdg ?_ (h := fun ν => step_off rfl rfl (by decide) rfl ν)
    refine zdg ?_ (h := fun ν => step_off rfl rfl (by decide) rfl ν)
    refine zdg ?_ (h := fun ν => step_off rfl rfl (by decide) rfl ν)
    refine zdg ?_ (h := fun ν => step_off rfl rfl (by decide) rfl ν)
    refine zd ?_ (h := fun ν => acts_pick_f ν vt xc)
    refine dw_nil (wf (sk (rg ?_)))
    refine z ?_ (h := fun ν => acts_bin ν vt vc (rA (by first | omega | assumption | exact regSet_lt (by assumption) | exact aroundS_lt _ _ | exact WG.lt (by assumption) | exact set_in (by omega) | (simp only [List.length_singleton]; omega) | exact cN_ok (by omega) | (simp; done)) (by first | omega | assumption | exact regSet_lt (by assumption) | exact aroundS_lt _ _ | exact WG.lt (by assumption) | exact set_in (by omega) | (simp only [List.length_singleton]; omega) | exact cN_ok (by omega) | (simp; done))))
    refine zm (nl ?_)
    exact loop_back ((k + 1)) (by show _ ≤ _; omega) (by show (setCells (regSet l)).length - (k + 1) < (setCells (regSet l)).length - k; omega) (wkf id (wS <| wS <| wE (e := (vint (by first | rfl | (rw [winiT_snoc (by omega), wini_yes (by assumption) (by rw [tk_pos (by assumption)]; rfl)]; done) | (rw [winiT_snoc (by omega), wini_no1 (by assumption)]; done) | (rw [winiT_snoc (by omega), wini_no2 (by rw [tk_pos (by assumption)]; rfl)]; done) | omega))) <| wE (e := (vsl (by first | rfl | (simp; done) | (simp; omega) | omega | (exact congrArg List.length (by first | rfl | (rw [winiT_snoc (by omega), wini_yes (by assumption) (by rw [tk_pos (by assumption)]; rfl)]; done) | (rw [winiT_snoc (by omega), wini_no1 (by assumption)]; done) | (rw [winiT_snoc (by omega), wini_no2 (by rw [tk_pos (by assumption)]; rfl)]; done) | omega))) rfl)) <| wS <| wS <| wE (e := (vint (by first | rfl | (rw [winiT_snoc (by omega), wini_yes (by assumption) (by rw [tk_pos (by assumption)]; rfl)]; done) | (rw [winiT_snoc (by omega), wini_no1 (by assumption)]; done) | (rw [winiT_snoc (by omega), wini_no2 (by rw [tk_pos (by assumption)]; rfl)]; done) | omega))) <| wO (e := renob_eq (fun h => h) (congrArg csl (by first | rfl | (rw [winiT_snoc (by omega), wini_yes (by assumption) (by rw [tk_pos (by assumption)]; rfl)]; done) | (rw [winiT_snoc (by omega), wini_no1 (by assumption)]; done) | (rw [winiT_snoc (by omega), wini_no2 (by rw [tk_pos (by assumption)]; rfl)]; done) | omega))) <| wP <| by (iterate 28 refine wF ?_); exact wN))
  ·skip
   have c5P := of_decide_eq_false c5
   refine wp_exit' (sq (bkk ?_))
   refine wp_loop' (fun ((out, k2, off, lst, Lw) : Nat × Nat × Nat × (List Cel) × (List Cel)) => k2 ≤ lst.length ∧ off ≤ Lw.length ∧ Lw.drop off = lst.drop k2 ∧ WG (out, lst) ∧ wgo (regSet l) (joined (regSet l)) (65 - k2) (out, lst) k2 = witS (regSet l)) (fun ((out, k2, off, lst, Lw) : Nat × Nat × Nat × (List Cel) × (List Cel)) => [kU 3 (((regSet l) : Nat) : Int), kV 4 (V.b (.a (.ptrv 1 (isl (joined (regSet l))) (0 * 1)))), kU 5 ((out : Nat) : Int), kS 6 20 off (Lw.length - off), kO 20 46 2 false (pl (csl Lw)), kF 1, kF 8, kF 9, kF 11, kF 14, kF 17, kF 19, kF 22, kF 23, kF 29, kF 33, kF 34, kF 39, kF 42, kF 43, kF 46, kF 55, kF 56, kF 57, kF 58, kF 64, kF 72, kF 73, kF 78, kF 79, kF 82, kF 83, kF 84, kF 87]) (fun ((out, k2, off, lst, Lw) : Nat × Nat × Nat × (List Cel) × (List Cel)) => 64 - k2) (((winiT (regSet l) (joined (regSet l)) k).1 : Nat), (0 : Nat), (0 : Nat), ((winiT (regSet l) (joined (regSet l)) k).2 : List Cel), ((winiT (regSet l) (joined (regSet l)) k).2 : List Cel)) (by (have e : k = (setCells (regSet l)).length := by omega); subst e; exact ⟨Nat.zero_le _, Nat.zero_le _, rfl, hg1, rfl⟩) (wkf id (wS <| wS <| wE (e := (vint (by first | rfl | omega | (simp; done) | (simp; omega)))) <| wE (e := (vsl (by first | rfl | (simp; done) | (simp; omega) | omega | (exact congrArg List.length (by first | rfl | omega | (simp; done) | (simp; omega)))) rfl)) <| wO (e := renob_eq (fun h => by cases h) (congrArg csl (by first | rfl | omega | (simp; done) | (simp; omega)))) <| by (iterate 29 refine wF ?_); exact wN)) ?_
   rintro ⟨out, k2, off, lst, Lw⟩ inv8
   replace inv8 : k2 ≤ lst.length ∧ off ≤ Lw.length ∧ Lw.drop off = lst.drop k2 ∧ WG (out, lst) ∧ wgo (regSet l) (joined (regSet l)) (65 - k2) (out, lst) k2 = witS (regSet l) := inv8
   obtain ⟨inv8_0, inv8_1, inv8_2, inv8_3, inv8_4⟩ := inv8
   have hg2 : WG (out, lst) := by assumption
   have hgl2 : out < 18446744073709551616 := hg2.lt
   have hgn2 : lst.length ≤ 64 := hg2.len
   refine sq (sq (rg (zm ?_)))
   refine z ?_ (h := fun ν => lnS ν qC9_un_42)
   refine z ?_ (h := fun ν => acts_bin ν vt vc (r_gtr rfl))
   refine nl ?_
   refine wi (fun c9 => ?_) (fun c9 => ?_)
   ·skip
    have c9P := of_decide_eq_true c9
    have hdg := drop_get (L := Lw) (M := lst) (i := off) (j := k2) (by assumption) (by omega)
    obtain ⟨hk2, hown⟩ := hdg
    refine sk (bkk (sq (rg (zm ?_))))
    refine z ?_ (h := fun ν => ixz ν qC9_un_42 qC9_sz_46 vc (by first | omega | assumption | exact regSet_lt (by assumption) | exact aroundS_lt _ _ | exact WG.lt (by assumption) | exact set_in (by omega) | (simp only [List.length_singleton]; omega) | exact cN_ok (by omega) | (simp; done)))
    refine z ?_ (h := fun ν => lC ν qC9_ti_46 (by first | omega | assumption | exact regSet_lt (by assumption) | exact aroundS_lt _ _ | exact WG.lt (by assumption) | exact set_in (by omega) | (simp only [List.length_singleton]; omega) | exact cN_ok (by omega) | (simp; done)))
    refine z ?_ (h := fun ν => acts_alloc' (h := 9) (cap := 1) (s := 2) (cells := [aI 0, aI 0]) ν qC9_zi_46 rfl rfl (by decide))
    refine z ?_ (h := fun _ => acts_store (cells := [aI ((gC Lw off).x), aI ((gC Lw off).y)]) qC9_ti_46 xt (by exact rfl) (by decide) (by exact ob1 rfl) (by exact Nat.le_of_ble_eq_true rfl) (by exact rfl))
    refine nl (sq (rg (zm ?_)))
    refine z ?_ (h := fun ν => slS (m := ((Lw.length - off) - 1)) (off' := (off + 1)) ν qC9_un_42 qC9_sz_46 (OpB.so _ 1 vc rfl) (OpB.no _) (by first | omega | assumption | exact regSet_lt (by assumption) | exact aroundS_lt _ _ | exact WG.lt (by assumption) | exact set_in (by omega) | (simp only [List.length_singleton]; omega) | exact cN_ok (by omega) | (simp; done)) (by first | omega | assumption | exact regSet_lt (by assumption) | exact aroundS_lt _ _ | exact WG.lt (by assumption) | exact set_in (by omega) | (simp only [List.length_singleton]; omega) | exact cN_ok (by omega) | (simp; done)) (by exact rfl) (by omega))
    refine za (nl (sq (rg (zm ?_))))
    refine z ?_ (h := fun ν => acts_load_owns (xs := [vI ((gC Lw off).x), vI ((gC Lw off).y)].map A.val) ν qC9_ti_46 rfl (by decide) rfl)
    refine z ?_ (h := fun ν => acts_buildSlice' (h := 55) (xs := csl ([(gC Lw off)] : List Cel)) ν qC9_un_42 qC9_zi_46 (.cons va OpVs.nil) (by decide) (by decide) (by kernel_rfl) rfl)
    refine z ?_ (h := fun ν => acts_call1 ν (impl_set__around_fn (regSet l) [(gC Lw off)] (by first | omega | assumption | exact regSet_lt (by assumption) | exact aroundS_lt _ _ | exact WG.lt (by assumption) | exact set_in (by omega) | (simp only [List.length_singleton]; omega) | exact cN_ok (by omega) | (simp; done)) (by first | omega | assumption | exact regSet_lt (by assumption) | exact aroundS_lt _ _ | exact WG.lt (by assumption) | exact set_in (by omega) | (simp only [List.length_singleton]; omega) | exact cN_ok (by omega) | (simp; done))) (ac (ArgV.v vt) (ac (argv_own (by first | exact csl_len _ | (simp [isl_len, bsl_len, dsl_len, csl_len]; done) | (simp [isl_len, bsl_len, dsl_len, csl_len]; omega))) an)) rv)
    refine z ?_ (h := fun ν => acts_call1 ν (impl_set__cells_fn (aroundS (regSet l) [(gC Lw off)]) (by first | omega | assumption | exact regSet_lt (by assumption) | exact aroundS_lt _ _ | exact WG.lt (by assumption) | exact set_in (by omega) | (simp only [List.length_singleton]; omega) | exact cN_ok (by omega) | (simp; done))) (ac (ArgV.v vt) an) (ResV.row _ _ _ _ 57))
    refine z ?_ (h := fun ν => lnS ν qC9_un_42)
    refine z ?_ (h := fun ν => mc ν)
    refine nl (bkk ?_)
    refine wp_loop' (fun ((j, out2, off2, lst2, Lw2) : Nat × Nat × Nat × (List Cel) × (List Cel)) => j ≤ (setCells (aroundS (regSet l) [(gC Lw off)])).length ∧ off2 ≤ Lw2.length ∧ Lw2.drop off2 = lst2.drop (k2 + 1) ∧ k2 + 1 ≤ lst2.length ∧ (out2, lst2) = ((setCells (aroundS (regSet l) [(gC Lw off)])).take j).foldl (wst (regSet l) (joined (regSet l))) (out, lst)) (fun ((j, out2, off2, lst2, Lw2) : Nat × Nat × Nat × (List Cel) × (List Cel)) => [kU 3 (((regSet l) : Nat) : Int), kV 4 (V.b (.a (.ptrv 1 (isl (joined (regSet l))) (0 * 1)))), kU 5 ((out2 : Nat) : Int), kS 6 20 off2 (Lw2.length - off2), kS 57 57 0 ((setCells (aroundS (regSet l) [(gC Lw off)])).length), kI 58 (((setCells (aroundS (regSet l) [(gC Lw off)])).length : Nat) : Int), kI 59 ((j : Nat) : Int), kO 20 46 2 false (pl (csl Lw2)), kO 57 46 2 true (pl (csl (setCells (aroundS (regSet l) [(gC Lw off)])))), kF 1, kF 8, kF 9, kF 11, kF 14, kF 17, kF 19, kF 22, kF 23, kF 29, kF 33, kF 34, kF 39, kF 42, kF 43, kF 46, kF 55, kF 56, kF 58, kF 64, kF 72, kF 73, kF 78, kF 79, kF 82, kF 83, kF 84, kF 87]) (fun ((j, out2, off2, lst2, Lw2) : Nat × Nat × Nat × (List Cel) × (List Cel)) => (setCells (aroundS (regSet l) [(gC Lw off)])).length - j) ((0 : Nat), (out : Nat), ((off + 1) : Nat), (lst : List Cel), (Lw : List Cel)) (by exact ⟨Nat.zero_le _, by omega, drop_more (by assumption), by omega, rfl⟩) (wkf id (wS <| wS <| wS <| wE (e := (vsl (by first | rfl | (simp; done) | (simp; omega) | omega | (exact congrArg List.length (by first | rfl | omega | (simp; done) | (simp; omega)))) rfl)) <| wS <| wS <| wE (e := (vint (by first | rfl | omega | (simp; done) | (simp; omega)))) <| wP <| wP <| by (iterate 28 refine wF ?_); exact wN)) ?_
    rintro ⟨j, out2, off2, lst2, Lw2⟩ inv10
    replace inv10 : j ≤ (setCells (aroundS (regSet l) [(gC Lw off)])).length ∧ off2 ≤ Lw2.length ∧ Lw2.drop off2 = lst2.drop (k2 + 1) ∧ k2 + 1 ≤ lst2.length ∧ (out2, lst2) = ((setCells (aroundS (regSet l) [(gC Lw off)])).take j).foldl (wst (regSet l) (joined (regSet l))) (out, lst) := inv10
    obtain ⟨inv10_0, inv10_1, inv10_2, inv10_3, inv10_4⟩ := inv10
    have hst : (out2, lst2) = ((setCells (aroundS (regSet l) [(gC Lw off)])).take j).foldl (wst (regSet l) (joined (regSet l))) (out, lst) := by assumption
    have hg3 : WG (out2, lst2) := by rw [hst]; exact foldl_wst_good hjo _ _ hg2
    have hgl3 : out2 < 18446744073709551616 := hg3.lt
    have hgn3 : lst2.length ≤ 64 := hg3.len
    have hdr3 : Lw2.drop off2 = lst2.drop (k2 + 1) := by assumption
    have hdl3 := congrArg List.length hdr3
    simp only [List.length_drop] at hdl3
    have h643 := setCells_len (aroundS (regSet l) [(gC Lw off)])
    refine sq (rg ?_)
    refine z ?_ (h := fun ν => acts_bin ν vt vt (r_lss rfl))
    refine nl (sq ?_)
    refine wi (fun c11 => ?_) (fun c11 => ?_)
    ·skip
     have c11P := of_decide_eq_true c11
     have hA := around_has (s := regSet l) (b := gC Lw off) (j := j) (by omega)
     have hO := hasS_ok hA
     have hI := idx_lt hO
     have hJ := hjr _ hI
     refine sk (sq (bkk (sq (rg ?_))))
     refine z ?_ (h := fun ν => ix0 ν qC9_un_42 qC9_sz_46 vt (hlt := (by first | omega | assumption | exact regSet_lt (by assumption) | exact aroundS_lt _ _ | exact WG.lt (by assumption) | exact set_in (by omega) | (simp only [List.length_singleton]; omega) | exact cN_ok (by omega) | (simp; done))))
     refine z ?_ (h := fun ν => lC ν qC9_ti_46 (by first | omega | assumption | exact regSet_lt (by assumption) | exact aroundS_lt _ _ | exact WG.lt (by assumption) | exact set_in (by omega) | (simp only [List.length_singleton]; omega) | exact cN_ok (by omega) | (simp; done)))
     refine z ?_ (h := fun ν => acts_alloc' (h := 11) (cap := 1) (s := 2) (cells := [aI 0, aI 0]) ν qC9_zi_46 rfl rfl (by decide))
     refine z ?_ (h := fun _ => acts_store (cells := [aI ((gC (setCells (aroundS (regSet l) [(gC Lw off)])) j).x), aI ((gC (setCells (aroundS (regSet l) [(gC Lw off)])) j).y)]) qC9_ti_46 xt (by exact rfl) (by decide) (by exact ob1 rfl) (by exact Nat.le_of_ble_eq_true rfl) (by exact rfl))
     refine nl (sq (rg ?_))
     refine z ?_ (h := fun ν => acts_load_owns (xs := [vI ((gC (setCells (aroundS (regSet l) [(gC Lw off)])) j).x), vI ((gC (setCells (aroundS (regSet l) [(gC Lw off)])) j).y)].map A.val) ν qC9_ti_46 rfl (by decide) rfl)
     refine z ?_ (h := fun ν => acts_call1 ν (impl_CellIndex_fn (gC (setCells (aroundS (regSet l) [(gC Lw off)])) j) (by first | omega | assumption | exact regSet_lt (by assumption) | exact aroundS_lt _ _ | exact WG.lt (by assumption) | exact set_in (by omega) | (simp only [List.length_singleton]; omega) | exact cN_ok (by omega) | (simp; done))) (ac (ArgV.va va) an) rv)
     refine z ?_ (h := fun ν => ixw ν qC9_un_81 qC9_sz_3 vt (hlt := (by first | omega | assumption | exact regSet_lt (by assumption) | exact aroundS_lt _ _ | exact WG.lt (by assumption) | exact set_in (by omega) | (simp only [List.length_singleton]; omega) | exact cN_ok (by omega) | (simp; done))))
     refine z ?_ (h := fun ν => uI ν qC9_ti_3 (by first | omega | assumption | exact regSet_lt (by assumption) | exact aroundS_lt _ _ | exact WG.lt (by assumption) | exact set_in (by omega) | (simp only [List.length_singleton]; omega) | exact cN_ok (by omega) | (simp; done)))
     refine za (nl (sq ?_))
     rcases Bool.eq_false_or_eq_true (decide (0 ≤ (gI (joined (regSet l)) (idx (gC (setCells (aroundS (regSet l) [(gC Lw off)])) j))))) with c12 | c12
     ·skip
      have c12P := of_decide_eq_true c12
      refine rg (zm ?_)
      refine z ?_ (h := fun ν => acts_bin ν vt vc (r_geq (c := true) c12))
      refine zm ?_
      refine zg ?_ (h := fun ν => step_on rfl rfl (mt ν))
      refine zg ?_ (h := fun ν => step_on rfl rfl (mt ν))
      refine zg ?_ (h := fun ν => step_on rfl rfl (acts_call1 ν (impl_cellAt_fn ((gI (joined (regSet l)) (idx (gC (setCells (aroundS (regSet l) [(gC Lw off)])) j))).toNat) (by first | omega | assumption | exact regSet_lt (by assumption) | exact aroundS_lt _ _ | exact WG.lt (by assumption) | exact set_in (by omega) | (simp only [List.length_singleton]; omega) | exact cN_ok (by omega) | (simp; done))) (ac (argv_int (b := (((gI (joined (regSet l)) (idx (gC (setCells (aroundS (regSet l) [(gC Lw off)])) j))).toNat : Nat) : Int)) (by omega) (ArgV.v vt)) an) (ResV.agg [vI ((cN ((gI (joined (regSet l)) (idx (gC (setCells (aroundS (regSet l) [(gC Lw off)])) j))).toNat)).x), vI ((cN ((gI (joined (regSet l)) (idx (gC (setCells (aroundS (regSet l) [(gC Lw off)])) j))).toNat)).y)])))
      refine zg ?_ (h := fun ν => step_on rfl rfl (acts_call1 ν (impl_set__has_fn out2 (cN ((gI (joined (regSet l)) (idx (gC (setCells (aroundS (regSet l) [(gC Lw off)])) j))).toNat)) (by first | omega | assumption | exact regSet_lt (by assumption) | exact aroundS_lt _ _ | exact WG.lt (by assumption) | exact set_in (by omega) | (simp only [List.length_singleton]; omega) | exact cN_ok (by omega) | (simp; done))) (ac (ArgV.v vt) (ac (ArgV.va va) an)) rv))
      refine zg ?_ (h := fun ν => step_on rfl rfl (acts_un ν vt (r_not rfl)))
      refine z ?_ (h := fun ν => acts_pick_t ν vt xt)
      refine nl ?_
      refine wi (b := (!(hasS out2 (cN ((gI (joined (regSet l)) (idx (gC (setCells (aroundS (regSet l) [(gC Lw off)])) j))).toNat))))) (fun c13 => ?_) (fun c13 => ?_)
      ·skip
       have c14 : (hasS out2 (cN ((gI (joined (regSet l)) (idx (gC (setCells (aroundS (regSet l) [(gC Lw off)])) j))).toNat))) = false := by first | (rw [← Bool.not_eq_true']; exact c13) | simpa using c13
       refine rg (zm (zm ?_))
       refine z ?_ (h := fun ν => acts_call1 ν (impl_cellAt_fn ((gI (joined (regSet l)) (idx (gC (setCells (aroundS (regSet l) [(gC Lw off)])) j))).toNat) (by first | omega | assumption | exact regSet_lt (by assumption) | exact aroundS_lt _ _ | exact WG.lt (by assumption) | exact set_in (by omega) | (simp only [List.length_singleton]; omega) | exact cN_ok (by omega) | (simp; done))) (ac (argv_int (b := (((gI (joined (regSet l)) (idx (gC (setCells (aroundS (regSet l) [(gC Lw off)])) j))).toNat : Nat) : Int)) (by omega) (ArgV.v vt)) an) (ResV.agg [vI ((cN ((gI (joined (regSet l)) (idx (gC (setCells (aroundS (regSet l) [(gC Lw off)])) j))).toNat)).x), vI ((cN ((gI (joined (regSet l)) (idx (gC (setCells (aroundS (regSet l) [(gC Lw off)])) j))).toNat)).y)]))
       refine z ?_ (h := fun ν => acts_call1 ν (impl_set__with_fn out2 (cN ((gI (joined (regSet l)) (idx (gC (setCells (aroundS (regSet l) [(gC Lw off)])) j))).toNat)) (by first | omega | assumption | exact regSet_lt (by assumption) | exact aroundS_lt _ _ | exact WG.lt (by assumption) | exact set_in (by omega) | (simp only [List.length_singleton]; omega) | exact cN_ok (by omega) | (simp; done)) (by first | omega | assumption | exact regSet_lt (by assumption) | exact aroundS_lt _ _ | exact WG.lt (by assumption) | exact set_in (by omega) | (simp only [List.length_singleton]; omega) | exact cN_ok (by omega) | (simp; done))) (ac (ArgV.v vt) (ac (ArgV.va va) an)) rv)
       refine zm (zm ?_)
       refine z ?_ (h := fun ν => acts_call1 ν (impl_cellAt_fn ((gI (joined (regSet l)) (idx (gC (setCells (aroundS (regSet l) [(gC Lw off)])) j))).toNat) (by first | omega | assumption | exact regSet_lt (by assumption) | exact aroundS_lt _ _ | exact WG.lt (by assumption) | exact set_in (by omega) | (simp only [List.length_singleton]; omega) | exact cN_ok (by omega) | (simp; done))) (ac (argv_int (b := (((gI (joined (regSet l)) (idx (gC (setCells (aroundS (regSet l) [(gC Lw off)])) j))).toNat : Nat) : Int)) (by omega) (ArgV.v vt)) an) (ResV.agg [vI ((cN ((gI (joined (regSet l)) (idx (gC (setCells (aroundS (regSet l) [(gC Lw off)])) j))).toNat)).x), vI ((cN ((gI (joined (regSet l)) (idx (gC (setCells (aroundS (regSet l) [(gC Lw off)])) j))).toNat)).y)]))
       refine z ?_ (h := fun ν => acts_buildSlice' (h := 83) (xs := csl ([(cN ((gI (joined (regSet l)) (idx (gC (setCells (aroundS (regSet l) [(gC Lw off)])) j))).toNat))] : List Cel)) ν qC9_un_42 qC9_zi_46 (.cons va OpVs.nil) (by decide) (by decide) (by kernel_rfl) rfl)
       refine z ?_ (h := fun ν => acts_app_cels (h2 := 84) (m := 1) (nm := ((Lw2.drop off2 ++ [(cN ((gI (joined (regSet l)) (idx (gC (setCells (aroundS (regSet l) [(gC Lw off)])) j))).toNat))]).length)) (X := .sl 83 0 1) (L := Lw2) (L2 := [(cN ((gI (joined (regSet l)) (idx (gC (setCells (aroundS (regSet l) [(gC Lw off)])) j))).toNat))]) ν qC9_un_42 qC9_zi_46 (by first | omega | (simp; omega)) xt (src_own (h := 83) (T := 46) (s := 2) (ex := true) (n := 1) (by first | exact csl_len _ | (simp [isl_len, bsl_len, dsl_len, csl_len]; done) | (simp [isl_len, bsl_len, dsl_len, csl_len]; omega))) (by first | omega | (simp; omega) | (simp at *; omega)) (by first | (simp; done) | (simp; omega) | omega))
       refine za (za (nl (rg ?_)))
       refine z ?_ (h := fun ν => acts_bin ν vt vc (rA (by first | omega | assumption | exact regSet_lt (by assumption) | exact aroundS_lt _ _ | exact WG.lt (by assumption) | exact set_in (by omega) | (simp only [List.length_singleton]; omega) | exact cN_ok (by omega) | (simp; done)) (by first | omega | assumption | exact regSet_lt (by assumption) | exact aroundS_lt _ _ | exact WG.lt (by assumption) | exact set_in (by omega) | (simp only [List.length_singleton]; omega) | exact cN_ok (by omega) | (simp; done))))
       refine zm (nl ?_)
       exact loop_back ((j + 1), (addC out2 (cN (gI (joined (regSet l)) (idx (gC (setCells (aroundS (regSet l) [(gC Lw off)])) j))).toNat)), 0, (lst2 ++ [(cN (gI (joined (regSet l)) (idx (gC (setCells (aroundS (regSet l) [(gC Lw off)])) j))).toNat)]), (Lw2.drop off2 ++ [(cN (gI (joined (regSet l)) (idx (gC (setCells (aroundS (regSet l) [(gC Lw off)])) j))).toNat)])) (by first | (refine ⟨by omega, Nat.zero_le _, drop_app (by assumption) (by assumption) _, by simp only [List.length_append]; omega, ?_⟩; refine wst_snoc (by omega) hst ?_; rw [wst_yes hA (by assumption) ((has_cN (by omega)).symm.trans (by assumption))]; done) | (refine ⟨by omega, by assumption, by assumption, by assumption, ?_⟩; refine wst_snoc (by omega) hst ?_; first | (rw [wst_no2 (by assumption)]; done) | (rw [wst_no3 ((has_cN (by omega)).symm.trans (by assumption))]; done))) (by show (setCells (aroundS (regSet l) [(gC Lw off)])).length - (j + 1) < (setCells (aroundS (regSet l) [(gC Lw off)])).length - j; omega) (wkf (subst1 [(20, 84)]) (wS <| wS <| wE (e := (vint (by first | rfl | omega | (simp; done) | (simp; omega)))) <| wE (e := (vsl (by first | rfl | (simp; done) | (simp; omega) | omega | (exact congrArg List.length (by first | rfl | omega | (simp; done) | (simp; omega)))) rfl)) <| wS <| wS <| wE (e := (vint (by first | rfl | omega | (simp; done) | (simp; omega)))) <| wO (e := renob_eq (fun h => h) (congrArg csl (by first | rfl | omega | (simp; done) | (simp; omega)))) <| wP <| by (iterate 28 refine wF ?_); exact wN))
      ·skip
       have c15 : (hasS out2 (cN ((gI (joined (regSet l)) (idx (gC (setCells (aroundS (regSet l) [(gC Lw off)])) j))).toNat))) = true := by first | (rw [← Bool.not_eq_false']; exact c13) | simpa using c13
       refine sk (rg ?_)
       refine z ?_ (h := fun ν => acts_bin ν vt vc (rA (by first | omega | assumption | exact regSet_lt (by assumption) | exact aroundS_lt _ _ | exact WG.lt (by assumption) | exact set_in (by omega) | (simp only [List.length_singleton]; omega) | exact cN_ok (by omega) | (simp; done)) (by first | omega | assumption | exact regSet_lt (by assumption) | exact aroundS_lt _ _ | exact WG.lt (by assumption) | exact set_in (by omega) | (simp only [List.length_singleton]; omega) | exact cN_ok (by omega) | (simp; done))))
       refine zm (nl ?_)
       exact loop_back ((j + 1), out2, off2, lst2, Lw2) (by first | (refine ⟨by omega, Nat.zero_le _, drop_app (by assumption) (by assumption) _, by simp only [List.length_append]; omega, ?_⟩; refine wst_snoc (by omega) hst ?_; rw [wst_yes hA (by assumption) ((has_cN (by omega)).symm.trans (by assumption))]; done) | (refine ⟨by omega, by assumption, by assumption, by assumption, ?_⟩; refine wst_snoc (by omega) hst ?_; first | (rw [wst_no2 (by assumption)]; done) | (rw [wst_no3 ((has_cN (by omega)).symm.trans (by assumption))]; done))) (by show (setCells (aroundS (regSet l) [(gC Lw off)])).length - (j + 1) < (setCells (aroundS (regSet l) [(gC Lw off)])).length - j; omega) (wkf id (wS <| wS <| wS <| wS <| wS <| wS <| wE (e := (vint (by first | rfl | omega | (simp; done) | (simp; omega)))) <| wP <| wP <| by (iterate 28 refine wF ?_); exact wN))
     ·skip
      have c12P := of_decide_eq_false c12
      refine rg (zm ?_)
      refine z ?_ (h := fun ν => acts_bin ν vt vc (r_geq (c := false) c12))
      refine zm (zo (zo (zo (zo (zo ?_)))))
      refine z ?_ (h := fun ν => acts_pick_f ν vt xc)
      refine nl (wf (sk (rg ?_)))
      refine z ?_ (h := fun ν => acts_bin ν vt vc (rA (by first | omega | assumption | exact regSet_lt (by assumption) | exact aroundS_lt _ _ | exact WG.lt (by assumption) | exact set_in (by omega) | (simp only [List.length_singleton]; omega) | exact cN_ok (by omega) | (simp; done)) (by first | omega | assumption | exact regSet_lt (by assumption) | exact aroundS_lt _ _ | exact WG.lt (by assumption) | exact set_in (by omega) | (simp only [List.length_singleton]; omega) | exact cN_ok (by omega) | (simp; done))))
      refine zm (nl ?_)
      exact loop_back ((j + 1), out2, off2, lst2, Lw2) (by first | (refine ⟨by omega, Nat.zero_le _, drop_app (by assumption) (by assumption) _, by simp only [List.length_append]; omega, ?_⟩; refine wst_snoc (by omega) hst ?_; rw [wst_yes hA (by assumption) ((has_cN (by omega)).symm.trans (by assumption))]; done) | (refine ⟨by omega, by assumption, by assumption, by assumption, ?_⟩; refine wst_snoc (by omega) hst ?_; first | (rw [wst_no2 (by assumption)]; done) | (rw [wst_no3 ((has_cN (by omega)).symm.trans (by assumption))]; done))) (by show (setCells (aroundS (regSet l) [(gC Lw off)])).length - (j + 1) < (setCells (aroundS (regSet l) [(gC Lw off)])).length - j; omega) (wkf id (wS <| wS <| wS <| wS <| wS <| wS <| wE (e := (vint (by first | rfl | omega | (simp; done) | (simp; omega)))) <| wP <| wP <| by (iterate 28 refine wF ?_); exact wN))
    ·skip
     have c11P := of_decide_eq_false c11
     refine wp_exit' ?_
     exact Exists.intro (out2, (k2 + 1), off2, lst2, Lw2) (And.intro (by (have he := ar_end (by assumption) hst); (rw [hown] at he); (have hq := outer_back hjo hg2 hk2 he (by assumption)); exact ⟨hq.1, by assumption, by assumption, hq.2.1, hq.2.2⟩) (And.intro (by show 64 - (k2 + 1) < 64 - k2; omega) (wkf id (wS <| wS <| wS <| wS <| wP <| by (iterate 29 refine wF ?_); exact wN))))
   ·skip
    have c9P := of_decide_eq_false c9
    have hend := drop_none (L := Lw) (M := lst) (i := off) (j := k2) (by assumption) (by assumption)
    refine wp_exit' (sq (rg (zm ?_)))
    refine z ?_ (h := fun ν => acts_call1 ν (impl_set__cells_fn out (by first | omega | assumption | exact regSet_lt (by assumption) | exact aroundS_lt _ _ | exact WG.lt (by assumption) | exact set_in (by omega) | (simp only [List.length_singleton]; omega) | exact cN_ok (by omega) | (simp; done))) (ac (ArgV.v vt) an) (ResV.row _ _ _ _ 87))
    refine za (nl (wp_ret' ?_))
    exact VRes.tmp _ _ _ (by exact rfl) (brow_cels (h := 87) (L := (setCells out)) (by kernel_rfl) (by unfold wit; rw [if_pos (by assumption), ← wit_end (by assumption) hg2 (by assumption) hend]) (by first | rfl | (simp; done) | (simp; omega)))
end Cl
end Go.Proofs.Ytjgjeflidcembaa
