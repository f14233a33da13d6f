/- Walks over clean states, printed by wg.py. No statement is proved here. -/
import Derived.Test.YtjgjeflidcembaaC7
import Derived.Test.YtjgjeflidcembaaC3w
import Derived.Test.YtjgjeflidcembaaSortS
import Derived.Test.YtjgjeflidcembaaS0
import Derived.Test.YtjgjeflidcembaaClB
namespace Go.Proofs.Ytjgjeflidcembaa
namespace Cl
open Go.ChangeShapes Go.WideShapes Go.ChangeAt Go.RowKit
set_option maxRecDepth 20000

def matR (l : List Int) : List Dom := if regOk l then sortD (matT (joined (regSet l)) 64) else []
theorem matR_len (l : List Int) : (matR l).length ≤ 64 := by
  unfold matR; split
  · exact Nat.le_trans (sortBy_len _) (matT_len _ _)
  · simp
theorem matR_no {l : List Int} (h : regOk l = false) : matR l = [] := by unfold matR; rw [h]; rfl
def frees (l : List Int) : Int := (((cellsOf l).filter black).length : Int) - ((matR l).length : Int)
theorem frees_no {l : List Int} (h : regOk l = false) : frees l = 0 := by unfold frees cellsOf; rw [matR_no h, h]; rfl

theorem qC8_sz_46 : (Try.prog.info? 46).map (·.size) = some 2 := by kernel_rfl
theorem qC8_ti_26 : TI Try.prog 26 true 1 := ⟨⟨_, Try.underlying26, rfl⟩, by kernel_rfl⟩
theorem qC8_ti_3 : TI Try.prog 3 false 1 := ⟨⟨_, Try.underlying3, rfl⟩, by kernel_rfl⟩
theorem qC8_ti_37 : TI Try.prog 37 true 3 := ⟨⟨_, Try.underlying37, rfl⟩, by kernel_rfl⟩
theorem qC8_ti_46 : TI Try.prog 46 true 2 := ⟨⟨_, Try.underlying46, rfl⟩, by kernel_rfl⟩
theorem qC8_un_30 : Try.prog.underlying 30 = some (.slice 37) := Try.underlying30
theorem qC8_un_42 : Try.prog.underlying 42 = some (.slice 46) := Try.underlying42
theorem qC8_un_81 : Try.prog.underlying 81 = some (.array 64 3) := Try.underlying81
theorem qC8_zi_37 : ZI Try.prog 37 (.agg #[.int .i64 0, .int .i64 0, .bool false]) 3 24 := by unfold ZI; kernel_rfl
theorem qC8_zi_46 : ZI Try.prog 46 (.agg #[.int .i64 0, .int .i64 0]) 2 16 := by unfold ZI; kernel_rfl
set_option maxHeartbeats 4000000 in
set_option maxRecDepth 100000 in
theorem impl_MatchRegion_fn (l : List Int) (hl : l.length ≤ 4194304) : Fn Try.prog 26 [.agg [(.slv l.length 1 (isl l) : A)]] [.row 37 3 (matR l).length (dsl (matR l))] := by
 have hjo := joined_ok (regSet l)
 obtain ⟨hjl, hjr⟩ := hjo
 refine fn_intro (N := 36) Try.func26 rfl (by kernel_rfl) rfl (Nat.le_of_ble_eq_true rfl) [1, 6, 9, 11, 13, 14, 23, 25, 26, 31, 32, 35] (ret1 rfl) (fun W => ?_)
 show Wp _ _ _ [kV 0 (V.b (.agg [(.slv l.length 1 (isl l) : A)])), kF 1, kF 6, kF 9, kF 11, kF 13, kF 14, kF 23, kF 25, kF 26, kF 31, kF 32, kF 35]
 refine sq (rg ?_)
 refine z ?_ (h := fun ν => acts_box (h := 1) ν xt (by exact ob1 rfl))
 refine zk (nl (sq (sq (rg ?_))))
 refine z ?_ (h := fun ν => acts_load_owns (xs := [(.slv l.length 1 (isl l) : A)]) ν qC8_ti_26 rfl (by decide) rfl)
 refine z ?_ (h := fun ν => acts_call1 ν (impl_RegionOk_fn l (by first | omega | assumption | exact regSet_lt (by assumption) | (have := hjr k (by omega); omega) | (have := matT_len (joined (regSet l)) k; omega))) (ac (ArgV.regv _ _ 1 _) an) rv)
 refine z ?_ (h := fun ν => acts_un ν vt (r_not rfl))
 refine nl ?_
 refine wi (b := (!(regOk l))) (fun c1 => ?_) (fun c1 => ?_)
 ·skip
  have c2 : (regOk l) = false := by first | (rw [← Bool.not_eq_true']; exact c1) | simpa using c1
  refine sq (rg (zk (nl (wp_ret' ?_))))
  exact VRes.tmp _ _ _ (by exact rfl) (bnil_doms (L := (matR l)) (by first | exact (matR_no (by assumption)).symm | exact matR_no (by assumption)))
 ·skip
  have c3 : (regOk l) = true := by first | (rw [← Bool.not_eq_false']; exact c1) | simpa using c1
  refine sk (sq (rg ?_))
  refine z ?_ (h := fun ν => b0D (h := 11) ν qC8_un_30 qC8_zi_37)
  refine za (nl (sq (sq (rg ?_))))
  refine z ?_ (h := fun ν => acts_load_owns (xs := [(.slv l.length 1 (isl l) : A)]) ν qC8_ti_26 rfl (by decide) rfl)
  refine z ?_ (h := fun ν => acts_call1 ν (impl_Region__set_fn l (by first | omega | assumption | exact regSet_lt (by assumption) | (have := hjr k (by omega); omega) | (have := matT_len (joined (regSet l)) k; omega))) (ac (ArgV.regv _ _ 1 _) an) rv)
  refine z ?_ (h := fun ν => acts_call1 ν (impl_set__matching_fn (regSet l) (by first | omega | assumption | exact regSet_lt (by assumption) | (have := hjr k (by omega); omega) | (have := matT_len (joined (regSet l)) k; omega))) (ac (ArgV.v vt) an) (ResV.agg (isl (joined (regSet l)))))
  refine z ?_ (h := fun ν => mc ν)
  refine nl (bkk ?_)
  refine wp_loop' (fun (k : Nat) => k ≤ 64) (fun (k : Nat) => [kS 3 11 0 ((matT (joined (regSet l)) k).length), kV 14 (V.av (isl (joined (regSet l)))), kI 15 ((k : Nat) : Int), kO 11 37 3 true (pl (dsl (matT (joined (regSet l)) k))), kF 1, kF 6, kF 9, kF 13, kF 14, kF 23, kF 25, kF 26, kF 31, kF 32, kF 35]) (fun (k : Nat) => 64 - k) ((0 : Nat)) (by exact (Nat.zero_le _ : 0 ≤ _)) (wkf id (wE (e := (vsl (by first | rfl | (simp; done) | (simp; omega) | omega | (exact congrArg List.length (by first | rfl | exact matT_yes (by omega) | exact matT_no (by omega) | omega))) rfl)) <| wA <| wE (e := (vint (by first | rfl | exact matT_yes (by omega) | exact matT_no (by omega) | omega))) <| wO (e := renob_eq (fun h => h) (congrArg dsl (by first | rfl | exact matT_yes (by omega) | exact matT_no (by omega) | omega))) <| by (iterate 11 refine wF ?_); exact wN)) ?_
  rintro k inv4
  replace inv4 : k ≤ 64 := inv4
  have inv := inv4
  have hml := matT_len (joined (regSet l)) k
  refine sq (rg ?_)
  refine z ?_ (h := fun ν => acts_bin ν vt vc (r_lss rfl))
  refine nl (sq ?_)
  refine wi (fun c5 => ?_) (fun c5 => ?_)
  ·skip
   have c5P := of_decide_eq_true c5
   refine sk (sq (bkk (sq (rg (zm ?_)))))
   refine z ?_ (h := fun ν => acts_index_av (d := 18) (x := 14) (k := k) (vs := isl (joined (regSet l))) (v := .int .i64 (gI (joined (regSet l)) k)) ν qC8_un_81 qC8_ti_3 vt rfl (by first | omega | assumption | exact regSet_lt (by assumption) | (have := hjr k (by omega); omega) | (have := matT_len (joined (regSet l)) k; omega)) (isl_get (l := (joined (regSet l))) (k := k) (by first | omega | assumption | exact regSet_lt (by assumption) | (have := hjr k (by omega); omega) | (have := matT_len (joined (regSet l)) k; omega))))
   refine za (za (nl (sq (rg (zm ?_)))))
   refine z ?_ (h := fun ν => acts_bin ν vt vc (r_geq rfl))
   refine nl ?_
   refine wi (fun c6 => ?_) (fun c6 => ?_)
   ·skip
    have c6P := of_decide_eq_true c6
    refine sq (rg (zm ?_))
    refine z ?_ (h := fun ν => acts_call1 ν (impl_cellAt_fn k (by first | omega | assumption | exact regSet_lt (by assumption) | (have := hjr k (by omega); omega) | (have := matT_len (joined (regSet l)) k; omega))) (ac (ArgV.v vt) an) (ResV.agg [vI ((cN k).x), vI ((cN k).y)]))
    refine zm ?_
    refine z ?_ (h := fun ν => acts_call1 ν (impl_cellAt_fn ((gI (joined (regSet l)) k).toNat) (by first | omega | assumption | exact regSet_lt (by assumption) | (have := hjr k (by omega); omega) | (have := matT_len (joined (regSet l)) k; omega))) (ac (argv_int (b := (((gI (joined (regSet l)) k).toNat : Nat) : Int)) (by omega) (ArgV.v vt)) an) (ResV.agg [vI ((cN ((gI (joined (regSet l)) k).toNat)).x), vI ((cN ((gI (joined (regSet l)) k).toNat)).y)]))
    refine z ?_ (h := fun ν => acts_call2 ν (impl_DominoOver_fn (cN k) (cN ((gI (joined (regSet l)) k).toNat)) ) (ac (ArgV.va va) (ac (ArgV.va va) an)) (ResV.agg [vI ((dOv (cN k) (cN ((gI (joined (regSet l)) k).toNat))).x), vI ((dOv (cN k) (cN ((gI (joined (regSet l)) k).toNat))).y), .bool ((dOv (cN k) (cN ((gI (joined (regSet l)) k).toNat))).d)]) rv)
    refine zm ?_
    refine z ?_ (h := fun ν => acts_extract ν (by exact rfl))
    refine z ?_ (h := fun ν => acts_extract ν (by exact rfl))
    refine z ?_ (h := fun ν => acts_alloc' (h := 6) (cap := 1) (s := 3) (cells := [aI 0, aI 0, aB false]) ν qC8_zi_37 rfl rfl (by decide))
    refine z ?_ (h := fun _ => acts_store (cells := [aI ((dOv (cN k) (cN ((gI (joined (regSet l)) k).toNat))).x), aI ((dOv (cN k) (cN ((gI (joined (regSet l)) k).toNat))).y), aB ((dOv (cN k) (cN ((gI (joined (regSet l)) k).toNat))).d)]) qC8_ti_37 xt (by exact rfl) (by decide) (by exact ob1 rfl) (by exact Nat.le_of_ble_eq_true rfl) (by exact rfl))
    refine za (nl (rg (zm ?_)))
    refine z ?_ (h := fun ν => acts_load_owns (xs := [vI ((dOv (cN k) (cN ((gI (joined (regSet l)) k).toNat))).x), vI ((dOv (cN k) (cN ((gI (joined (regSet l)) k).toNat))).y), .bool ((dOv (cN k) (cN ((gI (joined (regSet l)) k).toNat))).d)].map A.val) ν qC8_ti_37 rfl (by decide) rfl)
    refine z ?_ (h := fun ν => acts_buildSlice' (h := 31) (xs := dsl ([(dOv (cN k) (cN ((gI (joined (regSet l)) k).toNat)))] : List Dom)) ν qC8_un_30 qC8_zi_37 (.cons va OpVs.nil) (by decide) (by decide) (by kernel_rfl) rfl)
    refine z ?_ (h := fun ν => aD_ (h2 := 32) (L3 := ((matT (joined (regSet l)) k) ++ [(dOv (cN k) (cN ((gI (joined (regSet l)) k).toNat)))])) ν qC8_un_30 qC8_zi_37 (by first | exact rfl | (simp; done) | (simp; omega) | omega) rfl (by first | exact rfl | (simp; done) | (simp; omega) | omega) (by first | omega | (simp; omega) | (simp at *; omega)))
    refine za (nl (rg ?_))
    refine z ?_ (h := fun ν => acts_bin ν vt vc (rA (by first | omega | assumption | exact regSet_lt (by assumption) | (have := hjr k (by omega); omega) | (have := matT_len (joined (regSet l)) k; omega)) (by first | omega | assumption | exact regSet_lt (by assumption) | (have := hjr k (by omega); omega) | (have := matT_len (joined (regSet l)) k; omega))))
    refine zm (nl ?_)
    exact loop_back ((k + 1)) (by show _ ≤ _; omega) (by show 64 - (k + 1) < 64 - k; omega) (wkf (subst1 [(11, 32)]) (wE (e := (vsl (by first | rfl | (simp; done) | (simp; omega) | omega | (exact congrArg List.length (by first | rfl | exact matT_yes (by omega) | exact matT_no (by omega) | omega))) rfl)) <| wA <| wE (e := (vint (by first | rfl | exact matT_yes (by omega) | exact matT_no (by omega) | omega))) <| wO (e := renob_eq (fun h => h) (congrArg dsl (by first | rfl | exact matT_yes (by omega) | exact matT_no (by omega) | omega))) <| by (iterate 11 refine wF ?_); exact wN))
   ·skip
    have c6P := of_decide_eq_false c6
    refine sk (rg ?_)
    refine z ?_ (h := fun ν => acts_bin ν vt vc (rA (by first | omega | assumption | exact regSet_lt (by assumption) | (have := hjr k (by omega); omega) | (have := matT_len (joined (regSet l)) k; omega)) (by first | omega | assumption | exact regSet_lt (by assumption) | (have := hjr k (by omega); omega) | (have := matT_len (joined (regSet l)) k; omega))))
    refine zm (nl ?_)
    exact loop_back ((k + 1)) (by show _ ≤ _; omega) (by show 64 - (k + 1) < 64 - k; omega) (wkf id (wE (e := (vsl (by first | rfl | (simp; done) | (simp; omega) | omega | (exact congrArg List.length (by first | rfl | exact matT_yes (by omega) | exact matT_no (by omega) | omega))) rfl)) <| wA <| wE (e := (vint (by first | rfl | exact matT_yes (by omega) | exact matT_no (by omega) | omega))) <| wO (e := renob_eq (fun h => h) (congrArg dsl (by first | rfl | exact matT_yes (by omega) | exact matT_no (by omega) | omega))) <| by (iterate 11 refine wF ?_); exact wN))
  ·skip
   have c5P := of_decide_eq_false c5
   refine wp_exit' (sq (rg (zm ?_)))
   refine z ?_ (h := fun ν => acts_call1 ν (impl_SortDominoes_fn (matT (joined (regSet l)) k) (by first | omega | assumption | exact regSet_lt (by assumption) | (have := hjr k (by omega); omega) | (have := matT_len (joined (regSet l)) k; omega))) (ac (argv_own (by first | exact dsl_len _ | (simp [isl_len, bsl_len, dsl_len, csl_len]; done) | (simp [isl_len, bsl_len, dsl_len, csl_len]; omega))) an) (ResV.row _ _ _ _ 35))
   refine za (nl (wp_ret' ?_))
   exact VRes.tmp _ _ _ (by exact rfl) (brow_doms (h := 35) (L := (sortD (matT (joined (regSet l)) k))) (by kernel_rfl) (by (have e : k = 64 := by omega); subst e; unfold matR; rw [if_pos (by assumption)]) (by first | rfl | (simp; done) | (simp; omega)))

set_option maxHeartbeats 4000000 in
set_option maxRecDepth 100000 in
theorem impl_MostDominoes_fn (l : List Int) (hl : l.length ≤ 4194304) : Fn Try.prog 27 [.agg [(.slv l.length 1 (isl l) : A)]] [.val (.int .i64 (((matR l).length : Nat) : Int))] := by
 refine fn_intro (N := 6) Try.func27 rfl (by kernel_rfl) rfl (Nat.le_of_ble_eq_true rfl) [1, 4, 5] (ret1 rfl) (fun W => ?_)
 show Wp _ _ _ [kV 0 (V.b (.agg [(.slv l.length 1 (isl l) : A)])), kF 1, kF 4, kF 5]
 refine sq (rg ?_)
 refine z ?_ (h := fun ν => acts_box (h := 1) ν xt (by exact ob1 rfl))
 refine zk (nl (sq (rg ?_)))
 refine z ?_ (h := fun ν => acts_load_owns (xs := [(.slv l.length 1 (isl l) : A)]) ν qC8_ti_26 rfl (by decide) rfl)
 refine z ?_ (h := fun ν => acts_call1 ν (impl_MatchRegion_fn l (by omega)) (ac (ArgV.regv _ _ 1 _) an) (ResV.row _ _ _ _ 4))
 refine z ?_ (h := fun ν => lnS ν qC8_un_30)
 refine za (nl (wp_ret' ?_))
 exact VRes.tmp _ _ _ (by exact rfl) (BRes.val _)

set_option maxHeartbeats 4000000 in
set_option maxRecDepth 100000 in
theorem impl_set__countBlack_fn (s : Nat) (hs : s < 18446744073709551616) : Fn Try.prog 80 [.a (.val (.int .u64 ((s : Nat) : Int)))] [.val (.int .i64 ((((setCells s).filter black).length : Nat) : Int))] := by
 have h64 := setCells_len s
 refine fn_intro (N := 19) Try.func80 rfl (by kernel_rfl) rfl (Nat.le_of_ble_eq_true rfl) [5, 7, 8, 14] (ret1 rfl) (fun W => ?_)
 show Wp _ _ _ [kU 0 ((s : Nat) : Int), kF 5, kF 7, kF 8, kF 14]
 refine sq (rg (zk (nl (sq (rg (zk (nl (sq (sq (rg (zm ?_)))))))))))
 refine z ?_ (h := fun ν => acts_call1 ν (impl_set__cells_fn s (by first | omega | assumption | (have := cfilt_len black (setCells s) k; omega))) (ac (ArgV.v vt) an) (ResV.row _ _ _ _ 7))
 refine z ?_ (h := fun ν => lnS ν qC8_un_42)
 refine z ?_ (h := fun ν => mc ν)
 refine nl (bkk ?_)
 refine wp_loop' (fun (k : Nat) => k ≤ (setCells s).length) (fun (k : Nat) => [kI 3 (((((setCells s).take k).filter black).length : Nat) : Int), kS 7 7 0 ((setCells s).length), kI 8 (((setCells s).length : Nat) : Int), kI 9 ((k : Nat) : Int), kO 7 46 2 true (pl (csl (setCells s))), kF 5, kF 8, kF 14]) (fun (k : Nat) => (setCells s).length - k) ((0 : Nat)) (by exact (Nat.zero_le _ : 0 ≤ _)) (wkf id (wE (e := (vint (by first | rfl | (rw [cfilt_yes (by omega) (by assumption)]; simp; done) | (rw [cfilt_no (by omega) (by assumption)]; done) | omega))) <| wS <| wS <| wE (e := (vint (by first | rfl | (rw [cfilt_yes (by omega) (by assumption)]; simp; done) | (rw [cfilt_no (by omega) (by assumption)]; done) | omega))) <| wP <| wF <| wF <| wF <| wN)) ?_
 rintro k inv1
 replace inv1 : k ≤ (setCells s).length := inv1
 have inv := inv1
 have hck := cfilt_len black (setCells s) k
 refine sq (rg ?_)
 refine z ?_ (h := fun ν => acts_bin ν vt vt (r_lss rfl))
 refine nl (sq ?_)
 refine wi (fun c2 => ?_) (fun c2 => ?_)
 ·skip
  have c2P := of_decide_eq_true c2
  refine sk (sq (bkk (sq (rg ?_))))
  refine z ?_ (h := fun ν => ix0 ν qC8_un_42 qC8_sz_46 vt (hlt := (by first | omega | assumption | (have := cfilt_len black (setCells s) k; omega))))
  refine z ?_ (h := fun ν => lC ν qC8_ti_46 (by first | omega | assumption | (have := cfilt_len black (setCells s) k; omega)))
  refine z ?_ (h := fun ν => acts_alloc' (h := 5) (cap := 1) (s := 2) (cells := [aI 0, aI 0]) ν qC8_zi_46 rfl rfl (by decide))
  refine z ?_ (h := fun _ => acts_store (cells := [aI ((gC (setCells s) k).x), aI ((gC (setCells s) k).y)]) qC8_ti_46 xt (by exact rfl) (by decide) (by exact ob1 rfl) (by exact Nat.le_of_ble_eq_true rfl) (by exact rfl))
  refine nl (sq (rg ?_))
  refine z ?_ (h := fun ν => acts_load_owns (xs := [vI ((gC (setCells s) k).x), vI ((gC (setCells s) k).y)].map A.val) ν qC8_ti_46 rfl (by decide) rfl)
  refine z ?_ (h := fun ν => acts_call1 ν (impl_IsBlack_fn (gC (setCells s) k) ) (ac (ArgV.va va) an) rv)
  refine nl ?_
  refine wi (b := (black (gC (setCells s) k))) (fun c3 => ?_) (fun c3 => ?_)
  ·skip
   refine rg (zm ?_)
   refine z ?_ (h := fun ν => acts_bin ν vt vc (rA (by first | omega | assumption | (have := cfilt_len black (setCells s) k; omega)) (by first | omega | assumption | (have := cfilt_len black (setCells s) k; omega))))
   refine za (nl (rg ?_))
   refine z ?_ (h := fun ν => acts_bin ν vt vc (rA (by first | omega | assumption | (have := cfilt_len black (setCells s) k; omega)) (by first | omega | assumption | (have := cfilt_len black (setCells s) k; omega))))
   refine zm (nl ?_)
   exact loop_back ((k + 1)) (by show _ ≤ _; omega) (by show (setCells s).length - (k + 1) < (setCells s).length - k; omega) (wkf id (wE (e := (vint (by first | rfl | (rw [cfilt_yes (by omega) (by assumption)]; simp; done) | (rw [cfilt_no (by omega) (by assumption)]; done) | omega))) <| wS <| wS <| wE (e := (vint (by first | rfl | (rw [cfilt_yes (by omega) (by assumption)]; simp; done) | (rw [cfilt_no (by omega) (by assumption)]; done) | omega))) <| wP <| wF <| wF <| wF <| wN))
  ·skip
   refine sk (rg ?_)
   refine z ?_ (h := fun ν => acts_bin ν vt vc (rA (by first | omega | assumption | (have := cfilt_len black (setCells s) k; omega)) (by first | omega | assumption | (have := cfilt_len black (setCells s) k; omega))))
   refine zm (nl ?_)
   exact loop_back ((k + 1)) (by show _ ≤ _; omega) (by show (setCells s).length - (k + 1) < (setCells s).length - k; omega) (wkf id (wE (e := (vint (by first | rfl | (rw [cfilt_yes (by omega) (by assumption)]; simp; done) | (rw [cfilt_no (by omega) (by assumption)]; done) | omega))) <| wS <| wS <| wE (e := (vint (by first | rfl | (rw [cfilt_yes (by omega) (by assumption)]; simp; done) | (rw [cfilt_no (by omega) (by assumption)]; done) | omega))) <| wP <| wF <| wF <| wF <| wN))
 ·skip
  have c2P := of_decide_eq_false c2
  refine wp_exit' (sq (rg (zm (za (nl (wp_ret' ?_))))))
  exact VRes.tmp _ _ _ (by exact rfl) (bval (congrArg (Value.int .i64) (by rw [List.take_of_length_le (by omega)])))

set_option maxHeartbeats 4000000 in
set_option maxRecDepth 100000 in
theorem impl_FreeBlacks_fn (l : List Int) (hl : l.length ≤ 4194304) : Fn Try.prog 35 [.agg [(.slv l.length 1 (isl l) : A)]] [.val (.int .i64 (frees l))] := by
 have h64 := cellsOf_len l
 have hm64 := matR_len l
 have hb64 := List.length_filter_le black (cellsOf l)
 have hs64 := setCells_len (regSet l)
 have hc64 := List.length_filter_le black (setCells (regSet l))
 refine fn_intro (N := 12) Try.func35 rfl (by kernel_rfl) rfl (Nat.le_of_ble_eq_true rfl) [1, 4, 7, 8, 10] (ret1 rfl) (fun W => ?_)
 show Wp _ _ _ [kV 0 (V.b (.agg [(.slv l.length 1 (isl l) : A)])), kF 1, kF 4, kF 7, kF 8, kF 10]
 refine sq (rg ?_)
 refine z ?_ (h := fun ν => acts_box (h := 1) ν xt (by exact ob1 rfl))
 refine zk (nl (sq (sq (rg ?_))))
 refine z ?_ (h := fun ν => acts_load_owns (xs := [(.slv l.length 1 (isl l) : A)]) ν qC8_ti_26 rfl (by decide) rfl)
 refine z ?_ (h := fun ν => acts_call1 ν (impl_RegionOk_fn l (by first | omega | assumption | exact regSet_lt (by assumption))) (ac (ArgV.regv _ _ 1 _) an) rv)
 refine z ?_ (h := fun ν => acts_un ν vt (r_not rfl))
 refine nl ?_
 refine wi (b := (!(regOk l))) (fun c1 => ?_) (fun c1 => ?_)
 ·skip
  have c2 : (regOk l) = false := by first | (rw [← Bool.not_eq_true']; exact c1) | simpa using c1
  refine sq (rg (zk (nl (wp_ret' ?_))))
  exact VRes.tmp _ _ _ (by exact rfl) (bval (congrArg (Value.int .i64) (by exact (frees_no (by assumption)).symm)))
 ·skip
  have c3 : (regOk l) = true := by first | (rw [← Bool.not_eq_false']; exact c1) | simpa using c1
  refine sk (sq (wp_dr ?_))
  refine zd ?_ (h := fun ν => acts_load_owns (xs := [(.slv l.length 1 (isl l) : A)]) ν qC8_ti_26 rfl (by decide) rfl)
  refine zd ?_ (h := fun ν => acts_call1 ν (impl_Region__set_fn l (by first | omega | assumption | exact regSet_lt (by assumption))) (ac (ArgV.regv _ _ 1 _) an) rv)
  refine zd ?_ (h := fun ν => acts_call1 ν (impl_set__countBlack_fn (regSet l) (by first | omega | assumption | exact regSet_lt (by assumption))) (ac (ArgV.v vt) an) rv)
  refine zd ?_ (h := fun ν => acts_load_owns (xs := [(.slv l.length 1 (isl l) : A)]) ν qC8_ti_26 rfl (by decide) rfl)
  refine zd ?_ (h := fun ν => acts_call1 ν (impl_MostDominoes_fn l (by first | omega | assumption | exact regSet_lt (by assumption))) (ac (ArgV.regv _ _ 1 _) an) rv)
  refine zd ?_ (h := fun ν => acts_bin ν vt vt (rS (by first | omega | assumption | exact regSet_lt (by assumption)) (by first | omega | assumption | exact regSet_lt (by assumption))))
  refine zd ?_ (h := fun ν => gt ν)
  refine dw_nil (wp_ret' ?_)
  exact VRes.tmp _ _ _ (by exact rfl) (bval (congrArg (Value.int .i64) (by unfold frees cellsOf; rw [if_pos (by assumption)])))
end Cl
end Go.Proofs.Ytjgjeflidcembaa
