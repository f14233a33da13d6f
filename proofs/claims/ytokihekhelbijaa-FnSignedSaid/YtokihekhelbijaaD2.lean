/- Walks over clean states, printed by wg.py. No statement is proved here. -/
import Derived.Test.YtokihekhelbijaaC1
import Derived.Test.YtokihekhelbijaaClB
set_option linter.unusedSimpArgs false
set_option linter.unusedVariables false
namespace Go.Proofs.Ytokihekhelbijaa
namespace Cl
open Go.ChangeShapes Go.WideShapes Go.ChangeAt Go.RowKit
set_option maxRecDepth 20000

theorem cell_at {l : List Int} {k : Nat} (h : k < (cellsOf l).length) : okc (gC (cellsOf l) k).x (gC (cellsOf l) k).y = true := cellsOf_ok (gC_mem h)
noncomputable def bexc (l : List Int) : Int := 2 * (((cellsOf l).filter black).length : Int) - ((cellsOf l).length : Int)
noncomputable def balB (l : List Int) : Bool := regOk l && decide (bexc l = 0)
theorem bexc_no {l : List Int} (h : regOk l = false) : bexc l = 0 := by
  have : cellsOf l = [] := by unfold cellsOf; rw [h]; rfl
  unfold bexc; rw [this]; rfl
noncomputable def signOk (l : List Int) : Bool := balB l && inB ((cellsOf l).length : Int) 1 32
def sgE (b w : Cel) : Int := if nbr b w = true then (if b.y = w.y ∨ b.x % 2 = 0 then 1 else -1) else 0
def whiB (c : Cel) : Bool := !(black c)
noncomputable def blk (l : List Int) : List Cel := (cellsOf l).filter black
noncomputable def whi (l : List Int) : List Cel := (cellsOf l).filter whiB
noncomputable def rowS (l : List Int) (b : Cel) : List Int := (whi l).map (sgE b)
noncomputable def signM (l : List Int) : List (List Int) := (blk l).map (rowS l)
noncomputable def smR (l : List Int) : List (List Int) := if signOk l = true then signM l else []
noncomputable def rowK (l : List Int) (b : Cel) (j : Nat) : List Int := (((cellsOf l).take j).filter whiB).map (sgE b)
noncomputable def sgnK (l : List Int) (k : Nat) : List (List Int) := (((cellsOf l).take k).filter black).map (rowS l)
theorem rowK_len (l : List Int) (b : Cel) (j : Nat) : (rowK l b j).length ≤ j := by unfold rowK; rw [List.length_map]; exact cfilt_len _ _ _
theorem sgnK_len (l : List Int) (k : Nat) : (sgnK l k).length ≤ k := by unfold sgnK; rw [List.length_map]; exact cfilt_len _ _ _
theorem rowK_zero (l : List Int) (b : Cel) : rowK l b 0 = [] := by simp [rowK]
theorem sgnK_zero (l : List Int) : sgnK l 0 = [] := by simp [sgnK]
theorem rowK_end {l : List Int} {b : Cel} {j : Nat} (h : ¬ j < (cellsOf l).length) : rowK l b j = rowS l b := by unfold rowK rowS whi; rw [List.take_of_length_le (by omega)]
theorem sgnK_end {l : List Int} {j : Nat} (h : ¬ j < (cellsOf l).length) : sgnK l j = signM l := by unfold sgnK signM blk; rw [List.take_of_length_le (by omega)]
theorem rowK_b {l : List Int} {b : Cel} {j : Nat} (h : j < (cellsOf l).length) (hb : black (gC (cellsOf l) j) = true) : rowK l b (j + 1) = rowK l b j := by unfold rowK; rw [cfilt_no h (by unfold whiB; rw [hb]; rfl)]
theorem rowK_w {l : List Int} {b : Cel} {j : Nat} (h : j < (cellsOf l).length) (hb : black (gC (cellsOf l) j) = false) {x : Int} (hx : sgE b (gC (cellsOf l) j) = x) : rowK l b (j + 1) = rowK l b j ++ [x] := by
  subst hx; unfold rowK; rw [cfilt_yes h (by unfold whiB; rw [hb]; rfl), List.map_append]; rfl
theorem sgnK_w {l : List Int} {j : Nat} (h : j < (cellsOf l).length) (hb : black (gC (cellsOf l) j) = false) : sgnK l (j + 1) = sgnK l j := by unfold sgnK; rw [cfilt_no h hb]
theorem sgnK_b {l : List Int} {j : Nat} (h : j < (cellsOf l).length) (hb : black (gC (cellsOf l) j) = true) : sgnK l (j + 1) = sgnK l j ++ [rowS l (gC (cellsOf l) j)] := by
  unfold sgnK; rw [cfilt_yes h hb, List.map_append]; rfl
theorem sgE_n {a b : Cel} (h : nbr a b = false) : sgE a b = 0 := by unfold sgE; rw [h]; rfl
theorem sgE_p {a b : Cel} (h : nbr a b = true) (h2 : a.y = b.y ∨ a.x % 2 = 0) : sgE a b = 1 := by unfold sgE; rw [if_pos h, if_pos h2]
theorem sgE_m {a b : Cel} (h : nbr a b = true) (h2 : ¬ (a.y = b.y ∨ a.x % 2 = 0)) : sgE a b = -1 := by unfold sgE; rw [if_pos h, if_neg h2]
theorem nbr_xy {a b : Cel} (h : nbr a b = true) : (0 ≤ a.x ∧ (a.x = b.x ↔ ¬ a.y = b.y)) := by
  unfold nbr at h
  rw [Bool.and_eq_true, Bool.and_eq_true, decide_eq_true_eq] at h
  obtain ⟨⟨h1, _⟩, h3⟩ := h
  have hq := okc_true.1 h1
  refine ⟨by omega, ?_⟩
  rcases iabs_or (a.x - b.x) with q1 | q1 <;> rcases iabs_or (a.y - b.y) with q2 | q2 <;> omega
theorem sgE_bd (a b : Cel) : -1 ≤ sgE a b ∧ sgE a b ≤ 1 := by unfold sgE; split <;> (try split) <;> omega
theorem blk_len (l : List Int) : (blk l).length ≤ 64 := Nat.le_trans (List.length_filter_le _ _) (cellsOf_len l)
theorem whi_len (l : List Int) : (whi l).length ≤ 64 := Nat.le_trans (List.length_filter_le _ _) (cellsOf_len l)
theorem smR_no {l : List Int} (h : signOk l = false) : smR l = [] := by unfold smR; rw [h]; rfl
theorem smR_yes {l : List Int} (h : signOk l = true) : smR l = signM l := by unfold smR; rw [if_pos h]
theorem signM_len (l : List Int) : (signM l).length ≤ 64 := by unfold signM; rw [List.length_map]; exact blk_len l
theorem smR_nl {l : List Int} (h : signOk l = false) : (smR l).length = 0 := by rw [smR_no h]; rfl
theorem so1 {l : List Int} (h : balB l = false) : signOk l = false := by unfold signOk; rw [h]; rfl
theorem so2 {l : List Int} (h : inB ((cellsOf l).length : Int) 1 32 = false) : signOk l = false := by unfold signOk; rw [h, Bool.and_false]
theorem so3 {l : List Int} (h : balB l = true) (h2 : inB ((cellsOf l).length : Int) 1 32 = true) : signOk l = true := by unfold signOk; rw [h, h2]; rfl
theorem smR_len (l : List Int) : (smR l).length ≤ 64 := by unfold smR; split; exact signM_len l; simp
theorem smR_row {l : List Int} {k : Nat} (h : k < (smR l).length) : (gLs (smR l) k).length ≤ 64 := by
  rw [gLs_eq h]
  have hm : (smR l)[k] ∈ smR l := List.getElem_mem h
  generalize (smR l)[k] = r at hm
  unfold smR at hm
  split at hm
  · obtain ⟨b, _, rfl⟩ := List.mem_map.1 hm
    unfold rowS; rw [List.length_map]; exact whi_len l
  · cases hm

theorem qD2_fo_46_0 : fieldOff Try.prog 46 0 = some 0 := by kernel_rfl
theorem qD2_fo_46_1 : fieldOff Try.prog 46 1 = some 1 := by kernel_rfl
theorem qD2_sz_46 : (Try.prog.info? 46).map (·.size) = some 2 := by kernel_rfl
theorem qD2_ti_26 : TI Try.prog 26 true 1 := ⟨⟨_, Try.underlying26, rfl⟩, by kernel_rfl⟩
theorem qD2_ti_3 : TI Try.prog 3 false 1 := ⟨⟨_, Try.underlying3, rfl⟩, by kernel_rfl⟩
theorem qD2_ti_46 : TI Try.prog 46 true 2 := ⟨⟨_, Try.underlying46, rfl⟩, by kernel_rfl⟩
theorem qD2_un_24 : Try.prog.underlying 24 = some (.slice 3) := Try.underlying24
theorem qD2_un_29 : Try.prog.underlying 29 = some (.slice 24) := Try.underlying29
theorem qD2_un_43 : Try.prog.underlying 43 = some (.slice 46) := Try.underlying43
theorem qD2_zi_24 : ZI Try.prog 24 (.slice none 0 0) 1 24 := by unfold ZI; kernel_rfl
theorem qD2_zi_3 : ZI Try.prog 3 (.int .i64 0) 1 8 := by unfold ZI; kernel_rfl
theorem qD2_zi_46 : ZI Try.prog 46 (.agg #[.int .i64 0, .int .i64 0]) 2 16 := by unfold ZI; kernel_rfl
set_option maxHeartbeats 4000000 in
set_option maxRecDepth 100000 in
theorem impl_set__countBlack_fn (s : Nat) (hs : s < 18446744073709551616) : Fn Try.prog 51 [.a (.val (.int .u64 ((s : Nat) : Int)))] [.val (.int .i64 ((((setCells s).filter black).length : Nat) : Int))] := by
 have h64 := setCells_len s
 refine fn_intro (N := 19) Try.func51 rfl (by kernel_rfl) rfl (Nat.le_of_ble_eq_true rfl) [5, 7, 8, 14] (ret1 rfl) (fun W => ?_)
 show Wp _ _ _ [kU 0 ((s : Nat) : Int), kF 5, kF 7, kF 8, kF 14]
 refine sq (rg (zk (nl (sq (rg (zk (nl (sq (sq (rg (zm ?_)))))))))))
 refine z ?_ (h := fun ν => acts_call1 ν (impl_set__cells_fn s (by first | omega | assumption | (have := cfilt_len black (setCells s) k; omega))) (ac (ArgV.v vt) an) (ResV.row _ _ _ _ 7))
 refine z ?_ (h := fun ν => lnS ν qD2_un_43)
 refine z ?_ (h := fun ν => mc ν)
 refine nl (bkk ?_)
 refine wp_loop' (fun (k : Nat) => k ≤ (setCells s).length) (fun (k : Nat) => [kI 3 (((((setCells s).take k).filter black).length : Nat) : Int), kS 7 7 0 ((setCells s).length), kI 8 (((setCells s).length : Nat) : Int), kI 9 ((k : Nat) : Int), kO 7 46 2 true (pl (csl (setCells s))), kF 5, kF 8, kF 14]) (fun (k : Nat) => (setCells s).length - k) ((0 : Nat)) (by exact (Nat.zero_le _ : 0 ≤ _)) (wkf id (wE (e := (vint (by first | rfl | (rw [cfilt_yes (by omega) (by assumption)]; simp; done) | (rw [cfilt_no (by omega) (by assumption)]; done) | omega))) <| wS <| wS <| wE (e := (vint (by first | rfl | (rw [cfilt_yes (by omega) (by assumption)]; simp; done) | (rw [cfilt_no (by omega) (by assumption)]; done) | omega))) <| wP <| wF <| wF <| wF <| wN)) ?_
 rintro k inv1
 replace inv1 : k ≤ (setCells s).length := inv1
 have inv := inv1
 have hck := cfilt_len black (setCells s) k
 refine sq (rg ?_)
 refine z ?_ (h := fun ν => acts_bin ν vt vt (r_lss rfl))
 refine nl (sq ?_)
 refine wi (fun c2 => ?_) (fun c2 => ?_)
 ·skip
  have c2P := of_decide_eq_true c2
  refine sk (sq (bkk (sq (rg ?_))))
  refine z ?_ (h := fun ν => ix0 ν qD2_un_43 qD2_sz_46 vt (hlt := (by first | omega | assumption | (have := cfilt_len black (setCells s) k; omega))))
  refine z ?_ (h := fun ν => lC ν qD2_ti_46 (by first | omega | assumption | (have := cfilt_len black (setCells s) k; omega)))
  refine z ?_ (h := fun ν => acts_alloc' (h := 5) (cap := 1) (s := 2) (cells := [aI 0, aI 0]) ν qD2_zi_46 rfl rfl (by decide))
  refine z ?_ (h := fun _ => acts_store (cells := [aI ((gC (setCells s) k).x), aI ((gC (setCells s) k).y)]) qD2_ti_46 xt (by exact rfl) (by decide) (by exact ob1 rfl) (by exact Nat.le_of_ble_eq_true rfl) (by exact rfl))
  refine nl (sq (rg ?_))
  refine z ?_ (h := fun ν => acts_load_owns (xs := [vI ((gC (setCells s) k).x), vI ((gC (setCells s) k).y)].map A.val) ν qD2_ti_46 rfl (by decide) rfl)
  refine z ?_ (h := fun ν => acts_call1 ν (impl_IsBlack_fn (gC (setCells s) k) ) (ac (ArgV.va va) an) rv)
  refine nl ?_
  refine wi (b := (black (gC (setCells s) k))) (fun c3 => ?_) (fun c3 => ?_)
  ·skip
   refine rg (zm ?_)
   refine z ?_ (h := fun ν => acts_bin ν vt vc (rA (by first | omega | assumption | (have := cfilt_len black (setCells s) k; omega)) (by first | omega | assumption | (have := cfilt_len black (setCells s) k; omega))))
   refine za (nl (rg ?_))
   refine z ?_ (h := fun ν => acts_bin ν vt vc (rA (by first | omega | assumption | (have := cfilt_len black (setCells s) k; omega)) (by first | omega | assumption | (have := cfilt_len black (setCells s) k; omega))))
   refine zm (nl ?_)
   exact loop_back ((k + 1)) (by show _ ≤ _; omega) (by show (setCells s).length - (k + 1) < (setCells s).length - k; omega) (wkf id (wE (e := (vint (by first | rfl | (rw [cfilt_yes (by omega) (by assumption)]; simp; done) | (rw [cfilt_no (by omega) (by assumption)]; done) | omega))) <| wS <| wS <| wE (e := (vint (by first | rfl | (rw [cfilt_yes (by omega) (by assumption)]; simp; done) | (rw [cfilt_no (by omega) (by assumption)]; done) | omega))) <| wP <| wF <| wF <| wF <| wN))
  ·skip
   refine sk (rg ?_)
   refine z ?_ (h := fun ν => acts_bin ν vt vc (rA (by first | omega | assumption | (have := cfilt_len black (setCells s) k; omega)) (by first | omega | assumption | (have := cfilt_len black (setCells s) k; omega))))
   refine zm (nl ?_)
   exact loop_back ((k + 1)) (by show _ ≤ _; omega) (by show (setCells s).length - (k + 1) < (setCells s).length - k; omega) (wkf id (wE (e := (vint (by first | rfl | (rw [cfilt_yes (by omega) (by assumption)]; simp; done) | (rw [cfilt_no (by omega) (by assumption)]; done) | omega))) <| wS <| wS <| wE (e := (vint (by first | rfl | (rw [cfilt_yes (by omega) (by assumption)]; simp; done) | (rw [cfilt_no (by omega) (by assumption)]; done) | omega))) <| wP <| wF <| wF <| wF <| wN))
 ·skip
  have c2P := of_decide_eq_false c2
  refine wp_exit' (sq (rg (zm (za (nl (wp_ret' ?_))))))
  exact VRes.tmp _ _ _ (by exact rfl) (bval (congrArg (Value.int .i64) (by rw [List.take_of_length_le (by omega)])))

set_option maxHeartbeats 4000000 in
set_option maxRecDepth 100000 in
theorem impl_BlackExcess_fn (l : List Int) (hl : l.length ≤ 4194304) : Fn Try.prog 41 [.agg [(.slv l.length 1 (isl l) : A)]] [.val (.int .i64 (bexc l))] := by
 have h64 := cellsOf_len l
 have hb64 := List.length_filter_le black (cellsOf l)
 have hs64 := setCells_len (regSet l)
 have hc64 := List.length_filter_le black (setCells (regSet l))
 refine fn_intro (N := 13) Try.func41 rfl (by kernel_rfl) rfl (Nat.le_of_ble_eq_true rfl) [1, 4, 7, 8, 11] (ret1 rfl) (fun W => ?_)
 show Wp _ _ _ [kV 0 (V.b (.agg [(.slv l.length 1 (isl l) : A)])), kF 1, kF 4, kF 7, kF 8, kF 11]
 refine sq (rg ?_)
 refine z ?_ (h := fun ν => acts_box (h := 1) ν xt (by exact ob1 rfl))
 refine zk (nl (sq (sq (rg ?_))))
 refine z ?_ (h := fun ν => acts_load_owns (xs := [(.slv l.length 1 (isl l) : A)]) ν qD2_ti_26 rfl (by decide) rfl)
 refine z ?_ (h := fun ν => acts_call1 ν (impl_RegionOk_fn l (by first | omega | assumption | exact regSet_lt (by assumption))) (ac (ArgV.regv _ _ 1 _) an) rv)
 refine z ?_ (h := fun ν => acts_un ν vt (r_not rfl))
 refine nl ?_
 refine wi (b := (!(regOk l))) (fun c1 => ?_) (fun c1 => ?_)
 ·skip
  have c2 : (regOk l) = false := by first | (rw [← Bool.not_eq_true']; exact c1) | simpa using c1
  refine sq (rg (zk (nl (wp_ret' ?_))))
  exact VRes.tmp _ _ _ (by exact rfl) (bval (congrArg (Value.int .i64) (by exact (bexc_no (by assumption)).symm)))
 ·skip
  have c3 : (regOk l) = true := by first | (rw [← Bool.not_eq_false']; exact c1) | simpa using c1
  refine sk (sq (wp_dr ?_))
  refine zd ?_ (h := fun ν => acts_load_owns (xs := [(.slv l.length 1 (isl l) : A)]) ν qD2_ti_26 rfl (by decide) rfl)
  refine zd ?_ (h := fun ν => acts_call1 ν (impl_Region__set_fn l (by first | omega | assumption | exact regSet_lt (by assumption))) (ac (ArgV.regv _ _ 1 _) an) rv)
  refine zd ?_ (h := fun ν => acts_call1 ν (impl_set__countBlack_fn (regSet l) (by first | omega | assumption | exact regSet_lt (by assumption))) (ac (ArgV.v vt) an) rv)
  refine zd ?_ (h := fun ν => acts_bin ν vc vt (rM (by first | omega | assumption | exact regSet_lt (by assumption)) (by first | omega | assumption | exact regSet_lt (by assumption))))
  refine zd ?_ (h := fun ν => acts_load_owns (xs := [(.slv l.length 1 (isl l) : A)]) ν qD2_ti_26 rfl (by decide) rfl)
  refine zd ?_ (h := fun ν => acts_call1 ν (impl_CountCells_fn l (by first | omega | assumption | exact regSet_lt (by assumption))) (ac (ArgV.regv _ _ 1 _) an) rv)
  refine zd ?_ (h := fun ν => acts_bin ν vt vt (rS (by first | omega | assumption | exact regSet_lt (by assumption)) (by first | omega | assumption | exact regSet_lt (by assumption))))
  refine zd ?_ (h := fun ν => gt ν)
  refine dw_nil (wp_ret' ?_)
  exact VRes.tmp _ _ _ (by exact rfl) (bval (congrArg (Value.int .i64) (by unfold bexc cellsOf; rw [if_pos (by assumption)])))

set_option maxHeartbeats 4000000 in
set_option maxRecDepth 100000 in
theorem impl_IsBalanced_fn (l : List Int) (hl : l.length ≤ 4194304) : Fn Try.prog 23 [.agg [(.slv l.length 1 (isl l) : A)]] [.val (.bool (balB l))] := by
 refine fn_intro (N := 10) Try.func23 rfl (by kernel_rfl) rfl (Nat.le_of_ble_eq_true rfl) [1, 4, 7] (ret1 rfl) (fun W => ?_)
 show Wp _ _ _ [kV 0 (V.b (.agg [(.slv l.length 1 (isl l) : A)])), kF 1, kF 4, kF 7]
 refine sq (rg ?_)
 refine z ?_ (h := fun ν => acts_box (h := 1) ν xt (by exact ob1 rfl))
 refine zk (nl (sq ?_))
 rcases Bool.eq_false_or_eq_true ((regOk l)) with c1 | c1
 ·skip
  refine rg ?_
  refine z ?_ (h := fun ν => acts_load_owns (xs := [(.slv l.length 1 (isl l) : A)]) ν qD2_ti_26 rfl (by decide) rfl)
  refine z ?_ (h := fun ν => acts_call1 ν (impl_RegionOk_fn l (by omega)) (ac (ArgV.regv _ _ 1 _) an) (resval (congrArg Value.bool c1)))
  refine zm ?_
  refine zg ?_ (h := fun ν => step_on rfl rfl (acts_load_owns (xs := [(.slv l.length 1 (isl l) : A)]) ν qD2_ti_26 rfl (by decide) rfl))
  refine zg ?_ (h := fun ν => step_on rfl rfl (acts_call1 ν (impl_BlackExcess_fn l (by omega)) (ac (ArgV.regv _ _ 1 _) an) rv))
  refine zg ?_ (h := fun ν => step_on rfl rfl (acts_bin ν vt vc (r_eql rfl)))
  refine z ?_ (h := fun ν => acts_pick_t ν vt xt)
  refine za (nl (wp_ret' ?_))
  exact VRes.tmp _ _ _ (by exact rfl) (bval (congrArg Value.bool (by first | rfl | (unfold balB; simp_all; done) | (simp_all [balB]; done))))
 ·skip
  refine rg ?_
  refine z ?_ (h := fun ν => acts_load_owns (xs := [(.slv l.length 1 (isl l) : A)]) ν qD2_ti_26 rfl (by decide) rfl)
  refine z ?_ (h := fun ν => acts_call1 ν (impl_RegionOk_fn l (by omega)) (ac (ArgV.regv _ _ 1 _) an) (resval (congrArg Value.bool c1)))
  refine zm (zo (zo (zo ?_)))
  refine z ?_ (h := fun ν => acts_pick_f ν vt xc)
  refine za (nl (wp_ret' ?_))
  exact VRes.tmp _ _ _ (by exact rfl) (bval (congrArg Value.bool (by first | rfl | (unfold balB; simp_all; done) | (simp_all [balB]; done))))

set_option maxHeartbeats 4000000 in
set_option maxRecDepth 100000 in
theorem impl_SignMatrix_fn (l : List Int) (hl : l.length ≤ 4194304) : FnO Try.prog 11 [.agg [(.sl 800 0 l.length : A)]] [(.o 800, some (.o ⟨3, 1, true, pl (isl l)⟩))] (V.b (.a (.sl 900 0 ((smR l).length)))) [(.o 800, some (.o ⟨3, 1, true, pl (isl l)⟩)), (.o 900, some (.o ⟨24, 1, true, rwI 3 (smR l)⟩))] [800] := by
 have h64 := cellsOf_len l
 refine fn_introO (N := 73) Try.func11 rfl (by kernel_rfl) rfl (Nat.le_of_ble_eq_true rfl) rfl rfl (by kernel_rfl) (by kernel_rfl) ⟨oc_pl (fun _ => rfl), trivial⟩ [1, 5, 8, 10, 14, 15, 18, 20, 21, 27, 29, 31, 32, 38, 39, 42, 46, 49, 50, 64, 65, 69, 70] (retO1 rfl) (fun W own kp im0 => ?_)
 show Wp _ _ _ [kV 0 (V.b (.agg [(.sl 800 0 l.length : A)])), kO 800 3 1 true (pl (isl l)), kF 1, kF 5, kF 8, kF 10, kF 14, kF 15, kF 18, kF 20, kF 21, kF 27, kF 29, kF 31, kF 32, kF 38, kF 39, kF 42, kF 46, kF 49, kF 50, kF 64, kF 65, kF 69, kF 70]
 refine sq (rg ?_)
 refine z ?_ (h := fun ν => acts_box (h := 1) ν xt (by exact ob1 rfl))
 refine zk (nl (sq (sq ?_)))
 rcases Bool.eq_false_or_eq_true ((balB l)) with c1 | c1
 ·skip
  refine rg ?_
  refine z ?_ (h := fun ν => acts_load_owns (xs := [(.sl 800 0 l.length : A)]) ν qD2_ti_26 rfl (by decide) rfl)
  refine z ?_ (h := fun ν => acts_call1 ν (impl_IsBalanced_fn l (by first | omega | assumption | exact cell_at (by omega) | (simp; omega))) (ac (ArgV.reg _ _ _ (s := 1) (by simp [isl]) (by first | exact List.take_of_length_le (by simp [isl]) | (simp [isl]; done))) an) (resval (congrArg Value.bool c1)))
  refine z ?_ (h := fun ν => acts_un ν vt (r_not (c := false) rfl))
  refine zm ?_
  refine zg ?_ (h := fun ν => step_on rfl rfl (acts_load_owns (xs := [(.sl 800 0 l.length : A)]) ν qD2_ti_26 rfl (by decide) rfl))
  refine zg ?_ (h := fun ν => step_on rfl rfl (acts_call1 ν (impl_CountCells_fn l (by first | omega | assumption | exact cell_at (by omega) | (simp; omega))) (ac (ArgV.reg _ _ _ (s := 1) (by simp [isl]) (by first | exact List.take_of_length_le (by simp [isl]) | (simp [isl]; done))) an) rv))
  refine zg ?_ (h := fun ν => step_on rfl rfl (acts_call1 ν (impl_within_fn (((cellsOf l).length : Nat) : Int) 1 32 ) (ac (ArgV.v vt) (ac (ArgV.v vc) (ac (ArgV.v vc) an))) rv))
  refine zg ?_ (h := fun ν => step_on rfl rfl (acts_un ν vt (r_not rfl)))
  refine z ?_ (h := fun ν => acts_pick_f ν vt xt)
  refine nl ?_
  refine wi (b := (!(inB (((cellsOf l).length : Nat) : Int) 1 32))) (fun c2 => ?_) (fun c2 => ?_)
  ·skip
   have c3 : (inB (((cellsOf l).length : Nat) : Int) 1 32) = false := by first | (rw [← Bool.not_eq_true']; exact c2) | simpa using c2
   have hno := so2 c3
   refine sq (rg (zk (nl ?_)))
   refine wp_weak (wnQ (k := 2) (h := 5) (T := 24) (T' := 3) (by kernel_rfl) (by kernel_rfl)) ?_
   refine wp_ret' ?_
   exact ⟨[kS 2 900 0 0, kO 800 3 1 true (pl (isl l)), kO 900 24 1 true (rwI 3 []), kF 1, kF 5, kF 8, kF 10, kF 14, kF 15, kF 18, kF 20, kF 21, kF 27, kF 29, kF 31, kF 32, kF 38, kF 39, kF 42, kF 46, kF 49, kF 50, kF 64, kF 65, kF 69, kF 70], wkf (subst1 [(900, 5)]) (wS <| wP <| wQI <| by (iterate 23 refine wF ?_); exact wN), ⟨by kernel_rfl, obj_eq (c := rwI 3 []) (by kernel_rfl) (congrArg (fun z => rwI 3 z) (by first | rfl | exact Eq.symm (smR_no hno) | exact Eq.symm (smR_nl hno) | (rw [smR_yes hyes, sgnK_end (j := k) (by omega)]; done))), trivial⟩, vo_eq 2 (.a (.sl 900 0 0)) (.a (.sl 900 0 ((smR l).length))) (by kernel_rfl) (congrArg (fun z : Nat => B.a (.sl 900 0 z)) (by first | rfl | exact Eq.symm (smR_no hno) | exact Eq.symm (smR_nl hno) | (rw [smR_yes hyes, sgnK_end (j := k) (by omega)]; done)))⟩
  ·skip
   have c4 : (inB (((cellsOf l).length : Nat) : Int) 1 32) = true := by first | (rw [← Bool.not_eq_false']; exact c2) | simpa using c2
   have hyes := so3 (by assumption) c4
   refine sk (sq (rg ?_))
   refine z ?_ (h := fun ν => b0Q (h := 18) (T := 3) ν qD2_un_29 qD2_zi_24)
   refine za (nl (sq (sq (rg ?_))))
   refine z ?_ (h := fun ν => acts_load_owns (xs := [(.sl 800 0 l.length : A)]) ν qD2_ti_26 rfl (by decide) rfl)
   refine z ?_ (h := fun ν => acts_call1 ν (impl_CellsOf_fn l (by first | omega | assumption | exact cell_at (by omega) | (simp; omega))) (ac (ArgV.reg _ _ _ (s := 1) (by simp [isl]) (by first | exact List.take_of_length_le (by simp [isl]) | (simp [isl]; done))) an) (ResV.row _ _ _ _ 20))
   refine z ?_ (h := fun ν => lnS ν qD2_un_43)
   refine z ?_ (h := fun ν => mc ν)
   refine nl (bkk ?_)
   refine wp_loop' (fun (k : Nat) => k ≤ (cellsOf l).length) (fun (k : Nat) => [kP 1 1 0, kS 3 18 0 ((sgnK l k).length), kS 20 20 0 ((cellsOf l).length), kI 21 (((cellsOf l).length : Nat) : Int), kI 22 ((k : Nat) : Int), kO 1 26 1 true [(.sl 800 0 l.length : A)], kO 18 24 1 true (rwI 3 (sgnK l k)), kO 20 46 2 true (pl (csl (cellsOf l))), kO 800 3 1 true (pl (isl l)), kF 5, kF 8, kF 10, kF 14, kF 15, kF 21, kF 27, kF 29, kF 31, kF 32, kF 38, kF 39, kF 42, kF 46, kF 49, kF 50, kF 64, kF 65, kF 69, kF 70]) (fun (k : Nat) => (cellsOf l).length - k) ((0 : Nat)) (by exact (Nat.zero_le _ : 0 ≤ _)) (wkf id (wS <| wE (e := (vsl (by first | rfl | (simp; done) | (simp; omega) | omega | (exact congrArg List.length (by first | rfl | omega | exact sgnK_zero _ | exact Eq.symm (sgnK_zero _) | exact sgnK_w (by omega) (by assumption) | exact Eq.symm (sgnK_w (by omega) (by assumption)) | (rw [sgnK_b (j := k) (by omega) (by assumption), ← rowK_end (j := j) (by omega)]; done)))) rfl)) <| wS <| wS <| wE (e := (vint (by first | rfl | omega | exact sgnK_zero _ | exact Eq.symm (sgnK_zero _) | exact sgnK_w (by omega) (by assumption) | exact Eq.symm (sgnK_w (by omega) (by assumption)) | (rw [sgnK_b (j := k) (by omega) (by assumption), ← rowK_end (j := j) (by omega)]; done)))) <| wX <| wQI (e := (by first | rfl | omega | exact sgnK_zero _ | exact Eq.symm (sgnK_zero _) | exact sgnK_w (by omega) (by assumption) | exact Eq.symm (sgnK_w (by omega) (by assumption)) | (rw [sgnK_b (j := k) (by omega) (by assumption), ← rowK_end (j := j) (by omega)]; done))) <| wP <| wP <| by (iterate 20 refine wF ?_); exact wN)) ?_
   rintro k inv5
   replace inv5 : k ≤ (cellsOf l).length := inv5
   have inv := inv5
   have hsk := sgnK_len l k
   refine sq (rg ?_)
   refine z ?_ (h := fun ν => acts_bin ν vt vt (r_lss rfl))
   refine nl (sq ?_)
   refine wi (fun c6 => ?_) (fun c6 => ?_)
   ·skip
    have c6P := of_decide_eq_true c6
    refine sk (sq (bkk (sq (rg ?_))))
    refine z ?_ (h := fun ν => ix0 ν qD2_un_43 qD2_sz_46 vt (hlt := (by first | omega | assumption | exact cell_at (by omega) | (simp; omega))))
    refine z ?_ (h := fun ν => lC ν qD2_ti_46 (by first | omega | assumption | exact cell_at (by omega) | (simp; omega)))
    refine z ?_ (h := fun ν => acts_alloc' (h := 5) (cap := 1) (s := 2) (cells := [aI 0, aI 0]) ν qD2_zi_46 rfl rfl (by decide))
    refine z ?_ (h := fun _ => acts_store (cells := [aI ((gC (cellsOf l) k).x), aI ((gC (cellsOf l) k).y)]) qD2_ti_46 xt (by exact rfl) (by decide) (by exact ob1 rfl) (by exact Nat.le_of_ble_eq_true rfl) (by exact rfl))
    refine nl (sq (sq (rg ?_)))
    refine z ?_ (h := fun ν => acts_load_owns (xs := [vI ((gC (cellsOf l) k).x), vI ((gC (cellsOf l) k).y)].map A.val) ν qD2_ti_46 rfl (by decide) rfl)
    refine z ?_ (h := fun ν => acts_call1 ν (impl_IsBlack_fn (gC (cellsOf l) k) ) (ac (ArgV.va va) an) rv)
    refine z ?_ (h := fun ν => acts_un ν vt (r_not rfl))
    refine nl ?_
    refine wi (b := (!(black (gC (cellsOf l) k)))) (fun c7 => ?_) (fun c7 => ?_)
    ·skip
     have c8 : (black (gC (cellsOf l) k)) = false := by first | (rw [← Bool.not_eq_true']; exact c7) | simpa using c7
     refine wp_exit' (rg ?_)
     refine z ?_ (h := fun ν => acts_bin ν vt vc (rA (by first | omega | assumption | exact cell_at (by omega) | (simp; omega)) (by first | omega | assumption | exact cell_at (by omega) | (simp; omega))))
     refine zm (nl ?_)
     exact loop_back ((k + 1)) (by show _ ≤ _; omega) (by show (cellsOf l).length - (k + 1) < (cellsOf l).length - k; omega) (wkf id (wS <| wE (e := (vsl (by first | rfl | (simp; done) | (simp; omega) | omega | (exact congrArg List.length (by first | rfl | omega | exact sgnK_zero _ | exact Eq.symm (sgnK_zero _) | exact sgnK_w (by omega) (by assumption) | exact Eq.symm (sgnK_w (by omega) (by assumption)) | (rw [sgnK_b (j := k) (by omega) (by assumption), ← rowK_end (j := j) (by omega)]; done)))) rfl)) <| wS <| wS <| wE (e := (vint (by first | rfl | omega | exact sgnK_zero _ | exact Eq.symm (sgnK_zero _) | exact sgnK_w (by omega) (by assumption) | exact Eq.symm (sgnK_w (by omega) (by assumption)) | (rw [sgnK_b (j := k) (by omega) (by assumption), ← rowK_end (j := j) (by omega)]; done)))) <| wX <| wQI (e := (by first | rfl | omega | exact sgnK_zero _ | exact Eq.symm (sgnK_zero _) | exact sgnK_w (by omega) (by assumption) | exact Eq.symm (sgnK_w (by omega) (by assumption)) | (rw [sgnK_b (j := k) (by omega) (by assumption), ← rowK_end (j := j) (by omega)]; done))) <| wP <| wP <| by (iterate 20 refine wF ?_); exact wN))
    ·skip
     have c9 : (black (gC (cellsOf l) k)) = true := by first | (rw [← Bool.not_eq_false']; exact c7) | simpa using c7
     refine sk (sq (rg ?_))
     refine z ?_ (h := fun ν => b0I (h := 29) ν qD2_un_24 qD2_zi_3)
     refine za (nl (sq (sq (rg ?_))))
     refine z ?_ (h := fun ν => acts_load_owns (xs := [(.sl 800 0 l.length : A)]) ν qD2_ti_26 rfl (by decide) rfl)
     refine z ?_ (h := fun ν => acts_call1 ν (impl_CellsOf_fn l (by first | omega | assumption | exact cell_at (by omega) | (simp; omega))) (ac (ArgV.reg _ _ _ (s := 1) (by simp [isl]) (by first | exact List.take_of_length_le (by simp [isl]) | (simp [isl]; done))) an) (ResV.row _ _ _ _ 31))
     refine z ?_ (h := fun ν => lnS ν qD2_un_43)
     refine z ?_ (h := fun ν => mc ν)
     refine nl (bkk ?_)
     refine wp_loop' (fun (j : Nat) => j ≤ (cellsOf l).length) (fun (j : Nat) => [kP 1 1 0, kS 3 18 0 ((sgnK l k).length), kP 5 5 0, kS 6 29 0 ((rowK l (gC (cellsOf l) k) j).length), kS 20 20 0 ((cellsOf l).length), kI 21 (((cellsOf l).length : Nat) : Int), kI 22 ((k : Nat) : Int), kS 31 31 0 ((cellsOf l).length), kI 32 (((cellsOf l).length : Nat) : Int), kI 33 ((j : Nat) : Int), kO 1 26 1 true [(.sl 800 0 l.length : A)], kO 5 46 2 true [aI ((gC (cellsOf l) k).x), aI ((gC (cellsOf l) k).y)], kO 18 24 1 true (rwI 3 (sgnK l k)), kO 20 46 2 true (pl (csl (cellsOf l))), kO 29 3 1 true (pl (isl (rowK l (gC (cellsOf l) k) j))), kO 31 46 2 true (pl (csl (cellsOf l))), kO 800 3 1 true (pl (isl l)), kF 8, kF 10, kF 14, kF 15, kF 21, kF 27, kF 32, kF 38, kF 39, kF 42, kF 46, kF 49, kF 50, kF 64, kF 65, kF 69, kF 70]) (fun (j : Nat) => (cellsOf l).length - j) ((0 : Nat)) (by exact (Nat.zero_le _ : 0 ≤ _)) (wkf id (wS <| wS <| wS <| wE (e := (vsl (by first | rfl | (simp; done) | (simp; omega) | omega | (exact congrArg List.length (by first | rfl | omega | exact rowK_zero _ _ | exact Eq.symm (rowK_zero _ _) | (rw [rowK_b (j := j) (by omega) (by assumption)]; done) | (rw [rowK_w (j := j) (by omega) (by assumption) (sgE_n (by assumption))]; done) | (have hxy := nbr_xy (a := (gC (cellsOf l) k)) (b := (gC (cellsOf l) j)) (by assumption); first | (rw [rowK_w (j := j) (by omega) (by assumption) (sgE_p (by assumption) (by omega))]; done) | (rw [rowK_w (j := j) (by omega) (by assumption) (sgE_m (by assumption) (by omega))]; done))))) rfl)) <| wS <| wS <| wS <| wS <| wS <| wE (e := (vint (by first | rfl | omega | exact rowK_zero _ _ | exact Eq.symm (rowK_zero _ _) | (rw [rowK_b (j := j) (by omega) (by assumption)]; done) | (rw [rowK_w (j := j) (by omega) (by assumption) (sgE_n (by assumption))]; done) | (have hxy := nbr_xy (a := (gC (cellsOf l) k)) (b := (gC (cellsOf l) j)) (by assumption); first | (rw [rowK_w (j := j) (by omega) (by assumption) (sgE_p (by assumption) (by omega))]; done) | (rw [rowK_w (j := j) (by omega) (by assumption) (sgE_m (by assumption) (by omega))]; done))))) <| wX <| wX <| wQI <| wP <| wO (e := renob_eq (fun h => h) (congrArg isl (by first | rfl | omega | exact rowK_zero _ _ | exact Eq.symm (rowK_zero _ _) | (rw [rowK_b (j := j) (by omega) (by assumption)]; done) | (rw [rowK_w (j := j) (by omega) (by assumption) (sgE_n (by assumption))]; done) | (have hxy := nbr_xy (a := (gC (cellsOf l) k)) (b := (gC (cellsOf l) j)) (by assumption); first | (rw [rowK_w (j := j) (by omega) (by assumption) (sgE_p (by assumption) (by omega))]; done) | (rw [rowK_w (j := j) (by omega) (by assumption) (sgE_m (by assumption) (by omega))]; done))))) <| wP <| wP <| by (iterate 17 refine wF ?_); exact wN)) ?_
     rintro j inv10
     replace inv10 : j ≤ (cellsOf l).length := inv10
     have inv := inv10
     have hrk := rowK_len l (gC (cellsOf l) k) j
     refine sq (rg ?_)
     refine z ?_ (h := fun ν => acts_bin ν vt vt (r_lss rfl))
     refine nl (sq ?_)
     refine wi (fun c11 => ?_) (fun c11 => ?_)
     ·skip
      have c11P := of_decide_eq_true c11
      refine sk (sq (bkk (sq (rg ?_))))
      refine z ?_ (h := fun ν => ix0 ν qD2_un_43 qD2_sz_46 vt (hlt := (by first | omega | assumption | exact cell_at (by omega) | (simp; omega))))
      refine z ?_ (h := fun ν => lC ν qD2_ti_46 (by first | omega | assumption | exact cell_at (by omega) | (simp; omega)))
      refine z ?_ (h := fun ν => acts_alloc' (h := 8) (cap := 1) (s := 2) (cells := [aI 0, aI 0]) ν qD2_zi_46 rfl rfl (by decide))
      refine z ?_ (h := fun _ => acts_store (cells := [aI ((gC (cellsOf l) j).x), aI ((gC (cellsOf l) j).y)]) qD2_ti_46 xt (by exact rfl) (by decide) (by exact ob1 rfl) (by exact Nat.le_of_ble_eq_true rfl) (by exact rfl))
      refine nl (bkk (sq (rg ?_)))
      refine z ?_ (h := fun ν => acts_load_owns (xs := [vI ((gC (cellsOf l) j).x), vI ((gC (cellsOf l) j).y)].map A.val) ν qD2_ti_46 rfl (by decide) rfl)
      refine z ?_ (h := fun ν => acts_call1 ν (impl_IsBlack_fn (gC (cellsOf l) j) ) (ac (ArgV.va va) an) rv)
      refine za (nl ?_)
      refine wi (b := (black (gC (cellsOf l) j))) (fun c12 => ?_) (fun c12 => ?_)
      ·skip
       refine sk (rg ?_)
       refine z ?_ (h := fun ν => acts_bin ν vt vc (rA (by first | omega | assumption | exact cell_at (by omega) | (simp; omega)) (by first | omega | assumption | exact cell_at (by omega) | (simp; omega))))
       refine zm (nl ?_)
       exact loop_back ((j + 1)) (by show _ ≤ _; omega) (by show (cellsOf l).length - (j + 1) < (cellsOf l).length - j; omega) (wkf id (wS <| wS <| wS <| wE (e := (vsl (by first | rfl | (simp; done) | (simp; omega) | omega | (exact congrArg List.length (by first | rfl | omega | exact rowK_zero _ _ | exact Eq.symm (rowK_zero _ _) | (rw [rowK_b (j := j) (by omega) (by assumption)]; done) | (rw [rowK_w (j := j) (by omega) (by assumption) (sgE_n (by assumption))]; done) | (have hxy := nbr_xy (a := (gC (cellsOf l) k)) (b := (gC (cellsOf l) j)) (by assumption); first | (rw [rowK_w (j := j) (by omega) (by assumption) (sgE_p (by assumption) (by omega))]; done) | (rw [rowK_w (j := j) (by omega) (by assumption) (sgE_m (by assumption) (by omega))]; done))))) rfl)) <| wS <| wS <| wS <| wS <| wS <| wE (e := (vint (by first | rfl | omega | exact rowK_zero _ _ | exact Eq.symm (rowK_zero _ _) | (rw [rowK_b (j := j) (by omega) (by assumption)]; done) | (rw [rowK_w (j := j) (by omega) (by assumption) (sgE_n (by assumption))]; done) | (have hxy := nbr_xy (a := (gC (cellsOf l) k)) (b := (gC (cellsOf l) j)) (by assumption); first | (rw [rowK_w (j := j) (by omega) (by assumption) (sgE_p (by assumption) (by omega))]; done) | (rw [rowK_w (j := j) (by omega) (by assumption) (sgE_m (by assumption) (by omega))]; done))))) <| wX <| wX <| wQI <| wP <| wO (e := renob_eq (fun h => h) (congrArg isl (by first | rfl | omega | exact rowK_zero _ _ | exact Eq.symm (rowK_zero _ _) | (rw [rowK_b (j := j) (by omega) (by assumption)]; done) | (rw [rowK_w (j := j) (by omega) (by assumption) (sgE_n (by assumption))]; done) | (have hxy := nbr_xy (a := (gC (cellsOf l) k)) (b := (gC (cellsOf l) j)) (by assumption); first | (rw [rowK_w (j := j) (by omega) (by assumption) (sgE_p (by assumption) (by omega))]; done) | (rw [rowK_w (j := j) (by omega) (by assumption) (sgE_m (by assumption) (by omega))]; done))))) <| wP <| wP <| by (iterate 17 refine wF ?_); exact wN))
      ·skip
       refine sq (rg ?_)
       refine z ?_ (h := fun ν => acts_load_owns (xs := [vI ((gC (cellsOf l) k).x), vI ((gC (cellsOf l) k).y)].map A.val) ν qD2_ti_46 rfl (by decide) rfl)
       refine z ?_ (h := fun ν => acts_load_owns (xs := [vI ((gC (cellsOf l) j).x), vI ((gC (cellsOf l) j).y)].map A.val) ν qD2_ti_46 rfl (by decide) rfl)
       refine z ?_ (h := fun ν => acts_call1 ν (impl_AreNeighbors_fn (gC (cellsOf l) k) (gC (cellsOf l) j) ) (ac (ArgV.va va) (ac (ArgV.va va) an)) rv)
       refine z ?_ (h := fun ν => acts_un ν vt (r_not rfl))
       refine za (nl ?_)
       refine wi (b := (!(nbr (gC (cellsOf l) k) (gC (cellsOf l) j)))) (fun c13 => ?_) (fun c13 => ?_)
       ·skip
        have c14 : (nbr (gC (cellsOf l) k) (gC (cellsOf l) j)) = false := by first | (rw [← Bool.not_eq_true']; exact c13) | simpa using c13
        refine rg (zm ?_)
        refine z ?_ (h := fun ν => acts_buildSlice' (h := 49) (xs := isl ([0] : List Int)) ν qD2_un_24 qD2_zi_3 (.cons vc OpVs.nil) (by decide) (by decide) (by kernel_rfl) rfl)
        refine z ?_ (h := fun ν => aI_ (h2 := 50) (L3 := ((rowK l (gC (cellsOf l) k) j) ++ [0])) ν qD2_un_24 qD2_zi_3 (by first | exact rfl | (simp; done) | (simp; omega) | omega) rfl (by first | exact rfl | (simp; done) | (simp; omega) | omega) (by first | omega | (simp; omega) | (simp at *; omega)))
        refine za (nl (rg ?_))
        refine z ?_ (h := fun ν => acts_bin ν vt vc (rA (by first | omega | assumption | exact cell_at (by omega) | (simp; omega)) (by first | omega | assumption | exact cell_at (by omega) | (simp; omega))))
        refine zm (nl ?_)
        exact loop_back ((j + 1)) (by show _ ≤ _; omega) (by show (cellsOf l).length - (j + 1) < (cellsOf l).length - j; omega) (wkf (subst1 [(29, 50)]) (wS <| wS <| wS <| wE (e := (vsl (by first | rfl | (simp; done) | (simp; omega) | omega | (exact congrArg List.length (by first | rfl | omega | exact rowK_zero _ _ | exact Eq.symm (rowK_zero _ _) | (rw [rowK_b (j := j) (by omega) (by assumption)]; done) | (rw [rowK_w (j := j) (by omega) (by assumption) (sgE_n (by assumption))]; done) | (have hxy := nbr_xy (a := (gC (cellsOf l) k)) (b := (gC (cellsOf l) j)) (by assumption); first | (rw [rowK_w (j := j) (by omega) (by assumption) (sgE_p (by assumption) (by omega))]; done) | (rw [rowK_w (j := j) (by omega) (by assumption) (sgE_m (by assumption) (by omega))]; done))))) rfl)) <| wS <| wS <| wS <| wS <| wS <| wE (e := (vint (by first | rfl | omega | exact rowK_zero _ _ | exact Eq.symm (rowK_zero _ _) | (rw [rowK_b (j := j) (by omega) (by assumption)]; done) | (rw [rowK_w (j := j) (by omega) (by assumption) (sgE_n (by assumption))]; done) | (have hxy := nbr_xy (a := (gC (cellsOf l) k)) (b := (gC (cellsOf l) j)) (by assumption); first | (rw [rowK_w (j := j) (by omega) (by assumption) (sgE_p (by assumption) (by omega))]; done) | (rw [rowK_w (j := j) (by omega) (by assumption) (sgE_m (by assumption) (by omega))]; done))))) <| wX <| wX <| wQI <| wP <| wO (e := renob_eq (fun h => h) (congrArg isl (by first | rfl | omega | exact rowK_zero _ _ | exact Eq.symm (rowK_zero _ _) | (rw [rowK_b (j := j) (by omega) (by assumption)]; done) | (rw [rowK_w (j := j) (by omega) (by assumption) (sgE_n (by assumption))]; done) | (have hxy := nbr_xy (a := (gC (cellsOf l) k)) (b := (gC (cellsOf l) j)) (by assumption); first | (rw [rowK_w (j := j) (by omega) (by assumption) (sgE_p (by assumption) (by omega))]; done) | (rw [rowK_w (j := j) (by omega) (by assumption) (sgE_m (by assumption) (by omega))]; done))))) <| wP <| wP <| by (iterate 17 refine wF ?_); exact wN))
       ·skip
        have c15 : (nbr (gC (cellsOf l) k) (gC (cellsOf l) j)) = true := by first | (rw [← Bool.not_eq_false']; exact c13) | simpa using c13
        have hxy := nbr_xy c15
        refine sq ?_
        rcases Bool.eq_false_or_eq_true (decide ((gC (cellsOf l) k).y = (gC (cellsOf l) j).y)) with c16 | c16
        ·skip
         have c16P := of_decide_eq_true c16
         refine rg ?_
         refine z ?_ (h := fun ν => acts_field (off' := 1) ν qD2_fo_46_1 rfl)
         refine z ?_ (h := fun ν => acts_load_own (x := .val (.int .i64 ((gC (cellsOf l) k).y))) ν qD2_ti_3 (by exact rfl))
         refine z ?_ (h := fun ν => acts_field (off' := 1) ν qD2_fo_46_1 rfl)
         refine z ?_ (h := fun ν => acts_load_own (x := .val (.int .i64 ((gC (cellsOf l) j).y))) ν qD2_ti_3 (by exact rfl))
         refine z ?_ (h := fun ν => acts_bin ν vt vt (r_eql (c := true) c16))
         refine zm (zo (zo (zo (zo ?_))))
         refine z ?_ (h := fun ν => acts_pick_t ν vt xc)
         refine za (nl (wt (rg (zm ?_))))
         refine z ?_ (h := fun ν => acts_buildSlice' (h := 64) (xs := isl ([1] : List Int)) ν qD2_un_24 qD2_zi_3 (.cons vc OpVs.nil) (by decide) (by decide) (by kernel_rfl) rfl)
         refine z ?_ (h := fun ν => aI_ (h2 := 65) (L3 := ((rowK l (gC (cellsOf l) k) j) ++ [1])) ν qD2_un_24 qD2_zi_3 (by first | exact rfl | (simp; done) | (simp; omega) | omega) rfl (by first | exact rfl | (simp; done) | (simp; omega) | omega) (by first | omega | (simp; omega) | (simp at *; omega)))
         refine za (nl (rg ?_))
         refine z ?_ (h := fun ν => acts_bin ν vt vc (rA (by first | omega | assumption | exact cell_at (by omega) | (simp; omega)) (by first | omega | assumption | exact cell_at (by omega) | (simp; omega))))
         refine zm (nl ?_)
         exact loop_back ((j + 1)) (by show _ ≤ _; omega) (by show (cellsOf l).length - (j + 1) < (cellsOf l).length - j; omega) (wkf (subst1 [(29, 65)]) (wS <| wS <| wS <| wE (e := (vsl (by first | rfl | (simp; done) | (simp; omega) | omega | (exact congrArg List.length (by first | rfl | omega | exact rowK_zero _ _ | exact Eq.symm (rowK_zero _ _) | (rw [rowK_b (j := j) (by omega) (by assumption)]; done) | (rw [rowK_w (j := j) (by omega) (by assumption) (sgE_n (by assumption))]; done) | (have hxy := nbr_xy (a := (gC (cellsOf l) k)) (b := (gC (cellsOf l) j)) (by assumption); first | (rw [rowK_w (j := j) (by omega) (by assumption) (sgE_p (by assumption) (by omega))]; done) | (rw [rowK_w (j := j) (by omega) (by assumption) (sgE_m (by assumption) (by omega))]; done))))) rfl)) <| wS <| wS <| wS <| wS <| wS <| wE (e := (vint (by first | rfl | omega | exact rowK_zero _ _ | exact Eq.symm (rowK_zero _ _) | (rw [rowK_b (j := j) (by omega) (by assumption)]; done) | (rw [rowK_w (j := j) (by omega) (by assumption) (sgE_n (by assumption))]; done) | (have hxy := nbr_xy (a := (gC (cellsOf l) k)) (b := (gC (cellsOf l) j)) (by assumption); first | (rw [rowK_w (j := j) (by omega) (by assumption) (sgE_p (by assumption) (by omega))]; done) | (rw [rowK_w (j := j) (by omega) (by assumption) (sgE_m (by assumption) (by omega))]; done))))) <| wX <| wX <| wQI <| wP <| wO (e := renob_eq (fun h => h) (congrArg isl (by first | rfl | omega | exact rowK_zero _ _ | exact Eq.symm (rowK_zero _ _) | (rw [rowK_b (j := j) (by omega) (by assumption)]; done) | (rw [rowK_w (j := j) (by omega) (by assumption) (sgE_n (by assumption))]; done) | (have hxy := nbr_xy (a := (gC (cellsOf l) k)) (b := (gC (cellsOf l) j)) (by assumption); first | (rw [rowK_w (j := j) (by omega) (by assumption) (sgE_p (by assumption) (by omega))]; done) | (rw [rowK_w (j := j) (by omega) (by assumption) (sgE_m (by assumption) (by omega))]; done))))) <| wP <| wP <| by (iterate 17 refine wF ?_); exact wN))
        ·skip
         have c16P := of_decide_eq_false c16
         refine rg ?_
         refine z ?_ (h := fun ν => acts_field (off' := 1) ν qD2_fo_46_1 rfl)
         refine z ?_ (h := fun ν => acts_load_own (x := .val (.int .i64 ((gC (cellsOf l) k).y))) ν qD2_ti_3 (by exact rfl))
         refine z ?_ (h := fun ν => acts_field (off' := 1) ν qD2_fo_46_1 rfl)
         refine z ?_ (h := fun ν => acts_load_own (x := .val (.int .i64 ((gC (cellsOf l) j).y))) ν qD2_ti_3 (by exact rfl))
         refine z ?_ (h := fun ν => acts_bin ν vt vt (r_eql (c := false) c16))
         refine zm ?_
         refine zg ?_ (h := fun ν => step_on rfl rfl (acts_field (off' := 0) ν qD2_fo_46_0 rfl))
         refine zg ?_ (h := fun ν => step_on rfl rfl (acts_load_own (x := .val (.int .i64 ((gC (cellsOf l) k).x))) ν qD2_ti_3 (by exact rfl)))
         refine zg ?_ (h := fun ν => step_on rfl rfl (acts_bin ν vt vc (r_rem (c := ((gC (cellsOf l) k).x % 2)) (by first | omega | assumption | exact cell_at (by omega) | (simp; omega)) (remI (by first | omega | assumption | exact cell_at (by omega) | (simp; omega))))))
         refine zg ?_ (h := fun ν => step_on rfl rfl (acts_bin ν vt vc (r_eql rfl)))
         refine z ?_ (h := fun ν => acts_pick_f ν vt xt)
         refine za (nl ?_)
         refine wi (fun c17 => ?_) (fun c17 => ?_)
         ·skip
          have c17P := of_decide_eq_true c17
          refine rg (zm ?_)
          refine z ?_ (h := fun ν => acts_buildSlice' (h := 64) (xs := isl ([1] : List Int)) ν qD2_un_24 qD2_zi_3 (.cons vc OpVs.nil) (by decide) (by decide) (by kernel_rfl) rfl)
          refine z ?_ (h := fun ν => aI_ (h2 := 65) (L3 := ((rowK l (gC (cellsOf l) k) j) ++ [1])) ν qD2_un_24 qD2_zi_3 (by first | exact rfl | (simp; done) | (simp; omega) | omega) rfl (by first | exact rfl | (simp; done) | (simp; omega) | omega) (by first | omega | (simp; omega) | (simp at *; omega)))
          refine za (nl (rg ?_))
          refine z ?_ (h := fun ν => acts_bin ν vt vc (rA (by first | omega | assumption | exact cell_at (by omega) | (simp; omega)) (by first | omega | assumption | exact cell_at (by omega) | (simp; omega))))
          refine zm (nl ?_)
          exact loop_back ((j + 1)) (by show _ ≤ _; omega) (by show (cellsOf l).length - (j + 1) < (cellsOf l).length - j; omega) (wkf (subst1 [(29, 65)]) (wS <| wS <| wS <| wE (e := (vsl (by first | rfl | (simp; done) | (simp; omega) | omega | (exact congrArg List.length (by first | rfl | omega | exact rowK_zero _ _ | exact Eq.symm (rowK_zero _ _) | (rw [rowK_b (j := j) (by omega) (by assumption)]; done) | (rw [rowK_w (j := j) (by omega) (by assumption) (sgE_n (by assumption))]; done) | (have hxy := nbr_xy (a := (gC (cellsOf l) k)) (b := (gC (cellsOf l) j)) (by assumption); first | (rw [rowK_w (j := j) (by omega) (by assumption) (sgE_p (by assumption) (by omega))]; done) | (rw [rowK_w (j := j) (by omega) (by assumption) (sgE_m (by assumption) (by omega))]; done))))) rfl)) <| wS <| wS <| wS <| wS <| wS <| wE (e := (vint (by first | rfl | omega | exact rowK_zero _ _ | exact Eq.symm (rowK_zero _ _) | (rw [rowK_b (j := j) (by omega) (by assumption)]; done) | (rw [rowK_w (j := j) (by omega) (by assumption) (sgE_n (by assumption))]; done) | (have hxy := nbr_xy (a := (gC (cellsOf l) k)) (b := (gC (cellsOf l) j)) (by assumption); first | (rw [rowK_w (j := j) (by omega) (by assumption) (sgE_p (by assumption) (by omega))]; done) | (rw [rowK_w (j := j) (by omega) (by assumption) (sgE_m (by assumption) (by omega))]; done))))) <| wX <| wX <| wQI <| wP <| wO (e := renob_eq (fun h => h) (congrArg isl (by first | rfl | omega | exact rowK_zero _ _ | exact Eq.symm (rowK_zero _ _) | (rw [rowK_b (j := j) (by omega) (by assumption)]; done) | (rw [rowK_w (j := j) (by omega) (by assumption) (sgE_n (by assumption))]; done) | (have hxy := nbr_xy (a := (gC (cellsOf l) k)) (b := (gC (cellsOf l) j)) (by assumption); first | (rw [rowK_w (j := j) (by omega) (by assumption) (sgE_p (by assumption) (by omega))]; done) | (rw [rowK_w (j := j) (by omega) (by assumption) (sgE_m (by assumption) (by omega))]; done))))) <| wP <| wP <| by (iterate 17 refine wF ?_); exact wN))
         ·skip
          have c17P := of_decide_eq_false c17
          refine rg (zm ?_)
          refine z ?_ (h := fun ν => acts_buildSlice' (h := 38) (xs := isl ([(-1)] : List Int)) ν qD2_un_24 qD2_zi_3 (.cons vc OpVs.nil) (by decide) (by decide) (by kernel_rfl) rfl)
          refine z ?_ (h := fun ν => aI_ (h2 := 39) (L3 := ((rowK l (gC (cellsOf l) k) j) ++ [(-1)])) ν qD2_un_24 qD2_zi_3 (by first | exact rfl | (simp; done) | (simp; omega) | omega) rfl (by first | exact rfl | (simp; done) | (simp; omega) | omega) (by first | omega | (simp; omega) | (simp at *; omega)))
          refine za (nl (rg ?_))
          refine z ?_ (h := fun ν => acts_bin ν vt vc (rA (by first | omega | assumption | exact cell_at (by omega) | (simp; omega)) (by first | omega | assumption | exact cell_at (by omega) | (simp; omega))))
          refine zm (nl ?_)
          exact loop_back ((j + 1)) (by show _ ≤ _; omega) (by show (cellsOf l).length - (j + 1) < (cellsOf l).length - j; omega) (wkf (subst1 [(29, 39)]) (wS <| wS <| wS <| wE (e := (vsl (by first | rfl | (simp; done) | (simp; omega) | omega | (exact congrArg List.length (by first | rfl | omega | exact rowK_zero _ _ | exact Eq.symm (rowK_zero _ _) | (rw [rowK_b (j := j) (by omega) (by assumption)]; done) | (rw [rowK_w (j := j) (by omega) (by assumption) (sgE_n (by assumption))]; done) | (have hxy := nbr_xy (a := (gC (cellsOf l) k)) (b := (gC (cellsOf l) j)) (by assumption); first | (rw [rowK_w (j := j) (by omega) (by assumption) (sgE_p (by assumption) (by omega))]; done) | (rw [rowK_w (j := j) (by omega) (by assumption) (sgE_m (by assumption) (by omega))]; done))))) rfl)) <| wS <| wS <| wS <| wS <| wS <| wE (e := (vint (by first | rfl | omega | exact rowK_zero _ _ | exact Eq.symm (rowK_zero _ _) | (rw [rowK_b (j := j) (by omega) (by assumption)]; done) | (rw [rowK_w (j := j) (by omega) (by assumption) (sgE_n (by assumption))]; done) | (have hxy := nbr_xy (a := (gC (cellsOf l) k)) (b := (gC (cellsOf l) j)) (by assumption); first | (rw [rowK_w (j := j) (by omega) (by assumption) (sgE_p (by assumption) (by omega))]; done) | (rw [rowK_w (j := j) (by omega) (by assumption) (sgE_m (by assumption) (by omega))]; done))))) <| wX <| wX <| wQI <| wP <| wO (e := renob_eq (fun h => h) (congrArg isl (by first | rfl | omega | exact rowK_zero _ _ | exact Eq.symm (rowK_zero _ _) | (rw [rowK_b (j := j) (by omega) (by assumption)]; done) | (rw [rowK_w (j := j) (by omega) (by assumption) (sgE_n (by assumption))]; done) | (have hxy := nbr_xy (a := (gC (cellsOf l) k)) (b := (gC (cellsOf l) j)) (by assumption); first | (rw [rowK_w (j := j) (by omega) (by assumption) (sgE_p (by assumption) (by omega))]; done) | (rw [rowK_w (j := j) (by omega) (by assumption) (sgE_m (by assumption) (by omega))]; done))))) <| wP <| wP <| by (iterate 17 refine wF ?_); exact wN))
     ·skip
      have c11P := of_decide_eq_false c11
      refine wp_exit' (rg (zm (zm ?_)))
      refine z ?_ (h := fun ν => bs1 (h := 69) ν qD2_un_29 qD2_zi_24 (by exact ⟨_, _, _, .inl rfl⟩))
      refine z ?_ (h := fun ν => aQ (h2 := 70) (nm := ((sgnK l k) ++ [(rowK l (gC (cellsOf l) k) j)]).length) ν qD2_un_29 qD2_zi_24 (by exact ⟨_, _, _, .inl rfl⟩) (by simp [rwI_len, rwD_len]) (by first | omega | (simp; omega) | (first | omega | assumption | exact cell_at (by omega) | (simp; omega))) (by simp))
      refine za (nl ?_)
      refine wp_weak (pkI (h := 70) (h1 := 29) (T := 3) (T0 := 24) (s0 := 1) (ex0 := true) (n := ((rowK l (gC (cellsOf l) k) j).length)) (L := (sgnK l k)) (r := (rowK l (gC (cellsOf l) k) j))) ?_
      refine rg ?_
      refine z ?_ (h := fun ν => acts_bin ν vt vc (rA (by first | omega | assumption | exact cell_at (by omega) | (simp; omega)) (by first | omega | assumption | exact cell_at (by omega) | (simp; omega))))
      refine zm (nl ?_)
      exact loop_back ((k + 1)) (by show _ ≤ _; omega) (by show (cellsOf l).length - (k + 1) < (cellsOf l).length - k; omega) (wkf (subst1 [(18, 70)]) (wS <| wE (e := (vsl (by first | rfl | (simp; done) | (simp; omega) | omega | (exact congrArg List.length (by first | rfl | omega | exact sgnK_zero _ | exact Eq.symm (sgnK_zero _) | exact sgnK_w (by omega) (by assumption) | exact Eq.symm (sgnK_w (by omega) (by assumption)) | (rw [sgnK_b (j := k) (by omega) (by assumption), ← rowK_end (j := j) (by omega)]; done)))) rfl)) <| wS <| wS <| wE (e := (vint (by first | rfl | omega | exact sgnK_zero _ | exact Eq.symm (sgnK_zero _) | exact sgnK_w (by omega) (by assumption) | exact Eq.symm (sgnK_w (by omega) (by assumption)) | (rw [sgnK_b (j := k) (by omega) (by assumption), ← rowK_end (j := j) (by omega)]; done)))) <| wX <| wQI (e := (by first | rfl | omega | exact sgnK_zero _ | exact Eq.symm (sgnK_zero _) | exact sgnK_w (by omega) (by assumption) | exact Eq.symm (sgnK_w (by omega) (by assumption)) | (rw [sgnK_b (j := k) (by omega) (by assumption), ← rowK_end (j := j) (by omega)]; done))) <| wP <| wP <| by (iterate 20 refine wF ?_); exact wN))
   ·skip
    have c6P := of_decide_eq_false c6
    refine wp_exit' (sq (rg (zm (za (nl (wp_ret' ?_))))))
    exact ⟨[kS 2 900 0 ((sgnK l k).length), kO 800 3 1 true (pl (isl l)), kO 900 24 1 true (rwI 3 (sgnK l k)), kF 1, kF 5, kF 8, kF 10, kF 14, kF 15, kF 18, kF 20, kF 21, kF 27, kF 29, kF 31, kF 32, kF 38, kF 39, kF 42, kF 46, kF 49, kF 50, kF 64, kF 65, kF 69, kF 70], wkf (subst1 [(900, 18)]) (wS <| wP <| wQI <| by (iterate 23 refine wF ?_); exact wN), ⟨by kernel_rfl, obj_eq (c := rwI 3 (sgnK l k)) (by kernel_rfl) (congrArg (fun z => rwI 3 z) (by first | rfl | exact Eq.symm (smR_no hno) | exact Eq.symm (smR_nl hno) | (rw [smR_yes hyes, sgnK_end (j := k) (by omega)]; done))), trivial⟩, vo_eq 2 (.a (.sl 900 0 ((sgnK l k).length))) (.a (.sl 900 0 ((smR l).length))) (by kernel_rfl) (congrArg (fun z : Nat => B.a (.sl 900 0 z)) (by first | rfl | exact Eq.symm (smR_no hno) | exact Eq.symm (smR_nl hno) | (rw [smR_yes hyes, sgnK_end (j := k) (by omega)]; done)))⟩
 ·skip
  have hno := so1 c1
  refine rg ?_
  refine z ?_ (h := fun ν => acts_load_owns (xs := [(.sl 800 0 l.length : A)]) ν qD2_ti_26 rfl (by decide) rfl)
  refine z ?_ (h := fun ν => acts_call1 ν (impl_IsBalanced_fn l (by first | omega | assumption | exact cell_at (by omega) | (simp; omega))) (ac (ArgV.reg _ _ _ (s := 1) (by simp [isl]) (by first | exact List.take_of_length_le (by simp [isl]) | (simp [isl]; done))) an) (resval (congrArg Value.bool c1)))
  refine z ?_ (h := fun ν => acts_un ν vt (r_not (c := true) rfl))
  refine zm (zo (zo (zo (zo ?_))))
  refine z ?_ (h := fun ν => acts_pick_t ν vt xc)
  refine nl (wt (sq (rg (zk (nl ?_)))))
  refine wp_weak (wnQ (k := 2) (h := 5) (T := 24) (T' := 3) (by kernel_rfl) (by kernel_rfl)) ?_
  refine wp_ret' ?_
  exact ⟨[kS 2 900 0 0, kO 800 3 1 true (pl (isl l)), kO 900 24 1 true (rwI 3 []), kF 1, kF 5, kF 8, kF 10, kF 14, kF 15, kF 18, kF 20, kF 21, kF 27, kF 29, kF 31, kF 32, kF 38, kF 39, kF 42, kF 46, kF 49, kF 50, kF 64, kF 65, kF 69, kF 70], wkf (subst1 [(900, 5)]) (wS <| wP <| wQI <| by (iterate 23 refine wF ?_); exact wN), ⟨by kernel_rfl, obj_eq (c := rwI 3 []) (by kernel_rfl) (congrArg (fun z => rwI 3 z) (by first | rfl | exact Eq.symm (smR_no hno) | exact Eq.symm (smR_nl hno) | (rw [smR_yes hyes, sgnK_end (j := k) (by omega)]; done))), trivial⟩, vo_eq 2 (.a (.sl 900 0 0)) (.a (.sl 900 0 ((smR l).length))) (by kernel_rfl) (congrArg (fun z : Nat => B.a (.sl 900 0 z)) (by first | rfl | exact Eq.symm (smR_no hno) | exact Eq.symm (smR_nl hno) | (rw [smR_yes hyes, sgnK_end (j := k) (by omega)]; done)))⟩
end Cl
end Go.Proofs.Ytokihekhelbijaa
