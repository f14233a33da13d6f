/- Walks over clean states, printed by wg.py. No statement is proved here. -/
import Derived.Test.YtjgjeflidcembaaP6
import Derived.Test.YtjgjeflidcembaaP11
import Derived.Test.YtjgjeflidcembaaP9
import Derived.Test.YtjgjeflidcembaaClB
namespace Go.Proofs.Ytjgjeflidcembaa
namespace Cl
open Go.ChangeShapes Go.WideShapes Go.ChangeAt Go.RowKit
set_option maxRecDepth 20000

def bexW (l : List Int) : Int := 2 * (((cellsOf l).filter black).length : Int) - ((cellsOf l).length : Int)
/-- the blacks that are taken -/
def smP (b : List Nat) (R : List Int) (i : Nat) : Bool := black (gC (cellsOf R) i) && decide (atB b i % 2 = 1)
def smK (b : List Nat) (R : List Int) (k : Nat) : List Cel := ((List.range k).filter (smP b R)).map (gC (cellsOf R))
theorem smK_yes {b : List Nat} {R : List Int} {k : Nat} (h : smP b R k = true) : smK b R (k + 1) = smK b R k ++ [gC (cellsOf R) k] := by
  unfold smK; rw [List.range_succ, List.filter_append, List.map_append]; simp [h]
theorem smK_no {b : List Nat} {R : List Int} {k : Nat} (h : smP b R k = false) : smK b R (k + 1) = smK b R k := by
  unfold smK; rw [List.range_succ, List.filter_append, List.map_append]; simp [h]
theorem smK_len (b : List Nat) (R : List Int) (k : Nat) : (smK b R k).length ≤ k := by
  unfold smK; rw [List.length_map]; exact Nat.le_trans (List.length_filter_le _ _) (by simp)
theorem smK_blks {b : List Nat} {R : List Int} (ho : regOk R = true) : blks R (smK b R (cellsOf R).length) = true := by
  unfold blks
  rw [ho, Bool.true_and, List.all_eq_true]
  intro c hc
  unfold smK at hc
  obtain ⟨i, hi, rfl⟩ := List.mem_map.1 hc
  obtain ⟨h1, h2⟩ := List.mem_filter.1 hi
  unfold smP at h2
  rw [Bool.and_eq_true] at h2
  have hm := gC_mem (List.mem_range.1 h1)
  rw [h2.1, Bool.true_and]
  unfold cellsOf at hm ⊢
  rw [if_pos ho] at hm ⊢
  have hs := set_mem.1 hm
  unfold hasC
  rw [ho, hasS_ok hs, Bool.true_and, Bool.true_and, ← has_bit (hasS_ok hs)]; exact hs
theorem filt_two (p : Cel → Bool) (L : List Cel) : (L.filter p).length + (L.filter (fun c => !p c)).length = L.length := by
  induction L with
  | nil => rfl
  | cons a L ih => rw [List.filter_cons, List.filter_cons]; cases p a <;> simp <;> omega
/-- what is known of a region that was drawn -/
structure DF (R : List Int) : Prop where
  ok : regOk R = true
  ge : 0 ≤ frees R
  wi : defi R (wit R) = frees R
  le : ∀ X, blks R X = true → defi R X ≤ frees R
  wh : ((wa R (wit R)).length : Int) = ((wit R).length : Int) - frees R
  ex : 0 ≤ frees R - bexW R
  bd : frees R ≤ 64
theorem DF.of {b : List Nat} {c : Cu} {R : List Int} (hR : (r3 b c).1 = R) : DF R := by
  have ho : regOk R = true := hR ▸ r3_ok b c
  obtain ⟨h1, h2, h3, h4, h5⟩ := law_defi ho
  have h6 := mtW_white ho
  have h7 := filt_two black (cellsOf R)
  have h8 : (blk (regSet R)).length = ((cellsOf R).filter black).length := by unfold blk cellsOf; rw [if_pos ho]
  have h9 := wit_len R
  refine ⟨ho, h1, h2, h3, h4, ?_, by omega⟩
  unfold bexW; omega

theorem qP12_sz_46 : (Try.prog.info? 46).map (·.size) = some 2 := by kernel_rfl
theorem qP12_ti_26 : TI Try.prog 26 true 1 := ⟨⟨_, Try.underlying26, rfl⟩, by kernel_rfl⟩
theorem qP12_ti_46 : TI Try.prog 46 true 2 := ⟨⟨_, Try.underlying46, rfl⟩, by kernel_rfl⟩
theorem qP12_un_4 : Try.prog.underlying 4 = some .bool := Try.underlying4
theorem qP12_un_42 : Try.prog.underlying 42 = some (.slice 46) := Try.underlying42
theorem qP12_zi_26 : ZI Try.prog 26 (.agg #[.slice none 0 0]) 1 24 := by unfold ZI; kernel_rfl
theorem qP12_zi_46 : ZI Try.prog 46 (.agg #[.int .i64 0, .int .i64 0]) 2 16 := by unfold ZI; kernel_rfl
set_option maxHeartbeats 4000000 in
set_option maxRecDepth 100000 in
theorem spec_BlackExcess_fn (l : List Int) (hl : l.length ≤ 4194304) : Fn Try.prog 41 [.agg [(.slv l.length 1 (isl l) : A)]] [.val (.int .i64 (bexW l))] := by
 have h64 := cellsOf_len l
 have hb64 := List.length_filter_le black (cellsOf l)
 refine fn_intro (N := 24) Try.func41 rfl (by kernel_rfl) rfl (Nat.le_of_ble_eq_true rfl) [1, 7, 10, 18] (ret1 rfl) (fun W => ?_)
 show Wp _ _ _ [kV 0 (V.b (.agg [(.slv l.length 1 (isl l) : A)])), kF 1, kF 7, kF 10, kF 18]
 refine sq (rg ?_)
 refine z ?_ (h := fun ν => acts_box (h := 1) ν xt (by exact ob1 rfl))
 refine zk (nl (sq (rg (zk (nl (sq (rg ?_)))))))
 refine z ?_ (h := fun ν => acts_load_owns (xs := [(.slv l.length 1 (isl l) : A)]) ν qP12_ti_26 rfl (by decide) rfl)
 refine z ?_ (h := fun ν => acts_call1 ν (spec_CellsOf_fn l (by first | omega | assumption | (have := cfilt_len black (cellsOf l) k; omega))) (ac (ArgV.regv _ _ 1 _) an) (ResV.row _ _ _ _ 7))
 refine za (nl (sq (sq (rg (zk (nl (bkk ?_)))))))
 refine wp_loop' (fun (k : Nat) => k ≤ (cellsOf l).length) (fun (k : Nat) => [kI 3 (2 * ((((cellsOf l).take k).filter black).length : Int) - (k : Int)), kS 4 7 0 ((cellsOf l).length), kI 5 ((k : Nat) : Int), kO 7 46 2 true (pl (csl (cellsOf l))), kF 1, kF 10, kF 18]) (fun (k : Nat) => (cellsOf l).length - k) ((0 : Nat)) (by exact (Nat.zero_le _ : 0 ≤ _)) (wkf id (wE (e := (vint (by first | rfl | (rw [cfilt_yes (by omega) (by assumption)]; simp; omega) | (rw [cfilt_no (by omega) (by assumption)]; omega) | omega | (simp; done)))) <| wS <| wE (e := (vint (by first | rfl | (rw [cfilt_yes (by omega) (by assumption)]; simp; omega) | (rw [cfilt_no (by omega) (by assumption)]; omega) | omega | (simp; done)))) <| wP <| wF <| wF <| wF <| wN)) ?_
 rintro k inv1
 replace inv1 : k ≤ (cellsOf l).length := inv1
 have inv := inv1
 have hck := cfilt_len black (cellsOf l) k
 refine sq (sq (rg (zm (zm ?_))))
 refine z ?_ (h := fun ν => lnS ν qP12_un_42)
 refine z ?_ (h := fun ν => acts_bin ν vt vt (r_lss rfl))
 refine nl ?_
 refine wi (fun c2 => ?_) (fun c2 => ?_)
 ·skip
  have c2P := of_decide_eq_true c2
  refine sk (sq (bkk (sq (rg (zm (zm ?_))))))
  refine z ?_ (h := fun ν => ix0 ν qP12_un_42 qP12_sz_46 vt (hlt := (by first | omega | assumption | (have := cfilt_len black (cellsOf l) k; omega))))
  refine z ?_ (h := fun ν => lC ν qP12_ti_46 (by first | omega | assumption | (have := cfilt_len black (cellsOf l) k; omega)))
  refine z ?_ (h := fun ν => acts_call1 ν (spec_IsBlack_fn (gC (cellsOf l) k) ) (ac (ArgV.va va) an) rv)
  refine nl ?_
  refine wi (b := (black (gC (cellsOf l) k))) (fun c3 => ?_) (fun c3 => ?_)
  ·skip
   refine rg (zm ?_)
   refine z ?_ (h := fun ν => acts_bin ν vt vc (rA (by first | omega | assumption | (have := cfilt_len black (cellsOf l) k; omega)) (by first | omega | assumption | (have := cfilt_len black (cellsOf l) k; omega))))
   refine za (nl (rg (zm ?_)))
   refine z ?_ (h := fun ν => acts_bin ν vt vc (rA (by first | omega | assumption | (have := cfilt_len black (cellsOf l) k; omega)) (by first | omega | assumption | (have := cfilt_len black (cellsOf l) k; omega))))
   refine za (nl ?_)
   exact loop_back ((k + 1)) (by show _ ≤ _; omega) (by show (cellsOf l).length - (k + 1) < (cellsOf l).length - k; omega) (wkf id (wE (e := (vint (by first | rfl | (rw [cfilt_yes (by omega) (by assumption)]; simp; omega) | (rw [cfilt_no (by omega) (by assumption)]; omega) | omega | (simp; done)))) <| wS <| wE (e := (vint (by first | rfl | (rw [cfilt_yes (by omega) (by assumption)]; simp; omega) | (rw [cfilt_no (by omega) (by assumption)]; omega) | omega | (simp; done)))) <| wP <| wF <| wF <| wF <| wN))
  ·skip
   refine rg (zm ?_)
   refine z ?_ (h := fun ν => acts_bin ν vt vc (rS (by first | omega | assumption | (have := cfilt_len black (cellsOf l) k; omega)) (by first | omega | assumption | (have := cfilt_len black (cellsOf l) k; omega))))
   refine za (nl (rg (zm ?_)))
   refine z ?_ (h := fun ν => acts_bin ν vt vc (rA (by first | omega | assumption | (have := cfilt_len black (cellsOf l) k; omega)) (by first | omega | assumption | (have := cfilt_len black (cellsOf l) k; omega))))
   refine za (nl ?_)
   exact loop_back ((k + 1)) (by show _ ≤ _; omega) (by show (cellsOf l).length - (k + 1) < (cellsOf l).length - k; omega) (wkf id (wE (e := (vint (by first | rfl | (rw [cfilt_yes (by omega) (by assumption)]; simp; omega) | (rw [cfilt_no (by omega) (by assumption)]; omega) | omega | (simp; done)))) <| wS <| wE (e := (vint (by first | rfl | (rw [cfilt_yes (by omega) (by assumption)]; simp; omega) | (rw [cfilt_no (by omega) (by assumption)]; omega) | omega | (simp; done)))) <| wP <| wF <| wF <| wF <| wN))
 ·skip
  have c2P := of_decide_eq_false c2
  refine wp_exit' (sq (rg (zm (za (nl (wp_ret' ?_))))))
  exact VRes.tmp _ _ _ (by exact rfl) (bval (congrArg (Value.int .i64) (by (have e : k = (cellsOf l).length := by omega); subst e; unfold bexW; rw [List.take_length])))

set_option maxHeartbeats 4000000 in
set_option maxRecDepth 100000 in
theorem DrawRegion_R (b : List Nat) (R : List Int) (hb : b.length ≤ 1048576) (hy : ∀ x ∈ b, x < 256) (hR : (r3 b (cu0 b)).1 = R) : FnO Try.prog 33 [.a (.slv b.length 1 (ysl b))] [] (V.b (.agg [(.sl 900 0 R.length : A)])) [(.o 900, some (.o ⟨3, 1, true, pl (isl R)⟩))] [] := by
 subst hR
 exact spec_DrawRegion_fn b hb hy

set_option maxHeartbeats 4000000 in
set_option maxRecDepth 100000 in
theorem laws_FnDeficits_R (b : List Nat) (R : List Int) (hbb : b.length ≤ 9223372036854775807) (hy : ∀ x ∈ b, x < 256) (hR : (r3 b (cu0 b)).1 = R) : Fn Try.prog 6 [.a (.slv b.length 1 (ysl b))] [.val (.bool true)] := by
 have hD := DF.of hR
 have h8 := (regOk_true hD.ok).1
 have hwl := wit_len R
 have hcl := cellsOf_len R
 have hge := hD.ge
 have hbdf := hD.bd
 have hex := hD.ex
 have hwh := hD.wh
 have hsb := hD.le _ (smK_blks (b := b) hD.ok)
 have hbl := List.length_filter_le black (cellsOf R)
 have hxb : -64 ≤ bexW R ∧ bexW R ≤ 64 := by unfold bexW; omega
 refine fn_intro (N := 88) Try.func6 rfl (by kernel_rfl) rfl (Nat.le_of_ble_eq_true rfl) [3, 10, 12, 14, 16, 18, 19, 22, 30, 34, 43, 44, 50, 57, 65, 73, 74, 76, 84] (ret1 rfl) (fun W => ?_)
 show Wp _ _ _ [kV 0 (V.b (.a (.slv b.length 1 (ysl b)))), kF 3, kF 10, kF 12, kF 14, kF 16, kF 18, kF 19, kF 22, kF 30, kF 34, kF 43, kF 44, kF 50, kF 57, kF 65, kF 73, kF 74, kF 76, kF 84]
 refine sq (rg (zk (nl (sq (sq (rg (zm ?_)))))))
 refine z ?_ (h := fun ν => acts_call1 ν (laws_big_fn b ) (ac (ArgV.slv _ _ _ _) an) rv)
 refine nl ?_
 refine wi (b := (decide (1048576 < ((b.length : Nat) : Int)))) (fun c1 => ?_) (fun c1 => ?_)
 ·skip
  refine sq (rg (zk (nl (wp_ret' ?_))))
  exact VRes.tmp _ _ _ (by exact rfl) (BRes.val _)
 ·skip
  have hb : b.length ≤ 1048576 := by have := of_decide_eq_false c1; omega
  refine sk (sq (rg (zm ?_)))
  refine z ?_ (h := fun ν => acts_callO (d := 12) (f := 33) (os := []) (os' := [(.o 3, some (.o ⟨3, 1, true, pl (isl R)⟩))]) (r := V.b (.agg [(.sl 3 0 R.length : A)])) (bs := [.a (.slv b.length 1 (ysl b))]) (keep := []) (new := [3]) (dead := []) ν (FnO.ren' (DrawRegion_R b R (by first | exact hR | omega | assumption) (by first | exact hR | omega | assumption) (by first | exact hR | omega | assumption)) (subst1 [(900, 3)]) rfl rfl (by kernel_rfl) (by kernel_rfl) ⟨oc_pl (fun _ => rfl), trivial⟩ (by kernel_rfl) rfl (by simp only [renS, Ob.ren, pl_ren, rws_ren_doms, rws_ren_ints, rws_ren_cels, rwI_ren, rwD_ren]; first | done | rfl) (by simp only [renS, Ob.ren, pl_ren, rws_ren_doms, rws_ren_ints, rws_ren_cels, rwI_ren, rwD_ren]; first | done | rfl) rfl rfl) (by kernel_rfl) ⟨oc_pl (fun _ => rfl), trivial⟩ (by kernel_rfl) (ArgOs.cons (ArgO.slot 11 (.a (.slv b.length 1 (ysl b)))) (ArgOs.nil)))
  refine z ?_ (h := fun ν => acts_alloc' (h := 10) (cap := 1) (s := 1) (cells := [(.val (.slice none 0 0) : A)]) ν qP12_zi_26 rfl rfl (by decide))
  refine z ?_ (h := fun _ => acts_store (cells := [(.sl 3 0 R.length : A)]) qP12_ti_26 xt (by exact rfl) (by decide) (by exact ob1 rfl) (by exact Nat.le_of_ble_eq_true rfl) (by exact rfl))
  refine nl (sq (rg ?_))
  refine z ?_ (h := fun ν => acts_load_owns (xs := [(.sl 3 0 R.length : A)]) ν qP12_ti_26 rfl (by decide) rfl)
  refine z ?_ (h := fun ν => acts_call1 ν (impl_WitnessOf_fn R (by first | omega | assumption)) (ac (ArgV.reg _ _ _ (s := 1) (by simp [isl]) (by first | exact List.take_of_length_le (by simp [isl]) | (simp [isl]; done))) an) (ResV.row _ _ _ _ 14))
  refine za (nl (sq (rg ?_)))
  refine z ?_ (h := fun ν => acts_load_owns (xs := [(.sl 3 0 R.length : A)]) ν qP12_ti_26 rfl (by decide) rfl)
  refine z ?_ (h := fun ν => acts_call1 ν (impl_FreeBlacks_fn R (by first | omega | assumption)) (ac (ArgV.reg _ _ _ (s := 1) (by simp [isl]) (by first | exact List.take_of_length_le (by simp [isl]) | (simp [isl]; done))) an) rv)
  refine za (nl (sq (rg ?_)))
  refine z ?_ (h := fun ν => acts_load_owns (xs := [(.sl 3 0 R.length : A)]) ν qP12_ti_26 rfl (by decide) rfl)
  refine z ?_ (h := fun ν => acts_call1 ν (spec_CellsOf_fn R (by first | omega | assumption)) (ac (ArgV.reg _ _ _ (s := 1) (by simp [isl]) (by first | exact List.take_of_length_le (by simp [isl]) | (simp [isl]; done))) an) (ResV.row _ _ _ _ 18))
  refine za (nl (sq (rg ?_)))
  refine z ?_ (h := fun ν => b0C (h := 19) ν qP12_un_42 qP12_zi_46)
  refine za (nl (sq (sq (rg (zk (nl (bkk ?_)))))))
  refine wp_loop' (fun (k : Nat) => k ≤ (cellsOf R).length) (fun (k : Nat) => [kV 0 (V.b (.a (.slv b.length 1 (ysl b)))), kP 3 10 0, kS 4 14 0 ((wit R).length), kI 5 (frees R), kS 6 18 0 ((cellsOf R).length), kS 7 19 0 ((smK b R k).length), kI 8 ((k : Nat) : Int), kO 3 3 1 true (pl (isl R)), kO 10 26 1 true [(.sl 3 0 R.length : A)], kO 14 46 2 true (pl (csl (wit R))), kO 18 46 2 true (pl (csl (cellsOf R))), kO 19 46 2 true (pl (csl (smK b R k))), kF 12, kF 16, kF 22, kF 30, kF 34, kF 43, kF 44, kF 50, kF 57, kF 65, kF 73, kF 74, kF 76, kF 84]) (fun (k : Nat) => (cellsOf R).length - k) ((0 : Nat)) (by exact (Nat.zero_le _ : 0 ≤ _)) (wkf id (wS <| wS <| wS <| wS <| wS <| wE (e := (vsl (by first | rfl | (simp; done) | (simp; omega) | omega | (exact congrArg List.length (by first | rfl | omega | exact hsn | exact hsn.symm))) rfl)) <| wE (e := (vint (by first | rfl | omega | exact hsn | exact hsn.symm))) <| wP <| wX <| wP <| wP <| wO (e := renob_eq (fun h => h) (congrArg csl (by first | rfl | omega | exact hsn | exact hsn.symm))) <| by (iterate 14 refine wF ?_); exact wN)) ?_
  rintro k inv2
  replace inv2 : k ≤ (cellsOf R).length := inv2
  have invk := inv2
  have hsl := smK_len b R k
  refine sq (sq (rg (zm (zm ?_))))
  refine z ?_ (h := fun ν => lnS ν qP12_un_42)
  refine z ?_ (h := fun ν => acts_bin ν vt vt (r_lss rfl))
  refine nl ?_
  refine wi (fun c3 => ?_) (fun c3 => ?_)
  ·skip
   have c3P := of_decide_eq_true c3
   have hkl : k < (cellsOf R).length := by omega
   have hab := atB_lt hy k
   refine sk (sq (bkk (sq ?_)))
   rcases Bool.eq_false_or_eq_true ((black (gC (cellsOf R) k))) with c4 | c4
   ·skip
    have hbk := c4
    refine rg (zm (zm ?_))
    refine z ?_ (h := fun ν => ix0 ν qP12_un_42 qP12_sz_46 vt (hlt := (by first | omega | assumption)))
    refine z ?_ (h := fun ν => lC ν qP12_ti_46 (by first | omega | assumption))
    refine z ?_ (h := fun ν => acts_call1 ν (spec_IsBlack_fn (gC (cellsOf R) k) ) (ac (ArgV.va va) an) (resval (congrArg Value.bool c4)))
    refine zm ?_
    refine zg ?_ (h := fun ν => step_on rfl rfl (mt ν))
    refine zg ?_ (h := fun ν => step_on rfl rfl (mt ν))
    refine zg ?_ (h := fun ν => step_on rfl rfl (acts_call1 ν (laws_at_fn b k (by first | omega | assumption) (by first | omega | assumption) (by first | omega | assumption)) (ac (ArgV.slv _ _ _ _) (ac (ArgV.v vt) an)) rv))
    refine zg ?_ (h := fun ν => step_on rfl rfl (acts_bin ν vt vc (r_rem (c := ((((atB b k) % 2) : Nat) : Int)) (by decide) (remN (a := (((atB b k) : Nat) : Int)) (b := (atB b k)) (c := 2) rfl))))
    refine zg ?_ (h := fun ν => step_on rfl rfl (acts_bin ν vt vc (r_eql rfl)))
    refine z ?_ (h := fun ν => acts_pick_t ν vt xt)
    refine nl ?_
    refine wi (fun c5 => ?_) (fun c5 => ?_)
    ·skip
     have c5P := of_decide_eq_true c5
     have hsn := smK_yes (b := b) (R := R) (k := k) (by unfold smP; rw [hbk, Bool.true_and, decide_eq_true_eq]; omega)
     refine rg (zm (zm (zm ?_)))
     refine z ?_ (h := fun ν => ix0 ν qP12_un_42 qP12_sz_46 vt (hlt := (by first | omega | assumption)))
     refine z ?_ (h := fun ν => lC ν qP12_ti_46 (by first | omega | assumption))
     refine z ?_ (h := fun ν => acts_buildSlice' (h := 43) (xs := csl ([(gC (cellsOf R) k)] : List Cel)) ν qP12_un_42 qP12_zi_46 (.cons va OpVs.nil) (by decide) (by decide) (by kernel_rfl) rfl)
     refine z ?_ (h := fun ν => aC_ (h2 := 44) (L3 := ((smK b R k) ++ [(gC (cellsOf R) k)])) ν qP12_un_42 qP12_zi_46 (by first | exact rfl | (simp; done) | (simp; omega) | omega) rfl (by first | exact rfl | (simp; done) | (simp; omega) | omega) (by first | omega | (simp; omega) | (simp at *; omega)))
     refine za (nl (rg (zm ?_)))
     refine z ?_ (h := fun ν => acts_bin ν vt vc (rA (by first | omega | assumption) (by first | omega | assumption)))
     refine za (nl ?_)
     exact loop_back ((k + 1)) (by show _ ≤ _; omega) (by show (cellsOf R).length - (k + 1) < (cellsOf R).length - k; omega) (wkf (subst1 [(19, 44)]) (wS <| wS <| wS <| wS <| wS <| wE (e := (vsl (by first | rfl | (simp; done) | (simp; omega) | omega | (exact congrArg List.length (by first | rfl | omega | exact hsn | exact hsn.symm))) rfl)) <| wE (e := (vint (by first | rfl | omega | exact hsn | exact hsn.symm))) <| wP <| wX <| wP <| wP <| wO (e := renob_eq (fun h => h) (congrArg csl (by first | rfl | omega | exact hsn | exact hsn.symm))) <| by (iterate 14 refine wF ?_); exact wN))
    ·skip
     have c5P := of_decide_eq_false c5
     have hsn := smK_no (b := b) (R := R) (k := k) (by unfold smP; rw [hbk, Bool.true_and, decide_eq_false_iff_not]; omega)
     refine sk (rg (zm ?_))
     refine z ?_ (h := fun ν => acts_bin ν vt vc (rA (by first | omega | assumption) (by first | omega | assumption)))
     refine za (nl ?_)
     exact loop_back ((k + 1)) (by show _ ≤ _; omega) (by show (cellsOf R).length - (k + 1) < (cellsOf R).length - k; omega) (wkf id (wS <| wS <| wS <| wS <| wS <| wE (e := (vsl (by first | rfl | (simp; done) | (simp; omega) | omega | (exact congrArg List.length (by first | rfl | omega | exact hsn | exact hsn.symm))) rfl)) <| wE (e := (vint (by first | rfl | omega | exact hsn | exact hsn.symm))) <| wP <| wX <| wP <| wP <| wO (e := renob_eq (fun h => h) (congrArg csl (by first | rfl | omega | exact hsn | exact hsn.symm))) <| by (iterate 14 refine wF ?_); exact wN))
   ·skip
    have hsn := smK_no (b := b) (R := R) (k := k) (by unfold smP; rw [c4]; rfl)
    refine rg (zm (zm ?_))
    refine z ?_ (h := fun ν => ix0 ν qP12_un_42 qP12_sz_46 vt (hlt := (by first | omega | assumption)))
    refine z ?_ (h := fun ν => lC ν qP12_ti_46 (by first | omega | assumption))
    refine z ?_ (h := fun ν => acts_call1 ν (spec_IsBlack_fn (gC (cellsOf R) k) ) (ac (ArgV.va va) an) (resval (congrArg Value.bool c4)))
    refine zm (zo (zo (zo (zo (zo ?_)))))
    refine z ?_ (h := fun ν => acts_pick_f ν vt xc)
    refine nl (wf (sk (rg (zm ?_))))
    refine z ?_ (h := fun ν => acts_bin ν vt vc (rA (by first | omega | assumption) (by first | omega | assumption)))
    refine za (nl ?_)
    exact loop_back ((k + 1)) (by show _ ≤ _; omega) (by show (cellsOf R).length - (k + 1) < (cellsOf R).length - k; omega) (wkf id (wS <| wS <| wS <| wS <| wS <| wE (e := (vsl (by first | rfl | (simp; done) | (simp; omega) | omega | (exact congrArg List.length (by first | rfl | omega | exact hsn | exact hsn.symm))) rfl)) <| wE (e := (vint (by first | rfl | omega | exact hsn | exact hsn.symm))) <| wP <| wX <| wP <| wP <| wO (e := renob_eq (fun h => h) (congrArg csl (by first | rfl | omega | exact hsn | exact hsn.symm))) <| by (iterate 14 refine wF ?_); exact wN))
  ·skip
   have c3P := of_decide_eq_false c3
   have hke : k = (cellsOf R).length := by omega
   rw [← hke] at hsb
   refine wp_exit' (sq ?_)
   rcases Bool.eq_false_or_eq_true (decide (0 ≤ (frees R))) with c6 | c6
   ·skip
    have c6P := of_decide_eq_true c6
    rcases Bool.eq_false_or_eq_true (decide ((defi R (wit R)) = (frees R))) with c7 | c7
    ·skip
     have c7P := of_decide_eq_true c7
     rcases Bool.eq_false_or_eq_true (decide ((defi R (smK b R k)) ≤ (frees R))) with c8 | c8
     ·skip
      have c8P := of_decide_eq_true c8
      rcases Bool.eq_false_or_eq_true (decide ((decide (0 < (frees R)) && decide ((frees R) ≤ defi R (wit R))) = decide (0 < (frees R)))) with c9 | c9
      ·skip
       have c9P := of_decide_eq_true c9
       rcases Bool.eq_false_or_eq_true (decide ((((wa R (wit R)).length : Nat) : Int) = ((((wit R).length : Nat) : Int) - (frees R)))) with c10 | c10
       ·skip
        have c10P := of_decide_eq_true c10
        refine rg (zm ?_)
        refine z ?_ (h := fun ν => acts_bin ν vt vc (r_geq (c := true) c6))
        refine zm ?_
        refine zg ?_ (h := fun ν => step_on rfl rfl (acts_load_owns (xs := [(.sl 3 0 R.length : A)]) ν qP12_ti_26 rfl (by decide) rfl))
        refine zg ?_ (h := fun ν => step_on rfl rfl (mt ν))
        refine zg ?_ (h := fun ν => step_on rfl rfl (acts_call1 ν (impl_Deficit_fn R (wit R) (by first | omega | assumption) (by first | omega | assumption)) (ac (ArgV.reg _ _ _ (s := 1) (by simp [isl]) (by first | exact List.take_of_length_le (by simp [isl]) | (simp [isl]; done))) (ac (argv_own (by first | exact csl_len _ | (simp [isl_len, bsl_len, dsl_len, csl_len]; done) | (simp [isl_len, bsl_len, dsl_len, csl_len]; omega))) an)) rv))
        refine zg ?_ (h := fun ν => step_on rfl rfl (mt ν))
        refine zg ?_ (h := fun ν => step_on rfl rfl (acts_bin ν vt vt (r_eql (c := true) c7)))
        refine z ?_ (h := fun ν => acts_pick_t ν vt xt)
        refine zm ?_
        refine zg ?_ (h := fun ν => step_on rfl rfl (acts_load_owns (xs := [(.sl 3 0 R.length : A)]) ν qP12_ti_26 rfl (by decide) rfl))
        refine zg ?_ (h := fun ν => step_on rfl rfl (mt ν))
        refine zg ?_ (h := fun ν => step_on rfl rfl (acts_call1 ν (impl_Deficit_fn R (smK b R k) (by first | omega | assumption) (by first | omega | assumption)) (ac (ArgV.reg _ _ _ (s := 1) (by simp [isl]) (by first | exact List.take_of_length_le (by simp [isl]) | (simp [isl]; done))) (ac (argv_own (by first | exact csl_len _ | (simp [isl_len, bsl_len, dsl_len, csl_len]; done) | (simp [isl_len, bsl_len, dsl_len, csl_len]; omega))) an)) rv))
        refine zg ?_ (h := fun ν => step_on rfl rfl (mt ν))
        refine zg ?_ (h := fun ν => step_on rfl rfl (acts_bin ν vt vt (r_leq (c := true) c8)))
        refine z ?_ (h := fun ν => acts_pick_t ν vt xt)
        refine zm ?_
        refine zg ?_ (h := fun ν => step_on rfl rfl (acts_load_owns (xs := [(.sl 3 0 R.length : A)]) ν qP12_ti_26 rfl (by decide) rfl))
        refine zg ?_ (h := fun ν => step_on rfl rfl (mt ν))
        refine zg ?_ (h := fun ν => step_on rfl rfl (mt ν))
        refine zg ?_ (h := fun ν => step_on rfl rfl (acts_call1 ν (impl_IsProofOf_fn R (wit R) (frees R) (by first | omega | assumption) (by first | omega | assumption)) (ac (ArgV.reg _ _ _ (s := 1) (by simp [isl]) (by first | exact List.take_of_length_le (by simp [isl]) | (simp [isl]; done))) (ac (argv_own (by first | exact csl_len _ | (simp [isl_len, bsl_len, dsl_len, csl_len]; done) | (simp [isl_len, bsl_len, dsl_len, csl_len]; omega))) (ac (ArgV.v vt) an))) rv))
        refine zg ?_ (h := fun ν => step_on rfl rfl (mt ν))
        refine zg ?_ (h := fun ν => step_on rfl rfl (acts_bin ν vt vc (r_gtr rfl)))
        refine zg ?_ (h := fun ν => step_on rfl rfl (acts_bin ν vt vt (r_beql (c := true) qP12_un_4 c9)))
        refine z ?_ (h := fun ν => acts_pick_t ν vt xt)
        refine zm ?_
        refine zg ?_ (h := fun ν => step_on rfl rfl (acts_load_owns (xs := [(.sl 3 0 R.length : A)]) ν qP12_ti_26 rfl (by decide) rfl))
        refine zg ?_ (h := fun ν => step_on rfl rfl (mt ν))
        refine zg ?_ (h := fun ν => step_on rfl rfl (acts_call1 ν (impl_WhiteAround_fn R (wit R) (by first | omega | assumption) (by first | omega | assumption)) (ac (ArgV.reg _ _ _ (s := 1) (by simp [isl]) (by first | exact List.take_of_length_le (by simp [isl]) | (simp [isl]; done))) (ac (argv_own (by first | exact csl_len _ | (simp [isl_len, bsl_len, dsl_len, csl_len]; done) | (simp [isl_len, bsl_len, dsl_len, csl_len]; omega))) an)) (ResV.row _ _ _ _ 73)))
        refine zg ?_ (h := fun ν => step_on rfl rfl (lnS ν qP12_un_42))
        refine zg ?_ (h := fun ν => step_on rfl rfl (mt ν))
        refine zg ?_ (h := fun ν => step_on rfl rfl (lnS ν qP12_un_42))
        refine zg ?_ (h := fun ν => step_on rfl rfl (mt ν))
        refine zg ?_ (h := fun ν => step_on rfl rfl (acts_bin ν vt vt (rS (by first | omega | assumption) (by first | omega | assumption))))
        refine zg ?_ (h := fun ν => step_on rfl rfl (acts_bin ν vt vt (r_eql (c := true) c10)))
        refine z ?_ (h := fun ν => acts_pick_t ν vt xt)
        refine zm ?_
        refine zg ?_ (h := fun ν => step_on rfl rfl (mt ν))
        refine zg ?_ (h := fun ν => step_on rfl rfl (acts_load_owns (xs := [(.sl 3 0 R.length : A)]) ν qP12_ti_26 rfl (by decide) rfl))
        refine zg ?_ (h := fun ν => step_on rfl rfl (acts_call1 ν (spec_BlackExcess_fn R (by first | omega | assumption)) (ac (ArgV.reg _ _ _ (s := 1) (by simp [isl]) (by first | exact List.take_of_length_le (by simp [isl]) | (simp [isl]; done))) an) rv))
        refine zg ?_ (h := fun ν => step_on rfl rfl (acts_bin ν vt vt (rS (by first | omega | assumption) (by first | omega | assumption))))
        refine zg ?_ (h := fun ν => step_on rfl rfl (acts_bin ν vt vc (r_geq rfl)))
        refine z ?_ (h := fun ν => acts_pick_t ν vt xt)
        refine za (nl (wp_ret' ?_))
        exact VRes.tmp _ _ _ (by exact rfl) (bval (congrArg Value.bool (by first | rfl | (exfalso; omega) | (exfalso; have h1 := hD.wi; omega) | (simp [hD.wi, hge, hwh, hsb, hex]; done) | (simp_all; done))))
       ·skip
        have c10P := of_decide_eq_false c10
        refine rg (zm ?_)
        refine z ?_ (h := fun ν => acts_bin ν vt vc (r_geq (c := true) c6))
        refine zm ?_
        refine zg ?_ (h := fun ν => step_on rfl rfl (acts_load_owns (xs := [(.sl 3 0 R.length : A)]) ν qP12_ti_26 rfl (by decide) rfl))
        refine zg ?_ (h := fun ν => step_on rfl rfl (mt ν))
        refine zg ?_ (h := fun ν => step_on rfl rfl (acts_call1 ν (impl_Deficit_fn R (wit R) (by first | omega | assumption) (by first | omega | assumption)) (ac (ArgV.reg _ _ _ (s := 1) (by simp [isl]) (by first | exact List.take_of_length_le (by simp [isl]) | (simp [isl]; done))) (ac (argv_own (by first | exact csl_len _ | (simp [isl_len, bsl_len, dsl_len, csl_len]; done) | (simp [isl_len, bsl_len, dsl_len, csl_len]; omega))) an)) rv))
        refine zg ?_ (h := fun ν => step_on rfl rfl (mt ν))
        refine zg ?_ (h := fun ν => step_on rfl rfl (acts_bin ν vt vt (r_eql (c := true) c7)))
        refine z ?_ (h := fun ν => acts_pick_t ν vt xt)
        refine zm ?_
        refine zg ?_ (h := fun ν => step_on rfl rfl (acts_load_owns (xs := [(.sl 3 0 R.length : A)]) ν qP12_ti_26 rfl (by decide) rfl))
        refine zg ?_ (h := fun ν => step_on rfl rfl (mt ν))
        refine zg ?_ (h := fun ν => step_on rfl rfl (acts_call1 ν (impl_Deficit_fn R (smK b R k) (by first | omega | assumption) (by first | omega | assumption)) (ac (ArgV.reg _ _ _ (s := 1) (by simp [isl]) (by first | exact List.take_of_length_le (by simp [isl]) | (simp [isl]; done))) (ac (argv_own (by first | exact csl_len _ | (simp [isl_len, bsl_len, dsl_len, csl_len]; done) | (simp [isl_len, bsl_len, dsl_len, csl_len]; omega))) an)) rv))
        refine zg ?_ (h := fun ν => step_on rfl rfl (mt ν))
        refine zg ?_ (h := fun ν => step_on rfl rfl (acts_bin ν vt vt (r_leq (c := true) c8)))
        refine z ?_ (h := fun ν => acts_pick_t ν vt xt)
        refine zm ?_
        refine zg ?_ (h := fun ν => step_on rfl rfl (acts_load_owns (xs := [(.sl 3 0 R.length : A)]) ν qP12_ti_26 rfl (by decide) rfl))
        refine zg ?_ (h := fun ν => step_on rfl rfl (mt ν))
        refine zg ?_ (h := fun ν => step_on rfl rfl (mt ν))
        refine zg ?_ (h := fun ν => step_on rfl rfl (acts_call1 ν (impl_IsProofOf_fn R (wit R) (frees R) (by first | omega | assumption) (by first | omega | assumption)) (ac (ArgV.reg _ _ _ (s := 1) (by simp [isl]) (by first | exact List.take_of_length_le (by simp [isl]) | (simp [isl]; done))) (ac (argv_own (by first | exact csl_len _ | (simp [isl_len, bsl_len, dsl_len, csl_len]; done) | (simp [isl_len, bsl_len, dsl_len, csl_len]; omega))) (ac (ArgV.v vt) an))) rv))
        refine zg ?_ (h := fun ν => step_on rfl rfl (mt ν))
        refine zg ?_ (h := fun ν => step_on rfl rfl (acts_bin ν vt vc (r_gtr rfl)))
        refine zg ?_ (h := fun ν => step_on rfl rfl (acts_bin ν vt vt (r_beql (c := true) qP12_un_4 c9)))
        refine z ?_ (h := fun ν => acts_pick_t ν vt xt)
        refine zm ?_
        refine zg ?_ (h := fun ν => step_on rfl rfl (acts_load_owns (xs := [(.sl 3 0 R.length : A)]) ν qP12_ti_26 rfl (by decide) rfl))
        refine zg ?_ (h := fun ν => step_on rfl rfl (mt ν))
        refine zg ?_ (h := fun ν => step_on rfl rfl (acts_call1 ν (impl_WhiteAround_fn R (wit R) (by first | omega | assumption) (by first | omega | assumption)) (ac (ArgV.reg _ _ _ (s := 1) (by simp [isl]) (by first | exact List.take_of_length_le (by simp [isl]) | (simp [isl]; done))) (ac (argv_own (by first | exact csl_len _ | (simp [isl_len, bsl_len, dsl_len, csl_len]; done) | (simp [isl_len, bsl_len, dsl_len, csl_len]; omega))) an)) (ResV.row _ _ _ _ 73)))
        refine zg ?_ (h := fun ν => step_on rfl rfl (lnS ν qP12_un_42))
        refine zg ?_ (h := fun ν => step_on rfl rfl (mt ν))
        refine zg ?_ (h := fun ν => step_on rfl rfl (lnS ν qP12_un_42))
        refine zg ?_ (h := fun ν => step_on rfl rfl (mt ν))
        refine zg ?_ (h := fun ν => step_on rfl rfl (acts_bin ν vt vt (rS (by first | omega | assumption) (by first | omega | assumption))))
        refine zg ?_ (h := fun ν => step_on rfl rfl (acts_bin ν vt vt (r_eql (c := false) c10)))
        refine z ?_ (h := fun ν => acts_pick_t ν vt xt)
        refine zm (zo (zo (zo (zo (zo ?_)))))
        refine z ?_ (h := fun ν => acts_pick_f ν vt xc)
        refine za (nl (wp_ret' ?_))
        exact VRes.tmp _ _ _ (by exact rfl) (bval (congrArg Value.bool (by first | rfl | (exfalso; omega) | (exfalso; have h1 := hD.wi; omega) | (simp [hD.wi, hge, hwh, hsb, hex]; done) | (simp_all; done))))
      ·skip
       have c9P := of_decide_eq_false c9
       refine rg (zm ?_)
       refine z ?_ (h := fun ν => acts_bin ν vt vc (r_geq (c := true) c6))
       refine zm ?_
       refine zg ?_ (h := fun ν => step_on rfl rfl (acts_load_owns (xs := [(.sl 3 0 R.length : A)]) ν qP12_ti_26 rfl (by decide) rfl))
       refine zg ?_ (h := fun ν => step_on rfl rfl (mt ν))
       refine zg ?_ (h := fun ν => step_on rfl rfl (acts_call1 ν (impl_Deficit_fn R (wit R) (by first | omega | assumption) (by first | omega | assumption)) (ac (ArgV.reg _ _ _ (s := 1) (by simp [isl]) (by first | exact List.take_of_length_le (by simp [isl]) | (simp [isl]; done))) (ac (argv_own (by first | exact csl_len _ | (simp [isl_len, bsl_len, dsl_len, csl_len]; done) | (simp [isl_len, bsl_len, dsl_len, csl_len]; omega))) an)) rv))
       refine zg ?_ (h := fun ν => step_on rfl rfl (mt ν))
       refine zg ?_ (h := fun ν => step_on rfl rfl (acts_bin ν vt vt (r_eql (c := true) c7)))
       refine z ?_ (h := fun ν => acts_pick_t ν vt xt)
       refine zm ?_
       refine zg ?_ (h := fun ν => step_on rfl rfl (acts_load_owns (xs := [(.sl 3 0 R.length : A)]) ν qP12_ti_26 rfl (by decide) rfl))
       refine zg ?_ (h := fun ν => step_on rfl rfl (mt ν))
       refine zg ?_ (h := fun ν => step_on rfl rfl (acts_call1 ν (impl_Deficit_fn R (smK b R k) (by first | omega | assumption) (by first | omega | assumption)) (ac (ArgV.reg _ _ _ (s := 1) (by simp [isl]) (by first | exact List.take_of_length_le (by simp [isl]) | (simp [isl]; done))) (ac (argv_own (by first | exact csl_len _ | (simp [isl_len, bsl_len, dsl_len, csl_len]; done) | (simp [isl_len, bsl_len, dsl_len, csl_len]; omega))) an)) rv))
       refine zg ?_ (h := fun ν => step_on rfl rfl (mt ν))
       refine zg ?_ (h := fun ν => step_on rfl rfl (acts_bin ν vt vt (r_leq (c := true) c8)))
       refine z ?_ (h := fun ν => acts_pick_t ν vt xt)
       refine zm ?_
       refine zg ?_ (h := fun ν => step_on rfl rfl (acts_load_owns (xs := [(.sl 3 0 R.length : A)]) ν qP12_ti_26 rfl (by decide) rfl))
       refine zg ?_ (h := fun ν => step_on rfl rfl (mt ν))
       refine zg ?_ (h := fun ν => step_on rfl rfl (mt ν))
       refine zg ?_ (h := fun ν => step_on rfl rfl (acts_call1 ν (impl_IsProofOf_fn R (wit R) (frees R) (by first | omega | assumption) (by first | omega | assumption)) (ac (ArgV.reg _ _ _ (s := 1) (by simp [isl]) (by first | exact List.take_of_length_le (by simp [isl]) | (simp [isl]; done))) (ac (argv_own (by first | exact csl_len _ | (simp [isl_len, bsl_len, dsl_len, csl_len]; done) | (simp [isl_len, bsl_len, dsl_len, csl_len]; omega))) (ac (ArgV.v vt) an))) rv))
       refine zg ?_ (h := fun ν => step_on rfl rfl (mt ν))
       refine zg ?_ (h := fun ν => step_on rfl rfl (acts_bin ν vt vc (r_gtr rfl)))
       refine zg ?_ (h := fun ν => step_on rfl rfl (acts_bin ν vt vt (r_beql (c := false) qP12_un_4 c9)))
       refine z ?_ (h := fun ν => acts_pick_t ν vt xt)
       refine zm (zo (zo (zo (zo (zo (zo (zo (zo (zo ?_)))))))))
       refine z ?_ (h := fun ν => acts_pick_f ν vt xc)
       refine zm (zo (zo (zo (zo (zo ?_)))))
       refine z ?_ (h := fun ν => acts_pick_f ν vt xc)
       refine za (nl (wp_ret' ?_))
       exact VRes.tmp _ _ _ (by exact rfl) (bval (congrArg Value.bool (by first | rfl | (exfalso; omega) | (exfalso; have h1 := hD.wi; omega) | (simp [hD.wi, hge, hwh, hsb, hex]; done) | (simp_all; done))))
     ·skip
      have c8P := of_decide_eq_false c8
      refine rg (zm ?_)
      refine z ?_ (h := fun ν => acts_bin ν vt vc (r_geq (c := true) c6))
      refine zm ?_
      refine zg ?_ (h := fun ν => step_on rfl rfl (acts_load_owns (xs := [(.sl 3 0 R.length : A)]) ν qP12_ti_26 rfl (by decide) rfl))
      refine zg ?_ (h := fun ν => step_on rfl rfl (mt ν))
      refine zg ?_ (h := fun ν => step_on rfl rfl (acts_call1 ν (impl_Deficit_fn R (wit R) (by first | omega | assumption) (by first | omega | assumption)) (ac (ArgV.reg _ _ _ (s := 1) (by simp [isl]) (by first | exact List.take_of_length_le (by simp [isl]) | (simp [isl]; done))) (ac (argv_own (by first | exact csl_len _ | (simp [isl_len, bsl_len, dsl_len, csl_len]; done) | (simp [isl_len, bsl_len, dsl_len, csl_len]; omega))) an)) rv))
      refine zg ?_ (h := fun ν => step_on rfl rfl (mt ν))
      refine zg ?_ (h := fun ν => step_on rfl rfl (acts_bin ν vt vt (r_eql (c := true) c7)))
      refine z ?_ (h := fun ν => acts_pick_t ν vt xt)
      refine zm ?_
      refine zg ?_ (h := fun ν => step_on rfl rfl (acts_load_owns (xs := [(.sl 3 0 R.length : A)]) ν qP12_ti_26 rfl (by decide) rfl))
      refine zg ?_ (h := fun ν => step_on rfl rfl (mt ν))
      refine zg ?_ (h := fun ν => step_on rfl rfl (acts_call1 ν (impl_Deficit_fn R (smK b R k) (by first | omega | assumption) (by first | omega | assumption)) (ac (ArgV.reg _ _ _ (s := 1) (by simp [isl]) (by first | exact List.take_of_length_le (by simp [isl]) | (simp [isl]; done))) (ac (argv_own (by first | exact csl_len _ | (simp [isl_len, bsl_len, dsl_len, csl_len]; done) | (simp [isl_len, bsl_len, dsl_len, csl_len]; omega))) an)) rv))
      refine zg ?_ (h := fun ν => step_on rfl rfl (mt ν))
      refine zg ?_ (h := fun ν => step_on rfl rfl (acts_bin ν vt vt (r_leq (c := false) c8)))
      refine z ?_ (h := fun ν => acts_pick_t ν vt xt)
      refine zm (zo (zo (zo (zo (zo (zo (zo ?_)))))))
      refine z ?_ (h := fun ν => acts_pick_f ν vt xc)
      refine zm (zo (zo (zo (zo (zo (zo (zo (zo (zo ?_)))))))))
      refine z ?_ (h := fun ν => acts_pick_f ν vt xc)
      refine zm (zo (zo (zo (zo (zo ?_)))))
      refine z ?_ (h := fun ν => acts_pick_f ν vt xc)
      refine za (nl (wp_ret' ?_))
      exact VRes.tmp _ _ _ (by exact rfl) (bval (congrArg Value.bool (by first | rfl | (exfalso; omega) | (exfalso; have h1 := hD.wi; omega) | (simp [hD.wi, hge, hwh, hsb, hex]; done) | (simp_all; done))))
    ·skip
     have c7P := of_decide_eq_false c7
     refine rg (zm ?_)
     refine z ?_ (h := fun ν => acts_bin ν vt vc (r_geq (c := true) c6))
     refine zm ?_
     refine zg ?_ (h := fun ν => step_on rfl rfl (acts_load_owns (xs := [(.sl 3 0 R.length : A)]) ν qP12_ti_26 rfl (by decide) rfl))
     refine zg ?_ (h := fun ν => step_on rfl rfl (mt ν))
     refine zg ?_ (h := fun ν => step_on rfl rfl (acts_call1 ν (impl_Deficit_fn R (wit R) (by first | omega | assumption) (by first | omega | assumption)) (ac (ArgV.reg _ _ _ (s := 1) (by simp [isl]) (by first | exact List.take_of_length_le (by simp [isl]) | (simp [isl]; done))) (ac (argv_own (by first | exact csl_len _ | (simp [isl_len, bsl_len, dsl_len, csl_len]; done) | (simp [isl_len, bsl_len, dsl_len, csl_len]; omega))) an)) rv))
     refine zg ?_ (h := fun ν => step_on rfl rfl (mt ν))
     refine zg ?_ (h := fun ν => step_on rfl rfl (acts_bin ν vt vt (r_eql (c := false) c7)))
     refine z ?_ (h := fun ν => acts_pick_t ν vt xt)
     refine zm (zo (zo (zo (zo (zo ?_)))))
     refine z ?_ (h := fun ν => acts_pick_f ν vt xc)
     refine zm (zo (zo (zo (zo (zo (zo (zo ?_)))))))
     refine z ?_ (h := fun ν => acts_pick_f ν vt xc)
     refine zm (zo (zo (zo (zo (zo (zo (zo (zo (zo ?_)))))))))
     refine z ?_ (h := fun ν => acts_pick_f ν vt xc)
     refine zm (zo (zo (zo (zo (zo ?_)))))
     refine z ?_ (h := fun ν => acts_pick_f ν vt xc)
     refine za (nl (wp_ret' ?_))
     exact VRes.tmp _ _ _ (by exact rfl) (bval (congrArg Value.bool (by first | rfl | (exfalso; omega) | (exfalso; have h1 := hD.wi; omega) | (simp [hD.wi, hge, hwh, hsb, hex]; done) | (simp_all; done))))
   ·skip
    have c6P := of_decide_eq_false c6
    refine rg (zm ?_)
    refine z ?_ (h := fun ν => acts_bin ν vt vc (r_geq (c := false) c6))
    refine zm (zo (zo (zo (zo (zo ?_)))))
    refine z ?_ (h := fun ν => acts_pick_f ν vt xc)
    refine zm (zo (zo (zo (zo (zo ?_)))))
    refine z ?_ (h := fun ν => acts_pick_f ν vt xc)
    refine zm (zo (zo (zo (zo (zo (zo (zo ?_)))))))
    refine z ?_ (h := fun ν => acts_pick_f ν vt xc)
    refine zm (zo (zo (zo (zo (zo (zo (zo (zo (zo ?_)))))))))
    refine z ?_ (h := fun ν => acts_pick_f ν vt xc)
    refine zm (zo (zo (zo (zo (zo ?_)))))
    refine z ?_ (h := fun ν => acts_pick_f ν vt xc)
    refine za (nl (wp_ret' ?_))
    exact VRes.tmp _ _ _ (by exact rfl) (bval (congrArg Value.bool (by first | rfl | (exfalso; omega) | (exfalso; have h1 := hD.wi; omega) | (simp [hD.wi, hge, hwh, hsb, hex]; done) | (simp_all; done))))
end Cl
end Go.Proofs.Ytjgjeflidcembaa
