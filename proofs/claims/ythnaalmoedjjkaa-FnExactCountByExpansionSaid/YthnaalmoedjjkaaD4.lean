/- Walks over clean states, printed by wg.py. No statement is proved here. -/
import Derived.Test.YthnaalmoedjjkaaD2
import Derived.Test.YthnaalmoedjjkaaD3
import Derived.Test.YthnaalmoedjjkaaCl24
namespace Go.Proofs.Ythnaalmoedjjkaa
namespace Cl
open Go.ChangeShapes Go.WideShapes Go.ChangeAt Go.RowKit
set_option maxRecDepth 20000

def nW (a : Int) : Int := IntKind.i64.wrap (-a)
def szW (a : Int) : Int := max a (nW a)
noncomputable def cbs (l : List Int) : Int := if (smR l).length = 0 then -1 else szW (detR (smR l))
theorem cbs_no {l : List Int} (h : (smR l).length = 0) : cbs l = -1 := by unfold cbs; rw [if_pos h]
theorem cbs_yes {l : List Int} (h : (smR l).length ≠ 0) : cbs l = szW (detR (smR l)) := by unfold cbs; rw [if_neg h]
theorem smR_pos {l : List Int} (h : balB l = true) (h2 : inB ((cellsOf l).length : Int) 1 32 = true) : 0 < (smR l).length := by
  rw [smR_yes (so3 h h2)]
  unfold signM; rw [List.length_map]
  unfold balB at h
  rw [Bool.and_eq_true, decide_eq_true_eq] at h
  have h3 := inB_true.1 h2
  have h4 := h.2
  unfold bexc at h4
  unfold blk
  omega

theorem qD4_ti_33 : TI Try.prog 33 true 1 := ⟨⟨_, Try.underlying33, rfl⟩, by kernel_rfl⟩
theorem qD4_un_22 : Try.prog.underlying 22 = some (.slice 28) := Try.underlying22
set_option maxHeartbeats 4000000 in
set_option maxRecDepth 100000 in
theorem SignMatrix_no1 (l : List Int) (hl : l.length ≤ 4194304) (hb : balB l = false) : FnO Try.prog 18 [.agg [(.sl 800 0 l.length : A)]] [(.o 800, some (.o ⟨3, 1, true, pl (isl l)⟩))] (V.v (.slice none 0 0)) [(.o 800, some (.o ⟨3, 1, true, pl (isl l)⟩))] [800] := by
 have h64 := cellsOf_len l
 refine fn_introO (N := 73) Try.func18 rfl (by kernel_rfl) rfl (Nat.le_of_ble_eq_true rfl) rfl rfl (by kernel_rfl) (by kernel_rfl) ⟨oc_pl (fun _ => rfl), trivial⟩ [1, 5, 8, 10, 14, 15, 18, 20, 21, 27, 29, 31, 32, 38, 39, 42, 46, 49, 50, 64, 65, 69, 70] (retO1 rfl) (fun W own kp im0 => ?_)
 show Wp _ _ _ [kV 0 (V.b (.agg [(.sl 800 0 l.length : A)])), kO 800 3 1 true (pl (isl l)), kF 1, kF 5, kF 8, kF 10, kF 14, kF 15, kF 18, kF 20, kF 21, kF 27, kF 29, kF 31, kF 32, kF 38, kF 39, kF 42, kF 46, kF 49, kF 50, kF 64, kF 65, kF 69, kF 70]
 refine sq (rg ?_)
 refine z ?_ (h := fun ν => acts_box (h := 1) ν xt (by exact ob1 rfl))
 refine zk (nl (sq (sq (rg ?_))))
 refine z ?_ (h := fun ν => acts_load_owns (xs := [(.sl 800 0 l.length : A)]) ν qD4_ti_33 rfl (by decide) rfl)
 refine z ?_ (h := fun ν => acts_call1 ν (impl_IsBalanced_fn l (by first | omega | assumption | exact cell_at (by omega) | (simp; omega))) (ac (ArgV.reg _ _ _ (s := 1) (by simp [isl]) (by first | exact List.take_of_length_le (by simp [isl]) | (simp [isl]; done))) an) (resval (congrArg Value.bool hb)))
 refine z ?_ (h := fun ν => acts_un ν vt (r_not (c := true) rfl))
 refine zm (zo (zo (zo (zo ?_))))
 refine z ?_ (h := fun ν => acts_pick_t ν vt xc)
 refine nl (wt (sq (rg (zk (nl (wp_ret' ?_))))))
 exact ⟨_, weak_id, ⟨by kernel_rfl, trivial⟩, VO.tmp 2 (.a (.val (.slice none 0 0))) (by kernel_rfl)⟩

set_option maxHeartbeats 4000000 in
set_option maxRecDepth 100000 in
theorem SignMatrix_no2 (l : List Int) (hl : l.length ≤ 4194304) (hb : balB l = true) (hn : inB ((cellsOf l).length : Int) 1 32 = false) : FnO Try.prog 18 [.agg [(.sl 800 0 l.length : A)]] [(.o 800, some (.o ⟨3, 1, true, pl (isl l)⟩))] (V.v (.slice none 0 0)) [(.o 800, some (.o ⟨3, 1, true, pl (isl l)⟩))] [800] := by
 have h64 := cellsOf_len l
 refine fn_introO (N := 73) Try.func18 rfl (by kernel_rfl) rfl (Nat.le_of_ble_eq_true rfl) rfl rfl (by kernel_rfl) (by kernel_rfl) ⟨oc_pl (fun _ => rfl), trivial⟩ [1, 5, 8, 10, 14, 15, 18, 20, 21, 27, 29, 31, 32, 38, 39, 42, 46, 49, 50, 64, 65, 69, 70] (retO1 rfl) (fun W own kp im0 => ?_)
 show Wp _ _ _ [kV 0 (V.b (.agg [(.sl 800 0 l.length : A)])), kO 800 3 1 true (pl (isl l)), kF 1, kF 5, kF 8, kF 10, kF 14, kF 15, kF 18, kF 20, kF 21, kF 27, kF 29, kF 31, kF 32, kF 38, kF 39, kF 42, kF 46, kF 49, kF 50, kF 64, kF 65, kF 69, kF 70]
 refine sq (rg ?_)
 refine z ?_ (h := fun ν => acts_box (h := 1) ν xt (by exact ob1 rfl))
 refine zk (nl (sq (sq (rg ?_))))
 refine z ?_ (h := fun ν => acts_load_owns (xs := [(.sl 800 0 l.length : A)]) ν qD4_ti_33 rfl (by decide) rfl)
 refine z ?_ (h := fun ν => acts_call1 ν (impl_IsBalanced_fn l (by first | omega | assumption | exact cell_at (by omega) | (simp; omega))) (ac (ArgV.reg _ _ _ (s := 1) (by simp [isl]) (by first | exact List.take_of_length_le (by simp [isl]) | (simp [isl]; done))) an) (resval (congrArg Value.bool hb)))
 refine z ?_ (h := fun ν => acts_un ν vt (r_not (c := false) rfl))
 refine zm ?_
 refine zg ?_ (h := fun ν => step_on rfl rfl (acts_load_owns (xs := [(.sl 800 0 l.length : A)]) ν qD4_ti_33 rfl (by decide) rfl))
 refine zg ?_ (h := fun ν => step_on rfl rfl (acts_call1 ν (impl_CountCells_fn l (by first | omega | assumption | exact cell_at (by omega) | (simp; omega))) (ac (ArgV.reg _ _ _ (s := 1) (by simp [isl]) (by first | exact List.take_of_length_le (by simp [isl]) | (simp [isl]; done))) an) rv))
 refine zg ?_ (h := fun ν => step_on rfl rfl (acts_call1 ν (impl_within_fn (((cellsOf l).length : Nat) : Int) 1 32 ) (ac (ArgV.v vt) (ac (ArgV.v vc) (ac (ArgV.v vc) an))) (resval (congrArg Value.bool hn))))
 refine zg ?_ (h := fun ν => step_on rfl rfl (acts_un ν vt (r_not (c := true) rfl)))
 refine z ?_ (h := fun ν => acts_pick_f ν vt xt)
 refine nl (wt (sq (rg (zk (nl (wp_ret' ?_))))))
 exact ⟨_, weak_id, ⟨by kernel_rfl, trivial⟩, VO.tmp 2 (.a (.val (.slice none 0 0))) (by kernel_rfl)⟩

set_option maxHeartbeats 4000000 in
set_option maxRecDepth 100000 in
theorem size_w (a : Int) : Fn Try.prog 45 [.a (.val (.int .i64 a))] [.val (.int .i64 (szW a))] := by
 refine fn_intro (N := 7) Try.func45 rfl (by kernel_rfl) rfl (Nat.le_of_ble_eq_true rfl) [6] (ret1 rfl) (fun W => ?_)
 show Wp _ _ _ [kI 0 a, kF 6]
 refine sq (rg (zk (nl (sq (rg (zm (zm ?_)))))))
 refine z ?_ (h := fun ν => acts_un ν vt (r_neg (c := (nW a)) rfl))
 refine z ?_ (h := fun ν => acts_max (c := (max a (nW a))) ν vt vt (by omega))
 refine za (nl (wp_ret' ?_))
 exact VRes.tmp _ _ _ (by exact rfl) (bval (congrArg (Value.int .i64) (by rfl)))

set_option maxHeartbeats 4000000 in
set_option maxRecDepth 100000 in
theorem impl_CountBySigns_fn (l : List Int) (hl : l.length ≤ 4194304) : FnO Try.prog 24 [.agg [(.sl 800 0 l.length : A)]] [(.o 800, some (.o ⟨3, 1, true, pl (isl l)⟩))] (V.v (.int .i64 (cbs l))) [(.o 800, some (.o ⟨3, 1, true, pl (isl l)⟩))] [800] := by
 have h64 := smR_len l
 have hr22 : ∀ k, k < (smR l).length → (gLs (smR l) k).length ≤ 4194304 := fun k hk => Nat.le_trans (smR_row hk) (by decide)
 refine fn_introO (N := 11) Try.func24 rfl (by kernel_rfl) rfl (Nat.le_of_ble_eq_true rfl) rfl rfl (by kernel_rfl) (by kernel_rfl) ⟨oc_pl (fun _ => rfl), trivial⟩ [1, 5, 9, 10] (retO1 rfl) (fun W own kp im0 => ?_)
 show Wp _ _ _ [kV 0 (V.b (.agg [(.sl 800 0 l.length : A)])), kO 800 3 1 true (pl (isl l)), kF 1, kF 5, kF 9, kF 10]
 refine sq (rg ?_)
 refine z ?_ (h := fun ν => acts_box (h := 1) ν xt (by exact ob1 rfl))
 refine zk (nl (sq ?_))
 rcases Bool.eq_false_or_eq_true ((balB l)) with c1 | c1
 ·skip
  rcases Bool.eq_false_or_eq_true ((inB (((cellsOf l).length : Nat) : Int) 1 32)) with c2 | c2
  ·skip
   have hps := smR_pos (by assumption) c2
   refine rg ?_
   refine z ?_ (h := fun ν => acts_load_owns (xs := [(.sl 800 0 l.length : A)]) ν qD4_ti_33 rfl (by decide) rfl)
   refine z ?_ (h := fun ν => acts_callO (d := 5) (f := 18) (os := [(.o 800, some (.o ⟨3, 1, true, pl (isl l)⟩))]) (os' := [(.o 800, some (.o ⟨3, 1, true, pl (isl l)⟩)), (.o 5, some (.o ⟨28, 1, true, rwI 3 (smR l)⟩))]) (r := V.b (.a (.sl 5 0 ((smR l).length)))) (bs := [.agg [(.sl 800 0 l.length : A)]]) (keep := [800]) (new := [5]) (dead := []) ν (FnO.ren' (impl_SignMatrix_fn l (by first | omega | assumption)) (subst1 [(900, 5)]) rfl rfl (by kernel_rfl) (by kernel_rfl) ⟨oc_pl (fun _ => rfl), oc_rwI, trivial⟩ (by kernel_rfl) rfl (by simp only [renS, Ob.ren, pl_ren, rws_ren_doms, rws_ren_ints, rws_ren_cels, rwI_ren, rwD_ren]; first | done | rfl) (by simp only [renS, Ob.ren, pl_ren, rws_ren_doms, rws_ren_ints, rws_ren_cels, rwI_ren, rwD_ren]; first | done | rfl) rfl rfl) (by kernel_rfl) ⟨oc_pl (fun _ => rfl), oc_rwI, trivial⟩ (by kernel_rfl) (ArgOs.cons (ArgO.slot 4 (.agg [(.sl 800 0 l.length : A)])) (ArgOs.nil)))
   refine za (nl (sq (sq (rg (zm ?_)))))
   refine z ?_ (h := fun ν => acts_seql ν qD4_un_22 (by first | omega | assumption))
   refine nl (wf (sk (sq (rg (zm ?_)))))
   refine z ?_ (h := fun ν => acts_call1 ν (impl_DeterminantOf_fn (smR l) (by first | omega | assumption) (by first | omega | assumption)) (ac (dvI (L := (smR l))) an) rv)
   refine z ?_ (h := fun ν => acts_call1 ν (size_w (detR (smR l)) ) (ac (ArgV.v vt) an) rv)
   refine za (nl (wp_ret' ?_))
   exact ⟨_, weak_id, ⟨by kernel_rfl, trivial⟩, vo_eq 2 (.a (.val (.int .i64 (szW (detR (smR l)))))) (.a (.val (.int .i64 (cbs l)))) (by kernel_rfl) (congrArg (fun z : Int => B.a (.val (.int .i64 z))) (by first | exact Eq.symm (cbs_no (by omega)) | exact Eq.symm (cbs_no (smR_nl hno)) | exact Eq.symm (cbs_yes (by omega))))⟩
  ·skip
   have hno := so2 c2
   refine rg ?_
   refine z ?_ (h := fun ν => acts_load_owns (xs := [(.sl 800 0 l.length : A)]) ν qD4_ti_33 rfl (by decide) rfl)
   refine z ?_ (h := fun ν => acts_callO (d := 5) (f := 18) (os := [(.o 800, some (.o ⟨3, 1, true, pl (isl l)⟩))]) (os' := [(.o 800, some (.o ⟨3, 1, true, pl (isl l)⟩))]) (r := V.v (.slice none 0 0)) (bs := [.agg [(.sl 800 0 l.length : A)]]) (keep := [800]) (new := []) (dead := []) ν ((SignMatrix_no2 l (by first | omega | assumption) (by first | omega | assumption) (by first | omega | assumption))) (by kernel_rfl) ⟨oc_pl (fun _ => rfl), trivial⟩ (by kernel_rfl) (ArgOs.cons (ArgO.slot 4 (.agg [(.sl 800 0 l.length : A)])) (ArgOs.nil)))
   refine za (nl (sq (sq (rg (zm ?_)))))
   refine z ?_ (h := fun ν => acts_bin ν vt vc (r_seql0 qD4_un_22 rfl))
   refine nl (wt (sq (rg (zk (nl (wp_ret' ?_))))))
   exact ⟨_, weak_id, ⟨by kernel_rfl, trivial⟩, vo_eq 2 (.a (.val (.int .i64 (-1)))) (.a (.val (.int .i64 (cbs l)))) (by kernel_rfl) (congrArg (fun z : Int => B.a (.val (.int .i64 z))) (by first | exact Eq.symm (cbs_no (by omega)) | exact Eq.symm (cbs_no (smR_nl hno)) | exact Eq.symm (cbs_yes (by omega))))⟩
 ·skip
  have hno := so1 c1
  refine rg ?_
  refine z ?_ (h := fun ν => acts_load_owns (xs := [(.sl 800 0 l.length : A)]) ν qD4_ti_33 rfl (by decide) rfl)
  refine z ?_ (h := fun ν => acts_callO (d := 5) (f := 18) (os := [(.o 800, some (.o ⟨3, 1, true, pl (isl l)⟩))]) (os' := [(.o 800, some (.o ⟨3, 1, true, pl (isl l)⟩))]) (r := V.v (.slice none 0 0)) (bs := [.agg [(.sl 800 0 l.length : A)]]) (keep := [800]) (new := []) (dead := []) ν ((SignMatrix_no1 l (by first | omega | assumption) (by first | omega | assumption))) (by kernel_rfl) ⟨oc_pl (fun _ => rfl), trivial⟩ (by kernel_rfl) (ArgOs.cons (ArgO.slot 4 (.agg [(.sl 800 0 l.length : A)])) (ArgOs.nil)))
  refine za (nl (sq (sq (rg (zm ?_)))))
  refine z ?_ (h := fun ν => acts_bin ν vt vc (r_seql0 qD4_un_22 rfl))
  refine nl (wt (sq (rg (zk (nl (wp_ret' ?_))))))
  exact ⟨_, weak_id, ⟨by kernel_rfl, trivial⟩, vo_eq 2 (.a (.val (.int .i64 (-1)))) (.a (.val (.int .i64 (cbs l)))) (by kernel_rfl) (congrArg (fun z : Int => B.a (.val (.int .i64 z))) (by first | exact Eq.symm (cbs_no (by omega)) | exact Eq.symm (cbs_no (smR_nl hno)) | exact Eq.symm (cbs_yes (by omega))))⟩

set_option maxHeartbeats 4000000 in
set_option maxRecDepth 100000 in
theorem spec_CountBySigns_fn (l : List Int) (hl : l.length ≤ 4194304) : FnO Try.prog 23 [.agg [(.sl 800 0 l.length : A)]] [(.o 800, some (.o ⟨3, 1, true, pl (isl l)⟩))] (V.v (.int .i64 (cbs l))) [(.o 800, some (.o ⟨3, 1, true, pl (isl l)⟩))] [800] := by
 have h64 := smR_len l
 have hr22 : ∀ k, k < (smR l).length → (gLs (smR l) k).length ≤ 4194304 := fun k hk => Nat.le_trans (smR_row hk) (by decide)
 refine fn_introO (N := 16) Try.func23 rfl (by kernel_rfl) rfl (Nat.le_of_ble_eq_true rfl) rfl rfl (by kernel_rfl) (by kernel_rfl) ⟨oc_pl (fun _ => rfl), trivial⟩ [1, 6, 8, 11, 15] (retO1 rfl) (fun W own kp im0 => ?_)
 show Wp _ _ _ [kV 0 (V.b (.agg [(.sl 800 0 l.length : A)])), kO 800 3 1 true (pl (isl l)), kF 1, kF 6, kF 8, kF 11, kF 15]
 refine sq (rg ?_)
 refine z ?_ (h := fun ν => acts_box (h := 1) ν xt (by exact ob1 rfl))
 refine zk (nl (sq (rg ?_)))
 refine z ?_ (h := fun ν => acts_load_owns (xs := [(.sl 800 0 l.length : A)]) ν qD4_ti_33 rfl (by decide) rfl)
 refine z ?_ (h := fun ν => acts_callO (d := 6) (f := 16) (os := [(.o 800, some (.o ⟨3, 1, true, pl (isl l)⟩))]) (os' := [(.o 800, some (.o ⟨3, 1, true, pl (isl l)⟩)), (.o 6, some (.o ⟨28, 1, true, rwI 3 (smR l)⟩))]) (r := V.b (.a (.sl 6 0 ((smR l).length)))) (bs := [.agg [(.sl 800 0 l.length : A)]]) (keep := [800]) (new := [6]) (dead := []) ν (FnO.ren' (spec_SignMatrix_fn l (by first | omega | assumption)) (subst1 [(900, 6)]) rfl rfl (by kernel_rfl) (by kernel_rfl) ⟨oc_pl (fun _ => rfl), oc_rwI, trivial⟩ (by kernel_rfl) rfl (by simp only [renS, Ob.ren, pl_ren, rws_ren_doms, rws_ren_ints, rws_ren_cels, rwI_ren, rwD_ren]; first | done | rfl) (by simp only [renS, Ob.ren, pl_ren, rws_ren_doms, rws_ren_ints, rws_ren_cels, rwI_ren, rwD_ren]; first | done | rfl) rfl rfl) (by kernel_rfl) ⟨oc_pl (fun _ => rfl), oc_rwI, trivial⟩ (by kernel_rfl) (ArgOs.cons (ArgO.slot 5 (.agg [(.sl 800 0 l.length : A)])) (ArgOs.nil)))
 refine za (nl (sq (sq (rg (zm ?_)))))
 refine z ?_ (h := fun ν => lnS ν qD4_un_22)
 refine z ?_ (h := fun ν => acts_bin ν vt vc (r_eql rfl))
 refine nl ?_
 refine wi (fun c1 => ?_) (fun c1 => ?_)
 ·skip
  have c1P := of_decide_eq_true c1
  refine sq (rg (zk (nl (wp_ret' ?_))))
  exact ⟨_, weak_id, ⟨by kernel_rfl, trivial⟩, vo_eq 2 (.a (.val (.int .i64 (-1)))) (.a (.val (.int .i64 (cbs l)))) (by kernel_rfl) (congrArg (fun z : Int => B.a (.val (.int .i64 z))) (by first | exact Eq.symm (cbs_no (by omega)) | exact Eq.symm (cbs_no (smR_nl hno)) | exact Eq.symm (cbs_yes (by omega))))⟩
 ·skip
  have c1P := of_decide_eq_false c1
  refine sk (sq (rg (zm ?_)))
  refine z ?_ (h := fun ν => acts_call1 ν (spec_DeterminantOf_fn (smR l) (by first | omega | assumption) (by first | omega | assumption)) (ac (dvI (L := (smR l))) an) rv)
  refine za (nl (sq (rg (zm (zm ?_)))))
  refine z ?_ (h := fun ν => acts_un ν vt (r_neg (c := (nW (detR (smR l)))) rfl))
  refine z ?_ (h := fun ν => acts_max (c := (max (detR (smR l)) (nW (detR (smR l))))) ν vt vt (by omega))
  refine za (nl (wp_ret' ?_))
  exact ⟨_, weak_id, ⟨by kernel_rfl, trivial⟩, vo_eq 2 (.a (.val (.int .i64 (max (detR (smR l)) (nW (detR (smR l))))))) (.a (.val (.int .i64 (cbs l)))) (by kernel_rfl) (congrArg (fun z : Int => B.a (.val (.int .i64 z))) (by first | exact Eq.symm (cbs_no (by omega)) | exact Eq.symm (cbs_no (smR_nl hno)) | exact Eq.symm (cbs_yes (by omega))))⟩
end Cl
end Go.Proofs.Ythnaalmoedjjkaa
