/- Walks over clean states, printed by wg.py. No statement is proved here. -/
import Derived.Test.YtgmkkfdnmdohlaaDoorFp
import Derived.Test.YtgmkkfdnmdohlaaDoorW3
import Derived.Test.YtgmkkfdnmdohlaaDoorClB
set_option linter.unusedSimpArgs false
set_option linter.unusedVariables false
namespace Go.Proofs.YtgmkkfdnmdohlaaDoor
namespace Cl
open Go.ChangeShapes Go.WideShapes Go.ChangeAt Go.RowKit
set_option maxRecDepth 20000

theorem prN_bd (l : List Int) : 0 ≤ prN (lkM (ltR l)) (ltR l).length ∧ prN (lkM (ltR l)) (ltR l).length ≤ 300 := by
  have h1 := prT_cnt (lkM (ltR l)) (ltR l).length (ltR l).length
  have h2 := ltR_len l
  unfold prN; omega

theorem qW12_ti_24 : TI Tryd.prog 24 true 1 := ⟨⟨_, Tryd.underlying24, rfl⟩, by kernel_rfl⟩
theorem qW12_ti_27 : TI Tryd.prog 27 true 1 := ⟨⟨_, Tryd.underlying27, rfl⟩, by kernel_rfl⟩
theorem qW12_zi_27 : ZI Tryd.prog 27 (.agg #[.slice none 0 0]) 1 24 := by unfold ZI; kernel_rfl
set_option maxHeartbeats 4000000 in
set_option maxRecDepth 100000 in
theorem laws_FnExactCountFlipParts_fn (l : List Int) (hl : l.length ≤ 9223372036854775807) : Fn Tryd.prog 3 [.agg [(.slv l.length 1 (isl l) : A)]] [.val (.bool true)] := by
 have hpb := prN_bd l
 refine fn_intro (N := 27) Tryd.func3 rfl (by kernel_rfl) rfl (Nat.le_of_ble_eq_true rfl) [1, 5, 9, 13, 14, 16, 18, 24, 25] (ret1 rfl) (fun W => ?_)
 show Wp _ _ _ [kV 0 (V.b (.agg [(.slv l.length 1 (isl l) : A)])), kF 1, kF 5, kF 9, kF 13, kF 14, kF 16, kF 18, kF 24, kF 25]
 refine sq (rg ?_)
 refine z ?_ (h := fun ν => acts_box (h := 1) ν xt (by exact ob1 rfl))
 refine zk (nl (sq (rg (zk (nl (sq (rg ?_)))))))
 refine z ?_ (h := fun ν => acts_load_owns (xs := [(.slv l.length 1 (isl l) : A)]) ν qW12_ti_24 rfl (by decide) rfl)
 refine zm ?_
 refine z ?_ (h := fun ν => acts_call1 ν (laws_szRegion_fn l 1048576 (by first | omega | assumption) (by first | omega | assumption)) (ac (ArgV.regv _ _ 1 _) (ac (ArgV.v vt) an)) rv)
 refine za (nl (sq (sq (rg (zm ?_)))))
 refine z ?_ (h := fun ν => acts_bin ν vt vc (r_lss rfl))
 refine nl ?_
 refine wi (fun c1 => ?_) (fun c1 => ?_)
 ·skip
  have c1P := of_decide_eq_true c1
  refine sq (rg (zk (nl (wp_ret' ?_))))
  exact VRes.tmp _ _ _ (by exact rfl) (BRes.val _)
 ·skip
  have c1P := of_decide_eq_false c1
  have hsc := szS_cases 1048576 l.length
  have hA : l.length ≤ 4194304 := by omega
  refine sk (sq (rg ?_))
  refine z ?_ (h := fun ν => acts_load_owns (xs := [(.slv l.length 1 (isl l) : A)]) ν qW12_ti_24 rfl (by decide) rfl)
  refine z ?_ (h := fun ν => acts_call1 ν (laws_toRegion_fn l (by first | omega | assumption)) (ac (ArgV.regv _ _ 1 _) an) (ResV.reg _ _ _ _ 13))
  refine z ?_ (h := fun ν => acts_callO (d := 14) (f := 5) (os := [(.o 13, some (.o ⟨3, 1, true, pl (isl l)⟩))]) (os' := [(.o 13, some (.o ⟨3, 1, true, pl (isl l)⟩))]) (r := V.v (.int .i64 (prN (lkM (ltR l)) (ltR l).length))) (bs := [.agg [(.sl 13 0 l.length : A)]]) (keep := [13]) (new := []) (dead := []) ν (FnO.ren' (spec_CountFlipParts_fn l (by first | omega | assumption)) (subst1 [(800, 13)]) rfl rfl (by kernel_rfl) (by kernel_rfl) ⟨oc_pl (fun _ => rfl), trivial⟩ (by kernel_rfl) rfl (by simp only [renS, Ob.ren, pl_ren, rws_ren_doms, rws_ren_ints, rws_ren_cels, rwI_ren, rwD_ren]; first | done | rfl) (by simp only [renS, Ob.ren, pl_ren, rws_ren_doms, rws_ren_ints, rws_ren_cels, rwI_ren, rwD_ren]; first | done | rfl) rfl rfl) (by kernel_rfl) ⟨oc_pl (fun _ => rfl), trivial⟩ (by kernel_rfl) (ArgOs.cons (ArgO.slot 13 (.agg [(.sl 13 0 l.length : A)])) (ArgOs.nil)))
  refine za (nl (sq (rg ?_)))
  refine z ?_ (h := fun ν => acts_load_owns (xs := [(.slv l.length 1 (isl l) : A)]) ν qW12_ti_24 rfl (by decide) rfl)
  refine z ?_ (h := fun ν => acts_call1 ν (laws_toRegion_fn l (by first | omega | assumption)) (ac (ArgV.regv _ _ 1 _) an) (ResV.reg _ _ _ _ 16))
  refine z ?_ (h := fun ν => acts_alloc' (h := 5) (cap := 1) (s := 1) (cells := [(.val (.slice none 0 0) : A)]) ν qW12_zi_27 rfl rfl (by decide))
  refine z ?_ (h := fun _ => acts_store (cells := [(.sl 16 0 l.length : A)]) qW12_ti_27 xt (by exact rfl) (by decide) (by exact ob1 rfl) (by exact Nat.le_of_ble_eq_true rfl) (by exact rfl))
  refine nl (sq (rg ?_))
  refine z ?_ (h := fun ν => acts_load_owns (xs := [(.sl 16 0 l.length : A)]) ν qW12_ti_27 rfl (by decide) rfl)
  refine z ?_ (h := fun ν => acts_callO (d := 18) (f := 7) (os := [(.o 16, some (.o ⟨3, 1, true, pl (isl l)⟩))]) (os' := [(.o 16, some (.o ⟨3, 1, true, pl (isl l)⟩))]) (r := V.v (.int .i64 (prN (lkM (ltR l)) (ltR l).length))) (bs := [.agg [(.sl 16 0 l.length : A)]]) (keep := [16]) (new := []) (dead := []) ν (FnO.ren' (impl_CountFlipParts_fn l (by first | omega | assumption)) (subst1 [(800, 16)]) rfl rfl (by kernel_rfl) (by kernel_rfl) ⟨oc_pl (fun _ => rfl), trivial⟩ (by kernel_rfl) rfl (by simp only [renS, Ob.ren, pl_ren, rws_ren_doms, rws_ren_ints, rws_ren_cels, rwI_ren, rwD_ren]; first | done | rfl) (by simp only [renS, Ob.ren, pl_ren, rws_ren_doms, rws_ren_ints, rws_ren_cels, rwI_ren, rwD_ren]; first | done | rfl) rfl rfl) (by kernel_rfl) ⟨oc_pl (fun _ => rfl), trivial⟩ (by kernel_rfl) (ArgOs.cons (ArgO.slot 17 (.agg [(.sl 16 0 l.length : A)])) (ArgOs.nil)))
  refine za (nl (sq (sq (rg (zm (zm ?_))))))
  refine z ?_ (h := fun ν => acts_bin ν vt vt (r_neq rfl))
  refine nl ?_
  refine wi (fun c2 => ?_) (fun c2 => ?_)
  ·skip
   have c2P := of_decide_eq_true c2
   refine sq (rg (zk (nl (wp_ret' ?_))))
   exact VRes.tmp _ _ _ (by exact rfl) (bval (congrArg Value.bool (by first | rfl | exact absurd (Eq.refl l) (by assumption) | (exfalso; omega) | exact absurd (Eq.refl (prN (lkM (ltR l)) (ltR l).length)) (by assumption))))
  ·skip
   have c2P := of_decide_eq_false c2
   refine sk (sq (sq (wp_dr ?_)))
   refine zd ?_ (h := fun ν => acts_load_owns (xs := [(.sl 16 0 l.length : A)]) ν qW12_ti_27 rfl (by decide) rfl)
   refine zd ?_ (h := fun ν => acts_load_owns (xs := [(.slv l.length 1 (isl l) : A)]) ν qW12_ti_24 rfl (by decide) rfl)
   refine zd ?_ (h := fun ν => acts_call1 ν (laws_toRegion_fn l (by first | omega | assumption)) (ac (ArgV.regv _ _ 1 _) an) (ResV.reg _ _ _ _ 24))
   refine zd ?_ (h := fun ν => acts_call1 ν (laws_eqRegion_fn l l (by first | omega | assumption) (by first | omega | assumption)) (ac (ArgV.reg _ _ _ (s := 1) (by simp [isl]) (by first | exact List.take_of_length_le (by simp [isl]) | (simp [isl]; done))) (ac (ArgV.reg _ _ _ (s := 1) (by simp [isl]) (by first | exact List.take_of_length_le (by simp [isl]) | (simp [isl]; done))) an)) rv)
   refine zd ?_ (h := fun ν => acts_un ν vt (r_not rfl))
   refine dw_nil ?_
   refine wi (b := (!(decide (l = l)))) (fun c3 => ?_) (fun c3 => ?_)
   ·skip
    have c4 : decide (l = l) = false := by first | (rw [← Bool.not_eq_true']; exact c3) | simpa using c3
    have c4P := of_decide_eq_false c4
    refine sq (rg (zk (nl (wp_ret' ?_))))
    exact VRes.tmp _ _ _ (by exact rfl) (bval (congrArg Value.bool (by first | rfl | exact absurd (Eq.refl l) (by assumption) | (exfalso; omega) | exact absurd (Eq.refl (prN (lkM (ltR l)) (ltR l).length)) (by assumption))))
   ·skip
    have c5 : decide (l = l) = true := by first | (rw [← Bool.not_eq_false']; exact c3) | simpa using c3
    have c5P := of_decide_eq_true c5
    refine sk (sq (rg (zk (nl (wp_ret' ?_)))))
    exact VRes.tmp _ _ _ (by exact rfl) (BRes.val _)
end Cl
end Go.Proofs.YtgmkkfdnmdohlaaDoor
