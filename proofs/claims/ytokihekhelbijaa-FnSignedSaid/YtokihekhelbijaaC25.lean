/- Walks over clean states, printed by wg.py. No statement is proved here. -/
import Derived.Test.YtokihekhelbijaaCH
import Derived.Test.YtokihekhelbijaaClB
namespace Go.Proofs.Ytokihekhelbijaa
namespace Cl
open Go.ChangeShapes Go.WideShapes Go.ChangeAt Go.RowKit
set_option maxRecDepth 20000

theorem nI_at {L M : List Nat} {i : Nat} {s k t : Nat} {lst : List Nat} (h : BT s k L lst i t M) : gI (nI M) i = ((gN lst i : Nat) : Int) := by rw [gI_nI (by have := h.le; omega), h.ow]
theorem BT.skp {l : List Int} {k : Nat} {L lst M : List Nat} {i p q : Nat} (hg : BG (regSet l) k L lst i) (hi : i < lst.length) (h : BT (regSet l) k L lst i (3 * p + q) M) (hp : p < 3) (hq : q < 3) (ho : regOk l = true)
    (hc : ((!(inB (((gN lst i % 10 : Nat) : Int) + ((q : Int) - 1)) 0 9)) || ((!(inB (((gN lst i / 10 : Nat) : Int) + ((p : Int) - 1)) 0 9)) || (decide (gI (mkI (L ++ M)) ((((gN lst i / 10 : Nat) : Int) + ((p : Int) - 1)) * 10 + (((gN lst i % 10 : Nat) : Int) + ((q : Int) - 1))).toNat ≠ 0) || hasC l ⟨((gN lst i % 10 : Nat) : Int) + ((q : Int) - 1) - 1, ((gN lst i / 10 : Nat) : Int) + ((p : Int) - 1) - 1⟩))) = true) : BT (regSet l) k L lst i (3 * p + (q + 1)) M := by
  rcases Bool.eq_false_or_eq_true (inB (((gN lst i % 10 : Nat) : Int) + ((q : Int) - 1)) 0 9) with h1 | h1
  · rcases Bool.eq_false_or_eq_true (inB (((gN lst i / 10 : Nat) : Int) + ((p : Int) - 1)) 0 9) with h2 | h2
    · have hx := inB_true.1 h1
      have hy := inB_true.1 h2
      rw [h1, h2, Bool.not_true, Bool.false_or, Bool.false_or, Bool.or_eq_true, decide_eq_true_eq] at hc
      rcases hc with hc | hc
      · exact BT.no2 hg hi h hp hq hx hy (.inl (Classical.not_not.1 fun hn => hc ((mkI_zero (kxy_at hx hy).2.2).2 hn)))
      · exact BT.no2 hg hi h hp hq hx hy (.inr (free_hasC2 ho hx hy hc))
    · exact h.no1 (hg.at hi) hq (by rw [h2]; exact Bool.and_false _)
  · exact h.no1 (hg.at hi) hq (by rw [h1]; rfl)
theorem skip_orK {l : List Int} (ho : regOk l = true) {k : Nat} (hk : k < 100) {L : List Nat} (h : ScanI (regSet l) k L) (hc : decide (gI (mkI L) k ≠ 0) = true ∨ hasC l (c10 k) = true) : ScanI (regSet l) (k + 1) L ∧ rt (regSet l) (k + 1) = rt (regSet l) k := by
  rcases hc with hc | hc
  · exact skip_no h (.inr (Classical.not_not.1 fun hn => of_decide_eq_true hc ((mkI_zero hk).2 hn)))
  · exact skip_no h (.inl (free_hasC ho hk hc))

theorem qC25_bs_46 : ∀ (a b : Int), Try.prog.built 46 [(0, .int .i64 a), (1, .int .i64 b)] = some ([.int .i64 a, .int .i64 b] : List Value).toArray := fun _ _ => rfl
theorem qC25_sz_3 : (Try.prog.info? 3).map (·.size) = some 1 := by kernel_rfl
theorem qC25_ti_26 : TI Try.prog 26 true 1 := ⟨⟨_, Try.underlying26, rfl⟩, by kernel_rfl⟩
theorem qC25_ti_3 : TI Try.prog 3 false 1 := ⟨⟨_, Try.underlying3, rfl⟩, by kernel_rfl⟩
theorem qC25_ti_46 : TI Try.prog 46 true 2 := ⟨⟨_, Try.underlying46, rfl⟩, by kernel_rfl⟩
theorem qC25_un_24 : Try.prog.underlying 24 = some (.slice 3) := Try.underlying24
theorem qC25_zi_3 : ZI Try.prog 3 (.int .i64 0) 1 8 := by unfold ZI; kernel_rfl
theorem qC25_zi_46 : ZI Try.prog 46 (.agg #[.int .i64 0, .int .i64 0]) 2 16 := by unfold ZI; kernel_rfl
set_option maxHeartbeats 4000000 in
set_option maxRecDepth 100000 in
theorem spec_CountHoles_fn (l : List Int) (hl : l.length ≤ 4194304) : Fn Try.prog 12 [.agg [(.slv l.length 1 (isl l) : A)]] [.val (.int .i64 (hol l))] := by
 refine fn_intro (N := 131) Try.func12 rfl (by kernel_rfl) rfl (Nat.le_of_ble_eq_true rfl) [1, 7, 15, 20, 23, 44, 52, 55, 86, 92, 113, 128, 129] (ret1 rfl) (fun W => ?_)
 show Wp _ _ _ [kV 0 (V.b (.agg [(.slv l.length 1 (isl l) : A)])), kF 1, kF 7, kF 15, kF 20, kF 23, kF 44, kF 52, kF 55, kF 86, kF 92, kF 113, kF 128, kF 129]
 refine sq (rg ?_)
 refine z ?_ (h := fun ν => acts_box (h := 1) ν xt (by exact ob1 rfl))
 refine zk (nl (sq (sq (rg ?_))))
 refine z ?_ (h := fun ν => acts_load_owns (xs := [(.slv l.length 1 (isl l) : A)]) ν qC25_ti_26 rfl (by decide) rfl)
 refine z ?_ (h := fun ν => acts_call1 ν (spec_RegionOk_fn l (by first | omega | assumption | (rw [mkI_len]; omega) | (rw [nI_len]; omega))) (ac (ArgV.regv _ _ 1 _) an) rv)
 refine z ?_ (h := fun ν => acts_un ν vt (r_not rfl))
 refine nl ?_
 refine wi (b := (!(regOk l))) (fun c1 => ?_) (fun c1 => ?_)
 ·skip
  have c2 : (regOk l) = false := by first | (rw [← Bool.not_eq_true']; exact c1) | simpa using c1
  refine sq (rg (zk (nl (wp_ret' ?_))))
  exact VRes.tmp _ _ _ (by exact rfl) (bval (congrArg (Value.int .i64) (by first | exact hol_no (by simp_all) | exact (hol_no (by simp_all)).symm)))
 ·skip
  have c3 : (regOk l) = true := by first | (rw [← Bool.not_eq_false']; exact c1) | simpa using c1
  have hro := c3
  refine sk (sq (rg (zk (nl (sq (rg (zm (zm ?_))))))))
  refine z ?_ (h := fun ν => acts_bin ν vt vt (r_mul (c := 100) (by exact w64 (by first | omega | assumption | (rw [mkI_len]; omega) | (rw [nI_len]; omega)) (by first | omega | assumption | (rw [mkI_len]; omega) | (rw [nI_len]; omega)))))
  refine z ?_ (h := fun ν => acts_make' (h := 20) (n := 100) (xs := isl (List.replicate 100 0)) ν qC25_un_24 qC25_zi_3 vt vt rfl rfl (by decide) (by first | omega | assumption | (rw [mkI_len]; omega) | (rw [nI_len]; omega)) (made_ints' 100))
  refine za (nl (sq (rg (zk (nl (sq (sq (rg (zk (nl (bkk ?_)))))))))))
  refine wp_loop' (fun ((k, L) : Nat × (List Nat)) => k ≤ 100 ∧ ScanI (regSet l) k L) (fun ((k, L) : Nat × (List Nat)) => [kP 1 1 0, kI 3 10, kS 4 20 0 100, kI 5 (((rt (regSet l) k : Nat) : Int) - 1), kI 6 ((k : Nat) : Int), kO 1 26 1 true [(.slv l.length 1 (isl l) : A)], kO 20 3 1 true (pl (isl (mkI L))), kF 7, kF 15, kF 23, kF 44, kF 52, kF 55, kF 86, kF 92, kF 113, kF 128, kF 129]) (fun ((k, L) : Nat × (List Nat)) => 100 - k) ((0 : Nat), ([] : List Nat)) (by exact ⟨by omega, ScanI.zero _⟩) (wkf id (wS <| wS <| wS <| wE (e := (vint (by first | rfl | omega | exact mkI_nil | exact mkI_nil.symm | (rw [rt_zero]; rfl) | (simp; done)))) <| wE (e := (vint (by first | rfl | omega | exact mkI_nil | exact mkI_nil.symm | (rw [rt_zero]; rfl) | (simp; done)))) <| wX <| wO (e := renob_eq (fun h => h) (congrArg isl (by first | rfl | omega | exact mkI_nil | exact mkI_nil.symm | (rw [rt_zero]; rfl) | (simp; done)))) <| by (iterate 11 refine wF ?_); exact wN)) ?_
  rintro ⟨k, L⟩ inv4
  replace inv4 : k ≤ 100 ∧ ScanI (regSet l) k L := inv4
  obtain ⟨inv4_0, inv4_1⟩ := inv4
  have hS : ScanI (regSet l) k L := by assumption
  have hrl := rt_le (regSet l) k
  have hmil := mkI_len L
  refine sq (sq (rg (zm (zm ?_))))
  refine z ?_ (h := fun ν => lnS (iv := 100) ν qC25_un_24)
  refine z ?_ (h := fun ν => acts_bin ν vt vt (r_lss rfl))
  refine nl ?_
  refine wi (fun c5 => ?_) (fun c5 => ?_)
  ·skip
   have c5P := of_decide_eq_true c5
   refine sk (sq (bkk (sq (wp_dr (zdm (zdm ?_))))))
   refine zd ?_ (h := fun ν => acts_bin ν vt vt (r_rem (c := (((k % 10) : Nat) : Int)) (by decide) (remN (a := ((k : Nat) : Int)) (b := k) (c := 10) rfl)))
   refine zd ?_ (h := fun ν => acts_bin ν vt vc (rS (by first | omega | assumption | (rw [mkI_len]; omega) | (rw [nI_len]; omega)) (by first | omega | assumption | (rw [mkI_len]; omega) | (rw [nI_len]; omega))))
   refine zdm (zdm ?_)
   refine zd ?_ (h := fun ν => acts_bin ν vt vt (r_quo (c := (((k / 10) : Nat) : Int)) (by decide) (quoN (a := ((k : Nat) : Int)) (b := k) (c := 10) rfl (by decide) (by first | omega | assumption | (rw [mkI_len]; omega) | (rw [nI_len]; omega)))))
   refine zd ?_ (h := fun ν => acts_bin ν vt vc (rS (by first | omega | assumption | (rw [mkI_len]; omega) | (rw [nI_len]; omega)) (by first | omega | assumption | (rw [mkI_len]; omega) | (rw [nI_len]; omega))))
   refine zd ?_ (h := fun ν => bC ν qC25_bs_46 vt vt)
   refine zd ?_ (h := fun ν => acts_alloc' (h := 7) (cap := 1) (s := 2) (cells := [aI 0, aI 0]) ν qC25_zi_46 rfl rfl (by decide))
   refine zd ?_ (h := fun _ => acts_store (cells := [aI ((((k % 10) : Nat) : Int) - 1), aI ((((k / 10) : Nat) : Int) - 1)]) qC25_ti_46 xt (by exact rfl) (by decide) (by exact ob1 rfl) (by exact Nat.le_of_ble_eq_true rfl) (by exact rfl))
   refine dw_nil (sq (sq ?_))
   refine wp_join [kB 45 ((decide ((gI (mkI L) k) ≠ 0)) || (hasC l (⟨((((k % 10) : Nat) : Int) - 1), ((((k / 10) : Nat) : Int) - 1)⟩ : Cel))), kP 1 1 0, kI 3 10, kS 4 20 0 100, kI 5 (((rt (regSet l) k : Nat) : Int) - 1), kI 6 ((k : Nat) : Int), kO 1 26 1 true [(.slv l.length 1 (isl l) : A)], kO 7 46 2 true [aI ((((k % 10) : Nat) : Int) - 1), aI ((((k / 10) : Nat) : Int) - 1)], kO 20 3 1 true (pl (isl (mkI L))), kF 15, kF 23, kF 44, kF 52, kF 55, kF 86, kF 92, kF 113, kF 128, kF 129] ?_ ?_
   ·skip
    rcases Bool.eq_false_or_eq_true (decide ((gI (mkI L) k) ≠ 0)) with c6 | c6
    ·skip
     have c6P := of_decide_eq_true c6
     have hkm : k ∈ L := Classical.not_not.1 fun hn => of_decide_eq_true c6 ((mkI_zero (by omega)).2 hn)
     obtain ⟨hs1, hs2⟩ := skip_no hS (.inr hkm)
     refine rg (zm (zm ?_))
     refine z ?_ (h := fun ν => ix0 ν qC25_un_24 qC25_sz_3 vt (hlt := (by first | omega | assumption | (rw [mkI_len]; omega) | (rw [nI_len]; omega))))
     refine z ?_ (h := fun ν => lI ν qC25_ti_3 (by first | omega | assumption | (rw [mkI_len]; omega) | (rw [nI_len]; omega)))
     refine z ?_ (h := fun ν => acts_bin ν vt vc (r_neq (c := true) c6))
     refine zm (zo (zo (zo ?_)))
     refine z ?_ (h := fun ν => acts_pick_t ν vt xc)
     refine nl ?_
     exact ⟨rfl, weak_reads ⟨(by simp only [c6]; first | done | kernel_rfl), (by repeat (first | exact trivial | refine ⟨by kernel_rfl, ?_⟩))⟩⟩
    ·skip
     have c6P := of_decide_eq_false c6
     have hkn : k ∉ L := (mkI_zero (by omega)).1 (Decidable.not_not.1 (of_decide_eq_false c6))
     refine rg (zm (zm ?_))
     refine z ?_ (h := fun ν => ix0 ν qC25_un_24 qC25_sz_3 vt (hlt := (by first | omega | assumption | (rw [mkI_len]; omega) | (rw [nI_len]; omega))))
     refine z ?_ (h := fun ν => lI ν qC25_ti_3 (by first | omega | assumption | (rw [mkI_len]; omega) | (rw [nI_len]; omega)))
     refine z ?_ (h := fun ν => acts_bin ν vt vc (r_neq (c := false) c6))
     refine zm ?_
     refine zg ?_ (h := fun ν => step_on rfl rfl (acts_load_owns (xs := [(.slv l.length 1 (isl l) : A)]) ν qC25_ti_26 rfl (by decide) rfl))
     refine zg ?_ (h := fun ν => step_on rfl rfl (acts_load_owns (xs := [vI ((((k % 10) : Nat) : Int) - 1), vI ((((k / 10) : Nat) : Int) - 1)].map A.val) ν qC25_ti_46 rfl (by decide) rfl))
     refine zg ?_ (h := fun ν => step_on rfl rfl (acts_call1 ν (spec_HasCell_fn l (⟨((((k % 10) : Nat) : Int) - 1), ((((k / 10) : Nat) : Int) - 1)⟩ : Cel) (by first | omega | assumption | (rw [mkI_len]; omega) | (rw [nI_len]; omega))) (ac (ArgV.regv _ _ 1 _) (ac (ArgV.va va) an)) rv))
     refine z ?_ (h := fun ν => acts_pick_f ν vt xt)
     refine nl ?_
     exact ⟨rfl, weak_reads ⟨(by simp only [c6]; first | done | kernel_rfl), (by repeat (first | exact trivial | refine ⟨by kernel_rfl, ?_⟩))⟩⟩
   refine wi (b := ((decide ((gI (mkI L) k) ≠ 0)) || (hasC l (⟨((((k % 10) : Nat) : Int) - 1), ((((k / 10) : Nat) : Int) - 1)⟩ : Cel)))) (fun c7 => ?_) (fun c7 => ?_)
   ·skip
    have c8 := or_tt c7
    obtain ⟨hs1, hs2⟩ := skip_orK hro (by omega) hS c8
    refine wp_exit' (rg (zm ?_))
    refine z ?_ (h := fun ν => acts_bin ν vt vc (rA (by first | omega | assumption | (rw [mkI_len]; omega) | (rw [nI_len]; omega)) (by first | omega | assumption | (rw [mkI_len]; omega) | (rw [nI_len]; omega))))
    refine za (nl ?_)
    exact loop_back ((k + 1), L) (by exact ⟨by omega, hs1⟩) (by show 100 - (k + 1) < 100 - k; omega) (wkf id (wS <| wS <| wS <| wE (e := (vint (by first | rfl | omega | exact mkI_nil | exact mkI_nil.symm | (rw [rt_zero]; rfl) | (simp; done)))) <| wE (e := (vint (by first | rfl | omega | exact mkI_nil | exact mkI_nil.symm | (rw [rt_zero]; rfl) | (simp; done)))) <| wX <| wP <| by (iterate 11 refine wF ?_); exact wN))
   ·skip
    obtain ⟨c9, c10⟩ := or_ff c7
    have c9P := of_decide_eq_false c9
    have hkn : k ∉ L := (mkI_zero (by omega)).1 (Decidable.not_not.1 (of_decide_eq_false c9))
    have hfk : free10 (regSet l) k = true := free_hasC hro (by omega) c10
    refine sk (sq (rg (zm ?_)))
    refine z ?_ (h := fun ν => acts_bin ν vt vc (rA (by first | omega | assumption | (rw [mkI_len]; omega) | (rw [nI_len]; omega)) (by first | omega | assumption | (rw [mkI_len]; omega) | (rw [nI_len]; omega))))
    refine za (nl (sq (rg (zm (zm ?_)))))
    refine z ?_ (h := fun ν => ix0 ν qC25_un_24 qC25_sz_3 vt (hlt := (by first | omega | assumption | (rw [mkI_len]; omega) | (rw [nI_len]; omega))))
    refine z ?_ (h := fun _ => sI qC25_ti_3 xc (by first | omega | assumption | (rw [mkI_len]; omega) | (rw [nI_len]; omega)))
    refine nl (sq (rg (zm ?_)))
    refine z ?_ (h := fun ν => acts_buildSlice' (h := 52) (xs := isl ([((k : Nat) : Int)] : List Int)) ν qC25_un_24 qC25_zi_3 (.cons vt OpVs.nil) (by decide) (by decide) (by kernel_rfl) rfl)
    refine za (nl (sq (rg (zk (nl (bkk ?_))))))
    refine wp_loop' (fun ((i, lst) : Nat × (List Nat)) => BG (regSet l) k L lst i) (fun ((i, lst) : Nat × (List Nat)) => [kP 1 1 0, kI 3 10, kS 4 20 0 100, kI 5 ((((rt (regSet l) k : Nat) : Int) - 1) + 1), kI 6 ((k : Nat) : Int), kS 8 52 0 ((nI lst).length), kI 9 ((i : Nat) : Int), kO 1 26 1 true [(.slv l.length 1 (isl l) : A)], kO 20 3 1 true (pl (isl (mkI (L ++ lst)))), kO 52 3 1 true (pl (isl (nI lst))), kF 7, kF 15, kF 23, kF 44, kF 55, kF 86, kF 92, kF 113, kF 128, kF 129]) (fun ((i, lst) : Nat × (List Nat)) => 100 - i) ((0 : Nat), ([k] : List Nat)) (by exact BG.zero hS hfk hkn) (wkf id (wS <| wS <| wS <| wS <| wS <| wE (e := (vsl (by first | rfl | (simp; done) | (simp; omega) | omega | (exact congrArg List.length (by first | rfl | omega | exact mkI_add _ _ | exact (mkI_add _ _).symm | (simp [nI_len]; done)))) rfl)) <| wE (e := (vint (by first | rfl | omega | exact mkI_add _ _ | exact (mkI_add _ _).symm | (simp [nI_len]; done)))) <| wX <| wO (e := renob_eq (fun h => h) (congrArg isl (by first | rfl | omega | exact mkI_add _ _ | exact (mkI_add _ _).symm | (simp [nI_len]; done)))) <| wO (e := renob_eq (fun h => h) (congrArg isl (by first | rfl | omega | exact mkI_add _ _ | exact (mkI_add _ _).symm | (simp [nI_len]; done)))) <| by (iterate 10 refine wF ?_); exact wN)) ?_
    rintro ⟨i, lst⟩ inv11
    replace inv11 : BG (regSet l) k L lst i := inv11
    have hB := inv11
    have hbl := hB.len
    have hnl := nI_len lst
    refine sq (sq (rg (zm (zm ?_))))
    refine z ?_ (h := fun ν => lnS ν qC25_un_24)
    refine z ?_ (h := fun ν => acts_bin ν vt vt (r_lss rfl))
    refine nl ?_
    refine wi (fun c12 => ?_) (fun c12 => ?_)
    ·skip
     have c12P := of_decide_eq_true c12
     have hown0 := hB.at (by omega)
     refine sk (sq (bkk (sq (rg (zk (nl (bkk ?_)))))))
     refine wp_loop' (fun ((p, M) : Nat × (List Nat)) => p ≤ 3 ∧ BT (regSet l) k L lst i (3 * p) M) (fun ((p, M) : Nat × (List Nat)) => [kP 1 1 0, kI 3 10, kS 4 20 0 100, kI 5 ((((rt (regSet l) k : Nat) : Int) - 1) + 1), kI 6 ((k : Nat) : Int), kS 8 52 0 ((nI M).length), kI 9 ((i : Nat) : Int), kI 10 (((p : Nat) : Int) - 1), kO 1 26 1 true [(.slv l.length 1 (isl l) : A)], kO 20 3 1 true (pl (isl (mkI (L ++ M)))), kO 52 3 1 true (pl (isl (nI M))), kF 7, kF 15, kF 23, kF 44, kF 55, kF 86, kF 92, kF 113, kF 128, kF 129]) (fun ((p, M) : Nat × (List Nat)) => 3 - p) ((0 : Nat), (lst : List Nat)) (by exact ⟨by omega, BT.zero hB (by omega)⟩) (wkf id (wS <| wS <| wS <| wS <| wS <| wS <| wS <| wE (e := (vint (by first | rfl | omega))) <| wX <| wP <| wP <| by (iterate 10 refine wF ?_); exact wN)) ?_
     rintro ⟨p, M⟩ inv13
     replace inv13 : p ≤ 3 ∧ BT (regSet l) k L lst i (3 * p) M := inv13
     obtain ⟨inv13_0, inv13_1⟩ := inv13
     have hT : BT (regSet l) k L lst i (3 * p) M := by assumption
     have hTl := hT.len
     have hnl3 := nI_len M
     refine sq (sq (rg (zm ?_)))
     refine z ?_ (h := fun ν => acts_bin ν vt vc (r_leq rfl))
     refine nl ?_
     refine wi (fun c14 => ?_) (fun c14 => ?_)
     ·skip
      have c14P := of_decide_eq_true c14
      refine sk (sq (bkk (sq (rg (zk (nl (bkk ?_)))))))
      refine wp_loop' (fun ((q, M2) : Nat × (List Nat)) => q ≤ 3 ∧ BT (regSet l) k L lst i (3 * p + q) M2) (fun ((q, M2) : Nat × (List Nat)) => [kP 1 1 0, kI 3 10, kS 4 20 0 100, kI 5 ((((rt (regSet l) k : Nat) : Int) - 1) + 1), kI 6 ((k : Nat) : Int), kS 8 52 0 ((nI M2).length), kI 9 ((i : Nat) : Int), kI 10 (((p : Nat) : Int) - 1), kI 11 (((q : Nat) : Int) - 1), kO 1 26 1 true [(.slv l.length 1 (isl l) : A)], kO 20 3 1 true (pl (isl (mkI (L ++ M2)))), kO 52 3 1 true (pl (isl (nI M2))), kF 7, kF 15, kF 23, kF 44, kF 55, kF 86, kF 92, kF 113, kF 128, kF 129]) (fun ((q, M2) : Nat × (List Nat)) => 3 - q) ((0 : Nat), (M : List Nat)) (by exact ⟨by omega, hT⟩) (wkf id (wS <| wS <| wS <| wS <| wS <| wS <| wS <| wS <| wE (e := (vint (by first | rfl | omega | (rw [← List.append_assoc, ← mkI_add]; rfl) | (rw [← nI_app]; unfold kxy; congr 2; omega) | (simp [nI_len]; done)))) <| wX <| wP <| wP <| by (iterate 10 refine wF ?_); exact wN)) ?_
      rintro ⟨q, M2⟩ inv15
      replace inv15 : q ≤ 3 ∧ BT (regSet l) k L lst i (3 * p + q) M2 := inv15
      obtain ⟨inv15_0, inv15_1⟩ := inv15
      have hT2 : BT (regSet l) k L lst i (3 * p + q) M2 := by assumption
      have hTl2 := hT2.len
      have hnl4 := nI_len M2
      have hown := nI_at hT2
      have hil := hT2.le
      refine sq (sq (rg (zm ?_)))
      refine z ?_ (h := fun ν => acts_bin ν vt vc (r_leq rfl))
      refine nl ?_
      refine wi (fun c16 => ?_) (fun c16 => ?_)
      ·skip
       have c16P := of_decide_eq_true c16
       refine sk (sq (bkk (sq (rg (zm (zm ?_))))))
       refine z ?_ (h := fun ν => ix0 ν qC25_un_24 qC25_sz_3 vt (hlt := (by first | omega | assumption | (rw [mkI_len]; omega) | (rw [nI_len]; omega))))
       refine z ?_ (h := fun ν => lI ν qC25_ti_3 (by first | omega | assumption | (rw [mkI_len]; omega) | (rw [nI_len]; omega)))
       refine zm ?_
       refine z ?_ (h := fun ν => acts_bin ν vt vt (r_rem (c := ((gN lst i % 10 : Nat) : Int)) (by first | omega | assumption | (rw [mkI_len]; omega) | (rw [nI_len]; omega)) (remN hown)))
       refine zm ?_
       refine z ?_ (h := fun ν => acts_bin ν vt vt (rA (by first | omega | assumption | (rw [mkI_len]; omega) | (rw [nI_len]; omega)) (by first | omega | assumption | (rw [mkI_len]; omega) | (rw [nI_len]; omega))))
       refine za (nl (sq (rg (zm (zm ?_)))))
       refine z ?_ (h := fun ν => ix0 ν qC25_un_24 qC25_sz_3 vt (hlt := (by first | omega | assumption | (rw [mkI_len]; omega) | (rw [nI_len]; omega))))
       refine z ?_ (h := fun ν => lI ν qC25_ti_3 (by first | omega | assumption | (rw [mkI_len]; omega) | (rw [nI_len]; omega)))
       refine zm ?_
       refine z ?_ (h := fun ν => acts_bin ν vt vt (r_quo (c := ((gN lst i / 10 : Nat) : Int)) (by first | omega | assumption | (rw [mkI_len]; omega) | (rw [nI_len]; omega)) (quoN hown (by decide) (by omega))))
       refine zm ?_
       refine z ?_ (h := fun ν => acts_bin ν vt vt (rA (by first | omega | assumption | (rw [mkI_len]; omega) | (rw [nI_len]; omega)) (by first | omega | assumption | (rw [mkI_len]; omega) | (rw [nI_len]; omega))))
       refine za (nl (sq (sq ?_)))
       refine wp_join [kB 114 ((!(inB (((gN lst i % 10 : Nat) : Int) + (((q : Nat) : Int) - 1)) 0 9)) || ((!(inB (((gN lst i / 10 : Nat) : Int) + (((p : Nat) : Int) - 1)) 0 9)) || ((decide ((gI (mkI (L ++ M2)) ((((((gN lst i / 10 : Nat) : Int) + (((p : Nat) : Int) - 1)) * 10) + (((gN lst i % 10 : Nat) : Int) + (((q : Nat) : Int) - 1))).toNat)) ≠ 0)) || (hasC l (⟨((((gN lst i % 10 : Nat) : Int) + (((q : Nat) : Int) - 1)) - 1), ((((gN lst i / 10 : Nat) : Int) + (((p : Nat) : Int) - 1)) - 1)⟩ : Cel))))), kP 1 1 0, kI 3 10, kS 4 20 0 100, kI 5 ((((rt (regSet l) k : Nat) : Int) - 1) + 1), kI 6 ((k : Nat) : Int), kS 8 52 0 ((nI M2).length), kI 9 ((i : Nat) : Int), kI 10 (((p : Nat) : Int) - 1), kI 11 (((q : Nat) : Int) - 1), kI 12 (((gN lst i % 10 : Nat) : Int) + (((q : Nat) : Int) - 1)), kI 13 (((gN lst i / 10 : Nat) : Int) + (((p : Nat) : Int) - 1)), kO 1 26 1 true [(.slv l.length 1 (isl l) : A)], kO 20 3 1 true (pl (isl (mkI (L ++ M2)))), kO 52 3 1 true (pl (isl (nI M2))), kF 7, kF 15, kF 23, kF 44, kF 55, kF 86, kF 92, kF 113, kF 128, kF 129] ?_ ?_
       ·skip
        rcases Bool.eq_false_or_eq_true ((inB (((gN lst i % 10 : Nat) : Int) + (((q : Nat) : Int) - 1)) 0 9)) with c17 | c17
        ·skip
         have hx1 := inB_true.1 c17
         rcases Bool.eq_false_or_eq_true ((inB (((gN lst i / 10 : Nat) : Int) + (((p : Nat) : Int) - 1)) 0 9)) with c18 | c18
         ·skip
          have hy1 := inB_true.1 c18
          rcases Bool.eq_false_or_eq_true (decide ((gI (mkI (L ++ M2)) ((((((gN lst i / 10 : Nat) : Int) + (((p : Nat) : Int) - 1)) * 10) + (((gN lst i % 10 : Nat) : Int) + (((q : Nat) : Int) - 1))).toNat)) ≠ 0)) with c19 | c19
          ·skip
           have c19P := of_decide_eq_true c19
           have hmk : (kxy (((gN lst i % 10 : Nat) : Int) + (((q : Nat) : Int) - 1)) (((gN lst i / 10 : Nat) : Int) + (((p : Nat) : Int) - 1))) ∈ L ++ M2 := Classical.not_not.1 fun hn => of_decide_eq_true c19 ((mkI_zero (kxy_at hx1 hy1).2.2).2 hn)
           refine rg (zm (zm ?_))
           refine z ?_ (h := fun ν => acts_bin ν vt vc (r_sub (c := 9) rfl))
           refine z ?_ (h := fun ν => acts_call1 ν (spec_l01In_fn (((gN lst i % 10 : Nat) : Int) + (((q : Nat) : Int) - 1)) 0 9 ) (ac (ArgV.v vt) (ac (ArgV.v vc) (ac (ArgV.v vt) an))) (resval (congrArg Value.bool c17)))
           refine z ?_ (h := fun ν => acts_un ν vt (r_not (c := false) rfl))
           refine zm ?_
           refine zg ?_ (h := fun ν => step_on rfl rfl (mt ν))
           refine zg ?_ (h := fun ν => step_on rfl rfl (mt ν))
           refine zg ?_ (h := fun ν => step_on rfl rfl (acts_bin ν vt vc (r_sub (c := 9) rfl)))
           refine zg ?_ (h := fun ν => step_on rfl rfl (acts_call1 ν (spec_l01In_fn (((gN lst i / 10 : Nat) : Int) + (((p : Nat) : Int) - 1)) 0 9 ) (ac (ArgV.v vt) (ac (ArgV.v vc) (ac (ArgV.v vt) an))) (resval (congrArg Value.bool c18))))
           refine zg ?_ (h := fun ν => step_on rfl rfl (acts_un ν vt (r_not (c := false) rfl)))
           refine z ?_ (h := fun ν => acts_pick_f ν vt xt)
           refine zm ?_
           refine zg ?_ (h := fun ν => step_on rfl rfl (mt ν))
           refine zg ?_ (h := fun ν => step_on rfl rfl (mt ν))
           refine zg ?_ (h := fun ν => step_on rfl rfl (mt ν))
           refine zg ?_ (h := fun ν => step_on rfl rfl (acts_bin ν vt vt (rM (by first | omega | assumption | (rw [mkI_len]; omega) | (rw [nI_len]; omega)) (by first | omega | assumption | (rw [mkI_len]; omega) | (rw [nI_len]; omega)))))
           refine zg ?_ (h := fun ν => step_on rfl rfl (mt ν))
           refine zg ?_ (h := fun ν => step_on rfl rfl (acts_bin ν vt vt (rA (by first | omega | assumption | (rw [mkI_len]; omega) | (rw [nI_len]; omega)) (by first | omega | assumption | (rw [mkI_len]; omega) | (rw [nI_len]; omega)))))
           refine zg ?_ (h := fun ν => step_on rfl rfl (ix0 (k := (((((gN lst i / 10 : Nat) : Int) + (((p : Nat) : Int) - 1)) * 10) + (((gN lst i % 10 : Nat) : Int) + (((q : Nat) : Int) - 1))).toNat) ν qC25_un_24 qC25_sz_3 vt (Int.toNat_of_nonneg (by first | omega | assumption | (rw [mkI_len]; omega) | (rw [nI_len]; omega))).symm (by first | omega | assumption | (rw [mkI_len]; omega) | (rw [nI_len]; omega))))
           refine zg ?_ (h := fun ν => step_on rfl rfl (lI ν qC25_ti_3 (by first | omega | assumption | (rw [mkI_len]; omega) | (rw [nI_len]; omega))))
           refine zg ?_ (h := fun ν => step_on rfl rfl (acts_bin ν vt vc (r_neq (c := true) c19)))
           refine z ?_ (h := fun ν => acts_pick_f ν vt xt)
           refine zm (zo (zo (zo (zo (zo (zo (zo ?_)))))))
           refine z ?_ (h := fun ν => acts_pick_t ν vt xc)
           refine nl ?_
           exact ⟨rfl, weak_reads ⟨(by simp only [c17, c18, c19]; first | done | kernel_rfl), (by repeat (first | exact trivial | refine ⟨by kernel_rfl, ?_⟩))⟩⟩
          ·skip
           have c19P := of_decide_eq_false c19
           have hmk : (kxy (((gN lst i % 10 : Nat) : Int) + (((q : Nat) : Int) - 1)) (((gN lst i / 10 : Nat) : Int) + (((p : Nat) : Int) - 1))) ∉ L ++ M2 := (mkI_zero (kxy_at hx1 hy1).2.2).1 (Decidable.not_not.1 (of_decide_eq_false c19))
           refine rg (zm (zm ?_))
           refine z ?_ (h := fun ν => acts_bin ν vt vc (r_sub (c := 9) rfl))
           refine z ?_ (h := fun ν => acts_call1 ν (spec_l01In_fn (((gN lst i % 10 : Nat) : Int) + (((q : Nat) : Int) - 1)) 0 9 ) (ac (ArgV.v vt) (ac (ArgV.v vc) (ac (ArgV.v vt) an))) (resval (congrArg Value.bool c17)))
           refine z ?_ (h := fun ν => acts_un ν vt (r_not (c := false) rfl))
           refine zm ?_
           refine zg ?_ (h := fun ν => step_on rfl rfl (mt ν))
           refine zg ?_ (h := fun ν => step_on rfl rfl (mt ν))
           refine zg ?_ (h := fun ν => step_on rfl rfl (acts_bin ν vt vc (r_sub (c := 9) rfl)))
           refine zg ?_ (h := fun ν => step_on rfl rfl (acts_call1 ν (spec_l01In_fn (((gN lst i / 10 : Nat) : Int) + (((p : Nat) : Int) - 1)) 0 9 ) (ac (ArgV.v vt) (ac (ArgV.v vc) (ac (ArgV.v vt) an))) (resval (congrArg Value.bool c18))))
           refine zg ?_ (h := fun ν => step_on rfl rfl (acts_un ν vt (r_not (c := false) rfl)))
           refine z ?_ (h := fun ν => acts_pick_f ν vt xt)
           refine zm ?_
           refine zg ?_ (h := fun ν => step_on rfl rfl (mt ν))
           refine zg ?_ (h := fun ν => step_on rfl rfl (mt ν))
           refine zg ?_ (h := fun ν => step_on rfl rfl (mt ν))
           refine zg ?_ (h := fun ν => step_on rfl rfl (acts_bin ν vt vt (rM (by first | omega | assumption | (rw [mkI_len]; omega) | (rw [nI_len]; omega)) (by first | omega | assumption | (rw [mkI_len]; omega) | (rw [nI_len]; omega)))))
           refine zg ?_ (h := fun ν => step_on rfl rfl (mt ν))
           refine zg ?_ (h := fun ν => step_on rfl rfl (acts_bin ν vt vt (rA (by first | omega | assumption | (rw [mkI_len]; omega) | (rw [nI_len]; omega)) (by first | omega | assumption | (rw [mkI_len]; omega) | (rw [nI_len]; omega)))))
           refine zg ?_ (h := fun ν => step_on rfl rfl (ix0 (k := (((((gN lst i / 10 : Nat) : Int) + (((p : Nat) : Int) - 1)) * 10) + (((gN lst i % 10 : Nat) : Int) + (((q : Nat) : Int) - 1))).toNat) ν qC25_un_24 qC25_sz_3 vt (Int.toNat_of_nonneg (by first | omega | assumption | (rw [mkI_len]; omega) | (rw [nI_len]; omega))).symm (by first | omega | assumption | (rw [mkI_len]; omega) | (rw [nI_len]; omega))))
           refine zg ?_ (h := fun ν => step_on rfl rfl (lI ν qC25_ti_3 (by first | omega | assumption | (rw [mkI_len]; omega) | (rw [nI_len]; omega))))
           refine zg ?_ (h := fun ν => step_on rfl rfl (acts_bin ν vt vc (r_neq (c := false) c19)))
           refine z ?_ (h := fun ν => acts_pick_f ν vt xt)
           refine zm ?_
           refine zg ?_ (h := fun ν => step_on rfl rfl (acts_load_owns (xs := [(.slv l.length 1 (isl l) : A)]) ν qC25_ti_26 rfl (by decide) rfl))
           refine zg ?_ (h := fun ν => step_on rfl rfl (mt ν))
           refine zg ?_ (h := fun ν => step_on rfl rfl (acts_bin ν vt vc (rS (by first | omega | assumption | (rw [mkI_len]; omega) | (rw [nI_len]; omega)) (by first | omega | assumption | (rw [mkI_len]; omega) | (rw [nI_len]; omega)))))
           refine zg ?_ (h := fun ν => step_on rfl rfl (mt ν))
           refine zg ?_ (h := fun ν => step_on rfl rfl (acts_bin ν vt vc (rS (by first | omega | assumption | (rw [mkI_len]; omega) | (rw [nI_len]; omega)) (by first | omega | assumption | (rw [mkI_len]; omega) | (rw [nI_len]; omega)))))
           refine zg ?_ (h := fun ν => step_on rfl rfl (bC ν qC25_bs_46 vt vt))
           refine zg ?_ (h := fun ν => step_on rfl rfl (acts_call1 ν (spec_HasCell_fn l (⟨((((gN lst i % 10 : Nat) : Int) + (((q : Nat) : Int) - 1)) - 1), ((((gN lst i / 10 : Nat) : Int) + (((p : Nat) : Int) - 1)) - 1)⟩ : Cel) (by first | omega | assumption | (rw [mkI_len]; omega) | (rw [nI_len]; omega))) (ac (ArgV.regv _ _ 1 _) (ac (ArgV.va va) an)) rv))
           refine z ?_ (h := fun ν => acts_pick_f ν vt xt)
           refine nl ?_
           exact ⟨rfl, weak_reads ⟨(by simp only [c17, c18, c19]; first | done | kernel_rfl), (by repeat (first | exact trivial | refine ⟨by kernel_rfl, ?_⟩))⟩⟩
         ·skip
          have hno : (inB (((gN lst i % 10 : Nat) : Int) + (((q : Nat) : Int) - 1)) 0 9 && inB (((gN lst i / 10 : Nat) : Int) + (((p : Nat) : Int) - 1)) 0 9) = false := by rw [c18]; exact Bool.and_false _
          refine rg (zm (zm ?_))
          refine z ?_ (h := fun ν => acts_bin ν vt vc (r_sub (c := 9) rfl))
          refine z ?_ (h := fun ν => acts_call1 ν (spec_l01In_fn (((gN lst i % 10 : Nat) : Int) + (((q : Nat) : Int) - 1)) 0 9 ) (ac (ArgV.v vt) (ac (ArgV.v vc) (ac (ArgV.v vt) an))) (resval (congrArg Value.bool c17)))
          refine z ?_ (h := fun ν => acts_un ν vt (r_not (c := false) rfl))
          refine zm ?_
          refine zg ?_ (h := fun ν => step_on rfl rfl (mt ν))
          refine zg ?_ (h := fun ν => step_on rfl rfl (mt ν))
          refine zg ?_ (h := fun ν => step_on rfl rfl (acts_bin ν vt vc (r_sub (c := 9) rfl)))
          refine zg ?_ (h := fun ν => step_on rfl rfl (acts_call1 ν (spec_l01In_fn (((gN lst i / 10 : Nat) : Int) + (((p : Nat) : Int) - 1)) 0 9 ) (ac (ArgV.v vt) (ac (ArgV.v vc) (ac (ArgV.v vt) an))) (resval (congrArg Value.bool c18))))
          refine zg ?_ (h := fun ν => step_on rfl rfl (acts_un ν vt (r_not (c := true) rfl)))
          refine z ?_ (h := fun ν => acts_pick_f ν vt xt)
          refine zm (zo (zo (zo (zo (zo (zo (zo (zo (zo ?_)))))))))
          refine z ?_ (h := fun ν => acts_pick_t ν vt xc)
          refine zm (zo (zo (zo (zo (zo (zo (zo ?_)))))))
          refine z ?_ (h := fun ν => acts_pick_t ν vt xc)
          refine nl ?_
          exact ⟨rfl, weak_reads ⟨(by simp only [c17, c18]; first | done | kernel_rfl), (by repeat (first | exact trivial | refine ⟨by kernel_rfl, ?_⟩))⟩⟩
        ·skip
         have hno : (inB (((gN lst i % 10 : Nat) : Int) + (((q : Nat) : Int) - 1)) 0 9 && inB (((gN lst i / 10 : Nat) : Int) + (((p : Nat) : Int) - 1)) 0 9) = false := by rw [c17]; rfl
         refine rg (zm (zm ?_))
         refine z ?_ (h := fun ν => acts_bin ν vt vc (r_sub (c := 9) rfl))
         refine z ?_ (h := fun ν => acts_call1 ν (spec_l01In_fn (((gN lst i % 10 : Nat) : Int) + (((q : Nat) : Int) - 1)) 0 9 ) (ac (ArgV.v vt) (ac (ArgV.v vc) (ac (ArgV.v vt) an))) (resval (congrArg Value.bool c17)))
         refine z ?_ (h := fun ν => acts_un ν vt (r_not (c := true) rfl))
         refine zm (zo (zo (zo (zo (zo ?_)))))
         refine z ?_ (h := fun ν => acts_pick_t ν vt xc)
         refine zm (zo (zo (zo (zo (zo (zo (zo (zo (zo ?_)))))))))
         refine z ?_ (h := fun ν => acts_pick_t ν vt xc)
         refine zm (zo (zo (zo (zo (zo (zo (zo ?_)))))))
         refine z ?_ (h := fun ν => acts_pick_t ν vt xc)
         refine nl ?_
         exact ⟨rfl, weak_reads ⟨(by simp only [c17]; first | done | kernel_rfl), (by repeat (first | exact trivial | refine ⟨by kernel_rfl, ?_⟩))⟩⟩
       refine wi (b := ((!(inB (((gN lst i % 10 : Nat) : Int) + (((q : Nat) : Int) - 1)) 0 9)) || ((!(inB (((gN lst i / 10 : Nat) : Int) + (((p : Nat) : Int) - 1)) 0 9)) || ((decide ((gI (mkI (L ++ M2)) ((((((gN lst i / 10 : Nat) : Int) + (((p : Nat) : Int) - 1)) * 10) + (((gN lst i % 10 : Nat) : Int) + (((q : Nat) : Int) - 1))).toNat)) ≠ 0)) || (hasC l (⟨((((gN lst i % 10 : Nat) : Int) + (((q : Nat) : Int) - 1)) - 1), ((((gN lst i / 10 : Nat) : Int) + (((p : Nat) : Int) - 1)) - 1)⟩ : Cel)))))) (fun c20 => ?_) (fun c20 => ?_)
       ·skip
        have hsk := BT.skp hB (by omega) hT2 (by omega) (by omega) hro c20
        have c21 := or_tt c20
        refine wp_exit' (rg (zm ?_))
        refine z ?_ (h := fun ν => acts_bin ν vt vc (rA (by first | omega | assumption | (rw [mkI_len]; omega) | (rw [nI_len]; omega)) (by first | omega | assumption | (rw [mkI_len]; omega) | (rw [nI_len]; omega))))
        refine za (nl ?_)
        exact loop_back ((q + 1), M2) (by refine ⟨by omega, ?_⟩; first | exact hsk | exact BT.yes hB (by omega) hT2 (by omega) (by omega) hx1 hy1 hmk hfr) (by show 3 - (q + 1) < 3 - q; omega) (wkf id (wS <| wS <| wS <| wS <| wS <| wS <| wS <| wS <| wE (e := (vint (by first | rfl | omega | (rw [← List.append_assoc, ← mkI_add]; rfl) | (rw [← nI_app]; unfold kxy; congr 2; omega) | (simp [nI_len]; done)))) <| wX <| wP <| wP <| by (iterate 10 refine wF ?_); exact wN))
       ·skip
        obtain ⟨c22, c23⟩ := or_ff c20
        have c24 : (inB (((gN lst i % 10 : Nat) : Int) + (((q : Nat) : Int) - 1)) 0 9) = true := by first | (rw [← Bool.not_eq_false']; exact c22) | simpa using c22
        have hx1 := inB_true.1 c24
        obtain ⟨c25, c26⟩ := or_ff c23
        have c27 : (inB (((gN lst i / 10 : Nat) : Int) + (((p : Nat) : Int) - 1)) 0 9) = true := by first | (rw [← Bool.not_eq_false']; exact c25) | simpa using c25
        have hy1 := inB_true.1 c27
        obtain ⟨c28, c29⟩ := or_ff c26
        have c28P := of_decide_eq_false c28
        have hmk : (kxy (((gN lst i % 10 : Nat) : Int) + (((q : Nat) : Int) - 1)) (((gN lst i / 10 : Nat) : Int) + (((p : Nat) : Int) - 1))) ∉ L ++ M2 := (mkI_zero (kxy_at hx1 hy1).2.2).1 (Decidable.not_not.1 (of_decide_eq_false c28))
        have hfr : free10 (regSet l) (kxy (((gN lst i % 10 : Nat) : Int) + (((q : Nat) : Int) - 1)) (((gN lst i / 10 : Nat) : Int) + (((p : Nat) : Int) - 1))) = true := free_hasC2 hro hx1 hy1 c29
        refine sk (sq (rg (zm (zm (zm ?_)))))
        refine z ?_ (h := fun ν => acts_bin ν vt vt (rM (by first | omega | assumption | (rw [mkI_len]; omega) | (rw [nI_len]; omega)) (by first | omega | assumption | (rw [mkI_len]; omega) | (rw [nI_len]; omega))))
        refine zm ?_
        refine z ?_ (h := fun ν => acts_bin ν vt vt (rA (by first | omega | assumption | (rw [mkI_len]; omega) | (rw [nI_len]; omega)) (by first | omega | assumption | (rw [mkI_len]; omega) | (rw [nI_len]; omega))))
        refine z ?_ (h := fun ν => ix0 (k := (((((gN lst i / 10 : Nat) : Int) + (((p : Nat) : Int) - 1)) * 10) + (((gN lst i % 10 : Nat) : Int) + (((q : Nat) : Int) - 1))).toNat) ν qC25_un_24 qC25_sz_3 vt (Int.toNat_of_nonneg (by first | omega | assumption | (rw [mkI_len]; omega) | (rw [nI_len]; omega))).symm (by first | omega | assumption | (rw [mkI_len]; omega) | (rw [nI_len]; omega)))
        refine z ?_ (h := fun _ => sI qC25_ti_3 xc (by first | omega | assumption | (rw [mkI_len]; omega) | (rw [nI_len]; omega)))
        refine nl (rg (zm (zm (zm ?_))))
        refine z ?_ (h := fun ν => acts_bin ν vt vt (rM (by first | omega | assumption | (rw [mkI_len]; omega) | (rw [nI_len]; omega)) (by first | omega | assumption | (rw [mkI_len]; omega) | (rw [nI_len]; omega))))
        refine zm ?_
        refine z ?_ (h := fun ν => acts_bin ν vt vt (rA (by first | omega | assumption | (rw [mkI_len]; omega) | (rw [nI_len]; omega)) (by first | omega | assumption | (rw [mkI_len]; omega) | (rw [nI_len]; omega))))
        refine z ?_ (h := fun ν => acts_buildSlice' (h := 128) (xs := isl ([(((((gN lst i / 10 : Nat) : Int) + (((p : Nat) : Int) - 1)) * 10) + (((gN lst i % 10 : Nat) : Int) + (((q : Nat) : Int) - 1)))] : List Int)) ν qC25_un_24 qC25_zi_3 (.cons vt OpVs.nil) (by decide) (by decide) (by kernel_rfl) rfl)
        refine z ?_ (h := fun ν => aI_ (h2 := 129) (L3 := ((nI M2) ++ [(((((gN lst i / 10 : Nat) : Int) + (((p : Nat) : Int) - 1)) * 10) + (((gN lst i % 10 : Nat) : Int) + (((q : Nat) : Int) - 1)))])) ν qC25_un_24 qC25_zi_3 (by first | exact rfl | (simp; done) | (simp; omega) | omega) rfl (by first | exact rfl | (simp; done) | (simp; omega) | omega) (by first | omega | (simp; omega) | (simp at *; omega)))
        refine za (nl (rg (zm ?_)))
        refine z ?_ (h := fun ν => acts_bin ν vt vc (rA (by first | omega | assumption | (rw [mkI_len]; omega) | (rw [nI_len]; omega)) (by first | omega | assumption | (rw [mkI_len]; omega) | (rw [nI_len]; omega))))
        refine za (nl ?_)
        exact loop_back ((q + 1), (M2 ++ [(kxy (((gN lst i % 10 : Nat) : Int) + (((q : Nat) : Int) - 1)) (((gN lst i / 10 : Nat) : Int) + (((p : Nat) : Int) - 1)))])) (by refine ⟨by omega, ?_⟩; first | exact hsk | exact BT.yes hB (by omega) hT2 (by omega) (by omega) hx1 hy1 hmk hfr) (by show 3 - (q + 1) < 3 - q; omega) (wkf (subst1 [(52, 129)]) (wS <| wS <| wS <| wS <| wS <| wE (e := (vsl (by first | rfl | (simp; done) | (simp; omega) | omega | (exact congrArg List.length (by first | rfl | omega | (rw [← List.append_assoc, ← mkI_add]; rfl) | (rw [← nI_app]; unfold kxy; congr 2; omega) | (simp [nI_len]; done)))) rfl)) <| wS <| wS <| wE (e := (vint (by first | rfl | omega | (rw [← List.append_assoc, ← mkI_add]; rfl) | (rw [← nI_app]; unfold kxy; congr 2; omega) | (simp [nI_len]; done)))) <| wX <| wO (e := renob_eq (fun h => h) (congrArg isl (by first | rfl | omega | (rw [← List.append_assoc, ← mkI_add]; rfl) | (rw [← nI_app]; unfold kxy; congr 2; omega) | (simp [nI_len]; done)))) <| wO (e := renob_eq (fun h => h) (congrArg isl (by first | rfl | omega | (rw [← List.append_assoc, ← mkI_add]; rfl) | (rw [← nI_app]; unfold kxy; congr 2; omega) | (simp [nI_len]; done)))) <| by (iterate 10 refine wF ?_); exact wN))
      ·skip
       have c16P := of_decide_eq_false c16
       refine wp_exit' (rg (zm ?_))
       refine z ?_ (h := fun ν => acts_bin ν vt vc (rA (by first | omega | assumption | (rw [mkI_len]; omega) | (rw [nI_len]; omega)) (by first | omega | assumption | (rw [mkI_len]; omega) | (rw [nI_len]; omega))))
       refine za (nl ?_)
       exact loop_back ((p + 1), M2) (by refine ⟨by omega, ?_⟩; (have e : q = 3 := by omega); subst e; exact hT2) (by show 3 - (p + 1) < 3 - p; omega) (wkf id (wS <| wS <| wS <| wS <| wS <| wS <| wS <| wE (e := (vint (by first | rfl | omega))) <| wX <| wP <| wP <| by (iterate 10 refine wF ?_); exact wN))
     ·skip
      have c14P := of_decide_eq_false c14
      refine wp_exit' (rg (zm ?_))
      refine z ?_ (h := fun ν => acts_bin ν vt vc (rA (by first | omega | assumption | (rw [mkI_len]; omega) | (rw [nI_len]; omega)) (by first | omega | assumption | (rw [mkI_len]; omega) | (rw [nI_len]; omega))))
      refine za (nl ?_)
      exact loop_back ((i + 1), M) (by exact hT.out hB (by omega) (by omega)) (by show 100 - (i + 1) < 100 - i; omega) (wkf id (wS <| wS <| wS <| wS <| wS <| wS <| wE (e := (vint (by first | rfl | omega | exact mkI_add _ _ | exact (mkI_add _ _).symm | (simp [nI_len]; done)))) <| wX <| wP <| wP <| by (iterate 10 refine wF ?_); exact wN))
    ·skip
     have c12P := of_decide_eq_false c12
     obtain ⟨hs1, hs2⟩ := hB.end (by omega)
     refine wp_exit' (rg (zm ?_))
     refine z ?_ (h := fun ν => acts_bin ν vt vc (rA (by first | omega | assumption | (rw [mkI_len]; omega) | (rw [nI_len]; omega)) (by first | omega | assumption | (rw [mkI_len]; omega) | (rw [nI_len]; omega))))
     refine za (nl ?_)
     exact loop_back ((k + 1), (L ++ lst)) (by exact ⟨by omega, hs1⟩) (by show 100 - (k + 1) < 100 - k; omega) (wkf id (wS <| wS <| wS <| wE (e := (vint (by first | rfl | omega | exact mkI_nil | exact mkI_nil.symm | (rw [rt_zero]; rfl) | (simp; done)))) <| wE (e := (vint (by first | rfl | omega | exact mkI_nil | exact mkI_nil.symm | (rw [rt_zero]; rfl) | (simp; done)))) <| wX <| wP <| by (iterate 11 refine wF ?_); exact wN))
  ·skip
   have c5P := of_decide_eq_false c5
   refine wp_exit' (sq (rg (zm (za (nl (wp_ret' ?_))))))
   exact VRes.tmp _ _ _ (by exact rfl) (bval (congrArg (Value.int .i64) (by (have e : k = 100 := by omega); subst e; exact (hol_yes hro).symm)))
end Cl
end Go.Proofs.Ytokihekhelbijaa
