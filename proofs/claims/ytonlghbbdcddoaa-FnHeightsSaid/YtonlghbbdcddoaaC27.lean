/- Walks over clean states, printed by wg.py. No statement is proved here. -/
import Derived.Test.YtonlghbbdcddoaaC26
import Derived.Test.YtonlghbbdcddoaaC3w
import Derived.Test.YtonlghbbdcddoaaClA
import Derived.Test.YtonlghbbdcddoaaDoms
import Derived.Test.YtonlghbbdcddoaaClB
namespace Go.Proofs.Ytonlghbbdcddoaa
namespace Cl
open Go.ChangeShapes Go.WideShapes Go.ChangeAt Go.RowKit
set_option maxRecDepth 20000

def eqD (d e : Dom) : Bool := dEq d.x d.y d.d e.x e.y e.d
theorem eqD_sw (d e : Dom) : dEq e.x e.y e.d d.x d.y d.d = eqD d e := by unfold eqD dEq; rw [decide_eq_decide]; constructor <;> (rintro ⟨a, b, c⟩; exact ⟨a.symm, b.symm, c.symm⟩)
theorem eqD_dec (d e : Dom) : eqD d e = decide (d = e) := by
  obtain ⟨x, y, b⟩ := d; obtain ⟨x', y', b'⟩ := e
  unfold eqD dEq; simp
theorem any_eqD (ds : List Dom) (d : Dom) : ds.any (eqD d) = decide (d ∈ ds) := by
  rw [Bool.eq_iff_iff, List.any_eq_true, decide_eq_true_eq]
  constructor
  · rintro ⟨e, he, h⟩; rw [eqD_dec, decide_eq_true_eq] at h; rw [h]; exact he
  · intro h; exact ⟨d, h, by rw [eqD_dec]; simp⟩
theorem has_yes {ds : List Dom} {d : Dom} {k : Nat} (hk : k < ds.length) (h : eqD d (gD ds k) = true) : decide (d ∈ ds) = true := by
  rw [← any_eqD]; exact List.any_eq_true.2 ⟨gD ds k, gD_mem hk, h⟩
theorem has_no {ds : List Dom} {d : Dom} {k : Nat} (hk : ¬ (k : Int) < (ds.length : Int)) (h : (ds.take k).any (eqD d) = false) : decide (d ∈ ds) = false := by
  rw [List.take_of_length_le (by omega), any_eqD] at h; exact h
/-- where a domino lies -/
def dOv (a b : Cel) : Dom := if nbr a b then ⟨min a.x b.x, min a.y b.y, decide (a.x = b.x)⟩ else ⟨0, 0, false⟩
/-- the cells beside a side of the board's grid -/
def lfC (ax ay bx by' : Int) : Cel := ⟨leftX ax bx ay by', leftY ax bx ay by'⟩
def sideB (s : Nat) (ds : List Dom) (p q : Cel) : Bool := (hasS s p || hasS s q) && !(nbr p q && decide (dOv p q ∈ ds))
theorem sideB_sw (s : Nat) (ds : List Dom) (p q : Cel) : sideB s ds p q = sideB s ds q p := by
  unfold sideB
  rw [nbr_comm q p, Bool.or_comm]
  congr 2
  cases h : nbr p q
  · rfl
  · have h2 : nbr q p = true := by rw [nbr_comm]; exact h
    have e : dOv p q = dOv q p := by
      unfold dOv; rw [if_pos h, if_pos h2]
      rw [Int.min_comm p.x, Int.min_comm p.y]
      congr 1
      rw [decide_eq_decide]; exact ⟨fun h => h.symm, fun h => h.symm⟩
    rw [e]
theorem nbr_ver {x y : Int} : nbr ⟨x, y - 1⟩ ⟨x, y⟩ = true ↔ okD ⟨x, y - 1, true⟩ = true := by
  unfold nbr okD
  rw [okd_true, Bool.and_eq_true, Bool.and_eq_true, okc_true, okc_true, decide_eq_true_eq]
  have e : iabs (x - x) + iabs (y - 1 - y) = 1 := by unfold iabs; split <;> split <;> omega
  simp only [e, if_true, and_true]
  omega
theorem nbr_hor {x y : Int} : nbr ⟨x - 1, y⟩ ⟨x, y⟩ = true ↔ okD ⟨x - 1, y, false⟩ = true := by
  unfold nbr okD
  rw [okd_true, Bool.and_eq_true, Bool.and_eq_true, okc_true, okc_true, decide_eq_true_eq]
  have e : iabs (x - 1 - x) + iabs (y - y) = 1 := by unfold iabs; split <;> split <;> omega
  simp only [e, Bool.false_eq_true, if_false, and_true]
  omega
theorem side_H {s : Nat} {ds : List Dom} (hd : ∀ d ∈ ds, okD d = true) (x y : Int) : sideB s ds ⟨x, y - 1⟩ ⟨x, y⟩ = opH s ds x y := by
  unfold sideB opH
  congr 2
  cases h : nbr ⟨x, y - 1⟩ ⟨x, y⟩
  · rw [Bool.false_and]; symm; rw [decide_eq_false_iff_not]; intro hm
    have := nbr_ver.2 (hd _ hm); rw [h] at this; cases this
  · rw [Bool.true_and]
    unfold dOv; rw [if_pos h]
    simp only
    rw [show min x x = x by omega, show min (y - 1) y = y - 1 by omega]; simp
theorem side_V {s : Nat} {ds : List Dom} (hd : ∀ d ∈ ds, okD d = true) (x y : Int) : sideB s ds ⟨x - 1, y⟩ ⟨x, y⟩ = opV s ds x y := by
  unfold sideB opV
  congr 2
  cases h : nbr ⟨x - 1, y⟩ ⟨x, y⟩
  · rw [Bool.false_and]; symm; rw [decide_eq_false_iff_not]; intro hm
    have := nbr_hor.2 (hd _ hm); rw [h] at this; cases this
  · rw [Bool.true_and]
    unfold dOv; rw [if_pos h]
    simp only
    rw [show min y y = y by omega, show min (x - 1) x = x - 1 by omega]
    have : ¬ (x - 1 = x) := by omega
    simp [this]

theorem qC27_bs_57 : ∀ (a b : Int) (c : Bool), Try.prog.built 57 [(0, .int .i64 a), (1, .int .i64 b), (2, .bool c)] = some ([.int .i64 a, .int .i64 b, .bool c] : List Value).toArray := fun _ _ _ => rfl
theorem qC27_eg_57 : Try.prog.eqGuardType Try.prog.depth 57 = false := by kernel_rfl
theorem qC27_fo_46_0 : fieldOff Try.prog 46 0 = some 0 := by kernel_rfl
theorem qC27_fo_46_1 : fieldOff Try.prog 46 1 = some 1 := by kernel_rfl
theorem qC27_sz_57 : (Try.prog.info? 57).map (·.size) = some 3 := by kernel_rfl
theorem qC27_ti_3 : TI Try.prog 3 false 1 := ⟨⟨_, Try.underlying3, rfl⟩, by kernel_rfl⟩
theorem qC27_ti_46 : TI Try.prog 46 true 2 := ⟨⟨_, Try.underlying46, rfl⟩, by kernel_rfl⟩
theorem qC27_ti_57 : TI Try.prog 57 true 3 := ⟨⟨_, Try.underlying57, rfl⟩, by kernel_rfl⟩
theorem qC27_un_26 : Try.prog.underlying 26 = some (.slice 57) := Try.underlying26
theorem qC27_zi_46 : ZI Try.prog 46 (.agg #[.int .i64 0, .int .i64 0]) 2 16 := by unfold ZI; kernel_rfl
theorem qC27_zi_57 : ZI Try.prog 57 (.agg #[.int .i64 0, .int .i64 0, .bool false]) 3 24 := by unfold ZI; kernel_rfl
set_option maxHeartbeats 4000000 in
set_option maxRecDepth 100000 in
theorem hasDomino_k (ds : List Dom) (d : Dom) (hd : ds.length ≤ 2097152) : Fn Try.prog 45 [.a (.slv ds.length 3 (dsl ds)), .agg ([vI d.x, vI d.y, .bool d.d].map A.val)] [.val (.bool (decide (d ∈ ds)))] := by
 refine fn_intro (N := 17) Try.func45 rfl (by kernel_rfl) rfl (Nat.le_of_ble_eq_true rfl) [3, 6, 8] (ret1 rfl) (fun W => ?_)
 show Wp _ _ _ [kV 0 (V.b (.a (.slv ds.length 3 (dsl ds)))), kV 1 (V.av [vI d.x, vI d.y, .bool d.d]), kF 3, kF 6, kF 8]
 refine sq (rg ?_)
 refine z ?_ (h := fun ν => acts_box (h := 3) ν xt (by exact ob1 rfl))
 refine zk (nl (sq (sq (rg (zm ?_)))))
 refine z ?_ (h := fun ν => lnV ν qC27_un_26)
 refine z ?_ (h := fun ν => mc ν)
 refine nl (bkk ?_)
 refine wp_loop' (fun (k : Nat) => k ≤ ds.length ∧ (ds.take k).any (eqD d) = false) (fun (k : Nat) => [kP 3 3 0, kV 7 (V.b (.a (.slv ds.length 3 (dsl ds)))), kI 8 ((ds.length : Nat) : Int), kI 9 ((k : Nat) : Int), kO 3 57 3 true [aI d.x, aI d.y, aB d.d], kF 6, kF 8]) (fun (k : Nat) => ds.length - k) ((0 : Nat)) (by exact ⟨Nat.zero_le _, rfl⟩) (wkf id (wS <| wS <| wS <| wE (e := (vint (by first | rfl | omega | (simp; done) | (simp; omega)))) <| wX <| wF <| wF <| wN)) ?_
 rintro k inv1
 replace inv1 : k ≤ ds.length ∧ (ds.take k).any (eqD d) = false := inv1
 obtain ⟨inv1_0, inv1_1⟩ := inv1
 refine sq (rg ?_)
 refine z ?_ (h := fun ν => acts_bin ν vt vt (r_lss rfl))
 refine nl (sq ?_)
 refine wi (fun c2 => ?_) (fun c2 => ?_)
 ·skip
  have c2P := of_decide_eq_true c2
  refine sk (sq (bkk (sq (rg ?_))))
  refine z ?_ (h := fun ν => ixv ν qC27_un_26 qC27_sz_57 vt)
  refine z ?_ (h := fun ν => uD ν qC27_ti_57)
  refine z ?_ (h := fun ν => acts_alloc' (h := 6) (cap := 1) (s := 3) (cells := [aI 0, aI 0, aB false]) ν qC27_zi_57 rfl rfl (by decide))
  refine z ?_ (h := fun _ => acts_store (cells := [aI ((gD ds k).x), aI ((gD ds k).y), aB ((gD ds k).d)]) qC27_ti_57 xt (by exact rfl) (by decide) (by exact ob1 rfl) (by exact Nat.le_of_ble_eq_true rfl) (by exact rfl))
  refine nl (sq (rg ?_))
  refine z ?_ (h := fun ν => acts_load_owns (xs := [vI d.x, vI d.y, .bool d.d].map A.val) ν qC27_ti_57 rfl (by decide) rfl)
  refine z ?_ (h := fun ν => acts_load_owns (xs := [vI ((gD ds k).x), vI ((gD ds k).y), .bool ((gD ds k).d)].map A.val) ν qC27_ti_57 rfl (by decide) rfl)
  refine z ?_ (h := fun ν => acts_bin ν va va (r_aggeq qC27_eg_57 (fun w => (run_eql_dom d.x d.y d.d ((gD ds k).x) ((gD ds k).y) ((gD ds k).d) w).trans (congrArg (fun z => Result.ok (Value.bool z) w) (rfl : (dEq d.x d.y d.d ((gD ds k).x) ((gD ds k).y) ((gD ds k).d)) = (dEq d.x d.y d.d ((gD ds k).x) ((gD ds k).y) ((gD ds k).d)))))))
  refine nl ?_
  refine wi (b := (dEq d.x d.y d.d ((gD ds k).x) ((gD ds k).y) ((gD ds k).d))) (fun c3 => ?_) (fun c3 => ?_)
  ·skip
   refine sq (rg (zk (nl (wp_ret' ?_))))
   exact VRes.tmp _ _ _ (by exact rfl) (bval (congrArg Value.bool (by exact (has_yes (k := k) (by omega) (by first | assumption | (rw [← eqD_sw]; assumption))).symm)))
  ·skip
   refine sk (rg ?_)
   refine z ?_ (h := fun ν => acts_bin ν vt vc rA)
   refine zm (nl ?_)
   exact loop_back ((k + 1)) (by refine ⟨by omega, any_snocD (by omega) (by assumption) ?_⟩; first | assumption | (rw [← eqD_sw]; assumption)) (by show ds.length - (k + 1) < ds.length - k; omega) (wkf id (wS <| wS <| wS <| wE (e := (vint (by first | rfl | omega | (simp; done) | (simp; omega)))) <| wX <| wF <| wF <| wN))
 ·skip
  have c2P := of_decide_eq_false c2
  refine wp_exit' (sq (rg (zk (nl (wp_ret' ?_)))))
  exact VRes.tmp _ _ _ (by exact rfl) (bval (congrArg Value.bool (by exact (has_no (by assumption) (by assumption)).symm)))

set_option maxHeartbeats 4000000 in
set_option maxRecDepth 100000 in
theorem impl_DominoOver_fn (a b : Cel) : Fn Try.prog 44 [.agg ([vI a.x, vI a.y].map A.val), .agg ([vI b.x, vI b.y].map A.val)] [.val (.agg ([.int .i64 (dOv a b).x, .int .i64 (dOv a b).y, .bool (dOv a b).d] : List Value).toArray), .val (.bool (nbr a b))] := by
 refine fn_intro (N := 27) Try.func44 rfl (by kernel_rfl) rfl (Nat.le_of_ble_eq_true rfl) [2, 3, 4, 8, 15, 20] (ret2 rfl rfl (by intro u hu; injection hu with hu; subst hu; rfl)) (fun W => ?_)
 show Wp _ _ _ [kV 0 (V.av [vI a.x, vI a.y]), kV 1 (V.av [vI b.x, vI b.y]), kF 2, kF 3, kF 4, kF 8, kF 15, kF 20]
 refine sq (rg ?_)
 refine z ?_ (h := fun ν => acts_box (h := 2) ν xt (by exact ob1 rfl))
 refine z ?_ (h := fun ν => acts_box (h := 3) ν xt (by exact ob1 rfl))
 refine z ?_ (h := fun ν => acts_alloc' (h := 4) (cap := 1) (s := 3) (cells := [aI 0, aI 0, aB false]) ν qC27_zi_57 rfl rfl (by decide))
 refine zk (nl (sq (sq (rg ?_))))
 refine z ?_ (h := fun ν => acts_load_owns (xs := [vI a.x, vI a.y].map A.val) ν qC27_ti_46 rfl (by decide) rfl)
 refine z ?_ (h := fun ν => acts_load_owns (xs := [vI b.x, vI b.y].map A.val) ν qC27_ti_46 rfl (by decide) rfl)
 refine z ?_ (h := fun ν => acts_call1 ν (impl_AreNeighbors_fn a b ) (ac (ArgV.va va) (ac (ArgV.va va) an)) rv)
 refine z ?_ (h := fun ν => acts_un ν vt (r_not rfl))
 refine nl ?_
 refine wi (b := (!(nbr a b))) (fun c1 => ?_) (fun c1 => ?_)
 ·skip
  have c2 : (nbr a b) = false := by first | (rw [← Bool.not_eq_true']; exact c1) | simpa using c1
  refine sq (rg ?_)
  refine z ?_ (h := fun ν => acts_build (cells := [vI 0, vI 0, .bool false]) ν OpVs.nil rfl)
  refine z ?_ (h := fun _ => acts_store (cells := [aI 0, aI 0, aB false]) qC27_ti_57 xt (by exact rfl) (by decide) (by exact ob1 rfl) (by exact Nat.le_of_ble_eq_true rfl) (by exact rfl))
  refine zk (nl (wp_ret' ?_))
  exact ⟨VRes.cells 4 57 4 ⟨57, 3, true, [aI 0, aI 0, aB false]⟩ _ (by kernel_rfl) (by kernel_rfl) qC27_ti_57 (Nat.le_of_ble_eq_true rfl) (bagg (vs := [vI 0, vI 0, .bool false]) (by simp_all [dOv])), VRes.tmp _ _ _ (by exact rfl) (bval (congrArg Value.bool (by simp_all [dOv])))⟩
 ·skip
  have c3 : (nbr a b) = true := by first | (rw [← Bool.not_eq_false']; exact c1) | simpa using c1
  refine sk (sq (rg ?_))
  refine z ?_ (h := fun ν => acts_field (off' := 0) ν qC27_fo_46_0 rfl)
  refine z ?_ (h := fun ν => acts_load_own (x := .val (.int .i64 a.x)) ν qC27_ti_3 (by exact rfl))
  refine z ?_ (h := fun ν => acts_field (off' := 0) ν qC27_fo_46_0 rfl)
  refine z ?_ (h := fun ν => acts_load_own (x := .val (.int .i64 b.x)) ν qC27_ti_3 (by exact rfl))
  refine z ?_ (h := fun ν => acts_min (c := (min a.x b.x)) ν vt vt (by omega))
  refine z ?_ (h := fun ν => acts_field (off' := 1) ν qC27_fo_46_1 rfl)
  refine z ?_ (h := fun ν => acts_load_own (x := .val (.int .i64 a.y)) ν qC27_ti_3 (by exact rfl))
  refine z ?_ (h := fun ν => acts_field (off' := 1) ν qC27_fo_46_1 rfl)
  refine z ?_ (h := fun ν => acts_load_own (x := .val (.int .i64 b.y)) ν qC27_ti_3 (by exact rfl))
  refine z ?_ (h := fun ν => acts_min (c := (min a.y b.y)) ν vt vt (by omega))
  refine z ?_ (h := fun ν => acts_field (off' := 0) ν qC27_fo_46_0 rfl)
  refine z ?_ (h := fun ν => acts_load_own (x := .val (.int .i64 a.x)) ν qC27_ti_3 (by exact rfl))
  refine z ?_ (h := fun ν => acts_field (off' := 0) ν qC27_fo_46_0 rfl)
  refine z ?_ (h := fun ν => acts_load_own (x := .val (.int .i64 b.x)) ν qC27_ti_3 (by exact rfl))
  refine z ?_ (h := fun ν => acts_bin ν vt vt (r_eql rfl))
  refine z ?_ (h := fun ν => bD ν qC27_bs_57 vt vt vt)
  refine z ?_ (h := fun _ => acts_store (cells := [aI (min a.x b.x), aI (min a.y b.y), aB (decide (a.x = b.x))]) qC27_ti_57 xt (by exact rfl) (by decide) (by exact ob1 rfl) (by exact Nat.le_of_ble_eq_true rfl) (by exact rfl))
  refine zk (nl (wp_ret' ?_))
  exact ⟨VRes.cells 4 57 4 ⟨57, 3, true, [aI (min a.x b.x), aI (min a.y b.y), aB (decide (a.x = b.x))]⟩ _ (by kernel_rfl) (by kernel_rfl) qC27_ti_57 (Nat.le_of_ble_eq_true rfl) (bagg (vs := [vI (min a.x b.x), vI (min a.y b.y), .bool (decide (a.x = b.x))]) (by simp_all [dOv])), VRes.tmp _ _ _ (by exact rfl) (bval (congrArg Value.bool (by simp_all [dOv])))⟩

theorem impl_leftOf_fn (a b c d : Int) (g1 : -1000 ≤ a) (g2 : a ≤ 1000) (g3 : -1000 ≤ b) (g4 : b ≤ 1000) : Fn Try.prog 55 [.a (.val (.int .i64 a)), .a (.val (.int .i64 b)), .a (.val (.int .i64 c)), .a (.val (.int .i64 d))] [.val (.agg ([.int .i64 (lfC a b c d).x, .int .i64 (lfC a b c d).y] : List Value).toArray)] := by
  refine ⟨⟨_, Try.func55, by kernel_rfl, by kernel_rfl⟩, fun w args h => ?_⟩
  match args, args_iff.1 h with
  | [u0, u1, u2, u3], ⟨h0, h1, h2, h3, _⟩ =>
    obtain rfl := argB_v h0
    obtain rfl := argB_v h1
    obtain rfl := argB_v h2
    obtain rfl := argB_v h3
    refine Calls.mono (leftOf_c a b c d w g1 g2 g3 g4) ?_
    rintro e w' ⟨rfl, hb⟩
    exact ⟨_, rfl, rfl, hb⟩

set_option maxHeartbeats 4000000 in
set_option maxRecDepth 100000 in
theorem impl_besides_fn (a b c d : Int) (g1 : -1000 ≤ a) (g2 : a ≤ 1000) (g3 : -1000 ≤ b) (g4 : b ≤ 1000) (g5 : -1000 ≤ c) (g6 : c ≤ 1000) (g7 : -1000 ≤ d) (g8 : d ≤ 1000) : Fn Try.prog 42 [.a (.val (.int .i64 a)), .a (.val (.int .i64 b)), .a (.val (.int .i64 c)), .a (.val (.int .i64 d))] [.val (.agg ([.int .i64 (lfC a b c d).x, .int .i64 (lfC a b c d).y] : List Value).toArray), .val (.agg ([.int .i64 (lfC c d a b).x, .int .i64 (lfC c d a b).y] : List Value).toArray)] := by
 refine fn_intro (N := 20) Try.func42 rfl (by kernel_rfl) rfl (Nat.le_of_ble_eq_true rfl) [8, 9, 14, 19] (ret2 rfl rfl (by intro u hu; injection hu with hu; subst hu; rfl)) (fun W => ?_)
 show Wp _ _ _ [kI 0 a, kI 1 b, kI 2 c, kI 3 d, kF 8, kF 9, kF 14, kF 19]
 refine sq (rg ?_)
 refine z ?_ (h := fun ν => acts_alloc' (h := 8) (cap := 1) (s := 2) (cells := [aI 0, aI 0]) ν qC27_zi_46 rfl rfl (by decide))
 refine z ?_ (h := fun ν => acts_alloc' (h := 9) (cap := 1) (s := 2) (cells := [aI 0, aI 0]) ν qC27_zi_46 rfl rfl (by decide))
 refine nl (sq (rg (zm (zm (zm (zm ?_))))))
 refine z ?_ (h := fun ν => acts_call1 ν (impl_leftOf_fn a b c d (by omega) (by omega) (by omega) (by omega)) (ac (ArgV.v vt) (ac (ArgV.v vt) (ac (ArgV.v vt) (ac (ArgV.v vt) an)))) (ResV.agg [vI ((lfC a b c d).x), vI ((lfC a b c d).y)]))
 refine zm (zm (zm (zm ?_)))
 refine z ?_ (h := fun ν => acts_call1 ν (impl_leftOf_fn c d a b (by omega) (by omega) (by omega) (by omega)) (ac (ArgV.v vt) (ac (ArgV.v vt) (ac (ArgV.v vt) (ac (ArgV.v vt) an)))) (ResV.agg [vI ((lfC c d a b).x), vI ((lfC c d a b).y)]))
 refine z ?_ (h := fun _ => acts_store (cells := [aI ((lfC a b c d).x), aI ((lfC a b c d).y)]) qC27_ti_46 xt (by exact rfl) (by decide) (by exact ob1 rfl) (by exact Nat.le_of_ble_eq_true rfl) (by exact rfl))
 refine z ?_ (h := fun _ => acts_store (cells := [aI ((lfC c d a b).x), aI ((lfC c d a b).y)]) qC27_ti_46 xt (by exact rfl) (by decide) (by exact ob1 rfl) (by exact Nat.le_of_ble_eq_true rfl) (by exact rfl))
 refine nl (wp_ret' ?_)
 exact ⟨VRes.cells 8 46 8 ⟨46, 2, true, [aI ((lfC a b c d).x), aI ((lfC a b c d).y)]⟩ _ (by kernel_rfl) (by kernel_rfl) qC27_ti_46 (Nat.le_of_ble_eq_true rfl) (bagg (vs := [vI ((lfC a b c d).x), vI ((lfC a b c d).y)]) (by rfl)), VRes.cells 9 46 9 ⟨46, 2, true, [aI ((lfC c d a b).x), aI ((lfC c d a b).y)]⟩ _ (by kernel_rfl) (by kernel_rfl) qC27_ti_46 (Nat.le_of_ble_eq_true rfl) (bagg (vs := [vI ((lfC c d a b).x), vI ((lfC c d a b).y)]) (by rfl))⟩

theorem impl_EdgeStep_fn (a b c d : Int) : Fn Try.prog 27 [.a (.val (.int .i64 a)), .a (.val (.int .i64 b)), .a (.val (.int .i64 c)), .a (.val (.int .i64 d))] [.val (.int .i64 (estep a b c d))] := by
  refine ⟨⟨_, Try.func27, by kernel_rfl, by kernel_rfl⟩, fun w args h => ?_⟩
  match args, args_iff.1 h with
  | [u0, u1, u2, u3], ⟨h0, h1, h2, h3, _⟩ =>
    obtain rfl := argB_v h0
    obtain rfl := argB_v h1
    obtain rfl := argB_v h2
    obtain rfl := argB_v h3
    refine Calls.mono (edgeStep_impl a b c d w) ?_
    rintro e w' ⟨rfl, hb⟩
    exact ⟨_, rfl, rfl, hb⟩

end Cl
end Go.Proofs.Ytonlghbbdcddoaa
