/- Walks over clean states, printed by wg.py. No statement is proved here. -/
import Derived.Test.YtgmkkfdnmdohlaaGreatDoorE4
import Derived.Test.YtgmkkfdnmdohlaaGreatDoorFlip
import Derived.Test.YtgmkkfdnmdohlaaGreatDoorFlips
import Derived.Test.YtgmkkfdnmdohlaaGreatDoorSortS
import Derived.Test.YtgmkkfdnmdohlaaGreatDoorS0
import Derived.Test.YtgmkkfdnmdohlaaGreatDoorClB
set_option linter.unusedSimpArgs false
set_option linter.unusedVariables false
namespace Go.Proofs.YtgmkkfdnmdohlaaGreatDoor
namespace Cl
open Go.ChangeShapes Go.WideShapes Go.ChangeAt Go.RowKit
set_option maxRecDepth 20000

theorem hasB_snoc {l : List Dom} {k : Nat} (h : k < l.length) (x y : Int) (d : Bool) : hasB (l.take (k+1)) x y d = (hasB (l.take k) x y d || dEq x y d (gD l k).x (gD l k).y (gD l k).d) := by
  unfold hasB
  rw [List.take_succ_eq_append_getElem h, gD_eq h, Bool.eq_iff_iff]
  simp only [decide_eq_true_eq, Bool.or_eq_true, List.mem_append, List.mem_singleton]
  rw [show dEq x y d l[k].x l[k].y l[k].d = decide ((⟨x, y, d⟩ : Dom) = l[k]) from dEq_dom ⟨x, y, d⟩ l[k]]
  simp
theorem hasB_of {l : List Dom} {k : Nat} (h : k < l.length) {x y : Int} {d : Bool} (he : dEq x y d (gD l k).x (gD l k).y (gD l k).d = true) : hasB l x y d = true := by
  rw [show dEq x y d (gD l k).x (gD l k).y (gD l k).d = decide ((⟨x, y, d⟩ : Dom) = gD l k) from dEq_dom ⟨x, y, d⟩ (gD l k)] at he
  unfold hasB
  simp only [decide_eq_true_eq] at he ⊢
  rw [he, gD_eq h]; exact List.getElem_mem h
def pr0 (c : Cel) (b : Bool) : Dom := ⟨c.x, c.y, b⟩
def pr1 (c : Cel) (b : Bool) : Dom := if b then ⟨c.x + 1, c.y, true⟩ else ⟨c.x, c.y + 1, false⟩
def kp (g0 g1 z : Dom) : Bool := !(dEq z.x z.y z.d g0.x g0.y g0.d) && !(dEq z.x z.y z.d g1.x g1.y g1.d)
def flipD (l : List Dom) (c : Cel) : List Dom := sortD ([pr0 c (acB l c.x c.y), pr1 c (acB l c.x c.y)] ++ l.filter (kp (pr0 c (!(acB l c.x c.y))) (pr1 c (!(acB l c.x c.y)))))
def flipAt (l : List Dom) (c : Cel) : List Dom := if canB l c.x c.y then flipD l c else l
theorem filt_yes {p : Dom → Bool} {l : List Dom} {k : Nat} (h : k < l.length) (hp : p (gD l k) = true) (L : List Dom) : L ++ (l.take (k+1)).filter p = (L ++ (l.take k).filter p) ++ [gD l k] := by
  rw [List.take_succ_eq_append_getElem h, List.filter_append, ← gD_eq h]; simp [hp]
theorem filt_no {p : Dom → Bool} {l : List Dom} {k : Nat} (h : k < l.length) (hp : p (gD l k) = false) (L : List Dom) : L ++ (l.take (k+1)).filter p = L ++ (l.take k).filter p := by
  rw [List.take_succ_eq_append_getElem h, List.filter_append, ← gD_eq h]; simp [hp]
theorem canB_bd {l : List Dom} {x y : Int} (h : canB l x y = true) : 0 ≤ x ∧ x ≤ 6 ∧ 0 ≤ y ∧ y ≤ 6 := by
  unfold canB at h
  simp only [Bool.and_eq_true] at h
  have h1 := inB_true.1 h.1.1; have h2 := inB_true.1 h.1.2; omega
theorem filt_len2 (p : Dom → Bool) (l : List Dom) (k : Nat) (L : List Dom) : (L ++ (l.take k).filter p).length ≤ k + L.length := by
  have := List.length_filter_le p (l.take k); simp at this ⊢; omega
theorem pr1_eq (c : Cel) (b : Bool) : (⟨if b then c.x + 1 else c.x, if b then c.y else c.y + 1, b⟩ : Dom) = pr1 c b := by cases b <;> rfl
theorem fin_len (p : Dom → Bool) (l : List Dom) (a b : Dom) : ([a, b] ++ l.filter p).length ≤ l.length + 2 := by
  have := List.length_filter_le p l; simp at this ⊢; omega
theorem flipAt_of {l : List Dom} {c : Cel} {k : Nat} {n0 n1 g0 g1 : Dom} (hk : ¬ (k : Int) < (l.length : Int)) (hc : canB l c.x c.y = true) (a : Bool) (ha : acB l c.x c.y = a)
   (e0 : n0 = pr0 c a) (e1 : n1 = pr1 c a) (e2 : g0 = pr0 c !a) (e3 : g1 = pr1 c !a) : sortD ([n0, n1] ++ (l.take k).filter (kp g0 g1)) = flipAt l c := by
  subst ha; subst e0; subst e1; subst e2; subst e3
  rw [List.take_of_length_le (by omega)]
  unfold flipAt; rw [if_pos hc]; rfl
theorem sortD_len (l : List Dom) : (sortD l).length ≤ l.length := sortBy_len l
theorem flipAt_len (l : List Dom) (c : Cel) : (flipAt l c).length ≤ l.length + 2 := by
  unfold flipAt; split
  · exact Nat.le_trans (sortD_len _) (fin_len _ _ _ _)
  · omega
theorem kind_bd {l : List Dom} {x y : Int} (h : ¬ kindI l x y = 0) : canB l x y = true := by
  rw [← kindI_can]
  unfold kindI at h ⊢; split at h <;> (try split at h) <;> (try split at h) <;> simp_all
theorem kind_one {l : List Dom} {x y : Int} (h : ¬ kindI l x y = 0) : decide (kindI l x y = 2) = !(acB l x y) ∧ decide (kindI l x y = 1) = acB l x y := by
  unfold kindI at h ⊢; split at h <;> (try split at h) <;> (try split at h) <;> simp_all
theorem kind_no {l : List Dom} {x y : Int} (h : kindI l x y = 0) : canB l x y = false := by
  rw [← kindI_can, h]; rfl

theorem qE5_eg_62 : Tryz.prog.eqGuardType Tryz.prog.depth 62 = false := by kernel_rfl
theorem qE5_sz_62 : (Tryz.prog.info? 62).map (·.size) = some 3 := by kernel_rfl
theorem qE5_ti_62 : TI Tryz.prog 62 true 3 := ⟨⟨_, Tryz.underlying62, rfl⟩, by kernel_rfl⟩
theorem qE5_ti_70 : TI Tryz.prog 70 true 2 := ⟨⟨_, Tryz.underlying70, rfl⟩, by kernel_rfl⟩
theorem qE5_ti_93 : TI Tryz.prog 93 true 6 := ⟨⟨_, Tryz.underlying93, rfl⟩, by kernel_rfl⟩
theorem qE5_un_31 : Tryz.prog.underlying 31 = some (.slice 62) := Tryz.underlying31
theorem qE5_un_93 : Tryz.prog.underlying 93 = some (.array 2 62) := Tryz.underlying93
theorem qE5_zi_62 : ZI Tryz.prog 62 (.agg #[.int .i64 0, .int .i64 0, .bool false]) 3 24 := by unfold ZI; kernel_rfl
theorem qE5_zi_93 : ZI Tryz.prog 93 (.agg #[.int .i64 0, .int .i64 0, .bool false, .int .i64 0, .int .i64 0, .bool false]) 6 48 := by unfold ZI; kernel_rfl
theorem impl_CanFlip_fn (l : List Dom) (c : Cel) (hl : l.length ≤ 4194304) : Fn Tryz.prog 70 [.a (.slv l.length 3 (dsl l)), .agg ([vI c.x, vI c.y].map A.val)] [.val (.bool (canB l c.x c.y))] := by
  refine ⟨⟨_, Tryz.func70, by kernel_rfl, by kernel_rfl⟩, fun w args h => ?_⟩
  match args, args_iff.1 h with
  | [u0, u1], ⟨h0, h1, _⟩ =>
    obtain ⟨A0, c0, rfl, hc0, hr0⟩ := argB_slv h0
    obtain rfl := argB_av h1
    refine Calls.mono (canFlip_impl l A0 l.length c0 c.x c.y w hr0 hl) ?_
    rintro e w' ⟨rfl, hb⟩
    exact ⟨_, rfl, rfl, hb⟩

theorem spec_l11Kind_fn (l : List Dom) (c : Cel) (hl : l.length ≤ 4194304) : Fn Tryz.prog 69 [.a (.slv l.length 3 (dsl l)), .agg ([vI c.x, vI c.y].map A.val)] [.val (.int .i64 (kindI l c.x c.y))] := by
  refine ⟨⟨_, Tryz.func69, by kernel_rfl, by kernel_rfl⟩, fun w args h => ?_⟩
  match args, args_iff.1 h with
  | [u0, u1], ⟨h0, h1, _⟩ =>
    obtain ⟨A0, c0, rfl, hc0, hr0⟩ := argB_slv h0
    obtain rfl := argB_av h1
    refine Calls.mono (l11Kind_c l A0 l.length c0 c.x c.y w hr0 hl) ?_
    rintro e w' ⟨rfl, hb⟩
    exact ⟨_, rfl, rfl, hb⟩

set_option maxHeartbeats 4000000 in
set_option maxRecDepth 100000 in
theorem impl_hasDomino_fn (l : List Dom) (d : Dom) (hl : l.length ≤ 4194304) : Fn Tryz.prog 73 [.a (.slv l.length 3 (dsl l)), .agg ([vI d.x, vI d.y, .bool d.d].map A.val)] [.val (.bool (hasB l d.x d.y d.d))] := by
 refine fn_intro (N := 17) Tryz.func73 rfl (by kernel_rfl) rfl (Nat.le_of_ble_eq_true rfl) [3, 6, 8] (ret1 rfl) (fun W => ?_)
 show Wp _ _ _ [kV 0 (V.b (.a (.slv l.length 3 (dsl l)))), kV 1 (V.av [vI d.x, vI d.y, .bool d.d]), kF 3, kF 6, kF 8]
 refine sq (rg ?_)
 refine z ?_ (h := fun ν => acts_box (h := 3) ν xt (by exact ob1 rfl))
 refine zk (nl (sq (sq (rg (zm ?_)))))
 refine z ?_ (h := fun ν => lnV ν qE5_un_31)
 refine z ?_ (h := fun ν => mc ν)
 refine nl (bkk ?_)
 refine wp_loop' (fun (k : Nat) => k ≤ l.length ∧ hasB (l.take k) d.x d.y d.d = false) (fun (k : Nat) => [kP 3 3 0, kV 7 (V.b (.a (.slv l.length 3 (dsl l)))), kI 8 ((l.length : Nat) : Int), kI 9 ((k : Nat) : Int), kO 3 62 3 true [aI d.x, aI d.y, aB d.d], kF 6, kF 8]) (fun (k : Nat) => l.length - k) ((0 : Nat)) (by exact ⟨Nat.zero_le _, by simp [hasB]⟩) (wkf id (wS <| wS <| wS <| wE (e := (vint (by rfl))) <| wX <| wF <| wF <| wN)) ?_
 rintro k inv1
 replace inv1 : k ≤ l.length ∧ hasB (l.take k) d.x d.y d.d = false := inv1
 obtain ⟨inv1_0, inv1_1⟩ := inv1
 refine sq (rg ?_)
 refine z ?_ (h := fun ν => acts_bin ν vt vt (r_lss rfl))
 refine nl (sq ?_)
 refine wi (fun c2 => ?_) (fun c2 => ?_)
 ·skip
  have c2P := of_decide_eq_true c2
  refine sk (sq (bkk (sq (rg ?_))))
  refine z ?_ (h := fun ν => ixv ν qE5_un_31 qE5_sz_62 vt)
  refine z ?_ (h := fun ν => uD ν qE5_ti_62)
  refine z ?_ (h := fun ν => acts_alloc' (h := 6) (cap := 1) (s := 3) (cells := [aI 0, aI 0, aB false]) ν qE5_zi_62 rfl rfl (by decide))
  refine z ?_ (h := fun _ => acts_store (cells := [aI ((gD l k).x), aI ((gD l k).y), aB ((gD l k).d)]) qE5_ti_62 xt (by exact rfl) (by decide) (by exact ob1 rfl) (by exact Nat.le_of_ble_eq_true rfl) (by exact rfl))
  refine nl (sq (rg ?_))
  refine z ?_ (h := fun ν => acts_load_owns (xs := [vI d.x, vI d.y, .bool d.d].map A.val) ν qE5_ti_62 rfl (by decide) rfl)
  refine z ?_ (h := fun ν => acts_load_owns (xs := [vI ((gD l k).x), vI ((gD l k).y), .bool ((gD l k).d)].map A.val) ν qE5_ti_62 rfl (by decide) rfl)
  refine z ?_ (h := fun ν => acts_bin ν va va (r_aggeq qE5_eg_62 (fun w => (run_eql_dom d.x d.y d.d ((gD l k).x) ((gD l k).y) ((gD l k).d) w).trans (congrArg (fun z => Result.ok (Value.bool z) w) (rfl : (dEq d.x d.y d.d ((gD l k).x) ((gD l k).y) ((gD l k).d)) = (dEq d.x d.y d.d ((gD l k).x) ((gD l k).y) ((gD l k).d)))))))
  refine nl ?_
  refine wi (b := (dEq d.x d.y d.d ((gD l k).x) ((gD l k).y) ((gD l k).d))) (fun c3 => ?_) (fun c3 => ?_)
  ·skip
   refine sq (rg (zk (nl (wp_ret' ?_))))
   exact VRes.tmp _ _ _ (by exact rfl) (bval (congrArg Value.bool (by exact (hasB_of (k := k) (by omega) (by assumption)).symm)))
  ·skip
   refine sk (rg ?_)
   refine z ?_ (h := fun ν => acts_bin ν vt vc rA)
   refine zm (nl ?_)
   exact loop_back ((k + 1)) (by refine ⟨by omega, ?_⟩; rw [hasB_snoc (by omega)]; simp_all) (by show l.length - (k + 1) < l.length - k; omega) (wkf id (wS <| wS <| wS <| wE (e := (vint (by rfl))) <| wX <| wF <| wF <| wN))
 ·skip
  have c2P := of_decide_eq_false c2
  refine wp_exit' (sq (rg (zk (nl (wp_ret' ?_)))))
  exact VRes.tmp _ _ _ (by exact rfl) (bval (congrArg Value.bool (by (have e : k = l.length := by omega); subst e; simp_all)))

theorem impl_pairs_fn (c : Cel) (hb : 0 ≤ c.x ∧ c.x ≤ 6 ∧ 0 ≤ c.y ∧ c.y ≤ 6) : Fn Tryz.prog 72 [.agg ([vI c.x, vI c.y].map A.val)] [.val (.agg ([vI c.x, vI c.y, .bool false, vI c.x, vI (c.y + 1), .bool false] : List Value).toArray), .val (.agg ([vI c.x, vI c.y, .bool true, vI (c.x + 1), vI c.y, .bool true] : List Value).toArray)] := by
  refine ⟨⟨_, Tryz.func72, by kernel_rfl, by kernel_rfl⟩, fun w args h => ?_⟩
  match args, args_iff.1 h with
  | [u0], ⟨h0, _⟩ =>
    obtain rfl := argB_av h0
    refine Calls.mono (pairs_c c.x c.y hb.1 hb.2.1 hb.2.2.1 hb.2.2.2 w) ?_
    rintro e w' ⟨rfl, hb⟩
    exact ⟨_, rfl, resok2 rfl rfl rfl, hb⟩

theorem spec_l11Pair_fn (c : Cel) (b : Bool) (hb : 0 ≤ c.x ∧ c.x ≤ 6 ∧ 0 ≤ c.y ∧ c.y ≤ 6) : Fn Tryz.prog 79 [.agg ([vI c.x, vI c.y].map A.val), .a (.val (.bool b))] [.val (.agg ([vI c.x, vI c.y, .bool b] : List Value).toArray), .val (.agg ([vI (if b then c.x + 1 else c.x), vI (if b then c.y else c.y + 1), .bool b] : List Value).toArray)] := by
  refine ⟨⟨_, Tryz.func79, by kernel_rfl, by kernel_rfl⟩, fun w args h => ?_⟩
  match args, args_iff.1 h with
  | [u0, u1], ⟨h0, h1, _⟩ =>
    obtain rfl := argB_av h0
    obtain rfl := argB_v h1
    refine Calls.mono (l11Pair_c c.x c.y b hb.1 hb.2.1 hb.2.2.1 hb.2.2.2 w) ?_
    rintro e w' ⟨rfl, hb⟩
    exact ⟨_, rfl, resok2 rfl rfl rfl, hb⟩

set_option maxHeartbeats 4000000 in
set_option maxRecDepth 100000 in
theorem impl_FlipAt_fn (l : List Dom) (c : Cel) (hl : l.length ≤ 1048576) : Fn Tryz.prog 46 [.a (.slv l.length 3 (dsl l)), .agg ([vI c.x, vI c.y].map A.val)] [.row 62 3 (flipAt l c).length (dsl (flipAt l c)), .val (.bool (canB l c.x c.y))] := by
 refine fn_intro (N := 64) Tryz.func46 rfl (by kernel_rfl) rfl (Nat.le_of_ble_eq_true rfl) [3, 6, 7, 10, 13, 16, 19, 25, 31, 40, 42, 59, 60, 63, 64, 65, 66, 67, 1000, 1001] (ret2 rfl rfl (by intro u hu; injection hu with hu; subst hu; rfl)) (fun W => ?_)
 show Wp _ _ _ [kV 0 (V.b (.a (.slv l.length 3 (dsl l)))), kV 1 (V.av [vI c.x, vI c.y]), kF 3, kF 6, kF 7, kF 10, kF 13, kF 16, kF 19, kF 25, kF 31, kF 40, kF 42, kF 59, kF 60, kF 63, kF 64, kF 65, kF 66, kF 67, kF 1000, kF 1001]
 refine sq (rg ?_)
 refine z ?_ (h := fun ν => acts_box (h := 3) ν xt (by exact ob1 rfl))
 refine zk (zk (nl (sq (sq (rg (zm ?_))))))
 refine z ?_ (h := fun ν => acts_load_owns (xs := [vI c.x, vI c.y].map A.val) ν qE5_ti_70 rfl (by decide) rfl)
 refine z ?_ (h := fun ν => acts_call1 ν (impl_CanFlip_fn l c (by omega)) (ac (ArgV.slv _ _ _ _) (ac (ArgV.va va) an)) rv)
 refine z ?_ (h := fun ν => acts_un ν vt (r_not rfl))
 refine nl ?_
 refine wi (b := (!(canB l c.x c.y))) (fun c1 => ?_) (fun c1 => ?_)
 ·skip
  have c2 : (canB l c.x c.y) = false := by first | (rw [← Bool.not_eq_true']; exact c1) | simpa using c1
  refine sq (rg (zm ?_))
  refine z ?_ (h := fun ν => acts_call1 ν (impl_copyDominoes_fn l (by omega)) (ac (ArgV.slv _ _ _ _) an) (ResV.row _ _ _ _ 16))
  refine za (zk (nl (wp_ret' ?_)))
  exact ⟨VRes.tmp _ _ _ (by exact rfl) (brow_doms (h := 16) (L := l) (by kernel_rfl) (by simp [flipAt, *]) (by rfl)), VRes.tmp _ _ _ (by exact rfl) (bval (congrArg Value.bool (by simp_all)))⟩
 ·skip
  have c3 : (canB l c.x c.y) = true := by first | (rw [← Bool.not_eq_false']; exact c1) | simpa using c1
  have c3B := canB_bd c3
  refine sk (sq (rg ?_))
  refine z ?_ (h := fun ν => acts_load_owns (xs := [vI c.x, vI c.y].map A.val) ν qE5_ti_70 rfl (by decide) rfl)
  refine z ?_ (h := fun ν => acts_call2 ν (impl_pairs_fn c (by omega)) (ac (ArgV.va va) an) (ResV.agg [vI c.x, vI c.y, .bool false, vI c.x, vI (c.y + 1), .bool false]) (ResV.agg [vI c.x, vI c.y, .bool true, vI (c.x + 1), vI c.y, .bool true]))
  refine zm ?_
  refine z ?_ (h := fun ν => acts_extract ν (by exact rfl))
  refine z ?_ (h := fun ν => acts_extract ν (by exact rfl))
  refine z ?_ (h := fun ν => acts_alloc' (h := 6) (cap := 1) (s := 6) (cells := [aI 0, aI 0, aB false, aI 0, aI 0, aB false]) ν qE5_zi_93 rfl rfl (by decide))
  refine z ?_ (h := fun ν => acts_alloc' (h := 7) (cap := 1) (s := 6) (cells := [aI 0, aI 0, aB false, aI 0, aI 0, aB false]) ν qE5_zi_93 rfl rfl (by decide))
  refine z ?_ (h := fun _ => acts_store (cells := [aI c.x, aI c.y, aB false, aI c.x, aI (c.y + 1), aB false]) qE5_ti_93 xt (by exact rfl) (by decide) (by exact ob1 rfl) (by exact Nat.le_of_ble_eq_true rfl) (by exact rfl))
  refine z ?_ (h := fun _ => acts_store (cells := [aI c.x, aI c.y, aB true, aI (c.x + 1), aI c.y, aB true]) qE5_ti_93 xt (by exact rfl) (by decide) (by exact ob1 rfl) (by exact Nat.le_of_ble_eq_true rfl) (by exact rfl))
  refine nl (sq (sq ?_))
  rcases Bool.eq_false_or_eq_true ((hasB l c.x c.y false)) with c4 | c4
  ·skip
   refine rg (zm ?_)
   refine z ?_ (h := fun ν => acts_index_arr (k := 0) (off' := 0) ν qE5_un_93 qE5_sz_62 vc rfl (by decide) rfl)
   refine z ?_ (h := fun ν => acts_load_owns (xs := [vI c.x, vI c.y, .bool false].map A.val) ν qE5_ti_62 rfl (by decide) rfl)
   refine z ?_ (h := fun ν => acts_call1 ν (impl_hasDomino_fn l (⟨c.x, c.y, false⟩ : Dom) (by omega)) (ac (ArgV.slv _ _ _ _) (ac (ArgV.va va) an)) (resval (congrArg Value.bool c4)))
   refine z ?_ (h := fun ν => acts_un ν vt (r_not (c := false) rfl))
   refine zm ?_
   refine zg ?_ (h := fun ν => step_on rfl rfl (mt ν))
   refine zg ?_ (h := fun ν => step_on rfl rfl (acts_index_arr (k := 1) (off' := 3) ν qE5_un_93 qE5_sz_62 vc rfl (by decide) rfl))
   refine zg ?_ (h := fun ν => step_on rfl rfl (acts_load_owns (xs := [vI c.x, vI (c.y + 1), .bool false].map A.val) ν qE5_ti_62 rfl (by decide) rfl))
   refine zg ?_ (h := fun ν => step_on rfl rfl (acts_call1 ν (impl_hasDomino_fn l (⟨c.x, (c.y + 1), false⟩ : Dom) (by omega)) (ac (ArgV.slv _ _ _ _) (ac (ArgV.va va) an)) rv))
   refine zg ?_ (h := fun ν => step_on rfl rfl (acts_un ν vt (r_not rfl)))
   refine z ?_ (h := fun ν => acts_pick_f ν vt xt)
   refine nl ?_
   refine wi (b := (!(hasB l c.x (c.y + 1) false))) (fun c5 => ?_) (fun c5 => ?_)
   ·skip
    have c6 : (hasB l c.x (c.y + 1) false) = false := by first | (rw [← Bool.not_eq_true']; exact c5) | simpa using c5
    refine rg ?_
    refine z ?_ (h := fun ν => acts_load_owns (xs := [vI c.x, vI c.y, .bool true, vI (c.x + 1), vI c.y, .bool true].map A.val) ν qE5_ti_93 rfl (by decide) rfl)
    refine z ?_ (h := fun ν => acts_load_owns (xs := [vI c.x, vI c.y, .bool false, vI c.x, vI (c.y + 1), .bool false].map A.val) ν qE5_ti_93 rfl (by decide) rfl)
    refine z ?_ (h := fun _ => acts_store (cells := [aI c.x, aI c.y, aB true, aI (c.x + 1), aI c.y, aB true]) qE5_ti_93 xt (by exact rfl) (by decide) (by exact ob1 rfl) (by exact Nat.le_of_ble_eq_true rfl) (by exact rfl))
    refine z ?_ (h := fun _ => acts_store (cells := [aI c.x, aI c.y, aB false, aI c.x, aI (c.y + 1), aB false]) qE5_ti_93 xt (by exact rfl) (by decide) (by exact ob1 rfl) (by exact Nat.le_of_ble_eq_true rfl) (by exact rfl))
    refine nl (sq (rg ?_))
    refine z ?_ (h := fun ν => acts_index_arr (k := 0) (off' := 0) ν qE5_un_93 qE5_sz_62 vc rfl (by decide) rfl)
    refine z ?_ (h := fun ν => acts_load_owns (xs := [vI c.x, vI c.y, .bool false].map A.val) ν qE5_ti_62 rfl (by decide) rfl)
    refine z ?_ (h := fun ν => acts_index_arr (k := 1) (off' := 3) ν qE5_un_93 qE5_sz_62 vc rfl (by decide) rfl)
    refine z ?_ (h := fun ν => acts_load_owns (xs := [vI c.x, vI (c.y + 1), .bool false].map A.val) ν qE5_ti_62 rfl (by decide) rfl)
    refine z ?_ (h := fun ν => acts_buildSlice' (h := 40) (xs := dsl ([(⟨c.x, c.y, false⟩ : Dom), (⟨c.x, (c.y + 1), false⟩ : Dom)] : List Dom)) ν qE5_un_31 qE5_zi_62 (.cons va (.cons va OpVs.nil)) (by decide) (by decide) (by kernel_rfl) rfl)
    refine za (nl (sq (sq (rg (zm ?_)))))
    refine z ?_ (h := fun ν => lnV ν qE5_un_31)
    refine z ?_ (h := fun ν => mc ν)
    refine nl (bkk ?_)
    refine wp_loop' (fun (k : Nat) => k ≤ l.length) (fun (k : Nat) => [kP 6 6 0, kS 8 40 0 (([(⟨c.x, c.y, false⟩ : Dom), (⟨c.x, (c.y + 1), false⟩ : Dom)] ++ (l.take k).filter (kp (⟨c.x, c.y, true⟩ : Dom) (⟨(c.x + 1), c.y, true⟩ : Dom))).length), kV 41 (V.b (.a (.slv l.length 3 (dsl l)))), kI 42 ((l.length : Nat) : Int), kI 43 ((k : Nat) : Int), kO 6 93 6 true [aI c.x, aI c.y, aB true, aI (c.x + 1), aI c.y, aB true], kO 40 62 3 true (pl (dsl ([(⟨c.x, c.y, false⟩ : Dom), (⟨c.x, (c.y + 1), false⟩ : Dom)] ++ (l.take k).filter (kp (⟨c.x, c.y, true⟩ : Dom) (⟨(c.x + 1), c.y, true⟩ : Dom))))), kF 3, kF 7, kF 10, kF 13, kF 16, kF 19, kF 25, kF 31, kF 42, kF 59, kF 60, kF 63, kF 64, kF 65, kF 66, kF 67, kF 1000, kF 1001]) (fun (k : Nat) => l.length - k) ((0 : Nat)) (by exact Nat.zero_le _) (wkf id (wS <| wE (e := (vsl (by rfl) rfl)) <| wS <| wS <| wE (e := (vint (by rfl))) <| wX <| wO (e := renob_eq (fun h => h) (congrArg dsl (by rfl))) <| by (iterate 18 refine wF ?_); exact wN)) ?_
    rintro k inv7
    replace inv7 : k ≤ l.length := inv7
    have inv := inv7
    have hfl : ([(⟨c.x, c.y, false⟩ : Dom), (⟨c.x, (c.y + 1), false⟩ : Dom)] ++ (l.take k).filter (kp (⟨c.x, c.y, true⟩ : Dom) (⟨(c.x + 1), c.y, true⟩ : Dom))).length ≤ k + 2 := filt_len2 _ l k _
    refine sq (rg ?_)
    refine z ?_ (h := fun ν => acts_bin ν vt vt (r_lss rfl))
    refine nl (sq ?_)
    refine wi (fun c8 => ?_) (fun c8 => ?_)
    ·skip
     have c8P := of_decide_eq_true c8
     refine sk (sq (bkk (sq (rg ?_))))
     refine z ?_ (h := fun ν => ixv ν qE5_un_31 qE5_sz_62 vt)
     refine z ?_ (h := fun ν => uD ν qE5_ti_62)
     refine z ?_ (h := fun ν => acts_alloc' (h := 10) (cap := 1) (s := 3) (cells := [aI 0, aI 0, aB false]) ν qE5_zi_62 rfl rfl (by decide))
     refine z ?_ (h := fun _ => acts_store (cells := [aI ((gD l k).x), aI ((gD l k).y), aB ((gD l k).d)]) qE5_ti_62 xt (by exact rfl) (by decide) (by exact ob1 rfl) (by exact Nat.le_of_ble_eq_true rfl) (by exact rfl))
     refine nl (sq ?_)
     rcases Bool.eq_false_or_eq_true ((dEq ((gD l k).x) ((gD l k).y) ((gD l k).d) c.x c.y true)) with c9 | c9
     ·skip
      refine rg ?_
      refine z ?_ (h := fun ν => acts_load_owns (xs := [vI ((gD l k).x), vI ((gD l k).y), .bool ((gD l k).d)].map A.val) ν qE5_ti_62 rfl (by decide) rfl)
      refine z ?_ (h := fun ν => acts_index_arr (k := 0) (off' := 0) ν qE5_un_93 qE5_sz_62 vc rfl (by decide) rfl)
      refine z ?_ (h := fun ν => acts_load_owns (xs := [vI c.x, vI c.y, .bool true].map A.val) ν qE5_ti_62 rfl (by decide) rfl)
      refine z ?_ (h := fun ν => acts_bin ν va va (r_aggne qE5_eg_62 (fun w => (run_neq_dom ((gD l k).x) ((gD l k).y) ((gD l k).d) c.x c.y true w).trans (congrArg (fun z => Result.ok (Value.bool z) w) (by (rw [c9]; done))))))
      refine zm (zo (zo (zo (zo ?_))))
      refine z ?_ (h := fun ν => acts_pick_f ν vt xc)
      refine nl (wf (sk (rg ?_)))
      refine z ?_ (h := fun ν => acts_bin ν vt vc rA)
      refine zm (nl ?_)
      exact loop_back ((k + 1)) (by show _ ≤ _; omega) (by show l.length - (k + 1) < l.length - k; omega) (wkf id (wS <| wE (e := (vsl (by (exact congrArg List.length (by first | rfl | (simp; done) | exact filt_yes (by omega) (by simp_all [kp]) _ | exact filt_no (by omega) (by simp_all [kp]) _ | omega))) rfl)) <| wS <| wS <| wE (e := (vint (by rfl))) <| wX <| wO (e := renob_eq (fun h => h) (congrArg dsl (by exact filt_no (by omega) (by simp_all [kp]) _))) <| by (iterate 18 refine wF ?_); exact wN))
     ·skip
      refine rg ?_
      refine z ?_ (h := fun ν => acts_load_owns (xs := [vI ((gD l k).x), vI ((gD l k).y), .bool ((gD l k).d)].map A.val) ν qE5_ti_62 rfl (by decide) rfl)
      refine z ?_ (h := fun ν => acts_index_arr (k := 0) (off' := 0) ν qE5_un_93 qE5_sz_62 vc rfl (by decide) rfl)
      refine z ?_ (h := fun ν => acts_load_owns (xs := [vI c.x, vI c.y, .bool true].map A.val) ν qE5_ti_62 rfl (by decide) rfl)
      refine z ?_ (h := fun ν => acts_bin ν va va (r_aggne qE5_eg_62 (fun w => (run_neq_dom ((gD l k).x) ((gD l k).y) ((gD l k).d) c.x c.y true w).trans (congrArg (fun z => Result.ok (Value.bool z) w) (by (rw [c9]; done))))))
      refine zm ?_
      refine zg ?_ (h := fun ν => step_on rfl rfl (acts_load_owns (xs := [vI ((gD l k).x), vI ((gD l k).y), .bool ((gD l k).d)].map A.val) ν qE5_ti_62 rfl (by decide) rfl))
      refine zg ?_ (h := fun ν => step_on rfl rfl (acts_index_arr (k := 1) (off' := 3) ν qE5_un_93 qE5_sz_62 vc rfl (by decide) rfl))
      refine zg ?_ (h := fun ν => step_on rfl rfl (acts_load_owns (xs := [vI (c.x + 1), vI c.y, .bool true].map A.val) ν qE5_ti_62 rfl (by decide) rfl))
      refine zg ?_ (h := fun ν => step_on rfl rfl (acts_bin ν va va (r_aggne qE5_eg_62 (fun w => (run_neq_dom ((gD l k).x) ((gD l k).y) ((gD l k).d) (c.x + 1) c.y true w).trans (congrArg (fun z => Result.ok (Value.bool z) w) (rfl : (!(dEq ((gD l k).x) ((gD l k).y) ((gD l k).d) (c.x + 1) c.y true)) = (!(dEq ((gD l k).x) ((gD l k).y) ((gD l k).d) (c.x + 1) c.y true))))))))
      refine z ?_ (h := fun ν => acts_pick_t ν vt xt)
      refine nl ?_
      refine wi (b := (!(dEq ((gD l k).x) ((gD l k).y) ((gD l k).d) (c.x + 1) c.y true))) (fun c10 => ?_) (fun c10 => ?_)
      ·skip
       have c11 : (dEq ((gD l k).x) ((gD l k).y) ((gD l k).d) (c.x + 1) c.y true) = false := by first | (rw [← Bool.not_eq_true']; exact c10) | simpa using c10
       refine rg (zm ?_)
       refine z ?_ (h := fun ν => acts_load_owns (xs := [vI ((gD l k).x), vI ((gD l k).y), .bool ((gD l k).d)].map A.val) ν qE5_ti_62 rfl (by decide) rfl)
       refine z ?_ (h := fun ν => acts_buildSlice' (h := 59) (xs := dsl ([(gD l k)] : List Dom)) ν qE5_un_31 qE5_zi_62 (.cons va OpVs.nil) (by decide) (by decide) (by kernel_rfl) rfl)
       refine z ?_ (h := fun ν => aD_ (h2 := 60) (L3 := (([(⟨c.x, c.y, false⟩ : Dom), (⟨c.x, (c.y + 1), false⟩ : Dom)] ++ (l.take k).filter (kp (⟨c.x, c.y, true⟩ : Dom) (⟨(c.x + 1), c.y, true⟩ : Dom))) ++ [(gD l k)])) ν qE5_un_31 qE5_zi_62 (by exact rfl) rfl (by exact rfl) (by (simp at *; omega)))
       refine za (nl (rg ?_))
       refine z ?_ (h := fun ν => acts_bin ν vt vc rA)
       refine zm (nl ?_)
       exact loop_back ((k + 1)) (by show _ ≤ _; omega) (by show l.length - (k + 1) < l.length - k; omega) (wkf (subst1 [(40, 60)]) (wS <| wE (e := (vsl (by (exact congrArg List.length (by first | rfl | (simp; done) | exact filt_yes (by omega) (by simp_all [kp]) _ | exact filt_no (by omega) (by simp_all [kp]) _ | omega))) rfl)) <| wS <| wS <| wE (e := (vint (by rfl))) <| wX <| wO (e := renob_eq (fun h => h) (congrArg dsl (by exact filt_yes (by omega) (by simp_all [kp]) _))) <| by (iterate 18 refine wF ?_); exact wN))
      ·skip
       have c12 : (dEq ((gD l k).x) ((gD l k).y) ((gD l k).d) (c.x + 1) c.y true) = true := by first | (rw [← Bool.not_eq_false']; exact c10) | simpa using c10
       refine sk (rg ?_)
       refine z ?_ (h := fun ν => acts_bin ν vt vc rA)
       refine zm (nl ?_)
       exact loop_back ((k + 1)) (by show _ ≤ _; omega) (by show l.length - (k + 1) < l.length - k; omega) (wkf id (wS <| wE (e := (vsl (by (exact congrArg List.length (by first | rfl | (simp; done) | exact filt_yes (by omega) (by simp_all [kp]) _ | exact filt_no (by omega) (by simp_all [kp]) _ | omega))) rfl)) <| wS <| wS <| wE (e := (vint (by rfl))) <| wX <| wO (e := renob_eq (fun h => h) (congrArg dsl (by exact filt_no (by omega) (by simp_all [kp]) _))) <| by (iterate 18 refine wF ?_); exact wN))
    ·skip
     have c8P := of_decide_eq_false c8
     refine wp_exit' (sq (rg (zm ?_)))
     refine z ?_ (h := fun ν => acts_call1 ν (impl_SortDominoes_fn ([(⟨c.x, c.y, false⟩ : Dom), (⟨c.x, (c.y + 1), false⟩ : Dom)] ++ (l.take k).filter (kp (⟨c.x, c.y, true⟩ : Dom) (⟨(c.x + 1), c.y, true⟩ : Dom))) (by omega)) (ac (argv_own (by exact dsl_len _)) an) (ResV.row _ _ _ _ 63))
     refine za (zk (nl (wp_ret' ?_)))
     exact ⟨VRes.tmp _ _ _ (by exact rfl) (brow_doms (h := 63) (L := (sortD ([(⟨c.x, c.y, false⟩ : Dom), (⟨c.x, (c.y + 1), false⟩ : Dom)] ++ (l.take k).filter (kp (⟨c.x, c.y, true⟩ : Dom) (⟨(c.x + 1), c.y, true⟩ : Dom))))) (by kernel_rfl) (by exact flipAt_of (by omega) (by assumption) false (by simp_all [acB]) rfl rfl rfl rfl) (by rfl)), VRes.tmp _ _ _ (by exact rfl) (bval (congrArg Value.bool (by simp_all)))⟩
   ·skip
    have c13 : (hasB l c.x (c.y + 1) false) = true := by first | (rw [← Bool.not_eq_false']; exact c5) | simpa using c5
    refine sk (sq (rg ?_))
    refine z ?_ (h := fun ν => acts_index_arr (k := 0) (off' := 0) ν qE5_un_93 qE5_sz_62 vc rfl (by decide) rfl)
    refine z ?_ (h := fun ν => acts_load_owns (xs := [vI c.x, vI c.y, .bool true].map A.val) ν qE5_ti_62 rfl (by decide) rfl)
    refine z ?_ (h := fun ν => acts_index_arr (k := 1) (off' := 3) ν qE5_un_93 qE5_sz_62 vc rfl (by decide) rfl)
    refine z ?_ (h := fun ν => acts_load_owns (xs := [vI (c.x + 1), vI c.y, .bool true].map A.val) ν qE5_ti_62 rfl (by decide) rfl)
    refine z ?_ (h := fun ν => acts_buildSlice' (h := 40) (xs := dsl ([(⟨c.x, c.y, true⟩ : Dom), (⟨(c.x + 1), c.y, true⟩ : Dom)] : List Dom)) ν qE5_un_31 qE5_zi_62 (.cons va (.cons va OpVs.nil)) (by decide) (by decide) (by kernel_rfl) rfl)
    refine za (nl (sq (sq (rg (zm ?_)))))
    refine z ?_ (h := fun ν => lnV ν qE5_un_31)
    refine z ?_ (h := fun ν => mc ν)
    refine nl (bkk ?_)
    refine wp_loop' (fun (k : Nat) => k ≤ l.length) (fun (k : Nat) => [kP 6 6 0, kS 8 40 0 (([(⟨c.x, c.y, true⟩ : Dom), (⟨(c.x + 1), c.y, true⟩ : Dom)] ++ (l.take k).filter (kp (⟨c.x, c.y, false⟩ : Dom) (⟨c.x, (c.y + 1), false⟩ : Dom))).length), kV 41 (V.b (.a (.slv l.length 3 (dsl l)))), kI 42 ((l.length : Nat) : Int), kI 43 ((k : Nat) : Int), kO 6 93 6 true [aI c.x, aI c.y, aB false, aI c.x, aI (c.y + 1), aB false], kO 40 62 3 true (pl (dsl ([(⟨c.x, c.y, true⟩ : Dom), (⟨(c.x + 1), c.y, true⟩ : Dom)] ++ (l.take k).filter (kp (⟨c.x, c.y, false⟩ : Dom) (⟨c.x, (c.y + 1), false⟩ : Dom))))), kF 3, kF 7, kF 10, kF 13, kF 16, kF 19, kF 25, kF 31, kF 42, kF 59, kF 60, kF 63, kF 64, kF 65, kF 66, kF 67, kF 1000, kF 1001]) (fun (k : Nat) => l.length - k) ((0 : Nat)) (by exact Nat.zero_le _) (wkf id (wS <| wE (e := (vsl (by rfl) rfl)) <| wS <| wS <| wE (e := (vint (by rfl))) <| wX <| wO (e := renob_eq (fun h => h) (congrArg dsl (by rfl))) <| by (iterate 18 refine wF ?_); exact wN)) ?_
    rintro k inv14
    replace inv14 : k ≤ l.length := inv14
    have inv := inv14
    have hfl : ([(⟨c.x, c.y, true⟩ : Dom), (⟨(c.x + 1), c.y, true⟩ : Dom)] ++ (l.take k).filter (kp (⟨c.x, c.y, false⟩ : Dom) (⟨c.x, (c.y + 1), false⟩ : Dom))).length ≤ k + 2 := filt_len2 _ l k _
    refine sq (rg ?_)
    refine z ?_ (h := fun ν => acts_bin ν vt vt (r_lss rfl))
    refine nl (sq ?_)
    refine wi (fun c15 => ?_) (fun c15 => ?_)
    ·skip
     have c15P := of_decide_eq_true c15
     refine sk (sq (bkk (sq (rg ?_))))
     refine z ?_ (h := fun ν => ixv ν qE5_un_31 qE5_sz_62 vt)
     refine z ?_ (h := fun ν => uD ν qE5_ti_62)
     refine z ?_ (h := fun ν => acts_alloc' (h := 10) (cap := 1) (s := 3) (cells := [aI 0, aI 0, aB false]) ν qE5_zi_62 rfl rfl (by decide))
     refine z ?_ (h := fun _ => acts_store (cells := [aI ((gD l k).x), aI ((gD l k).y), aB ((gD l k).d)]) qE5_ti_62 xt (by exact rfl) (by decide) (by exact ob1 rfl) (by exact Nat.le_of_ble_eq_true rfl) (by exact rfl))
     refine nl (sq ?_)
     rcases Bool.eq_false_or_eq_true ((dEq ((gD l k).x) ((gD l k).y) ((gD l k).d) c.x c.y false)) with c16 | c16
     ·skip
      refine rg ?_
      refine z ?_ (h := fun ν => acts_load_owns (xs := [vI ((gD l k).x), vI ((gD l k).y), .bool ((gD l k).d)].map A.val) ν qE5_ti_62 rfl (by decide) rfl)
      refine z ?_ (h := fun ν => acts_index_arr (k := 0) (off' := 0) ν qE5_un_93 qE5_sz_62 vc rfl (by decide) rfl)
      refine z ?_ (h := fun ν => acts_load_owns (xs := [vI c.x, vI c.y, .bool false].map A.val) ν qE5_ti_62 rfl (by decide) rfl)
      refine z ?_ (h := fun ν => acts_bin ν va va (r_aggne qE5_eg_62 (fun w => (run_neq_dom ((gD l k).x) ((gD l k).y) ((gD l k).d) c.x c.y false w).trans (congrArg (fun z => Result.ok (Value.bool z) w) (by (rw [c16]; done))))))
      refine zm (zo (zo (zo (zo ?_))))
      refine z ?_ (h := fun ν => acts_pick_f ν vt xc)
      refine nl (wf (sk (rg ?_)))
      refine z ?_ (h := fun ν => acts_bin ν vt vc rA)
      refine zm (nl ?_)
      exact loop_back ((k + 1)) (by show _ ≤ _; omega) (by show l.length - (k + 1) < l.length - k; omega) (wkf id (wS <| wE (e := (vsl (by (exact congrArg List.length (by first | rfl | (simp; done) | exact filt_yes (by omega) (by simp_all [kp]) _ | exact filt_no (by omega) (by simp_all [kp]) _ | omega))) rfl)) <| wS <| wS <| wE (e := (vint (by rfl))) <| wX <| wO (e := renob_eq (fun h => h) (congrArg dsl (by exact filt_no (by omega) (by simp_all [kp]) _))) <| by (iterate 18 refine wF ?_); exact wN))
     ·skip
      refine rg ?_
      refine z ?_ (h := fun ν => acts_load_owns (xs := [vI ((gD l k).x), vI ((gD l k).y), .bool ((gD l k).d)].map A.val) ν qE5_ti_62 rfl (by decide) rfl)
      refine z ?_ (h := fun ν => acts_index_arr (k := 0) (off' := 0) ν qE5_un_93 qE5_sz_62 vc rfl (by decide) rfl)
      refine z ?_ (h := fun ν => acts_load_owns (xs := [vI c.x, vI c.y, .bool false].map A.val) ν qE5_ti_62 rfl (by decide) rfl)
      refine z ?_ (h := fun ν => acts_bin ν va va (r_aggne qE5_eg_62 (fun w => (run_neq_dom ((gD l k).x) ((gD l k).y) ((gD l k).d) c.x c.y false w).trans (congrArg (fun z => Result.ok (Value.bool z) w) (by (rw [c16]; done))))))
      refine zm ?_
      refine zg ?_ (h := fun ν => step_on rfl rfl (acts_load_owns (xs := [vI ((gD l k).x), vI ((gD l k).y), .bool ((gD l k).d)].map A.val) ν qE5_ti_62 rfl (by decide) rfl))
      refine zg ?_ (h := fun ν => step_on rfl rfl (acts_index_arr (k := 1) (off' := 3) ν qE5_un_93 qE5_sz_62 vc rfl (by decide) rfl))
      refine zg ?_ (h := fun ν => step_on rfl rfl (acts_load_owns (xs := [vI c.x, vI (c.y + 1), .bool false].map A.val) ν qE5_ti_62 rfl (by decide) rfl))
      refine zg ?_ (h := fun ν => step_on rfl rfl (acts_bin ν va va (r_aggne qE5_eg_62 (fun w => (run_neq_dom ((gD l k).x) ((gD l k).y) ((gD l k).d) c.x (c.y + 1) false w).trans (congrArg (fun z => Result.ok (Value.bool z) w) (rfl : (!(dEq ((gD l k).x) ((gD l k).y) ((gD l k).d) c.x (c.y + 1) false)) = (!(dEq ((gD l k).x) ((gD l k).y) ((gD l k).d) c.x (c.y + 1) false))))))))
      refine z ?_ (h := fun ν => acts_pick_t ν vt xt)
      refine nl ?_
      refine wi (b := (!(dEq ((gD l k).x) ((gD l k).y) ((gD l k).d) c.x (c.y + 1) false))) (fun c17 => ?_) (fun c17 => ?_)
      ·skip
       have c18 : (dEq ((gD l k).x) ((gD l k).y) ((gD l k).d) c.x (c.y + 1) false) = false := by first | (rw [← Bool.not_eq_true']; exact c17) | simpa using c17
       refine rg (zm ?_)
       refine z ?_ (h := fun ν => acts_load_owns (xs := [vI ((gD l k).x), vI ((gD l k).y), .bool ((gD l k).d)].map A.val) ν qE5_ti_62 rfl (by decide) rfl)
       refine z ?_ (h := fun ν => acts_buildSlice' (h := 59) (xs := dsl ([(gD l k)] : List Dom)) ν qE5_un_31 qE5_zi_62 (.cons va OpVs.nil) (by decide) (by decide) (by kernel_rfl) rfl)
       refine z ?_ (h := fun ν => aD_ (h2 := 60) (L3 := (([(⟨c.x, c.y, true⟩ : Dom), (⟨(c.x + 1), c.y, true⟩ : Dom)] ++ (l.take k).filter (kp (⟨c.x, c.y, false⟩ : Dom) (⟨c.x, (c.y + 1), false⟩ : Dom))) ++ [(gD l k)])) ν qE5_un_31 qE5_zi_62 (by exact rfl) rfl (by exact rfl) (by (simp at *; omega)))
       refine za (nl (rg ?_))
       refine z ?_ (h := fun ν => acts_bin ν vt vc rA)
       refine zm (nl ?_)
       exact loop_back ((k + 1)) (by show _ ≤ _; omega) (by show l.length - (k + 1) < l.length - k; omega) (wkf (subst1 [(40, 60)]) (wS <| wE (e := (vsl (by (exact congrArg List.length (by first | rfl | (simp; done) | exact filt_yes (by omega) (by simp_all [kp]) _ | exact filt_no (by omega) (by simp_all [kp]) _ | omega))) rfl)) <| wS <| wS <| wE (e := (vint (by rfl))) <| wX <| wO (e := renob_eq (fun h => h) (congrArg dsl (by exact filt_yes (by omega) (by simp_all [kp]) _))) <| by (iterate 18 refine wF ?_); exact wN))
      ·skip
       have c19 : (dEq ((gD l k).x) ((gD l k).y) ((gD l k).d) c.x (c.y + 1) false) = true := by first | (rw [← Bool.not_eq_false']; exact c17) | simpa using c17
       refine sk (rg ?_)
       refine z ?_ (h := fun ν => acts_bin ν vt vc rA)
       refine zm (nl ?_)
       exact loop_back ((k + 1)) (by show _ ≤ _; omega) (by show l.length - (k + 1) < l.length - k; omega) (wkf id (wS <| wE (e := (vsl (by (exact congrArg List.length (by first | rfl | (simp; done) | exact filt_yes (by omega) (by simp_all [kp]) _ | exact filt_no (by omega) (by simp_all [kp]) _ | omega))) rfl)) <| wS <| wS <| wE (e := (vint (by rfl))) <| wX <| wO (e := renob_eq (fun h => h) (congrArg dsl (by exact filt_no (by omega) (by simp_all [kp]) _))) <| by (iterate 18 refine wF ?_); exact wN))
    ·skip
     have c15P := of_decide_eq_false c15
     refine wp_exit' (sq (rg (zm ?_)))
     refine z ?_ (h := fun ν => acts_call1 ν (impl_SortDominoes_fn ([(⟨c.x, c.y, true⟩ : Dom), (⟨(c.x + 1), c.y, true⟩ : Dom)] ++ (l.take k).filter (kp (⟨c.x, c.y, false⟩ : Dom) (⟨c.x, (c.y + 1), false⟩ : Dom))) (by omega)) (ac (argv_own (by exact dsl_len _)) an) (ResV.row _ _ _ _ 63))
     refine za (zk (nl (wp_ret' ?_)))
     exact ⟨VRes.tmp _ _ _ (by exact rfl) (brow_doms (h := 63) (L := (sortD ([(⟨c.x, c.y, true⟩ : Dom), (⟨(c.x + 1), c.y, true⟩ : Dom)] ++ (l.take k).filter (kp (⟨c.x, c.y, false⟩ : Dom) (⟨c.x, (c.y + 1), false⟩ : Dom))))) (by kernel_rfl) (by exact flipAt_of (by omega) (by assumption) true (by simp_all [acB]) rfl rfl rfl rfl) (by rfl)), VRes.tmp _ _ _ (by exact rfl) (bval (congrArg Value.bool (by simp_all)))⟩
  ·skip
   refine rg (zm ?_)
   refine z ?_ (h := fun ν => acts_index_arr (k := 0) (off' := 0) ν qE5_un_93 qE5_sz_62 vc rfl (by decide) rfl)
   refine z ?_ (h := fun ν => acts_load_owns (xs := [vI c.x, vI c.y, .bool false].map A.val) ν qE5_ti_62 rfl (by decide) rfl)
   refine z ?_ (h := fun ν => acts_call1 ν (impl_hasDomino_fn l (⟨c.x, c.y, false⟩ : Dom) (by omega)) (ac (ArgV.slv _ _ _ _) (ac (ArgV.va va) an)) (resval (congrArg Value.bool c4)))
   refine z ?_ (h := fun ν => acts_un ν vt (r_not (c := true) rfl))
   refine zm (zo (zo (zo (zo (zo ?_)))))
   refine z ?_ (h := fun ν => acts_pick_t ν vt xc)
   refine nl (wt (rg ?_))
   refine z ?_ (h := fun ν => acts_load_owns (xs := [vI c.x, vI c.y, .bool true, vI (c.x + 1), vI c.y, .bool true].map A.val) ν qE5_ti_93 rfl (by decide) rfl)
   refine z ?_ (h := fun ν => acts_load_owns (xs := [vI c.x, vI c.y, .bool false, vI c.x, vI (c.y + 1), .bool false].map A.val) ν qE5_ti_93 rfl (by decide) rfl)
   refine z ?_ (h := fun _ => acts_store (cells := [aI c.x, aI c.y, aB true, aI (c.x + 1), aI c.y, aB true]) qE5_ti_93 xt (by exact rfl) (by decide) (by exact ob1 rfl) (by exact Nat.le_of_ble_eq_true rfl) (by exact rfl))
   refine z ?_ (h := fun _ => acts_store (cells := [aI c.x, aI c.y, aB false, aI c.x, aI (c.y + 1), aB false]) qE5_ti_93 xt (by exact rfl) (by decide) (by exact ob1 rfl) (by exact Nat.le_of_ble_eq_true rfl) (by exact rfl))
   refine nl (sq (rg ?_))
   refine z ?_ (h := fun ν => acts_index_arr (k := 0) (off' := 0) ν qE5_un_93 qE5_sz_62 vc rfl (by decide) rfl)
   refine z ?_ (h := fun ν => acts_load_owns (xs := [vI c.x, vI c.y, .bool false].map A.val) ν qE5_ti_62 rfl (by decide) rfl)
   refine z ?_ (h := fun ν => acts_index_arr (k := 1) (off' := 3) ν qE5_un_93 qE5_sz_62 vc rfl (by decide) rfl)
   refine z ?_ (h := fun ν => acts_load_owns (xs := [vI c.x, vI (c.y + 1), .bool false].map A.val) ν qE5_ti_62 rfl (by decide) rfl)
   refine z ?_ (h := fun ν => acts_buildSlice' (h := 40) (xs := dsl ([(⟨c.x, c.y, false⟩ : Dom), (⟨c.x, (c.y + 1), false⟩ : Dom)] : List Dom)) ν qE5_un_31 qE5_zi_62 (.cons va (.cons va OpVs.nil)) (by decide) (by decide) (by kernel_rfl) rfl)
   refine za (nl (sq (sq (rg (zm ?_)))))
   refine z ?_ (h := fun ν => lnV ν qE5_un_31)
   refine z ?_ (h := fun ν => mc ν)
   refine nl (bkk ?_)
   refine wp_loop' (fun (k : Nat) => k ≤ l.length) (fun (k : Nat) => [kP 6 6 0, kS 8 40 0 (([(⟨c.x, c.y, false⟩ : Dom), (⟨c.x, (c.y + 1), false⟩ : Dom)] ++ (l.take k).filter (kp (⟨c.x, c.y, true⟩ : Dom) (⟨(c.x + 1), c.y, true⟩ : Dom))).length), kV 41 (V.b (.a (.slv l.length 3 (dsl l)))), kI 42 ((l.length : Nat) : Int), kI 43 ((k : Nat) : Int), kO 6 93 6 true [aI c.x, aI c.y, aB true, aI (c.x + 1), aI c.y, aB true], kO 40 62 3 true (pl (dsl ([(⟨c.x, c.y, false⟩ : Dom), (⟨c.x, (c.y + 1), false⟩ : Dom)] ++ (l.take k).filter (kp (⟨c.x, c.y, true⟩ : Dom) (⟨(c.x + 1), c.y, true⟩ : Dom))))), kF 3, kF 7, kF 10, kF 13, kF 16, kF 19, kF 25, kF 31, kF 42, kF 59, kF 60, kF 63, kF 64, kF 65, kF 66, kF 67, kF 1000, kF 1001]) (fun (k : Nat) => l.length - k) ((0 : Nat)) (by exact Nat.zero_le _) (wkf id (wS <| wE (e := (vsl (by rfl) rfl)) <| wS <| wS <| wE (e := (vint (by rfl))) <| wX <| wO (e := renob_eq (fun h => h) (congrArg dsl (by rfl))) <| by (iterate 18 refine wF ?_); exact wN)) ?_
   rintro k inv20
   replace inv20 : k ≤ l.length := inv20
   have inv := inv20
   have hfl : ([(⟨c.x, c.y, false⟩ : Dom), (⟨c.x, (c.y + 1), false⟩ : Dom)] ++ (l.take k).filter (kp (⟨c.x, c.y, true⟩ : Dom) (⟨(c.x + 1), c.y, true⟩ : Dom))).length ≤ k + 2 := filt_len2 _ l k _
   refine sq (rg ?_)
   refine z ?_ (h := fun ν => acts_bin ν vt vt (r_lss rfl))
   refine nl (sq ?_)
   refine wi (fun c21 => ?_) (fun c21 => ?_)
   ·skip
    have c21P := of_decide_eq_true c21
    refine sk (sq (bkk (sq (rg ?_))))
    refine z ?_ (h := fun ν => ixv ν qE5_un_31 qE5_sz_62 vt)
    refine z ?_ (h := fun ν => uD ν qE5_ti_62)
    refine z ?_ (h := fun ν => acts_alloc' (h := 10) (cap := 1) (s := 3) (cells := [aI 0, aI 0, aB false]) ν qE5_zi_62 rfl rfl (by decide))
    refine z ?_ (h := fun _ => acts_store (cells := [aI ((gD l k).x), aI ((gD l k).y), aB ((gD l k).d)]) qE5_ti_62 xt (by exact rfl) (by decide) (by exact ob1 rfl) (by exact Nat.le_of_ble_eq_true rfl) (by exact rfl))
    refine nl (sq ?_)
    rcases Bool.eq_false_or_eq_true ((dEq ((gD l k).x) ((gD l k).y) ((gD l k).d) c.x c.y true)) with c22 | c22
    ·skip
     refine rg ?_
     refine z ?_ (h := fun ν => acts_load_owns (xs := [vI ((gD l k).x), vI ((gD l k).y), .bool ((gD l k).d)].map A.val) ν qE5_ti_62 rfl (by decide) rfl)
     refine z ?_ (h := fun ν => acts_index_arr (k := 0) (off' := 0) ν qE5_un_93 qE5_sz_62 vc rfl (by decide) rfl)
     refine z ?_ (h := fun ν => acts_load_owns (xs := [vI c.x, vI c.y, .bool true].map A.val) ν qE5_ti_62 rfl (by decide) rfl)
     refine z ?_ (h := fun ν => acts_bin ν va va (r_aggne qE5_eg_62 (fun w => (run_neq_dom ((gD l k).x) ((gD l k).y) ((gD l k).d) c.x c.y true w).trans (congrArg (fun z => Result.ok (Value.bool z) w) (by (rw [c22]; done))))))
     refine zm (zo (zo (zo (zo ?_))))
     refine z ?_ (h := fun ν => acts_pick_f ν vt xc)
     refine nl (wf (sk (rg ?_)))
     refine z ?_ (h := fun ν => acts_bin ν vt vc rA)
     refine zm (nl ?_)
     exact loop_back ((k + 1)) (by show _ ≤ _; omega) (by show l.length - (k + 1) < l.length - k; omega) (wkf id (wS <| wE (e := (vsl (by (exact congrArg List.length (by first | rfl | (simp; done) | exact filt_yes (by omega) (by simp_all [kp]) _ | exact filt_no (by omega) (by simp_all [kp]) _ | omega))) rfl)) <| wS <| wS <| wE (e := (vint (by rfl))) <| wX <| wO (e := renob_eq (fun h => h) (congrArg dsl (by exact filt_no (by omega) (by simp_all [kp]) _))) <| by (iterate 18 refine wF ?_); exact wN))
    ·skip
     refine rg ?_
     refine z ?_ (h := fun ν => acts_load_owns (xs := [vI ((gD l k).x), vI ((gD l k).y), .bool ((gD l k).d)].map A.val) ν qE5_ti_62 rfl (by decide) rfl)
     refine z ?_ (h := fun ν => acts_index_arr (k := 0) (off' := 0) ν qE5_un_93 qE5_sz_62 vc rfl (by decide) rfl)
     refine z ?_ (h := fun ν => acts_load_owns (xs := [vI c.x, vI c.y, .bool true].map A.val) ν qE5_ti_62 rfl (by decide) rfl)
     refine z ?_ (h := fun ν => acts_bin ν va va (r_aggne qE5_eg_62 (fun w => (run_neq_dom ((gD l k).x) ((gD l k).y) ((gD l k).d) c.x c.y true w).trans (congrArg (fun z => Result.ok (Value.bool z) w) (by (rw [c22]; done))))))
     refine zm ?_
     refine zg ?_ (h := fun ν => step_on rfl rfl (acts_load_owns (xs := [vI ((gD l k).x), vI ((gD l k).y), .bool ((gD l k).d)].map A.val) ν qE5_ti_62 rfl (by decide) rfl))
     refine zg ?_ (h := fun ν => step_on rfl rfl (acts_index_arr (k := 1) (off' := 3) ν qE5_un_93 qE5_sz_62 vc rfl (by decide) rfl))
     refine zg ?_ (h := fun ν => step_on rfl rfl (acts_load_owns (xs := [vI (c.x + 1), vI c.y, .bool true].map A.val) ν qE5_ti_62 rfl (by decide) rfl))
     refine zg ?_ (h := fun ν => step_on rfl rfl (acts_bin ν va va (r_aggne qE5_eg_62 (fun w => (run_neq_dom ((gD l k).x) ((gD l k).y) ((gD l k).d) (c.x + 1) c.y true w).trans (congrArg (fun z => Result.ok (Value.bool z) w) (rfl : (!(dEq ((gD l k).x) ((gD l k).y) ((gD l k).d) (c.x + 1) c.y true)) = (!(dEq ((gD l k).x) ((gD l k).y) ((gD l k).d) (c.x + 1) c.y true))))))))
     refine z ?_ (h := fun ν => acts_pick_t ν vt xt)
     refine nl ?_
     refine wi (b := (!(dEq ((gD l k).x) ((gD l k).y) ((gD l k).d) (c.x + 1) c.y true))) (fun c23 => ?_) (fun c23 => ?_)
     ·skip
      have c24 : (dEq ((gD l k).x) ((gD l k).y) ((gD l k).d) (c.x + 1) c.y true) = false := by first | (rw [← Bool.not_eq_true']; exact c23) | simpa using c23
      refine rg (zm ?_)
      refine z ?_ (h := fun ν => acts_load_owns (xs := [vI ((gD l k).x), vI ((gD l k).y), .bool ((gD l k).d)].map A.val) ν qE5_ti_62 rfl (by decide) rfl)
      refine z ?_ (h := fun ν => acts_buildSlice' (h := 59) (xs := dsl ([(gD l k)] : List Dom)) ν qE5_un_31 qE5_zi_62 (.cons va OpVs.nil) (by decide) (by decide) (by kernel_rfl) rfl)
      refine z ?_ (h := fun ν => aD_ (h2 := 60) (L3 := (([(⟨c.x, c.y, false⟩ : Dom), (⟨c.x, (c.y + 1), false⟩ : Dom)] ++ (l.take k).filter (kp (⟨c.x, c.y, true⟩ : Dom) (⟨(c.x + 1), c.y, true⟩ : Dom))) ++ [(gD l k)])) ν qE5_un_31 qE5_zi_62 (by exact rfl) rfl (by exact rfl) (by (simp at *; omega)))
      refine za (nl (rg ?_))
      refine z ?_ (h := fun ν => acts_bin ν vt vc rA)
      refine zm (nl ?_)
      exact loop_back ((k + 1)) (by show _ ≤ _; omega) (by show l.length - (k + 1) < l.length - k; omega) (wkf (subst1 [(40, 60)]) (wS <| wE (e := (vsl (by (exact congrArg List.length (by first | rfl | (simp; done) | exact filt_yes (by omega) (by simp_all [kp]) _ | exact filt_no (by omega) (by simp_all [kp]) _ | omega))) rfl)) <| wS <| wS <| wE (e := (vint (by rfl))) <| wX <| wO (e := renob_eq (fun h => h) (congrArg dsl (by exact filt_yes (by omega) (by simp_all [kp]) _))) <| by (iterate 18 refine wF ?_); exact wN))
     ·skip
      have c25 : (dEq ((gD l k).x) ((gD l k).y) ((gD l k).d) (c.x + 1) c.y true) = true := by first | (rw [← Bool.not_eq_false']; exact c23) | simpa using c23
      refine sk (rg ?_)
      refine z ?_ (h := fun ν => acts_bin ν vt vc rA)
      refine zm (nl ?_)
      exact loop_back ((k + 1)) (by show _ ≤ _; omega) (by show l.length - (k + 1) < l.length - k; omega) (wkf id (wS <| wE (e := (vsl (by (exact congrArg List.length (by first | rfl | (simp; done) | exact filt_yes (by omega) (by simp_all [kp]) _ | exact filt_no (by omega) (by simp_all [kp]) _ | omega))) rfl)) <| wS <| wS <| wE (e := (vint (by rfl))) <| wX <| wO (e := renob_eq (fun h => h) (congrArg dsl (by exact filt_no (by omega) (by simp_all [kp]) _))) <| by (iterate 18 refine wF ?_); exact wN))
   ·skip
    have c21P := of_decide_eq_false c21
    refine wp_exit' (sq (rg (zm ?_)))
    refine z ?_ (h := fun ν => acts_call1 ν (impl_SortDominoes_fn ([(⟨c.x, c.y, false⟩ : Dom), (⟨c.x, (c.y + 1), false⟩ : Dom)] ++ (l.take k).filter (kp (⟨c.x, c.y, true⟩ : Dom) (⟨(c.x + 1), c.y, true⟩ : Dom))) (by omega)) (ac (argv_own (by exact dsl_len _)) an) (ResV.row _ _ _ _ 63))
    refine za (zk (nl (wp_ret' ?_)))
    exact ⟨VRes.tmp _ _ _ (by exact rfl) (brow_doms (h := 63) (L := (sortD ([(⟨c.x, c.y, false⟩ : Dom), (⟨c.x, (c.y + 1), false⟩ : Dom)] ++ (l.take k).filter (kp (⟨c.x, c.y, true⟩ : Dom) (⟨(c.x + 1), c.y, true⟩ : Dom))))) (by kernel_rfl) (by exact flipAt_of (by omega) (by assumption) false (by simp_all [acB]) rfl rfl rfl rfl) (by rfl)), VRes.tmp _ _ _ (by exact rfl) (bval (congrArg Value.bool (by simp_all)))⟩

set_option maxHeartbeats 4000000 in
set_option maxRecDepth 100000 in
theorem spec_FlipAt_fn (l : List Dom) (c : Cel) (hl : l.length ≤ 1048576) : Fn Tryz.prog 53 [.a (.slv l.length 3 (dsl l)), .agg ([vI c.x, vI c.y].map A.val)] [.row 62 3 (flipAt l c).length (dsl (flipAt l c)), .val (.bool (canB l c.x c.y))] := by
 refine fn_intro (N := 67) Tryz.func53 rfl (by kernel_rfl) rfl (Nat.le_of_ble_eq_true rfl) [3, 7, 8, 9, 10, 15, 18, 20, 25, 32, 37, 40, 63, 64, 66, 67, 68, 69, 70, 1000, 1001] (ret2 rfl rfl (by intro u hu; injection hu with hu; subst hu; rfl)) (fun W => ?_)
 show Wp _ _ _ [kV 0 (V.b (.a (.slv l.length 3 (dsl l)))), kV 1 (V.av [vI c.x, vI c.y]), kF 3, kF 7, kF 8, kF 9, kF 10, kF 15, kF 18, kF 20, kF 25, kF 32, kF 37, kF 40, kF 63, kF 64, kF 66, kF 67, kF 68, kF 69, kF 70, kF 1000, kF 1001]
 refine sq (rg ?_)
 refine z ?_ (h := fun ν => acts_box (h := 3) ν xt (by exact ob1 rfl))
 refine zk (zk (nl (sq (rg (zm ?_)))))
 refine z ?_ (h := fun ν => acts_load_owns (xs := [vI c.x, vI c.y].map A.val) ν qE5_ti_70 rfl (by decide) rfl)
 refine z ?_ (h := fun ν => acts_call1 ν (spec_l11Kind_fn l c (by omega)) (ac (ArgV.slv _ _ _ _) (ac (ArgV.va va) an)) rv)
 refine za (nl (sq (sq (rg (zm ?_)))))
 refine z ?_ (h := fun ν => acts_bin ν vt vc (r_eql rfl))
 refine nl ?_
 refine wi (fun c1 => ?_) (fun c1 => ?_)
 ·skip
  have c1P := of_decide_eq_true c1
  have c1B := kind_no c1P
  refine sq (rg ?_)
  refine z ?_ (h := fun ν => b0D (h := 18) ν qE5_un_31 qE5_zi_62)
  refine zm ?_
  refine z ?_ (h := fun ν => acts_app (h2 := 20) (m := l.length) (nm := l.length) (X := .slv l.length 3 (dsl l)) (xs := dsl []) (ys := dsl l) (zs := dsl l) ν qE5_un_31 qE5_zi_62 rfl (by decide) (by decide) (by exact dsl_len _) xt (Src.slv _ _ _) (dsl_one' _) (by omega) (by exact (dsl_append _ _).symm) (by (simp; done)))
  refine za (zk (nl (wp_ret' ?_)))
  exact ⟨VRes.tmp _ _ _ (by exact rfl) (brow_doms (h := 20) (L := l) (by kernel_rfl) (by simp [flipAt, *]) (by rfl)), VRes.tmp _ _ _ (by exact rfl) (bval (congrArg Value.bool (by simp_all)))⟩
 ·skip
  have c1P := of_decide_eq_false c1
  have c1B := canB_bd (kind_bd c1P)
  have c1C := kind_bd c1P
  have c1D := kind_one c1P
  refine sk (sq (rg ?_))
  refine z ?_ (h := fun ν => acts_load_owns (xs := [vI c.x, vI c.y].map A.val) ν qE5_ti_70 rfl (by decide) rfl)
  refine zm ?_
  refine z ?_ (h := fun ν => acts_bin ν vt vc (r_eql rfl))
  refine z ?_ (h := fun ν => acts_call2 ν (spec_l11Pair_fn c (decide ((kindI l c.x c.y) = 2)) (by omega)) (ac (ArgV.va va) (ac (ArgV.v vt) an)) (ResV.agg [vI c.x, vI c.y, .bool (decide ((kindI l c.x c.y) = 2))]) (ResV.agg [vI (if (decide ((kindI l c.x c.y) = 2)) then c.x + 1 else c.x), vI (if (decide ((kindI l c.x c.y) = 2)) then c.y else c.y + 1), .bool (decide ((kindI l c.x c.y) = 2))]))
  refine zm ?_
  refine z ?_ (h := fun ν => acts_extract ν (by exact rfl))
  refine z ?_ (h := fun ν => acts_extract ν (by exact rfl))
  refine z ?_ (h := fun ν => acts_alloc' (h := 7) (cap := 1) (s := 3) (cells := [aI 0, aI 0, aB false]) ν qE5_zi_62 rfl rfl (by decide))
  refine z ?_ (h := fun ν => acts_alloc' (h := 8) (cap := 1) (s := 3) (cells := [aI 0, aI 0, aB false]) ν qE5_zi_62 rfl rfl (by decide))
  refine z ?_ (h := fun _ => acts_store (cells := [aI c.x, aI c.y, aB (decide ((kindI l c.x c.y) = 2))]) qE5_ti_62 xt (by exact rfl) (by decide) (by exact ob1 rfl) (by exact Nat.le_of_ble_eq_true rfl) (by exact rfl))
  refine z ?_ (h := fun _ => acts_store (cells := [aI (if (decide ((kindI l c.x c.y) = 2)) then c.x + 1 else c.x), aI (if (decide ((kindI l c.x c.y) = 2)) then c.y else c.y + 1), aB (decide ((kindI l c.x c.y) = 2))]) qE5_ti_62 xt (by exact rfl) (by decide) (by exact ob1 rfl) (by exact Nat.le_of_ble_eq_true rfl) (by exact rfl))
  refine nl (sq (rg ?_))
  refine z ?_ (h := fun ν => acts_load_owns (xs := [vI c.x, vI c.y].map A.val) ν qE5_ti_70 rfl (by decide) rfl)
  refine zm ?_
  refine z ?_ (h := fun ν => acts_bin ν vt vc (r_eql rfl))
  refine z ?_ (h := fun ν => acts_call2 ν (spec_l11Pair_fn c (decide ((kindI l c.x c.y) = 1)) (by omega)) (ac (ArgV.va va) (ac (ArgV.v vt) an)) (ResV.agg [vI c.x, vI c.y, .bool (decide ((kindI l c.x c.y) = 1))]) (ResV.agg [vI (if (decide ((kindI l c.x c.y) = 1)) then c.x + 1 else c.x), vI (if (decide ((kindI l c.x c.y) = 1)) then c.y else c.y + 1), .bool (decide ((kindI l c.x c.y) = 1))]))
  refine zm ?_
  refine z ?_ (h := fun ν => acts_extract ν (by exact rfl))
  refine z ?_ (h := fun ν => acts_extract ν (by exact rfl))
  refine z ?_ (h := fun ν => acts_alloc' (h := 9) (cap := 1) (s := 3) (cells := [aI 0, aI 0, aB false]) ν qE5_zi_62 rfl rfl (by decide))
  refine z ?_ (h := fun ν => acts_alloc' (h := 10) (cap := 1) (s := 3) (cells := [aI 0, aI 0, aB false]) ν qE5_zi_62 rfl rfl (by decide))
  refine z ?_ (h := fun _ => acts_store (cells := [aI c.x, aI c.y, aB (decide ((kindI l c.x c.y) = 1))]) qE5_ti_62 xt (by exact rfl) (by decide) (by exact ob1 rfl) (by exact Nat.le_of_ble_eq_true rfl) (by exact rfl))
  refine z ?_ (h := fun _ => acts_store (cells := [aI (if (decide ((kindI l c.x c.y) = 1)) then c.x + 1 else c.x), aI (if (decide ((kindI l c.x c.y) = 1)) then c.y else c.y + 1), aB (decide ((kindI l c.x c.y) = 1))]) qE5_ti_62 xt (by exact rfl) (by decide) (by exact ob1 rfl) (by exact Nat.le_of_ble_eq_true rfl) (by exact rfl))
  refine nl (sq (rg ?_))
  refine z ?_ (h := fun ν => acts_load_owns (xs := [vI c.x, vI c.y, .bool (decide ((kindI l c.x c.y) = 1))].map A.val) ν qE5_ti_62 rfl (by decide) rfl)
  refine z ?_ (h := fun ν => acts_load_owns (xs := [vI (if (decide ((kindI l c.x c.y) = 1)) then c.x + 1 else c.x), vI (if (decide ((kindI l c.x c.y) = 1)) then c.y else c.y + 1), .bool (decide ((kindI l c.x c.y) = 1))].map A.val) ν qE5_ti_62 rfl (by decide) rfl)
  refine z ?_ (h := fun ν => acts_buildSlice' (h := 37) (xs := dsl ([(⟨c.x, c.y, (decide ((kindI l c.x c.y) = 1))⟩ : Dom), (⟨(if (decide ((kindI l c.x c.y) = 1)) then c.x + 1 else c.x), (if (decide ((kindI l c.x c.y) = 1)) then c.y else c.y + 1), (decide ((kindI l c.x c.y) = 1))⟩ : Dom)] : List Dom)) ν qE5_un_31 qE5_zi_62 (.cons va (.cons va OpVs.nil)) (by decide) (by decide) (by kernel_rfl) rfl)
  refine za (nl (sq (sq (rg (zk (nl (bkk ?_)))))))
  refine wp_loop' (fun (k : Nat) => k ≤ l.length) (fun (k : Nat) => [kV 0 (V.b (.a (.slv l.length 3 (dsl l)))), kP 7 7 0, kP 8 8 0, kS 11 37 0 (([(⟨c.x, c.y, (decide ((kindI l c.x c.y) = 1))⟩ : Dom), (⟨(if (decide ((kindI l c.x c.y) = 1)) then c.x + 1 else c.x), (if (decide ((kindI l c.x c.y) = 1)) then c.y else c.y + 1), (decide ((kindI l c.x c.y) = 1))⟩ : Dom)] ++ (l.take k).filter (kp (⟨c.x, c.y, (decide ((kindI l c.x c.y) = 2))⟩ : Dom) (⟨(if (decide ((kindI l c.x c.y) = 2)) then c.x + 1 else c.x), (if (decide ((kindI l c.x c.y) = 2)) then c.y else c.y + 1), (decide ((kindI l c.x c.y) = 2))⟩ : Dom))).length), kI 12 ((k : Nat) : Int), kO 7 62 3 true [aI c.x, aI c.y, aB (decide ((kindI l c.x c.y) = 2))], kO 8 62 3 true [aI (if (decide ((kindI l c.x c.y) = 2)) then c.x + 1 else c.x), aI (if (decide ((kindI l c.x c.y) = 2)) then c.y else c.y + 1), aB (decide ((kindI l c.x c.y) = 2))], kO 37 62 3 true (pl (dsl ([(⟨c.x, c.y, (decide ((kindI l c.x c.y) = 1))⟩ : Dom), (⟨(if (decide ((kindI l c.x c.y) = 1)) then c.x + 1 else c.x), (if (decide ((kindI l c.x c.y) = 1)) then c.y else c.y + 1), (decide ((kindI l c.x c.y) = 1))⟩ : Dom)] ++ (l.take k).filter (kp (⟨c.x, c.y, (decide ((kindI l c.x c.y) = 2))⟩ : Dom) (⟨(if (decide ((kindI l c.x c.y) = 2)) then c.x + 1 else c.x), (if (decide ((kindI l c.x c.y) = 2)) then c.y else c.y + 1), (decide ((kindI l c.x c.y) = 2))⟩ : Dom))))), kF 3, kF 9, kF 10, kF 15, kF 18, kF 20, kF 25, kF 32, kF 40, kF 63, kF 64, kF 66, kF 67, kF 68, kF 69, kF 70, kF 1000, kF 1001]) (fun (k : Nat) => l.length - k) ((0 : Nat)) (by exact Nat.zero_le _) (wkf id (wS <| wS <| wS <| wE (e := (vsl (by rfl) rfl)) <| wE (e := (vint (by rfl))) <| wX <| wX <| wO (e := renob_eq (fun h => h) (congrArg dsl (by rfl))) <| by (iterate 18 refine wF ?_); exact wN)) ?_
  rintro k inv2
  replace inv2 : k ≤ l.length := inv2
  have inv := inv2
  have hfl : ([(⟨c.x, c.y, (decide ((kindI l c.x c.y) = 1))⟩ : Dom), (⟨(if (decide ((kindI l c.x c.y) = 1)) then c.x + 1 else c.x), (if (decide ((kindI l c.x c.y) = 1)) then c.y else c.y + 1), (decide ((kindI l c.x c.y) = 1))⟩ : Dom)] ++ (l.take k).filter (kp (⟨c.x, c.y, (decide ((kindI l c.x c.y) = 2))⟩ : Dom) (⟨(if (decide ((kindI l c.x c.y) = 2)) then c.x + 1 else c.x), (if (decide ((kindI l c.x c.y) = 2)) then c.y else c.y + 1), (decide ((kindI l c.x c.y) = 2))⟩ : Dom))).length ≤ k + 2 := filt_len2 _ l k _
  refine sq (sq (rg (zm (zm ?_))))
  refine z ?_ (h := fun ν => lnV ν qE5_un_31)
  refine z ?_ (h := fun ν => acts_bin ν vt vt (r_lss rfl))
  refine nl ?_
  refine wi (fun c3 => ?_) (fun c3 => ?_)
  ·skip
   have c3P := of_decide_eq_true c3
   refine sk (sq (bkk (sq ?_)))
   rcases Bool.eq_false_or_eq_true ((dEq ((gD l k).x) ((gD l k).y) ((gD l k).d) c.x c.y (decide ((kindI l c.x c.y) = 2)))) with c4 | c4
   ·skip
    refine wp_dr (zdm (zdm ?_))
    refine zd ?_ (h := fun ν => ixv ν qE5_un_31 qE5_sz_62 vt)
    refine zd ?_ (h := fun ν => uD ν qE5_ti_62)
    refine zd ?_ (h := fun ν => acts_load_owns (xs := [vI c.x, vI c.y, .bool (decide ((kindI l c.x c.y) = 2))].map A.val) ν qE5_ti_62 rfl (by decide) rfl)
    refine zd ?_ (h := fun ν => acts_bin ν va va (r_aggne qE5_eg_62 (fun w => (run_neq_dom ((gD l k).x) ((gD l k).y) ((gD l k).d) c.x c.y (decide ((kindI l c.x c.y) = 2)) w).trans (congrArg (fun z => Result.ok (Value.bool z) w) (by (rw [c4]; done))))))
    refine zdm ?_
    refine zdg ?_ (h := fun ν => step_off rfl rfl (by decide) rfl ν)
    refine zdg ?_ (h := fun ν => step_off rfl rfl (by decide) rfl ν)
    refine zdg ?_ (h := fun ν => step_off rfl rfl (by decide) rfl ν)
    refine zdg ?_ (h := fun ν => step_off rfl rfl (by decide) rfl ν)
    refine zdg ?_ (h := fun ν => step_off rfl rfl (by decide) rfl ν)
    refine zdg ?_ (h := fun ν => step_off rfl rfl (by decide) rfl ν)
    refine zd ?_ (h := fun ν => acts_pick_f ν vt xc)
    refine dw_nil (wf (sk (rg (zm ?_))))
    refine z ?_ (h := fun ν => acts_bin ν vt vc rA)
    refine za (nl ?_)
    exact loop_back ((k + 1)) (by show _ ≤ _; omega) (by show l.length - (k + 1) < l.length - k; omega) (wkf id (wS <| wS <| wS <| wE (e := (vsl (by (exact congrArg List.length (by first | rfl | (simp; done) | exact filt_yes (by omega) (by simp_all [kp]) _ | exact filt_no (by omega) (by simp_all [kp]) _ | omega))) rfl)) <| wE (e := (vint (by rfl))) <| wX <| wX <| wO (e := renob_eq (fun h => h) (congrArg dsl (by exact filt_no (by omega) (by simp_all [kp]) _))) <| by (iterate 18 refine wF ?_); exact wN))
   ·skip
    refine wp_dr (zdm (zdm ?_))
    refine zd ?_ (h := fun ν => ixv ν qE5_un_31 qE5_sz_62 vt)
    refine zd ?_ (h := fun ν => uD ν qE5_ti_62)
    refine zd ?_ (h := fun ν => acts_load_owns (xs := [vI c.x, vI c.y, .bool (decide ((kindI l c.x c.y) = 2))].map A.val) ν qE5_ti_62 rfl (by decide) rfl)
    refine zd ?_ (h := fun ν => acts_bin ν va va (r_aggne qE5_eg_62 (fun w => (run_neq_dom ((gD l k).x) ((gD l k).y) ((gD l k).d) c.x c.y (decide ((kindI l c.x c.y) = 2)) w).trans (congrArg (fun z => Result.ok (Value.bool z) w) (by (rw [c4]; done))))))
    refine zdm ?_
    refine zdg ?_ (h := fun ν => step_on rfl rfl (mt ν))
    refine zdg ?_ (h := fun ν => step_on rfl rfl (mt ν))
    refine zdg ?_ (h := fun ν => step_on rfl rfl (ixv ν qE5_un_31 qE5_sz_62 vt))
    refine zdg ?_ (h := fun ν => step_on rfl rfl (uD ν qE5_ti_62))
    refine zdg ?_ (h := fun ν => step_on rfl rfl (acts_load_owns (xs := [vI (if (decide ((kindI l c.x c.y) = 2)) then c.x + 1 else c.x), vI (if (decide ((kindI l c.x c.y) = 2)) then c.y else c.y + 1), .bool (decide ((kindI l c.x c.y) = 2))].map A.val) ν qE5_ti_62 rfl (by decide) rfl))
    refine zdg ?_ (h := fun ν => step_on rfl rfl (acts_bin ν va va (r_aggne qE5_eg_62 (fun w => (run_neq_dom ((gD l k).x) ((gD l k).y) ((gD l k).d) (if (decide ((kindI l c.x c.y) = 2)) then c.x + 1 else c.x) (if (decide ((kindI l c.x c.y) = 2)) then c.y else c.y + 1) (decide ((kindI l c.x c.y) = 2)) w).trans (congrArg (fun z => Result.ok (Value.bool z) w) (rfl : (!(dEq ((gD l k).x) ((gD l k).y) ((gD l k).d) (if (decide ((kindI l c.x c.y) = 2)) then c.x + 1 else c.x) (if (decide ((kindI l c.x c.y) = 2)) then c.y else c.y + 1) (decide ((kindI l c.x c.y) = 2)))) = (!(dEq ((gD l k).x) ((gD l k).y) ((gD l k).d) (if (decide ((kindI l c.x c.y) = 2)) then c.x + 1 else c.x) (if (decide ((kindI l c.x c.y) = 2)) then c.y else c.y + 1) (decide ((kindI l c.x c.y) = 2))))))))))
    refine zd ?_ (h := fun ν => acts_pick_t ν vt xt)
    refine dw_nil ?_
    refine wi (b := (!(dEq ((gD l k).x) ((gD l k).y) ((gD l k).d) (if (decide ((kindI l c.x c.y) = 2)) then c.x + 1 else c.x) (if (decide ((kindI l c.x c.y) = 2)) then c.y else c.y + 1) (decide ((kindI l c.x c.y) = 2))))) (fun c5 => ?_) (fun c5 => ?_)
    ·skip
     have c6 : (dEq ((gD l k).x) ((gD l k).y) ((gD l k).d) (if (decide ((kindI l c.x c.y) = 2)) then c.x + 1 else c.x) (if (decide ((kindI l c.x c.y) = 2)) then c.y else c.y + 1) (decide ((kindI l c.x c.y) = 2))) = false := by first | (rw [← Bool.not_eq_true']; exact c5) | simpa using c5
     refine rg (zm (zm (zm ?_)))
     refine z ?_ (h := fun ν => ixv ν qE5_un_31 qE5_sz_62 vt)
     refine z ?_ (h := fun ν => uD ν qE5_ti_62)
     refine z ?_ (h := fun ν => acts_buildSlice' (h := 63) (xs := dsl ([(gD l k)] : List Dom)) ν qE5_un_31 qE5_zi_62 (.cons va OpVs.nil) (by decide) (by decide) (by kernel_rfl) rfl)
     refine z ?_ (h := fun ν => aD_ (h2 := 64) (L3 := (([(⟨c.x, c.y, (decide ((kindI l c.x c.y) = 1))⟩ : Dom), (⟨(if (decide ((kindI l c.x c.y) = 1)) then c.x + 1 else c.x), (if (decide ((kindI l c.x c.y) = 1)) then c.y else c.y + 1), (decide ((kindI l c.x c.y) = 1))⟩ : Dom)] ++ (l.take k).filter (kp (⟨c.x, c.y, (decide ((kindI l c.x c.y) = 2))⟩ : Dom) (⟨(if (decide ((kindI l c.x c.y) = 2)) then c.x + 1 else c.x), (if (decide ((kindI l c.x c.y) = 2)) then c.y else c.y + 1), (decide ((kindI l c.x c.y) = 2))⟩ : Dom))) ++ [(gD l k)])) ν qE5_un_31 qE5_zi_62 (by exact rfl) rfl (by exact rfl) (by (simp at *; omega)))
     refine za (nl (rg (zm ?_)))
     refine z ?_ (h := fun ν => acts_bin ν vt vc rA)
     refine za (nl ?_)
     exact loop_back ((k + 1)) (by show _ ≤ _; omega) (by show l.length - (k + 1) < l.length - k; omega) (wkf (subst1 [(37, 64)]) (wS <| wS <| wS <| wE (e := (vsl (by (exact congrArg List.length (by first | rfl | (simp; done) | exact filt_yes (by omega) (by simp_all [kp]) _ | exact filt_no (by omega) (by simp_all [kp]) _ | omega))) rfl)) <| wE (e := (vint (by rfl))) <| wX <| wX <| wO (e := renob_eq (fun h => h) (congrArg dsl (by exact filt_yes (by omega) (by simp_all [kp]) _))) <| by (iterate 18 refine wF ?_); exact wN))
    ·skip
     have c7 : (dEq ((gD l k).x) ((gD l k).y) ((gD l k).d) (if (decide ((kindI l c.x c.y) = 2)) then c.x + 1 else c.x) (if (decide ((kindI l c.x c.y) = 2)) then c.y else c.y + 1) (decide ((kindI l c.x c.y) = 2))) = true := by first | (rw [← Bool.not_eq_false']; exact c5) | simpa using c5
     refine sk (rg (zm ?_))
     refine z ?_ (h := fun ν => acts_bin ν vt vc rA)
     refine za (nl ?_)
     exact loop_back ((k + 1)) (by show _ ≤ _; omega) (by show l.length - (k + 1) < l.length - k; omega) (wkf id (wS <| wS <| wS <| wE (e := (vsl (by (exact congrArg List.length (by first | rfl | (simp; done) | exact filt_yes (by omega) (by simp_all [kp]) _ | exact filt_no (by omega) (by simp_all [kp]) _ | omega))) rfl)) <| wE (e := (vint (by rfl))) <| wX <| wX <| wO (e := renob_eq (fun h => h) (congrArg dsl (by exact filt_no (by omega) (by simp_all [kp]) _))) <| by (iterate 18 refine wF ?_); exact wN))
  ·skip
   have c3P := of_decide_eq_false c3
   refine wp_exit' (sq (rg (zm ?_)))
   refine z ?_ (h := fun ν => acts_call1 ν (spec_SortDominoes_fn ([(⟨c.x, c.y, (decide ((kindI l c.x c.y) = 1))⟩ : Dom), (⟨(if (decide ((kindI l c.x c.y) = 1)) then c.x + 1 else c.x), (if (decide ((kindI l c.x c.y) = 1)) then c.y else c.y + 1), (decide ((kindI l c.x c.y) = 1))⟩ : Dom)] ++ (l.take k).filter (kp (⟨c.x, c.y, (decide ((kindI l c.x c.y) = 2))⟩ : Dom) (⟨(if (decide ((kindI l c.x c.y) = 2)) then c.x + 1 else c.x), (if (decide ((kindI l c.x c.y) = 2)) then c.y else c.y + 1), (decide ((kindI l c.x c.y) = 2))⟩ : Dom))) (by omega)) (ac (argv_own (by exact dsl_len _)) an) (ResV.row _ _ _ _ 66))
   refine za (zk (nl (wp_ret' ?_)))
   exact ⟨VRes.tmp _ _ _ (by exact rfl) (brow_doms (h := 66) (L := (sortD ([(⟨c.x, c.y, (decide ((kindI l c.x c.y) = 1))⟩ : Dom), (⟨(if (decide ((kindI l c.x c.y) = 1)) then c.x + 1 else c.x), (if (decide ((kindI l c.x c.y) = 1)) then c.y else c.y + 1), (decide ((kindI l c.x c.y) = 1))⟩ : Dom)] ++ (l.take k).filter (kp (⟨c.x, c.y, (decide ((kindI l c.x c.y) = 2))⟩ : Dom) (⟨(if (decide ((kindI l c.x c.y) = 2)) then c.x + 1 else c.x), (if (decide ((kindI l c.x c.y) = 2)) then c.y else c.y + 1), (decide ((kindI l c.x c.y) = 2))⟩ : Dom))))) (by kernel_rfl) (by obtain ⟨q1, q2⟩ := ‹_ ∧ decide (kindI l c.x c.y = 1) = _›; rw [q1, q2]; exact flipAt_of (by omega) (by assumption) _ rfl rfl (pr1_eq _ _) rfl (pr1_eq _ _)) (by rfl)), VRes.tmp _ _ _ (by exact rfl) (bval (congrArg Value.bool (by simp_all)))⟩

theorem impl_FlipsOf_fn (l : List Dom) (hl : l.length ≤ 4194304) : Fn Tryz.prog 45 [.a (.slv l.length 3 (dsl l))] [.row 70 2 (flipsOf l).length (csl (flipsOf l))] := by
  refine ⟨⟨_, Tryz.func45, by kernel_rfl, by kernel_rfl⟩, fun w args h => ?_⟩
  match args, args_iff.1 h with
  | [u0], ⟨h0, _⟩ =>
    obtain ⟨A0, c0, rfl, hc0, hr0⟩ := argB_slv h0
    refine Calls.mono (flipsOf_impl l A0 l.length c0 w hr0 hl) ?_
    rintro e w' ⟨v, rfl, ho, hb⟩
    exact ⟨_, rfl, ho, hb⟩

theorem spec_FlipsOf_fn (l : List Dom) (hl : l.length ≤ 4194304) : Fn Tryz.prog 43 [.a (.slv l.length 3 (dsl l))] [.row 70 2 (flipsOf l).length (csl (flipsOf l))] := by
  refine ⟨⟨_, Tryz.func43, by kernel_rfl, by kernel_rfl⟩, fun w args h => ?_⟩
  match args, args_iff.1 h with
  | [u0], ⟨h0, _⟩ =>
    obtain ⟨A0, c0, rfl, hc0, hr0⟩ := argB_slv h0
    refine Calls.mono (flipsOf_spec l A0 l.length c0 w hr0 hl) ?_
    rintro e w' ⟨v, rfl, ho, hb⟩
    exact ⟨_, rfl, ho, hb⟩
end Cl
end Go.Proofs.YtgmkkfdnmdohlaaGreatDoor
