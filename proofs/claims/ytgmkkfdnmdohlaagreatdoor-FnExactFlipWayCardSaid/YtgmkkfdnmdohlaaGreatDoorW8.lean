/- Walks over clean states, printed by wg.py. No statement is proved here. -/
import Derived.Test.YtgmkkfdnmdohlaaGreatDoorW3
import Derived.Test.YtgmkkfdnmdohlaaGreatDoorDoms
import Derived.Test.YtgmkkfdnmdohlaaGreatDoorCels
import Derived.Test.YtgmkkfdnmdohlaaGreatDoorClB
set_option linter.unusedSimpArgs false
set_option linter.unusedVariables false
namespace Go.Proofs.YtgmkkfdnmdohlaaGreatDoor
namespace Cl
open Go.ChangeShapes Go.WideShapes Go.ChangeAt Go.RowKit
set_option maxRecDepth 20000

theorem cpD_set {l : List Dom} {k : Nat} (h : k < l.length) {x : Dom} (hx : gD l k = x) : (cpK dom0 l k).set k x = cpK dom0 l (k + 1) := by subst hx; exact cpK_set h (gD_eq h).symm
theorem eqD_no {a b : List Dom} {k : Nat} (h : gD a k ≠ gD b k) : decide (a = b) = false := decide_eq_false fun e => h (by rw [e])
theorem eqD_yes {a b : List Dom} {k : Nat} (h : ∀ i, i < k → gD a i = gD b i) (hk : ¬ k < a.length) (hl : a.length = b.length) : decide (a = b) = true := decide_eq_true (List.ext_getElem hl fun i h1 h2 => by rw [← gD_eq h1, ← gD_eq h2]; exact h i (by omega))
theorem eqD_s {a b : List Dom} {k : Nat} (h : ∀ i, i < k → gD a i = gD b i) (h2 : gD a k = gD b k) : ∀ i, i < k + 1 → gD a i = gD b i := by
  intro i hi
  rcases Nat.lt_or_ge i k with h3 | h3
  · exact h i h3
  · rw [show i = k by omega]; exact h2
def mkF (v : Int) : Nat → Dom := fun i => ⟨v + 3 * (i : Int), v + 3 * (i : Int) + 1, decide ((v + 3 * (i : Int) + 1 + 1) % 3 = 0)⟩
def mkDs (v : Int) (n : Nat) : List Dom := (List.range n).map (mkF v)
theorem mkDs_len (v : Int) (n : Nat) : (mkDs v n).length = n := by simp [mkDs]
theorem gD_setE {l : List Dom} {k : Nat} {d : Dom} (h : k < l.length) : gD (l.set k d) k = d := by
  rw [gD_eq (by rw [List.length_set]; exact h)]; simp
theorem set_xyd {l : List Dom} {k : Nat} {a b : Int} {c : Bool} (h : k < l.length) :
    ((l.set k ⟨a, (gD l k).y, (gD l k).d⟩).set k ⟨(gD (l.set k ⟨a, (gD l k).y, (gD l k).d⟩) k).x, b, (gD (l.set k ⟨a, (gD l k).y, (gD l k).d⟩) k).d⟩).set k ⟨(gD ((l.set k ⟨a, (gD l k).y, (gD l k).d⟩).set k ⟨(gD (l.set k ⟨a, (gD l k).y, (gD l k).d⟩) k).x, b, (gD (l.set k ⟨a, (gD l k).y, (gD l k).d⟩) k).d⟩) k).x, (gD ((l.set k ⟨a, (gD l k).y, (gD l k).d⟩).set k ⟨(gD (l.set k ⟨a, (gD l k).y, (gD l k).d⟩) k).x, b, (gD (l.set k ⟨a, (gD l k).y, (gD l k).d⟩) k).d⟩) k).y, c⟩ = l.set k (⟨a, b, c⟩ : Dom) := by
  rw [gD_setE h, gD_setE (by rw [List.length_set]; exact h), List.set_set, List.set_set]
theorem qW8_eg_62 : Tryz.prog.eqGuardType Tryz.prog.depth 62 = false := by kernel_rfl
theorem qW8_fo_62_0 : fieldOff Tryz.prog 62 0 = some 0 := by kernel_rfl
theorem qW8_fo_62_1 : fieldOff Tryz.prog 62 1 = some 1 := by kernel_rfl
theorem qW8_fo_62_2 : fieldOff Tryz.prog 62 2 = some 2 := by kernel_rfl
theorem qW8_fo_64_0 : fieldOff Tryz.prog 64 0 = some 0 := by kernel_rfl
theorem qW8_fo_64_1 : fieldOff Tryz.prog 64 1 = some 1 := by kernel_rfl
theorem qW8_fo_64_2 : fieldOff Tryz.prog 64 2 = some 2 := by kernel_rfl
theorem qW8_sz_62 : (Tryz.prog.info? 62).map (·.size) = some 3 := by kernel_rfl
theorem qW8_sz_64 : (Tryz.prog.info? 64).map (·.size) = some 3 := by kernel_rfl
theorem qW8_ti_3 : TI Tryz.prog 3 false 1 := ⟨⟨_, Tryz.underlying3, rfl⟩, by kernel_rfl⟩
theorem qW8_ti_4 : TI Tryz.prog 4 false 1 := ⟨⟨_, Tryz.underlying4, rfl⟩, by kernel_rfl⟩
theorem qW8_ti_62 : TI Tryz.prog 62 true 3 := ⟨⟨_, Tryz.underlying62, rfl⟩, by kernel_rfl⟩
theorem qW8_ti_64 : TI Tryz.prog 64 true 3 := ⟨⟨_, Tryz.underlying64, rfl⟩, by kernel_rfl⟩
theorem qW8_un_25 : Tryz.prog.underlying 25 = some (.slice 64) := Tryz.underlying25
theorem qW8_un_31 : Tryz.prog.underlying 31 = some (.slice 62) := Tryz.underlying31
theorem qW8_un_4 : Tryz.prog.underlying 4 = some .bool := Tryz.underlying4
theorem qW8_zi_62 : ZI Tryz.prog 62 (.agg #[.int .i64 0, .int .i64 0, .bool false]) 3 24 := by unfold ZI; kernel_rfl
set_option maxHeartbeats 4000000 in
set_option maxRecDepth 100000 in
theorem laws_szDominoS_fn (l : List Dom) (v : Int) (hl : l.length ≤ 9223372036854775807) (hz : 0 ≤ v ∧ v ≤ 1048576) : Fn Tryz.prog 7 [.a (.slv l.length 3 (dsl l)), .a (.val (.int .i64 v))] [.val (.int .i64 (szS v l.length))] := by
 refine fn_intro (N := 12) Tryz.func7 rfl (by kernel_rfl) rfl (Nat.le_of_ble_eq_true rfl) [7] (ret1 rfl) (fun W => ?_)
 show Wp _ _ _ [kV 0 (V.b (.a (.slv l.length 3 (dsl l)))), kI 1 v, kF 7]
 refine sq (rg (zk (nl (sq (rg (zm (zm ?_)))))))
 refine z ?_ (h := fun ν => lnV ν qW8_un_25)
 refine z ?_ (h := fun ν => acts_bin ν vt vt rS)
 refine za (nl (sq (sq (rg (zm ?_)))))
 refine z ?_ (h := fun ν => acts_bin ν vt vc (r_lss rfl))
 refine nl ?_
 refine wi (fun c1 => ?_) (fun c1 => ?_)
 ·skip
  have c1P := of_decide_eq_true c1
  refine sq (rg (zk (nl (wp_ret' ?_))))
  exact VRes.tmp _ _ _ (by exact rfl) (bval (congrArg (Value.int .i64) (by exact (szS_neg (by omega)).symm)))
 ·skip
  have c1P := of_decide_eq_false c1
  refine sk (sq (rg (zm (za (nl (wp_ret' ?_))))))
  exact VRes.tmp _ _ _ (by exact rfl) (bval (congrArg (Value.int .i64) (by exact (szS_pos (by omega)).symm)))

set_option maxHeartbeats 4000000 in
set_option maxRecDepth 100000 in
theorem laws_toDomino_fn (d : Dom) : Fn Tryz.prog 36 [.agg ([vI d.x, vI d.y, .bool d.d].map A.val)] [.val (.agg ([.int .i64 d.x, .int .i64 d.y, .bool d.d] : List Value).toArray)] := by
 refine fn_intro (N := 14) Tryz.func36 rfl (by kernel_rfl) rfl (Nat.le_of_ble_eq_true rfl) [1, 2, 3] (ret1 rfl) (fun W => ?_)
 show Wp _ _ _ [kV 0 (V.av [vI d.x, vI d.y, .bool d.d]), kF 1, kF 2, kF 3]
 refine sq (rg ?_)
 refine z ?_ (h := fun ν => acts_box (h := 1) ν xt (by exact ob1 rfl))
 refine z ?_ (h := fun ν => acts_alloc' (h := 2) (cap := 1) (s := 3) (cells := [aI 0, aI 0, aB false]) ν qW8_zi_62 rfl rfl (by decide))
 refine nl (sq (rg ?_))
 refine z ?_ (h := fun ν => acts_alloc' (h := 3) (cap := 1) (s := 3) (cells := [aI 0, aI 0, aB false]) ν qW8_zi_62 rfl rfl (by decide))
 refine nl (sq (rg ?_))
 refine z ?_ (h := fun ν => acts_field (off' := 0) ν qW8_fo_64_0 rfl)
 refine z ?_ (h := fun ν => acts_load_own (x := .val (.int .i64 d.x)) ν qW8_ti_3 (by exact rfl))
 refine z ?_ (h := fun ν => acts_field (off' := 0) ν qW8_fo_62_0 rfl)
 refine z ?_ (h := fun _ => acts_store (cells := [aI d.x, aI 0, aB false]) qW8_ti_3 xt (by exact rfl) (by decide) (by exact ob1 rfl) (by exact Nat.le_of_ble_eq_true rfl) (by exact rfl))
 refine nl (sq (rg ?_))
 refine z ?_ (h := fun ν => acts_field (off' := 1) ν qW8_fo_64_1 rfl)
 refine z ?_ (h := fun ν => acts_load_own (x := .val (.int .i64 d.y)) ν qW8_ti_3 (by exact rfl))
 refine z ?_ (h := fun ν => acts_field (off' := 1) ν qW8_fo_62_1 rfl)
 refine z ?_ (h := fun _ => acts_store (cells := [aI d.x, aI d.y, aB false]) qW8_ti_3 xt (by exact rfl) (by decide) (by exact ob1 rfl) (by exact Nat.le_of_ble_eq_true rfl) (by exact rfl))
 refine nl (sq (rg ?_))
 refine z ?_ (h := fun ν => acts_field (off' := 2) ν qW8_fo_64_2 rfl)
 refine z ?_ (h := fun ν => acts_load_own (x := .val (.bool d.d)) ν qW8_ti_4 (by exact rfl))
 refine z ?_ (h := fun ν => acts_field (off' := 2) ν qW8_fo_62_2 rfl)
 refine z ?_ (h := fun _ => acts_store (cells := [aI d.x, aI d.y, aB d.d]) qW8_ti_4 xt (by exact rfl) (by decide) (by exact ob1 rfl) (by exact Nat.le_of_ble_eq_true rfl) (by exact rfl))
 refine nl (sq (rg ?_))
 refine z ?_ (h := fun ν => acts_load_owns (xs := [vI d.x, vI d.y, .bool d.d].map A.val) ν qW8_ti_62 rfl (by decide) rfl)
 refine z ?_ (h := fun _ => acts_store (cells := [aI d.x, aI d.y, aB d.d]) qW8_ti_62 xt (by exact rfl) (by decide) (by exact ob1 rfl) (by exact Nat.le_of_ble_eq_true rfl) (by exact rfl))
 refine nl (wp_ret' ?_)
 exact VRes.cells 2 62 2 ⟨62, 3, true, [aI d.x, aI d.y, aB d.d]⟩ _ (by kernel_rfl) (by kernel_rfl) qW8_ti_62 (Nat.le_of_ble_eq_true rfl) (bagg (vs := [vI d.x, vI d.y, .bool d.d]) (by first | rfl | simp_all))

set_option maxHeartbeats 4000000 in
set_option maxRecDepth 100000 in
theorem laws_toDominoS_fn (l : List Dom) (hl : l.length ≤ 4194304) : Fn Tryz.prog 10 [.a (.slv l.length 3 (dsl l))] [.row 62 3 l.length (dsl l)] := by
 have hcl0 := cpK_len (z := dom0) (l := l) (k := 0) (Nat.zero_le _)
 refine fn_intro (N := 23) Tryz.func10 rfl (by kernel_rfl) rfl (Nat.le_of_ble_eq_true rfl) [6, 7, 10, 20] (ret1 rfl) (fun W => ?_)
 show Wp _ _ _ [kV 0 (V.b (.a (.slv l.length 3 (dsl l)))), kF 6, kF 7, kF 10, kF 20]
 refine sq (rg (zk (nl (sq (rg (zm ?_))))))
 refine z ?_ (h := fun ν => lnV ν qW8_un_25)
 refine z ?_ (h := fun ν => acts_make' (h := 7) (n := l.length) (xs := dsl (List.replicate l.length dom0)) ν qW8_un_31 qW8_zi_62 vt vt rfl rfl (by decide) (by omega) (made_doms l.length))
 refine za (nl (sq (sq (rg (zk (nl (bkk ?_)))))))
 refine wp_loop' (fun (k : Nat) => k ≤ l.length) (fun (k : Nat) => [kV 0 (V.b (.a (.slv l.length 3 (dsl l)))), kS 3 7 0 ((cpK dom0 l k).length), kI 4 ((k : Nat) : Int), kO 7 62 3 true (pl (dsl (cpK dom0 l k))), kF 6, kF 10, kF 20]) (fun (k : Nat) => l.length - k) ((0 : Nat)) (by exact (Nat.zero_le _ : 0 ≤ _)) (wkf id (wS <| wE (e := (vsl (by first | rfl | (simp; done) | (simp; omega) | omega | (exact congrArg List.length (by first | rfl | omega | exact Eq.symm (cpK_zero _ _) | exact cpK_zero _ _ | exact cpD_set (by omega) rfl | exact Eq.symm (cpD_set (by omega) rfl)))) rfl)) <| wE (e := (vint (by first | rfl | omega | exact Eq.symm (cpK_zero _ _) | exact cpK_zero _ _ | exact cpD_set (by omega) rfl | exact Eq.symm (cpD_set (by omega) rfl)))) <| wO (e := renob_eq (fun h => h) (congrArg dsl (by first | rfl | omega | exact Eq.symm (cpK_zero _ _) | exact cpK_zero _ _ | exact cpD_set (by omega) rfl | exact Eq.symm (cpD_set (by omega) rfl)))) <| wF <| wF <| wF <| wN)) ?_
 rintro k inv1
 replace inv1 : k ≤ l.length := inv1
 have invk := inv1
 have hcl := cpK_len (z := dom0) invk
 refine sq (sq (rg (zm (zm ?_))))
 refine z ?_ (h := fun ν => lnV ν qW8_un_25)
 refine z ?_ (h := fun ν => acts_bin ν vt vt (r_lss rfl))
 refine nl ?_
 refine wi (fun c2 => ?_) (fun c2 => ?_)
 ·skip
  have c2P := of_decide_eq_true c2
  have hcl1 := cpK_len (z := dom0) (l := l) (k := k + 1) (by omega)
  refine sk (sq (bkk (rg (zm (zm (zm (zm ?_)))))))
  refine z ?_ (h := fun ν => ixv ν qW8_un_25 qW8_sz_64 vt)
  refine z ?_ (h := fun ν => uD ν qW8_ti_64)
  refine z ?_ (h := fun ν => acts_call1 ν (laws_toDomino_fn (gD l k) ) (ac (ArgV.va va) an) (ResV.agg [vI ((gD l k).x), vI ((gD l k).y), .bool ((gD l k).d)]))
  refine z ?_ (h := fun ν => ix0 ν qW8_un_31 qW8_sz_62 vt)
  refine z ?_ (h := fun _ => acts_store (cells := pl (dsl ((cpK dom0 l k).set k (gD l k)))) qW8_ti_62 xt (by exact rfl) (by decide) (by exact ob1 rfl) (by simp only [pl_len, dsl_len]; omega) (by exact dsl_put (k := k) (by omega)))
  refine nl (rg (zm ?_))
  refine z ?_ (h := fun ν => acts_bin ν vt vc rA)
  refine za (nl ?_)
  exact loop_back ((k + 1)) (by show _ ≤ _; omega) (by show l.length - (k + 1) < l.length - k; omega) (wkf id (wS <| wE (e := (vsl (by first | rfl | (simp; done) | (simp; omega) | omega | (exact congrArg List.length (by first | rfl | omega | exact Eq.symm (cpK_zero _ _) | exact cpK_zero _ _ | exact cpD_set (by omega) rfl | exact Eq.symm (cpD_set (by omega) rfl)))) rfl)) <| wE (e := (vint (by first | rfl | omega | exact Eq.symm (cpK_zero _ _) | exact cpK_zero _ _ | exact cpD_set (by omega) rfl | exact Eq.symm (cpD_set (by omega) rfl)))) <| wO (e := renob_eq (fun h => h) (congrArg dsl (by first | rfl | omega | exact Eq.symm (cpK_zero _ _) | exact cpK_zero _ _ | exact cpD_set (by omega) rfl | exact Eq.symm (cpD_set (by omega) rfl)))) <| wF <| wF <| wF <| wN))
 ·skip
  have c2P := of_decide_eq_false c2
  refine wp_exit' (sq (rg (zm (za (nl (wp_ret' ?_))))))
  exact VRes.tmp _ _ _ (by exact rfl) (brow_doms (h := 7) (L := (cpK dom0 l k)) (by kernel_rfl) (by exact cpK_end (by omega)) (by first | rfl | (simp; done) | (simp; omega)))

set_option maxHeartbeats 4000000 in
set_option maxRecDepth 100000 in
theorem laws_eqDomino_fn (a b : Dom) : Fn Tryz.prog 42 [.agg ([vI a.x, vI a.y, .bool a.d].map A.val), .agg ([vI b.x, vI b.y, .bool b.d].map A.val)] [.val (.bool (decide (a = b)))] := by
 refine fn_intro (N := 20) Tryz.func42 rfl (by kernel_rfl) rfl (Nat.le_of_ble_eq_true rfl) [2, 3] (ret1 rfl) (fun W => ?_)
 show Wp _ _ _ [kV 0 (V.av [vI a.x, vI a.y, .bool a.d]), kV 1 (V.av [vI b.x, vI b.y, .bool b.d]), kF 2, kF 3]
 refine sq (rg ?_)
 refine z ?_ (h := fun ν => acts_box (h := 2) ν xt (by exact ob1 rfl))
 refine z ?_ (h := fun ν => acts_box (h := 3) ν xt (by exact ob1 rfl))
 refine zk (nl (sq (sq (rg ?_))))
 refine z ?_ (h := fun ν => acts_field (off' := 0) ν qW8_fo_62_0 rfl)
 refine z ?_ (h := fun ν => acts_load_own (x := .val (.int .i64 a.x)) ν qW8_ti_3 (by exact rfl))
 refine z ?_ (h := fun ν => acts_field (off' := 0) ν qW8_fo_62_0 rfl)
 refine z ?_ (h := fun ν => acts_load_own (x := .val (.int .i64 b.x)) ν qW8_ti_3 (by exact rfl))
 refine z ?_ (h := fun ν => acts_bin ν vt vt (r_neq rfl))
 refine nl ?_
 refine wi (fun c1 => ?_) (fun c1 => ?_)
 ·skip
  have c1P := of_decide_eq_true c1
  refine sq (rg (zk (nl (wp_ret' ?_))))
  exact VRes.tmp _ _ _ (by exact rfl) (bval (congrArg Value.bool (by exact Eq.symm (decide_eq_false (fun e => by subst e; simp_all)))))
 ·skip
  have c1P := of_decide_eq_false c1
  refine sk (sq (sq (rg ?_)))
  refine z ?_ (h := fun ν => acts_field (off' := 1) ν qW8_fo_62_1 rfl)
  refine z ?_ (h := fun ν => acts_load_own (x := .val (.int .i64 a.y)) ν qW8_ti_3 (by exact rfl))
  refine z ?_ (h := fun ν => acts_field (off' := 1) ν qW8_fo_62_1 rfl)
  refine z ?_ (h := fun ν => acts_load_own (x := .val (.int .i64 b.y)) ν qW8_ti_3 (by exact rfl))
  refine z ?_ (h := fun ν => acts_bin ν vt vt (r_neq rfl))
  refine nl ?_
  refine wi (fun c2 => ?_) (fun c2 => ?_)
  ·skip
   have c2P := of_decide_eq_true c2
   refine sq (rg (zk (nl (wp_ret' ?_))))
   exact VRes.tmp _ _ _ (by exact rfl) (bval (congrArg Value.bool (by exact Eq.symm (decide_eq_false (fun e => by subst e; simp_all)))))
  ·skip
   have c2P := of_decide_eq_false c2
   refine sk (sq (sq (rg ?_)))
   refine z ?_ (h := fun ν => acts_field (off' := 2) ν qW8_fo_62_2 rfl)
   refine z ?_ (h := fun ν => acts_load_own (x := .val (.bool a.d)) ν qW8_ti_4 (by exact rfl))
   refine z ?_ (h := fun ν => acts_field (off' := 2) ν qW8_fo_62_2 rfl)
   refine z ?_ (h := fun ν => acts_load_own (x := .val (.bool b.d)) ν qW8_ti_4 (by exact rfl))
   refine z ?_ (h := fun ν => acts_bin ν vt vt (r_bneq (c := (decide (a.d ≠ b.d))) qW8_un_4 rfl))
   refine nl ?_
   refine wi (fun c3 => ?_) (fun c3 => ?_)
   ·skip
    have c3P := of_decide_eq_true c3
    refine sq (rg (zk (nl (wp_ret' ?_))))
    exact VRes.tmp _ _ _ (by exact rfl) (bval (congrArg Value.bool (by exact Eq.symm (decide_eq_false (fun e => by subst e; simp_all)))))
   ·skip
    have c3P := of_decide_eq_false c3
    refine sk (sq (rg (zk (nl (wp_ret' ?_)))))
    exact VRes.tmp _ _ _ (by exact rfl) (bval (congrArg Value.bool (by exact Eq.symm (decide_eq_true (by cases a; cases b; simp_all)))))

set_option maxHeartbeats 4000000 in
set_option maxRecDepth 100000 in
theorem laws_eqDominoS_fn (a b : List Dom) (ha : a.length ≤ 4194304) (hb : b.length ≤ 4194304) : Fn Tryz.prog 13 [.a (.slv a.length 3 (dsl a)), .a (.slv b.length 3 (dsl b))] [.val (.bool (decide (a = b)))] := by
 refine fn_intro (N := 27) Tryz.func13 rfl (by kernel_rfl) rfl (Nat.le_of_ble_eq_true rfl) [7, 9, 13, 25] (ret1 rfl) (fun W => ?_)
 show Wp _ _ _ [kV 0 (V.b (.a (.slv a.length 3 (dsl a)))), kV 1 (V.b (.a (.slv b.length 3 (dsl b)))), kF 7, kF 9, kF 13, kF 25]
 refine sq (rg (zk (nl (sq (sq (rg (zm ?_)))))))
 refine z ?_ (h := fun ν => lnV ν qW8_un_31)
 refine zm ?_
 refine z ?_ (h := fun ν => lnV ν qW8_un_31)
 refine z ?_ (h := fun ν => acts_bin ν vt vt (r_neq rfl))
 refine nl ?_
 refine wi (fun c1 => ?_) (fun c1 => ?_)
 ·skip
  have c1P := of_decide_eq_true c1
  refine sq (rg (zk (nl (wp_ret' ?_))))
  exact VRes.tmp _ _ _ (by exact rfl) (bval (congrArg Value.bool (by exact (eq_len (by omega)).symm)))
 ·skip
  have c1P := of_decide_eq_false c1
  refine sk (sq (sq (rg (zk (nl (bkk ?_))))))
  refine wp_loop' (fun (k : Nat) => k ≤ a.length ∧ ∀ i, i < k → gD a i = gD b i) (fun (k : Nat) => [kV 0 (V.b (.a (.slv a.length 3 (dsl a)))), kV 1 (V.b (.a (.slv b.length 3 (dsl b)))), kI 5 ((k : Nat) : Int), kF 7, kF 9, kF 13, kF 25]) (fun (k : Nat) => a.length - k) ((0 : Nat)) (by exact ⟨Nat.zero_le _, fun i hi => absurd hi (Nat.not_lt_zero i)⟩) (wkf id (wS <| wS <| wE (e := (vint (by first | rfl | omega | (simp; done) | (simp; omega)))) <| wF <| wF <| wF <| wF <| wN)) ?_
  rintro k inv2
  replace inv2 : k ≤ a.length ∧ ∀ i, i < k → gD a i = gD b i := inv2
  obtain ⟨inv2_0, inv2_1⟩ := inv2
  refine sq (sq (rg (zm (zm ?_))))
  refine z ?_ (h := fun ν => lnV ν qW8_un_31)
  refine z ?_ (h := fun ν => acts_bin ν vt vt (r_lss rfl))
  refine nl ?_
  refine wi (fun c3 => ?_) (fun c3 => ?_)
  ·skip
   have c3P := of_decide_eq_true c3
   refine sk (sq (bkk (sq (wp_dr (zdm (zdm ?_))))))
   refine zd ?_ (h := fun ν => ixv ν qW8_un_31 qW8_sz_62 vt)
   refine zd ?_ (h := fun ν => uD ν qW8_ti_62)
   refine zdm (zdm ?_)
   refine zd ?_ (h := fun ν => ixv ν qW8_un_31 qW8_sz_62 vt)
   refine zd ?_ (h := fun ν => uD ν qW8_ti_62)
   refine zd ?_ (h := fun ν => acts_call1 ν (laws_eqDomino_fn (gD a k) (gD b k) ) (ac (ArgV.va va) (ac (ArgV.va va) an)) rv)
   refine zd ?_ (h := fun ν => acts_un ν vt (r_not rfl))
   refine dw_nil ?_
   refine wi (b := (!(decide ((gD a k) = (gD b k))))) (fun c4 => ?_) (fun c4 => ?_)
   ·skip
    have c5 : decide ((gD a k) = (gD b k)) = false := by first | (rw [← Bool.not_eq_true']; exact c4) | simpa using c4
    have c5P := of_decide_eq_false c5
    refine sq (rg (zk (nl (wp_ret' ?_))))
    exact VRes.tmp _ _ _ (by exact rfl) (bval (congrArg Value.bool (by exact (eqD_no (k := k) (by simp_all)).symm)))
   ·skip
    have c6 : decide ((gD a k) = (gD b k)) = true := by first | (rw [← Bool.not_eq_false']; exact c4) | simpa using c4
    have c6P := of_decide_eq_true c6
    refine sk (rg (zm ?_))
    refine z ?_ (h := fun ν => acts_bin ν vt vc rA)
    refine za (nl ?_)
    exact loop_back ((k + 1)) (by exact ⟨by omega, eqD_s (by assumption) (by simp_all)⟩) (by show a.length - (k + 1) < a.length - k; omega) (wkf id (wS <| wS <| wE (e := (vint (by first | rfl | omega | (simp; done) | (simp; omega)))) <| wF <| wF <| wF <| wF <| wN))
  ·skip
   have c3P := of_decide_eq_false c3
   refine wp_exit' (sq (rg (zk (nl (wp_ret' ?_)))))
   exact VRes.tmp _ _ _ (by exact rfl) (bval (congrArg Value.bool (by exact (eqD_yes (k := k) (by assumption) (by omega) (by omega)).symm)))

set_option maxHeartbeats 4000000 in
set_option maxRecDepth 100000 in
theorem impl_SameDominoes_fn (a b : List Dom) (ha : a.length ≤ 4194304) (hb : b.length ≤ 4194304) : Fn Tryz.prog 66 [.a (.slv a.length 3 (dsl a)), .a (.slv b.length 3 (dsl b))] [.val (.bool (decide (a = b)))] := by
 refine fn_intro (N := 26) Tryz.func66 rfl (by kernel_rfl) rfl (Nat.le_of_ble_eq_true rfl) [7, 9, 12] (ret1 rfl) (fun W => ?_)
 show Wp _ _ _ [kV 0 (V.b (.a (.slv a.length 3 (dsl a)))), kV 1 (V.b (.a (.slv b.length 3 (dsl b)))), kF 7, kF 9, kF 12]
 refine sq (rg (zk (nl (sq (sq (rg (zm ?_)))))))
 refine z ?_ (h := fun ν => lnV ν qW8_un_31)
 refine zm ?_
 refine z ?_ (h := fun ν => lnV ν qW8_un_31)
 refine z ?_ (h := fun ν => acts_bin ν vt vt (r_neq rfl))
 refine nl ?_
 refine wi (fun c1 => ?_) (fun c1 => ?_)
 ·skip
  have c1P := of_decide_eq_true c1
  refine sq (rg (zk (nl (wp_ret' ?_))))
  exact VRes.tmp _ _ _ (by exact rfl) (bval (congrArg Value.bool (by exact (eq_len (by omega)).symm)))
 ·skip
  have c1P := of_decide_eq_false c1
  refine sk (sq (sq (rg (zm ?_))))
  refine z ?_ (h := fun ν => lnV ν qW8_un_31)
  refine z ?_ (h := fun ν => mc ν)
  refine nl (bkk ?_)
  refine wp_loop' (fun (k : Nat) => k ≤ a.length ∧ ∀ i, i < k → gD a i = gD b i) (fun (k : Nat) => [kV 0 (V.b (.a (.slv a.length 3 (dsl a)))), kV 1 (V.b (.a (.slv b.length 3 (dsl b)))), kI 12 ((a.length : Nat) : Int), kI 13 ((k : Nat) : Int), kF 7, kF 9, kF 12]) (fun (k : Nat) => a.length - k) ((0 : Nat)) (by exact ⟨Nat.zero_le _, fun i hi => absurd hi (Nat.not_lt_zero i)⟩) (wkf id (wS <| wS <| wS <| wE (e := (vint (by first | rfl | omega | (simp; done) | (simp; omega)))) <| wF <| wF <| wF <| wN)) ?_
  rintro k inv2
  replace inv2 : k ≤ a.length ∧ ∀ i, i < k → gD a i = gD b i := inv2
  obtain ⟨inv2_0, inv2_1⟩ := inv2
  refine sq (rg ?_)
  refine z ?_ (h := fun ν => acts_bin ν vt vt (r_lss rfl))
  refine nl (sq ?_)
  refine wi (fun c3 => ?_) (fun c3 => ?_)
  ·skip
   have c3P := of_decide_eq_true c3
   refine sk (sq (bkk (sq (rg (zm (za (nl (sq (wp_dr (zdm (zdm ?_)))))))))))
   refine zd ?_ (h := fun ν => ixv ν qW8_un_31 qW8_sz_62 vt)
   refine zd ?_ (h := fun ν => uD ν qW8_ti_62)
   refine zdm (zdm ?_)
   refine zd ?_ (h := fun ν => ixv ν qW8_un_31 qW8_sz_62 vt)
   refine zd ?_ (h := fun ν => uD ν qW8_ti_62)
   refine zd ?_ (h := fun ν => acts_bin ν va va (r_aggne qW8_eg_62 (fun w => (run_neq_dom ((gD a k).x) ((gD a k).y) ((gD a k).d) ((gD b k).x) ((gD b k).y) ((gD b k).d) w).trans (congrArg (fun z => Result.ok (Value.bool z) w) (rfl : (!(dEq ((gD a k).x) ((gD a k).y) ((gD a k).d) ((gD b k).x) ((gD b k).y) ((gD b k).d))) = (!(dEq ((gD a k).x) ((gD a k).y) ((gD a k).d) ((gD b k).x) ((gD b k).y) ((gD b k).d))))))))
   refine dw_nil ?_
   refine wi (b := (!(dEq ((gD a k).x) ((gD a k).y) ((gD a k).d) ((gD b k).x) ((gD b k).y) ((gD b k).d)))) (fun c4 => ?_) (fun c4 => ?_)
   ·skip
    have c5 : (dEq ((gD a k).x) ((gD a k).y) ((gD a k).d) ((gD b k).x) ((gD b k).y) ((gD b k).d)) = false := by first | (rw [← Bool.not_eq_true']; exact c4) | simpa using c4
    rw [dEq_dom, decide_eq_false_iff_not] at c5
    refine sq (rg (zk (nl (wp_ret' ?_))))
    exact VRes.tmp _ _ _ (by exact rfl) (bval (congrArg Value.bool (by exact (eqD_no (k := k) (by first | assumption | simp_all [dEq_dom])).symm)))
   ·skip
    have c6 : (dEq ((gD a k).x) ((gD a k).y) ((gD a k).d) ((gD b k).x) ((gD b k).y) ((gD b k).d)) = true := by first | (rw [← Bool.not_eq_false']; exact c4) | simpa using c4
    rw [dEq_dom, decide_eq_true_eq] at c6
    refine sk (rg ?_)
    refine z ?_ (h := fun ν => acts_bin ν vt vc rA)
    refine zm (nl ?_)
    exact loop_back ((k + 1)) (by exact ⟨by omega, eqD_s (by assumption) (by first | assumption | simp_all [dEq_dom])⟩) (by show a.length - (k + 1) < a.length - k; omega) (wkf id (wS <| wS <| wS <| wE (e := (vint (by first | rfl | omega | (simp; done) | (simp; omega)))) <| wF <| wF <| wF <| wN))
  ·skip
   have c3P := of_decide_eq_false c3
   refine wp_exit' (sq (rg (zk (nl (wp_ret' ?_)))))
   exact VRes.tmp _ _ _ (by exact rfl) (bval (congrArg Value.bool (by exact (eqD_yes (k := k) (by assumption) (by omega) (by omega)).symm)))

set_option maxHeartbeats 4000000 in
set_option maxRecDepth 100000 in
theorem spec_SameDominoes_fn (a b : List Dom) (ha : a.length ≤ 4194304) (hb : b.length ≤ 4194304) : Fn Tryz.prog 24 [.a (.slv a.length 3 (dsl a)), .a (.slv b.length 3 (dsl b))] [.val (.bool (decide (a = b)))] := by
 refine fn_intro (N := 26) Tryz.func24 rfl (by kernel_rfl) rfl (Nat.le_of_ble_eq_true rfl) [7, 9, 13] (ret1 rfl) (fun W => ?_)
 show Wp _ _ _ [kV 0 (V.b (.a (.slv a.length 3 (dsl a)))), kV 1 (V.b (.a (.slv b.length 3 (dsl b)))), kF 7, kF 9, kF 13]
 refine sq (rg (zk (nl (sq (sq (rg (zm ?_)))))))
 refine z ?_ (h := fun ν => lnV ν qW8_un_31)
 refine zm ?_
 refine z ?_ (h := fun ν => lnV ν qW8_un_31)
 refine z ?_ (h := fun ν => acts_bin ν vt vt (r_neq rfl))
 refine nl ?_
 refine wi (fun c1 => ?_) (fun c1 => ?_)
 ·skip
  have c1P := of_decide_eq_true c1
  refine sq (rg (zk (nl (wp_ret' ?_))))
  exact VRes.tmp _ _ _ (by exact rfl) (bval (congrArg Value.bool (by exact (eq_len (by omega)).symm)))
 ·skip
  have c1P := of_decide_eq_false c1
  refine sk (sq (sq (rg (zk (nl (bkk ?_))))))
  refine wp_loop' (fun (k : Nat) => k ≤ a.length ∧ ∀ i, i < k → gD a i = gD b i) (fun (k : Nat) => [kV 0 (V.b (.a (.slv a.length 3 (dsl a)))), kV 1 (V.b (.a (.slv b.length 3 (dsl b)))), kI 5 ((k : Nat) : Int), kF 7, kF 9, kF 13]) (fun (k : Nat) => a.length - k) ((0 : Nat)) (by exact ⟨Nat.zero_le _, fun i hi => absurd hi (Nat.not_lt_zero i)⟩) (wkf id (wS <| wS <| wE (e := (vint (by first | rfl | omega | (simp; done) | (simp; omega)))) <| wF <| wF <| wF <| wN)) ?_
  rintro k inv2
  replace inv2 : k ≤ a.length ∧ ∀ i, i < k → gD a i = gD b i := inv2
  obtain ⟨inv2_0, inv2_1⟩ := inv2
  refine sq (sq (rg (zm (zm ?_))))
  refine z ?_ (h := fun ν => lnV ν qW8_un_31)
  refine z ?_ (h := fun ν => acts_bin ν vt vt (r_lss rfl))
  refine nl ?_
  refine wi (fun c3 => ?_) (fun c3 => ?_)
  ·skip
   have c3P := of_decide_eq_true c3
   refine sk (sq (bkk (sq (wp_dr (zdm (zdm ?_))))))
   refine zd ?_ (h := fun ν => ixv ν qW8_un_31 qW8_sz_62 vt)
   refine zd ?_ (h := fun ν => uD ν qW8_ti_62)
   refine zdm (zdm ?_)
   refine zd ?_ (h := fun ν => ixv ν qW8_un_31 qW8_sz_62 vt)
   refine zd ?_ (h := fun ν => uD ν qW8_ti_62)
   refine zd ?_ (h := fun ν => acts_bin ν va va (r_aggne qW8_eg_62 (fun w => (run_neq_dom ((gD a k).x) ((gD a k).y) ((gD a k).d) ((gD b k).x) ((gD b k).y) ((gD b k).d) w).trans (congrArg (fun z => Result.ok (Value.bool z) w) (rfl : (!(dEq ((gD a k).x) ((gD a k).y) ((gD a k).d) ((gD b k).x) ((gD b k).y) ((gD b k).d))) = (!(dEq ((gD a k).x) ((gD a k).y) ((gD a k).d) ((gD b k).x) ((gD b k).y) ((gD b k).d))))))))
   refine dw_nil ?_
   refine wi (b := (!(dEq ((gD a k).x) ((gD a k).y) ((gD a k).d) ((gD b k).x) ((gD b k).y) ((gD b k).d)))) (fun c4 => ?_) (fun c4 => ?_)
   ·skip
    have c5 : (dEq ((gD a k).x) ((gD a k).y) ((gD a k).d) ((gD b k).x) ((gD b k).y) ((gD b k).d)) = false := by first | (rw [← Bool.not_eq_true']; exact c4) | simpa using c4
    rw [dEq_dom, decide_eq_false_iff_not] at c5
    refine sq (rg (zk (nl (wp_ret' ?_))))
    exact VRes.tmp _ _ _ (by exact rfl) (bval (congrArg Value.bool (by exact (eqD_no (k := k) (by first | assumption | simp_all [dEq_dom])).symm)))
   ·skip
    have c6 : (dEq ((gD a k).x) ((gD a k).y) ((gD a k).d) ((gD b k).x) ((gD b k).y) ((gD b k).d)) = true := by first | (rw [← Bool.not_eq_false']; exact c4) | simpa using c4
    rw [dEq_dom, decide_eq_true_eq] at c6
    refine sk (rg (zm ?_))
    refine z ?_ (h := fun ν => acts_bin ν vt vc rA)
    refine za (nl ?_)
    exact loop_back ((k + 1)) (by exact ⟨by omega, eqD_s (by assumption) (by first | assumption | simp_all [dEq_dom])⟩) (by show a.length - (k + 1) < a.length - k; omega) (wkf id (wS <| wS <| wE (e := (vint (by first | rfl | omega | (simp; done) | (simp; omega)))) <| wF <| wF <| wF <| wN))
  ·skip
   have c3P := of_decide_eq_false c3
   refine wp_exit' (sq (rg (zk (nl (wp_ret' ?_)))))
   exact VRes.tmp _ _ _ (by exact rfl) (bval (congrArg Value.bool (by exact (eqD_yes (k := k) (by assumption) (by omega) (by omega)).symm)))

set_option maxHeartbeats 4000000 in
set_option maxRecDepth 100000 in
theorem laws_markDominoS_fn (l : List Dom) (v : Int) (hl : l.length ≤ 4194304) (hv : 0 ≤ v ∧ v ≤ 4194304) : FnO Tryz.prog 18 [.a (.sl 1 0 l.length), .a (.val (.int .i64 v))] [(.o 1, some (.o ⟨62, 3, true, pl (dsl l)⟩))] (V.v (.int .i64 (v + 3 * (l.length : Int)))) [(.o 1, some (.o ⟨62, 3, true, pl (dsl (mkDs v l.length))⟩))] [1] := by
 refine fn_introO (N := 36) Tryz.func18 rfl (by kernel_rfl) rfl (Nat.le_of_ble_eq_true rfl) rfl rfl (by kernel_rfl) (by kernel_rfl) ⟨oc_pl (fun _ => rfl), trivial⟩ [8] (retO1 rfl) (fun W own kp im0 => ?_)
 show Wp _ _ _ [kS 0 1 0 l.length, kI 1 v, kO 1 62 3 true (pl (dsl l)), kF 8]
 refine sq (rg (zk (nl (sq (sq (rg (zk (nl (bkk ?_)))))))))
 refine wp_loop' (fun (k : Nat) => k ≤ l.length) (fun (k : Nat) => [kS 0 1 0 l.length, kI 1 (v + 3 * (k : Int)), kI 5 ((k : Nat) : Int), kO 1 62 3 true (pl (dsl (genK (mkF v) l k))), kF 8]) (fun (k : Nat) => l.length - k) ((0 : Nat)) (by exact (Nat.zero_le _ : 0 ≤ _)) (wkf id (wS <| wE (e := (vint (by first | rfl | omega | exact genK_zero _ _ | exact Eq.symm (genK_zero _ _) | (rw [set_xyd (by omega)]; exact genK_set (by omega) rfl) | (rw [set_xyd (by omega)]; exact Eq.symm (genK_set (by omega) rfl))))) <| wE (e := (vint (by first | rfl | omega | exact genK_zero _ _ | exact Eq.symm (genK_zero _ _) | (rw [set_xyd (by omega)]; exact genK_set (by omega) rfl) | (rw [set_xyd (by omega)]; exact Eq.symm (genK_set (by omega) rfl))))) <| wO (e := renob_eq (fun h => h) (congrArg dsl (by first | rfl | omega | exact genK_zero _ _ | exact Eq.symm (genK_zero _ _) | (rw [set_xyd (by omega)]; exact genK_set (by omega) rfl) | (rw [set_xyd (by omega)]; exact Eq.symm (genK_set (by omega) rfl))))) <| wF <| wN)) ?_
 rintro k inv1
 replace inv1 : k ≤ l.length := inv1
 have invk := inv1
 have hgl := genK_len (f := mkF v) invk
 refine sq (sq (rg (zm (zm ?_))))
 refine z ?_ (h := fun ν => lnS ν qW8_un_31)
 refine z ?_ (h := fun ν => acts_bin ν vt vt (r_lss rfl))
 refine nl ?_
 refine wi (fun c2 => ?_) (fun c2 => ?_)
 ·skip
  have c2P := of_decide_eq_true c2
  refine sk (sq (bkk (sq (rg (zm (zm (zm ?_)))))))
  refine z ?_ (h := fun ν => ix0 ν qW8_un_31 qW8_sz_62 vt (hlt := (by first | omega | assumption | (simp only [List.length_set]; omega))))
  refine z ?_ (h := fun ν => acts_field (off' := (k * 3)) ν qW8_fo_62_0 rfl)
  refine z ?_ (h := fun _ => sDx (k := k) (L := (genK (mkF v) l k)) qW8_ti_3 xt (hk := (by first | omega | assumption | (simp only [List.length_set]; omega))))
  refine nl (sq (rg (zm ?_)))
  refine z ?_ (h := fun ν => acts_bin ν vt vc (rA (by first | omega | assumption | (simp only [List.length_set]; omega)) (by first | omega | assumption | (simp only [List.length_set]; omega))))
  refine za (nl (sq (rg (zm (zm (zm ?_))))))
  refine z ?_ (h := fun ν => ix0 ν qW8_un_31 qW8_sz_62 vt (hlt := (by first | omega | assumption | (simp only [List.length_set]; omega))))
  refine z ?_ (h := fun ν => acts_field (off' := (k * 3 + 1)) ν qW8_fo_62_1 rfl)
  refine z ?_ (h := fun _ => sDy (k := k) (L := ((genK (mkF v) l k).set k (⟨(v + 3 * (k : Int)), (gD (genK (mkF v) l k) k).y, (gD (genK (mkF v) l k) k).d⟩ : Dom))) qW8_ti_3 xt (hk := (by first | omega | assumption | (simp only [List.length_set]; omega))))
  refine nl (sq (rg (zm ?_)))
  refine z ?_ (h := fun ν => acts_bin ν vt vc (rA (by first | omega | assumption | (simp only [List.length_set]; omega)) (by first | omega | assumption | (simp only [List.length_set]; omega))))
  refine za (nl (sq (rg (zm (zm (zm ?_))))))
  refine z ?_ (h := fun ν => acts_bin ν vt vc (r_rem (c := ((((v + 3 * (k : Int)) + 1) + 1) % 3)) (by first | omega | assumption | (simp only [List.length_set]; omega)) (remI (by first | omega | assumption | (simp only [List.length_set]; omega)))))
  refine z ?_ (h := fun ν => acts_bin ν vt vc (r_eql rfl))
  refine z ?_ (h := fun ν => ix0 ν qW8_un_31 qW8_sz_62 vt (hlt := (by first | omega | assumption | (simp only [List.length_set]; omega))))
  refine z ?_ (h := fun ν => acts_field (off' := (k * 3 + 2)) ν qW8_fo_62_2 rfl)
  refine z ?_ (h := fun _ => sDd (k := k) (L := (((genK (mkF v) l k).set k (⟨(v + 3 * (k : Int)), (gD (genK (mkF v) l k) k).y, (gD (genK (mkF v) l k) k).d⟩ : Dom)).set k (⟨(gD ((genK (mkF v) l k).set k (⟨(v + 3 * (k : Int)), (gD (genK (mkF v) l k) k).y, (gD (genK (mkF v) l k) k).d⟩ : Dom)) k).x, ((v + 3 * (k : Int)) + 1), (gD ((genK (mkF v) l k).set k (⟨(v + 3 * (k : Int)), (gD (genK (mkF v) l k) k).y, (gD (genK (mkF v) l k) k).d⟩ : Dom)) k).d⟩ : Dom))) qW8_ti_4 xt (hk := (by first | omega | assumption | (simp only [List.length_set]; omega))))
  refine nl (rg (zm ?_))
  refine z ?_ (h := fun ν => acts_bin ν vt vc (rA (by first | omega | assumption | (simp only [List.length_set]; omega)) (by first | omega | assumption | (simp only [List.length_set]; omega))))
  refine za (nl (rg (zm ?_)))
  refine z ?_ (h := fun ν => acts_bin ν vt vc (rA (by first | omega | assumption | (simp only [List.length_set]; omega)) (by first | omega | assumption | (simp only [List.length_set]; omega))))
  refine za (nl ?_)
  exact loop_back ((k + 1)) (by show _ ≤ _; omega) (by show l.length - (k + 1) < l.length - k; omega) (wkf id (wS <| wE (e := (vint (by first | rfl | omega | exact genK_zero _ _ | exact Eq.symm (genK_zero _ _) | (rw [set_xyd (by omega)]; exact genK_set (by omega) rfl) | (rw [set_xyd (by omega)]; exact Eq.symm (genK_set (by omega) rfl))))) <| wE (e := (vint (by first | rfl | omega | exact genK_zero _ _ | exact Eq.symm (genK_zero _ _) | (rw [set_xyd (by omega)]; exact genK_set (by omega) rfl) | (rw [set_xyd (by omega)]; exact Eq.symm (genK_set (by omega) rfl))))) <| wO (e := renob_eq (fun h => h) (congrArg dsl (by first | rfl | omega | exact genK_zero _ _ | exact Eq.symm (genK_zero _ _) | (rw [set_xyd (by omega)]; exact genK_set (by omega) rfl) | (rw [set_xyd (by omega)]; exact Eq.symm (genK_set (by omega) rfl))))) <| wF <| wN))
 ·skip
  have c2P := of_decide_eq_false c2
  refine wp_exit' (sq (rg (zm (za (nl (wp_ret' ?_))))))
  exact ⟨_, weak_id, ⟨obj_eq (c := pl (dsl (genK (mkF v) l k))) (by kernel_rfl) (congrArg (fun z => pl (dsl z)) (by exact genK_end (f := mkF v) (l := l) (k := k) (by omega) (by omega))), trivial⟩, vo_eq 4 (.a (.val (.int .i64 (v + 3 * (k : Int))))) (.a (.val (.int .i64 (v + 3 * (l.length : Int))))) (by kernel_rfl) (congrArg (fun z : Int => B.a (.val (.int .i64 z))) (by first | rfl | omega))⟩
end Cl
end Go.Proofs.YtgmkkfdnmdohlaaGreatDoor
