/- Walks over clean states, printed by wg.py. No statement is proved here. -/
import Derived.Test.YtgmkkfdnmdohlaaGreatDoorFv
import Derived.Test.YtgmkkfdnmdohlaaGreatDoorW8
import Derived.Test.YtgmkkfdnmdohlaaGreatDoorClC
import Derived.Test.YtgmkkfdnmdohlaaGreatDoorClB
set_option linter.unusedSimpArgs false
set_option linter.unusedVariables false
namespace Go.Proofs.YtgmkkfdnmdohlaaGreatDoor
namespace Cl
open Go.ChangeShapes Go.WideShapes Go.ChangeAt Go.RowKit
set_option maxRecDepth 20000

theorem eqC_no {a b : List Cel} {k : Nat} (h : gC a k ≠ gC b k) : decide (a = b) = false := decide_eq_false fun e => h (by rw [e])
theorem eqC_yes {a b : List Cel} {k : Nat} (h : ∀ i, i < k → gC a i = gC b i) (hk : ¬ k < a.length) (hl : a.length = b.length) : decide (a = b) = true := decide_eq_true (List.ext_getElem hl fun i h1 h2 => by rw [← gC_eq h1, ← gC_eq h2]; exact h i (by omega))
theorem eqC_s {a b : List Cel} {k : Nat} (h : ∀ i, i < k → gC a i = gC b i) (h2 : gC a k = gC b k) : ∀ i, i < k + 1 → gC a i = gC b i := by
  intro i hi
  rcases Nat.lt_or_ge i k with h3 | h3
  · exact h i h3
  · rw [show i = k by omega]; exact h2
def mkG (v : Int) : Nat → Cel := fun i => ⟨v + 2 * (i : Int), v + 2 * (i : Int) + 1⟩
def mkCs (v : Int) (n : Nat) : List Cel := (List.range n).map (mkG v)
theorem mkCs_len (v : Int) (n : Nat) : (mkCs v n).length = n := by simp [mkCs]
theorem mkCs_at {v : Int} {l : List Cel} (h : l = mkCs v l.length) {k : Nat} (hk : k < l.length) : gC l k = mkG v k := by
  rw [gC_eq hk]
  have h2 : k < (mkCs v l.length).length := by rw [mkCs_len]; exact hk
  have : l[k] = (mkCs v l.length)[k] := by congr 1
  rw [this]; simp [mkCs]
theorem gC_setE {l : List Cel} {k : Nat} {d : Cel} (h : k < l.length) : gC (l.set k d) k = d := by
  rw [gC_eq (by rw [List.length_set]; exact h)]; simp
theorem set_xyC {l : List Cel} {k : Nat} {a b : Int} (h : k < l.length) :
    (l.set k ⟨a, (gC l k).y⟩).set k ⟨(gC (l.set k ⟨a, (gC l k).y⟩) k).x, b⟩ = l.set k ⟨a, b⟩ := by
  rw [gC_setE h, List.set_set]
theorem fwR_len (l : List Int) (p q : List Dom) : (fwR l p q).length ≤ 300 := by
  unfold fwR
  split
  · simp
  · rename_i h
    rw [wyL_len]
    by_cases h1 : ixT (ltR l) p < 0
    · rw [fdR_no (.inl h1)] at h; omega
    by_cases h2 : ixT (ltR l) q < 0
    · rw [fdR_no (.inr h2)] at h; omega
    have h3 := dsD_lt (M := lkM (ltR l)) (n := (ltR l).length) (t := ixT (ltR l) q) (rows_in (FlipA.of l)) ⟨by omega, (ixT_lt _ _).1⟩ (ixT (ltR l) p)
    have h4 := ltR_len l
    rw [fdR_yes h1 h2]; omega
theorem fdR_bd (l : List Int) (p q : List Dom) : -1 ≤ fdR l p q ∧ fdR l p q ≤ 300 := by
  by_cases h1 : ixT (ltR l) p < 0
  · rw [fdR_no (.inl h1)]; omega
  by_cases h2 : ixT (ltR l) q < 0
  · rw [fdR_no (.inr h2)]; omega
  have h3 := dsD_lt (M := lkM (ltR l)) (n := (ltR l).length) (t := ixT (ltR l) q) (rows_in (FlipA.of l)) ⟨by omega, (ixT_lt _ _).1⟩ (ixT (ltR l) p)
  have h4 := ltR_len l
  have h5 := dsD_ge (lkM (ltR l)) (ixT (ltR l) q) (ixT (ltR l) p)
  rw [fdR_yes h1 h2]; omega

theorem qW11_fo_70_0 : fieldOff Tryz.prog 70 0 = some 0 := by kernel_rfl
theorem qW11_fo_70_1 : fieldOff Tryz.prog 70 1 = some 1 := by kernel_rfl
theorem qW11_sz_70 : (Tryz.prog.info? 70).map (·.size) = some 2 := by kernel_rfl
theorem qW11_ti_24 : TI Tryz.prog 24 true 1 := ⟨⟨_, Tryz.underlying24, rfl⟩, by kernel_rfl⟩
theorem qW11_ti_29 : TI Tryz.prog 29 true 1 := ⟨⟨_, Tryz.underlying29, rfl⟩, by kernel_rfl⟩
theorem qW11_ti_3 : TI Tryz.prog 3 false 1 := ⟨⟨_, Tryz.underlying3, rfl⟩, by kernel_rfl⟩
theorem qW11_ti_70 : TI Tryz.prog 70 true 2 := ⟨⟨_, Tryz.underlying70, rfl⟩, by kernel_rfl⟩
theorem qW11_un_36 : Tryz.prog.underlying 36 = some (.slice 70) := Tryz.underlying36
theorem qW11_un_4 : Tryz.prog.underlying 4 = some .bool := Tryz.underlying4
theorem qW11_zi_29 : ZI Tryz.prog 29 (.agg #[.slice none 0 0]) 1 24 := by unfold ZI; kernel_rfl
set_option maxHeartbeats 4000000 in
set_option maxRecDepth 100000 in
theorem laws_eqCell_fn (a b : Cel) : Fn Tryz.prog 47 [.agg ([vI a.x, vI a.y].map A.val), .agg ([vI b.x, vI b.y].map A.val)] [.val (.bool (decide (a = b)))] := by
 refine fn_intro (N := 15) Tryz.func47 rfl (by kernel_rfl) rfl (Nat.le_of_ble_eq_true rfl) [2, 3] (ret1 rfl) (fun W => ?_)
 show Wp _ _ _ [kV 0 (V.av [vI a.x, vI a.y]), kV 1 (V.av [vI b.x, vI b.y]), kF 2, kF 3]
 refine sq (rg ?_)
 refine z ?_ (h := fun ν => acts_box (h := 2) ν xt (by exact ob1 rfl))
 refine z ?_ (h := fun ν => acts_box (h := 3) ν xt (by exact ob1 rfl))
 refine zk (nl (sq (sq (rg ?_))))
 refine z ?_ (h := fun ν => acts_field (off' := 0) ν qW11_fo_70_0 rfl)
 refine z ?_ (h := fun ν => acts_load_own (x := .val (.int .i64 a.x)) ν qW11_ti_3 (by exact rfl))
 refine z ?_ (h := fun ν => acts_field (off' := 0) ν qW11_fo_70_0 rfl)
 refine z ?_ (h := fun ν => acts_load_own (x := .val (.int .i64 b.x)) ν qW11_ti_3 (by exact rfl))
 refine z ?_ (h := fun ν => acts_bin ν vt vt (r_neq rfl))
 refine nl ?_
 refine wi (fun c1 => ?_) (fun c1 => ?_)
 ·skip
  have c1P := of_decide_eq_true c1
  refine sq (rg (zk (nl (wp_ret' ?_))))
  exact VRes.tmp _ _ _ (by exact rfl) (bval (congrArg Value.bool (by exact Eq.symm (decide_eq_false (fun e => by subst e; simp_all)))))
 ·skip
  have c1P := of_decide_eq_false c1
  refine sk (sq (sq (rg ?_)))
  refine z ?_ (h := fun ν => acts_field (off' := 1) ν qW11_fo_70_1 rfl)
  refine z ?_ (h := fun ν => acts_load_own (x := .val (.int .i64 a.y)) ν qW11_ti_3 (by exact rfl))
  refine z ?_ (h := fun ν => acts_field (off' := 1) ν qW11_fo_70_1 rfl)
  refine z ?_ (h := fun ν => acts_load_own (x := .val (.int .i64 b.y)) ν qW11_ti_3 (by exact rfl))
  refine z ?_ (h := fun ν => acts_bin ν vt vt (r_neq rfl))
  refine nl ?_
  refine wi (fun c2 => ?_) (fun c2 => ?_)
  ·skip
   have c2P := of_decide_eq_true c2
   refine sq (rg (zk (nl (wp_ret' ?_))))
   exact VRes.tmp _ _ _ (by exact rfl) (bval (congrArg Value.bool (by exact Eq.symm (decide_eq_false (fun e => by subst e; simp_all)))))
  ·skip
   have c2P := of_decide_eq_false c2
   refine sk (sq (rg (zk (nl (wp_ret' ?_)))))
   exact VRes.tmp _ _ _ (by exact rfl) (bval (congrArg Value.bool (by exact Eq.symm (decide_eq_true (by cases a; cases b; simp_all)))))

set_option maxHeartbeats 4000000 in
set_option maxRecDepth 100000 in
theorem laws_eqCellS_fn (a b : List Cel) (ha : a.length ≤ 4194304) (hb : b.length ≤ 4194304) : Fn Tryz.prog 16 [.a (.slv a.length 2 (csl a)), .a (.slv b.length 2 (csl b))] [.val (.bool (decide (a = b)))] := by
 refine fn_intro (N := 27) Tryz.func16 rfl (by kernel_rfl) rfl (Nat.le_of_ble_eq_true rfl) [7, 9, 13, 25] (ret1 rfl) (fun W => ?_)
 show Wp _ _ _ [kV 0 (V.b (.a (.slv a.length 2 (csl a)))), kV 1 (V.b (.a (.slv b.length 2 (csl b)))), kF 7, kF 9, kF 13, kF 25]
 refine sq (rg (zk (nl (sq (sq (rg (zm ?_)))))))
 refine z ?_ (h := fun ν => lnV ν qW11_un_36)
 refine zm ?_
 refine z ?_ (h := fun ν => lnV ν qW11_un_36)
 refine z ?_ (h := fun ν => acts_bin ν vt vt (r_neq rfl))
 refine nl ?_
 refine wi (fun c1 => ?_) (fun c1 => ?_)
 ·skip
  have c1P := of_decide_eq_true c1
  refine sq (rg (zk (nl (wp_ret' ?_))))
  exact VRes.tmp _ _ _ (by exact rfl) (bval (congrArg Value.bool (by exact (eq_len (by omega)).symm)))
 ·skip
  have c1P := of_decide_eq_false c1
  refine sk (sq (sq (rg (zk (nl (bkk ?_))))))
  refine wp_loop' (fun (k : Nat) => k ≤ a.length ∧ ∀ i, i < k → gC a i = gC b i) (fun (k : Nat) => [kV 0 (V.b (.a (.slv a.length 2 (csl a)))), kV 1 (V.b (.a (.slv b.length 2 (csl b)))), kI 5 ((k : Nat) : Int), kF 7, kF 9, kF 13, kF 25]) (fun (k : Nat) => a.length - k) ((0 : Nat)) (by exact ⟨Nat.zero_le _, fun i hi => absurd hi (Nat.not_lt_zero i)⟩) (wkf id (wS <| wS <| wE (e := (vint (by rfl))) <| wF <| wF <| wF <| wF <| wN)) ?_
  rintro k inv2
  replace inv2 : k ≤ a.length ∧ ∀ i, i < k → gC a i = gC b i := inv2
  obtain ⟨inv2_0, inv2_1⟩ := inv2
  refine sq (sq (rg (zm (zm ?_))))
  refine z ?_ (h := fun ν => lnV ν qW11_un_36)
  refine z ?_ (h := fun ν => acts_bin ν vt vt (r_lss rfl))
  refine nl ?_
  refine wi (fun c3 => ?_) (fun c3 => ?_)
  ·skip
   have c3P := of_decide_eq_true c3
   refine sk (sq (bkk (sq (wp_dr (zdm (zdm ?_))))))
   refine zd ?_ (h := fun ν => ixv ν qW11_un_36 qW11_sz_70 vt)
   refine zd ?_ (h := fun ν => uC ν qW11_ti_70)
   refine zdm (zdm ?_)
   refine zd ?_ (h := fun ν => ixv ν qW11_un_36 qW11_sz_70 vt)
   refine zd ?_ (h := fun ν => uC ν qW11_ti_70)
   refine zd ?_ (h := fun ν => acts_call1 ν (laws_eqCell_fn (gC a k) (gC b k) ) (ac (ArgV.va va) (ac (ArgV.va va) an)) rv)
   refine zd ?_ (h := fun ν => acts_un ν vt (r_not rfl))
   refine dw_nil ?_
   refine wi (b := (!(decide ((gC a k) = (gC b k))))) (fun c4 => ?_) (fun c4 => ?_)
   ·skip
    have c5 : decide ((gC a k) = (gC b k)) = false := by first | (rw [← Bool.not_eq_true']; exact c4) | simpa using c4
    have c5P := of_decide_eq_false c5
    refine sq (rg (zk (nl (wp_ret' ?_))))
    exact VRes.tmp _ _ _ (by exact rfl) (bval (congrArg Value.bool (by exact (eqC_no (k := k) (by simp_all)).symm)))
   ·skip
    have c6 : decide ((gC a k) = (gC b k)) = true := by first | (rw [← Bool.not_eq_false']; exact c4) | simpa using c4
    have c6P := of_decide_eq_true c6
    refine sk (rg (zm ?_))
    refine z ?_ (h := fun ν => acts_bin ν vt vc rA)
    refine za (nl ?_)
    exact loop_back ((k + 1)) (by exact ⟨by omega, eqC_s (by assumption) (by simp_all)⟩) (by show a.length - (k + 1) < a.length - k; omega) (wkf id (wS <| wS <| wE (e := (vint (by rfl))) <| wF <| wF <| wF <| wF <| wN))
  ·skip
   have c3P := of_decide_eq_false c3
   refine wp_exit' (sq (rg (zk (nl (wp_ret' ?_)))))
   exact VRes.tmp _ _ _ (by exact rfl) (bval (congrArg Value.bool (by exact (eqC_yes (k := k) (by assumption) (by omega) (by omega)).symm)))

set_option maxHeartbeats 4000000 in
set_option maxRecDepth 100000 in
theorem laws_markCellS_fn (l : List Cel) (v : Int) (hl : l.length ≤ 4194304) (hv : 0 ≤ v ∧ v ≤ 4194304) : FnO Tryz.prog 19 [.a (.sl 1 0 l.length), .a (.val (.int .i64 v))] [(.o 1, some (.o ⟨70, 2, true, pl (csl l)⟩))] (V.v (.int .i64 (v + 2 * (l.length : Int)))) [(.o 1, some (.o ⟨70, 2, true, pl (csl (mkCs v l.length))⟩))] [1] := by
 refine fn_introO (N := 27) Tryz.func19 rfl (by kernel_rfl) rfl (Nat.le_of_ble_eq_true rfl) rfl rfl (by kernel_rfl) (by kernel_rfl) ⟨oc_pl (fun _ => rfl), trivial⟩ [8] (retO1 rfl) (fun W own kp im0 => ?_)
 show Wp _ _ _ [kS 0 1 0 l.length, kI 1 v, kO 1 70 2 true (pl (csl l)), kF 8]
 refine sq (rg (zk (nl (sq (sq (rg (zk (nl (bkk ?_)))))))))
 refine wp_loop' (fun (k : Nat) => k ≤ l.length) (fun (k : Nat) => [kS 0 1 0 l.length, kI 1 (v + 2 * (k : Int)), kI 5 ((k : Nat) : Int), kO 1 70 2 true (pl (csl (genK (mkG v) l k))), kF 8]) (fun (k : Nat) => l.length - k) ((0 : Nat)) (by exact (Nat.zero_le _ : 0 ≤ _)) (wkf id (wS <| wE (e := (vint (by omega))) <| wE (e := (vint (by rfl))) <| wO (e := renob_eq (fun h => h) (congrArg csl (by rfl))) <| wF <| wN)) ?_
 rintro k inv1
 replace inv1 : k ≤ l.length := inv1
 have invk := inv1
 have hgl := genK_len (f := mkG v) invk
 refine sq (sq (rg (zm (zm ?_))))
 refine z ?_ (h := fun ν => lnS ν qW11_un_36)
 refine z ?_ (h := fun ν => acts_bin ν vt vt (r_lss rfl))
 refine nl ?_
 refine wi (fun c2 => ?_) (fun c2 => ?_)
 ·skip
  have c2P := of_decide_eq_true c2
  refine sk (sq (bkk (sq (rg (zm (zm (zm ?_)))))))
  refine z ?_ (h := fun ν => ix0 ν qW11_un_36 qW11_sz_70 vt (hlt := (by omega)))
  refine z ?_ (h := fun ν => acts_field (off' := (k * 2)) ν qW11_fo_70_0 rfl)
  refine z ?_ (h := fun _ => sCx (k := k) (L := (genK (mkG v) l k)) qW11_ti_3 xt (hk := (by omega)))
  refine nl (sq (rg (zm ?_)))
  refine z ?_ (h := fun ν => acts_bin ν vt vc (rA (by omega) (by omega)))
  refine za (nl (sq (rg (zm (zm (zm ?_))))))
  refine z ?_ (h := fun ν => ix0 ν qW11_un_36 qW11_sz_70 vt (hlt := (by omega)))
  refine z ?_ (h := fun ν => acts_field (off' := (k * 2 + 1)) ν qW11_fo_70_1 rfl)
  refine z ?_ (h := fun _ => sCy (k := k) (L := ((genK (mkG v) l k).set k (⟨(v + 2 * (k : Int)), (gC (genK (mkG v) l k) k).y⟩ : Cel))) qW11_ti_3 xt (hk := (by (simp only [List.length_set]; omega))))
  refine nl (rg (zm ?_))
  refine z ?_ (h := fun ν => acts_bin ν vt vc (rA (by omega) (by omega)))
  refine za (nl (rg (zm ?_)))
  refine z ?_ (h := fun ν => acts_bin ν vt vc (rA (by omega) (by omega)))
  refine za (nl ?_)
  exact loop_back ((k + 1)) (by show _ ≤ _; omega) (by show l.length - (k + 1) < l.length - k; omega) (wkf id (wS <| wE (e := (vint (by omega))) <| wE (e := (vint (by rfl))) <| wO (e := renob_eq (fun h => h) (congrArg csl (by (rw [set_xyC (by omega)]; exact Eq.symm (genK_set (by omega) rfl))))) <| wF <| wN))
 ·skip
  have c2P := of_decide_eq_false c2
  refine wp_exit' (sq (rg (zm (za (nl (wp_ret' ?_))))))
  exact ⟨_, weak_id, ⟨obj_eq (c := pl (csl (genK (mkG v) l k))) (by kernel_rfl) (congrArg (fun z => pl (csl z)) (by exact genK_end (f := mkG v) (l := l) (k := k) (by omega) (by omega))), trivial⟩, vo_eq 4 (.a (.val (.int .i64 (v + 2 * (k : Int))))) (.a (.val (.int .i64 (v + 2 * (l.length : Int))))) (by kernel_rfl) (congrArg (fun z : Int => B.a (.val (.int .i64 z))) (by omega))⟩

set_option maxHeartbeats 4000000 in
set_option maxRecDepth 100000 in
theorem laws_heldCellS_fn (l : List Cel) (v : Int) (hl : l.length ≤ 4194304) (hv : 0 ≤ v ∧ v ≤ 4194304) (hh : l = mkCs v l.length) : Fn Tryz.prog 20 [.a (.slv l.length 2 (csl l)), .a (.val (.int .i64 v))] [.val (.int .i64 (v + 2 * (l.length : Int)))] := by
 refine fn_intro (N := 31) Tryz.func20 rfl (by kernel_rfl) rfl (Nat.le_of_ble_eq_true rfl) [8] (ret1 rfl) (fun W => ?_)
 show Wp _ _ _ [kV 0 (V.b (.a (.slv l.length 2 (csl l)))), kI 1 v, kF 8]
 refine sq (rg (zk (nl (sq (sq (rg (zk (nl (bkk ?_)))))))))
 refine wp_loop' (fun (k : Nat) => k ≤ l.length) (fun (k : Nat) => [kV 0 (V.b (.a (.slv l.length 2 (csl l)))), kI 1 (v + 2 * (k : Int)), kI 5 ((k : Nat) : Int), kF 8]) (fun (k : Nat) => l.length - k) ((0 : Nat)) (by exact (Nat.zero_le _ : 0 ≤ _)) (wkf id (wS <| wE (e := (vint (by omega))) <| wE (e := (vint (by rfl))) <| wF <| wN)) ?_
 rintro k inv1
 replace inv1 : k ≤ l.length := inv1
 have invk := inv1
 refine sq (sq (rg (zm (zm ?_))))
 refine z ?_ (h := fun ν => lnV ν qW11_un_36)
 refine z ?_ (h := fun ν => acts_bin ν vt vt (r_lss rfl))
 refine nl ?_
 refine wi (fun c2 => ?_) (fun c2 => ?_)
 ·skip
  have c2P := of_decide_eq_true c2
  have hat := mkCs_at hh (k := k) (by omega)
  have hatx : (gC l k).x = v + 2 * (k : Int) := by rw [hat]; rfl
  have haty : (gC l k).y = v + 2 * (k : Int) + 1 := by rw [hat]; rfl
  refine sk (sq (bkk (sq (sq (rg (zm (zm ?_)))))))
  refine z ?_ (h := fun ν => ixv ν qW11_un_36 qW11_sz_70 vt (hlt := (by omega)))
  refine z ?_ (h := fun ν => acts_field_v (off' := (k * 2)) ν qW11_fo_70_0 rfl)
  refine z ?_ (h := fun ν => acts_load_v ν qW11_ti_3 (by exact (csl_x (k := k) (by omega))))
  refine zm ?_
  refine z ?_ (h := fun ν => acts_bin ν vt vt (r_neq rfl))
  refine nl ?_
  refine wi (fun c3 => ?_) (fun c3 => ?_)
  ·skip
   have c3P := of_decide_eq_true c3
   refine sq (rg (zk (nl (wp_ret' ?_))))
   exact VRes.tmp _ _ _ (by exact rfl) (bval (congrArg (Value.int .i64) (by omega)))
  ·skip
   have c3P := of_decide_eq_false c3
   refine sk (sq (rg (zm ?_)))
   refine z ?_ (h := fun ν => acts_bin ν vt vc (rA (by omega) (by omega)))
   refine za (nl (sq (sq (rg (zm (zm ?_))))))
   refine z ?_ (h := fun ν => ixv ν qW11_un_36 qW11_sz_70 vt (hlt := (by omega)))
   refine z ?_ (h := fun ν => acts_field_v (off' := (k * 2 + 1)) ν qW11_fo_70_1 rfl)
   refine z ?_ (h := fun ν => acts_load_v ν qW11_ti_3 (by exact (csl_y (k := k) (by omega))))
   refine zm ?_
   refine z ?_ (h := fun ν => acts_bin ν vt vt (r_neq rfl))
   refine nl ?_
   refine wi (fun c4 => ?_) (fun c4 => ?_)
   ·skip
    have c4P := of_decide_eq_true c4
    refine sq (rg (zk (nl (wp_ret' ?_))))
    exact VRes.tmp _ _ _ (by exact rfl) (bval (congrArg (Value.int .i64) (by omega)))
   ·skip
    have c4P := of_decide_eq_false c4
    refine sk (rg (zm ?_))
    refine z ?_ (h := fun ν => acts_bin ν vt vc (rA (by omega) (by omega)))
    refine za (nl (rg (zm ?_)))
    refine z ?_ (h := fun ν => acts_bin ν vt vc (rA (by omega) (by omega)))
    refine za (nl ?_)
    exact loop_back ((k + 1)) (by show _ ≤ _; omega) (by show l.length - (k + 1) < l.length - k; omega) (wkf id (wS <| wE (e := (vint (by omega))) <| wE (e := (vint (by rfl))) <| wF <| wN))
 ·skip
  have c2P := of_decide_eq_false c2
  refine wp_exit' (sq (rg (zm (za (nl (wp_ret' ?_))))))
  exact VRes.tmp _ _ _ (by exact rfl) (bval (congrArg (Value.int .i64) (by omega)))

set_option maxHeartbeats 4000000 in
set_option maxRecDepth 100000 in
theorem laws_FnExactFlipDistance_fn (l : List Int) (p q : List Dom) (hl : l.length ≤ 9223372036854775807) (hp : p.length ≤ 9223372036854775807) (hq : q.length ≤ 9223372036854775807) : Fn Tryz.prog 3 [.agg [(.slv l.length 1 (isl l) : A)], .a (.slv p.length 3 (dsl p)), .a (.slv q.length 3 (dsl q))] [.val (.bool true)] := by
 have hfd := fdR_bd l p q
 refine fn_intro (N := 63) Tryz.func3 rfl (by kernel_rfl) rfl (Nat.le_of_ble_eq_true rfl) [3, 9, 15, 20, 25, 29, 31, 33, 34, 36, 38, 40, 44, 50, 51, 55, 56, 60, 61] (ret1 rfl) (fun W => ?_)
 show Wp _ _ _ [kV 0 (V.b (.agg [(.slv l.length 1 (isl l) : A)])), kV 1 (V.b (.a (.slv p.length 3 (dsl p)))), kV 2 (V.b (.a (.slv q.length 3 (dsl q)))), kF 3, kF 9, kF 15, kF 20, kF 25, kF 29, kF 31, kF 33, kF 34, kF 36, kF 38, kF 40, kF 44, kF 50, kF 51, kF 55, kF 56, kF 60, kF 61]
 refine sq (rg ?_)
 refine z ?_ (h := fun ν => acts_box (h := 3) ν xt (by exact ob1 rfl))
 refine zk (nl (sq (rg (zk (nl (sq (rg ?_)))))))
 refine z ?_ (h := fun ν => acts_load_owns (xs := [(.slv l.length 1 (isl l) : A)]) ν qW11_ti_24 rfl (by decide) rfl)
 refine zm ?_
 refine z ?_ (h := fun ν => acts_call1 ν (laws_szRegion_fn l 1048576 (by omega) (by omega)) (ac (ArgV.regv _ _ 1 _) (ac (ArgV.v vt) an)) rv)
 refine za (nl (sq (sq (rg (zm ?_)))))
 refine z ?_ (h := fun ν => acts_bin ν vt vc (r_lss rfl))
 refine nl ?_
 refine wi (fun c1 => ?_) (fun c1 => ?_)
 ·skip
  have c1P := of_decide_eq_true c1
  refine sq (rg (zk (nl (wp_ret' ?_))))
  exact VRes.tmp _ _ _ (by exact rfl) (BRes.val _)
 ·skip
  have c1P := of_decide_eq_false c1
  have hsc := szS_cases 1048576 l.length
  have hA : l.length ≤ 4194304 := by omega
  refine sk (sq (rg (zm (zm ?_))))
  refine z ?_ (h := fun ν => acts_call1 ν (laws_szDominoS_fn p (szS 1048576 l.length) (by omega) (by omega)) (ac (ArgV.slv _ _ _ _) (ac (ArgV.v vt) an)) rv)
  refine za (nl (sq (sq (rg (zm ?_)))))
  refine z ?_ (h := fun ν => acts_bin ν vt vc (r_lss rfl))
  refine nl ?_
  refine wi (fun c2 => ?_) (fun c2 => ?_)
  ·skip
   have c2P := of_decide_eq_true c2
   refine sq (rg (zk (nl (wp_ret' ?_))))
   exact VRes.tmp _ _ _ (by exact rfl) (BRes.val _)
  ·skip
   have c2P := of_decide_eq_false c2
   have hsc2 := szS_cases (szS 1048576 l.length) p.length
   have hB : p.length ≤ 1048576 := by omega
   have hA1 : l.length ≤ 1048576 := by omega
   refine sk (sq (rg (zm (zm ?_))))
   refine z ?_ (h := fun ν => acts_call1 ν (laws_szDominoS_fn q (szS (szS 1048576 l.length) p.length) (by omega) (by omega)) (ac (ArgV.slv _ _ _ _) (ac (ArgV.v vt) an)) rv)
   refine za (nl (sq (sq (rg (zm ?_)))))
   refine z ?_ (h := fun ν => acts_bin ν vt vc (r_lss rfl))
   refine nl ?_
   refine wi (fun c3 => ?_) (fun c3 => ?_)
   ·skip
    have c3P := of_decide_eq_true c3
    refine sq (rg (zk (nl (wp_ret' ?_))))
    exact VRes.tmp _ _ _ (by exact rfl) (BRes.val _)
   ·skip
    have c3P := of_decide_eq_false c3
    have hsc3 := szS_cases (szS (szS 1048576 l.length) p.length) q.length
    have hB3 : q.length ≤ 1048576 := by omega
    have hA2 : l.length ≤ 1048576 := by omega
    have hB2 : p.length ≤ 1048576 := by omega
    refine sk (sq (rg ?_))
    refine z ?_ (h := fun ν => acts_load_owns (xs := [(.slv l.length 1 (isl l) : A)]) ν qW11_ti_24 rfl (by decide) rfl)
    refine z ?_ (h := fun ν => acts_call1 ν (laws_toRegion_fn l (by omega)) (ac (ArgV.regv _ _ 1 _) an) (ResV.reg _ _ _ _ 29))
    refine zm ?_
    refine z ?_ (h := fun ν => acts_call1 ν (laws_toDominoS_fn p (by omega)) (ac (ArgV.slv _ _ _ _) an) (ResV.row _ _ _ _ 31))
    refine zm ?_
    refine z ?_ (h := fun ν => acts_call1 ν (laws_toDominoS_fn q (by omega)) (ac (ArgV.slv _ _ _ _) an) (ResV.row _ _ _ _ 33))
    refine z ?_ (h := fun ν => acts_callO (d := 34) (f := 8) (os := [(.o 29, some (.o ⟨3, 1, true, pl (isl l)⟩)), (.o 31, some (.o ⟨62, 3, true, pl (dsl p)⟩)), (.o 33, some (.o ⟨62, 3, true, pl (dsl q)⟩))]) (os' := [(.o 29, some (.o ⟨3, 1, true, pl (isl l)⟩)), (.o 31, some (.o ⟨62, 3, true, pl (dsl p)⟩)), (.o 33, some (.o ⟨62, 3, true, pl (dsl q)⟩))]) (r := V.v (.int .i64 (fdR l p q))) (bs := [.agg [(.sl 29 0 l.length : A)], .a (.sl 31 0 p.length), .a (.sl 33 0 q.length)]) (keep := [29, 31, 33]) (new := []) (dead := []) ν (FnO.ren' (spec_FlipDistance_fn_o l p q (by omega) (by omega) (by omega)) (subst1 [(800, 29), (801, 31), (802, 33)]) rfl rfl (by kernel_rfl) (by kernel_rfl) ⟨oc_pl (fun _ => rfl), oc_pl (fun _ => rfl), oc_pl (fun _ => rfl), trivial⟩ (by kernel_rfl) rfl (by simp only [renS, Ob.ren, pl_ren, rws_ren_doms, rws_ren_ints, rws_ren_cels, rwI_ren, rwD_ren]; first | done | rfl) (by simp only [renS, Ob.ren, pl_ren, rws_ren_doms, rws_ren_ints, rws_ren_cels, rwI_ren, rwD_ren]; first | done | rfl) rfl rfl) (by kernel_rfl) ⟨oc_pl (fun _ => rfl), oc_pl (fun _ => rfl), oc_pl (fun _ => rfl), trivial⟩ (by kernel_rfl) (ArgOs.cons (ArgO.slot 29 (.agg [(.sl 29 0 l.length : A)])) (ArgOs.cons (ArgO.slot 31 (.a (.sl 31 0 p.length))) (ArgOs.cons (ArgO.slot 33 (.a (.sl 33 0 q.length))) (ArgOs.nil)))))
    refine za (nl (sq (rg ?_)))
    refine z ?_ (h := fun ν => acts_load_owns (xs := [(.slv l.length 1 (isl l) : A)]) ν qW11_ti_24 rfl (by decide) rfl)
    refine z ?_ (h := fun ν => acts_call1 ν (laws_toRegion_fn l (by omega)) (ac (ArgV.regv _ _ 1 _) an) (ResV.reg _ _ _ _ 36))
    refine z ?_ (h := fun ν => acts_alloc' (h := 9) (cap := 1) (s := 1) (cells := [(.val (.slice none 0 0) : A)]) ν qW11_zi_29 rfl rfl (by decide))
    refine z ?_ (h := fun _ => acts_store (cells := [(.sl 36 0 l.length : A)]) qW11_ti_29 xt (by exact rfl) (by decide) (by exact ob1 rfl) (by exact Nat.le_of_ble_eq_true rfl) (by exact rfl))
    refine nl (sq (rg (zm ?_)))
    refine z ?_ (h := fun ν => acts_call1 ν (laws_toDominoS_fn p (by omega)) (ac (ArgV.slv _ _ _ _) an) (ResV.row _ _ _ _ 38))
    refine za (nl (sq (rg (zm ?_))))
    refine z ?_ (h := fun ν => acts_call1 ν (laws_toDominoS_fn q (by omega)) (ac (ArgV.slv _ _ _ _) an) (ResV.row _ _ _ _ 40))
    refine za (nl (sq (rg ?_)))
    refine z ?_ (h := fun ν => acts_load_owns (xs := [(.sl 36 0 l.length : A)]) ν qW11_ti_29 rfl (by decide) rfl)
    refine zm (zm ?_)
    refine z ?_ (h := fun ν => acts_callO (d := 44) (f := 11) (os := [(.o 36, some (.o ⟨3, 1, true, pl (isl l)⟩)), (.o 38, some (.o ⟨62, 3, true, pl (dsl p)⟩)), (.o 40, some (.o ⟨62, 3, true, pl (dsl q)⟩))]) (os' := [(.o 36, some (.o ⟨3, 1, true, pl (isl l)⟩)), (.o 38, some (.o ⟨62, 3, true, pl (dsl p)⟩)), (.o 40, some (.o ⟨62, 3, true, pl (dsl q)⟩))]) (r := V.v (.int .i64 (fdR l p q))) (bs := [.agg [(.sl 36 0 l.length : A)], .a (.sl 38 0 p.length), .a (.sl 40 0 q.length)]) (keep := [36, 38, 40]) (new := []) (dead := []) ν (FnO.ren' (impl_FlipDistance_fn_o l p q (by omega) (by omega) (by omega)) (subst1 [(800, 36), (801, 38), (802, 40)]) rfl rfl (by kernel_rfl) (by kernel_rfl) ⟨oc_pl (fun _ => rfl), oc_pl (fun _ => rfl), oc_pl (fun _ => rfl), trivial⟩ (by kernel_rfl) rfl (by simp only [renS, Ob.ren, pl_ren, rws_ren_doms, rws_ren_ints, rws_ren_cels, rwI_ren, rwD_ren]; first | done | rfl) (by simp only [renS, Ob.ren, pl_ren, rws_ren_doms, rws_ren_ints, rws_ren_cels, rwI_ren, rwD_ren]; first | done | rfl) rfl rfl) (by kernel_rfl) ⟨oc_pl (fun _ => rfl), oc_pl (fun _ => rfl), oc_pl (fun _ => rfl), trivial⟩ (by kernel_rfl) (ArgOs.cons (ArgO.slot 41 (.agg [(.sl 36 0 l.length : A)])) (ArgOs.cons (ArgO.slot 42 (.a (.sl 38 0 p.length))) (ArgOs.cons (ArgO.slot 43 (.a (.sl 40 0 q.length))) (ArgOs.nil)))))
    refine za (nl (sq (sq (rg (zm (zm ?_))))))
    refine z ?_ (h := fun ν => acts_bin ν vt vt (r_neq rfl))
    refine nl ?_
    refine wi (fun c4 => ?_) (fun c4 => ?_)
    ·skip
     have c4P := of_decide_eq_true c4
     refine sq (rg (zk (nl (wp_ret' ?_))))
     exact VRes.tmp _ _ _ (by exact rfl) (bval (congrArg Value.bool (by (exfalso; omega))))
    ·skip
     have c4P := of_decide_eq_false c4
     refine sk (sq (sq (wp_dr ?_)))
     refine zd ?_ (h := fun ν => acts_load_owns (xs := [(.sl 36 0 l.length : A)]) ν qW11_ti_29 rfl (by decide) rfl)
     refine zd ?_ (h := fun ν => acts_load_owns (xs := [(.slv l.length 1 (isl l) : A)]) ν qW11_ti_24 rfl (by decide) rfl)
     refine zd ?_ (h := fun ν => acts_call1 ν (laws_toRegion_fn l (by omega)) (ac (ArgV.regv _ _ 1 _) an) (ResV.reg _ _ _ _ 50))
     refine zd ?_ (h := fun ν => acts_call1 ν (laws_eqRegion_fn l l (by omega) (by omega)) (ac (ArgV.reg _ _ _ (s := 1) (by simp [isl]) (by exact List.take_of_length_le (by simp [isl]))) (ac (ArgV.reg _ _ _ (s := 1) (by simp [isl]) (by exact List.take_of_length_le (by simp [isl]))) an)) rv)
     refine zd ?_ (h := fun ν => acts_un ν vt (r_not rfl))
     refine dw_nil ?_
     refine wi (b := (!(decide (l = l)))) (fun c5 => ?_) (fun c5 => ?_)
     ·skip
      have c6 : decide (l = l) = false := by first | (rw [← Bool.not_eq_true']; exact c5) | simpa using c5
      have c6P := of_decide_eq_false c6
      refine sq (rg (zk (nl (wp_ret' ?_))))
      exact VRes.tmp _ _ _ (by exact rfl) (bval (congrArg Value.bool (by exact absurd (Eq.refl l) (by assumption))))
     ·skip
      have c7 : decide (l = l) = true := by first | (rw [← Bool.not_eq_false']; exact c5) | simpa using c5
      have c7P := of_decide_eq_true c7
      refine sk (sq (sq (rg (zm (zm ?_)))))
      refine z ?_ (h := fun ν => acts_call1 ν (laws_toDominoS_fn p (by omega)) (ac (ArgV.slv _ _ _ _) an) (ResV.row _ _ _ _ 55))
      refine z ?_ (h := fun ν => acts_call1 ν (laws_eqDominoS_fn p p (by omega) (by omega)) (ac (argv_own (by exact dsl_len _)) (ac (argv_own (by exact dsl_len _)) an)) rv)
      refine z ?_ (h := fun ν => acts_un ν vt (r_not rfl))
      refine nl ?_
      refine wi (b := (!(decide (p = p)))) (fun c8 => ?_) (fun c8 => ?_)
      ·skip
       have c9 : decide (p = p) = false := by first | (rw [← Bool.not_eq_true']; exact c8) | simpa using c8
       have c9P := of_decide_eq_false c9
       refine sq (rg (zk (nl (wp_ret' ?_))))
       exact VRes.tmp _ _ _ (by exact rfl) (bval (congrArg Value.bool (by exact absurd (Eq.refl p) (by assumption))))
      ·skip
       have c10 : decide (p = p) = true := by first | (rw [← Bool.not_eq_false']; exact c8) | simpa using c8
       have c10P := of_decide_eq_true c10
       refine sk (sq (sq (rg (zm (zm ?_)))))
       refine z ?_ (h := fun ν => acts_call1 ν (laws_toDominoS_fn q (by omega)) (ac (ArgV.slv _ _ _ _) an) (ResV.row _ _ _ _ 60))
       refine z ?_ (h := fun ν => acts_call1 ν (laws_eqDominoS_fn q q (by omega) (by omega)) (ac (argv_own (by exact dsl_len _)) (ac (argv_own (by exact dsl_len _)) an)) rv)
       refine z ?_ (h := fun ν => acts_un ν vt (r_not rfl))
       refine nl ?_
       refine wi (b := (!(decide (q = q)))) (fun c11 => ?_) (fun c11 => ?_)
       ·skip
        have c12 : decide (q = q) = false := by first | (rw [← Bool.not_eq_true']; exact c11) | simpa using c11
        have c12P := of_decide_eq_false c12
        refine sq (rg (zk (nl (wp_ret' ?_))))
        exact VRes.tmp _ _ _ (by exact rfl) (bval (congrArg Value.bool (by exact absurd (Eq.refl q) (by assumption))))
       ·skip
        have c13 : decide (q = q) = true := by first | (rw [← Bool.not_eq_false']; exact c11) | simpa using c11
        have c13P := of_decide_eq_true c13
        refine sk (sq (rg (zk (nl (wp_ret' ?_)))))
        exact VRes.tmp _ _ _ (by exact rfl) (BRes.val _)

set_option maxHeartbeats 4000000 in
set_option maxRecDepth 100000 in
theorem laws_FnExactFlipWay_fn (l : List Int) (p q : List Dom) (hl : l.length ≤ 9223372036854775807) (hp : p.length ≤ 9223372036854775807) (hq : q.length ≤ 9223372036854775807) : Fn Tryz.prog 4 [.agg [(.slv l.length 1 (isl l) : A)], .a (.slv p.length 3 (dsl p)), .a (.slv q.length 3 (dsl q))] [.val (.bool true)] := by
 have hfd := fdR_bd l p q
 have hfw := fwR_len l p q
 have hcl : (mkCs 1 (fwR l p q).length).length = (fwR l p q).length := mkCs_len _ _
 have hch : mkCs 1 (fwR l p q).length = mkCs 1 (mkCs 1 (fwR l p q).length).length := by rw [mkCs_len]
 have hml : (mkDs (1 + (l.length : Int)) p.length).length = p.length := mkDs_len _ _
 have hml2 : (mkDs (1 + (l.length : Int) + 3 * (p.length : Int)) q.length).length = q.length := mkDs_len _ _
 refine fn_intro (N := 142) Tryz.func4 rfl (by kernel_rfl) rfl (Nat.le_of_ble_eq_true rfl) [3, 10, 22, 27, 32, 37, 39, 41, 42, 46, 48, 50, 55, 60, 69, 70, 74, 75, 79, 80, 84, 87, 90, 96, 106, 109, 117, 119, 121, 122, 127, 136] (ret1 rfl) (fun W => ?_)
 show Wp _ _ _ [kV 0 (V.b (.agg [(.slv l.length 1 (isl l) : A)])), kV 1 (V.b (.a (.slv p.length 3 (dsl p)))), kV 2 (V.b (.a (.slv q.length 3 (dsl q)))), kF 3, kF 10, kF 22, kF 27, kF 32, kF 37, kF 39, kF 41, kF 42, kF 46, kF 48, kF 50, kF 55, kF 60, kF 69, kF 70, kF 74, kF 75, kF 79, kF 80, kF 84, kF 87, kF 90, kF 96, kF 106, kF 109, kF 117, kF 119, kF 121, kF 122, kF 127, kF 136]
 refine sq (rg ?_)
 refine z ?_ (h := fun ν => acts_box (h := 3) ν xt (by exact ob1 rfl))
 refine zk (nl (sq (rg (zk (nl (sq (rg ?_)))))))
 refine z ?_ (h := fun ν => acts_load_owns (xs := [(.slv l.length 1 (isl l) : A)]) ν qW11_ti_24 rfl (by decide) rfl)
 refine zm ?_
 refine z ?_ (h := fun ν => acts_call1 ν (laws_szRegion_fn l 1048576 (by omega) (by omega)) (ac (ArgV.regv _ _ 1 _) (ac (ArgV.v vt) an)) rv)
 refine za (nl (sq (sq (rg (zm ?_)))))
 refine z ?_ (h := fun ν => acts_bin ν vt vc (r_lss rfl))
 refine nl ?_
 refine wi (fun c1 => ?_) (fun c1 => ?_)
 ·skip
  have c1P := of_decide_eq_true c1
  refine sq (rg (zk (nl (wp_ret' ?_))))
  exact VRes.tmp _ _ _ (by exact rfl) (BRes.val _)
 ·skip
  have c1P := of_decide_eq_false c1
  have hsc := szS_cases 1048576 l.length
  have hA : l.length ≤ 4194304 := by omega
  refine sk (sq (rg (zm (zm ?_))))
  refine z ?_ (h := fun ν => acts_call1 ν (laws_szDominoS_fn p (szS 1048576 l.length) (by omega) (by omega)) (ac (ArgV.slv _ _ _ _) (ac (ArgV.v vt) an)) rv)
  refine za (nl (sq (sq (rg (zm ?_)))))
  refine z ?_ (h := fun ν => acts_bin ν vt vc (r_lss rfl))
  refine nl ?_
  refine wi (fun c2 => ?_) (fun c2 => ?_)
  ·skip
   have c2P := of_decide_eq_true c2
   refine sq (rg (zk (nl (wp_ret' ?_))))
   exact VRes.tmp _ _ _ (by exact rfl) (BRes.val _)
  ·skip
   have c2P := of_decide_eq_false c2
   have hsc2 := szS_cases (szS 1048576 l.length) p.length
   have hB : p.length ≤ 1048576 := by omega
   have hA1 : l.length ≤ 1048576 := by omega
   refine sk (sq (rg (zm (zm ?_))))
   refine z ?_ (h := fun ν => acts_call1 ν (laws_szDominoS_fn q (szS (szS 1048576 l.length) p.length) (by omega) (by omega)) (ac (ArgV.slv _ _ _ _) (ac (ArgV.v vt) an)) rv)
   refine za (nl (sq (sq (rg (zm ?_)))))
   refine z ?_ (h := fun ν => acts_bin ν vt vc (r_lss rfl))
   refine nl ?_
   refine wi (fun c3 => ?_) (fun c3 => ?_)
   ·skip
    have c3P := of_decide_eq_true c3
    refine sq (rg (zk (nl (wp_ret' ?_))))
    exact VRes.tmp _ _ _ (by exact rfl) (BRes.val _)
   ·skip
    have c3P := of_decide_eq_false c3
    have hsc3 := szS_cases (szS (szS 1048576 l.length) p.length) q.length
    have hB3 : q.length ≤ 1048576 := by omega
    have hA2 : l.length ≤ 1048576 := by omega
    have hB2 : p.length ≤ 1048576 := by omega
    refine sk (sq (rg ?_))
    refine z ?_ (h := fun ν => acts_load_owns (xs := [(.slv l.length 1 (isl l) : A)]) ν qW11_ti_24 rfl (by decide) rfl)
    refine z ?_ (h := fun ν => acts_call1 ν (laws_toRegion_fn l (by omega)) (ac (ArgV.regv _ _ 1 _) an) (ResV.reg _ _ _ _ 37))
    refine zm ?_
    refine z ?_ (h := fun ν => acts_call1 ν (laws_toDominoS_fn p (by omega)) (ac (ArgV.slv _ _ _ _) an) (ResV.row _ _ _ _ 39))
    refine zm ?_
    refine z ?_ (h := fun ν => acts_call1 ν (laws_toDominoS_fn q (by omega)) (ac (ArgV.slv _ _ _ _) an) (ResV.row _ _ _ _ 41))
    refine z ?_ (h := fun ν => acts_callO (d := 42) (f := 14) (os := [(.o 37, some (.o ⟨3, 1, true, pl (isl l)⟩)), (.o 39, some (.o ⟨62, 3, true, pl (dsl p)⟩)), (.o 41, some (.o ⟨62, 3, true, pl (dsl q)⟩))]) (os' := [(.o 37, some (.o ⟨3, 1, true, pl (isl l)⟩)), (.o 39, some (.o ⟨62, 3, true, pl (dsl p)⟩)), (.o 41, some (.o ⟨62, 3, true, pl (dsl q)⟩)), (.o 10, some (.o ⟨70, 2, true, pl (csl (fwR l p q))⟩))]) (r := V.tup [.a (.sl 10 0 ((fwR l p q).length)), .a (.val (.bool (fwB (fdR l p q))))]) (bs := [.agg [(.sl 37 0 l.length : A)], .a (.sl 39 0 p.length), .a (.sl 41 0 q.length)]) (keep := [37, 39, 41]) (new := [10]) (dead := []) ν (FnO.ren' (spec_FlipWay_fn_o l p q (by omega) (by omega) (by omega)) (subst1 [(800, 37), (801, 39), (802, 41), (900, 10)]) rfl rfl (by kernel_rfl) (by kernel_rfl) ⟨oc_pl (fun _ => rfl), oc_pl (fun _ => rfl), oc_pl (fun _ => rfl), oc_pl (fun _ => rfl), trivial⟩ (by kernel_rfl) rfl (by simp only [renS, Ob.ren, pl_ren, rws_ren_doms, rws_ren_ints, rws_ren_cels, rwI_ren, rwD_ren]; first | done | rfl) (by simp only [renS, Ob.ren, pl_ren, rws_ren_doms, rws_ren_ints, rws_ren_cels, rwI_ren, rwD_ren]; first | done | rfl) rfl rfl) (by kernel_rfl) ⟨oc_pl (fun _ => rfl), oc_pl (fun _ => rfl), oc_pl (fun _ => rfl), oc_pl (fun _ => rfl), trivial⟩ (by kernel_rfl) (ArgOs.cons (ArgO.slot 37 (.agg [(.sl 37 0 l.length : A)])) (ArgOs.cons (ArgO.slot 39 (.a (.sl 39 0 p.length))) (ArgOs.cons (ArgO.slot 41 (.a (.sl 41 0 q.length))) (ArgOs.nil)))))
    refine zm ?_
    refine z ?_ (h := fun ν => acts_extract ν (by exact rfl))
    refine z ?_ (h := fun ν => acts_extract ν (by exact rfl))
    refine za (za (nl (sq (rg ?_))))
    refine z ?_ (h := fun ν => acts_load_owns (xs := [(.slv l.length 1 (isl l) : A)]) ν qW11_ti_24 rfl (by decide) rfl)
    refine z ?_ (h := fun ν => acts_call1 ν (laws_toRegion_fn l (by omega)) (ac (ArgV.regv _ _ 1 _) an) (ResV.reg _ _ _ _ 46))
    refine z ?_ (h := fun ν => acts_alloc' (h := 22) (cap := 1) (s := 1) (cells := [(.val (.slice none 0 0) : A)]) ν qW11_zi_29 rfl rfl (by decide))
    refine z ?_ (h := fun _ => acts_store (cells := [(.sl 46 0 l.length : A)]) qW11_ti_29 xt (by exact rfl) (by decide) (by exact ob1 rfl) (by exact Nat.le_of_ble_eq_true rfl) (by exact rfl))
    refine nl (sq (rg (zm ?_)))
    refine z ?_ (h := fun ν => acts_call1 ν (laws_toDominoS_fn p (by omega)) (ac (ArgV.slv _ _ _ _) an) (ResV.row _ _ _ _ 48))
    refine za (nl (sq (rg (zm ?_))))
    refine z ?_ (h := fun ν => acts_call1 ν (laws_toDominoS_fn q (by omega)) (ac (ArgV.slv _ _ _ _) an) (ResV.row _ _ _ _ 50))
    refine za (nl (sq (rg ?_)))
    refine z ?_ (h := fun ν => acts_load_owns (xs := [(.sl 46 0 l.length : A)]) ν qW11_ti_29 rfl (by decide) rfl)
    refine zm (zm ?_)
    refine z ?_ (h := fun ν => acts_callO (d := 55) (f := 15) (os := [(.o 46, some (.o ⟨3, 1, true, pl (isl l)⟩)), (.o 48, some (.o ⟨62, 3, true, pl (dsl p)⟩)), (.o 50, some (.o ⟨62, 3, true, pl (dsl q)⟩))]) (os' := [(.o 46, some (.o ⟨3, 1, true, pl (isl l)⟩)), (.o 48, some (.o ⟨62, 3, true, pl (dsl p)⟩)), (.o 50, some (.o ⟨62, 3, true, pl (dsl q)⟩)), (.o 27, some (.o ⟨70, 2, true, pl (csl (fwR l p q))⟩))]) (r := V.tup [.a (.sl 27 0 ((fwR l p q).length)), .a (.val (.bool (fwB (fdR l p q))))]) (bs := [.agg [(.sl 46 0 l.length : A)], .a (.sl 48 0 p.length), .a (.sl 50 0 q.length)]) (keep := [46, 48, 50]) (new := [27]) (dead := []) ν (FnO.ren' (impl_FlipWay_fn_o l p q (by omega) (by omega) (by omega)) (subst1 [(800, 46), (801, 48), (802, 50), (900, 27)]) rfl rfl (by kernel_rfl) (by kernel_rfl) ⟨oc_pl (fun _ => rfl), oc_pl (fun _ => rfl), oc_pl (fun _ => rfl), oc_pl (fun _ => rfl), trivial⟩ (by kernel_rfl) rfl (by simp only [renS, Ob.ren, pl_ren, rws_ren_doms, rws_ren_ints, rws_ren_cels, rwI_ren, rwD_ren]; first | done | rfl) (by simp only [renS, Ob.ren, pl_ren, rws_ren_doms, rws_ren_ints, rws_ren_cels, rwI_ren, rwD_ren]; first | done | rfl) rfl rfl) (by kernel_rfl) ⟨oc_pl (fun _ => rfl), oc_pl (fun _ => rfl), oc_pl (fun _ => rfl), oc_pl (fun _ => rfl), trivial⟩ (by kernel_rfl) (ArgOs.cons (ArgO.slot 52 (.agg [(.sl 46 0 l.length : A)])) (ArgOs.cons (ArgO.slot 53 (.a (.sl 48 0 p.length))) (ArgOs.cons (ArgO.slot 54 (.a (.sl 50 0 q.length))) (ArgOs.nil)))))
    refine zm ?_
    refine z ?_ (h := fun ν => acts_extract ν (by exact rfl))
    refine z ?_ (h := fun ν => acts_extract ν (by exact rfl))
    refine za (za (nl (sq (sq ?_))))
    rcases Bool.eq_false_or_eq_true ((decide ((fwR l p q) = (fwR l p q)))) with c4 | c4
    ·skip
     refine rg (zm (zm ?_))
     refine z ?_ (h := fun ν => acts_call1 ν (laws_eqCellS_fn (fwR l p q) (fwR l p q) (by omega) (by omega)) (ac (argv_own (by exact csl_len _)) (ac (argv_own (by exact csl_len _)) an)) (resval (congrArg Value.bool c4)))
     refine z ?_ (h := fun ν => acts_un ν vt (r_not (c := false) rfl))
     refine zm ?_
     refine zg ?_ (h := fun ν => step_on rfl rfl (mt ν))
     refine zg ?_ (h := fun ν => step_on rfl rfl (mt ν))
     refine zg ?_ (h := fun ν => step_on rfl rfl (acts_bin ν vt vt (r_bneq (c := (decide ((fwB (fdR l p q)) ≠ (fwB (fdR l p q))))) qW11_un_4 rfl)))
     refine z ?_ (h := fun ν => acts_pick_f ν vt xt)
     refine nl ?_
     refine wi (fun c5 => ?_) (fun c5 => ?_)
     ·skip
      have c5P := of_decide_eq_true c5
      refine sq (rg (zk (nl (wp_ret' ?_))))
      exact VRes.tmp _ _ _ (by exact rfl) (bval (congrArg Value.bool (by exact absurd (Eq.refl (fwB (fdR l p q))) (by assumption))))
     ·skip
      have c5P := of_decide_eq_false c5
      refine sk (sq (sq (wp_dr ?_)))
      refine zd ?_ (h := fun ν => acts_load_owns (xs := [(.sl 46 0 l.length : A)]) ν qW11_ti_29 rfl (by decide) rfl)
      refine zd ?_ (h := fun ν => acts_load_owns (xs := [(.slv l.length 1 (isl l) : A)]) ν qW11_ti_24 rfl (by decide) rfl)
      refine zd ?_ (h := fun ν => acts_call1 ν (laws_toRegion_fn l (by omega)) (ac (ArgV.regv _ _ 1 _) an) (ResV.reg _ _ _ _ 69))
      refine zd ?_ (h := fun ν => acts_call1 ν (laws_eqRegion_fn l l (by omega) (by omega)) (ac (ArgV.reg _ _ _ (s := 1) (by simp [isl]) (by exact List.take_of_length_le (by simp [isl]))) (ac (ArgV.reg _ _ _ (s := 1) (by simp [isl]) (by exact List.take_of_length_le (by simp [isl]))) an)) rv)
      refine zd ?_ (h := fun ν => acts_un ν vt (r_not rfl))
      refine dw_nil ?_
      refine wi (b := (!(decide (l = l)))) (fun c6 => ?_) (fun c6 => ?_)
      ·skip
       have c7 : decide (l = l) = false := by first | (rw [← Bool.not_eq_true']; exact c6) | simpa using c6
       have c7P := of_decide_eq_false c7
       refine sq (rg (zk (nl (wp_ret' ?_))))
       exact VRes.tmp _ _ _ (by exact rfl) (bval (congrArg Value.bool (by exact absurd (Eq.refl l) (by assumption))))
      ·skip
       have c8 : decide (l = l) = true := by first | (rw [← Bool.not_eq_false']; exact c6) | simpa using c6
       have c8P := of_decide_eq_true c8
       refine sk (sq (sq (rg (zm (zm ?_)))))
       refine z ?_ (h := fun ν => acts_call1 ν (laws_toDominoS_fn p (by omega)) (ac (ArgV.slv _ _ _ _) an) (ResV.row _ _ _ _ 74))
       refine z ?_ (h := fun ν => acts_call1 ν (laws_eqDominoS_fn p p (by omega) (by omega)) (ac (argv_own (by exact dsl_len _)) (ac (argv_own (by exact dsl_len _)) an)) rv)
       refine z ?_ (h := fun ν => acts_un ν vt (r_not rfl))
       refine nl ?_
       refine wi (b := (!(decide (p = p)))) (fun c9 => ?_) (fun c9 => ?_)
       ·skip
        have c10 : decide (p = p) = false := by first | (rw [← Bool.not_eq_true']; exact c9) | simpa using c9
        have c10P := of_decide_eq_false c10
        refine sq (rg (zk (nl (wp_ret' ?_))))
        exact VRes.tmp _ _ _ (by exact rfl) (bval (congrArg Value.bool (by exact absurd (Eq.refl p) (by assumption))))
       ·skip
        have c11 : decide (p = p) = true := by first | (rw [← Bool.not_eq_false']; exact c9) | simpa using c9
        have c11P := of_decide_eq_true c11
        refine sk (sq (sq (rg (zm (zm ?_)))))
        refine z ?_ (h := fun ν => acts_call1 ν (laws_toDominoS_fn q (by omega)) (ac (ArgV.slv _ _ _ _) an) (ResV.row _ _ _ _ 79))
        refine z ?_ (h := fun ν => acts_call1 ν (laws_eqDominoS_fn q q (by omega) (by omega)) (ac (argv_own (by exact dsl_len _)) (ac (argv_own (by exact dsl_len _)) an)) rv)
        refine z ?_ (h := fun ν => acts_un ν vt (r_not rfl))
        refine nl ?_
        refine wi (b := (!(decide (q = q)))) (fun c12 => ?_) (fun c12 => ?_)
        ·skip
         have c13 : decide (q = q) = false := by first | (rw [← Bool.not_eq_true']; exact c12) | simpa using c12
         have c13P := of_decide_eq_false c13
         refine sq (rg (zk (nl (wp_ret' ?_))))
         exact VRes.tmp _ _ _ (by exact rfl) (bval (congrArg Value.bool (by exact absurd (Eq.refl q) (by assumption))))
        ·skip
         have c14 : decide (q = q) = true := by first | (rw [← Bool.not_eq_false']; exact c12) | simpa using c12
         have c14P := of_decide_eq_true c14
         refine sk (sq (rg (zk (nl (sq (rg ?_))))))
         refine z ?_ (h := fun ν => acts_load_owns (xs := [(.sl 46 0 l.length : A)]) ν qW11_ti_29 rfl (by decide) rfl)
         refine zm ?_
         refine z ?_ (h := fun ν => acts_callO (d := 84) (f := 17) (os := [(.o 46, some (.o ⟨3, 1, true, pl (isl l)⟩))]) (os' := [(.o 46, some (.o ⟨3, 1, true, pl (isl (cntI 1 l.length))⟩))]) (r := V.v (.int .i64 (1 + (l.length : Int)))) (bs := [.agg [(.sl 46 0 l.length : A)], .a (.val (.int .i64 1))]) (keep := [46]) (new := []) (dead := []) ν (FnO.ren' (laws_markRegion_fn l 1 (by omega) (by omega)) (subst1 [(1, 46)]) rfl rfl (by kernel_rfl) (by kernel_rfl) ⟨oc_pl (fun _ => rfl), trivial⟩ (by kernel_rfl) rfl (by simp only [renS, Ob.ren, pl_ren, rws_ren_doms, rws_ren_ints, rws_ren_cels, rwI_ren, rwD_ren]; first | done | rfl) (by simp only [renS, Ob.ren, pl_ren, rws_ren_doms, rws_ren_ints, rws_ren_cels, rwI_ren, rwD_ren]; first | done | rfl) rfl rfl) (by kernel_rfl) ⟨oc_pl (fun _ => rfl), trivial⟩ (by kernel_rfl) (ArgOs.cons (ArgO.slot 82 (.agg [(.sl 46 0 l.length : A)])) (ArgOs.cons ((ArgO.v vt)) (ArgOs.nil))))
         refine za (nl (sq (rg (zm (zm ?_)))))
         refine z ?_ (h := fun ν => acts_callO (d := 87) (f := 18) (os := [(.o 48, some (.o ⟨62, 3, true, pl (dsl p)⟩))]) (os' := [(.o 48, some (.o ⟨62, 3, true, pl (dsl (mkDs (1 + (l.length : Int)) p.length))⟩))]) (r := V.v (.int .i64 ((1 + (l.length : Int)) + 3 * (p.length : Int)))) (bs := [.a (.sl 48 0 p.length), .a (.val (.int .i64 (1 + (l.length : Int))))]) (keep := [48]) (new := []) (dead := []) ν (FnO.ren' (laws_markDominoS_fn p (1 + (l.length : Int)) (by omega) (by omega)) (subst1 [(1, 48)]) rfl rfl (by kernel_rfl) (by kernel_rfl) ⟨oc_pl (fun _ => rfl), trivial⟩ (by kernel_rfl) rfl (by simp only [renS, Ob.ren, pl_ren, rws_ren_doms, rws_ren_ints, rws_ren_cels, rwI_ren, rwD_ren]; first | done | rfl) (by simp only [renS, Ob.ren, pl_ren, rws_ren_doms, rws_ren_ints, rws_ren_cels, rwI_ren, rwD_ren]; first | done | rfl) rfl rfl) (by kernel_rfl) ⟨oc_pl (fun _ => rfl), trivial⟩ (by kernel_rfl) (ArgOs.cons (ArgO.slot 85 (.a (.sl 48 0 p.length))) (ArgOs.cons ((ArgO.v vt)) (ArgOs.nil))))
         refine za (nl (sq (rg (zm (zm ?_)))))
         refine z ?_ (h := fun ν => acts_callO (d := 90) (f := 18) (os := [(.o 50, some (.o ⟨62, 3, true, pl (dsl q)⟩))]) (os' := [(.o 50, some (.o ⟨62, 3, true, pl (dsl (mkDs ((1 + (l.length : Int)) + 3 * (p.length : Int)) q.length))⟩))]) (r := V.v (.int .i64 (((1 + (l.length : Int)) + 3 * (p.length : Int)) + 3 * (q.length : Int)))) (bs := [.a (.sl 50 0 q.length), .a (.val (.int .i64 ((1 + (l.length : Int)) + 3 * (p.length : Int))))]) (keep := [50]) (new := []) (dead := []) ν (FnO.ren' (laws_markDominoS_fn q ((1 + (l.length : Int)) + 3 * (p.length : Int)) (by omega) (by omega)) (subst1 [(1, 50)]) rfl rfl (by kernel_rfl) (by kernel_rfl) ⟨oc_pl (fun _ => rfl), trivial⟩ (by kernel_rfl) rfl (by simp only [renS, Ob.ren, pl_ren, rws_ren_doms, rws_ren_ints, rws_ren_cels, rwI_ren, rwD_ren]; first | done | rfl) (by simp only [renS, Ob.ren, pl_ren, rws_ren_doms, rws_ren_ints, rws_ren_cels, rwI_ren, rwD_ren]; first | done | rfl) rfl rfl) (by kernel_rfl) ⟨oc_pl (fun _ => rfl), trivial⟩ (by kernel_rfl) (ArgOs.cons (ArgO.slot 88 (.a (.sl 50 0 q.length))) (ArgOs.cons ((ArgO.v vt)) (ArgOs.nil))))
         refine za (nl (sq (sq ?_)))
         rcases Bool.eq_false_or_eq_true (decide ((((1 + (l.length : Int)) + 3 * (p.length : Int)) + 3 * (q.length : Int)) < 0)) with c15 | c15
         ·skip
          have c15P := of_decide_eq_true c15
          refine rg (zm ?_)
          refine z ?_ (h := fun ν => acts_bin ν vt vc (r_lss (c := true) c15))
          refine zm (zo (zo (zo (zo ?_))))
          refine z ?_ (h := fun ν => acts_pick_t ν vt xc)
          refine zm (zo (zo (zo ?_)))
          refine z ?_ (h := fun ν => acts_pick_t ν vt xc)
          refine nl (wt (sq (rg (zk (nl (wp_ret' ?_))))))
          exact VRes.tmp _ _ _ (by exact rfl) (bval (congrArg Value.bool (by (exfalso; omega))))
         ·skip
          have c15P := of_decide_eq_false c15
          refine rg (zm ?_)
          refine z ?_ (h := fun ν => acts_bin ν vt vc (r_lss (c := false) c15))
          refine zm ?_
          refine zg ?_ (h := fun ν => step_on rfl rfl (mt ν))
          refine zg ?_ (h := fun ν => step_on rfl rfl (mt ν))
          refine zg ?_ (h := fun ν => step_on rfl rfl (acts_call1 ν (laws_eqCellS_fn (fwR l p q) (fwR l p q) (by omega) (by omega)) (ac (argv_own (by exact csl_len _)) (ac (argv_own (by exact csl_len _)) an)) (resval (congrArg Value.bool c4))))
          refine zg ?_ (h := fun ν => step_on rfl rfl (acts_un ν vt (r_not (c := false) rfl)))
          refine z ?_ (h := fun ν => acts_pick_f ν vt xt)
          refine zm ?_
          refine zg ?_ (h := fun ν => step_on rfl rfl (mt ν))
          refine zg ?_ (h := fun ν => step_on rfl rfl (mt ν))
          refine zg ?_ (h := fun ν => step_on rfl rfl (acts_bin ν vt vt (r_bneq (c := false) qW11_un_4 c5)))
          refine z ?_ (h := fun ν => acts_pick_f ν vt xt)
          refine nl (wf (sk (sq (rg (zk (nl (sq (rg (zm (zm ?_))))))))))
          refine z ?_ (h := fun ν => acts_callO (d := 106) (f := 19) (os := [(.o 27, some (.o ⟨70, 2, true, pl (csl (fwR l p q))⟩))]) (os' := [(.o 27, some (.o ⟨70, 2, true, pl (csl (mkCs 1 (fwR l p q).length))⟩))]) (r := V.v (.int .i64 (1 + 2 * ((fwR l p q).length : Int)))) (bs := [.a (.sl 27 0 ((fwR l p q).length)), .a (.val (.int .i64 1))]) (keep := [27]) (new := []) (dead := []) ν (FnO.ren' (laws_markCellS_fn (fwR l p q) 1 (by omega) (by omega)) (subst1 [(1, 27)]) rfl rfl (by kernel_rfl) (by kernel_rfl) ⟨oc_pl (fun _ => rfl), trivial⟩ (by kernel_rfl) rfl (by simp only [renS, Ob.ren, pl_ren, rws_ren_doms, rws_ren_ints, rws_ren_cels, rwI_ren, rwD_ren]; first | done | rfl) (by simp only [renS, Ob.ren, pl_ren, rws_ren_doms, rws_ren_ints, rws_ren_cels, rwI_ren, rwD_ren]; first | done | rfl) rfl rfl) (by kernel_rfl) ⟨oc_pl (fun _ => rfl), trivial⟩ (by kernel_rfl) (ArgOs.cons (ArgO.slot 104 (.a (.sl 27 0 ((fwR l p q).length)))) (ArgOs.cons ((ArgO.v vt)) (ArgOs.nil))))
          refine za (nl (sq (rg (zk (nl (sq (rg (zm (zm ?_)))))))))
          refine z ?_ (h := fun ν => acts_call1 ν (laws_heldCellS_fn (mkCs 1 (fwR l p q).length) 1 (by omega) (by omega) (by omega)) (ac (argv_ownC (L := (mkCs 1 (fwR l p q).length)) (by rw [mkCs_len])) (ac (ArgV.v vt) an)) rv)
          refine za (nl (sq (sq (rg (zm ?_)))))
          refine z ?_ (h := fun ν => acts_bin ν vt vc (r_lss rfl))
          refine nl ?_
          refine wi (fun c16 => ?_) (fun c16 => ?_)
          ·skip
           have c16P := of_decide_eq_true c16
           refine sq (rg (zk (nl (wp_ret' ?_))))
           exact VRes.tmp _ _ _ (by exact rfl) (bval (congrArg Value.bool (by (exfalso; omega))))
          ·skip
           have c16P := of_decide_eq_false c16
           refine sk (sq (sq (rg (zm (zm ?_)))))
           refine z ?_ (h := fun ν => acts_bin ν vt vt (r_neq rfl))
           refine nl ?_
           refine wi (fun c17 => ?_) (fun c17 => ?_)
           ·skip
            have c17P := of_decide_eq_true c17
            refine sq (rg (zk (nl (wp_ret' ?_))))
            exact VRes.tmp _ _ _ (by exact rfl) (bval (congrArg Value.bool (by (exfalso; omega))))
           ·skip
            have c17P := of_decide_eq_false c17
            refine sk (sq (rg ?_))
            refine z ?_ (h := fun ν => acts_load_owns (xs := [(.slv l.length 1 (isl l) : A)]) ν qW11_ti_24 rfl (by decide) rfl)
            refine z ?_ (h := fun ν => acts_call1 ν (laws_toRegion_fn l (by omega)) (ac (ArgV.regv _ _ 1 _) an) (ResV.reg _ _ _ _ 117))
            refine zm ?_
            refine z ?_ (h := fun ν => acts_call1 ν (laws_toDominoS_fn p (by omega)) (ac (ArgV.slv _ _ _ _) an) (ResV.row _ _ _ _ 119))
            refine zm ?_
            refine z ?_ (h := fun ν => acts_call1 ν (laws_toDominoS_fn q (by omega)) (ac (ArgV.slv _ _ _ _) an) (ResV.row _ _ _ _ 121))
            refine z ?_ (h := fun ν => acts_callO (d := 122) (f := 15) (os := [(.o 117, some (.o ⟨3, 1, true, pl (isl l)⟩)), (.o 119, some (.o ⟨62, 3, true, pl (dsl p)⟩)), (.o 121, some (.o ⟨62, 3, true, pl (dsl q)⟩))]) (os' := [(.o 117, some (.o ⟨3, 1, true, pl (isl l)⟩)), (.o 119, some (.o ⟨62, 3, true, pl (dsl p)⟩)), (.o 121, some (.o ⟨62, 3, true, pl (dsl q)⟩)), (.o 32, some (.o ⟨70, 2, true, pl (csl (fwR l p q))⟩))]) (r := V.tup [.a (.sl 32 0 ((fwR l p q).length)), .a (.val (.bool (fwB (fdR l p q))))]) (bs := [.agg [(.sl 117 0 l.length : A)], .a (.sl 119 0 p.length), .a (.sl 121 0 q.length)]) (keep := [117, 119, 121]) (new := [32]) (dead := []) ν (FnO.ren' (impl_FlipWay_fn_o l p q (by omega) (by omega) (by omega)) (subst1 [(800, 117), (801, 119), (802, 121), (900, 32)]) rfl rfl (by kernel_rfl) (by kernel_rfl) ⟨oc_pl (fun _ => rfl), oc_pl (fun _ => rfl), oc_pl (fun _ => rfl), oc_pl (fun _ => rfl), trivial⟩ (by kernel_rfl) rfl (by simp only [renS, Ob.ren, pl_ren, rws_ren_doms, rws_ren_ints, rws_ren_cels, rwI_ren, rwD_ren]; first | done | rfl) (by simp only [renS, Ob.ren, pl_ren, rws_ren_doms, rws_ren_ints, rws_ren_cels, rwI_ren, rwD_ren]; first | done | rfl) rfl rfl) (by kernel_rfl) ⟨oc_pl (fun _ => rfl), oc_pl (fun _ => rfl), oc_pl (fun _ => rfl), oc_pl (fun _ => rfl), trivial⟩ (by kernel_rfl) (ArgOs.cons (ArgO.slot 117 (.agg [(.sl 117 0 l.length : A)])) (ArgOs.cons (ArgO.slot 119 (.a (.sl 119 0 p.length))) (ArgOs.cons (ArgO.slot 121 (.a (.sl 121 0 q.length))) (ArgOs.nil)))))
            refine zm ?_
            refine z ?_ (h := fun ν => acts_extract ν (by exact rfl))
            refine z ?_ (h := fun ν => acts_extract ν (by exact rfl))
            refine za (za (nl (sq (sq (rg (zm (zm ?_)))))))
            refine z ?_ (h := fun ν => acts_call1 ν (laws_eqCellS_fn (fwR l p q) (fwR l p q) (by omega) (by omega)) (ac (argv_own (by exact csl_len _)) (ac (argv_own (by exact csl_len _)) an)) (resval (congrArg Value.bool c4)))
            refine z ?_ (h := fun ν => acts_un ν vt (r_not (c := false) rfl))
            refine zm ?_
            refine zg ?_ (h := fun ν => step_on rfl rfl (mt ν))
            refine zg ?_ (h := fun ν => step_on rfl rfl (mt ν))
            refine zg ?_ (h := fun ν => step_on rfl rfl (acts_bin ν vt vt (r_bneq (c := false) qW11_un_4 c5)))
            refine z ?_ (h := fun ν => acts_pick_f ν vt xt)
            refine nl (wf (sk (sq (rg (zk (nl (sq (rg (zm (zm ?_))))))))))
            refine z ?_ (h := fun ν => acts_call1 ν (laws_heldCellS_fn (mkCs 1 (fwR l p q).length) 1 (by omega) (by omega) (by omega)) (ac (argv_ownC (L := (mkCs 1 (fwR l p q).length)) (by rw [mkCs_len])) (ac (ArgV.v vt) an)) rv)
            refine za (nl (sq (sq (rg (zm ?_)))))
            refine z ?_ (h := fun ν => acts_bin ν vt vc (r_lss (c := false) c16))
            refine nl (wf (sk (sq (sq (rg (zm (zm ?_)))))))
            refine z ?_ (h := fun ν => acts_bin ν vt vt (r_neq (c := false) c17))
            refine nl (wf (sk (sq (rg (zk (nl (wp_ret' ?_)))))))
            exact VRes.tmp _ _ _ (by exact rfl) (BRes.val _)
    ·skip
     refine rg (zm (zm ?_))
     refine z ?_ (h := fun ν => acts_call1 ν (laws_eqCellS_fn (fwR l p q) (fwR l p q) (by omega) (by omega)) (ac (argv_own (by exact csl_len _)) (ac (argv_own (by exact csl_len _)) an)) (resval (congrArg Value.bool c4)))
     refine z ?_ (h := fun ν => acts_un ν vt (r_not (c := true) rfl))
     refine zm (zo (zo (zo ?_)))
     refine z ?_ (h := fun ν => acts_pick_t ν vt xc)
     refine nl (wt (sq (rg (zk (nl (wp_ret' ?_))))))
     exact VRes.tmp _ _ _ (by exact rfl) (bval (congrArg Value.bool (by exact absurd ((decide_eq_true (Eq.refl (fwR l p q))).symm.trans (by assumption)) (by decide))))
end Cl
end Go.Proofs.YtgmkkfdnmdohlaaGreatDoor
