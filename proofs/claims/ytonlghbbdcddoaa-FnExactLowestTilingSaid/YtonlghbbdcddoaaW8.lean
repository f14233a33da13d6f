/- Walks over clean states, printed by wg.py. No statement is proved here. -/
import Derived.Test.YtonlghbbdcddoaaW3
import Derived.Test.YtonlghbbdcddoaaDoms
import Derived.Test.YtonlghbbdcddoaaCels
import Derived.Test.YtonlghbbdcddoaaClB
namespace Go.Proofs.Ytonlghbbdcddoaa
namespace Cl
open Go.ChangeShapes Go.WideShapes Go.ChangeAt Go.RowKit
set_option maxRecDepth 20000

theorem eqD_no {a b : List Dom} {k : Nat} (h : gD a k ≠ gD b k) : decide (a = b) = false := decide_eq_false fun e => h (by rw [e])
theorem eqD_yes {a b : List Dom} {k : Nat} (h : ∀ i, i < k → gD a i = gD b i) (hk : ¬ k < a.length) (hl : a.length = b.length) : decide (a = b) = true := decide_eq_true (List.ext_getElem hl fun i h1 h2 => by rw [← gD_eq h1, ← gD_eq h2]; exact h i (by omega))
theorem eqD_s {a b : List Dom} {k : Nat} (h : ∀ i, i < k → gD a i = gD b i) (h2 : gD a k = gD b k) : ∀ i, i < k + 1 → gD a i = gD b i := by
  intro i hi
  rcases Nat.lt_or_ge i k with h3 | h3
  · exact h i h3
  · rw [show i = k by omega]; exact h2
def mkF (v : Int) : Nat → Dom := fun i => ⟨v + 3 * (i : Int), v + 3 * (i : Int) + 1, decide ((v + 3 * (i : Int) + 1 + 1) % 3 = 0)⟩
def mkDs (v : Int) (n : Nat) : List Dom := (List.range n).map (mkF v)
theorem mkDs_len (v : Int) (n : Nat) : (mkDs v n).length = n := by simp [mkDs]
theorem mkDs_at {v : Int} {l : List Dom} (h : l = mkDs v l.length) {k : Nat} (hk : k < l.length) : gD l k = mkF v k := by
  rw [gD_eq hk]
  have h2 : k < (mkDs v l.length).length := by rw [mkDs_len]; exact hk
  have : l[k] = (mkDs v l.length)[k] := by congr 1
  rw [this]; simp [mkDs]
theorem gD_setE {l : List Dom} {k : Nat} {d : Dom} (h : k < l.length) : gD (l.set k d) k = d := by
  rw [gD_eq (by rw [List.length_set]; exact h)]; simp
theorem set_xyd {l : List Dom} {k : Nat} {a b : Int} {c : Bool} (h : k < l.length) :
    ((l.set k ⟨a, (gD l k).y, (gD l k).d⟩).set k ⟨(gD (l.set k ⟨a, (gD l k).y, (gD l k).d⟩) k).x, b, (gD (l.set k ⟨a, (gD l k).y, (gD l k).d⟩) k).d⟩).set k ⟨(gD ((l.set k ⟨a, (gD l k).y, (gD l k).d⟩).set k ⟨(gD (l.set k ⟨a, (gD l k).y, (gD l k).d⟩) k).x, b, (gD (l.set k ⟨a, (gD l k).y, (gD l k).d⟩) k).d⟩) k).x, (gD ((l.set k ⟨a, (gD l k).y, (gD l k).d⟩).set k ⟨(gD (l.set k ⟨a, (gD l k).y, (gD l k).d⟩) k).x, b, (gD (l.set k ⟨a, (gD l k).y, (gD l k).d⟩) k).d⟩) k).y, c⟩ = l.set k (⟨a, b, c⟩ : Dom) := by
  rw [gD_setE h, gD_setE (by rw [List.length_set]; exact h), List.set_set, List.set_set]
theorem qW8_fo_57_0 : fieldOff Try.prog 57 0 = some 0 := by kernel_rfl
theorem qW8_fo_57_1 : fieldOff Try.prog 57 1 = some 1 := by kernel_rfl
theorem qW8_fo_57_2 : fieldOff Try.prog 57 2 = some 2 := by kernel_rfl
theorem qW8_sz_57 : (Try.prog.info? 57).map (·.size) = some 3 := by kernel_rfl
theorem qW8_ti_3 : TI Try.prog 3 false 1 := ⟨⟨_, Try.underlying3, rfl⟩, by kernel_rfl⟩
theorem qW8_ti_4 : TI Try.prog 4 false 1 := ⟨⟨_, Try.underlying4, rfl⟩, by kernel_rfl⟩
theorem qW8_ti_57 : TI Try.prog 57 true 3 := ⟨⟨_, Try.underlying57, rfl⟩, by kernel_rfl⟩
theorem qW8_un_26 : Try.prog.underlying 26 = some (.slice 57) := Try.underlying26
theorem qW8_un_4 : Try.prog.underlying 4 = some .bool := Try.underlying4
set_option maxHeartbeats 4000000 in
set_option maxRecDepth 100000 in
theorem laws_eqDomino_fn (a b : Dom) : Fn Try.prog 32 [.agg ([vI a.x, vI a.y, .bool a.d].map A.val), .agg ([vI b.x, vI b.y, .bool b.d].map A.val)] [.val (.bool (decide (a = b)))] := by
 refine fn_intro (N := 20) Try.func32 rfl (by kernel_rfl) rfl (Nat.le_of_ble_eq_true rfl) [2, 3] (ret1 rfl) (fun W => ?_)
 show Wp _ _ _ [kV 0 (V.av [vI a.x, vI a.y, .bool a.d]), kV 1 (V.av [vI b.x, vI b.y, .bool b.d]), kF 2, kF 3]
 refine sq (rg ?_)
 refine z ?_ (h := fun ν => acts_box (h := 2) ν xt (by exact ob1 rfl))
 refine z ?_ (h := fun ν => acts_box (h := 3) ν xt (by exact ob1 rfl))
 refine zk (nl (sq (sq (rg ?_))))
 refine z ?_ (h := fun ν => acts_field (off' := 0) ν qW8_fo_57_0 rfl)
 refine z ?_ (h := fun ν => acts_load_own (x := .val (.int .i64 a.x)) ν qW8_ti_3 (by exact rfl))
 refine z ?_ (h := fun ν => acts_field (off' := 0) ν qW8_fo_57_0 rfl)
 refine z ?_ (h := fun ν => acts_load_own (x := .val (.int .i64 b.x)) ν qW8_ti_3 (by exact rfl))
 refine z ?_ (h := fun ν => acts_bin ν vt vt (r_neq rfl))
 refine nl ?_
 refine wi (fun c1 => ?_) (fun c1 => ?_)
 ·skip
  have c1P := of_decide_eq_true c1
  refine sq (rg (zk (nl (wp_ret' ?_))))
  exact VRes.tmp _ _ _ (by exact rfl) (bval (congrArg Value.bool (by exact Eq.symm (decide_eq_false (fun e => by subst e; simp_all)))))
 ·skip
  have c1P := of_decide_eq_false c1
  refine sk (sq (sq (rg ?_)))
  refine z ?_ (h := fun ν => acts_field (off' := 1) ν qW8_fo_57_1 rfl)
  refine z ?_ (h := fun ν => acts_load_own (x := .val (.int .i64 a.y)) ν qW8_ti_3 (by exact rfl))
  refine z ?_ (h := fun ν => acts_field (off' := 1) ν qW8_fo_57_1 rfl)
  refine z ?_ (h := fun ν => acts_load_own (x := .val (.int .i64 b.y)) ν qW8_ti_3 (by exact rfl))
  refine z ?_ (h := fun ν => acts_bin ν vt vt (r_neq rfl))
  refine nl ?_
  refine wi (fun c2 => ?_) (fun c2 => ?_)
  ·skip
   have c2P := of_decide_eq_true c2
   refine sq (rg (zk (nl (wp_ret' ?_))))
   exact VRes.tmp _ _ _ (by exact rfl) (bval (congrArg Value.bool (by exact Eq.symm (decide_eq_false (fun e => by subst e; simp_all)))))
  ·skip
   have c2P := of_decide_eq_false c2
   refine sk (sq (sq (rg ?_)))
   refine z ?_ (h := fun ν => acts_field (off' := 2) ν qW8_fo_57_2 rfl)
   refine z ?_ (h := fun ν => acts_load_own (x := .val (.bool a.d)) ν qW8_ti_4 (by exact rfl))
   refine z ?_ (h := fun ν => acts_field (off' := 2) ν qW8_fo_57_2 rfl)
   refine z ?_ (h := fun ν => acts_load_own (x := .val (.bool b.d)) ν qW8_ti_4 (by exact rfl))
   refine z ?_ (h := fun ν => acts_bin ν vt vt (r_bneq (c := (decide (a.d ≠ b.d))) qW8_un_4 rfl))
   refine nl ?_
   refine wi (fun c3 => ?_) (fun c3 => ?_)
   ·skip
    have c3P := of_decide_eq_true c3
    refine sq (rg (zk (nl (wp_ret' ?_))))
    exact VRes.tmp _ _ _ (by exact rfl) (bval (congrArg Value.bool (by exact Eq.symm (decide_eq_false (fun e => by subst e; simp_all)))))
   ·skip
    have c3P := of_decide_eq_false c3
    refine sk (sq (rg (zk (nl (wp_ret' ?_)))))
    exact VRes.tmp _ _ _ (by exact rfl) (bval (congrArg Value.bool (by exact Eq.symm (decide_eq_true (by cases a; cases b; simp_all)))))

set_option maxHeartbeats 4000000 in
set_option maxRecDepth 100000 in
theorem laws_eqDominoS_fn (a b : List Dom) (ha : a.length ≤ 4194304) (hb : b.length ≤ 4194304) : Fn Try.prog 10 [.a (.slv a.length 3 (dsl a)), .a (.slv b.length 3 (dsl b))] [.val (.bool (decide (a = b)))] := by
 refine fn_intro (N := 27) Try.func10 rfl (by kernel_rfl) rfl (Nat.le_of_ble_eq_true rfl) [7, 9, 13, 25] (ret1 rfl) (fun W => ?_)
 show Wp _ _ _ [kV 0 (V.b (.a (.slv a.length 3 (dsl a)))), kV 1 (V.b (.a (.slv b.length 3 (dsl b)))), kF 7, kF 9, kF 13, kF 25]
 refine sq (rg (zk (nl (sq (sq (rg (zm ?_)))))))
 refine z ?_ (h := fun ν => lnV ν qW8_un_26)
 refine zm ?_
 refine z ?_ (h := fun ν => lnV ν qW8_un_26)
 refine z ?_ (h := fun ν => acts_bin ν vt vt (r_neq rfl))
 refine nl ?_
 refine wi (fun c1 => ?_) (fun c1 => ?_)
 ·skip
  have c1P := of_decide_eq_true c1
  refine sq (rg (zk (nl (wp_ret' ?_))))
  exact VRes.tmp _ _ _ (by exact rfl) (bval (congrArg Value.bool (by exact (eq_len (by omega)).symm)))
 ·skip
  have c1P := of_decide_eq_false c1
  refine sk (sq (sq (rg (zk (nl (bkk ?_))))))
  refine wp_loop' (fun (k : Nat) => k ≤ a.length ∧ ∀ i, i < k → gD a i = gD b i) (fun (k : Nat) => [kV 0 (V.b (.a (.slv a.length 3 (dsl a)))), kV 1 (V.b (.a (.slv b.length 3 (dsl b)))), kI 5 ((k : Nat) : Int), kF 7, kF 9, kF 13, kF 25]) (fun (k : Nat) => a.length - k) ((0 : Nat)) (by exact ⟨Nat.zero_le _, fun i hi => absurd hi (Nat.not_lt_zero i)⟩) (wkf id (wS <| wS <| wE (e := (vint (by first | rfl | omega | (simp; done) | (simp; omega)))) <| wF <| wF <| wF <| wF <| wN)) ?_
  rintro k inv2
  replace inv2 : k ≤ a.length ∧ ∀ i, i < k → gD a i = gD b i := inv2
  obtain ⟨inv2_0, inv2_1⟩ := inv2
  refine sq (sq (rg (zm (zm ?_))))
  refine z ?_ (h := fun ν => lnV ν qW8_un_26)
  refine z ?_ (h := fun ν => acts_bin ν vt vt (r_lss rfl))
  refine nl ?_
  refine wi (fun c3 => ?_) (fun c3 => ?_)
  ·skip
   have c3P := of_decide_eq_true c3
   refine sk (sq (bkk (sq (wp_dr (zdm (zdm ?_))))))
   refine zd ?_ (h := fun ν => ixv ν qW8_un_26 qW8_sz_57 vt)
   refine zd ?_ (h := fun ν => uD ν qW8_ti_57)
   refine zdm (zdm ?_)
   refine zd ?_ (h := fun ν => ixv ν qW8_un_26 qW8_sz_57 vt)
   refine zd ?_ (h := fun ν => uD ν qW8_ti_57)
   refine zd ?_ (h := fun ν => acts_call1 ν (laws_eqDomino_fn (gD a k) (gD b k) ) (ac (ArgV.va va) (ac (ArgV.va va) an)) rv)
   refine zd ?_ (h := fun ν => acts_un ν vt (r_not rfl))
   refine dw_nil ?_
   refine wi (b := (!(decide ((gD a k) = (gD b k))))) (fun c4 => ?_) (fun c4 => ?_)
   ·skip
    have c5 : decide ((gD a k) = (gD b k)) = false := by first | (rw [← Bool.not_eq_true']; exact c4) | simpa using c4
    have c5P := of_decide_eq_false c5
    refine sq (rg (zk (nl (wp_ret' ?_))))
    exact VRes.tmp _ _ _ (by exact rfl) (bval (congrArg Value.bool (by exact (eqD_no (k := k) (by simp_all)).symm)))
   ·skip
    have c6 : decide ((gD a k) = (gD b k)) = true := by first | (rw [← Bool.not_eq_false']; exact c4) | simpa using c4
    have c6P := of_decide_eq_true c6
    refine sk (rg (zm ?_))
    refine z ?_ (h := fun ν => acts_bin ν vt vc rA)
    refine za (nl ?_)
    exact loop_back ((k + 1)) (by exact ⟨by omega, eqD_s (by assumption) (by simp_all)⟩) (by show a.length - (k + 1) < a.length - k; omega) (wkf id (wS <| wS <| wE (e := (vint (by first | rfl | omega | (simp; done) | (simp; omega)))) <| wF <| wF <| wF <| wF <| wN))
  ·skip
   have c3P := of_decide_eq_false c3
   refine wp_exit' (sq (rg (zk (nl (wp_ret' ?_)))))
   exact VRes.tmp _ _ _ (by exact rfl) (bval (congrArg Value.bool (by exact (eqD_yes (k := k) (by assumption) (by omega) (by omega)).symm)))

set_option maxHeartbeats 4000000 in
set_option maxRecDepth 100000 in
theorem laws_markDominoS_fn (l : List Dom) (v : Int) (hl : l.length ≤ 4194304) (hv : 0 ≤ v ∧ v ≤ 4194304) : FnO Try.prog 13 [.a (.sl 1 0 l.length), .a (.val (.int .i64 v))] [(.o 1, some (.o ⟨57, 3, true, pl (dsl l)⟩))] (V.v (.int .i64 (v + 3 * (l.length : Int)))) [(.o 1, some (.o ⟨57, 3, true, pl (dsl (mkDs v l.length))⟩))] [1] := by
 refine fn_introO (N := 36) Try.func13 rfl (by kernel_rfl) rfl (Nat.le_of_ble_eq_true rfl) rfl rfl (by kernel_rfl) (by kernel_rfl) ⟨oc_pl (fun _ => rfl), trivial⟩ [8] (retO1 rfl) (fun W own kp im0 => ?_)
 show Wp _ _ _ [kS 0 1 0 l.length, kI 1 v, kO 1 57 3 true (pl (dsl l)), kF 8]
 refine sq (rg (zk (nl (sq (sq (rg (zk (nl (bkk ?_)))))))))
 refine wp_loop' (fun (k : Nat) => k ≤ l.length) (fun (k : Nat) => [kS 0 1 0 l.length, kI 1 (v + 3 * (k : Int)), kI 5 ((k : Nat) : Int), kO 1 57 3 true (pl (dsl (genK (mkF v) l k))), kF 8]) (fun (k : Nat) => l.length - k) ((0 : Nat)) (by exact (Nat.zero_le _ : 0 ≤ _)) (wkf id (wS <| wE (e := (vint (by first | rfl | omega | exact genK_zero _ _ | exact Eq.symm (genK_zero _ _) | (rw [set_xyd (by omega)]; exact genK_set (by omega) rfl) | (rw [set_xyd (by omega)]; exact Eq.symm (genK_set (by omega) rfl))))) <| wE (e := (vint (by first | rfl | omega | exact genK_zero _ _ | exact Eq.symm (genK_zero _ _) | (rw [set_xyd (by omega)]; exact genK_set (by omega) rfl) | (rw [set_xyd (by omega)]; exact Eq.symm (genK_set (by omega) rfl))))) <| wO (e := renob_eq (fun h => h) (congrArg dsl (by first | rfl | omega | exact genK_zero _ _ | exact Eq.symm (genK_zero _ _) | (rw [set_xyd (by omega)]; exact genK_set (by omega) rfl) | (rw [set_xyd (by omega)]; exact Eq.symm (genK_set (by omega) rfl))))) <| wF <| wN)) ?_
 rintro k inv1
 replace inv1 : k ≤ l.length := inv1
 have invk := inv1
 have hgl := genK_len (f := mkF v) invk
 refine sq (sq (rg (zm (zm ?_))))
 refine z ?_ (h := fun ν => lnS ν qW8_un_26)
 refine z ?_ (h := fun ν => acts_bin ν vt vt (r_lss rfl))
 refine nl ?_
 refine wi (fun c2 => ?_) (fun c2 => ?_)
 ·skip
  have c2P := of_decide_eq_true c2
  refine sk (sq (bkk (sq (rg (zm (zm (zm ?_)))))))
  refine z ?_ (h := fun ν => ix0 ν qW8_un_26 qW8_sz_57 vt (hlt := (by first | omega | assumption | (simp only [List.length_set]; omega))))
  refine z ?_ (h := fun ν => acts_field (off' := (k * 3)) ν qW8_fo_57_0 rfl)
  refine z ?_ (h := fun _ => sDx (k := k) (L := (genK (mkF v) l k)) qW8_ti_3 xt (hk := (by first | omega | assumption | (simp only [List.length_set]; omega))))
  refine nl (sq (rg (zm ?_)))
  refine z ?_ (h := fun ν => acts_bin ν vt vc (rA (by first | omega | assumption | (simp only [List.length_set]; omega)) (by first | omega | assumption | (simp only [List.length_set]; omega))))
  refine za (nl (sq (rg (zm (zm (zm ?_))))))
  refine z ?_ (h := fun ν => ix0 ν qW8_un_26 qW8_sz_57 vt (hlt := (by first | omega | assumption | (simp only [List.length_set]; omega))))
  refine z ?_ (h := fun ν => acts_field (off' := (k * 3 + 1)) ν qW8_fo_57_1 rfl)
  refine z ?_ (h := fun _ => sDy (k := k) (L := ((genK (mkF v) l k).set k (⟨(v + 3 * (k : Int)), (gD (genK (mkF v) l k) k).y, (gD (genK (mkF v) l k) k).d⟩ : Dom))) qW8_ti_3 xt (hk := (by first | omega | assumption | (simp only [List.length_set]; omega))))
  refine nl (sq (rg (zm ?_)))
  refine z ?_ (h := fun ν => acts_bin ν vt vc (rA (by first | omega | assumption | (simp only [List.length_set]; omega)) (by first | omega | assumption | (simp only [List.length_set]; omega))))
  refine za (nl (sq (rg (zm (zm (zm ?_))))))
  refine z ?_ (h := fun ν => acts_bin ν vt vc (r_rem (c := ((((v + 3 * (k : Int)) + 1) + 1) % 3)) (by first | omega | assumption | (simp only [List.length_set]; omega)) (remI (by first | omega | assumption | (simp only [List.length_set]; omega)))))
  refine z ?_ (h := fun ν => acts_bin ν vt vc (r_eql rfl))
  refine z ?_ (h := fun ν => ix0 ν qW8_un_26 qW8_sz_57 vt (hlt := (by first | omega | assumption | (simp only [List.length_set]; omega))))
  refine z ?_ (h := fun ν => acts_field (off' := (k * 3 + 2)) ν qW8_fo_57_2 rfl)
  refine z ?_ (h := fun _ => sDd (k := k) (L := (((genK (mkF v) l k).set k (⟨(v + 3 * (k : Int)), (gD (genK (mkF v) l k) k).y, (gD (genK (mkF v) l k) k).d⟩ : Dom)).set k (⟨(gD ((genK (mkF v) l k).set k (⟨(v + 3 * (k : Int)), (gD (genK (mkF v) l k) k).y, (gD (genK (mkF v) l k) k).d⟩ : Dom)) k).x, ((v + 3 * (k : Int)) + 1), (gD ((genK (mkF v) l k).set k (⟨(v + 3 * (k : Int)), (gD (genK (mkF v) l k) k).y, (gD (genK (mkF v) l k) k).d⟩ : Dom)) k).d⟩ : Dom))) qW8_ti_4 xt (hk := (by first | omega | assumption | (simp only [List.length_set]; omega))))
  refine nl (rg (zm ?_))
  refine z ?_ (h := fun ν => acts_bin ν vt vc (rA (by first | omega | assumption | (simp only [List.length_set]; omega)) (by first | omega | assumption | (simp only [List.length_set]; omega))))
  refine za (nl (rg (zm ?_)))
  refine z ?_ (h := fun ν => acts_bin ν vt vc (rA (by first | omega | assumption | (simp only [List.length_set]; omega)) (by first | omega | assumption | (simp only [List.length_set]; omega))))
  refine za (nl ?_)
  exact loop_back ((k + 1)) (by show _ ≤ _; omega) (by show l.length - (k + 1) < l.length - k; omega) (wkf id (wS <| wE (e := (vint (by first | rfl | omega | exact genK_zero _ _ | exact Eq.symm (genK_zero _ _) | (rw [set_xyd (by omega)]; exact genK_set (by omega) rfl) | (rw [set_xyd (by omega)]; exact Eq.symm (genK_set (by omega) rfl))))) <| wE (e := (vint (by first | rfl | omega | exact genK_zero _ _ | exact Eq.symm (genK_zero _ _) | (rw [set_xyd (by omega)]; exact genK_set (by omega) rfl) | (rw [set_xyd (by omega)]; exact Eq.symm (genK_set (by omega) rfl))))) <| wO (e := renob_eq (fun h => h) (congrArg dsl (by first | rfl | omega | exact genK_zero _ _ | exact Eq.symm (genK_zero _ _) | (rw [set_xyd (by omega)]; exact genK_set (by omega) rfl) | (rw [set_xyd (by omega)]; exact Eq.symm (genK_set (by omega) rfl))))) <| wF <| wN))
 ·skip
  have c2P := of_decide_eq_false c2
  refine wp_exit' (sq (rg (zm (za (nl (wp_ret' ?_))))))
  exact ⟨_, weak_id, ⟨obj_eq (c := pl (dsl (genK (mkF v) l k))) (by kernel_rfl) (congrArg (fun z => pl (dsl z)) (by exact genK_end (f := mkF v) (l := l) (k := k) (by omega) (by omega))), trivial⟩, vo_eq 4 (.a (.val (.int .i64 (v + 3 * (k : Int))))) (.a (.val (.int .i64 (v + 3 * (l.length : Int))))) (by kernel_rfl) (congrArg (fun z : Int => B.a (.val (.int .i64 z))) (by first | rfl | omega))⟩

set_option maxHeartbeats 4000000 in
set_option maxRecDepth 100000 in
theorem laws_heldDominoS_fn (l : List Dom) (v : Int) (hl : l.length ≤ 4194304) (hv : 0 ≤ v ∧ v ≤ 4194304) (hh : l = mkDs v l.length) : Fn Try.prog 14 [.a (.slv l.length 3 (dsl l)), .a (.val (.int .i64 v))] [.val (.int .i64 (v + 3 * (l.length : Int)))] := by
 refine fn_intro (N := 42) Try.func14 rfl (by kernel_rfl) rfl (Nat.le_of_ble_eq_true rfl) [8] (ret1 rfl) (fun W => ?_)
 show Wp _ _ _ [kV 0 (V.b (.a (.slv l.length 3 (dsl l)))), kI 1 v, kF 8]
 refine sq (rg (zk (nl (sq (sq (rg (zk (nl (bkk ?_)))))))))
 refine wp_loop' (fun (k : Nat) => k ≤ l.length) (fun (k : Nat) => [kV 0 (V.b (.a (.slv l.length 3 (dsl l)))), kI 1 (v + 3 * (k : Int)), kI 5 ((k : Nat) : Int), kF 8]) (fun (k : Nat) => l.length - k) ((0 : Nat)) (by exact (Nat.zero_le _ : 0 ≤ _)) (wkf id (wS <| wE (e := (vint (by first | rfl | omega | (simp; done) | (simp; omega)))) <| wE (e := (vint (by first | rfl | omega | (simp; done) | (simp; omega)))) <| wF <| wN)) ?_
 rintro k inv1
 replace inv1 : k ≤ l.length := inv1
 have invk := inv1
 refine sq (sq (rg (zm (zm ?_))))
 refine z ?_ (h := fun ν => lnV ν qW8_un_26)
 refine z ?_ (h := fun ν => acts_bin ν vt vt (r_lss rfl))
 refine nl ?_
 refine wi (fun c2 => ?_) (fun c2 => ?_)
 ·skip
  have c2P := of_decide_eq_true c2
  have hat := mkDs_at hh (k := k) (by omega)
  have hatx : (gD l k).x = v + 3 * (k : Int) := by rw [hat]; rfl
  have haty : (gD l k).y = v + 3 * (k : Int) + 1 := by rw [hat]; rfl
  have hatd : (gD l k).d = decide ((v + 3 * (k : Int) + 1 + 1) % 3 = 0) := by rw [hat]; rfl
  refine sk (sq (bkk (sq (sq (rg (zm (zm ?_)))))))
  refine z ?_ (h := fun ν => ixv ν qW8_un_26 qW8_sz_57 vt (hlt := (by first | omega | assumption)))
  refine z ?_ (h := fun ν => acts_field_v (off' := (k * 3)) ν qW8_fo_57_0 rfl)
  refine z ?_ (h := fun ν => acts_load_v ν qW8_ti_3 (by exact (dsl_x (k := k) (by first | omega | assumption))))
  refine zm ?_
  refine z ?_ (h := fun ν => acts_bin ν vt vt (r_neq rfl))
  refine nl ?_
  refine wi (fun c3 => ?_) (fun c3 => ?_)
  ·skip
   have c3P := of_decide_eq_true c3
   refine sq (rg (zk (nl (wp_ret' ?_))))
   exact VRes.tmp _ _ _ (by exact rfl) (bval (congrArg (Value.int .i64) (by first | rfl | omega | (exfalso; omega) | exact absurd hatd (by assumption))))
  ·skip
   have c3P := of_decide_eq_false c3
   refine sk (sq (rg (zm ?_)))
   refine z ?_ (h := fun ν => acts_bin ν vt vc (rA (by first | omega | assumption) (by first | omega | assumption)))
   refine za (nl (sq (sq (rg (zm (zm ?_))))))
   refine z ?_ (h := fun ν => ixv ν qW8_un_26 qW8_sz_57 vt (hlt := (by first | omega | assumption)))
   refine z ?_ (h := fun ν => acts_field_v (off' := (k * 3 + 1)) ν qW8_fo_57_1 rfl)
   refine z ?_ (h := fun ν => acts_load_v ν qW8_ti_3 (by exact (dsl_y (k := k) (by first | omega | assumption))))
   refine zm ?_
   refine z ?_ (h := fun ν => acts_bin ν vt vt (r_neq rfl))
   refine nl ?_
   refine wi (fun c4 => ?_) (fun c4 => ?_)
   ·skip
    have c4P := of_decide_eq_true c4
    refine sq (rg (zk (nl (wp_ret' ?_))))
    exact VRes.tmp _ _ _ (by exact rfl) (bval (congrArg (Value.int .i64) (by first | rfl | omega | (exfalso; omega) | exact absurd hatd (by assumption))))
   ·skip
    have c4P := of_decide_eq_false c4
    refine sk (sq (rg (zm ?_)))
    refine z ?_ (h := fun ν => acts_bin ν vt vc (rA (by first | omega | assumption) (by first | omega | assumption)))
    refine za (nl (sq (sq (rg (zm (zm ?_))))))
    refine z ?_ (h := fun ν => ixv ν qW8_un_26 qW8_sz_57 vt (hlt := (by first | omega | assumption)))
    refine z ?_ (h := fun ν => acts_field_v (off' := (k * 3 + 2)) ν qW8_fo_57_2 rfl)
    refine z ?_ (h := fun ν => acts_load_v ν qW8_ti_4 (by exact (dsl_d (k := k) (by first | omega | assumption))))
    refine zm ?_
    refine z ?_ (h := fun ν => acts_bin ν vt vc (r_rem (c := ((((v + 3 * (k : Int)) + 1) + 1) % 3)) (by first | omega | assumption) (remI (by first | omega | assumption))))
    refine z ?_ (h := fun ν => acts_bin ν vt vc (r_eql rfl))
    refine z ?_ (h := fun ν => acts_bin ν vt vt (r_bneq (c := (decide ((gD l k).d ≠ decide (((((v + 3 * (k : Int)) + 1) + 1) % 3) = 0)))) qW8_un_4 rfl))
    refine nl ?_
    refine wi (fun c5 => ?_) (fun c5 => ?_)
    ·skip
     have c5P := of_decide_eq_true c5
     refine sq (rg (zk (nl (wp_ret' ?_))))
     exact VRes.tmp _ _ _ (by exact rfl) (bval (congrArg (Value.int .i64) (by first | rfl | omega | (exfalso; omega) | exact absurd hatd (by assumption))))
    ·skip
     have c5P := of_decide_eq_false c5
     refine sk (rg (zm ?_))
     refine z ?_ (h := fun ν => acts_bin ν vt vc (rA (by first | omega | assumption) (by first | omega | assumption)))
     refine za (nl (rg (zm ?_)))
     refine z ?_ (h := fun ν => acts_bin ν vt vc (rA (by first | omega | assumption) (by first | omega | assumption)))
     refine za (nl ?_)
     exact loop_back ((k + 1)) (by show _ ≤ _; omega) (by show l.length - (k + 1) < l.length - k; omega) (wkf id (wS <| wE (e := (vint (by first | rfl | omega | (simp; done) | (simp; omega)))) <| wE (e := (vint (by first | rfl | omega | (simp; done) | (simp; omega)))) <| wF <| wN))
 ·skip
  have c2P := of_decide_eq_false c2
  refine wp_exit' (sq (rg (zm (za (nl (wp_ret' ?_))))))
  exact VRes.tmp _ _ _ (by exact rfl) (bval (congrArg (Value.int .i64) (by first | rfl | omega | (exfalso; omega) | exact absurd hatd (by assumption))))
end Cl
end Go.Proofs.Ytonlghbbdcddoaa
