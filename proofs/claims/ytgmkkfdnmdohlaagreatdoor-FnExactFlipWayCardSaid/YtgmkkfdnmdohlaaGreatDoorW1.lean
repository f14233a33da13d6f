/- Walks over clean states, printed by wg.py. No statement is proved here. -/
import Derived.Test.YtgmkkfdnmdohlaaGreatDoorC0
import Derived.Test.YtgmkkfdnmdohlaaGreatDoorClB
set_option linter.unusedSimpArgs false
set_option linter.unusedVariables false
namespace Go.Proofs.YtgmkkfdnmdohlaaGreatDoor
namespace Cl
open Go.ChangeShapes Go.WideShapes Go.ChangeAt Go.RowKit
set_option maxRecDepth 20000

def szS (z : Int) (n : Nat) : Int := if z - (n : Int) < 0 then -1 else z - (n : Int)
theorem szS_neg {z : Int} {n : Nat} (h : z - (n : Int) < 0) : szS z n = -1 := by unfold szS; rw [if_pos h]
theorem szS_pos {z : Int} {n : Nat} (h : ¬ z - (n : Int) < 0) : szS z n = z - (n : Int) := by unfold szS; rw [if_neg h]
theorem szS_cases (z : Int) (n : Nat) : (z - (n : Int) < 0 ∧ szS z n = -1) ∨ (0 ≤ z - (n : Int) ∧ szS z n = z - (n : Int)) := by
  by_cases h : z - (n : Int) < 0
  · exact .inl ⟨h, szS_neg h⟩
  · exact .inr ⟨by omega, szS_pos h⟩
def cpK {α : Type} (z : α) (l : List α) (k : Nat) : List α := l.take k ++ List.replicate (l.length - k) z
theorem cpK_len {α : Type} {z : α} {l : List α} {k : Nat} (h : k ≤ l.length) : (cpK z l k).length = l.length := by unfold cpK; rw [List.length_append, List.length_take, List.length_replicate]; omega
theorem cpK_zero {α : Type} (z : α) (l : List α) : cpK z l 0 = List.replicate l.length z := by simp [cpK]
theorem cpK_end {α : Type} {z : α} {l : List α} {k : Nat} (h : ¬ k < l.length) : cpK z l k = l := by unfold cpK; rw [List.take_of_length_le (by omega), show l.length - k = 0 by omega]; simp
theorem cpK_set {α : Type} {z : α} {l : List α} {k : Nat} (h : k < l.length) {x : α} (hx : l[k] = x) : (cpK z l k).set k x = cpK z l (k + 1) := by
  unfold cpK
  rw [List.set_append_right _ _ (by rw [List.length_take]; omega), List.length_take, Nat.min_eq_left (by omega), Nat.sub_self, List.take_succ_eq_append_getElem h, List.append_assoc, hx, show l.length - k = (l.length - (k + 1)) + 1 by omega, List.replicate_succ]
  rfl
theorem cpI_set {l : List Int} {k : Nat} (h : k < l.length) : (cpK 0 l k).set k (gI l k) = cpK 0 l (k + 1) := cpK_set h (gI_eq h).symm
theorem eq_len {α : Type} [DecidableEq α] {a b : List α} (h : a.length ≠ b.length) : decide (a = b) = false := decide_eq_false fun e => h (by rw [e])
theorem eqI_no {a b : List Int} {k : Nat} (h : gI a k ≠ gI b k) : decide (a = b) = false := decide_eq_false fun e => h (by rw [e])
theorem eqI_yes {a b : List Int} {k : Nat} (h : ∀ i, i < k → gI a i = gI b i) (hk : ¬ k < a.length) (hl : a.length = b.length) : decide (a = b) = true := decide_eq_true (List.ext_getElem hl fun i h1 h2 => by rw [← gI_eq h1, ← gI_eq h2]; exact h i (by omega))
theorem eqI_s {a b : List Int} {k : Nat} (h : ∀ i, i < k → gI a i = gI b i) (h2 : gI a k = gI b k) : ∀ i, i < k + 1 → gI a i = gI b i := by
  intro i hi
  rcases Nat.lt_or_ge i k with h3 | h3
  · exact h i h3
  · rw [show i = k by omega]; exact h2
theorem qW1_sz_3 : (Tryz.prog.info? 3).map (·.size) = some 1 := by kernel_rfl
theorem qW1_ti_3 : TI Tryz.prog 3 false 1 := ⟨⟨_, Tryz.underlying3, rfl⟩, by kernel_rfl⟩
theorem qW1_un_22 : Tryz.prog.underlying 22 = some (.slice 3) := Tryz.underlying22
theorem qW1_zi_3 : ZI Tryz.prog 3 (.int .i64 0) 1 8 := by unfold ZI; kernel_rfl
set_option maxHeartbeats 4000000 in
set_option maxRecDepth 100000 in
theorem laws_szIntS_fn (l : List Int) (v : Int) (hl : l.length ≤ 9223372036854775807) (hz : 0 ≤ v ∧ v ≤ 1048576) : Fn Tryz.prog 31 [.a (.slv l.length 1 (isl l)), .a (.val (.int .i64 v))] [.val (.int .i64 (szS v l.length))] := by
 refine fn_intro (N := 12) Tryz.func31 rfl (by kernel_rfl) rfl (Nat.le_of_ble_eq_true rfl) [7] (ret1 rfl) (fun W => ?_)
 show Wp _ _ _ [kV 0 (V.b (.a (.slv l.length 1 (isl l)))), kI 1 v, kF 7]
 refine sq (rg (zk (nl (sq (rg (zm (zm ?_)))))))
 refine z ?_ (h := fun ν => lnV ν qW1_un_22)
 refine z ?_ (h := fun ν => acts_bin ν vt vt rS)
 refine za (nl (sq (sq (rg (zm ?_)))))
 refine z ?_ (h := fun ν => acts_bin ν vt vc (r_lss rfl))
 refine nl ?_
 refine wi (fun c1 => ?_) (fun c1 => ?_)
 ·skip
  have c1P := of_decide_eq_true c1
  refine sq (rg (zk (nl (wp_ret' ?_))))
  exact VRes.tmp _ _ _ (by exact rfl) (bval (congrArg (Value.int .i64) (by exact (szS_neg (by omega)).symm)))
 ·skip
  have c1P := of_decide_eq_false c1
  refine sk (sq (rg (zm (za (nl (wp_ret' ?_))))))
  exact VRes.tmp _ _ _ (by exact rfl) (bval (congrArg (Value.int .i64) (by exact (szS_pos (by omega)).symm)))

set_option maxHeartbeats 4000000 in
set_option maxRecDepth 100000 in
theorem laws_toIntS_fn (l : List Int) (hl : l.length ≤ 4194304) : Fn Tryz.prog 35 [.a (.slv l.length 1 (isl l))] [.row 3 1 l.length (isl l)] := by
 have hcl0 := cpK_len (z := (0 : Int)) (l := l) (k := 0) (Nat.zero_le _)
 refine fn_intro (N := 22) Tryz.func35 rfl (by kernel_rfl) rfl (Nat.le_of_ble_eq_true rfl) [6, 7, 10] (ret1 rfl) (fun W => ?_)
 show Wp _ _ _ [kV 0 (V.b (.a (.slv l.length 1 (isl l)))), kF 6, kF 7, kF 10]
 refine sq (rg (zk (nl (sq (rg (zm ?_))))))
 refine z ?_ (h := fun ν => lnV ν qW1_un_22)
 refine z ?_ (h := fun ν => acts_make' (h := 7) (n := l.length) (xs := isl (List.replicate l.length 0)) ν qW1_un_22 qW1_zi_3 vt vt rfl rfl (by decide) (by omega) (made_ints' l.length))
 refine za (nl (sq (sq (rg (zk (nl (bkk ?_)))))))
 refine wp_loop' (fun (k : Nat) => k ≤ l.length) (fun (k : Nat) => [kV 0 (V.b (.a (.slv l.length 1 (isl l)))), kS 3 7 0 ((cpK 0 l k).length), kI 4 ((k : Nat) : Int), kO 7 3 1 true (pl (isl (cpK 0 l k))), kF 6, kF 10]) (fun (k : Nat) => l.length - k) ((0 : Nat)) (by exact (Nat.zero_le _ : 0 ≤ _)) (wkf id (wS <| wE (e := (vsl (by first | rfl | (simp; done) | (simp; omega) | omega | (exact congrArg List.length (by first | rfl | omega | exact Eq.symm (cpK_zero _ _) | exact cpK_zero _ _ | exact cpI_set (by omega) | exact Eq.symm (cpI_set (by omega))))) rfl)) <| wE (e := (vint (by first | rfl | omega | exact Eq.symm (cpK_zero _ _) | exact cpK_zero _ _ | exact cpI_set (by omega) | exact Eq.symm (cpI_set (by omega))))) <| wO (e := renob_eq (fun h => h) (congrArg isl (by first | rfl | omega | exact Eq.symm (cpK_zero _ _) | exact cpK_zero _ _ | exact cpI_set (by omega) | exact Eq.symm (cpI_set (by omega))))) <| wF <| wF <| wN)) ?_
 rintro k inv1
 replace inv1 : k ≤ l.length := inv1
 have invk := inv1
 have hcl := cpK_len (z := (0 : Int)) invk
 refine sq (sq (rg (zm (zm ?_))))
 refine z ?_ (h := fun ν => lnV ν qW1_un_22)
 refine z ?_ (h := fun ν => acts_bin ν vt vt (r_lss rfl))
 refine nl ?_
 refine wi (fun c2 => ?_) (fun c2 => ?_)
 ·skip
  have c2P := of_decide_eq_true c2
  have hcl1 := cpK_len (z := (0 : Int)) (l := l) (k := k + 1) (by omega)
  refine sk (sq (bkk (rg (zm (zm (zm (zm ?_)))))))
  refine z ?_ (h := fun ν => ixv ν qW1_un_22 qW1_sz_3 vt)
  refine z ?_ (h := fun ν => uI ν qW1_ti_3)
  refine z ?_ (h := fun ν => ix0 ν qW1_un_22 qW1_sz_3 vt)
  refine z ?_ (h := fun _ => sI qW1_ti_3 xt)
  refine nl (rg (zm ?_))
  refine z ?_ (h := fun ν => acts_bin ν vt vc rA)
  refine za (nl ?_)
  exact loop_back ((k + 1)) (by show _ ≤ _; omega) (by show l.length - (k + 1) < l.length - k; omega) (wkf id (wS <| wE (e := (vsl (by first | rfl | (simp; done) | (simp; omega) | omega | (exact congrArg List.length (by first | rfl | omega | exact Eq.symm (cpK_zero _ _) | exact cpK_zero _ _ | exact cpI_set (by omega) | exact Eq.symm (cpI_set (by omega))))) rfl)) <| wE (e := (vint (by first | rfl | omega | exact Eq.symm (cpK_zero _ _) | exact cpK_zero _ _ | exact cpI_set (by omega) | exact Eq.symm (cpI_set (by omega))))) <| wO (e := renob_eq (fun h => h) (congrArg isl (by first | rfl | omega | exact Eq.symm (cpK_zero _ _) | exact cpK_zero _ _ | exact cpI_set (by omega) | exact Eq.symm (cpI_set (by omega))))) <| wF <| wF <| wN))
 ·skip
  have c2P := of_decide_eq_false c2
  refine wp_exit' (sq (rg (zm (za (nl (wp_ret' ?_))))))
  exact VRes.tmp _ _ _ (by exact rfl) (brow_ints (h := 7) (L := (cpK 0 l k)) (by kernel_rfl) (by exact cpK_end (by omega)) (by first | rfl | (simp; done) | (simp; omega)))

set_option maxHeartbeats 4000000 in
set_option maxRecDepth 100000 in
theorem laws_eqIntS_fn (a b : List Int) (ha : a.length ≤ 4194304) (hb : b.length ≤ 4194304) : Fn Tryz.prog 41 [.a (.slv a.length 1 (isl a)), .a (.slv b.length 1 (isl b))] [.val (.bool (decide (a = b)))] := by
 refine fn_intro (N := 26) Tryz.func41 rfl (by kernel_rfl) rfl (Nat.le_of_ble_eq_true rfl) [7, 9, 13] (ret1 rfl) (fun W => ?_)
 show Wp _ _ _ [kV 0 (V.b (.a (.slv a.length 1 (isl a)))), kV 1 (V.b (.a (.slv b.length 1 (isl b)))), kF 7, kF 9, kF 13]
 refine sq (rg (zk (nl (sq (sq (rg (zm ?_)))))))
 refine z ?_ (h := fun ν => lnV ν qW1_un_22)
 refine zm ?_
 refine z ?_ (h := fun ν => lnV ν qW1_un_22)
 refine z ?_ (h := fun ν => acts_bin ν vt vt (r_neq rfl))
 refine nl ?_
 refine wi (fun c1 => ?_) (fun c1 => ?_)
 ·skip
  have c1P := of_decide_eq_true c1
  refine sq (rg (zk (nl (wp_ret' ?_))))
  exact VRes.tmp _ _ _ (by exact rfl) (bval (congrArg Value.bool (by exact (eq_len (by omega)).symm)))
 ·skip
  have c1P := of_decide_eq_false c1
  refine sk (sq (sq (rg (zk (nl (bkk ?_))))))
  refine wp_loop' (fun (k : Nat) => k ≤ a.length ∧ ∀ i, i < k → gI a i = gI b i) (fun (k : Nat) => [kV 0 (V.b (.a (.slv a.length 1 (isl a)))), kV 1 (V.b (.a (.slv b.length 1 (isl b)))), kI 5 ((k : Nat) : Int), kF 7, kF 9, kF 13]) (fun (k : Nat) => a.length - k) ((0 : Nat)) (by exact ⟨Nat.zero_le _, fun i hi => absurd hi (Nat.not_lt_zero i)⟩) (wkf id (wS <| wS <| wE (e := (vint (by first | rfl | omega | (simp; done) | (simp; omega)))) <| wF <| wF <| wF <| wN)) ?_
  rintro k inv2
  replace inv2 : k ≤ a.length ∧ ∀ i, i < k → gI a i = gI b i := inv2
  obtain ⟨inv2_0, inv2_1⟩ := inv2
  refine sq (sq (rg (zm (zm ?_))))
  refine z ?_ (h := fun ν => lnV ν qW1_un_22)
  refine z ?_ (h := fun ν => acts_bin ν vt vt (r_lss rfl))
  refine nl ?_
  refine wi (fun c3 => ?_) (fun c3 => ?_)
  ·skip
   have c3P := of_decide_eq_true c3
   refine sk (sq (bkk (sq (wp_dr (zdm (zdm ?_))))))
   refine zd ?_ (h := fun ν => ixv ν qW1_un_22 qW1_sz_3 vt)
   refine zd ?_ (h := fun ν => uI ν qW1_ti_3)
   refine zdm (zdm ?_)
   refine zd ?_ (h := fun ν => ixv ν qW1_un_22 qW1_sz_3 vt)
   refine zd ?_ (h := fun ν => uI ν qW1_ti_3)
   refine zd ?_ (h := fun ν => acts_bin ν vt vt (r_neq rfl))
   refine dw_nil ?_
   refine wi (fun c4 => ?_) (fun c4 => ?_)
   ·skip
    have c4P := of_decide_eq_true c4
    refine sq (rg (zk (nl (wp_ret' ?_))))
    exact VRes.tmp _ _ _ (by exact rfl) (bval (congrArg Value.bool (by exact (eqI_no (k := k) (by omega)).symm)))
   ·skip
    have c4P := of_decide_eq_false c4
    refine sk (rg (zm ?_))
    refine z ?_ (h := fun ν => acts_bin ν vt vc rA)
    refine za (nl ?_)
    exact loop_back ((k + 1)) (by exact ⟨by omega, eqI_s (by assumption) (by omega)⟩) (by show a.length - (k + 1) < a.length - k; omega) (wkf id (wS <| wS <| wE (e := (vint (by first | rfl | omega | (simp; done) | (simp; omega)))) <| wF <| wF <| wF <| wN))
  ·skip
   have c3P := of_decide_eq_false c3
   refine wp_exit' (sq (rg (zk (nl (wp_ret' ?_)))))
   exact VRes.tmp _ _ _ (by exact rfl) (bval (congrArg Value.bool (by exact (eqI_yes (k := k) (by assumption) (by omega) (by omega)).symm)))
end Cl
end Go.Proofs.YtgmkkfdnmdohlaaGreatDoor
