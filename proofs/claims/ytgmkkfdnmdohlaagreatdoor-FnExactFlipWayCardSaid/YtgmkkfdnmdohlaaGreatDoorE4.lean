/- Walks over clean states, printed by wg.py. No statement is proved here. -/
import Derived.Test.YtgmkkfdnmdohlaaGreatDoorEA
import Derived.Test.YtgmkkfdnmdohlaaGreatDoorW8
import Derived.Test.YtgmkkfdnmdohlaaGreatDoorClB
set_option linter.unusedSimpArgs false
set_option linter.unusedVariables false
namespace Go.Proofs.YtgmkkfdnmdohlaaGreatDoor
namespace Cl
open Go.ChangeShapes Go.WideShapes Go.ChangeAt Go.RowKit
set_option maxRecDepth 20000

def ixT (a : List (List Dom)) (q : List Dom) : Int := if a.any (fun x => decide (x = q)) then ((a.findIdx (fun x => decide (x = q)) : Nat) : Int) else -1
theorem ixT_yes {a : List (List Dom)} {q : List Dom} {k : Nat} (hk : k < a.length) (h : ∀ i, i < k → gLd a i ≠ q) (he : gLd a k = q) : (k : Int) = ixT a q := by
  unfold ixT
  have h1 : a.any (fun x => decide (x = q)) = true := List.any_eq_true.2 ⟨a[k], List.getElem_mem hk, by rw [← gLd_eq hk]; exact decide_eq_true he⟩
  rw [if_pos h1]
  have : a.findIdx (fun x => decide (x = q)) = k := by
    rw [List.findIdx_eq hk]
    refine ⟨by rw [← gLd_eq hk]; exact decide_eq_true he, fun j hj => ?_⟩
    have := h j hj
    rw [gLd_eq (by omega)] at this
    exact decide_eq_false this
  rw [this]
theorem ixT_no {a : List (List Dom)} {q : List Dom} {k : Nat} (hk : ¬ k < a.length) (h : ∀ i, i < k → gLd a i ≠ q) : (-1 : Int) = ixT a q := by
  unfold ixT
  rw [if_neg]
  intro e
  obtain ⟨x, hx, hq⟩ := List.any_eq_true.1 e
  obtain ⟨j, hj, rfl⟩ := List.getElem_of_mem hx
  refine h j (by omega) ?_
  rw [gLd_eq hj]; exact of_decide_eq_true hq
theorem ixT_at {a : List (List Dom)} {q : List Dom} (h : 0 ≤ ixT a q) : (ixT a q).toNat < a.length ∧ gLd a (ixT a q).toNat = q := by
  unfold ixT at h ⊢
  split
  · rename_i h1
    have hlt : a.findIdx (fun x => decide (x = q)) < a.length := List.findIdx_lt_length_of_exists (by simpa using h1)
    refine ⟨by simpa using hlt, ?_⟩
    rw [show (((a.findIdx (fun x => decide (x = q)) : Nat) : Int)).toNat = a.findIdx (fun x => decide (x = q)) by simp, gLd_eq hlt]
    have := List.findIdx_getElem (w := hlt)
    exact of_decide_eq_true this
  · rename_i h1; rw [if_neg h1] at h; omega
theorem ixT_lt (a : List (List Dom)) (q : List Dom) : ixT a q < (a.length : Int) ∧ -1 ≤ ixT a q := by
  rcases Int.lt_or_le (ixT a q) 0 with h | h
  · refine ⟨by omega, ?_⟩
    unfold ixT; split <;> omega
  · have := (ixT_at h).1; omega
theorem ne_s {a : List (List Dom)} {q : List Dom} {k : Nat} (h : ∀ i, i < k → gLd a i ≠ q) (h2 : gLd a k ≠ q) : ∀ i, i < k + 1 → gLd a i ≠ q := by
  intro i hi
  rcases Nat.lt_or_ge i k with h3 | h3
  · exact h i h3
  · rw [show i = k by omega]; exact h2

theorem qE4_sz_31 : (Tryz.prog.info? 31).map (·.size) = some 1 := by kernel_rfl
theorem qE4_ti_29 : TI Tryz.prog 29 true 1 := ⟨⟨_, Tryz.underlying29, rfl⟩, by kernel_rfl⟩
theorem qE4_ti_31 : TI Tryz.prog 31 false 1 := ⟨⟨_, Tryz.underlying31, rfl⟩, by kernel_rfl⟩
theorem qE4_un_58 : Tryz.prog.underlying 58 = some (.slice 31) := Tryz.underlying58
set_option maxHeartbeats 4000000 in
set_option maxRecDepth 100000 in
theorem impl_indexIn_fn (a : List (List Dom)) (q : List Dom) (ha : a.length ≤ 4194304) (hr : ∀ k, k < a.length → (gLd a k).length ≤ 4194304) (hq : q.length ≤ 4194304) : Fn Tryz.prog 38 [.a (.slvv 3 (vwD a)), .a (.slv q.length 3 (dsl q))] [.val (.int .i64 (ixT a q))] := by
 refine fn_intro (N := 19) Tryz.func38 rfl (by kernel_rfl) rfl (Nat.le_of_ble_eq_true rfl) [8, 16] (ret1 rfl) (fun W => ?_)
 show Wp _ _ _ [kV 0 (V.b (.a (.slvv 3 (vwD a)))), kV 1 (V.b (.a (.slv q.length 3 (dsl q)))), kF 8, kF 16]
 refine sq (rg (zk (nl (sq (sq (rg (zm ?_)))))))
 refine z ?_ (h := fun ν => lnD ν qE4_un_58)
 refine z ?_ (h := fun ν => mc ν)
 refine nl (bkk ?_)
 refine wp_loop' (fun (k : Nat) => k ≤ a.length ∧ ∀ i, i < k → gLd a i ≠ q) (fun (k : Nat) => [kV 1 (V.b (.a (.slv q.length 3 (dsl q)))), kV 7 (V.b (.a (.slvv 3 (vwD a)))), kI 8 ((a.length : Nat) : Int), kI 9 ((k : Nat) : Int), kF 8, kF 16]) (fun (k : Nat) => a.length - k) ((0 : Nat)) (by exact ⟨Nat.zero_le _, fun i hi => absurd hi (Nat.not_lt_zero i)⟩) (wkf id (wS <| wS <| wS <| wE (e := (vint (by first | rfl | omega | (simp; done) | (simp; omega)))) <| wF <| wF <| wN)) ?_
 rintro k inv1
 replace inv1 : k ≤ a.length ∧ ∀ i, i < k → gLd a i ≠ q := inv1
 obtain ⟨inv1_0, inv1_1⟩ := inv1
 refine sq (rg ?_)
 refine z ?_ (h := fun ν => acts_bin ν vt vt (r_lss rfl))
 refine nl (sq ?_)
 refine wi (fun c2 => ?_) (fun c2 => ?_)
 ·skip
  have c2P := of_decide_eq_true c2
  refine sk (sq (bkk (sq (rg (zm ?_)))))
  refine z ?_ (h := fun ν => xvv ν qE4_un_58 qE4_sz_31 vt (hlt := (by simp only [vwI_len, vwD_len]; first | omega | assumption | exact hr _ (by omega))))
  refine z ?_ (h := fun ν => lvD ν qE4_ti_31 (by first | omega | assumption | exact hr _ (by omega)))
  refine za (za (nl (sq (rg (zm (zm ?_))))))
  refine z ?_ (h := fun ν => acts_call1 ν (impl_SameDominoes_fn (gLd a k) q (by first | omega | assumption | exact hr _ (by omega)) (by first | omega | assumption | exact hr _ (by omega))) (ac (ArgV.slv _ _ _ _) (ac (ArgV.slv _ _ _ _) an)) rv)
  refine nl ?_
  refine wi (b := (decide ((gLd a k) = q))) (fun c3 => ?_) (fun c3 => ?_)
  ·skip
   refine sq (rg (zm (za (nl (wp_ret' ?_)))))
   exact VRes.tmp _ _ _ (by exact rfl) (bval (congrArg (Value.int .i64) (by exact ixT_yes (k := k) (by omega) (by assumption) (by first | assumption | exact of_decide_eq_true (by assumption)))))
  ·skip
   refine sk (rg ?_)
   refine z ?_ (h := fun ν => acts_bin ν vt vc (rA (by first | omega | assumption | exact hr _ (by omega)) (by first | omega | assumption | exact hr _ (by omega))))
   refine zm (nl ?_)
   exact loop_back ((k + 1)) (by exact ⟨by omega, ne_s (by assumption) (by first | assumption | exact of_decide_eq_false (by assumption))⟩) (by show a.length - (k + 1) < a.length - k; omega) (wkf id (wS <| wS <| wS <| wE (e := (vint (by first | rfl | omega | (simp; done) | (simp; omega)))) <| wF <| wF <| wN))
 ·skip
  have c2P := of_decide_eq_false c2
  refine wp_exit' (sq (rg (zk (nl (wp_ret' ?_)))))
  exact VRes.tmp _ _ _ (by exact rfl) (bval (congrArg (Value.int .i64) (by exact ixT_no (k := k) (by omega) (by assumption))))

set_option maxHeartbeats 4000000 in
set_option maxRecDepth 100000 in
theorem spec_IndexOf_fn (l : List Int) (q : List Dom) (hl : l.length ≤ 4194304) (hq : q.length ≤ 4194304) : FnO Tryz.prog 30 [.agg [(.sl 800 0 l.length : A)], .a (.sl 801 0 q.length)] [(.o 800, some (.o ⟨3, 1, true, pl (isl l)⟩)), (.o 801, some (.o ⟨62, 3, true, pl (dsl q)⟩))] (V.v (.int .i64 (ixT (ltR l) q))) [(.o 800, some (.o ⟨3, 1, true, pl (isl l)⟩)), (.o 801, some (.o ⟨62, 3, true, pl (dsl q)⟩))] [800, 801] := by
 have hll := ltR_len l
 have hlr : ∀ k, k < (ltR l).length → (gLd (ltR l) k).length ≤ 4194304 := fun k hk => Nat.le_trans (ltR_row hk) (by decide)
 refine fn_introO (N := 22) Tryz.func30 rfl (by kernel_rfl) rfl (Nat.le_of_ble_eq_true rfl) rfl rfl (by kernel_rfl) (by kernel_rfl) ⟨oc_pl (fun _ => rfl), oc_pl (fun _ => rfl), trivial⟩ [2, 8, 11, 20] (retO1 rfl) (fun W own kp im0 => ?_)
 show Wp _ _ _ [kV 0 (V.b (.agg [(.sl 800 0 l.length : A)])), kS 1 801 0 q.length, kO 800 3 1 true (pl (isl l)), kO 801 62 3 true (pl (dsl q)), kF 2, kF 8, kF 11, kF 20]
 refine sq (rg ?_)
 refine z ?_ (h := fun ν => acts_box (h := 2) ν xt (by exact ob1 rfl))
 refine zk (nl (sq (rg ?_)))
 refine z ?_ (h := fun ν => acts_load_owns (xs := [(.sl 800 0 l.length : A)]) ν qE4_ti_29 rfl (by decide) rfl)
 refine z ?_ (h := fun ν => acts_callO (d := 8) (f := 34) (os := [(.o 800, some (.o ⟨3, 1, true, pl (isl l)⟩))]) (os' := [(.o 800, some (.o ⟨3, 1, true, pl (isl l)⟩))]) (r := V.b (.a (.slvv 3 (vwD (ltR l))))) (bs := [.agg [(.sl 800 0 l.length : A)]]) (keep := [800]) (new := []) (dead := []) ν ((spec_ListTilings_fn l (by first | omega | assumption | exact hlr _ (by omega)))) (by kernel_rfl) ⟨oc_pl (fun _ => rfl), trivial⟩ (by kernel_rfl) (ArgOs.cons (ArgO.slot 7 (.agg [(.sl 800 0 l.length : A)])) (ArgOs.nil)))
 refine za (nl (sq (sq (rg (zk (nl (bkk ?_)))))))
 refine wp_loop' (fun (k : Nat) => k ≤ (ltR l).length ∧ ∀ i, i < k → gLd (ltR l) i ≠ q) (fun (k : Nat) => [kS 1 801 0 q.length, kV 5 (V.b (.a (.slvv 3 (vwD (ltR l))))), kI 6 ((k : Nat) : Int), kO 800 3 1 true (pl (isl l)), kO 801 62 3 true (pl (dsl q)), kF 2, kF 8, kF 11, kF 20]) (fun (k : Nat) => (ltR l).length - k) ((0 : Nat)) (by exact ⟨Nat.zero_le _, fun i hi => absurd hi (Nat.not_lt_zero i)⟩) (wkf id (wS <| wS <| wE (e := (vint (by first | rfl | omega | (simp; done) | (simp; omega)))) <| wP <| wP <| wF <| wF <| wF <| wF <| wN)) ?_
 rintro k inv1
 replace inv1 : k ≤ (ltR l).length ∧ ∀ i, i < k → gLd (ltR l) i ≠ q := inv1
 obtain ⟨inv1_0, inv1_1⟩ := inv1
 refine sq (sq (rg (zm (zm ?_))))
 refine z ?_ (h := fun ν => lnD ν qE4_un_58)
 refine z ?_ (h := fun ν => acts_bin ν vt vt (r_lss rfl))
 refine nl ?_
 refine wi (fun c2 => ?_) (fun c2 => ?_)
 ·skip
  have c2P := of_decide_eq_true c2
  refine sk (sq (bkk (sq (rg (zm (zm ?_))))))
  refine z ?_ (h := fun ν => xvv ν qE4_un_58 qE4_sz_31 vt (hlt := (by simp only [vwI_len, vwD_len]; first | omega | assumption | exact hlr _ (by omega))))
  refine z ?_ (h := fun ν => lvD ν qE4_ti_31 (by first | omega | assumption | exact hlr _ (by omega)))
  refine zm ?_
  refine z ?_ (h := fun ν => acts_call1 ν (spec_SameDominoes_fn (gLd (ltR l) k) q (by first | omega | assumption | exact hlr _ (by omega)) (by first | omega | assumption | exact hlr _ (by omega))) (ac (ArgV.slv _ _ _ _) (ac (argv_own (by first | exact dsl_len _ | (simp [isl_len, bsl_len, dsl_len, csl_len]; done) | (simp [isl_len, bsl_len, dsl_len, csl_len]; omega))) an)) rv)
  refine nl ?_
  refine wi (b := (decide ((gLd (ltR l) k) = q))) (fun c3 => ?_) (fun c3 => ?_)
  ·skip
   refine sq (rg (zm (za (nl (wp_ret' ?_)))))
   exact ⟨_, weak_id, ⟨by kernel_rfl, by kernel_rfl, trivial⟩, vo_eq 4 (.a (.val (.int .i64 ((k : Nat) : Int)))) (.a (.val (.int .i64 (ixT (ltR l) q)))) (by kernel_rfl) (congrArg (fun z : Int => B.a (.val (.int .i64 z))) (by exact ixT_yes (k := k) (by omega) (by assumption) (by first | assumption | exact of_decide_eq_true (by assumption))))⟩
  ·skip
   refine sk (rg (zm ?_))
   refine z ?_ (h := fun ν => acts_bin ν vt vc (rA (by first | omega | assumption | exact hlr _ (by omega)) (by first | omega | assumption | exact hlr _ (by omega))))
   refine za (nl ?_)
   exact loop_back ((k + 1)) (by exact ⟨by omega, ne_s (by assumption) (by first | assumption | exact of_decide_eq_false (by assumption))⟩) (by show (ltR l).length - (k + 1) < (ltR l).length - k; omega) (wkf id (wS <| wS <| wE (e := (vint (by first | rfl | omega | (simp; done) | (simp; omega)))) <| wP <| wP <| wF <| wF <| wF <| wF <| wN))
 ·skip
  have c2P := of_decide_eq_false c2
  refine wp_exit' (sq (rg (zk (nl (wp_ret' ?_)))))
  exact ⟨_, weak_id, ⟨by kernel_rfl, by kernel_rfl, trivial⟩, vo_eq 4 (.a (.val (.int .i64 (-1)))) (.a (.val (.int .i64 (ixT (ltR l) q)))) (by kernel_rfl) (congrArg (fun z : Int => B.a (.val (.int .i64 z))) (by exact ixT_no (k := k) (by omega) (by assumption)))⟩
end Cl
end Go.Proofs.YtgmkkfdnmdohlaaGreatDoor
