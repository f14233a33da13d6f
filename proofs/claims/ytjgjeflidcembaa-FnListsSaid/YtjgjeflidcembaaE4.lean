/- Walks over clean states, printed by wg.py. No statement is proved here. -/
import Derived.Test.YtjgjeflidcembaaE3
import Derived.Test.YtjgjeflidcembaaW8
import Derived.Test.YtjgjeflidcembaaClB
namespace Go.Proofs.Ytjgjeflidcembaa
namespace Cl
open Go.ChangeShapes Go.WideShapes Go.ChangeAt Go.RowKit
set_option maxRecDepth 20000

def ixT (a : List (List Dom)) (q : List Dom) : Int := if a.any (fun x => decide (x = q)) then ((a.findIdx (fun x => decide (x = q)) : Nat) : Int) else -1
theorem ixT_yes {a : List (List Dom)} {q : List Dom} {k : Nat} (hk : k < a.length) (h : ∀ i, i < k → gLd a i ≠ q) (he : gLd a k = q) : (k : Int) = ixT a q := by
  unfold ixT
  have h1 : a.any (fun x => decide (x = q)) = true := List.any_eq_true.2 ⟨a[k], List.getElem_mem hk, by rw [← gLd_eq hk]; exact decide_eq_true he⟩
  rw [if_pos h1]
  have : a.findIdx (fun x => decide (x = q)) = k := by
    rw [List.findIdx_eq hk]
    refine ⟨by rw [← gLd_eq hk]; exact decide_eq_true he, fun j hj => ?_⟩
    have := h j hj
    rw [gLd_eq (by omega)] at this
    exact decide_eq_false this
  rw [this]
theorem ixT_no {a : List (List Dom)} {q : List Dom} {k : Nat} (hk : ¬ k < a.length) (h : ∀ i, i < k → gLd a i ≠ q) : (-1 : Int) = ixT a q := by
  unfold ixT
  rw [if_neg]
  intro e
  obtain ⟨x, hx, hq⟩ := List.any_eq_true.1 e
  obtain ⟨j, hj, rfl⟩ := List.getElem_of_mem hx
  refine h j (by omega) ?_
  rw [gLd_eq hj]; exact of_decide_eq_true hq
theorem ne_s {a : List (List Dom)} {q : List Dom} {k : Nat} (h : ∀ i, i < k → gLd a i ≠ q) (h2 : gLd a k ≠ q) : ∀ i, i < k + 1 → gLd a i ≠ q := by
  intro i hi
  rcases Nat.lt_or_ge i k with h3 | h3
  · exact h i h3
  · rw [show i = k by omega]; exact h2

theorem qE4_sz_30 : (Try.prog.info? 30).map (·.size) = some 1 := by kernel_rfl
theorem qE4_ti_30 : TI Try.prog 30 false 1 := ⟨⟨_, Try.underlying30, rfl⟩, by kernel_rfl⟩
theorem qE4_un_28 : Try.prog.underlying 28 = some (.slice 30) := Try.underlying28
set_option maxHeartbeats 4000000 in
set_option maxRecDepth 100000 in
theorem impl_indexIn_fn (a : List (List Dom)) (q : List Dom) (ha : a.length ≤ 4194304) (hr : ∀ k, k < a.length → (gLd a k).length ≤ 4194304) (hq : q.length ≤ 4194304) : Fn Try.prog 56 [.a (.slvv 3 (vwD a)), .a (.slv q.length 3 (dsl q))] [.val (.int .i64 (ixT a q))] := by
 refine fn_intro (N := 19) Try.func56 rfl (by kernel_rfl) rfl (Nat.le_of_ble_eq_true rfl) [8, 16] (ret1 rfl) (fun W => ?_)
 show Wp _ _ _ [kV 0 (V.b (.a (.slvv 3 (vwD a)))), kV 1 (V.b (.a (.slv q.length 3 (dsl q)))), kF 8, kF 16]
 refine sq (rg (zk (nl (sq (sq (rg (zm ?_)))))))
 refine z ?_ (h := fun ν => lnD ν qE4_un_28)
 refine z ?_ (h := fun ν => mc ν)
 refine nl (bkk ?_)
 refine wp_loop' (fun (k : Nat) => k ≤ a.length ∧ ∀ i, i < k → gLd a i ≠ q) (fun (k : Nat) => [kV 1 (V.b (.a (.slv q.length 3 (dsl q)))), kV 7 (V.b (.a (.slvv 3 (vwD a)))), kI 8 ((a.length : Nat) : Int), kI 9 ((k : Nat) : Int), kF 8, kF 16]) (fun (k : Nat) => a.length - k) ((0 : Nat)) (by exact ⟨Nat.zero_le _, fun i hi => absurd hi (Nat.not_lt_zero i)⟩) (wkf id (wS <| wS <| wS <| wE (e := (vint (by first | rfl | omega | (simp; done) | (simp; omega)))) <| wF <| wF <| wN)) ?_
 rintro k inv1
 replace inv1 : k ≤ a.length ∧ ∀ i, i < k → gLd a i ≠ q := inv1
 obtain ⟨inv1_0, inv1_1⟩ := inv1
 refine sq (rg ?_)
 refine z ?_ (h := fun ν => acts_bin ν vt vt (r_lss rfl))
 refine nl (sq ?_)
 refine wi (fun c2 => ?_) (fun c2 => ?_)
 ·skip
  have c2P := of_decide_eq_true c2
  refine sk (sq (bkk (sq (rg (zm ?_)))))
  refine z ?_ (h := fun ν => xvv ν qE4_un_28 qE4_sz_30 vt (hlt := (by simp only [vwI_len, vwD_len]; first | omega | assumption | exact hr _ (by omega))))
  refine z ?_ (h := fun ν => lvD ν qE4_ti_30 (by first | omega | assumption | exact hr _ (by omega)))
  refine za (za (nl (sq (rg (zm (zm ?_))))))
  refine z ?_ (h := fun ν => acts_call1 ν (impl_SameDominoes_fn (gLd a k) q (by first | omega | assumption | exact hr _ (by omega)) (by first | omega | assumption | exact hr _ (by omega))) (ac (ArgV.slv _ _ _ _) (ac (ArgV.slv _ _ _ _) an)) rv)
  refine nl ?_
  refine wi (b := (decide ((gLd a k) = q))) (fun c3 => ?_) (fun c3 => ?_)
  ·skip
   refine sq (rg (zm (za (nl (wp_ret' ?_)))))
   exact VRes.tmp _ _ _ (by exact rfl) (bval (congrArg (Value.int .i64) (by exact ixT_yes (k := k) (by omega) (by assumption) (by first | assumption | exact of_decide_eq_true (by assumption)))))
  ·skip
   refine sk (rg ?_)
   refine z ?_ (h := fun ν => acts_bin ν vt vc (rA (by first | omega | assumption | exact hr _ (by omega)) (by first | omega | assumption | exact hr _ (by omega))))
   refine zm (nl ?_)
   exact loop_back ((k + 1)) (by exact ⟨by omega, ne_s (by assumption) (by first | assumption | exact of_decide_eq_false (by assumption))⟩) (by show a.length - (k + 1) < a.length - k; omega) (wkf id (wS <| wS <| wS <| wE (e := (vint (by first | rfl | omega | (simp; done) | (simp; omega)))) <| wF <| wF <| wN))
 ·skip
  have c2P := of_decide_eq_false c2
  refine wp_exit' (sq (rg (zk (nl (wp_ret' ?_)))))
  exact VRes.tmp _ _ _ (by exact rfl) (bval (congrArg (Value.int .i64) (by exact ixT_no (k := k) (by omega) (by assumption))))

end Cl
end Go.Proofs.Ytjgjeflidcembaa
