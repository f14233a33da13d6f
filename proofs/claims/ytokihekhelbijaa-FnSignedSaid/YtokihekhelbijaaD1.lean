/- Walks over clean states, printed by wg.py. No statement is proved here. -/
import Derived.Test.YtokihekhelbijaaC0
import Derived.Test.YtokihekhelbijaaClB
set_option linter.unusedSimpArgs false
set_option linter.unusedVariables false
namespace Go.Proofs.Ytokihekhelbijaa
namespace Cl
open Go.ChangeShapes Go.WideShapes Go.ChangeAt Go.RowKit
set_option maxRecDepth 20000

def nzN (r : List Int) (k : Nat) : Nat := ((r.take k).filter (fun x => decide (x ≠ 0))).length
theorem nzN_yes {r : List Int} {k : Nat} (h : k < r.length) (hx : gI r k ≠ 0) : nzN r (k + 1) = nzN r k + 1 := by
  unfold nzN; rw [List.take_succ_eq_append_getElem h, List.filter_append, List.length_append, ← gI_eq h]; simp [hx]
theorem nzN_no {r : List Int} {k : Nat} (h : k < r.length) (hx : gI r k = 0) : nzN r (k + 1) = nzN r k := by
  unfold nzN; rw [List.take_succ_eq_append_getElem h, List.filter_append, List.length_append, ← gI_eq h]; simp [hx]
theorem nzN_le (r : List Int) (k : Nat) : nzN r k ≤ k := by
  unfold nzN; exact Nat.le_trans (List.length_filter_le _ _) (by rw [List.length_take]; omega)
theorem nzN_zero (r : List Int) : nzN r 0 = 0 := by simp [nzN]
def rowOkB (n : Nat) (r : List Int) : Bool := decide (r.length = n) && (allIn r (-1) 1 && decide (nzN r r.length ≤ 4))
def sqB (m : List (List Int)) : Bool := m.all (rowOkB m.length) && decide (m.length ≤ 16)
theorem sqB_t {m : List (List Int)} {k : Nat} (hk : ¬ k < m.length) (h : ∀ i, i < k → rowOkB m.length (gLs m i) = true) : sqB m = decide (m.length ≤ 16) := by
  unfold sqB
  have : m.all (rowOkB m.length) = true := by
    rw [List.all_eq_true]
    intro r hr
    obtain ⟨i, hi, rfl⟩ := List.getElem_of_mem hr
    rw [← gLs_eq hi]; exact h i (by omega)
  rw [this]; rfl
theorem sqB_f {m : List (List Int)} {k : Nat} (hk : k < m.length) (h : rowOkB m.length (gLs m k) = false) : sqB m = false := by
  unfold sqB
  have : m.all (rowOkB m.length) = false := by
    rw [List.all_eq_false]
    exact ⟨m[k], List.getElem_mem hk, by rw [← gLs_eq hk, h]; simp⟩
  rw [this]; rfl
theorem sqB_s {m : List (List Int)} {k : Nat} (h : ∀ i, i < k → rowOkB m.length (gLs m i) = true) (h2 : rowOkB m.length (gLs m k) = true) : ∀ i, i < k + 1 → rowOkB m.length (gLs m i) = true := by
  intro i hi
  rcases Nat.lt_or_ge i k with h3 | h3
  · exact h i h3
  · rw [show i = k by omega]; exact h2
theorem row_or {n k : Nat} {r : List Int} {b : Bool} (hk : ¬ k < r.length) (hk2 : k ≤ r.length) (h : (decide ((r.length : Int) ≠ (n : Int)) || (!(allIn r (-1) 1) || decide (4 < (nzN r k : Int)))) = b) : rowOkB n r = !b := by
  have e : k = r.length := by omega
  subst e
  rw [← h]; unfold rowOkB
  by_cases h1 : r.length = n
  · rw [decide_eq_true h1, decide_eq_false (p := (r.length : Int) ≠ (n : Int)) (by omega)]
    cases allIn r (-1) 1
    · rfl
    · by_cases h2 : nzN r r.length ≤ 4
      · rw [decide_eq_true h2, decide_eq_false (by omega)]; rfl
      · rw [decide_eq_false h2, decide_eq_true (by omega)]; rfl
  · rw [decide_eq_false h1, decide_eq_true (p := (r.length : Int) ≠ (n : Int)) (by omega)]; rfl
theorem sq_in {x : Int} (h : inB x (-1) 1 = true) : (x * x = 0 ∧ x = 0) ∨ (x * x = 1 ∧ x ≠ 0) := by
  have := inB_true.1 h
  have : x = -1 ∨ x = 0 ∨ x = 1 := by omega
  rcases this with rfl | rfl | rfl <;> simp
theorem in_s {r : List Int} {k : Nat} (h : ∀ i, i < k → inB (gI r i) (-1) 1 = true) (h2 : inB (gI r k) (-1) 1 = true) : ∀ i, i < k + 1 → inB (gI r i) (-1) 1 = true := by
  intro i hi
  rcases Nat.lt_or_ge i k with h3 | h3
  · exact h i h3
  · rw [show i = k by omega]; exact h2
theorem in_all {r : List Int} {k : Nat} (hk : ¬ k < r.length) (h : ∀ i, i < k → inB (gI r i) (-1) 1 = true) : allIn r (-1) 1 = true := by
  unfold allIn; rw [List.all_eq_true]
  intro x hx
  obtain ⟨i, hi, rfl⟩ := List.getElem_of_mem hx
  rw [← gI_eq hi]; exact h i (by omega)
theorem in_none {r : List Int} {k : Nat} (hk : k < r.length) (h : inB (gI r k) (-1) 1 = false) : allIn r (-1) 1 = false := by
  unfold allIn; rw [List.all_eq_false]
  exact ⟨r[k], List.getElem_mem hk, by rw [← gI_eq hk, h]; simp⟩
theorem row_len {n : Nat} {r : List Int} (h : r.length ≠ n) : rowOkB n r = false := by unfold rowOkB; rw [decide_eq_false h]; rfl
theorem row_in {n : Nat} {r : List Int} (h : allIn r (-1) 1 = false) : rowOkB n r = false := by unfold rowOkB; rw [h]; simp
theorem row_end {n k : Nat} {r : List Int} (hn : r.length = n) (hk : ¬ k < n) (hk2 : k ≤ n) (h : ∀ i, i < k → inB (gI r i) (-1) 1 = true) : rowOkB n r = decide (nzN r k ≤ 4) := by
  have e : k = r.length := by omega
  subst e
  unfold rowOkB; rw [decide_eq_true hn, in_all (by omega) h]; rfl

theorem qD1_sz_24 : (Try.prog.info? 24).map (·.size) = some 1 := by kernel_rfl
theorem qD1_sz_3 : (Try.prog.info? 3).map (·.size) = some 1 := by kernel_rfl
theorem qD1_ti_24 : TI Try.prog 24 false 1 := ⟨⟨_, Try.underlying24, rfl⟩, by kernel_rfl⟩
theorem qD1_ti_3 : TI Try.prog 3 false 1 := ⟨⟨_, Try.underlying3, rfl⟩, by kernel_rfl⟩
theorem qD1_un_24 : Try.prog.underlying 24 = some (.slice 3) := Try.underlying24
theorem qD1_un_29 : Try.prog.underlying 29 = some (.slice 24) := Try.underlying29
set_option maxHeartbeats 4000000 in
set_option maxRecDepth 100000 in
theorem impl_SquareOk_fn (m : List (List Int)) (hm : m.length ≤ 4194304) (hr : ∀ k, k < m.length → (gLs m k).length ≤ 4194304) : Fn Try.prog 20 [.a (.slvv 1 (vwI m))] [.val (.bool (sqB m))] := by
 refine fn_intro (N := 43) Try.func20 rfl (by kernel_rfl) rfl (Nat.le_of_ble_eq_true rfl) [9, 15, 26, 28, 32, 41] (ret1 rfl) (fun W => ?_)
 show Wp _ _ _ [kV 0 (V.b (.a (.slvv 1 (vwI m)))), kF 9, kF 15, kF 26, kF 28, kF 32, kF 41]
 refine sq (rg (zk (nl (sq (sq (rg (zm ?_)))))))
 refine z ?_ (h := fun ν => lnI ν qD1_un_29)
 refine z ?_ (h := fun ν => mc ν)
 refine nl (bkk ?_)
 refine wp_loop' (fun (k : Nat) => k ≤ m.length ∧ ∀ i, i < k → rowOkB m.length (gLs m i) = true) (fun (k : Nat) => [kV 0 (V.b (.a (.slvv 1 (vwI m)))), kV 8 (V.b (.a (.slvv 1 (vwI m)))), kI 9 ((m.length : Nat) : Int), kI 10 ((k : Nat) : Int), kF 9, kF 15, kF 26, kF 28, kF 32, kF 41]) (fun (k : Nat) => m.length - k) ((0 : Nat)) (by exact ⟨Nat.zero_le _, fun i hi => absurd hi (Nat.not_lt_zero i)⟩) (wkf id (wS <| wS <| wS <| wE (e := (vint (by first | rfl | omega | (simp; done) | (simp; omega)))) <| wF <| wF <| wF <| wF <| wF <| wF <| wN)) ?_
 rintro k inv1
 replace inv1 : k ≤ m.length ∧ ∀ i, i < k → rowOkB m.length (gLs m i) = true := inv1
 obtain ⟨inv1_0, inv1_1⟩ := inv1
 refine sq (rg ?_)
 refine z ?_ (h := fun ν => acts_bin ν vt vt (r_lss rfl))
 refine nl (sq ?_)
 refine wi (fun c2 => ?_) (fun c2 => ?_)
 ·skip
  have c2P := of_decide_eq_true c2
  have hrk := hr k (by omega)
  refine sk (sq (bkk (sq (rg ?_))))
  refine z ?_ (h := fun ν => xvv ν qD1_un_29 qD1_sz_24 vt (hlt := (by simp only [vwI_len, vwD_len]; first | omega | assumption | exact hr k (by omega) | (have := nzN_le (gLs m k) j; omega))))
  refine z ?_ (h := fun ν => lvI ν qD1_ti_24 (by first | omega | assumption | exact hr k (by omega) | (have := nzN_le (gLs m k) j; omega)))
  refine za (nl (sq (rg (zk (nl (sq (sq (rg (zm ?_)))))))))
  refine z ?_ (h := fun ν => lnV ν qD1_un_24)
  refine z ?_ (h := fun ν => mc ν)
  refine nl (bkk ?_)
  refine wp_loop' (fun (j : Nat) => j ≤ (gLs m k).length) (fun (j : Nat) => [kV 0 (V.b (.a (.slvv 1 (vwI m)))), kV 4 (V.b (.a (.slv ((gLs m k).length) 1 (isl (gLs m k))))), kI 5 (((nzN (gLs m k) j) : Nat) : Int), kV 8 (V.b (.a (.slvv 1 (vwI m)))), kI 9 ((m.length : Nat) : Int), kI 10 ((k : Nat) : Int), kV 14 (V.b (.a (.slv ((gLs m k).length) 1 (isl (gLs m k))))), kI 15 (((gLs m k).length : Nat) : Int), kI 16 ((j : Nat) : Int), kF 9, kF 15, kF 26, kF 28, kF 32, kF 41]) (fun (j : Nat) => (gLs m k).length - j) ((0 : Nat)) (by exact (Nat.zero_le _ : 0 ≤ _)) (wkf id (wS <| wS <| wE (e := (vint (by first | rfl | omega | (rw [nzN_zero]; done) | (rw [nzN_yes (by omega) (by assumption)]; simp; done) | (rw [nzN_no (by omega) (by omega)]; done)))) <| wS <| wS <| wS <| wS <| wS <| wE (e := (vint (by first | rfl | omega | (rw [nzN_zero]; done) | (rw [nzN_yes (by omega) (by assumption)]; simp; done) | (rw [nzN_no (by omega) (by omega)]; done)))) <| wF <| wF <| wF <| wF <| wF <| wF <| wN)) ?_
  rintro j inv3
  replace inv3 : j ≤ (gLs m k).length := inv3
  have invj := inv3
  have hnz := nzN_le (gLs m k) j
  refine sq (rg ?_)
  refine z ?_ (h := fun ν => acts_bin ν vt vt (r_lss rfl))
  refine nl (sq ?_)
  refine wi (fun c4 => ?_) (fun c4 => ?_)
  ·skip
   have c4P := of_decide_eq_true c4
   refine sk (sq (bkk (sq (rg ?_))))
   refine z ?_ (h := fun ν => ixv ν qD1_un_24 qD1_sz_3 vt (hlt := (by first | omega | assumption | exact hr k (by omega) | (have := nzN_le (gLs m k) j; omega))))
   refine z ?_ (h := fun ν => uI ν qD1_ti_3 (by first | omega | assumption | exact hr k (by omega) | (have := nzN_le (gLs m k) j; omega)))
   refine za (nl (sq (rg (zm ?_))))
   refine z ?_ (h := fun ν => acts_bin ν vt vc (r_neq rfl))
   refine nl ?_
   refine wi (fun c5 => ?_) (fun c5 => ?_)
   ·skip
    have c5P := of_decide_eq_true c5
    refine rg (zm ?_)
    refine z ?_ (h := fun ν => acts_bin ν vt vc (rA (by first | omega | assumption | exact hr k (by omega) | (have := nzN_le (gLs m k) j; omega)) (by first | omega | assumption | exact hr k (by omega) | (have := nzN_le (gLs m k) j; omega))))
    refine za (nl (rg ?_))
    refine z ?_ (h := fun ν => acts_bin ν vt vc (rA (by first | omega | assumption | exact hr k (by omega) | (have := nzN_le (gLs m k) j; omega)) (by first | omega | assumption | exact hr k (by omega) | (have := nzN_le (gLs m k) j; omega))))
    refine zm (nl ?_)
    exact loop_back ((j + 1)) (by show _ ≤ _; omega) (by show (gLs m k).length - (j + 1) < (gLs m k).length - j; omega) (wkf id (wS <| wS <| wE (e := (vint (by first | rfl | omega | (rw [nzN_zero]; done) | (rw [nzN_yes (by omega) (by assumption)]; simp; done) | (rw [nzN_no (by omega) (by omega)]; done)))) <| wS <| wS <| wS <| wS <| wS <| wE (e := (vint (by first | rfl | omega | (rw [nzN_zero]; done) | (rw [nzN_yes (by omega) (by assumption)]; simp; done) | (rw [nzN_no (by omega) (by omega)]; done)))) <| wF <| wF <| wF <| wF <| wF <| wF <| wN))
   ·skip
    have c5P := of_decide_eq_false c5
    refine sk (rg ?_)
    refine z ?_ (h := fun ν => acts_bin ν vt vc (rA (by first | omega | assumption | exact hr k (by omega) | (have := nzN_le (gLs m k) j; omega)) (by first | omega | assumption | exact hr k (by omega) | (have := nzN_le (gLs m k) j; omega))))
    refine zm (nl ?_)
    exact loop_back ((j + 1)) (by show _ ≤ _; omega) (by show (gLs m k).length - (j + 1) < (gLs m k).length - j; omega) (wkf id (wS <| wS <| wE (e := (vint (by first | rfl | omega | (rw [nzN_zero]; done) | (rw [nzN_yes (by omega) (by assumption)]; simp; done) | (rw [nzN_no (by omega) (by omega)]; done)))) <| wS <| wS <| wS <| wS <| wS <| wE (e := (vint (by first | rfl | omega | (rw [nzN_zero]; done) | (rw [nzN_yes (by omega) (by assumption)]; simp; done) | (rw [nzN_no (by omega) (by omega)]; done)))) <| wF <| wF <| wF <| wF <| wF <| wF <| wN))
  ·skip
   have c4P := of_decide_eq_false c4
   refine wp_exit' (sq ?_)
   refine wp_join [kB 38 ((decide ((((gLs m k).length : Nat) : Int) ≠ ((m.length : Nat) : Int))) || ((!(allIn (gLs m k) (-1) 1)) || (decide (4 < (((nzN (gLs m k) j) : Nat) : Int))))), kV 0 (V.b (.a (.slvv 1 (vwI m)))), kV 8 (V.b (.a (.slvv 1 (vwI m)))), kI 9 ((m.length : Nat) : Int), kI 10 ((k : Nat) : Int), kF 9, kF 15, kF 26, kF 28, kF 32, kF 41] ?_ ?_
   ·skip
    rcases Bool.eq_false_or_eq_true (decide ((((gLs m k).length : Nat) : Int) ≠ ((m.length : Nat) : Int))) with c6 | c6
    ·skip
     have c6P := of_decide_eq_true c6
     refine rg (zm ?_)
     refine z ?_ (h := fun ν => lnV ν qD1_un_24)
     refine zm ?_
     refine z ?_ (h := fun ν => lnI ν qD1_un_29)
     refine z ?_ (h := fun ν => acts_bin ν vt vt (r_neq (c := true) c6))
     refine zm (zo (zo (zo ?_)))
     refine z ?_ (h := fun ν => acts_pick_t ν vt xc)
     refine zm (zo (zo ?_))
     refine z ?_ (h := fun ν => acts_pick_t ν vt xc)
     refine nl ?_
     exact ⟨rfl, weak_reads ⟨(by simp only [c6]; first | done | kernel_rfl), (by repeat (first | exact trivial | refine ⟨by kernel_rfl, ?_⟩))⟩⟩
    ·skip
     have c6P := of_decide_eq_false c6
     rcases Bool.eq_false_or_eq_true ((allIn (gLs m k) (-1) 1)) with c7 | c7
     ·skip
      refine rg (zm ?_)
      refine z ?_ (h := fun ν => lnV ν qD1_un_24)
      refine zm ?_
      refine z ?_ (h := fun ν => lnI ν qD1_un_29)
      refine z ?_ (h := fun ν => acts_bin ν vt vt (r_neq (c := false) c6))
      refine zm ?_
      refine zg ?_ (h := fun ν => step_on rfl rfl (mt ν))
      refine zg ?_ (h := fun ν => step_on rfl rfl (acts_call1 ν (impl_allWithin_fn (gLs m k) (-1) 1 (by first | omega | assumption | exact hr k (by omega) | (have := nzN_le (gLs m k) j; omega))) (ac (ArgV.slv _ _ _ _) (ac (ArgV.v vc) (ac (ArgV.v vc) an))) (resval (congrArg Value.bool c7))))
      refine zg ?_ (h := fun ν => step_on rfl rfl (acts_un ν vt (r_not (c := false) rfl)))
      refine z ?_ (h := fun ν => acts_pick_f ν vt xt)
      refine zm ?_
      refine zg ?_ (h := fun ν => step_on rfl rfl (mt ν))
      refine zg ?_ (h := fun ν => step_on rfl rfl (acts_bin ν vt vc (r_gtr rfl)))
      refine z ?_ (h := fun ν => acts_pick_f ν vt xt)
      refine nl ?_
      exact ⟨rfl, weak_reads ⟨(by simp only [c6, c7]; first | done | kernel_rfl), (by repeat (first | exact trivial | refine ⟨by kernel_rfl, ?_⟩))⟩⟩
     ·skip
      refine rg (zm ?_)
      refine z ?_ (h := fun ν => lnV ν qD1_un_24)
      refine zm ?_
      refine z ?_ (h := fun ν => lnI ν qD1_un_29)
      refine z ?_ (h := fun ν => acts_bin ν vt vt (r_neq (c := false) c6))
      refine zm ?_
      refine zg ?_ (h := fun ν => step_on rfl rfl (mt ν))
      refine zg ?_ (h := fun ν => step_on rfl rfl (acts_call1 ν (impl_allWithin_fn (gLs m k) (-1) 1 (by first | omega | assumption | exact hr k (by omega) | (have := nzN_le (gLs m k) j; omega))) (ac (ArgV.slv _ _ _ _) (ac (ArgV.v vc) (ac (ArgV.v vc) an))) (resval (congrArg Value.bool c7))))
      refine zg ?_ (h := fun ν => step_on rfl rfl (acts_un ν vt (r_not (c := true) rfl)))
      refine z ?_ (h := fun ν => acts_pick_f ν vt xt)
      refine zm (zo (zo ?_))
      refine z ?_ (h := fun ν => acts_pick_t ν vt xc)
      refine nl ?_
      exact ⟨rfl, weak_reads ⟨(by simp only [c6, c7]; first | done | kernel_rfl), (by repeat (first | exact trivial | refine ⟨by kernel_rfl, ?_⟩))⟩⟩
   refine wi (b := ((decide ((((gLs m k).length : Nat) : Int) ≠ ((m.length : Nat) : Int))) || ((!(allIn (gLs m k) (-1) 1)) || (decide (4 < (((nzN (gLs m k) j) : Nat) : Int)))))) (fun c8 => ?_) (fun c8 => ?_)
   ·skip
    have hro := row_or (n := m.length) (r := gLs m k) (k := j) (by omega) (by omega) c8
    have c9 := or_tt c8
    refine sq (rg (zk (nl (wp_ret' ?_))))
    exact VRes.tmp _ _ _ (by exact rfl) (bval (congrArg Value.bool (by exact (sqB_f (by omega) hro).symm)))
   ·skip
    have hro := row_or (n := m.length) (r := gLs m k) (k := j) (by omega) (by omega) c8
    obtain ⟨c10, c11⟩ := or_ff c8
    have c10P := of_decide_eq_false c10
    obtain ⟨c12, c13⟩ := or_ff c11
    have c14 : (allIn (gLs m k) (-1) 1) = true := by first | (rw [← Bool.not_eq_false']; exact c12) | simpa using c12
    have c13P := of_decide_eq_false c13
    refine sk (rg ?_)
    refine z ?_ (h := fun ν => acts_bin ν vt vc (rA (by first | omega | assumption | exact hr k (by omega) | (have := nzN_le (gLs m k) j; omega)) (by first | omega | assumption | exact hr k (by omega) | (have := nzN_le (gLs m k) j; omega))))
    refine zm (nl ?_)
    exact loop_back ((k + 1)) (by exact ⟨by omega, sqB_s (by assumption) hro⟩) (by show m.length - (k + 1) < m.length - k; omega) (wkf id (wS <| wS <| wS <| wE (e := (vint (by first | rfl | omega | (simp; done) | (simp; omega)))) <| wF <| wF <| wF <| wF <| wF <| wF <| wN))
 ·skip
  have c2P := of_decide_eq_false c2
  refine wp_exit' (sq (rg (zm ?_)))
  refine z ?_ (h := fun ν => lnI ν qD1_un_29)
  refine z ?_ (h := fun ν => acts_bin ν vt vc (r_leq rfl))
  refine za (nl (wp_ret' ?_))
  exact VRes.tmp _ _ _ (by exact rfl) (bval (congrArg Value.bool (by (rw [sqB_t (k := k) (by omega) (by assumption)]; first | rfl | (rw [decide_eq_decide]; omega)))))

set_option maxHeartbeats 4000000 in
set_option maxRecDepth 100000 in
theorem spec_SquareOk_fn (m : List (List Int)) (hm : m.length ≤ 4194304) (hr : ∀ k, k < m.length → (gLs m k).length ≤ 4194304) : Fn Try.prog 22 [.a (.slvv 1 (vwI m))] [.val (.bool (sqB m))] := by
 refine fn_intro (N := 57) Try.func22 rfl (by kernel_rfl) rfl (Nat.le_of_ble_eq_true rfl) [8, 16, 18, 22, 33, 55] (ret1 rfl) (fun W => ?_)
 show Wp _ _ _ [kV 0 (V.b (.a (.slvv 1 (vwI m)))), kF 8, kF 16, kF 18, kF 22, kF 33, kF 55]
 refine sq (rg (zk (nl (sq (sq (rg (zk (nl (bkk ?_)))))))))
 refine wp_loop' (fun (k : Nat) => k ≤ m.length ∧ ∀ i, i < k → rowOkB m.length (gLs m i) = true) (fun (k : Nat) => [kV 0 (V.b (.a (.slvv 1 (vwI m)))), kI 3 ((k : Nat) : Int), kF 8, kF 16, kF 18, kF 22, kF 33, kF 55]) (fun (k : Nat) => m.length - k) ((0 : Nat)) (by exact ⟨Nat.zero_le _, fun i hi => absurd hi (Nat.not_lt_zero i)⟩) (wkf id (wS <| wE (e := (vint (by first | rfl | omega | (simp; done) | (simp; omega)))) <| wF <| wF <| wF <| wF <| wF <| wF <| wN)) ?_
 rintro k inv1
 replace inv1 : k ≤ m.length ∧ ∀ i, i < k → rowOkB m.length (gLs m i) = true := inv1
 obtain ⟨inv1_0, inv1_1⟩ := inv1
 refine sq (sq (rg (zm (zm ?_))))
 refine z ?_ (h := fun ν => lnI ν qD1_un_29)
 refine z ?_ (h := fun ν => acts_bin ν vt vt (r_lss rfl))
 refine nl ?_
 refine wi (fun c2 => ?_) (fun c2 => ?_)
 ·skip
  have c2P := of_decide_eq_true c2
  have hrk := hr k (by omega)
  refine sk (sq (bkk (sq (sq (rg (zm (zm ?_)))))))
  refine z ?_ (h := fun ν => xvv ν qD1_un_29 qD1_sz_24 vt (hlt := (by simp only [vwI_len, vwD_len]; first | omega | assumption | exact hr k (by omega) | (have := nzN_le (gLs m k) j; omega))))
  refine z ?_ (h := fun ν => lvI ν qD1_ti_24 (by first | omega | assumption | exact hr k (by omega) | (have := nzN_le (gLs m k) j; omega)))
  refine z ?_ (h := fun ν => lnV ν qD1_un_24)
  refine zm ?_
  refine z ?_ (h := fun ν => lnI ν qD1_un_29)
  refine z ?_ (h := fun ν => acts_bin ν vt vt (r_neq rfl))
  refine nl ?_
  refine wi (fun c3 => ?_) (fun c3 => ?_)
  ·skip
   have c3P := of_decide_eq_true c3
   refine sq (rg (zk (nl (wp_ret' ?_))))
   exact VRes.tmp _ _ _ (by exact rfl) (bval (congrArg Value.bool (by exact (sqB_f (k := k) (by omega) (row_len (by omega))).symm)))
  ·skip
   have c3P := of_decide_eq_false c3
   refine sk (sq (rg (zk (nl (sq (sq (rg (zk (nl (bkk ?_))))))))))
   refine wp_loop' (fun (j : Nat) => j ≤ m.length ∧ ∀ i, i < j → inB (gI (gLs m k) i) (-1) 1 = true) (fun (j : Nat) => [kV 0 (V.b (.a (.slvv 1 (vwI m)))), kI 3 ((k : Nat) : Int), kI 4 (((nzN (gLs m k) j) : Nat) : Int), kI 5 ((j : Nat) : Int), kF 8, kF 16, kF 18, kF 22, kF 33, kF 55]) (fun (j : Nat) => m.length - j) ((0 : Nat)) (by exact ⟨Nat.zero_le _, fun i hi => absurd hi (Nat.not_lt_zero i)⟩) (wkf id (wS <| wS <| wE (e := (vint (by first | rfl | omega | (rw [nzN_zero]; done) | (rcases hsq with ⟨q1, q2⟩ | ⟨q1, q2⟩ <;> first | (rw [nzN_no (k := j) (by omega) q2]; omega) | (rw [nzN_yes (k := j) (by omega) q2]; omega))))) <| wE (e := (vint (by first | rfl | omega | (rw [nzN_zero]; done) | (rcases hsq with ⟨q1, q2⟩ | ⟨q1, q2⟩ <;> first | (rw [nzN_no (k := j) (by omega) q2]; omega) | (rw [nzN_yes (k := j) (by omega) q2]; omega))))) <| wF <| wF <| wF <| wF <| wF <| wF <| wN)) ?_
   rintro j inv4
   replace inv4 : j ≤ m.length ∧ ∀ i, i < j → inB (gI (gLs m k) i) (-1) 1 = true := inv4
   obtain ⟨inv4_0, inv4_1⟩ := inv4
   have hnz := nzN_le (gLs m k) j
   refine sq (sq (rg (zm (zm ?_))))
   refine z ?_ (h := fun ν => lnI ν qD1_un_29)
   refine z ?_ (h := fun ν => acts_bin ν vt vt (r_lss rfl))
   refine nl ?_
   refine wi (fun c5 => ?_) (fun c5 => ?_)
   ·skip
    have c5P := of_decide_eq_true c5
    refine sk (sq (bkk (sq (sq (rg (zm (zm ?_)))))))
    refine z ?_ (h := fun ν => xvv ν qD1_un_29 qD1_sz_24 vt (hlt := (by simp only [vwI_len, vwD_len]; first | omega | assumption | exact hr k (by omega) | (have := nzN_le (gLs m k) j; omega))))
    refine z ?_ (h := fun ν => lvI ν qD1_ti_24 (by first | omega | assumption | exact hr k (by omega) | (have := nzN_le (gLs m k) j; omega)))
    refine zm ?_
    refine z ?_ (h := fun ν => ixv ν qD1_un_24 qD1_sz_3 vt (hlt := (by first | omega | assumption | exact hr k (by omega) | (have := nzN_le (gLs m k) j; omega))))
    refine z ?_ (h := fun ν => uI ν qD1_ti_3 (by first | omega | assumption | exact hr k (by omega) | (have := nzN_le (gLs m k) j; omega)))
    refine z ?_ (h := fun ν => acts_call1 ν (spec_l01In_fn (gI (gLs m k) j) (-1) 1 ) (ac (ArgV.v vt) (ac (ArgV.v vc) (ac (ArgV.v vc) an))) rv)
    refine z ?_ (h := fun ν => acts_un ν vt (r_not rfl))
    refine nl ?_
    refine wi (b := (!(inB (gI (gLs m k) j) (-1) 1))) (fun c6 => ?_) (fun c6 => ?_)
    ·skip
     have c7 : (inB (gI (gLs m k) j) (-1) 1) = false := by first | (rw [← Bool.not_eq_true']; exact c6) | simpa using c6
     have hin := in_none (by omega) c7
     refine sq (rg (zk (nl (wp_ret' ?_))))
     exact VRes.tmp _ _ _ (by exact rfl) (bval (congrArg Value.bool (by exact (sqB_f (k := k) (by omega) (row_in hin)).symm)))
    ·skip
     have c8 : (inB (gI (gLs m k) j) (-1) 1) = true := by first | (rw [← Bool.not_eq_false']; exact c6) | simpa using c6
     have hQ := inB_true.1 c8
     have hsq := sq_in c8
     refine sk (wp_dr (zdm (zdm (zdm ?_))))
     refine zd ?_ (h := fun ν => xvv ν qD1_un_29 qD1_sz_24 vt (hlt := (by simp only [vwI_len, vwD_len]; first | omega | assumption | exact hr k (by omega) | (have := nzN_le (gLs m k) j; omega))))
     refine zd ?_ (h := fun ν => lvI ν qD1_ti_24 (by first | omega | assumption | exact hr k (by omega) | (have := nzN_le (gLs m k) j; omega)))
     refine zdm ?_
     refine zd ?_ (h := fun ν => ixv ν qD1_un_24 qD1_sz_3 vt (hlt := (by first | omega | assumption | exact hr k (by omega) | (have := nzN_le (gLs m k) j; omega))))
     refine zd ?_ (h := fun ν => uI ν qD1_ti_3 (by first | omega | assumption | exact hr k (by omega) | (have := nzN_le (gLs m k) j; omega)))
     refine zdm (zdm ?_)
     refine zd ?_ (h := fun ν => xvv ν qD1_un_29 qD1_sz_24 vt (hlt := (by simp only [vwI_len, vwD_len]; first | omega | assumption | exact hr k (by omega) | (have := nzN_le (gLs m k) j; omega))))
     refine zd ?_ (h := fun ν => lvI ν qD1_ti_24 (by first | omega | assumption | exact hr k (by omega) | (have := nzN_le (gLs m k) j; omega)))
     refine zdm ?_
     refine zd ?_ (h := fun ν => ixv ν qD1_un_24 qD1_sz_3 vt (hlt := (by first | omega | assumption | exact hr k (by omega) | (have := nzN_le (gLs m k) j; omega))))
     refine zd ?_ (h := fun ν => uI ν qD1_ti_3 (by first | omega | assumption | exact hr k (by omega) | (have := nzN_le (gLs m k) j; omega)))
     refine zd ?_ (h := fun ν => acts_bin ν vt vt (rM (by first | omega | assumption | exact hr k (by omega) | (have := nzN_le (gLs m k) j; omega)) (by first | omega | assumption | exact hr k (by omega) | (have := nzN_le (gLs m k) j; omega))))
     refine zd ?_ (h := fun ν => acts_bin ν vt vt (rA (by first | omega | assumption | exact hr k (by omega) | (have := nzN_le (gLs m k) j; omega)) (by first | omega | assumption | exact hr k (by omega) | (have := nzN_le (gLs m k) j; omega))))
     refine zd ?_ (h := fun ν => gt ν)
     refine dw_nil (rg (zm ?_))
     refine z ?_ (h := fun ν => acts_bin ν vt vc (rA (by first | omega | assumption | exact hr k (by omega) | (have := nzN_le (gLs m k) j; omega)) (by first | omega | assumption | exact hr k (by omega) | (have := nzN_le (gLs m k) j; omega))))
     refine za (nl ?_)
     exact loop_back ((j + 1)) (by exact ⟨by omega, in_s (by assumption) (by assumption)⟩) (by show m.length - (j + 1) < m.length - j; omega) (wkf id (wS <| wS <| wE (e := (vint (by first | rfl | omega | (rw [nzN_zero]; done) | (rcases hsq with ⟨q1, q2⟩ | ⟨q1, q2⟩ <;> first | (rw [nzN_no (k := j) (by omega) q2]; omega) | (rw [nzN_yes (k := j) (by omega) q2]; omega))))) <| wE (e := (vint (by first | rfl | omega | (rw [nzN_zero]; done) | (rcases hsq with ⟨q1, q2⟩ | ⟨q1, q2⟩ <;> first | (rw [nzN_no (k := j) (by omega) q2]; omega) | (rw [nzN_yes (k := j) (by omega) q2]; omega))))) <| wF <| wF <| wF <| wF <| wF <| wF <| wN))
   ·skip
    have c5P := of_decide_eq_false c5
    refine wp_exit' (sq (rg (zm ?_)))
    refine z ?_ (h := fun ν => acts_bin ν vt vc (r_gtr rfl))
    refine nl ?_
    refine wi (fun c9 => ?_) (fun c9 => ?_)
    ·skip
     have c9P := of_decide_eq_true c9
     refine sq (rg (zk (nl (wp_ret' ?_))))
     exact VRes.tmp _ _ _ (by exact rfl) (bval (congrArg Value.bool (by exact (sqB_f (k := k) (by omega) (by rw [row_end (k := j) (by omega) (by omega) (by assumption) (by assumption)]; exact decide_eq_false (by omega))).symm)))
    ·skip
     have c9P := of_decide_eq_false c9
     refine sk (rg (zm ?_))
     refine z ?_ (h := fun ν => acts_bin ν vt vc (rA (by first | omega | assumption | exact hr k (by omega) | (have := nzN_le (gLs m k) j; omega)) (by first | omega | assumption | exact hr k (by omega) | (have := nzN_le (gLs m k) j; omega))))
     refine za (nl ?_)
     exact loop_back ((k + 1)) (by exact ⟨by omega, sqB_s (by assumption) (by rw [row_end (k := j) (by omega) (by omega) (by assumption) (by assumption)]; exact decide_eq_true (by omega))⟩) (by show m.length - (k + 1) < m.length - k; omega) (wkf id (wS <| wE (e := (vint (by first | rfl | omega | (simp; done) | (simp; omega)))) <| wF <| wF <| wF <| wF <| wF <| wF <| wN))
 ·skip
  have c2P := of_decide_eq_false c2
  refine wp_exit' (sq (rg (zm ?_)))
  refine z ?_ (h := fun ν => lnI ν qD1_un_29)
  refine z ?_ (h := fun ν => acts_bin ν vt vc (r_leq rfl))
  refine za (nl (wp_ret' ?_))
  exact VRes.tmp _ _ _ (by exact rfl) (bval (congrArg Value.bool (by (rw [sqB_t (k := k) (by omega) (by assumption)]; first | rfl | (rw [decide_eq_decide]; omega)))))
end Cl
end Go.Proofs.Ytokihekhelbijaa
