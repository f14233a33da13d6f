/- Walks over clean states, printed by wg.py. No statement is proved here. -/
import Derived.Test.YtonlghbbdcddoaaC25
import Derived.Test.YtonlghbbdcddoaaClB
namespace Go.Proofs.Ytonlghbbdcddoaa
namespace Cl
open Go.ChangeShapes Go.WideShapes Go.ChangeAt Go.RowKit
set_option maxRecDepth 20000

theorem tch_yes {s x y : Nat} (hx : x < 7) (hy : y < 7) (h : tq s x y = true) : tchS s = true := by
  unfold tchS
  exact List.any_eq_true.2 ⟨y, List.mem_range.2 hy, List.any_eq_true.2 ⟨x, List.mem_range.2 hx, h⟩⟩
def tqR (s b a : Nat) : Bool := (List.range b).any fun x => tq s x a
def tqT (s a : Nat) : Bool := (List.range a).any fun y => tqR s 7 y
theorem tqR_snoc {s a b : Nat} (h : tqR s b a = false) (h2 : tq s b a = false) : tqR s (b + 1) a = false := by
  unfold tqR at *; rw [List.range_succ, List.any_append, h]; simp [h2]
theorem tqT_snoc {s a : Nat} (h : tqT s a = false) (h2 : tqR s 7 a = false) : tqT s (a + 1) = false := by
  unfold tqT at *; rw [List.range_succ, List.any_append, h]; simp [h2]
theorem tqT_end {s : Nat} (h : tqT s 7 = false) : tchS s = false := h
theorem tq_def (s x y : Nat) : tq s x y = ((decide (hasS s ⟨x, y⟩ = hasS s ⟨x + 1, y + 1⟩) && decide (hasS s ⟨x + 1, y⟩ = hasS s ⟨x, y + 1⟩)) && !decide (hasS s ⟨x, y⟩ = hasS s ⟨x + 1, y⟩)) := rfl
theorem tq_R {l : List Int} (ho : regOk l = true) {x y : Nat} (hx : x < 7) (hy : y < 7) : tq (regSet l) x y = ((decide (hasR l ⟨x, y⟩ = hasR l ⟨x + 1, y + 1⟩) && decide (hasR l ⟨x + 1, y⟩ = hasR l ⟨x, y + 1⟩)) && !decide (hasR l ⟨x, y⟩ = hasR l ⟨x + 1, y⟩)) := by
  rw [tq_def]
  rw [hasR_S ho (okc_true.2 (by simp only; omega)), hasR_S ho (okc_true.2 (by simp only; omega)), hasR_S ho (okc_true.2 (by simp only; omega)), hasR_S ho (okc_true.2 (by simp only; omega))]
theorem tq_j (s x y : Nat) : (decide (hasS s ⟨x, y⟩ = hasS s ⟨x + 1, y + 1⟩) && (decide (hasS s ⟨x + 1, y⟩ = hasS s ⟨x, y + 1⟩) && decide (hasS s ⟨x, y⟩ ≠ hasS s ⟨x + 1, y⟩))) = tq s x y := by
  rw [tq_def, Bool.and_assoc, decide_not]
theorem tq_jR {l : List Int} (ho : regOk l = true) {x y : Nat} (hx : x < 7) (hy : y < 7) : (decide (hasR l ⟨x, y⟩ = hasR l ⟨x + 1, y + 1⟩) && (decide (hasR l ⟨x + 1, y⟩ = hasR l ⟨x, y + 1⟩) && decide (hasR l ⟨x, y⟩ ≠ hasR l ⟨x + 1, y⟩))) = tq (regSet l) x y := by
  rw [tq_R ho hx hy, Bool.and_assoc, decide_not]
theorem simB_1 {l : List Int} (h : regOk l = false) : simB l = false := by unfold simB; rw [h]; rfl
theorem simB_2 {l : List Int} (h : ((pcN l : Nat) : Int) ≠ 1) : simB l = false := by
  rcases Bool.eq_false_or_eq_true (regOk l) with h1 | h1
  · rw [pcN_yes h1] at h
    unfold simB; rw [decide_eq_false (fun e => h (by rw [e]; rfl)), Bool.false_and, Bool.and_false]
  · exact simB_1 h1
theorem simB_3 {l : List Int} (h : hol l ≠ 0) : simB l = false := by
  rcases Bool.eq_false_or_eq_true (regOk l) with h1 | h1
  · have h2 : ¬ holesN (regSet l) = 1 := fun e => h (by unfold hol; rw [if_pos h1, e]; rfl)
    unfold simB; rw [decide_eq_false h2, Bool.false_and, Bool.and_false, Bool.and_false]
  · exact simB_1 h1
theorem simB_4 {l : List Int} (h : tchS (regSet l) = true) : simB l = false := by
  unfold simB; rw [h]; simp
theorem simB_5 {l : List Int} (h1 : regOk l = true) (h2 : ¬ ((pcN l : Nat) : Int) ≠ 1) (h3 : ¬ hol l ≠ 0) (h4 : tchS (regSet l) = false) : simB l = true := by
  rw [pcN_yes h1] at h2
  have e2 : piecesN (regSet l) = 1 := by omega
  have e3 : holesN (regSet l) = 1 := by
    unfold hol at h3; rw [if_pos h1] at h3; omega
  unfold simB; rw [h1, h4, e2, e3]; rfl
theorem simB_7 {l : List Int} (h : ((!(regOk l)) || (decide (((pcN l : Nat) : Int) ≠ 1) || decide (hol l ≠ 0))) = true) : simB l = false := by
  simp only [Bool.or_eq_true, Bool.not_eq_true', decide_eq_true_eq] at h
  rcases h with h | h | h
  · exact simB_1 h
  · exact simB_2 h
  · exact simB_3 h
theorem simB_6 {l : List Int} (h1 : regOk l = true) (h2 : ((pcN l : Nat) : Int) = 1) (h3 : hol l = 0) : simB l = !(tchS (regSet l)) := by
  cases h4 : tchS (regSet l)
  · exact simB_5 h1 (by omega) (by omega) h4
  · exact simB_4 h4

theorem qC26_bs_46 : ∀ (a b : Int), Try.prog.built 46 [(0, .int .i64 a), (1, .int .i64 b)] = some ([.int .i64 a, .int .i64 b] : List Value).toArray := fun _ _ => rfl
theorem qC26_ti_29 : TI Try.prog 29 true 1 := ⟨⟨_, Try.underlying29, rfl⟩, by kernel_rfl⟩
theorem qC26_un_4 : Try.prog.underlying 4 = some .bool := Try.underlying4
set_option maxHeartbeats 4000000 in
set_option maxRecDepth 100000 in
theorem impl_IsSimple_fn (l : List Int) (hl : l.length ≤ 4194304) : Fn Try.prog 37 [.agg [(.slv l.length 1 (isl l) : A)]] [.val (.bool (simB l))] := by
 refine fn_intro (N := 70) Try.func37 rfl (by kernel_rfl) rfl (Nat.le_of_ble_eq_true rfl) [1, 11, 15, 20, 24, 35, 41, 47, 54] (ret1 rfl) (fun W => ?_)
 show Wp _ _ _ [kV 0 (V.b (.agg [(.slv l.length 1 (isl l) : A)])), kF 1, kF 11, kF 15, kF 20, kF 24, kF 35, kF 41, kF 47, kF 54]
 refine sq (rg ?_)
 refine z ?_ (h := fun ν => acts_box (h := 1) ν xt (by exact ob1 rfl))
 refine zk (nl (sq (sq ?_)))
 refine wp_join [kB 22 ((!(regOk l)) || ((decide ((((pcN l) : Nat) : Int) ≠ 1)) || (decide ((hol l) ≠ 0)))), kP 1 1 0, kO 1 29 1 true [(.slv l.length 1 (isl l) : A)], kF 11, kF 15, kF 20, kF 24, kF 35, kF 41, kF 47, kF 54] ?_ ?_
 ·skip
  rcases Bool.eq_false_or_eq_true ((regOk l)) with c1 | c1
  ·skip
   rcases Bool.eq_false_or_eq_true (decide ((((pcN l) : Nat) : Int) ≠ 1)) with c2 | c2
   ·skip
    have c2P := of_decide_eq_true c2
    refine rg ?_
    refine z ?_ (h := fun ν => acts_load_owns (xs := [(.slv l.length 1 (isl l) : A)]) ν qC26_ti_29 rfl (by decide) rfl)
    refine z ?_ (h := fun ν => acts_call1 ν (impl_RegionOk_fn l (by omega)) (ac (ArgV.regv _ _ 1 _) an) (resval (congrArg Value.bool c1)))
    refine z ?_ (h := fun ν => acts_un ν vt (r_not (c := false) rfl))
    refine zm ?_
    refine zg ?_ (h := fun ν => step_on rfl rfl (acts_load_owns (xs := [(.slv l.length 1 (isl l) : A)]) ν qC26_ti_29 rfl (by decide) rfl))
    refine zg ?_ (h := fun ν => step_on rfl rfl (acts_call1 ν (impl_CountPieces_fn l (by omega)) (ac (ArgV.regv _ _ 1 _) an) rv))
    refine zg ?_ (h := fun ν => step_on rfl rfl (acts_bin ν vt vc (r_neq (c := true) c2)))
    refine z ?_ (h := fun ν => acts_pick_f ν vt xt)
    refine zm (zo (zo (zo ?_)))
    refine z ?_ (h := fun ν => acts_pick_t ν vt xc)
    refine nl ?_
    exact ⟨rfl, weak_reads ⟨(by simp only [c1, c2]; first | done | kernel_rfl), (by repeat (first | exact trivial | refine ⟨by kernel_rfl, ?_⟩))⟩⟩
   ·skip
    have c2P := of_decide_eq_false c2
    refine rg ?_
    refine z ?_ (h := fun ν => acts_load_owns (xs := [(.slv l.length 1 (isl l) : A)]) ν qC26_ti_29 rfl (by decide) rfl)
    refine z ?_ (h := fun ν => acts_call1 ν (impl_RegionOk_fn l (by omega)) (ac (ArgV.regv _ _ 1 _) an) (resval (congrArg Value.bool c1)))
    refine z ?_ (h := fun ν => acts_un ν vt (r_not (c := false) rfl))
    refine zm ?_
    refine zg ?_ (h := fun ν => step_on rfl rfl (acts_load_owns (xs := [(.slv l.length 1 (isl l) : A)]) ν qC26_ti_29 rfl (by decide) rfl))
    refine zg ?_ (h := fun ν => step_on rfl rfl (acts_call1 ν (impl_CountPieces_fn l (by omega)) (ac (ArgV.regv _ _ 1 _) an) rv))
    refine zg ?_ (h := fun ν => step_on rfl rfl (acts_bin ν vt vc (r_neq (c := false) c2)))
    refine z ?_ (h := fun ν => acts_pick_f ν vt xt)
    refine zm ?_
    refine zg ?_ (h := fun ν => step_on rfl rfl (acts_load_owns (xs := [(.slv l.length 1 (isl l) : A)]) ν qC26_ti_29 rfl (by decide) rfl))
    refine zg ?_ (h := fun ν => step_on rfl rfl (acts_call1 ν (impl_CountHoles_fn l (by omega)) (ac (ArgV.regv _ _ 1 _) an) rv))
    refine zg ?_ (h := fun ν => step_on rfl rfl (acts_bin ν vt vc (r_neq rfl)))
    refine z ?_ (h := fun ν => acts_pick_f ν vt xt)
    refine nl ?_
    exact ⟨rfl, weak_reads ⟨(by simp only [c1, c2]; first | done | kernel_rfl), (by repeat (first | exact trivial | refine ⟨by kernel_rfl, ?_⟩))⟩⟩
  ·skip
   refine rg ?_
   refine z ?_ (h := fun ν => acts_load_owns (xs := [(.slv l.length 1 (isl l) : A)]) ν qC26_ti_29 rfl (by decide) rfl)
   refine z ?_ (h := fun ν => acts_call1 ν (impl_RegionOk_fn l (by omega)) (ac (ArgV.regv _ _ 1 _) an) (resval (congrArg Value.bool c1)))
   refine z ?_ (h := fun ν => acts_un ν vt (r_not (c := true) rfl))
   refine zm (zo (zo (zo ?_)))
   refine z ?_ (h := fun ν => acts_pick_t ν vt xc)
   refine zm (zo (zo (zo ?_)))
   refine z ?_ (h := fun ν => acts_pick_t ν vt xc)
   refine nl ?_
   exact ⟨rfl, weak_reads ⟨(by simp only [c1]; first | done | kernel_rfl), (by repeat (first | exact trivial | refine ⟨by kernel_rfl, ?_⟩))⟩⟩
 refine wi (b := ((!(regOk l)) || ((decide ((((pcN l) : Nat) : Int) ≠ 1)) || (decide ((hol l) ≠ 0))))) (fun c3 => ?_) (fun c3 => ?_)
 ·skip
  have c4 := or_tt c3
  refine sq (rg (zk (nl (wp_ret' ?_))))
  exact VRes.tmp _ _ _ (by exact rfl) (bval (congrArg Value.bool (by exact (simB_7 (by assumption)).symm)))
 ·skip
  obtain ⟨c5, c6⟩ := or_ff c3
  have c7 : (regOk l) = true := by first | (rw [← Bool.not_eq_false']; exact c5) | simpa using c5
  obtain ⟨c8, c9⟩ := or_ff c6
  have c8P := of_decide_eq_false c8
  have c9P := of_decide_eq_false c9
  refine sk (sq (rg ?_))
  refine z ?_ (h := fun ν => acts_load_owns (xs := [(.slv l.length 1 (isl l) : A)]) ν qC26_ti_29 rfl (by decide) rfl)
  refine z ?_ (h := fun ν => acts_call1 ν (impl_Region__set_fn l (by omega)) (ac (ArgV.regv _ _ 1 _) an) rv)
  refine za (nl (sq (sq (rg ?_))))
  refine z ?_ (h := fun ν => mc ν)
  refine nl (bkk ?_)
  refine wp_loop' (fun (a : Nat) => a ≤ 7 ∧ tqT (regSet l) a = false) (fun (a : Nat) => [kU 3 (((regSet l) : Nat) : Int), kI 25 ((a : Nat) : Int), kF 1, kF 11, kF 15, kF 20, kF 24, kF 35, kF 41, kF 47, kF 54]) (fun (a : Nat) => 7 - a) ((0 : Nat)) (by exact ⟨Nat.zero_le _, rfl⟩) (wkf id (wS <| wE (e := (vint (by rfl))) <| by (iterate 9 refine wF ?_); exact wN)) ?_
  rintro a inv10
  replace inv10 : a ≤ 7 ∧ tqT (regSet l) a = false := inv10
  obtain ⟨inv10_0, inv10_1⟩ := inv10
  refine sq (rg ?_)
  refine z ?_ (h := fun ν => acts_bin ν vt vc (r_lss rfl))
  refine nl (sq ?_)
  refine wi (fun c11 => ?_) (fun c11 => ?_)
  ·skip
   have c11P := of_decide_eq_true c11
   refine sk (sq (bkk (sq (rg (zm (za (nl (sq (rg ?_)))))))))
   refine z ?_ (h := fun ν => mc ν)
   refine nl (bkk ?_)
   refine wp_loop' (fun (b : Nat) => b ≤ 7 ∧ tqR (regSet l) b a = false) (fun (b : Nat) => [kU 3 (((regSet l) : Nat) : Int), kI 4 ((a : Nat) : Int), kI 25 ((a : Nat) : Int), kI 28 ((b : Nat) : Int), kF 1, kF 11, kF 15, kF 20, kF 24, kF 35, kF 41, kF 47, kF 54]) (fun (b : Nat) => 7 - b) ((0 : Nat)) (by exact ⟨Nat.zero_le _, rfl⟩) (wkf id (wS <| wS <| wS <| wE (e := (vint (by rfl))) <| by (iterate 9 refine wF ?_); exact wN)) ?_
   rintro b inv12
   replace inv12 : b ≤ 7 ∧ tqR (regSet l) b a = false := inv12
   obtain ⟨inv12_0, inv12_1⟩ := inv12
   refine sq (rg ?_)
   refine z ?_ (h := fun ν => acts_bin ν vt vc (r_lss rfl))
   refine nl (sq ?_)
   refine wi (fun c13 => ?_) (fun c13 => ?_)
   ·skip
    have c13P := of_decide_eq_true c13
    refine sk (sq (bkk (sq (rg (zm (za (nl (sq (rg (zm (zm (zm ?_))))))))))))
    refine z ?_ (h := fun ν => bC ν qC26_bs_46 vt vt)
    refine z ?_ (h := fun ν => acts_call1 ν (impl_set__has_fn (regSet l) (⟨((b : Nat) : Int), ((a : Nat) : Int)⟩ : Cel) (by exact regSet_lt (by assumption))) (ac (ArgV.v vt) (ac (ArgV.va va) an)) rv)
    refine zm (zm ?_)
    refine z ?_ (h := fun ν => acts_bin ν vt vc (rA (by omega) (by omega)))
    refine zm ?_
    refine z ?_ (h := fun ν => bC ν qC26_bs_46 vt vt)
    refine z ?_ (h := fun ν => acts_call1 ν (impl_set__has_fn (regSet l) (⟨(((b : Nat) : Int) + 1), ((a : Nat) : Int)⟩ : Cel) (by exact regSet_lt (by assumption))) (ac (ArgV.v vt) (ac (ArgV.va va) an)) rv)
    refine zm (zm (zm ?_))
    refine z ?_ (h := fun ν => acts_bin ν vt vc (rA (by omega) (by omega)))
    refine z ?_ (h := fun ν => bC ν qC26_bs_46 vt vt)
    refine z ?_ (h := fun ν => acts_call1 ν (impl_set__has_fn (regSet l) (⟨((b : Nat) : Int), (((a : Nat) : Int) + 1)⟩ : Cel) (by exact regSet_lt (by assumption))) (ac (ArgV.v vt) (ac (ArgV.va va) an)) rv)
    refine zm (zm ?_)
    refine z ?_ (h := fun ν => acts_bin ν vt vc (rA (by omega) (by omega)))
    refine zm ?_
    refine z ?_ (h := fun ν => acts_bin ν vt vc (rA (by omega) (by omega)))
    refine z ?_ (h := fun ν => bC ν qC26_bs_46 vt vt)
    refine z ?_ (h := fun ν => acts_call1 ν (impl_set__has_fn (regSet l) (⟨(((b : Nat) : Int) + 1), (((a : Nat) : Int) + 1)⟩ : Cel) (by exact regSet_lt (by assumption))) (ac (ArgV.v vt) (ac (ArgV.va va) an)) rv)
    refine za (za (za (za (nl (sq ?_)))))
    refine wp_join [kB 67 ((decide ((hasS (regSet l) (⟨((b : Nat) : Int), ((a : Nat) : Int)⟩ : Cel)) = (hasS (regSet l) (⟨(((b : Nat) : Int) + 1), (((a : Nat) : Int) + 1)⟩ : Cel)))) && ((decide ((hasS (regSet l) (⟨(((b : Nat) : Int) + 1), ((a : Nat) : Int)⟩ : Cel)) = (hasS (regSet l) (⟨((b : Nat) : Int), (((a : Nat) : Int) + 1)⟩ : Cel)))) && (decide ((hasS (regSet l) (⟨((b : Nat) : Int), ((a : Nat) : Int)⟩ : Cel)) ≠ (hasS (regSet l) (⟨(((b : Nat) : Int) + 1), ((a : Nat) : Int)⟩ : Cel)))))), kU 3 (((regSet l) : Nat) : Int), kI 4 ((a : Nat) : Int), kI 25 ((a : Nat) : Int), kI 28 ((b : Nat) : Int), kF 1, kF 11, kF 15, kF 20, kF 24, kF 35, kF 41, kF 47, kF 54] ?_ ?_
    ·skip
     rcases Bool.eq_false_or_eq_true (decide ((hasS (regSet l) (⟨((b : Nat) : Int), ((a : Nat) : Int)⟩ : Cel)) = (hasS (regSet l) (⟨(((b : Nat) : Int) + 1), (((a : Nat) : Int) + 1)⟩ : Cel)))) with c14 | c14
     ·skip
      have c14P := of_decide_eq_true c14
      rcases Bool.eq_false_or_eq_true (decide ((hasS (regSet l) (⟨(((b : Nat) : Int) + 1), ((a : Nat) : Int)⟩ : Cel)) = (hasS (regSet l) (⟨((b : Nat) : Int), (((a : Nat) : Int) + 1)⟩ : Cel)))) with c15 | c15
      ·skip
       have c15P := of_decide_eq_true c15
       refine rg (zm (zm ?_))
       refine z ?_ (h := fun ν => acts_bin ν vt vt (r_beql (c := true) qC26_un_4 c14))
       refine zm ?_
       refine zg ?_ (h := fun ν => step_on rfl rfl (mt ν))
       refine zg ?_ (h := fun ν => step_on rfl rfl (mt ν))
       refine zg ?_ (h := fun ν => step_on rfl rfl (acts_bin ν vt vt (r_beql (c := true) qC26_un_4 c15)))
       refine z ?_ (h := fun ν => acts_pick_t ν vt xt)
       refine zm ?_
       refine zg ?_ (h := fun ν => step_on rfl rfl (mt ν))
       refine zg ?_ (h := fun ν => step_on rfl rfl (mt ν))
       refine zg ?_ (h := fun ν => step_on rfl rfl (acts_bin ν vt vt (r_bneq (c := (decide ((hasS (regSet l) (⟨((b : Nat) : Int), ((a : Nat) : Int)⟩ : Cel)) ≠ (hasS (regSet l) (⟨(((b : Nat) : Int) + 1), ((a : Nat) : Int)⟩ : Cel))))) qC26_un_4 rfl)))
       refine z ?_ (h := fun ν => acts_pick_t ν vt xt)
       refine nl ?_
       exact ⟨rfl, weak_reads ⟨(by simp only [c14, c15]; first | done | kernel_rfl), (by repeat (first | exact trivial | refine ⟨by kernel_rfl, ?_⟩))⟩⟩
      ·skip
       have c15P := of_decide_eq_false c15
       refine rg (zm (zm ?_))
       refine z ?_ (h := fun ν => acts_bin ν vt vt (r_beql (c := true) qC26_un_4 c14))
       refine zm ?_
       refine zg ?_ (h := fun ν => step_on rfl rfl (mt ν))
       refine zg ?_ (h := fun ν => step_on rfl rfl (mt ν))
       refine zg ?_ (h := fun ν => step_on rfl rfl (acts_bin ν vt vt (r_beql (c := false) qC26_un_4 c15)))
       refine z ?_ (h := fun ν => acts_pick_t ν vt xt)
       refine zm (zo (zo (zo ?_)))
       refine z ?_ (h := fun ν => acts_pick_f ν vt xc)
       refine nl ?_
       exact ⟨rfl, weak_reads ⟨(by simp only [c14, c15]; first | done | kernel_rfl), (by repeat (first | exact trivial | refine ⟨by kernel_rfl, ?_⟩))⟩⟩
     ·skip
      have c14P := of_decide_eq_false c14
      refine rg (zm (zm ?_))
      refine z ?_ (h := fun ν => acts_bin ν vt vt (r_beql (c := false) qC26_un_4 c14))
      refine zm (zo (zo (zo ?_)))
      refine z ?_ (h := fun ν => acts_pick_f ν vt xc)
      refine zm (zo (zo (zo ?_)))
      refine z ?_ (h := fun ν => acts_pick_f ν vt xc)
      refine nl ?_
      exact ⟨rfl, weak_reads ⟨(by simp only [c14]; first | done | kernel_rfl), (by repeat (first | exact trivial | refine ⟨by kernel_rfl, ?_⟩))⟩⟩
    refine wi (b := ((decide ((hasS (regSet l) (⟨((b : Nat) : Int), ((a : Nat) : Int)⟩ : Cel)) = (hasS (regSet l) (⟨(((b : Nat) : Int) + 1), (((a : Nat) : Int) + 1)⟩ : Cel)))) && ((decide ((hasS (regSet l) (⟨(((b : Nat) : Int) + 1), ((a : Nat) : Int)⟩ : Cel)) = (hasS (regSet l) (⟨((b : Nat) : Int), (((a : Nat) : Int) + 1)⟩ : Cel)))) && (decide ((hasS (regSet l) (⟨((b : Nat) : Int), ((a : Nat) : Int)⟩ : Cel)) ≠ (hasS (regSet l) (⟨(((b : Nat) : Int) + 1), ((a : Nat) : Int)⟩ : Cel))))))) (fun c16 => ?_) (fun c16 => ?_)
    ·skip
     obtain ⟨c17, c18⟩ := and_tt c16
     have c17P := of_decide_eq_true c17
     obtain ⟨c19, c20⟩ := and_tt c18
     have c19P := of_decide_eq_true c19
     have c20P := of_decide_eq_true c20
     refine sq (rg (zk (nl (wp_ret' ?_))))
     exact VRes.tmp _ _ _ (by exact rfl) (bval (congrArg Value.bool (by exact (simB_4 (tch_yes (x := b) (y := a) (by omega) (by omega) ((tq_j _ _ _).symm.trans (by assumption)))).symm)))
    ·skip
     have c21 := and_ff c16
     refine sk (rg ?_)
     refine z ?_ (h := fun ν => acts_bin ν vt vc (rA (by omega) (by omega)))
     refine zm (nl ?_)
     exact loop_back ((b + 1)) (by exact ⟨by omega, tqR_snoc (by assumption) ((tq_j _ _ _).symm.trans (by assumption))⟩) (by show 7 - (b + 1) < 7 - b; omega) (wkf id (wS <| wS <| wS <| wE (e := (vint (by rfl))) <| by (iterate 9 refine wF ?_); exact wN))
   ·skip
    have c13P := of_decide_eq_false c13
    refine wp_exit' (rg ?_)
    refine z ?_ (h := fun ν => acts_bin ν vt vc (rA (by omega) (by omega)))
    refine zm (nl ?_)
    exact loop_back ((a + 1)) (by (have e : b = 7 := by omega); subst e; exact ⟨by omega, tqT_snoc (by assumption) (by assumption)⟩) (by show 7 - (a + 1) < 7 - a; omega) (wkf id (wS <| wE (e := (vint (by rfl))) <| by (iterate 9 refine wF ?_); exact wN))
  ·skip
   have c11P := of_decide_eq_false c11
   refine wp_exit' (sq (rg (zk (nl (wp_ret' ?_)))))
   exact VRes.tmp _ _ _ (by exact rfl) (bval (congrArg Value.bool (by ((have e : a = 7 := by omega); subst e; exact (simB_5 (by assumption) (by assumption) (by assumption) (tqT_end (by assumption))).symm))))

set_option maxHeartbeats 4000000 in
set_option maxRecDepth 100000 in
theorem spec_l04Touches_fn (l : List Int) (ho : regOk l = true) : Fn Try.prog 81 [.agg [(.slv l.length 1 (isl l) : A)]] [.val (.bool (tchS (regSet l)))] := by
 refine fn_intro (N := 56) Try.func81 rfl (by kernel_rfl) rfl (Nat.le_of_ble_eq_true rfl) [1, 23, 29, 35, 42] (ret1 rfl) (fun W => ?_)
 show Wp _ _ _ [kV 0 (V.b (.agg [(.slv l.length 1 (isl l) : A)])), kF 1, kF 23, kF 29, kF 35, kF 42]
 refine sq (rg ?_)
 refine z ?_ (h := fun ν => acts_box (h := 1) ν xt (by exact ob1 rfl))
 refine zk (nl (sq (sq (rg (zk (nl (bkk ?_)))))))
 refine wp_loop' (fun (a : Nat) => a ≤ 7 ∧ tqT (regSet l) a = false) (fun (a : Nat) => [kP 1 1 0, kI 3 ((a : Nat) : Int), kO 1 29 1 true [(.slv l.length 1 (isl l) : A)], kF 23, kF 29, kF 35, kF 42]) (fun (a : Nat) => 7 - a) ((0 : Nat)) (by exact ⟨Nat.zero_le _, rfl⟩) (wkf id (wS <| wE (e := (vint (by rfl))) <| wX <| wF <| wF <| wF <| wF <| wN)) ?_
 rintro a inv1
 replace inv1 : a ≤ 7 ∧ tqT (regSet l) a = false := inv1
 obtain ⟨inv1_0, inv1_1⟩ := inv1
 refine sq (sq (rg (zm ?_)))
 refine z ?_ (h := fun ν => acts_bin ν vt vc (rA (by omega) (by omega)))
 refine z ?_ (h := fun ν => acts_bin ν vt vc (r_lss rfl))
 refine nl ?_
 refine wi (fun c2 => ?_) (fun c2 => ?_)
 ·skip
  have c2P := of_decide_eq_true c2
  refine sk (sq (bkk (sq (rg (zk (nl (bkk ?_)))))))
  refine wp_loop' (fun (b : Nat) => b ≤ 7 ∧ tqR (regSet l) b a = false) (fun (b : Nat) => [kP 1 1 0, kI 3 ((a : Nat) : Int), kI 4 ((b : Nat) : Int), kO 1 29 1 true [(.slv l.length 1 (isl l) : A)], kF 23, kF 29, kF 35, kF 42]) (fun (b : Nat) => 7 - b) ((0 : Nat)) (by exact ⟨Nat.zero_le _, rfl⟩) (wkf id (wS <| wS <| wE (e := (vint (by rfl))) <| wX <| wF <| wF <| wF <| wF <| wN)) ?_
  rintro b inv3
  replace inv3 : b ≤ 7 ∧ tqR (regSet l) b a = false := inv3
  obtain ⟨inv3_0, inv3_1⟩ := inv3
  refine sq (sq (rg (zm ?_)))
  refine z ?_ (h := fun ν => acts_bin ν vt vc (rA (by omega) (by omega)))
  refine z ?_ (h := fun ν => acts_bin ν vt vc (r_lss rfl))
  refine nl ?_
  refine wi (fun c4 => ?_) (fun c4 => ?_)
  ·skip
   have c4P := of_decide_eq_true c4
   refine sk (sq (bkk (sq (rg ?_))))
   refine z ?_ (h := fun ν => acts_load_owns (xs := [(.slv l.length 1 (isl l) : A)]) ν qC26_ti_29 rfl (by decide) rfl)
   refine zm (zm ?_)
   refine z ?_ (h := fun ν => bC ν qC26_bs_46 vt vt)
   refine z ?_ (h := fun ν => acts_call1 ν (spec_l03Has_fn l (⟨((b : Nat) : Int), ((a : Nat) : Int)⟩ : Cel) (by omega) (by exact okc_true.2 (by simp only; omega))) (ac (ArgV.regv _ _ 1 _) (ac (ArgV.va va) an)) rv)
   refine za (nl (sq (rg ?_)))
   refine z ?_ (h := fun ν => acts_load_owns (xs := [(.slv l.length 1 (isl l) : A)]) ν qC26_ti_29 rfl (by decide) rfl)
   refine zm ?_
   refine z ?_ (h := fun ν => acts_bin ν vt vc (rA (by omega) (by omega)))
   refine zm ?_
   refine z ?_ (h := fun ν => bC ν qC26_bs_46 vt vt)
   refine z ?_ (h := fun ν => acts_call1 ν (spec_l03Has_fn l (⟨(((b : Nat) : Int) + 1), ((a : Nat) : Int)⟩ : Cel) (by omega) (by exact okc_true.2 (by simp only; omega))) (ac (ArgV.regv _ _ 1 _) (ac (ArgV.va va) an)) rv)
   refine za (nl (sq (rg ?_)))
   refine z ?_ (h := fun ν => acts_load_owns (xs := [(.slv l.length 1 (isl l) : A)]) ν qC26_ti_29 rfl (by decide) rfl)
   refine zm (zm ?_)
   refine z ?_ (h := fun ν => acts_bin ν vt vc (rA (by omega) (by omega)))
   refine z ?_ (h := fun ν => bC ν qC26_bs_46 vt vt)
   refine z ?_ (h := fun ν => acts_call1 ν (spec_l03Has_fn l (⟨((b : Nat) : Int), (((a : Nat) : Int) + 1)⟩ : Cel) (by omega) (by exact okc_true.2 (by simp only; omega))) (ac (ArgV.regv _ _ 1 _) (ac (ArgV.va va) an)) rv)
   refine za (nl (sq (rg ?_)))
   refine z ?_ (h := fun ν => acts_load_owns (xs := [(.slv l.length 1 (isl l) : A)]) ν qC26_ti_29 rfl (by decide) rfl)
   refine zm ?_
   refine z ?_ (h := fun ν => acts_bin ν vt vc (rA (by omega) (by omega)))
   refine zm ?_
   refine z ?_ (h := fun ν => acts_bin ν vt vc (rA (by omega) (by omega)))
   refine z ?_ (h := fun ν => bC ν qC26_bs_46 vt vt)
   refine z ?_ (h := fun ν => acts_call1 ν (spec_l03Has_fn l (⟨(((b : Nat) : Int) + 1), (((a : Nat) : Int) + 1)⟩ : Cel) (by omega) (by exact okc_true.2 (by simp only; omega))) (ac (ArgV.regv _ _ 1 _) (ac (ArgV.va va) an)) rv)
   refine za (nl (sq ?_))
   refine wp_join [kB 55 ((decide ((hasR l (⟨((b : Nat) : Int), ((a : Nat) : Int)⟩ : Cel)) = (hasR l (⟨(((b : Nat) : Int) + 1), (((a : Nat) : Int) + 1)⟩ : Cel)))) && ((decide ((hasR l (⟨(((b : Nat) : Int) + 1), ((a : Nat) : Int)⟩ : Cel)) = (hasR l (⟨((b : Nat) : Int), (((a : Nat) : Int) + 1)⟩ : Cel)))) && (decide ((hasR l (⟨((b : Nat) : Int), ((a : Nat) : Int)⟩ : Cel)) ≠ (hasR l (⟨(((b : Nat) : Int) + 1), ((a : Nat) : Int)⟩ : Cel)))))), kP 1 1 0, kI 3 ((a : Nat) : Int), kI 4 ((b : Nat) : Int), kO 1 29 1 true [(.slv l.length 1 (isl l) : A)], kF 23, kF 29, kF 35, kF 42] ?_ ?_
   ·skip
    rcases Bool.eq_false_or_eq_true (decide ((hasR l (⟨((b : Nat) : Int), ((a : Nat) : Int)⟩ : Cel)) = (hasR l (⟨(((b : Nat) : Int) + 1), (((a : Nat) : Int) + 1)⟩ : Cel)))) with c5 | c5
    ·skip
     have c5P := of_decide_eq_true c5
     rcases Bool.eq_false_or_eq_true (decide ((hasR l (⟨(((b : Nat) : Int) + 1), ((a : Nat) : Int)⟩ : Cel)) = (hasR l (⟨((b : Nat) : Int), (((a : Nat) : Int) + 1)⟩ : Cel)))) with c6 | c6
     ·skip
      have c6P := of_decide_eq_true c6
      refine rg (zm (zm ?_))
      refine z ?_ (h := fun ν => acts_bin ν vt vt (r_beql (c := true) qC26_un_4 c5))
      refine zm ?_
      refine zg ?_ (h := fun ν => step_on rfl rfl (mt ν))
      refine zg ?_ (h := fun ν => step_on rfl rfl (mt ν))
      refine zg ?_ (h := fun ν => step_on rfl rfl (acts_bin ν vt vt (r_beql (c := true) qC26_un_4 c6)))
      refine z ?_ (h := fun ν => acts_pick_t ν vt xt)
      refine zm ?_
      refine zg ?_ (h := fun ν => step_on rfl rfl (mt ν))
      refine zg ?_ (h := fun ν => step_on rfl rfl (mt ν))
      refine zg ?_ (h := fun ν => step_on rfl rfl (acts_bin ν vt vt (r_bneq (c := (decide ((hasR l (⟨((b : Nat) : Int), ((a : Nat) : Int)⟩ : Cel)) ≠ (hasR l (⟨(((b : Nat) : Int) + 1), ((a : Nat) : Int)⟩ : Cel))))) qC26_un_4 rfl)))
      refine z ?_ (h := fun ν => acts_pick_t ν vt xt)
      refine nl ?_
      exact ⟨rfl, weak_reads ⟨(by simp only [c5, c6]; first | done | kernel_rfl), (by repeat (first | exact trivial | refine ⟨by kernel_rfl, ?_⟩))⟩⟩
     ·skip
      have c6P := of_decide_eq_false c6
      refine rg (zm (zm ?_))
      refine z ?_ (h := fun ν => acts_bin ν vt vt (r_beql (c := true) qC26_un_4 c5))
      refine zm ?_
      refine zg ?_ (h := fun ν => step_on rfl rfl (mt ν))
      refine zg ?_ (h := fun ν => step_on rfl rfl (mt ν))
      refine zg ?_ (h := fun ν => step_on rfl rfl (acts_bin ν vt vt (r_beql (c := false) qC26_un_4 c6)))
      refine z ?_ (h := fun ν => acts_pick_t ν vt xt)
      refine zm (zo (zo (zo ?_)))
      refine z ?_ (h := fun ν => acts_pick_f ν vt xc)
      refine nl ?_
      exact ⟨rfl, weak_reads ⟨(by simp only [c5, c6]; first | done | kernel_rfl), (by repeat (first | exact trivial | refine ⟨by kernel_rfl, ?_⟩))⟩⟩
    ·skip
     have c5P := of_decide_eq_false c5
     refine rg (zm (zm ?_))
     refine z ?_ (h := fun ν => acts_bin ν vt vt (r_beql (c := false) qC26_un_4 c5))
     refine zm (zo (zo (zo ?_)))
     refine z ?_ (h := fun ν => acts_pick_f ν vt xc)
     refine zm (zo (zo (zo ?_)))
     refine z ?_ (h := fun ν => acts_pick_f ν vt xc)
     refine nl ?_
     exact ⟨rfl, weak_reads ⟨(by simp only [c5]; first | done | kernel_rfl), (by repeat (first | exact trivial | refine ⟨by kernel_rfl, ?_⟩))⟩⟩
   refine wi (b := ((decide ((hasR l (⟨((b : Nat) : Int), ((a : Nat) : Int)⟩ : Cel)) = (hasR l (⟨(((b : Nat) : Int) + 1), (((a : Nat) : Int) + 1)⟩ : Cel)))) && ((decide ((hasR l (⟨(((b : Nat) : Int) + 1), ((a : Nat) : Int)⟩ : Cel)) = (hasR l (⟨((b : Nat) : Int), (((a : Nat) : Int) + 1)⟩ : Cel)))) && (decide ((hasR l (⟨((b : Nat) : Int), ((a : Nat) : Int)⟩ : Cel)) ≠ (hasR l (⟨(((b : Nat) : Int) + 1), ((a : Nat) : Int)⟩ : Cel))))))) (fun c7 => ?_) (fun c7 => ?_)
   ·skip
    obtain ⟨c8, c9⟩ := and_tt c7
    have c8P := of_decide_eq_true c8
    obtain ⟨c10, c11⟩ := and_tt c9
    have c10P := of_decide_eq_true c10
    have c11P := of_decide_eq_true c11
    refine sq (rg (zk (nl (wp_ret' ?_))))
    exact VRes.tmp _ _ _ (by exact rfl) (bval (congrArg Value.bool (by exact (tch_yes (x := b) (y := a) (by omega) (by omega) ((tq_jR ho (by omega) (by omega)).symm.trans (by assumption))).symm)))
   ·skip
    have c12 := and_ff c7
    refine sk (rg (zm ?_))
    refine z ?_ (h := fun ν => acts_bin ν vt vc (rA (by omega) (by omega)))
    refine za (nl ?_)
    exact loop_back ((b + 1)) (by exact ⟨by omega, tqR_snoc (by assumption) ((tq_jR ho (by omega) (by omega)).symm.trans (by assumption))⟩) (by show 7 - (b + 1) < 7 - b; omega) (wkf id (wS <| wS <| wE (e := (vint (by rfl))) <| wX <| wF <| wF <| wF <| wF <| wN))
  ·skip
   have c4P := of_decide_eq_false c4
   refine wp_exit' (rg (zm ?_))
   refine z ?_ (h := fun ν => acts_bin ν vt vc (rA (by omega) (by omega)))
   refine za (nl ?_)
   exact loop_back ((a + 1)) (by (have e : b = 7 := by omega); subst e; exact ⟨by omega, tqT_snoc (by assumption) (by assumption)⟩) (by show 7 - (a + 1) < 7 - a; omega) (wkf id (wS <| wE (e := (vint (by rfl))) <| wX <| wF <| wF <| wF <| wF <| wN))
 ·skip
  have c2P := of_decide_eq_false c2
  refine wp_exit' (sq (rg (zk (nl (wp_ret' ?_)))))
  exact VRes.tmp _ _ _ (by exact rfl) (bval (congrArg Value.bool (by ((have e : a = 7 := by omega); subst e; exact (tqT_end (by assumption)).symm))))

set_option maxHeartbeats 4000000 in
set_option maxRecDepth 100000 in
theorem spec_IsSimple_fn (l : List Int) (hl : l.length ≤ 4194304) : Fn Try.prog 57 [.agg [(.slv l.length 1 (isl l) : A)]] [.val (.bool (simB l))] := by
 refine fn_intro (N := 20) Try.func57 rfl (by kernel_rfl) rfl (Nat.le_of_ble_eq_true rfl) [1, 4, 7, 12, 17] (ret1 rfl) (fun W => ?_)
 show Wp _ _ _ [kV 0 (V.b (.agg [(.slv l.length 1 (isl l) : A)])), kF 1, kF 4, kF 7, kF 12, kF 17]
 refine sq (rg ?_)
 refine z ?_ (h := fun ν => acts_box (h := 1) ν xt (by exact ob1 rfl))
 refine zk (nl (sq ?_))
 rcases Bool.eq_false_or_eq_true ((regOk l)) with c1 | c1
 ·skip
  rcases Bool.eq_false_or_eq_true (decide ((((pcN l) : Nat) : Int) = 1)) with c2 | c2
  ·skip
   have c2P := of_decide_eq_true c2
   rcases Bool.eq_false_or_eq_true (decide ((hol l) = 0)) with c3 | c3
   ·skip
    have c3P := of_decide_eq_true c3
    refine rg ?_
    refine z ?_ (h := fun ν => acts_load_owns (xs := [(.slv l.length 1 (isl l) : A)]) ν qC26_ti_29 rfl (by decide) rfl)
    refine z ?_ (h := fun ν => acts_call1 ν (spec_RegionOk_fn l (by omega)) (ac (ArgV.regv _ _ 1 _) an) (resval (congrArg Value.bool c1)))
    refine zm ?_
    refine zg ?_ (h := fun ν => step_on rfl rfl (acts_load_owns (xs := [(.slv l.length 1 (isl l) : A)]) ν qC26_ti_29 rfl (by decide) rfl))
    refine zg ?_ (h := fun ν => step_on rfl rfl (acts_call1 ν (spec_CountPieces_fn l (by omega)) (ac (ArgV.regv _ _ 1 _) an) rv))
    refine zg ?_ (h := fun ν => step_on rfl rfl (acts_bin ν vt vc (r_eql (c := true) c2)))
    refine z ?_ (h := fun ν => acts_pick_t ν vt xt)
    refine zm ?_
    refine zg ?_ (h := fun ν => step_on rfl rfl (acts_load_owns (xs := [(.slv l.length 1 (isl l) : A)]) ν qC26_ti_29 rfl (by decide) rfl))
    refine zg ?_ (h := fun ν => step_on rfl rfl (acts_call1 ν (spec_CountHoles_fn l (by omega)) (ac (ArgV.regv _ _ 1 _) an) rv))
    refine zg ?_ (h := fun ν => step_on rfl rfl (acts_bin ν vt vc (r_eql (c := true) c3)))
    refine z ?_ (h := fun ν => acts_pick_t ν vt xt)
    refine zm ?_
    refine zg ?_ (h := fun ν => step_on rfl rfl (acts_load_owns (xs := [(.slv l.length 1 (isl l) : A)]) ν qC26_ti_29 rfl (by decide) rfl))
    refine zg ?_ (h := fun ν => step_on rfl rfl (acts_call1 ν (spec_l04Touches_fn l (by omega)) (ac (ArgV.regv _ _ 1 _) an) rv))
    refine zg ?_ (h := fun ν => step_on rfl rfl (acts_un ν vt (r_not rfl)))
    refine z ?_ (h := fun ν => acts_pick_t ν vt xt)
    refine za (nl (wp_ret' ?_))
    exact VRes.tmp _ _ _ (by exact rfl) (bval (congrArg Value.bool (by (rw [simB_6 (by assumption) (by assumption) (by assumption)]; first | done | (simp_all; done)))))
   ·skip
    have c3P := of_decide_eq_false c3
    refine rg ?_
    refine z ?_ (h := fun ν => acts_load_owns (xs := [(.slv l.length 1 (isl l) : A)]) ν qC26_ti_29 rfl (by decide) rfl)
    refine z ?_ (h := fun ν => acts_call1 ν (spec_RegionOk_fn l (by omega)) (ac (ArgV.regv _ _ 1 _) an) (resval (congrArg Value.bool c1)))
    refine zm ?_
    refine zg ?_ (h := fun ν => step_on rfl rfl (acts_load_owns (xs := [(.slv l.length 1 (isl l) : A)]) ν qC26_ti_29 rfl (by decide) rfl))
    refine zg ?_ (h := fun ν => step_on rfl rfl (acts_call1 ν (spec_CountPieces_fn l (by omega)) (ac (ArgV.regv _ _ 1 _) an) rv))
    refine zg ?_ (h := fun ν => step_on rfl rfl (acts_bin ν vt vc (r_eql (c := true) c2)))
    refine z ?_ (h := fun ν => acts_pick_t ν vt xt)
    refine zm ?_
    refine zg ?_ (h := fun ν => step_on rfl rfl (acts_load_owns (xs := [(.slv l.length 1 (isl l) : A)]) ν qC26_ti_29 rfl (by decide) rfl))
    refine zg ?_ (h := fun ν => step_on rfl rfl (acts_call1 ν (spec_CountHoles_fn l (by omega)) (ac (ArgV.regv _ _ 1 _) an) rv))
    refine zg ?_ (h := fun ν => step_on rfl rfl (acts_bin ν vt vc (r_eql (c := false) c3)))
    refine z ?_ (h := fun ν => acts_pick_t ν vt xt)
    refine zm (zo (zo (zo ?_)))
    refine z ?_ (h := fun ν => acts_pick_f ν vt xc)
    refine za (nl (wp_ret' ?_))
    exact VRes.tmp _ _ _ (by exact rfl) (bval (congrArg Value.bool (by exact (simB_3 (by assumption)).symm)))
  ·skip
   have c2P := of_decide_eq_false c2
   refine rg ?_
   refine z ?_ (h := fun ν => acts_load_owns (xs := [(.slv l.length 1 (isl l) : A)]) ν qC26_ti_29 rfl (by decide) rfl)
   refine z ?_ (h := fun ν => acts_call1 ν (spec_RegionOk_fn l (by omega)) (ac (ArgV.regv _ _ 1 _) an) (resval (congrArg Value.bool c1)))
   refine zm ?_
   refine zg ?_ (h := fun ν => step_on rfl rfl (acts_load_owns (xs := [(.slv l.length 1 (isl l) : A)]) ν qC26_ti_29 rfl (by decide) rfl))
   refine zg ?_ (h := fun ν => step_on rfl rfl (acts_call1 ν (spec_CountPieces_fn l (by omega)) (ac (ArgV.regv _ _ 1 _) an) rv))
   refine zg ?_ (h := fun ν => step_on rfl rfl (acts_bin ν vt vc (r_eql (c := false) c2)))
   refine z ?_ (h := fun ν => acts_pick_t ν vt xt)
   refine zm (zo (zo (zo ?_)))
   refine z ?_ (h := fun ν => acts_pick_f ν vt xc)
   refine zm (zo (zo (zo ?_)))
   refine z ?_ (h := fun ν => acts_pick_f ν vt xc)
   refine za (nl (wp_ret' ?_))
   exact VRes.tmp _ _ _ (by exact rfl) (bval (congrArg Value.bool (by exact (simB_2 (by assumption)).symm)))
 ·skip
  refine rg ?_
  refine z ?_ (h := fun ν => acts_load_owns (xs := [(.slv l.length 1 (isl l) : A)]) ν qC26_ti_29 rfl (by decide) rfl)
  refine z ?_ (h := fun ν => acts_call1 ν (spec_RegionOk_fn l (by omega)) (ac (ArgV.regv _ _ 1 _) an) (resval (congrArg Value.bool c1)))
  refine zm (zo (zo (zo ?_)))
  refine z ?_ (h := fun ν => acts_pick_f ν vt xc)
  refine zm (zo (zo (zo ?_)))
  refine z ?_ (h := fun ν => acts_pick_f ν vt xc)
  refine zm (zo (zo (zo ?_)))
  refine z ?_ (h := fun ν => acts_pick_f ν vt xc)
  refine za (nl (wp_ret' ?_))
  exact VRes.tmp _ _ _ (by exact rfl) (bval (congrArg Value.bool (by exact (simB_1 (by assumption)).symm)))
end Cl
end Go.Proofs.Ytonlghbbdcddoaa
