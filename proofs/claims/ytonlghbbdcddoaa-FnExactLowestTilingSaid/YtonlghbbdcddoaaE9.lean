/- Walks over clean states, printed by wg.py. No statement is proved here. -/
import Derived.Test.YtonlghbbdcddoaaC31
import Derived.Test.YtonlghbbdcddoaaE3
import Derived.Test.YtonlghbbdcddoaaE2
import Derived.Test.YtonlghbbdcddoaaP1
import Derived.Test.YtonlghbbdcddoaaHs
import Derived.Test.YtonlghbbdcddoaaClB
namespace Go.Proofs.Ytonlghbbdcddoaa
namespace Cl
open Go.ChangeShapes Go.WideShapes Go.ChangeAt Go.RowKit
set_option maxRecDepth 20000

theorem hsum_bd0 : ∀ (L : List Int) (a : Int) (n : Nat), (∀ x ∈ L, -1000 ≤ x ∧ x ≤ 80) → -(1000 * (n : Int)) ≤ a ∧ a ≤ 1000 * (n : Int) → n + L.length ≤ 1000 → -1000000 ≤ L.foldl hstep a ∧ L.foldl hstep a ≤ 1000000 := by
  intro L
  induction L with
  | nil => intro a n _ h hn; simp only [List.foldl_nil]; simp at hn; omega
  | cons x L ih =>
    intro a n hx h hn
    rw [List.foldl_cons]
    have hx0 := hx x (List.mem_cons_self ..)
    rw [List.length_cons] at hn
    refine ih _ (n + 1) (fun y hy => hx y (List.mem_cons_of_mem _ hy)) ?_ (by omega)
    unfold hstep
    split
    · omega
    · rw [IntWalk.wrap64_in _ (by omega)]; omega
theorem hsum_bd {L : List Int} (h : ∀ v, v < L.length → -1000 ≤ gI L v ∧ gI L v ≤ 80) (hn : L.length ≤ 81) : -1000000 ≤ hsum L ∧ hsum L ≤ 1000000 := by
  refine hsum_bd0 L 0 0 (fun x hx => ?_) (by simp) (by omega)
  obtain ⟨i, hi, rfl⟩ := List.getElem_of_mem hx
  have := h i hi
  rwa [gI_eq hi] at this
/-- the sum of the heights of a listed tiling -/
noncomputable def hsT (l : List Int) (k : Nat) : Int := hsum (hts l (gLd (ltR l) k))
theorem hsT_bd (l : List Int) (k : Nat) : -1000000 ≤ hsT l k ∧ hsT l k ≤ 1000000 := hsum_bd (fun v _ => hts_val v) (hts_len _ _)
noncomputable def bst (l : List Int) (hi : Bool) : Nat → Nat × Int
  | 0 => (0, 0)
  | k + 1 => if k = 0 ∨ (hi = true ∧ (bst l hi k).2 < hsT l k) ∨ (hi = false ∧ hsT l k < (bst l hi k).2) then (k, hsT l k) else bst l hi k
theorem bst_up {l : List Int} {hi : Bool} {k : Nat} (h : k = 0 ∨ (hi = true ∧ (bst l hi k).2 < hsT l k) ∨ (hi = false ∧ hsT l k < (bst l hi k).2)) : bst l hi (k + 1) = (k, hsT l k) := by
  rw [bst, if_pos h]
theorem bst_no {l : List Int} {hi : Bool} {k : Nat} (h : ¬ (k = 0 ∨ (hi = true ∧ (bst l hi k).2 < hsT l k) ∨ (hi = false ∧ hsT l k < (bst l hi k).2))) : bst l hi (k + 1) = bst l hi k := by
  rw [bst, if_neg h]
theorem bst_bd (l : List Int) (hi : Bool) : ∀ k, (0 < k → (bst l hi k).1 < k) ∧ -1000000 ≤ (bst l hi k).2 ∧ (bst l hi k).2 ≤ 1000000 := by
  intro k
  induction k with
  | zero => exact ⟨fun h => absurd h (Nat.lt_irrefl _), by simp [bst], by simp [bst]⟩
  | succ k ih =>
    have hb := hsT_bd l k
    by_cases h : k = 0 ∨ (hi = true ∧ (bst l hi k).2 < hsT l k) ∨ (hi = false ∧ hsT l k < (bst l hi k).2)
    · rw [bst_up h]; exact ⟨fun _ => Nat.lt_succ_self k, hb.1, hb.2⟩
    · rw [bst_no h]; exact ⟨fun _ => by have := ih.1 (by omega); omega, ih.2.1, ih.2.2⟩
noncomputable def outT (l : List Int) (hi : Bool) (k : Nat) : List Dom := if k = 0 then [] else gLd (ltR l) (bst l hi k).1
theorem outT_up {l : List Int} {hi : Bool} {k : Nat} (h : bst l hi (k + 1) = (k, hsT l k)) : gLd (ltR l) k = outT l hi (k + 1) := by
  unfold outT; rw [if_neg (Nat.succ_ne_zero k), h]
theorem outT_no {l : List Int} {hi : Bool} {k : Nat} (h0 : k ≠ 0) (h : bst l hi (k + 1) = bst l hi k) : outT l hi k = outT l hi (k + 1) := by
  unfold outT; rw [if_neg (Nat.succ_ne_zero k), h, if_neg h0]
noncomputable def enOk (l : List Int) : Bool := simB l && !(decide (((ltR l).length : Int) = 0))
noncomputable def endT (l : List Int) (hi : Bool) : List Dom := if enOk l = true then outT l hi (ltR l).length else []
theorem endT_no {l : List Int} {hi : Bool} (h : enOk l = false) : endT l hi = [] := by unfold endT; rw [h]; rfl
theorem endT_yes {l : List Int} {hi : Bool} (h : enOk l = true) : endT l hi = outT l hi (ltR l).length := by unfold endT; rw [if_pos h]
theorem endT_len (l : List Int) (hi : Bool) : (endT l hi).length ≤ 33 := by
  unfold endT
  split
  · unfold outT
    split
    · simp
    · exact ltR_row ((bst_bd l hi _).1 (by omega))
  · simp
theorem lt_til {l : List Int} {k : Nat} (hk : k < (ltR l).length) : isTil l (gLd (ltR l) k) = true := by
  obtain ⟨h1, h2⟩ := ltR_mem (l := l) (P := gLd (ltR l) k) (by rw [gLd_eq hk]; exact List.getElem_mem hk)
  exact til_isTil h1 h2

theorem qE9_sz_26 : (Try.prog.info? 26).map (·.size) = some 1 := by kernel_rfl
theorem qE9_ti_26 : TI Try.prog 26 false 1 := ⟨⟨_, Try.underlying26, rfl⟩, by kernel_rfl⟩
theorem qE9_ti_29 : TI Try.prog 29 true 1 := ⟨⟨_, Try.underlying29, rfl⟩, by kernel_rfl⟩
theorem qE9_un_26 : Try.prog.underlying 26 = some (.slice 57) := Try.underlying26
theorem qE9_un_85 : Try.prog.underlying 85 = some (.slice 26) := Try.underlying85
theorem qE9_zi_57 : ZI Try.prog 57 (.agg #[.int .i64 0, .int .i64 0, .bool false]) 3 24 := by unfold ZI; kernel_rfl
theorem impl_HeightSum_fn (L : List Int) (hl : L.length ≤ 4194304) : Fn Try.prog 25 [.a (.slv L.length 1 (isl L))] [.val (.int .i64 (hsum L))] := by
  refine ⟨⟨_, Try.func25, by kernel_rfl, by kernel_rfl⟩, fun w args h => ?_⟩
  match args, args_iff.1 h with
  | [u0], ⟨h0, _⟩ =>
    obtain ⟨A0, c0, rfl, hc0, hr0⟩ := argB_slv h0
    refine Calls.mono (heightSum_impl L A0 L.length c0 w hr0 hl) ?_
    rintro e w' ⟨rfl, hb⟩
    exact ⟨_, rfl, rfl, hb⟩

theorem spec_HeightSum_fn (L : List Int) (hl : L.length ≤ 4194304) : Fn Try.prog 59 [.a (.slv L.length 1 (isl L))] [.val (.int .i64 (hsum L))] := by
  refine ⟨⟨_, Try.func59, by kernel_rfl, by kernel_rfl⟩, fun w args h => ?_⟩
  match args, args_iff.1 h with
  | [u0], ⟨h0, _⟩ =>
    obtain ⟨A0, c0, rfl, hc0, hr0⟩ := argB_slv h0
    refine Calls.mono (heightSum_spec L A0 L.length c0 w hr0 hl) ?_
    rintro e w' ⟨rfl, hb⟩
    exact ⟨_, rfl, rfl, hb⟩

set_option maxHeartbeats 4000000 in
set_option maxRecDepth 100000 in
theorem outermost_hi (l : List Int) (hl : l.length ≤ 4194304) : FnO Try.prog 31 [.agg [(.sl 800 0 l.length : A)], .a (.val (.int .i64 1))] [(.o 800, some (.o ⟨3, 1, true, pl (isl l)⟩))] (V.tup [.a (.sl 900 0 ((endT l true).length)), .a (.val (.bool (enOk l)))]) [(.o 800, some (.o ⟨3, 1, true, pl (isl l)⟩)), (.o 900, some (.o ⟨57, 3, true, pl (dsl (endT l true))⟩))] [800] := by
 have hll := ltR_len l
 refine fn_introO (N := 49) Try.func31 rfl (by kernel_rfl) rfl (Nat.le_of_ble_eq_true rfl) rfl rfl (by kernel_rfl) (by kernel_rfl) ⟨oc_pl (fun _ => rfl), trivial⟩ [2, 13, 15, 19, 23, 32, 33, 49, 50, 51, 52] (retO2 rfl) (fun W own kp im0 => ?_)
 show Wp _ _ _ [kV 0 (V.b (.agg [(.sl 800 0 l.length : A)])), kI 1 1, kO 800 3 1 true (pl (isl l)), kF 2, kF 13, kF 15, kF 19, kF 23, kF 32, kF 33, kF 49, kF 50, kF 51, kF 52]
 refine sq (rg ?_)
 refine z ?_ (h := fun ν => acts_box (h := 2) ν xt (by exact ob1 rfl))
 refine zk (zk (nl (sq (rg ?_))))
 refine z ?_ (h := fun ν => acts_load_owns (xs := [(.sl 800 0 l.length : A)]) ν qE9_ti_29 rfl (by decide) rfl)
 refine z ?_ (h := fun ν => acts_callO (d := 13) (f := 61) (os := [(.o 800, some (.o ⟨3, 1, true, pl (isl l)⟩))]) (os' := [(.o 800, some (.o ⟨3, 1, true, pl (isl l)⟩)), (.o 13, some (.o ⟨26, 1, true, rwD 57 (ltR l)⟩))]) (r := V.b (.a (.sl 13 0 ((ltR l).length)))) (bs := [.agg [(.sl 800 0 l.length : A)]]) (keep := [800]) (new := [13]) (dead := []) ν (FnO.ren' (impl_ListTilings_fn l (by omega)) (subst1 [(900, 13)]) rfl rfl (by kernel_rfl) (by kernel_rfl) ⟨oc_pl (fun _ => rfl), oc_rwD, trivial⟩ (by kernel_rfl) rfl (by simp only [renS, Ob.ren, pl_ren, rws_ren_doms, rws_ren_ints, rws_ren_cels, rwI_ren, rwD_ren]; first | done | rfl) (by simp only [renS, Ob.ren, pl_ren, rws_ren_doms, rws_ren_ints, rws_ren_cels, rwI_ren, rwD_ren]; first | done | rfl) rfl rfl) (by kernel_rfl) ⟨oc_pl (fun _ => rfl), oc_rwD, trivial⟩ (by kernel_rfl) (ArgOs.cons (ArgO.slot 12 (.agg [(.sl 800 0 l.length : A)])) (ArgOs.nil)))
 refine za (nl (sq (sq ?_)))
 rcases Bool.eq_false_or_eq_true ((simB l)) with c1 | c1
 ·skip
  have hsi := c1
  refine rg ?_
  refine z ?_ (h := fun ν => acts_load_owns (xs := [(.sl 800 0 l.length : A)]) ν qE9_ti_29 rfl (by decide) rfl)
  refine z ?_ (h := fun ν => acts_call1 ν (impl_IsSimple_fn l (by omega)) (ac (ArgV.reg _ _ _ (s := 1) (by simp [isl]) (by exact List.take_of_length_le (by simp [isl]))) an) (resval (congrArg Value.bool c1)))
  refine z ?_ (h := fun ν => acts_un ν vt (r_not (c := false) rfl))
  refine zm ?_
  refine zg ?_ (h := fun ν => step_on rfl rfl (mt ν))
  refine zg ?_ (h := fun ν => step_on rfl rfl (lnS ν qE9_un_85))
  refine zg ?_ (h := fun ν => step_on rfl rfl (acts_bin ν vt vc (r_eql rfl)))
  refine z ?_ (h := fun ν => acts_pick_f ν vt xt)
  refine nl ?_
  refine wi (fun c2 => ?_) (fun c2 => ?_)
  ·skip
   have c2P := of_decide_eq_true c2
   have hen : enOk l = false := by unfold enOk; rw [c2]; exact Bool.and_false _
   refine sq (rg (zk (zk (nl ?_))))
   refine wp_weak (wnD (k := 4) (h := 15) (T := 57) (by kernel_rfl) (by kernel_rfl)) ?_
   refine wp_ret' ?_
   exact ⟨[kS 4 900 0 0, kB 5 false, kO 800 3 1 true (pl (isl l)), kO 900 57 3 true (pl (dsl [])), kF 2, kF 13, kF 15, kF 19, kF 23, kF 32, kF 33, kF 49, kF 50, kF 51, kF 52], wkf (subst1 [(900, 15)]) (wS <| wS <| wP <| wP <| by (iterate 11 refine wF ?_); exact wN), ⟨by kernel_rfl, obj_eq (c := pl (dsl [])) (by kernel_rfl) (congrArg (fun z => pl (dsl z)) (by exact (endT_no hen).symm)), trivial⟩, ⟨vo_eq 4 (.a (.sl 900 0 0)) (.a (.sl 900 0 ((endT l true).length))) (by kernel_rfl) (congrArg (fun z : Nat => B.a (.sl 900 0 z)) (by (rw [endT_no hen]; rfl))), vo_eq 5 (.a (.val (.bool false))) (.a (.val (.bool (enOk l)))) (by kernel_rfl) (congrArg (fun z : Bool => B.a (.val (.bool z))) (by exact hen.symm))⟩⟩
  ·skip
   have c2P := of_decide_eq_false c2
   have hen : enOk l = true := by unfold enOk; rw [hsi, c2]; rfl
   have hlp : 0 < (ltR l).length := by omega
   refine sk (sq (rg (zk (zk (nl (sq (sq (rg (zm ?_)))))))))
   refine z ?_ (h := fun ν => lnS ν qE9_un_85)
   refine z ?_ (h := fun ν => mc ν)
   refine nl (bkk ?_)
   refine wp_loop' (fun (k : Nat) => k ≤ (ltR l).length) (fun (k : Nat) => [kI 1 1, kP 2 2 0, kS 6 13 0 ((ltR l).length), kI 7 (((bst l true k).1 : Nat) : Int), kI 8 ((bst l true k).2), kS 22 13 0 ((ltR l).length), kI 23 (((ltR l).length : Nat) : Int), kI 24 ((k : Nat) : Int), kO 2 29 1 true [(.sl 800 0 l.length : A)], kO 13 26 1 true (rwD 57 (ltR l)), kO 800 3 1 true (pl (isl l)), kF 15, kF 19, kF 23, kF 32, kF 33, kF 49, kF 50, kF 51, kF 52]) (fun (k : Nat) => (ltR l).length - k) ((0 : Nat)) (by exact (Nat.zero_le _ : 0 ≤ _)) (wkf id (wS <| wS <| wS <| wE (e := (vint (by rfl))) <| wE (e := (vint (by rfl))) <| wS <| wS <| wE (e := (vint (by rfl))) <| wX <| wQD <| wP <| by (iterate 9 refine wF ?_); exact wN)) ?_
   rintro k inv3
   replace inv3 : k ≤ (ltR l).length := inv3
   have invk := inv3
   have hbb := bst_bd l true k
   refine sq (rg ?_)
   refine z ?_ (h := fun ν => acts_bin ν vt vt (r_lss rfl))
   refine nl (sq ?_)
   refine wi (fun c4 => ?_) (fun c4 => ?_)
   ·skip
    have c4P := of_decide_eq_true c4
    have hkl : k < (ltR l).length := by omega
    have hst : (simB l && isTil l (gLd (ltR l) k)) = true := by rw [hsi, lt_til hkl]; rfl
    have hrow : (gLd (ltR l) k).length ≤ 33 := ltR_row hkl
    have hhf := htsF_len l (gLd (ltR l) k)
    have hhl := hts_len l (gLd (ltR l) k)
    have hhb := hsT_bd l k
    have hse : hsum (htsF l (gLd (ltR l) k)) = hsT l k := by unfold hsT; rw [hts_yes hst]
    have hsd : hsum (hts l (gLd (ltR l) k)) = hsT l k := rfl
    refine sk (sq (bkk (sq ?_)))
    refine wp_weak (up1D (h := 13) (h1 := 15) (T := 57) (T0 := 26) (s0 := 1) (ex0 := true) (L := (ltR l)) k (by omega)) ?_
    refine rg (zm ?_)
    refine z ?_ (h := fun ν => ix0 ν qE9_un_85 qE9_sz_26 vt (hlt := (by omega)))
    refine z ?_ (h := fun ν => lu1 (i := k) ν qE9_ti_26 (by simp only [rwI_len, rwD_len]; first | omega | assumption))
    refine za (za (nl (sq (rg (zm ?_)))))
    refine z ?_ (h := fun ν => acts_load_owns (xs := [(.sl 800 0 l.length : A)]) ν qE9_ti_29 rfl (by decide) rfl)
    refine zm ?_
    refine z ?_ (h := fun ν => acts_call1 ν (HeightsOf_yes l (gLd (ltR l) k) (by omega) (by omega) (by omega)) (ac (ArgV.reg _ _ _ (s := 1) (by simp [isl]) (by exact List.take_of_length_le (by simp [isl]))) (ac (argv_own (by exact dsl_len _)) an)) (ResV.row _ _ _ _ 32))
    refine z ?_ (h := fun ν => acts_call1 ν (impl_HeightSum_fn (htsF l (gLd (ltR l) k)) (by omega)) (ac (argv_own (by exact isl_len _)) an) rv)
    refine z ?_ (h := fun ν => acts_bin ν vt vt (rM (by omega) (by omega)))
    refine za (nl ?_)
    refine wp_weak (qk1D (h := 13) (T := 57) (T0 := 26) (s0 := 1) (ex0 := true) (h1 := 15) (n := ((gLd (ltR l) k).length)) (L := (ltR l)) (L2 := (ltR l)) (r := (gLd (ltR l) k)) k (by (first | omega | assumption)) (by rfl) (set_gLd (by omega))) ?_
    refine sq ?_
    rcases Bool.eq_false_or_eq_true (decide (((k : Nat) : Int) = 0)) with c5 | c5
    ·skip
     have c5P := of_decide_eq_true c5
     have hk0 : k = 0 := by omega
     have hbs := bst_up (l := l) (hi := true) (k := k) (.inl hk0)
     refine rg (zm ?_)
     refine z ?_ (h := fun ν => acts_bin ν vt vc (r_eql (c := true) c5))
     refine zm (zo (zo (zo ?_)))
     refine z ?_ (h := fun ν => acts_pick_t ν vt xc)
     refine nl (wt (rg (zm (zm (za (za (nl (rg ?_))))))))
     refine z ?_ (h := fun ν => acts_bin ν vt vc (rA (by omega) (by omega)))
     refine zm (nl ?_)
     exact loop_back ((k + 1)) (by show _ ≤ _; omega) (by show (ltR l).length - (k + 1) < (ltR l).length - k; omega) (wkf id (wS <| wS <| wS <| wE (e := (vint (by (rw [hbs]; first | done | rfl | omega | (rw [hse]; omega))))) <| wE (e := (vint (by (rw [hbs]; first | done | rfl | omega | (rw [hse]; omega))))) <| wS <| wS <| wE (e := (vint (by rfl))) <| wX <| wQD <| wP <| by (iterate 9 refine wF ?_); exact wN))
    ·skip
     have c5P := of_decide_eq_false c5
     have hkn : k ≠ 0 := by omega
     refine rg (zm ?_)
     refine z ?_ (h := fun ν => acts_bin ν vt vc (r_eql (c := false) c5))
     refine zm ?_
     refine zg ?_ (h := fun ν => step_on rfl rfl (mt ν))
     refine zg ?_ (h := fun ν => step_on rfl rfl (mt ν))
     refine zg ?_ (h := fun ν => step_on rfl rfl (acts_bin ν vt vt (r_gtr rfl)))
     refine z ?_ (h := fun ν => acts_pick_f ν vt xt)
     refine nl ?_
     refine wi (fun c6 => ?_) (fun c6 => ?_)
     ·skip
      have c6P := of_decide_eq_true c6
      have hbs := bst_up (l := l) (hi := true) (k := k) (.inr (.inl ⟨rfl, by rw [hse] at *; omega⟩))
      refine rg (zm (zm (za (za (nl (rg ?_))))))
      refine z ?_ (h := fun ν => acts_bin ν vt vc (rA (by omega) (by omega)))
      refine zm (nl ?_)
      exact loop_back ((k + 1)) (by show _ ≤ _; omega) (by show (ltR l).length - (k + 1) < (ltR l).length - k; omega) (wkf id (wS <| wS <| wS <| wE (e := (vint (by (rw [hbs]; first | done | rfl | omega | (rw [hse]; omega))))) <| wE (e := (vint (by (rw [hbs]; first | done | rfl | omega | (rw [hse]; omega))))) <| wS <| wS <| wE (e := (vint (by rfl))) <| wX <| wQD <| wP <| by (iterate 9 refine wF ?_); exact wN))
     ·skip
      have c6P := of_decide_eq_false c6
      have hbs := bst_no (l := l) (hi := true) (k := k) (by rw [hse] at *; simp; omega)
      refine sk (rg ?_)
      refine z ?_ (h := fun ν => acts_bin ν vt vc (rA (by omega) (by omega)))
      refine zm (nl ?_)
      exact loop_back ((k + 1)) (by show _ ≤ _; omega) (by show (ltR l).length - (k + 1) < (ltR l).length - k; omega) (wkf id (wS <| wS <| wS <| wE (e := (vint (by (rw [hbs]; first | done | rfl | omega | (rw [hse]; omega))))) <| wE (e := (vint (by (rw [hbs]; first | done | rfl | omega | (rw [hse]; omega))))) <| wS <| wS <| wE (e := (vint (by rfl))) <| wX <| wQD <| wP <| by (iterate 9 refine wF ?_); exact wN))
   ·skip
    have c4P := of_decide_eq_false c4
    have hke : k = (ltR l).length := by omega
    have hbl : (bst l true k).1 < (ltR l).length := by have := hbb.1 (by omega); omega
    have hfi : gLd (ltR l) (bst l true k).1 = endT l true := by rw [endT_yes hen, ← hke]; unfold outT; rw [if_neg (by omega)]
    have hfo : outT l true k = endT l true := by rw [endT_yes hen, ← hke]
    refine wp_exit' (sq ?_)
    refine wp_weak (up1D (h := 13) (h1 := 15) (T := 57) (T0 := 26) (s0 := 1) (ex0 := true) (L := (ltR l)) ((bst l true k).1) (by omega)) ?_
    refine rg (zm (zm ?_))
    refine z ?_ (h := fun ν => ix0 ν qE9_un_85 qE9_sz_26 vt (hlt := (by omega)))
    refine z ?_ (h := fun ν => lu1 (i := ((bst l true k).1)) ν qE9_ti_26 (by simp only [rwI_len, rwD_len]; first | omega | assumption))
    refine za (zk (nl (wp_ret' ?_)))
    exact ⟨[kS 4 900 0 ((gLd (ltR l) ((bst l true k).1)).length), kB 5 true, kO 800 3 1 true (pl (isl l)), kO 900 57 3 true (pl (dsl (gLd (ltR l) ((bst l true k).1)))), kF 2, kF 13, kF 15, kF 19, kF 23, kF 32, kF 33, kF 49, kF 50, kF 51, kF 52], wkf (subst1 [(900, 15)]) (wS <| wS <| wP <| wP <| by (iterate 11 refine wF ?_); exact wN), ⟨by kernel_rfl, obj_eq (c := pl (dsl (gLd (ltR l) ((bst l true k).1)))) (by kernel_rfl) (congrArg (fun z => pl (dsl z)) (by exact hfi)), trivial⟩, ⟨vo_eq 4 (.a (.sl 900 0 ((gLd (ltR l) ((bst l true k).1)).length))) (.a (.sl 900 0 ((endT l true).length))) (by kernel_rfl) (congrArg (fun z : Nat => B.a (.sl 900 0 z)) (by exact congrArg List.length hfi)), vo_eq 5 (.a (.val (.bool true))) (.a (.val (.bool (enOk l)))) (by kernel_rfl) (congrArg (fun z : Bool => B.a (.val (.bool z))) (by exact hen.symm))⟩⟩
 ·skip
  have hen : enOk l = false := by unfold enOk; rw [c1]; rfl
  refine rg ?_
  refine z ?_ (h := fun ν => acts_load_owns (xs := [(.sl 800 0 l.length : A)]) ν qE9_ti_29 rfl (by decide) rfl)
  refine z ?_ (h := fun ν => acts_call1 ν (impl_IsSimple_fn l (by omega)) (ac (ArgV.reg _ _ _ (s := 1) (by simp [isl]) (by exact List.take_of_length_le (by simp [isl]))) an) (resval (congrArg Value.bool c1)))
  refine z ?_ (h := fun ν => acts_un ν vt (r_not (c := true) rfl))
  refine zm (zo (zo (zo ?_)))
  refine z ?_ (h := fun ν => acts_pick_t ν vt xc)
  refine nl (wt (sq (rg (zk (zk (nl ?_))))))
  refine wp_weak (wnD (k := 4) (h := 15) (T := 57) (by kernel_rfl) (by kernel_rfl)) ?_
  refine wp_ret' ?_
  exact ⟨[kS 4 900 0 0, kB 5 false, kO 800 3 1 true (pl (isl l)), kO 900 57 3 true (pl (dsl [])), kF 2, kF 13, kF 15, kF 19, kF 23, kF 32, kF 33, kF 49, kF 50, kF 51, kF 52], wkf (subst1 [(900, 15)]) (wS <| wS <| wP <| wP <| by (iterate 11 refine wF ?_); exact wN), ⟨by kernel_rfl, obj_eq (c := pl (dsl [])) (by kernel_rfl) (congrArg (fun z => pl (dsl z)) (by exact (endT_no hen).symm)), trivial⟩, ⟨vo_eq 4 (.a (.sl 900 0 0)) (.a (.sl 900 0 ((endT l true).length))) (by kernel_rfl) (congrArg (fun z : Nat => B.a (.sl 900 0 z)) (by (rw [endT_no hen]; rfl))), vo_eq 5 (.a (.val (.bool false))) (.a (.val (.bool (enOk l)))) (by kernel_rfl) (congrArg (fun z : Bool => B.a (.val (.bool z))) (by exact hen.symm))⟩⟩

set_option maxHeartbeats 4000000 in
set_option maxRecDepth 100000 in
theorem outermost_lo (l : List Int) (hl : l.length ≤ 4194304) : FnO Try.prog 31 [.agg [(.sl 800 0 l.length : A)], .a (.val (.int .i64 (-1)))] [(.o 800, some (.o ⟨3, 1, true, pl (isl l)⟩))] (V.tup [.a (.sl 900 0 ((endT l false).length)), .a (.val (.bool (enOk l)))]) [(.o 800, some (.o ⟨3, 1, true, pl (isl l)⟩)), (.o 900, some (.o ⟨57, 3, true, pl (dsl (endT l false))⟩))] [800] := by
 have hll := ltR_len l
 refine fn_introO (N := 49) Try.func31 rfl (by kernel_rfl) rfl (Nat.le_of_ble_eq_true rfl) rfl rfl (by kernel_rfl) (by kernel_rfl) ⟨oc_pl (fun _ => rfl), trivial⟩ [2, 13, 15, 19, 23, 32, 33, 49, 50, 51, 52] (retO2 rfl) (fun W own kp im0 => ?_)
 show Wp _ _ _ [kV 0 (V.b (.agg [(.sl 800 0 l.length : A)])), kI 1 (-1), kO 800 3 1 true (pl (isl l)), kF 2, kF 13, kF 15, kF 19, kF 23, kF 32, kF 33, kF 49, kF 50, kF 51, kF 52]
 refine sq (rg ?_)
 refine z ?_ (h := fun ν => acts_box (h := 2) ν xt (by exact ob1 rfl))
 refine zk (zk (nl (sq (rg ?_))))
 refine z ?_ (h := fun ν => acts_load_owns (xs := [(.sl 800 0 l.length : A)]) ν qE9_ti_29 rfl (by decide) rfl)
 refine z ?_ (h := fun ν => acts_callO (d := 13) (f := 61) (os := [(.o 800, some (.o ⟨3, 1, true, pl (isl l)⟩))]) (os' := [(.o 800, some (.o ⟨3, 1, true, pl (isl l)⟩)), (.o 13, some (.o ⟨26, 1, true, rwD 57 (ltR l)⟩))]) (r := V.b (.a (.sl 13 0 ((ltR l).length)))) (bs := [.agg [(.sl 800 0 l.length : A)]]) (keep := [800]) (new := [13]) (dead := []) ν (FnO.ren' (impl_ListTilings_fn l (by omega)) (subst1 [(900, 13)]) rfl rfl (by kernel_rfl) (by kernel_rfl) ⟨oc_pl (fun _ => rfl), oc_rwD, trivial⟩ (by kernel_rfl) rfl (by simp only [renS, Ob.ren, pl_ren, rws_ren_doms, rws_ren_ints, rws_ren_cels, rwI_ren, rwD_ren]; first | done | rfl) (by simp only [renS, Ob.ren, pl_ren, rws_ren_doms, rws_ren_ints, rws_ren_cels, rwI_ren, rwD_ren]; first | done | rfl) rfl rfl) (by kernel_rfl) ⟨oc_pl (fun _ => rfl), oc_rwD, trivial⟩ (by kernel_rfl) (ArgOs.cons (ArgO.slot 12 (.agg [(.sl 800 0 l.length : A)])) (ArgOs.nil)))
 refine za (nl (sq (sq ?_)))
 rcases Bool.eq_false_or_eq_true ((simB l)) with c1 | c1
 ·skip
  have hsi := c1
  refine rg ?_
  refine z ?_ (h := fun ν => acts_load_owns (xs := [(.sl 800 0 l.length : A)]) ν qE9_ti_29 rfl (by decide) rfl)
  refine z ?_ (h := fun ν => acts_call1 ν (impl_IsSimple_fn l (by omega)) (ac (ArgV.reg _ _ _ (s := 1) (by simp [isl]) (by exact List.take_of_length_le (by simp [isl]))) an) (resval (congrArg Value.bool c1)))
  refine z ?_ (h := fun ν => acts_un ν vt (r_not (c := false) rfl))
  refine zm ?_
  refine zg ?_ (h := fun ν => step_on rfl rfl (mt ν))
  refine zg ?_ (h := fun ν => step_on rfl rfl (lnS ν qE9_un_85))
  refine zg ?_ (h := fun ν => step_on rfl rfl (acts_bin ν vt vc (r_eql rfl)))
  refine z ?_ (h := fun ν => acts_pick_f ν vt xt)
  refine nl ?_
  refine wi (fun c2 => ?_) (fun c2 => ?_)
  ·skip
   have c2P := of_decide_eq_true c2
   have hen : enOk l = false := by unfold enOk; rw [c2]; exact Bool.and_false _
   refine sq (rg (zk (zk (nl ?_))))
   refine wp_weak (wnD (k := 4) (h := 15) (T := 57) (by kernel_rfl) (by kernel_rfl)) ?_
   refine wp_ret' ?_
   exact ⟨[kS 4 900 0 0, kB 5 false, kO 800 3 1 true (pl (isl l)), kO 900 57 3 true (pl (dsl [])), kF 2, kF 13, kF 15, kF 19, kF 23, kF 32, kF 33, kF 49, kF 50, kF 51, kF 52], wkf (subst1 [(900, 15)]) (wS <| wS <| wP <| wP <| by (iterate 11 refine wF ?_); exact wN), ⟨by kernel_rfl, obj_eq (c := pl (dsl [])) (by kernel_rfl) (congrArg (fun z => pl (dsl z)) (by exact (endT_no hen).symm)), trivial⟩, ⟨vo_eq 4 (.a (.sl 900 0 0)) (.a (.sl 900 0 ((endT l false).length))) (by kernel_rfl) (congrArg (fun z : Nat => B.a (.sl 900 0 z)) (by (rw [endT_no hen]; rfl))), vo_eq 5 (.a (.val (.bool false))) (.a (.val (.bool (enOk l)))) (by kernel_rfl) (congrArg (fun z : Bool => B.a (.val (.bool z))) (by exact hen.symm))⟩⟩
  ·skip
   have c2P := of_decide_eq_false c2
   have hen : enOk l = true := by unfold enOk; rw [hsi, c2]; rfl
   have hlp : 0 < (ltR l).length := by omega
   refine sk (sq (rg (zk (zk (nl (sq (sq (rg (zm ?_)))))))))
   refine z ?_ (h := fun ν => lnS ν qE9_un_85)
   refine z ?_ (h := fun ν => mc ν)
   refine nl (bkk ?_)
   refine wp_loop' (fun (k : Nat) => k ≤ (ltR l).length) (fun (k : Nat) => [kI 1 (-1), kP 2 2 0, kS 6 13 0 ((ltR l).length), kI 7 (((bst l false k).1 : Nat) : Int), kI 8 (-(bst l false k).2), kS 22 13 0 ((ltR l).length), kI 23 (((ltR l).length : Nat) : Int), kI 24 ((k : Nat) : Int), kO 2 29 1 true [(.sl 800 0 l.length : A)], kO 13 26 1 true (rwD 57 (ltR l)), kO 800 3 1 true (pl (isl l)), kF 15, kF 19, kF 23, kF 32, kF 33, kF 49, kF 50, kF 51, kF 52]) (fun (k : Nat) => (ltR l).length - k) ((0 : Nat)) (by exact (Nat.zero_le _ : 0 ≤ _)) (wkf id (wS <| wS <| wS <| wE (e := (vint (by rfl))) <| wE (e := (vint (by rfl))) <| wS <| wS <| wE (e := (vint (by rfl))) <| wX <| wQD <| wP <| by (iterate 9 refine wF ?_); exact wN)) ?_
   rintro k inv3
   replace inv3 : k ≤ (ltR l).length := inv3
   have invk := inv3
   have hbb := bst_bd l false k
   refine sq (rg ?_)
   refine z ?_ (h := fun ν => acts_bin ν vt vt (r_lss rfl))
   refine nl (sq ?_)
   refine wi (fun c4 => ?_) (fun c4 => ?_)
   ·skip
    have c4P := of_decide_eq_true c4
    have hkl : k < (ltR l).length := by omega
    have hst : (simB l && isTil l (gLd (ltR l) k)) = true := by rw [hsi, lt_til hkl]; rfl
    have hrow : (gLd (ltR l) k).length ≤ 33 := ltR_row hkl
    have hhf := htsF_len l (gLd (ltR l) k)
    have hhl := hts_len l (gLd (ltR l) k)
    have hhb := hsT_bd l k
    have hse : hsum (htsF l (gLd (ltR l) k)) = hsT l k := by unfold hsT; rw [hts_yes hst]
    have hsd : hsum (hts l (gLd (ltR l) k)) = hsT l k := rfl
    refine sk (sq (bkk (sq ?_)))
    refine wp_weak (up1D (h := 13) (h1 := 15) (T := 57) (T0 := 26) (s0 := 1) (ex0 := true) (L := (ltR l)) k (by omega)) ?_
    refine rg (zm ?_)
    refine z ?_ (h := fun ν => ix0 ν qE9_un_85 qE9_sz_26 vt (hlt := (by omega)))
    refine z ?_ (h := fun ν => lu1 (i := k) ν qE9_ti_26 (by simp only [rwI_len, rwD_len]; first | omega | assumption))
    refine za (za (nl (sq (rg (zm ?_)))))
    refine z ?_ (h := fun ν => acts_load_owns (xs := [(.sl 800 0 l.length : A)]) ν qE9_ti_29 rfl (by decide) rfl)
    refine zm ?_
    refine z ?_ (h := fun ν => acts_call1 ν (HeightsOf_yes l (gLd (ltR l) k) (by omega) (by omega) (by omega)) (ac (ArgV.reg _ _ _ (s := 1) (by simp [isl]) (by exact List.take_of_length_le (by simp [isl]))) (ac (argv_own (by exact dsl_len _)) an)) (ResV.row _ _ _ _ 32))
    refine z ?_ (h := fun ν => acts_call1 ν (impl_HeightSum_fn (htsF l (gLd (ltR l) k)) (by omega)) (ac (argv_own (by exact isl_len _)) an) rv)
    refine z ?_ (h := fun ν => acts_bin ν vt vt (rM (by omega) (by omega)))
    refine za (nl ?_)
    refine wp_weak (qk1D (h := 13) (T := 57) (T0 := 26) (s0 := 1) (ex0 := true) (h1 := 15) (n := ((gLd (ltR l) k).length)) (L := (ltR l)) (L2 := (ltR l)) (r := (gLd (ltR l) k)) k (by (first | omega | assumption)) (by rfl) (set_gLd (by omega))) ?_
    refine sq ?_
    rcases Bool.eq_false_or_eq_true (decide (((k : Nat) : Int) = 0)) with c5 | c5
    ·skip
     have c5P := of_decide_eq_true c5
     have hk0 : k = 0 := by omega
     have hbs := bst_up (l := l) (hi := false) (k := k) (.inl hk0)
     refine rg (zm ?_)
     refine z ?_ (h := fun ν => acts_bin ν vt vc (r_eql (c := true) c5))
     refine zm (zo (zo (zo ?_)))
     refine z ?_ (h := fun ν => acts_pick_t ν vt xc)
     refine nl (wt (rg (zm (zm (za (za (nl (rg ?_))))))))
     refine z ?_ (h := fun ν => acts_bin ν vt vc (rA (by omega) (by omega)))
     refine zm (nl ?_)
     exact loop_back ((k + 1)) (by show _ ≤ _; omega) (by show (ltR l).length - (k + 1) < (ltR l).length - k; omega) (wkf id (wS <| wS <| wS <| wE (e := (vint (by (rw [hbs]; first | done | rfl | omega | (rw [hse]; omega))))) <| wE (e := (vint (by (rw [hbs]; first | done | rfl | omega | (rw [hse]; omega))))) <| wS <| wS <| wE (e := (vint (by rfl))) <| wX <| wQD <| wP <| by (iterate 9 refine wF ?_); exact wN))
    ·skip
     have c5P := of_decide_eq_false c5
     have hkn : k ≠ 0 := by omega
     refine rg (zm ?_)
     refine z ?_ (h := fun ν => acts_bin ν vt vc (r_eql (c := false) c5))
     refine zm ?_
     refine zg ?_ (h := fun ν => step_on rfl rfl (mt ν))
     refine zg ?_ (h := fun ν => step_on rfl rfl (mt ν))
     refine zg ?_ (h := fun ν => step_on rfl rfl (acts_bin ν vt vt (r_gtr rfl)))
     refine z ?_ (h := fun ν => acts_pick_f ν vt xt)
     refine nl ?_
     refine wi (fun c6 => ?_) (fun c6 => ?_)
     ·skip
      have c6P := of_decide_eq_true c6
      have hbs := bst_up (l := l) (hi := false) (k := k) (.inr (.inr ⟨rfl, by rw [hse] at *; omega⟩))
      refine rg (zm (zm (za (za (nl (rg ?_))))))
      refine z ?_ (h := fun ν => acts_bin ν vt vc (rA (by omega) (by omega)))
      refine zm (nl ?_)
      exact loop_back ((k + 1)) (by show _ ≤ _; omega) (by show (ltR l).length - (k + 1) < (ltR l).length - k; omega) (wkf id (wS <| wS <| wS <| wE (e := (vint (by (rw [hbs]; first | done | rfl | omega | (rw [hse]; omega))))) <| wE (e := (vint (by (rw [hbs]; first | done | rfl | omega | (rw [hse]; omega))))) <| wS <| wS <| wE (e := (vint (by rfl))) <| wX <| wQD <| wP <| by (iterate 9 refine wF ?_); exact wN))
     ·skip
      have c6P := of_decide_eq_false c6
      have hbs := bst_no (l := l) (hi := false) (k := k) (by rw [hse] at *; simp; omega)
      refine sk (rg ?_)
      refine z ?_ (h := fun ν => acts_bin ν vt vc (rA (by omega) (by omega)))
      refine zm (nl ?_)
      exact loop_back ((k + 1)) (by show _ ≤ _; omega) (by show (ltR l).length - (k + 1) < (ltR l).length - k; omega) (wkf id (wS <| wS <| wS <| wE (e := (vint (by (rw [hbs]; first | done | rfl | omega | (rw [hse]; omega))))) <| wE (e := (vint (by (rw [hbs]; first | done | rfl | omega | (rw [hse]; omega))))) <| wS <| wS <| wE (e := (vint (by rfl))) <| wX <| wQD <| wP <| by (iterate 9 refine wF ?_); exact wN))
   ·skip
    have c4P := of_decide_eq_false c4
    have hke : k = (ltR l).length := by omega
    have hbl : (bst l false k).1 < (ltR l).length := by have := hbb.1 (by omega); omega
    have hfi : gLd (ltR l) (bst l false k).1 = endT l false := by rw [endT_yes hen, ← hke]; unfold outT; rw [if_neg (by omega)]
    have hfo : outT l false k = endT l false := by rw [endT_yes hen, ← hke]
    refine wp_exit' (sq ?_)
    refine wp_weak (up1D (h := 13) (h1 := 15) (T := 57) (T0 := 26) (s0 := 1) (ex0 := true) (L := (ltR l)) ((bst l false k).1) (by omega)) ?_
    refine rg (zm (zm ?_))
    refine z ?_ (h := fun ν => ix0 ν qE9_un_85 qE9_sz_26 vt (hlt := (by omega)))
    refine z ?_ (h := fun ν => lu1 (i := ((bst l false k).1)) ν qE9_ti_26 (by simp only [rwI_len, rwD_len]; first | omega | assumption))
    refine za (zk (nl (wp_ret' ?_)))
    exact ⟨[kS 4 900 0 ((gLd (ltR l) ((bst l false k).1)).length), kB 5 true, kO 800 3 1 true (pl (isl l)), kO 900 57 3 true (pl (dsl (gLd (ltR l) ((bst l false k).1)))), kF 2, kF 13, kF 15, kF 19, kF 23, kF 32, kF 33, kF 49, kF 50, kF 51, kF 52], wkf (subst1 [(900, 15)]) (wS <| wS <| wP <| wP <| by (iterate 11 refine wF ?_); exact wN), ⟨by kernel_rfl, obj_eq (c := pl (dsl (gLd (ltR l) ((bst l false k).1)))) (by kernel_rfl) (congrArg (fun z => pl (dsl z)) (by exact hfi)), trivial⟩, ⟨vo_eq 4 (.a (.sl 900 0 ((gLd (ltR l) ((bst l false k).1)).length))) (.a (.sl 900 0 ((endT l false).length))) (by kernel_rfl) (congrArg (fun z : Nat => B.a (.sl 900 0 z)) (by exact congrArg List.length hfi)), vo_eq 5 (.a (.val (.bool true))) (.a (.val (.bool (enOk l)))) (by kernel_rfl) (congrArg (fun z : Bool => B.a (.val (.bool z))) (by exact hen.symm))⟩⟩
 ·skip
  have hen : enOk l = false := by unfold enOk; rw [c1]; rfl
  refine rg ?_
  refine z ?_ (h := fun ν => acts_load_owns (xs := [(.sl 800 0 l.length : A)]) ν qE9_ti_29 rfl (by decide) rfl)
  refine z ?_ (h := fun ν => acts_call1 ν (impl_IsSimple_fn l (by omega)) (ac (ArgV.reg _ _ _ (s := 1) (by simp [isl]) (by exact List.take_of_length_le (by simp [isl]))) an) (resval (congrArg Value.bool c1)))
  refine z ?_ (h := fun ν => acts_un ν vt (r_not (c := true) rfl))
  refine zm (zo (zo (zo ?_)))
  refine z ?_ (h := fun ν => acts_pick_t ν vt xc)
  refine nl (wt (sq (rg (zk (zk (nl ?_))))))
  refine wp_weak (wnD (k := 4) (h := 15) (T := 57) (by kernel_rfl) (by kernel_rfl)) ?_
  refine wp_ret' ?_
  exact ⟨[kS 4 900 0 0, kB 5 false, kO 800 3 1 true (pl (isl l)), kO 900 57 3 true (pl (dsl [])), kF 2, kF 13, kF 15, kF 19, kF 23, kF 32, kF 33, kF 49, kF 50, kF 51, kF 52], wkf (subst1 [(900, 15)]) (wS <| wS <| wP <| wP <| by (iterate 11 refine wF ?_); exact wN), ⟨by kernel_rfl, obj_eq (c := pl (dsl [])) (by kernel_rfl) (congrArg (fun z => pl (dsl z)) (by exact (endT_no hen).symm)), trivial⟩, ⟨vo_eq 4 (.a (.sl 900 0 0)) (.a (.sl 900 0 ((endT l false).length))) (by kernel_rfl) (congrArg (fun z : Nat => B.a (.sl 900 0 z)) (by (rw [endT_no hen]; rfl))), vo_eq 5 (.a (.val (.bool false))) (.a (.val (.bool (enOk l)))) (by kernel_rfl) (congrArg (fun z : Bool => B.a (.val (.bool z))) (by exact hen.symm))⟩⟩

set_option maxHeartbeats 4000000 in
set_option maxRecDepth 100000 in
theorem outermost_g (l : List Int) (hi : Bool) (sg : Int) (hl : l.length ≤ 4194304) (hsg : sg = if hi = true then 1 else -1) : FnO Try.prog 31 [.agg [(.sl 800 0 l.length : A)], .a (.val (.int .i64 sg))] [(.o 800, some (.o ⟨3, 1, true, pl (isl l)⟩))] (V.tup [.a (.sl 900 0 ((endT l hi).length)), .a (.val (.bool (enOk l)))]) [(.o 800, some (.o ⟨3, 1, true, pl (isl l)⟩)), (.o 900, some (.o ⟨57, 3, true, pl (dsl (endT l hi))⟩))] [800] := by
 subst hsg
 cases hi
 · exact outermost_lo l hl
 · exact outermost_hi l hl

set_option maxHeartbeats 4000000 in
set_option maxRecDepth 100000 in
theorem l14End_true (l : List Int) (hl : l.length ≤ 4194304) : FnO Try.prog 29 [.agg [(.sl 800 0 l.length : A)], .a (.val (.bool true))] [(.o 800, some (.o ⟨3, 1, true, pl (isl l)⟩))] (V.tup [.a (.slv ((endT l true).length) 3 (dsl (endT l true))), .a (.val (.bool (enOk l)))]) [(.o 800, some (.o ⟨3, 1, true, pl (isl l)⟩))] [800] := by
 have hll := ltR_len l
 refine fn_introO (N := 66) Try.func29 rfl (by kernel_rfl) rfl (Nat.le_of_ble_eq_true rfl) rfl rfl (by kernel_rfl) (by kernel_rfl) ⟨oc_pl (fun _ => rfl), trivial⟩ [2, 11, 13, 15, 19, 24, 30, 39, 40, 66, 67, 68, 69] (retO2 rfl) (fun W own kp im0 => ?_)
 show Wp _ _ _ [kV 0 (V.b (.agg [(.sl 800 0 l.length : A)])), kB 1 true, kO 800 3 1 true (pl (isl l)), kF 2, kF 11, kF 13, kF 15, kF 19, kF 24, kF 30, kF 39, kF 40, kF 66, kF 67, kF 68, kF 69]
 refine sq (rg ?_)
 refine z ?_ (h := fun ν => acts_box (h := 2) ν xt (by exact ob1 rfl))
 refine zk (zk (nl (sq (rg ?_))))
 refine z ?_ (h := fun ν => b0D (h := 11) ν qE9_un_26 qE9_zi_57)
 refine za (nl (sq ?_))
 refine wp_weak (weak_freeze_sl (k := 6) (h := 11) (T := 57) (s := 3) (ex := true) (off := 0) (n := (([] : List Dom).length)) (xs := dsl []) (ys := dsl ([] : List Dom)) (by kernel_rfl) (by kernel_rfl) (by simp only [dsl_len]; first | omega | (simp; done) | (first | omega | assumption)) (by decide) ((by rfl))) ?_
 refine rg ?_
 refine z ?_ (h := fun ν => acts_load_owns (xs := [(.sl 800 0 l.length : A)]) ν qE9_ti_29 rfl (by decide) rfl)
 refine z ?_ (h := fun ν => acts_callO (d := 13) (f := 56) (os := [(.o 800, some (.o ⟨3, 1, true, pl (isl l)⟩))]) (os' := [(.o 800, some (.o ⟨3, 1, true, pl (isl l)⟩))]) (r := V.b (.a (.slvv 3 (vwD (ltR l))))) (bs := [.agg [(.sl 800 0 l.length : A)]]) (keep := [800]) (new := []) (dead := []) ν ((spec_ListTilings_fn l (by omega))) (by kernel_rfl) ⟨oc_pl (fun _ => rfl), trivial⟩ (by kernel_rfl) (ArgOs.cons (ArgO.slot 12 (.agg [(.sl 800 0 l.length : A)])) (ArgOs.nil)))
 refine za (nl (sq (sq ?_)))
 rcases Bool.eq_false_or_eq_true ((simB l)) with c1 | c1
 ·skip
  have hsi := c1
  rcases Bool.eq_false_or_eq_true (decide ((((cellsOf l).length : Nat) : Int) = 0)) with c2 | c2
  ·skip
   have c2P := of_decide_eq_true c2
   have hff : False := sim_cells hsi (of_decide_eq_true c2)
   refine rg ?_
   refine z ?_ (h := fun ν => acts_load_owns (xs := [(.sl 800 0 l.length : A)]) ν qE9_ti_29 rfl (by decide) rfl)
   refine z ?_ (h := fun ν => acts_call1 ν (spec_IsSimple_fn l (by omega)) (ac (ArgV.reg _ _ _ (s := 1) (by simp [isl]) (by exact List.take_of_length_le (by simp [isl]))) an) (resval (congrArg Value.bool c1)))
   refine z ?_ (h := fun ν => acts_un ν vt (r_not (c := false) rfl))
   refine zm ?_
   refine zg ?_ (h := fun ν => step_on rfl rfl (acts_load_owns (xs := [(.sl 800 0 l.length : A)]) ν qE9_ti_29 rfl (by decide) rfl))
   refine zg ?_ (h := fun ν => step_on rfl rfl (acts_call1 ν (spec_CountCells_fn l (by omega)) (ac (ArgV.reg _ _ _ (s := 1) (by simp [isl]) (by exact List.take_of_length_le (by simp [isl]))) an) rv))
   refine zg ?_ (h := fun ν => step_on rfl rfl (acts_bin ν vt vc (r_eql (c := true) c2)))
   refine z ?_ (h := fun ν => acts_pick_f ν vt xt)
   refine zm (zo (zo (zo ?_)))
   refine z ?_ (h := fun ν => acts_pick_t ν vt xc)
   refine nl (wt (sq (rg (zm (za (zk (nl (wp_ret' ?_))))))))
   exact ⟨_, weak_id, ⟨by kernel_rfl, trivial⟩, ⟨vo_eq 4 (.a (.slv (([] : List Dom).length) 3 (dsl ([] : List Dom)))) (.a (.slv ((endT l true).length) 3 (dsl (endT l true)))) (by kernel_rfl) (slvD_eq (by exact hff.elim)), vo_eq 5 (.a (.val (.bool false))) (.a (.val (.bool (enOk l)))) (by kernel_rfl) (congrArg (fun z : Bool => B.a (.val (.bool z))) (by exact hff.elim))⟩⟩
  ·skip
   have c2P := of_decide_eq_false c2
   refine rg ?_
   refine z ?_ (h := fun ν => acts_load_owns (xs := [(.sl 800 0 l.length : A)]) ν qE9_ti_29 rfl (by decide) rfl)
   refine z ?_ (h := fun ν => acts_call1 ν (spec_IsSimple_fn l (by omega)) (ac (ArgV.reg _ _ _ (s := 1) (by simp [isl]) (by exact List.take_of_length_le (by simp [isl]))) an) (resval (congrArg Value.bool c1)))
   refine z ?_ (h := fun ν => acts_un ν vt (r_not (c := false) rfl))
   refine zm ?_
   refine zg ?_ (h := fun ν => step_on rfl rfl (acts_load_owns (xs := [(.sl 800 0 l.length : A)]) ν qE9_ti_29 rfl (by decide) rfl))
   refine zg ?_ (h := fun ν => step_on rfl rfl (acts_call1 ν (spec_CountCells_fn l (by omega)) (ac (ArgV.reg _ _ _ (s := 1) (by simp [isl]) (by exact List.take_of_length_le (by simp [isl]))) an) rv))
   refine zg ?_ (h := fun ν => step_on rfl rfl (acts_bin ν vt vc (r_eql (c := false) c2)))
   refine z ?_ (h := fun ν => acts_pick_f ν vt xt)
   refine zm ?_
   refine zg ?_ (h := fun ν => step_on rfl rfl (mt ν))
   refine zg ?_ (h := fun ν => step_on rfl rfl (lnD ν qE9_un_85))
   refine zg ?_ (h := fun ν => step_on rfl rfl (acts_bin ν vt vc (r_eql rfl)))
   refine z ?_ (h := fun ν => acts_pick_f ν vt xt)
   refine nl ?_
   refine wi (fun c3 => ?_) (fun c3 => ?_)
   ·skip
    have c3P := of_decide_eq_true c3
    have hen : enOk l = false := by unfold enOk; rw [c3]; exact Bool.and_false _
    refine sq (rg (zm (za (zk (nl (wp_ret' ?_))))))
    exact ⟨_, weak_id, ⟨by kernel_rfl, trivial⟩, ⟨vo_eq 4 (.a (.slv (([] : List Dom).length) 3 (dsl ([] : List Dom)))) (.a (.slv ((endT l true).length) 3 (dsl (endT l true)))) (by kernel_rfl) (slvD_eq (by exact (endT_no hen).symm)), vo_eq 5 (.a (.val (.bool false))) (.a (.val (.bool (enOk l)))) (by kernel_rfl) (congrArg (fun z : Bool => B.a (.val (.bool z))) (by exact hen.symm))⟩⟩
   ·skip
    have c3P := of_decide_eq_false c3
    have hen : enOk l = true := by unfold enOk; rw [hsi, c3]; rfl
    have hlp : 0 < (ltR l).length := by omega
    refine sk (sq (rg (zk (nl (sq (sq (rg (zk (nl (bkk ?_))))))))))
    refine wp_loop' (fun (k : Nat) => k ≤ (ltR l).length) (fun (k : Nat) => [kB 1 true, kP 2 2 0, kV 6 (V.b (.a (.slv ((outT l true k).length) 3 (dsl (outT l true k))))), kV 7 (V.b (.a (.slvv 3 (vwD (ltR l))))), kI 8 ((bst l true k).2), kI 9 ((k : Nat) : Int), kO 2 29 1 true [(.sl 800 0 l.length : A)], kO 800 3 1 true (pl (isl l)), kF 13, kF 15, kF 19, kF 24, kF 30, kF 39, kF 40, kF 66, kF 67, kF 68, kF 69]) (fun (k : Nat) => (ltR l).length - k) ((0 : Nat)) (by exact (Nat.zero_le _ : 0 ≤ _)) (wkf id (wS <| wS <| wE (e := (vgen (congrArg V.b (slvD_eq (by rfl))) rfl)) <| wS <| wE (e := (vint (by rfl))) <| wE (e := (vint (by rfl))) <| wX <| wP <| by (iterate 11 refine wF ?_); exact wN)) ?_
    rintro k inv4
    replace inv4 : k ≤ (ltR l).length := inv4
    have invk := inv4
    have hbb := bst_bd l true k
    refine sq (sq (rg (zm (zm ?_))))
    refine z ?_ (h := fun ν => lnD ν qE9_un_85)
    refine z ?_ (h := fun ν => acts_bin ν vt vt (r_lss rfl))
    refine nl ?_
    refine wi (fun c5 => ?_) (fun c5 => ?_)
    ·skip
     have c5P := of_decide_eq_true c5
     have hkl : k < (ltR l).length := by omega
     have hst : (simB l && isTil l (gLd (ltR l) k)) = true := by rw [hsi, lt_til hkl]; rfl
     have hrow : (gLd (ltR l) k).length ≤ 33 := ltR_row hkl
     have hhf := htsF_len l (gLd (ltR l) k)
     have hhl := hts_len l (gLd (ltR l) k)
     have hhb := hsT_bd l k
     have hse : hsum (htsF l (gLd (ltR l) k)) = hsT l k := by unfold hsT; rw [hts_yes hst]
     have hsd : hsum (hts l (gLd (ltR l) k)) = hsT l k := rfl
     refine sk (sq (bkk (sq (wp_dr ?_))))
     refine zd ?_ (h := fun ν => acts_load_owns (xs := [(.sl 800 0 l.length : A)]) ν qE9_ti_29 rfl (by decide) rfl)
     refine zdm (zdm ?_)
     refine zd ?_ (h := fun ν => xvv ν qE9_un_85 qE9_sz_26 vt (hlt := (by simp only [vwI_len, vwD_len]; first | omega | assumption)))
     refine zd ?_ (h := fun ν => lvD ν qE9_ti_26 (by omega))
     refine zd ?_ (h := fun ν => acts_call1 ν (spec_HeightsOf_fn l (gLd (ltR l) k) (by omega) (by omega)) (ac (ArgV.reg _ _ _ (s := 1) (by simp [isl]) (by exact List.take_of_length_le (by simp [isl]))) (ac (ArgV.slv _ _ _ _) an)) (ResV.row _ _ _ _ 39))
     refine zd ?_ (h := fun ν => acts_call1 ν (spec_HeightSum_fn (hts l (gLd (ltR l) k)) (by omega)) (ac (argv_own (by exact isl_len _)) an) rv)
     refine zd ?_ (h := fun ν => gt ν)
     refine dw_nil (sq ?_)
     rcases Bool.eq_false_or_eq_true (decide (((k : Nat) : Int) = 0)) with c6 | c6
     ·skip
      have c6P := of_decide_eq_true c6
      have hk0 : k = 0 := by omega
      have hbs := bst_up (l := l) (hi := true) (k := k) (.inl hk0)
      refine rg (zm ?_)
      refine z ?_ (h := fun ν => acts_bin ν vt vc (r_eql (c := true) c6))
      refine zm (zo ?_)
      refine zg ?_ (h := fun ν => step_offu rfl rfl (by decide) rfl ν)
      refine zg ?_ (h := fun ν => step_offx rfl rfl rfl ν)
      refine zg ?_ (h := fun ν => step_offx rfl rfl rfl ν)
      refine zg ?_ (h := fun ν => step_offx rfl rfl rfl ν)
      refine zo ?_
      refine z ?_ (h := fun ν => acts_pick_t ν vt xc)
      refine zm (zo (zo ?_))
      refine zg ?_ (h := fun ν => step_offu rfl rfl (by decide) rfl ν)
      refine zg ?_ (h := fun ν => step_offx rfl rfl rfl ν)
      refine zg ?_ (h := fun ν => step_offx rfl rfl rfl ν)
      refine zg ?_ (h := fun ν => step_offx rfl rfl rfl ν)
      refine zo ?_
      refine z ?_ (h := fun ν => acts_pick_t ν vt xc)
      refine nl (wt (sq (rg (zm (za (nl (rg (zm (zm ?_)))))))))
      refine z ?_ (h := fun ν => xvv ν qE9_un_85 qE9_sz_26 vt (hlt := (by simp only [vwI_len, vwD_len]; first | omega | assumption)))
      refine z ?_ (h := fun ν => lvD ν qE9_ti_26 (by omega))
      refine za (nl (rg (zm ?_)))
      refine z ?_ (h := fun ν => acts_bin ν vt vc (rA (by omega) (by omega)))
      refine za (nl ?_)
      exact loop_back ((k + 1)) (by show _ ≤ _; omega) (by show (ltR l).length - (k + 1) < (ltR l).length - k; omega) (wkf id (wS <| wS <| wE (e := (vgen (congrArg V.b (slvD_eq (by exact (outT_up hbs).symm))) rfl)) <| wS <| wE (e := (vint (by (rw [hbs]; first | done | rfl | omega)))) <| wE (e := (vint (by rfl))) <| wX <| wP <| by (iterate 11 refine wF ?_); exact wN))
     ·skip
      have c6P := of_decide_eq_false c6
      have hkn : k ≠ 0 := by omega
      rcases Bool.eq_false_or_eq_true (decide ((bst l true k).2 < (hsum (hts l (gLd (ltR l) k))))) with c7 | c7
      ·skip
       have c7P := of_decide_eq_true c7
       have hbs := bst_up (l := l) (hi := true) (k := k) (.inr (.inl ⟨rfl, by rw [hsd] at *; omega⟩))
       refine rg (zm ?_)
       refine z ?_ (h := fun ν => acts_bin ν vt vc (r_eql (c := false) c6))
       refine zm ?_
       refine zg ?_ (h := fun ν => step_on rfl rfl (mt ν))
       refine zg ?_ (h := fun ν => step_on rfl rfl (mt ν))
       refine zg ?_ (h := fun ν => step_on rfl rfl (mt ν))
       refine zg ?_ (h := fun ν => step_on rfl rfl (mt ν))
       refine zg ?_ (h := fun ν => step_on rfl rfl (acts_bin ν vt vt (r_gtr (c := true) c7)))
       refine zg ?_ (h := fun ν => step_on rfl rfl (acts_pick_t ν vt xt))
       refine z ?_ (h := fun ν => acts_pick_f ν vt xt)
       refine zm (zo (zo ?_))
       refine zg ?_ (h := fun ν => step_offu rfl rfl (by decide) rfl ν)
       refine zg ?_ (h := fun ν => step_offx rfl rfl rfl ν)
       refine zg ?_ (h := fun ν => step_offx rfl rfl rfl ν)
       refine zg ?_ (h := fun ν => step_offx rfl rfl rfl ν)
       refine zo ?_
       refine z ?_ (h := fun ν => acts_pick_t ν vt xc)
       refine nl (wt (sq (rg (zm (za (nl (rg (zm (zm ?_)))))))))
       refine z ?_ (h := fun ν => xvv ν qE9_un_85 qE9_sz_26 vt (hlt := (by simp only [vwI_len, vwD_len]; first | omega | assumption)))
       refine z ?_ (h := fun ν => lvD ν qE9_ti_26 (by omega))
       refine za (nl (rg (zm ?_)))
       refine z ?_ (h := fun ν => acts_bin ν vt vc (rA (by omega) (by omega)))
       refine za (nl ?_)
       exact loop_back ((k + 1)) (by show _ ≤ _; omega) (by show (ltR l).length - (k + 1) < (ltR l).length - k; omega) (wkf id (wS <| wS <| wE (e := (vgen (congrArg V.b (slvD_eq (by exact (outT_up hbs).symm))) rfl)) <| wS <| wE (e := (vint (by (rw [hbs]; first | done | rfl | omega)))) <| wE (e := (vint (by rfl))) <| wX <| wP <| by (iterate 11 refine wF ?_); exact wN))
      ·skip
       have c7P := of_decide_eq_false c7
       have hbs := bst_no (l := l) (hi := true) (k := k) (by rw [hsd] at *; simp; omega)
       refine rg (zm ?_)
       refine z ?_ (h := fun ν => acts_bin ν vt vc (r_eql (c := false) c6))
       refine zm ?_
       refine zg ?_ (h := fun ν => step_on rfl rfl (mt ν))
       refine zg ?_ (h := fun ν => step_on rfl rfl (mt ν))
       refine zg ?_ (h := fun ν => step_on rfl rfl (mt ν))
       refine zg ?_ (h := fun ν => step_on rfl rfl (mt ν))
       refine zg ?_ (h := fun ν => step_on rfl rfl (acts_bin ν vt vt (r_gtr (c := false) c7)))
       refine zg ?_ (h := fun ν => step_on rfl rfl (acts_pick_t ν vt xt))
       refine z ?_ (h := fun ν => acts_pick_f ν vt xt)
       refine zm ?_
       refine zg ?_ (h := fun ν => step_on rfl rfl (mt ν))
       refine zg ?_ (h := fun ν => step_on rfl rfl (acts_un ν vt (r_not (c := false) rfl)))
       refine zg ?_ (h := fun ν => step_on rfl rfl (mt ν))
       refine zo (zo (zo ?_))
       refine zg ?_ (h := fun ν => step_on rfl rfl (acts_pick_f ν vt xc))
       refine z ?_ (h := fun ν => acts_pick_f ν vt xt)
       refine nl (wf (sk (rg (zm ?_))))
       refine z ?_ (h := fun ν => acts_bin ν vt vc (rA (by omega) (by omega)))
       refine za (nl ?_)
       exact loop_back ((k + 1)) (by show _ ≤ _; omega) (by show (ltR l).length - (k + 1) < (ltR l).length - k; omega) (wkf id (wS <| wS <| wE (e := (vgen (congrArg V.b (slvD_eq (by exact (outT_no hkn hbs).symm))) rfl)) <| wS <| wE (e := (vint (by (rw [hbs]; first | done | rfl | omega)))) <| wE (e := (vint (by rfl))) <| wX <| wP <| by (iterate 11 refine wF ?_); exact wN))
    ·skip
     have c5P := of_decide_eq_false c5
     have hke : k = (ltR l).length := by omega
     have hbl : (bst l true k).1 < (ltR l).length := by have := hbb.1 (by omega); omega
     have hfi : gLd (ltR l) (bst l true k).1 = endT l true := by rw [endT_yes hen, ← hke]; unfold outT; rw [if_neg (by omega)]
     have hfo : outT l true k = endT l true := by rw [endT_yes hen, ← hke]
     refine wp_exit' (sq (rg (zm (za (zk (nl (wp_ret' ?_)))))))
     exact ⟨_, weak_id, ⟨by kernel_rfl, trivial⟩, ⟨vo_eq 4 (.a (.slv ((outT l true k).length) 3 (dsl (outT l true k)))) (.a (.slv ((endT l true).length) 3 (dsl (endT l true)))) (by kernel_rfl) (slvD_eq (by exact hfo)), vo_eq 5 (.a (.val (.bool true))) (.a (.val (.bool (enOk l)))) (by kernel_rfl) (congrArg (fun z : Bool => B.a (.val (.bool z))) (by exact hen.symm))⟩⟩
 ·skip
  have hen : enOk l = false := by unfold enOk; rw [c1]; rfl
  refine rg ?_
  refine z ?_ (h := fun ν => acts_load_owns (xs := [(.sl 800 0 l.length : A)]) ν qE9_ti_29 rfl (by decide) rfl)
  refine z ?_ (h := fun ν => acts_call1 ν (spec_IsSimple_fn l (by omega)) (ac (ArgV.reg _ _ _ (s := 1) (by simp [isl]) (by exact List.take_of_length_le (by simp [isl]))) an) (resval (congrArg Value.bool c1)))
  refine z ?_ (h := fun ν => acts_un ν vt (r_not (c := true) rfl))
  refine zm (zo (zo (zo ?_)))
  refine z ?_ (h := fun ν => acts_pick_t ν vt xc)
  refine zm (zo (zo (zo ?_)))
  refine z ?_ (h := fun ν => acts_pick_t ν vt xc)
  refine nl (wt (sq (rg (zm (za (zk (nl (wp_ret' ?_))))))))
  exact ⟨_, weak_id, ⟨by kernel_rfl, trivial⟩, ⟨vo_eq 4 (.a (.slv (([] : List Dom).length) 3 (dsl ([] : List Dom)))) (.a (.slv ((endT l true).length) 3 (dsl (endT l true)))) (by kernel_rfl) (slvD_eq (by exact (endT_no hen).symm)), vo_eq 5 (.a (.val (.bool false))) (.a (.val (.bool (enOk l)))) (by kernel_rfl) (congrArg (fun z : Bool => B.a (.val (.bool z))) (by exact hen.symm))⟩⟩

set_option maxHeartbeats 4000000 in
set_option maxRecDepth 100000 in
theorem l14End_false (l : List Int) (hl : l.length ≤ 4194304) : FnO Try.prog 29 [.agg [(.sl 800 0 l.length : A)], .a (.val (.bool false))] [(.o 800, some (.o ⟨3, 1, true, pl (isl l)⟩))] (V.tup [.a (.slv ((endT l false).length) 3 (dsl (endT l false))), .a (.val (.bool (enOk l)))]) [(.o 800, some (.o ⟨3, 1, true, pl (isl l)⟩))] [800] := by
 have hll := ltR_len l
 refine fn_introO (N := 66) Try.func29 rfl (by kernel_rfl) rfl (Nat.le_of_ble_eq_true rfl) rfl rfl (by kernel_rfl) (by kernel_rfl) ⟨oc_pl (fun _ => rfl), trivial⟩ [2, 11, 13, 15, 19, 24, 30, 39, 40, 66, 67, 68, 69] (retO2 rfl) (fun W own kp im0 => ?_)
 show Wp _ _ _ [kV 0 (V.b (.agg [(.sl 800 0 l.length : A)])), kB 1 false, kO 800 3 1 true (pl (isl l)), kF 2, kF 11, kF 13, kF 15, kF 19, kF 24, kF 30, kF 39, kF 40, kF 66, kF 67, kF 68, kF 69]
 refine sq (rg ?_)
 refine z ?_ (h := fun ν => acts_box (h := 2) ν xt (by exact ob1 rfl))
 refine zk (zk (nl (sq (rg ?_))))
 refine z ?_ (h := fun ν => b0D (h := 11) ν qE9_un_26 qE9_zi_57)
 refine za (nl (sq ?_))
 refine wp_weak (weak_freeze_sl (k := 6) (h := 11) (T := 57) (s := 3) (ex := true) (off := 0) (n := (([] : List Dom).length)) (xs := dsl []) (ys := dsl ([] : List Dom)) (by kernel_rfl) (by kernel_rfl) (by simp only [dsl_len]; first | omega | (simp; done) | (first | omega | assumption)) (by decide) ((by rfl))) ?_
 refine rg ?_
 refine z ?_ (h := fun ν => acts_load_owns (xs := [(.sl 800 0 l.length : A)]) ν qE9_ti_29 rfl (by decide) rfl)
 refine z ?_ (h := fun ν => acts_callO (d := 13) (f := 56) (os := [(.o 800, some (.o ⟨3, 1, true, pl (isl l)⟩))]) (os' := [(.o 800, some (.o ⟨3, 1, true, pl (isl l)⟩))]) (r := V.b (.a (.slvv 3 (vwD (ltR l))))) (bs := [.agg [(.sl 800 0 l.length : A)]]) (keep := [800]) (new := []) (dead := []) ν ((spec_ListTilings_fn l (by omega))) (by kernel_rfl) ⟨oc_pl (fun _ => rfl), trivial⟩ (by kernel_rfl) (ArgOs.cons (ArgO.slot 12 (.agg [(.sl 800 0 l.length : A)])) (ArgOs.nil)))
 refine za (nl (sq (sq ?_)))
 rcases Bool.eq_false_or_eq_true ((simB l)) with c1 | c1
 ·skip
  have hsi := c1
  rcases Bool.eq_false_or_eq_true (decide ((((cellsOf l).length : Nat) : Int) = 0)) with c2 | c2
  ·skip
   have c2P := of_decide_eq_true c2
   have hff : False := sim_cells hsi (of_decide_eq_true c2)
   refine rg ?_
   refine z ?_ (h := fun ν => acts_load_owns (xs := [(.sl 800 0 l.length : A)]) ν qE9_ti_29 rfl (by decide) rfl)
   refine z ?_ (h := fun ν => acts_call1 ν (spec_IsSimple_fn l (by omega)) (ac (ArgV.reg _ _ _ (s := 1) (by simp [isl]) (by exact List.take_of_length_le (by simp [isl]))) an) (resval (congrArg Value.bool c1)))
   refine z ?_ (h := fun ν => acts_un ν vt (r_not (c := false) rfl))
   refine zm ?_
   refine zg ?_ (h := fun ν => step_on rfl rfl (acts_load_owns (xs := [(.sl 800 0 l.length : A)]) ν qE9_ti_29 rfl (by decide) rfl))
   refine zg ?_ (h := fun ν => step_on rfl rfl (acts_call1 ν (spec_CountCells_fn l (by omega)) (ac (ArgV.reg _ _ _ (s := 1) (by simp [isl]) (by exact List.take_of_length_le (by simp [isl]))) an) rv))
   refine zg ?_ (h := fun ν => step_on rfl rfl (acts_bin ν vt vc (r_eql (c := true) c2)))
   refine z ?_ (h := fun ν => acts_pick_f ν vt xt)
   refine zm (zo (zo (zo ?_)))
   refine z ?_ (h := fun ν => acts_pick_t ν vt xc)
   refine nl (wt (sq (rg (zm (za (zk (nl (wp_ret' ?_))))))))
   exact ⟨_, weak_id, ⟨by kernel_rfl, trivial⟩, ⟨vo_eq 4 (.a (.slv (([] : List Dom).length) 3 (dsl ([] : List Dom)))) (.a (.slv ((endT l false).length) 3 (dsl (endT l false)))) (by kernel_rfl) (slvD_eq (by exact hff.elim)), vo_eq 5 (.a (.val (.bool false))) (.a (.val (.bool (enOk l)))) (by kernel_rfl) (congrArg (fun z : Bool => B.a (.val (.bool z))) (by exact hff.elim))⟩⟩
  ·skip
   have c2P := of_decide_eq_false c2
   refine rg ?_
   refine z ?_ (h := fun ν => acts_load_owns (xs := [(.sl 800 0 l.length : A)]) ν qE9_ti_29 rfl (by decide) rfl)
   refine z ?_ (h := fun ν => acts_call1 ν (spec_IsSimple_fn l (by omega)) (ac (ArgV.reg _ _ _ (s := 1) (by simp [isl]) (by exact List.take_of_length_le (by simp [isl]))) an) (resval (congrArg Value.bool c1)))
   refine z ?_ (h := fun ν => acts_un ν vt (r_not (c := false) rfl))
   refine zm ?_
   refine zg ?_ (h := fun ν => step_on rfl rfl (acts_load_owns (xs := [(.sl 800 0 l.length : A)]) ν qE9_ti_29 rfl (by decide) rfl))
   refine zg ?_ (h := fun ν => step_on rfl rfl (acts_call1 ν (spec_CountCells_fn l (by omega)) (ac (ArgV.reg _ _ _ (s := 1) (by simp [isl]) (by exact List.take_of_length_le (by simp [isl]))) an) rv))
   refine zg ?_ (h := fun ν => step_on rfl rfl (acts_bin ν vt vc (r_eql (c := false) c2)))
   refine z ?_ (h := fun ν => acts_pick_f ν vt xt)
   refine zm ?_
   refine zg ?_ (h := fun ν => step_on rfl rfl (mt ν))
   refine zg ?_ (h := fun ν => step_on rfl rfl (lnD ν qE9_un_85))
   refine zg ?_ (h := fun ν => step_on rfl rfl (acts_bin ν vt vc (r_eql rfl)))
   refine z ?_ (h := fun ν => acts_pick_f ν vt xt)
   refine nl ?_
   refine wi (fun c3 => ?_) (fun c3 => ?_)
   ·skip
    have c3P := of_decide_eq_true c3
    have hen : enOk l = false := by unfold enOk; rw [c3]; exact Bool.and_false _
    refine sq (rg (zm (za (zk (nl (wp_ret' ?_))))))
    exact ⟨_, weak_id, ⟨by kernel_rfl, trivial⟩, ⟨vo_eq 4 (.a (.slv (([] : List Dom).length) 3 (dsl ([] : List Dom)))) (.a (.slv ((endT l false).length) 3 (dsl (endT l false)))) (by kernel_rfl) (slvD_eq (by exact (endT_no hen).symm)), vo_eq 5 (.a (.val (.bool false))) (.a (.val (.bool (enOk l)))) (by kernel_rfl) (congrArg (fun z : Bool => B.a (.val (.bool z))) (by exact hen.symm))⟩⟩
   ·skip
    have c3P := of_decide_eq_false c3
    have hen : enOk l = true := by unfold enOk; rw [hsi, c3]; rfl
    have hlp : 0 < (ltR l).length := by omega
    refine sk (sq (rg (zk (nl (sq (sq (rg (zk (nl (bkk ?_))))))))))
    refine wp_loop' (fun (k : Nat) => k ≤ (ltR l).length) (fun (k : Nat) => [kB 1 false, kP 2 2 0, kV 6 (V.b (.a (.slv ((outT l false k).length) 3 (dsl (outT l false k))))), kV 7 (V.b (.a (.slvv 3 (vwD (ltR l))))), kI 8 ((bst l false k).2), kI 9 ((k : Nat) : Int), kO 2 29 1 true [(.sl 800 0 l.length : A)], kO 800 3 1 true (pl (isl l)), kF 13, kF 15, kF 19, kF 24, kF 30, kF 39, kF 40, kF 66, kF 67, kF 68, kF 69]) (fun (k : Nat) => (ltR l).length - k) ((0 : Nat)) (by exact (Nat.zero_le _ : 0 ≤ _)) (wkf id (wS <| wS <| wE (e := (vgen (congrArg V.b (slvD_eq (by rfl))) rfl)) <| wS <| wE (e := (vint (by rfl))) <| wE (e := (vint (by rfl))) <| wX <| wP <| by (iterate 11 refine wF ?_); exact wN)) ?_
    rintro k inv4
    replace inv4 : k ≤ (ltR l).length := inv4
    have invk := inv4
    have hbb := bst_bd l false k
    refine sq (sq (rg (zm (zm ?_))))
    refine z ?_ (h := fun ν => lnD ν qE9_un_85)
    refine z ?_ (h := fun ν => acts_bin ν vt vt (r_lss rfl))
    refine nl ?_
    refine wi (fun c5 => ?_) (fun c5 => ?_)
    ·skip
     have c5P := of_decide_eq_true c5
     have hkl : k < (ltR l).length := by omega
     have hst : (simB l && isTil l (gLd (ltR l) k)) = true := by rw [hsi, lt_til hkl]; rfl
     have hrow : (gLd (ltR l) k).length ≤ 33 := ltR_row hkl
     have hhf := htsF_len l (gLd (ltR l) k)
     have hhl := hts_len l (gLd (ltR l) k)
     have hhb := hsT_bd l k
     have hse : hsum (htsF l (gLd (ltR l) k)) = hsT l k := by unfold hsT; rw [hts_yes hst]
     have hsd : hsum (hts l (gLd (ltR l) k)) = hsT l k := rfl
     refine sk (sq (bkk (sq (wp_dr ?_))))
     refine zd ?_ (h := fun ν => acts_load_owns (xs := [(.sl 800 0 l.length : A)]) ν qE9_ti_29 rfl (by decide) rfl)
     refine zdm (zdm ?_)
     refine zd ?_ (h := fun ν => xvv ν qE9_un_85 qE9_sz_26 vt (hlt := (by simp only [vwI_len, vwD_len]; first | omega | assumption)))
     refine zd ?_ (h := fun ν => lvD ν qE9_ti_26 (by omega))
     refine zd ?_ (h := fun ν => acts_call1 ν (spec_HeightsOf_fn l (gLd (ltR l) k) (by omega) (by omega)) (ac (ArgV.reg _ _ _ (s := 1) (by simp [isl]) (by exact List.take_of_length_le (by simp [isl]))) (ac (ArgV.slv _ _ _ _) an)) (ResV.row _ _ _ _ 39))
     refine zd ?_ (h := fun ν => acts_call1 ν (spec_HeightSum_fn (hts l (gLd (ltR l) k)) (by omega)) (ac (argv_own (by exact isl_len _)) an) rv)
     refine zd ?_ (h := fun ν => gt ν)
     refine dw_nil (sq ?_)
     rcases Bool.eq_false_or_eq_true (decide (((k : Nat) : Int) = 0)) with c6 | c6
     ·skip
      have c6P := of_decide_eq_true c6
      have hk0 : k = 0 := by omega
      have hbs := bst_up (l := l) (hi := false) (k := k) (.inl hk0)
      refine rg (zm ?_)
      refine z ?_ (h := fun ν => acts_bin ν vt vc (r_eql (c := true) c6))
      refine zm (zo ?_)
      refine zg ?_ (h := fun ν => step_offu rfl rfl (by decide) rfl ν)
      refine zg ?_ (h := fun ν => step_offx rfl rfl rfl ν)
      refine zg ?_ (h := fun ν => step_offx rfl rfl rfl ν)
      refine zg ?_ (h := fun ν => step_offx rfl rfl rfl ν)
      refine zo ?_
      refine z ?_ (h := fun ν => acts_pick_t ν vt xc)
      refine zm (zo (zo ?_))
      refine zg ?_ (h := fun ν => step_offu rfl rfl (by decide) rfl ν)
      refine zg ?_ (h := fun ν => step_offx rfl rfl rfl ν)
      refine zg ?_ (h := fun ν => step_offx rfl rfl rfl ν)
      refine zg ?_ (h := fun ν => step_offx rfl rfl rfl ν)
      refine zo ?_
      refine z ?_ (h := fun ν => acts_pick_t ν vt xc)
      refine nl (wt (sq (rg (zm (za (nl (rg (zm (zm ?_)))))))))
      refine z ?_ (h := fun ν => xvv ν qE9_un_85 qE9_sz_26 vt (hlt := (by simp only [vwI_len, vwD_len]; first | omega | assumption)))
      refine z ?_ (h := fun ν => lvD ν qE9_ti_26 (by omega))
      refine za (nl (rg (zm ?_)))
      refine z ?_ (h := fun ν => acts_bin ν vt vc (rA (by omega) (by omega)))
      refine za (nl ?_)
      exact loop_back ((k + 1)) (by show _ ≤ _; omega) (by show (ltR l).length - (k + 1) < (ltR l).length - k; omega) (wkf id (wS <| wS <| wE (e := (vgen (congrArg V.b (slvD_eq (by exact (outT_up hbs).symm))) rfl)) <| wS <| wE (e := (vint (by (rw [hbs]; first | done | rfl | omega)))) <| wE (e := (vint (by rfl))) <| wX <| wP <| by (iterate 11 refine wF ?_); exact wN))
     ·skip
      have c6P := of_decide_eq_false c6
      have hkn : k ≠ 0 := by omega
      refine rg (zm ?_)
      refine z ?_ (h := fun ν => acts_bin ν vt vc (r_eql (c := false) c6))
      refine zm ?_
      refine zg ?_ (h := fun ν => step_on rfl rfl (mt ν))
      refine zg ?_ (h := fun ν => step_on rfl rfl (mt ν))
      refine zo (zo (zo ?_))
      refine zg ?_ (h := fun ν => step_on rfl rfl (acts_pick_f ν vt xc))
      refine z ?_ (h := fun ν => acts_pick_f ν vt xt)
      refine zm ?_
      refine zg ?_ (h := fun ν => step_on rfl rfl (mt ν))
      refine zg ?_ (h := fun ν => step_on rfl rfl (acts_un ν vt (r_not (c := true) rfl)))
      refine zg ?_ (h := fun ν => step_on rfl rfl (mt ν))
      refine zg ?_ (h := fun ν => step_on rfl rfl (mt ν))
      refine zg ?_ (h := fun ν => step_on rfl rfl (mt ν))
      refine zg ?_ (h := fun ν => step_on rfl rfl (acts_bin ν vt vt (r_lss rfl)))
      refine zg ?_ (h := fun ν => step_on rfl rfl (acts_pick_t ν vt xt))
      refine z ?_ (h := fun ν => acts_pick_f ν vt xt)
      refine nl ?_
      refine wi (fun c7 => ?_) (fun c7 => ?_)
      ·skip
       have c7P := of_decide_eq_true c7
       have hbs := bst_up (l := l) (hi := false) (k := k) (.inr (.inr ⟨rfl, by rw [hsd] at *; omega⟩))
       refine sq (rg (zm (za (nl (rg (zm (zm ?_)))))))
       refine z ?_ (h := fun ν => xvv ν qE9_un_85 qE9_sz_26 vt (hlt := (by simp only [vwI_len, vwD_len]; first | omega | assumption)))
       refine z ?_ (h := fun ν => lvD ν qE9_ti_26 (by omega))
       refine za (nl (rg (zm ?_)))
       refine z ?_ (h := fun ν => acts_bin ν vt vc (rA (by omega) (by omega)))
       refine za (nl ?_)
       exact loop_back ((k + 1)) (by show _ ≤ _; omega) (by show (ltR l).length - (k + 1) < (ltR l).length - k; omega) (wkf id (wS <| wS <| wE (e := (vgen (congrArg V.b (slvD_eq (by exact (outT_up hbs).symm))) rfl)) <| wS <| wE (e := (vint (by (rw [hbs]; first | done | rfl | omega)))) <| wE (e := (vint (by rfl))) <| wX <| wP <| by (iterate 11 refine wF ?_); exact wN))
      ·skip
       have c7P := of_decide_eq_false c7
       have hbs := bst_no (l := l) (hi := false) (k := k) (by rw [hsd] at *; simp; omega)
       refine sk (rg (zm ?_))
       refine z ?_ (h := fun ν => acts_bin ν vt vc (rA (by omega) (by omega)))
       refine za (nl ?_)
       exact loop_back ((k + 1)) (by show _ ≤ _; omega) (by show (ltR l).length - (k + 1) < (ltR l).length - k; omega) (wkf id (wS <| wS <| wE (e := (vgen (congrArg V.b (slvD_eq (by exact (outT_no hkn hbs).symm))) rfl)) <| wS <| wE (e := (vint (by (rw [hbs]; first | done | rfl | omega)))) <| wE (e := (vint (by rfl))) <| wX <| wP <| by (iterate 11 refine wF ?_); exact wN))
    ·skip
     have c5P := of_decide_eq_false c5
     have hke : k = (ltR l).length := by omega
     have hbl : (bst l false k).1 < (ltR l).length := by have := hbb.1 (by omega); omega
     have hfi : gLd (ltR l) (bst l false k).1 = endT l false := by rw [endT_yes hen, ← hke]; unfold outT; rw [if_neg (by omega)]
     have hfo : outT l false k = endT l false := by rw [endT_yes hen, ← hke]
     refine wp_exit' (sq (rg (zm (za (zk (nl (wp_ret' ?_)))))))
     exact ⟨_, weak_id, ⟨by kernel_rfl, trivial⟩, ⟨vo_eq 4 (.a (.slv ((outT l false k).length) 3 (dsl (outT l false k)))) (.a (.slv ((endT l false).length) 3 (dsl (endT l false)))) (by kernel_rfl) (slvD_eq (by exact hfo)), vo_eq 5 (.a (.val (.bool true))) (.a (.val (.bool (enOk l)))) (by kernel_rfl) (congrArg (fun z : Bool => B.a (.val (.bool z))) (by exact hen.symm))⟩⟩
 ·skip
  have hen : enOk l = false := by unfold enOk; rw [c1]; rfl
  refine rg ?_
  refine z ?_ (h := fun ν => acts_load_owns (xs := [(.sl 800 0 l.length : A)]) ν qE9_ti_29 rfl (by decide) rfl)
  refine z ?_ (h := fun ν => acts_call1 ν (spec_IsSimple_fn l (by omega)) (ac (ArgV.reg _ _ _ (s := 1) (by simp [isl]) (by exact List.take_of_length_le (by simp [isl]))) an) (resval (congrArg Value.bool c1)))
  refine z ?_ (h := fun ν => acts_un ν vt (r_not (c := true) rfl))
  refine zm (zo (zo (zo ?_)))
  refine z ?_ (h := fun ν => acts_pick_t ν vt xc)
  refine zm (zo (zo (zo ?_)))
  refine z ?_ (h := fun ν => acts_pick_t ν vt xc)
  refine nl (wt (sq (rg (zm (za (zk (nl (wp_ret' ?_))))))))
  exact ⟨_, weak_id, ⟨by kernel_rfl, trivial⟩, ⟨vo_eq 4 (.a (.slv (([] : List Dom).length) 3 (dsl ([] : List Dom)))) (.a (.slv ((endT l false).length) 3 (dsl (endT l false)))) (by kernel_rfl) (slvD_eq (by exact (endT_no hen).symm)), vo_eq 5 (.a (.val (.bool false))) (.a (.val (.bool (enOk l)))) (by kernel_rfl) (congrArg (fun z : Bool => B.a (.val (.bool z))) (by exact hen.symm))⟩⟩

set_option maxHeartbeats 4000000 in
set_option maxRecDepth 100000 in
theorem l14End_g (l : List Int) (hi : Bool) (hl : l.length ≤ 4194304) : FnO Try.prog 29 [.agg [(.sl 800 0 l.length : A)], .a (.val (.bool hi))] [(.o 800, some (.o ⟨3, 1, true, pl (isl l)⟩))] (V.tup [.a (.slv ((endT l hi).length) 3 (dsl (endT l hi))), .a (.val (.bool (enOk l)))]) [(.o 800, some (.o ⟨3, 1, true, pl (isl l)⟩))] [800] := by
 cases hi
 · exact l14End_false l hl
 · exact l14End_true l hl

set_option maxHeartbeats 4000000 in
set_option maxRecDepth 100000 in
theorem impl_HighestTiling_fn (l : List Int) (hl : l.length ≤ 4194304) : FnO Try.prog 9 [.agg [(.sl 800 0 l.length : A)]] [(.o 800, some (.o ⟨3, 1, true, pl (isl l)⟩))] (V.tup [.a (.sl 900 0 ((endT l true).length)), .a (.val (.bool (enOk l)))]) [(.o 800, some (.o ⟨3, 1, true, pl (isl l)⟩)), (.o 900, some (.o ⟨57, 3, true, pl (dsl (endT l true))⟩))] [800] := by
 refine fn_introO (N := 8) Try.func9 rfl (by kernel_rfl) rfl (Nat.le_of_ble_eq_true rfl) rfl rfl (by kernel_rfl) (by kernel_rfl) ⟨oc_pl (fun _ => rfl), trivial⟩ [1, 5, 8, 9, 10, 11] (retO2 rfl) (fun W own kp im0 => ?_)
 show Wp _ _ _ [kV 0 (V.b (.agg [(.sl 800 0 l.length : A)])), kO 800 3 1 true (pl (isl l)), kF 1, kF 5, kF 8, kF 9, kF 10, kF 11]
 refine sq (rg ?_)
 refine z ?_ (h := fun ν => acts_box (h := 1) ν xt (by exact ob1 rfl))
 refine zk (zk (nl (sq (rg ?_))))
 refine z ?_ (h := fun ν => acts_load_owns (xs := [(.sl 800 0 l.length : A)]) ν qE9_ti_29 rfl (by decide) rfl)
 refine z ?_ (h := fun ν => acts_callO (d := 5) (f := 31) (os := [(.o 800, some (.o ⟨3, 1, true, pl (isl l)⟩))]) (os' := [(.o 800, some (.o ⟨3, 1, true, pl (isl l)⟩)), (.o 5, some (.o ⟨57, 3, true, pl (dsl (endT l true))⟩))]) (r := V.tup [.a (.sl 5 0 ((endT l true).length)), .a (.val (.bool (enOk l)))]) (bs := [.agg [(.sl 800 0 l.length : A)], .a (.val (.int .i64 1))]) (keep := [800]) (new := [5]) (dead := []) ν (FnO.ren' (outermost_g l true 1 (by omega) (by rfl)) (subst1 [(900, 5)]) rfl rfl (by kernel_rfl) (by kernel_rfl) ⟨oc_pl (fun _ => rfl), oc_pl (fun _ => rfl), trivial⟩ (by kernel_rfl) rfl (by simp only [renS, Ob.ren, pl_ren, rws_ren_doms, rws_ren_ints, rws_ren_cels, rwI_ren, rwD_ren]; first | done | rfl) (by simp only [renS, Ob.ren, pl_ren, rws_ren_doms, rws_ren_ints, rws_ren_cels, rwI_ren, rwD_ren]; first | done | rfl) rfl rfl) (by kernel_rfl) ⟨oc_pl (fun _ => rfl), oc_pl (fun _ => rfl), trivial⟩ (by kernel_rfl) (ArgOs.cons (ArgO.slot 4 (.agg [(.sl 800 0 l.length : A)])) (ArgOs.cons ((ArgO.v vc)) (ArgOs.nil))))
 refine z ?_ (h := fun ν => acts_extract ν (by exact rfl))
 refine z ?_ (h := fun ν => acts_extract ν (by exact rfl))
 refine za (za (nl (wp_ret' ?_)))
 exact ⟨[kS 2 900 0 ((endT l true).length), kB 3 (enOk l), kO 800 3 1 true (pl (isl l)), kO 900 57 3 true (pl (dsl (endT l true))), kF 1, kF 5, kF 8, kF 9, kF 10, kF 11], wkf (subst1 [(900, 5)]) (wS <| wS <| wP <| wP <| wF <| wF <| wF <| wF <| wF <| wF <| wN), ⟨by kernel_rfl, by kernel_rfl, trivial⟩, ⟨VO.tmp 2 (.a (.sl 900 0 ((endT l true).length))) (by kernel_rfl), VO.tmp 3 (.a (.val (.bool (enOk l)))) (by kernel_rfl)⟩⟩

set_option maxHeartbeats 4000000 in
set_option maxRecDepth 100000 in
theorem spec_HighestTiling_fn (l : List Int) (hl : l.length ≤ 4194304) : FnO Try.prog 7 [.agg [(.sl 800 0 l.length : A)]] [(.o 800, some (.o ⟨3, 1, true, pl (isl l)⟩))] (V.tup [.a (.slv ((endT l true).length) 3 (dsl (endT l true))), .a (.val (.bool (enOk l)))]) [(.o 800, some (.o ⟨3, 1, true, pl (isl l)⟩))] [800] := by
 refine fn_introO (N := 8) Try.func7 rfl (by kernel_rfl) rfl (Nat.le_of_ble_eq_true rfl) rfl rfl (by kernel_rfl) (by kernel_rfl) ⟨oc_pl (fun _ => rfl), trivial⟩ [1, 5, 8, 9, 10, 11] (retO2 rfl) (fun W own kp im0 => ?_)
 show Wp _ _ _ [kV 0 (V.b (.agg [(.sl 800 0 l.length : A)])), kO 800 3 1 true (pl (isl l)), kF 1, kF 5, kF 8, kF 9, kF 10, kF 11]
 refine sq (rg ?_)
 refine z ?_ (h := fun ν => acts_box (h := 1) ν xt (by exact ob1 rfl))
 refine zk (zk (nl (sq (rg ?_))))
 refine z ?_ (h := fun ν => acts_load_owns (xs := [(.sl 800 0 l.length : A)]) ν qE9_ti_29 rfl (by decide) rfl)
 refine z ?_ (h := fun ν => acts_callO (d := 5) (f := 29) (os := [(.o 800, some (.o ⟨3, 1, true, pl (isl l)⟩))]) (os' := [(.o 800, some (.o ⟨3, 1, true, pl (isl l)⟩))]) (r := V.tup [.a (.slv ((endT l true).length) 3 (dsl (endT l true))), .a (.val (.bool (enOk l)))]) (bs := [.agg [(.sl 800 0 l.length : A)], .a (.val (.bool true))]) (keep := [800]) (new := []) (dead := []) ν ((l14End_g l true (by omega))) (by kernel_rfl) ⟨oc_pl (fun _ => rfl), trivial⟩ (by kernel_rfl) (ArgOs.cons (ArgO.slot 4 (.agg [(.sl 800 0 l.length : A)])) (ArgOs.cons ((ArgO.v vc)) (ArgOs.nil))))
 refine z ?_ (h := fun ν => acts_extract ν (by exact rfl))
 refine z ?_ (h := fun ν => acts_extract ν (by exact rfl))
 refine za (za (nl (wp_ret' ?_)))
 exact ⟨_, weak_id, ⟨by kernel_rfl, trivial⟩, ⟨VO.tmp 2 (.a (.slv ((endT l true).length) 3 (dsl (endT l true)))) (by kernel_rfl), VO.tmp 3 (.a (.val (.bool (enOk l)))) (by kernel_rfl)⟩⟩

set_option maxHeartbeats 4000000 in
set_option maxRecDepth 100000 in
theorem impl_LowestTiling_fn (l : List Int) (hl : l.length ≤ 4194304) : FnO Try.prog 16 [.agg [(.sl 800 0 l.length : A)]] [(.o 800, some (.o ⟨3, 1, true, pl (isl l)⟩))] (V.tup [.a (.sl 900 0 ((endT l false).length)), .a (.val (.bool (enOk l)))]) [(.o 800, some (.o ⟨3, 1, true, pl (isl l)⟩)), (.o 900, some (.o ⟨57, 3, true, pl (dsl (endT l false))⟩))] [800] := by
 refine fn_introO (N := 8) Try.func16 rfl (by kernel_rfl) rfl (Nat.le_of_ble_eq_true rfl) rfl rfl (by kernel_rfl) (by kernel_rfl) ⟨oc_pl (fun _ => rfl), trivial⟩ [1, 5, 8, 9, 10, 11] (retO2 rfl) (fun W own kp im0 => ?_)
 show Wp _ _ _ [kV 0 (V.b (.agg [(.sl 800 0 l.length : A)])), kO 800 3 1 true (pl (isl l)), kF 1, kF 5, kF 8, kF 9, kF 10, kF 11]
 refine sq (rg ?_)
 refine z ?_ (h := fun ν => acts_box (h := 1) ν xt (by exact ob1 rfl))
 refine zk (zk (nl (sq (rg ?_))))
 refine z ?_ (h := fun ν => acts_load_owns (xs := [(.sl 800 0 l.length : A)]) ν qE9_ti_29 rfl (by decide) rfl)
 refine z ?_ (h := fun ν => acts_callO (d := 5) (f := 31) (os := [(.o 800, some (.o ⟨3, 1, true, pl (isl l)⟩))]) (os' := [(.o 800, some (.o ⟨3, 1, true, pl (isl l)⟩)), (.o 5, some (.o ⟨57, 3, true, pl (dsl (endT l false))⟩))]) (r := V.tup [.a (.sl 5 0 ((endT l false).length)), .a (.val (.bool (enOk l)))]) (bs := [.agg [(.sl 800 0 l.length : A)], .a (.val (.int .i64 (-1)))]) (keep := [800]) (new := [5]) (dead := []) ν (FnO.ren' (outermost_g l false (-1) (by omega) (by rfl)) (subst1 [(900, 5)]) rfl rfl (by kernel_rfl) (by kernel_rfl) ⟨oc_pl (fun _ => rfl), oc_pl (fun _ => rfl), trivial⟩ (by kernel_rfl) rfl (by simp only [renS, Ob.ren, pl_ren, rws_ren_doms, rws_ren_ints, rws_ren_cels, rwI_ren, rwD_ren]; first | done | rfl) (by simp only [renS, Ob.ren, pl_ren, rws_ren_doms, rws_ren_ints, rws_ren_cels, rwI_ren, rwD_ren]; first | done | rfl) rfl rfl) (by kernel_rfl) ⟨oc_pl (fun _ => rfl), oc_pl (fun _ => rfl), trivial⟩ (by kernel_rfl) (ArgOs.cons (ArgO.slot 4 (.agg [(.sl 800 0 l.length : A)])) (ArgOs.cons ((ArgO.v vc)) (ArgOs.nil))))
 refine z ?_ (h := fun ν => acts_extract ν (by exact rfl))
 refine z ?_ (h := fun ν => acts_extract ν (by exact rfl))
 refine za (za (nl (wp_ret' ?_)))
 exact ⟨[kS 2 900 0 ((endT l false).length), kB 3 (enOk l), kO 800 3 1 true (pl (isl l)), kO 900 57 3 true (pl (dsl (endT l false))), kF 1, kF 5, kF 8, kF 9, kF 10, kF 11], wkf (subst1 [(900, 5)]) (wS <| wS <| wP <| wP <| wF <| wF <| wF <| wF <| wF <| wF <| wN), ⟨by kernel_rfl, by kernel_rfl, trivial⟩, ⟨VO.tmp 2 (.a (.sl 900 0 ((endT l false).length))) (by kernel_rfl), VO.tmp 3 (.a (.val (.bool (enOk l)))) (by kernel_rfl)⟩⟩

set_option maxHeartbeats 4000000 in
set_option maxRecDepth 100000 in
theorem spec_LowestTiling_fn (l : List Int) (hl : l.length ≤ 4194304) : FnO Try.prog 15 [.agg [(.sl 800 0 l.length : A)]] [(.o 800, some (.o ⟨3, 1, true, pl (isl l)⟩))] (V.tup [.a (.slv ((endT l false).length) 3 (dsl (endT l false))), .a (.val (.bool (enOk l)))]) [(.o 800, some (.o ⟨3, 1, true, pl (isl l)⟩))] [800] := by
 refine fn_introO (N := 8) Try.func15 rfl (by kernel_rfl) rfl (Nat.le_of_ble_eq_true rfl) rfl rfl (by kernel_rfl) (by kernel_rfl) ⟨oc_pl (fun _ => rfl), trivial⟩ [1, 5, 8, 9, 10, 11] (retO2 rfl) (fun W own kp im0 => ?_)
 show Wp _ _ _ [kV 0 (V.b (.agg [(.sl 800 0 l.length : A)])), kO 800 3 1 true (pl (isl l)), kF 1, kF 5, kF 8, kF 9, kF 10, kF 11]
 refine sq (rg ?_)
 refine z ?_ (h := fun ν => acts_box (h := 1) ν xt (by exact ob1 rfl))
 refine zk (zk (nl (sq (rg ?_))))
 refine z ?_ (h := fun ν => acts_load_owns (xs := [(.sl 800 0 l.length : A)]) ν qE9_ti_29 rfl (by decide) rfl)
 refine z ?_ (h := fun ν => acts_callO (d := 5) (f := 29) (os := [(.o 800, some (.o ⟨3, 1, true, pl (isl l)⟩))]) (os' := [(.o 800, some (.o ⟨3, 1, true, pl (isl l)⟩))]) (r := V.tup [.a (.slv ((endT l false).length) 3 (dsl (endT l false))), .a (.val (.bool (enOk l)))]) (bs := [.agg [(.sl 800 0 l.length : A)], .a (.val (.bool false))]) (keep := [800]) (new := []) (dead := []) ν ((l14End_g l false (by omega))) (by kernel_rfl) ⟨oc_pl (fun _ => rfl), trivial⟩ (by kernel_rfl) (ArgOs.cons (ArgO.slot 4 (.agg [(.sl 800 0 l.length : A)])) (ArgOs.cons ((ArgO.v vc)) (ArgOs.nil))))
 refine z ?_ (h := fun ν => acts_extract ν (by exact rfl))
 refine z ?_ (h := fun ν => acts_extract ν (by exact rfl))
 refine za (za (nl (wp_ret' ?_)))
 exact ⟨_, weak_id, ⟨by kernel_rfl, trivial⟩, ⟨VO.tmp 2 (.a (.slv ((endT l false).length) 3 (dsl (endT l false)))) (by kernel_rfl), VO.tmp 3 (.a (.val (.bool (enOk l)))) (by kernel_rfl)⟩⟩
end Cl
end Go.Proofs.Ytonlghbbdcddoaa
