/- Walks over clean states, printed by wg.py. No statement is proved here. -/
import Derived.Test.YtonlghbbdcddoaaE2
import Derived.Test.YtonlghbbdcddoaaC3w
import Derived.Test.YtonlghbbdcddoaaClB
namespace Go.Proofs.Ytonlghbbdcddoaa
namespace Cl
open Go.ChangeShapes Go.WideShapes Go.ChangeAt Go.RowKit
set_option maxRecDepth 20000

theorem mp_len (P : List Dom) (M : List (List Dom)) : (M.map (P ++ ·)).length = M.length := by simp
theorem mp_nil {n s : Nat} : (tls n s).map (fun x => ([] : List Dom) ++ x) = tls n s := by
  have : (fun x : List Dom => ([] : List Dom) ++ x) = id := funext fun x => List.nil_append x
  rw [this, List.map_id]
theorem tlv_round {n s k : Nat} {P : List Dom} {d : Dom} (hd : d = dmn (firstI s) (decide (((k : Nat) : Int) = 1))) (h : fitD s d = true) : (tlk n s k).map (P ++ ·) ++ (tls n (andn s (domS d))).map ((P ++ [d]) ++ ·) = (tlk n s (k + 1)).map (P ++ ·) := by
  have := tl_round (n := n) (L := []) (P := P) hd h
  simpa using this
theorem tlv_skip {n s k : Nat} {P : List Dom} {d : Dom} (hd : d = dmn (firstI s) (decide (((k : Nat) : Int) = 1))) (h : fitD s d = false) : (tlk n s k).map (P ++ ·) = (tlk n s (k + 1)).map (P ++ ·) := by rw [tlk_no hd h]
theorem tlv_one {n s : Nat} {P : List Dom} (h : s = 0) : [] ++ [P] = (tls (n + 1) s).map (P ++ ·) := by rw [tls_zero h]; simp
theorem tlv_end {n s k : Nat} {P : List Dom} (h0 : s ≠ 0) (hk : k ≤ 2) (h : ¬ k < 2 ∨ (tls (n + 1) s).length ≤ (tlk n s k).length) : (tlk n s k).map (P ++ ·) = (tls (n + 1) s).map (P ++ ·) := by
  rcases h with h | h
  · rw [tls_succ h0, show k = 2 by omega]
  · rw [tlk_full h0 hk h]
theorem l08_no {l : List Int} {P : List Dom} {d : Dom} (ho : regOk l = true) (hd : okD d = true) (ha : (lft l P).testBit (idx (ca d)) = true) (h : ((!(hasC l (cb d))) || (decide (0 ≤ atD P (cb d)))) = true) : fitD (lft l P) d = false := by
  rw [l08_fit ho hd ha]
  simp only [Bool.or_eq_true, Bool.not_eq_true', decide_eq_true_eq] at h
  rcases h with h | h
  · rw [h]; rfl
  · rw [decide_eq_false (by omega), Bool.and_false]
theorem l08_yes {l : List Int} {P : List Dom} {d : Dom} (ho : regOk l = true) (hd : okD d = true) (ha : (lft l P).testBit (idx (ca d)) = true) (h1 : hasC l (cb d) = true) (h2 : atD P (cb d) < 0) : fitD (lft l P) d = true := by
  rw [l08_fit ho hd ha, h1, decide_eq_true h2]; rfl

theorem qE3_bs_46 : ∀ (a b : Int), Try.prog.built 46 [(0, .int .i64 a), (1, .int .i64 b)] = some ([.int .i64 a, .int .i64 b] : List Value).toArray := fun _ _ => rfl
theorem qE3_bs_57 : ∀ (a b : Int) (c : Bool), Try.prog.built 57 [(0, .int .i64 a), (1, .int .i64 b), (2, .bool c)] = some ([.int .i64 a, .int .i64 b, .bool c] : List Value).toArray := fun _ _ _ => rfl
theorem qE3_fo_46_0 : fieldOff Try.prog 46 0 = some 0 := by kernel_rfl
theorem qE3_fo_46_1 : fieldOff Try.prog 46 1 = some 1 := by kernel_rfl
theorem qE3_fo_57_0 : fieldOff Try.prog 57 0 = some 0 := by kernel_rfl
theorem qE3_fo_57_1 : fieldOff Try.prog 57 1 = some 1 := by kernel_rfl
theorem qE3_fo_57_2 : fieldOff Try.prog 57 2 = some 2 := by kernel_rfl
theorem qE3_sz_46 : (Try.prog.info? 46).map (·.size) = some 2 := by kernel_rfl
theorem qE3_ti_29 : TI Try.prog 29 true 1 := ⟨⟨_, Try.underlying29, rfl⟩, by kernel_rfl⟩
theorem qE3_ti_3 : TI Try.prog 3 false 1 := ⟨⟨_, Try.underlying3, rfl⟩, by kernel_rfl⟩
theorem qE3_ti_4 : TI Try.prog 4 false 1 := ⟨⟨_, Try.underlying4, rfl⟩, by kernel_rfl⟩
theorem qE3_ti_46 : TI Try.prog 46 true 2 := ⟨⟨_, Try.underlying46, rfl⟩, by kernel_rfl⟩
theorem qE3_ti_57 : TI Try.prog 57 true 3 := ⟨⟨_, Try.underlying57, rfl⟩, by kernel_rfl⟩
theorem qE3_un_26 : Try.prog.underlying 26 = some (.slice 57) := Try.underlying26
theorem qE3_un_42 : Try.prog.underlying 42 = some (.slice 46) := Try.underlying42
theorem qE3_un_85 : Try.prog.underlying 85 = some (.slice 26) := Try.underlying85
theorem qE3_zi_26 : ZI Try.prog 26 (.slice none 0 0) 1 24 := by unfold ZI; kernel_rfl
theorem qE3_zi_46 : ZI Try.prog 46 (.agg #[.int .i64 0, .int .i64 0]) 2 16 := by unfold ZI; kernel_rfl
theorem qE3_zi_57 : ZI Try.prog 57 (.agg #[.int .i64 0, .int .i64 0, .bool false]) 3 24 := by unfold ZI; kernel_rfl
set_option maxHeartbeats 4000000 in
set_option maxRecDepth 100000 in
theorem l05Second_b (d : Dom) (hb : 0 ≤ d.x ∧ d.x ≤ 100 ∧ 0 ≤ d.y ∧ d.y ≤ 100) : Fn Try.prog 103 [.agg ([vI d.x, vI d.y, .bool d.d].map A.val)] [.val (.agg ([.int .i64 (cb d).x, .int .i64 (cb d).y] : List Value).toArray)] := by
 refine fn_intro (N := 17) Try.func103 rfl (by kernel_rfl) rfl (Nat.le_of_ble_eq_true rfl) [1, 2] (ret1 rfl) (fun W => ?_)
 show Wp _ _ _ [kV 0 (V.av [vI d.x, vI d.y, .bool d.d]), kF 1, kF 2]
 refine sq (rg ?_)
 refine z ?_ (h := fun ν => acts_box (h := 1) ν xt (by exact ob1 rfl))
 refine z ?_ (h := fun ν => acts_alloc' (h := 2) (cap := 1) (s := 2) (cells := [aI 0, aI 0]) ν qE3_zi_46 rfl rfl (by decide))
 refine nl (sq (sq (rg ?_)))
 refine z ?_ (h := fun ν => acts_field (off' := 2) ν qE3_fo_57_2 rfl)
 refine z ?_ (h := fun ν => acts_load_own (x := .val (.bool d.d)) ν qE3_ti_4 (by exact rfl))
 refine nl ?_
 refine wi (b := d.d) (fun c1 => ?_) (fun c1 => ?_)
 ·skip
  refine sq (rg ?_)
  refine z ?_ (h := fun ν => acts_field (off' := 0) ν qE3_fo_57_0 rfl)
  refine z ?_ (h := fun ν => acts_load_own (x := .val (.int .i64 d.x)) ν qE3_ti_3 (by exact rfl))
  refine z ?_ (h := fun ν => acts_field (off' := 1) ν qE3_fo_57_1 rfl)
  refine z ?_ (h := fun ν => acts_load_own (x := .val (.int .i64 d.y)) ν qE3_ti_3 (by exact rfl))
  refine z ?_ (h := fun ν => acts_bin ν vt vc rA)
  refine z ?_ (h := fun ν => bC ν qE3_bs_46 vt vt)
  refine z ?_ (h := fun _ => acts_store (cells := [aI d.x, aI (d.y + 1)]) qE3_ti_46 xt (by exact rfl) (by decide) (by exact ob1 rfl) (by exact Nat.le_of_ble_eq_true rfl) (by exact rfl))
  refine nl (wp_ret' ?_)
  exact VRes.cells 2 46 2 ⟨46, 2, true, [aI d.x, aI (d.y + 1)]⟩ _ (by kernel_rfl) (by kernel_rfl) qE3_ti_46 (Nat.le_of_ble_eq_true rfl) (bagg (vs := [vI d.x, vI (d.y + 1)]) (by (unfold cb; simp_all; done)))
 ·skip
  refine sk (sq (rg ?_))
  refine z ?_ (h := fun ν => acts_field (off' := 0) ν qE3_fo_57_0 rfl)
  refine z ?_ (h := fun ν => acts_load_own (x := .val (.int .i64 d.x)) ν qE3_ti_3 (by exact rfl))
  refine z ?_ (h := fun ν => acts_bin ν vt vc rA)
  refine z ?_ (h := fun ν => acts_field (off' := 1) ν qE3_fo_57_1 rfl)
  refine z ?_ (h := fun ν => acts_load_own (x := .val (.int .i64 d.y)) ν qE3_ti_3 (by exact rfl))
  refine z ?_ (h := fun ν => bC ν qE3_bs_46 vt vt)
  refine z ?_ (h := fun _ => acts_store (cells := [aI (d.x + 1), aI d.y]) qE3_ti_46 xt (by exact rfl) (by decide) (by exact ob1 rfl) (by exact Nat.le_of_ble_eq_true rfl) (by exact rfl))
  refine nl (wp_ret' ?_)
  exact VRes.cells 2 46 2 ⟨46, 2, true, [aI (d.x + 1), aI d.y]⟩ _ (by kernel_rfl) (by kernel_rfl) qE3_ti_46 (Nat.le_of_ble_eq_true rfl) (bagg (vs := [vI (d.x + 1), vI d.y]) (by (unfold cb; simp_all; done)))

set_option maxHeartbeats 4000000 in
set_option maxRecDepth 100000 in
theorem spec_l08List_fn : ∀ (n : Nat) (l : List Int) (P : List Dom) (most : Int) (hl : l.length ≤ 4194304) (ho : regOk l = true) (hn : popc (lft l P) < 2 * n) (hm : ((tls n (lft l P)).length : Int) ≤ most) (hm3 : most ≤ 300) (hP : P.length + n ≤ 100), FnO Try.prog 77 [.agg [(.sl 800 0 l.length : A)], .a (.sl 900 0 P.length), .a (.val (.int .i64 most))] [(.o 800, some (.o ⟨3, 1, true, pl (isl l)⟩)), (.o 900, some (.o ⟨57, 3, true, pl (dsl P)⟩))] (V.b (.a (.slvv 3 (vwD ((tls n (lft l P)).map (P ++ ·)))))) [(.o 800, some (.o ⟨3, 1, true, pl (isl l)⟩)), (.o 900, some (.o ⟨57, 3, true, pl (dsl P)⟩))] [800, 900] := by
 intro n
 induction n with
 | zero => intro l P most hl ho hn hm hm3 hP; exfalso; omega
 | succ n ih =>
  intro l P most hl ho hn hm hm3 hP
  have hlt := lftE_lt (l := l) (P := P) ho
  have hul := unc_len l P
  refine fn_introO (N := 78) Try.func77 rfl (by kernel_rfl) rfl (Nat.le_of_ble_eq_true rfl) rfl rfl (by kernel_rfl) (by kernel_rfl) ⟨oc_pl (fun _ => rfl), oc_pl (fun _ => rfl), trivial⟩ [3, 10, 11, 12, 15, 17, 20, 22, 23, 24, 29, 47, 49, 54, 60, 65, 67, 69, 70, 73, 75, 76, 78, 79, 80, 81] (retO1 rfl) (fun W own kp im0 => ?_)
  show Wp _ _ _ [kV 0 (V.b (.agg [(.sl 800 0 l.length : A)])), kS 1 900 0 P.length, kI 2 most, kO 800 3 1 true (pl (isl l)), kO 900 57 3 true (pl (dsl P)), kF 3, kF 10, kF 11, kF 12, kF 15, kF 17, kF 20, kF 22, kF 23, kF 24, kF 29, kF 47, kF 49, kF 54, kF 60, kF 65, kF 67, kF 69, kF 70, kF 73, kF 75, kF 76, kF 78, kF 79, kF 80, kF 81]
  refine sq (rg ?_)
  refine z ?_ (h := fun ν => acts_box (h := 3) ν xt (by exact ob1 rfl))
  refine zk (nl (sq (rg ?_)))
  refine z ?_ (h := fun ν => b0P (h := 12) (T := 57) ν qE3_un_85 qE3_zi_26)
  refine za (nl (sq (rg ?_)))
  refine z ?_ (h := fun ν => acts_load_owns (xs := [(.sl 800 0 l.length : A)]) ν qE3_ti_29 rfl (by decide) rfl)
  refine zm ?_
  refine z ?_ (h := fun ν => acts_call1 ν (spec_UncoveredOf_fn l P (by omega) (by omega)) (ac (ArgV.reg _ _ _ (s := 1) (by simp [isl]) (by exact List.take_of_length_le (by simp [isl]))) (ac (argv_own (by exact dsl_len _)) an)) (ResV.row _ _ _ _ 15))
  refine za (nl (sq (sq (rg (zm ?_)))))
  refine z ?_ (h := fun ν => lnS ν qE3_un_42)
  refine z ?_ (h := fun ν => acts_bin ν vt vc (r_eql rfl))
  refine nl ?_
  refine wi (fun c1 => ?_) (fun c1 => ?_)
  ·skip
   have c1P := of_decide_eq_true c1
   have h0 : lft l P = 0 := unc_none ho (of_decide_eq_true c1)
   refine sq (rg (zm ?_))
   refine z ?_ (h := fun ν => b0D (h := 20) ν qE3_un_26 qE3_zi_57)
   refine zm ?_
   refine z ?_ (h := fun ν => aD_ (h2 := 22) (L3 := P) ν qE3_un_26 qE3_zi_57 (by exact rfl) rfl (by exact rfl) (by omega))
   refine z ?_ (h := fun ν => bs1 (h := 23) ν qE3_un_85 qE3_zi_26 (by exact ⟨_, _, _, .inl rfl⟩))
   refine z ?_ (h := fun ν => aQ (h2 := 24) (nm := [P].length) ν qE3_un_85 qE3_zi_26 (by exact ⟨_, _, _, .inl rfl⟩) (by simp [rwI_len, rwD_len]) (by omega) (by simp))
   refine za (nl ?_)
   refine wp_weak (pkD (h := 24) (h1 := 22) (T := 57) (T0 := 26) (s0 := 1) (ex0 := true) (n := P.length) (L := []) (r := P)) ?_
   refine wp_weak (fzD (k := 6) (h := 24) (T0 := 26) (T := 57) (ex0 := true) (n := [P].length) (L := ([] ++ [P])) (hn := by simp)) ?_
   refine wp_ret' ?_
   exact ⟨_, weak_id, ⟨by kernel_rfl, by kernel_rfl, trivial⟩, vo_eq 6 (.a (.slvv 3 (vwD ([] ++ [P])))) (.a (.slvv 3 (vwD ((tls (n + 1) (lft l P)).map (P ++ ·))))) (by kernel_rfl) (congrArg (fun z => B.a (.slvv 3 (vwD z))) (by exact tlv_one h0))⟩
  ·skip
   have c1P := of_decide_eq_false c1
   have h0 : lft l P ≠ 0 := unc_some ho (of_decide_eq_false c1)
   have huf := unc_first ho h0
   have hup := huf.2
   refine sk (sq (sq (rg (zk (nl (bkk ?_))))))
   refine wp_loop' (fun (k : Nat) => k ≤ 2) (fun (k : Nat) => [kS 1 900 0 P.length, kI 2 most, kP 3 3 0, kS 7 12 0 (((tlk n (lft l P) k).map (P ++ ·)).length), kS 8 15 0 ((unc l P).length), kI 9 ((k : Nat) : Int), kO 3 29 1 true [(.sl 800 0 l.length : A)], kO 12 26 1 true (rvD ((tlk n (lft l P) k).map (P ++ ·))), kO 15 46 2 true (pl (csl (unc l P))), kO 800 3 1 true (pl (isl l)), kO 900 57 3 true (pl (dsl P)), kF 10, kF 11, kF 17, kF 20, kF 22, kF 23, kF 24, kF 29, kF 47, kF 49, kF 54, kF 60, kF 65, kF 67, kF 69, kF 70, kF 73, kF 75, kF 76, kF 78, kF 79, kF 80, kF 81]) (fun (k : Nat) => 2 - k) ((0 : Nat)) (by exact (Nat.zero_le _ : 0 ≤ _)) (wkf id (wS <| wS <| wS <| wE (e := (vsl (by rfl) rfl)) <| wS <| wE (e := (vint (by rfl))) <| wX <| wO (e := renob_l (fun h => h) rfl rfl) <| wP <| wP <| wP <| by (iterate 23 refine wF ?_); exact wN)) ?_
   rintro k inv2
   replace inv2 : k ≤ 2 := inv2
   have inv := inv2
   have hkl := tlk_le (n := n) h0 inv
   have hml := mp_len P (tlk n (lft l P) k)
   refine sq (sq ?_)
   rcases Bool.eq_false_or_eq_true (decide (((k : Nat) : Int) < 2)) with c3 | c3
   ·skip
    have c3P := of_decide_eq_true c3
    have hk2 : k < 2 := by omega
    have hd : (⟨(gC (unc l P) 0).x, (gC (unc l P) 0).y, decide (((k : Nat) : Int) = 1)⟩ : Dom) = dmn (firstI (lft l P)) (decide (((k : Nat) : Int) = 1)) := by rw [huf.1]; rfl
    have hbt := l08_bit (b := decide (((k : Nat) : Int) = 1)) ho h0
    rw [← hd] at hbt
    have hfi := (firstI_lt hlt h0).1
    have hxb : 0 ≤ (gC (unc l P) 0).x ∧ (gC (unc l P) 0).x ≤ 100 ∧ 0 ≤ (gC (unc l P) 0).y ∧ (gC (unc l P) 0).y ≤ 100 := by rw [huf.1]; unfold cN; dsimp only; omega
    refine rg (zm ?_)
    refine z ?_ (h := fun ν => acts_bin ν vt vc (r_lss (c := true) c3))
    refine zm ?_
    refine zg ?_ (h := fun ν => step_on rfl rfl (mt ν))
    refine zg ?_ (h := fun ν => step_on rfl rfl (lnS ν qE3_un_85))
    refine zg ?_ (h := fun ν => step_on rfl rfl (mt ν))
    refine zg ?_ (h := fun ν => step_on rfl rfl (acts_bin ν vt vt (r_lss rfl)))
    refine z ?_ (h := fun ν => acts_pick_t ν vt xt)
    refine nl ?_
    refine wi (fun c4 => ?_) (fun c4 => ?_)
    ·skip
     have c4P := of_decide_eq_true c4
     refine sk (sq (bkk (sq (wp_dr (zdm ?_)))))
     refine zd ?_ (h := fun ν => ix0 (k := 0) ν qE3_un_42 qE3_sz_46 vc (hlt := (by omega)))
     refine zd ?_ (h := fun ν => acts_field (off' := (0 * 2)) ν qE3_fo_46_0 rfl)
     refine zd ?_ (h := fun ν => acts_load_own ν qE3_ti_3 (by exact pl_get (csl_x (k := 0) (by omega))))
     refine zdm ?_
     refine zd ?_ (h := fun ν => ix0 (k := 0) ν qE3_un_42 qE3_sz_46 vc (hlt := (by omega)))
     refine zd ?_ (h := fun ν => acts_field (off' := (0 * 2 + 1)) ν qE3_fo_46_1 rfl)
     refine zd ?_ (h := fun ν => acts_load_own ν qE3_ti_3 (by exact pl_get (csl_y (k := 0) (by omega))))
     refine zdm ?_
     refine zd ?_ (h := fun ν => acts_bin ν vt vc (r_eql rfl))
     refine zd ?_ (h := fun ν => bD ν qE3_bs_57 vt vt vt)
     refine zd ?_ (h := fun ν => acts_alloc' (h := 10) (cap := 1) (s := 3) (cells := [aI 0, aI 0, aB false]) ν qE3_zi_57 rfl rfl (by decide))
     refine zd ?_ (h := fun _ => acts_store (cells := [aI ((gC (unc l P) 0).x), aI ((gC (unc l P) 0).y), aB (decide (((k : Nat) : Int) = 1))]) qE3_ti_57 xt (by exact rfl) (by decide) (by exact ob1 rfl) (by exact Nat.le_of_ble_eq_true rfl) (by exact rfl))
     refine dw_nil (sq (rg ?_))
     refine z ?_ (h := fun ν => acts_load_owns (xs := [vI ((gC (unc l P) 0).x), vI ((gC (unc l P) 0).y), .bool (decide (((k : Nat) : Int) = 1))].map A.val) ν qE3_ti_57 rfl (by decide) rfl)
     refine z ?_ (h := fun ν => acts_call1 ν (l05Second_b (⟨(gC (unc l P) 0).x, (gC (unc l P) 0).y, decide (((k : Nat) : Int) = 1)⟩ : Dom) (by omega)) (ac (ArgV.va va) an) (ResV.agg [vI ((cb (⟨(gC (unc l P) 0).x, (gC (unc l P) 0).y, decide (((k : Nat) : Int) = 1)⟩ : Dom)).x), vI ((cb (⟨(gC (unc l P) 0).x, (gC (unc l P) 0).y, decide (((k : Nat) : Int) = 1)⟩ : Dom)).y)]))
     refine z ?_ (h := fun ν => acts_alloc' (h := 11) (cap := 1) (s := 2) (cells := [aI 0, aI 0]) ν qE3_zi_46 rfl rfl (by decide))
     refine z ?_ (h := fun _ => acts_store (cells := [aI ((cb (⟨(gC (unc l P) 0).x, (gC (unc l P) 0).y, decide (((k : Nat) : Int) = 1)⟩ : Dom)).x), aI ((cb (⟨(gC (unc l P) 0).x, (gC (unc l P) 0).y, decide (((k : Nat) : Int) = 1)⟩ : Dom)).y)]) qE3_ti_46 xt (by exact rfl) (by decide) (by exact ob1 rfl) (by exact Nat.le_of_ble_eq_true rfl) (by exact rfl))
     refine nl (sq (sq ?_))
     rcases Bool.eq_false_or_eq_true ((okD (⟨(gC (unc l P) 0).x, (gC (unc l P) 0).y, decide (((k : Nat) : Int) = 1)⟩ : Dom))) with c5 | c5
     ·skip
      have hok := c5
      rcases Bool.eq_false_or_eq_true ((hasC l (cb (⟨(gC (unc l P) 0).x, (gC (unc l P) 0).y, decide (((k : Nat) : Int) = 1)⟩ : Dom)))) with c6 | c6
      ·skip
       have hhc := c6
       refine rg ?_
       refine z ?_ (h := fun ν => acts_load_owns (xs := [vI ((gC (unc l P) 0).x), vI ((gC (unc l P) 0).y), .bool (decide (((k : Nat) : Int) = 1))].map A.val) ν qE3_ti_57 rfl (by decide) rfl)
       refine z ?_ (h := fun ν => acts_call1 ν (spec_DominoOk_fn (⟨(gC (unc l P) 0).x, (gC (unc l P) 0).y, decide (((k : Nat) : Int) = 1)⟩ : Dom) ) (ac (ArgV.va va) an) (resval (congrArg Value.bool c5)))
       refine z ?_ (h := fun ν => acts_un ν vt (r_not (c := false) rfl))
       refine zm ?_
       refine zg ?_ (h := fun ν => step_on rfl rfl (acts_load_owns (xs := [(.sl 800 0 l.length : A)]) ν qE3_ti_29 rfl (by decide) rfl))
       refine zg ?_ (h := fun ν => step_on rfl rfl (acts_load_owns (xs := [vI ((cb (⟨(gC (unc l P) 0).x, (gC (unc l P) 0).y, decide (((k : Nat) : Int) = 1)⟩ : Dom)).x), vI ((cb (⟨(gC (unc l P) 0).x, (gC (unc l P) 0).y, decide (((k : Nat) : Int) = 1)⟩ : Dom)).y)].map A.val) ν qE3_ti_46 rfl (by decide) rfl))
       refine zg ?_ (h := fun ν => step_on rfl rfl (acts_call1 ν (spec_HasCell_fn l (cb (⟨(gC (unc l P) 0).x, (gC (unc l P) 0).y, decide (((k : Nat) : Int) = 1)⟩ : Dom)) (by omega)) (ac (ArgV.reg _ _ _ (s := 1) (by simp [isl]) (by exact List.take_of_length_le (by simp [isl]))) (ac (ArgV.va va) an)) (resval (congrArg Value.bool c6))))
       refine zg ?_ (h := fun ν => step_on rfl rfl (acts_un ν vt (r_not (c := false) rfl)))
       refine z ?_ (h := fun ν => acts_pick_f ν vt xt)
       refine zm ?_
       refine zg ?_ (h := fun ν => step_on rfl rfl (mt ν))
       refine zg ?_ (h := fun ν => step_on rfl rfl (acts_load_owns (xs := [vI ((cb (⟨(gC (unc l P) 0).x, (gC (unc l P) 0).y, decide (((k : Nat) : Int) = 1)⟩ : Dom)).x), vI ((cb (⟨(gC (unc l P) 0).x, (gC (unc l P) 0).y, decide (((k : Nat) : Int) = 1)⟩ : Dom)).y)].map A.val) ν qE3_ti_46 rfl (by decide) rfl))
       refine zg ?_ (h := fun ν => step_on rfl rfl (acts_call1 ν (spec_DominoAt_fn P (cb (⟨(gC (unc l P) 0).x, (gC (unc l P) 0).y, decide (((k : Nat) : Int) = 1)⟩ : Dom)) (by omega)) (ac (argv_own (by exact dsl_len _)) (ac (ArgV.va va) an)) rv))
       refine zg ?_ (h := fun ν => step_on rfl rfl (acts_bin ν vt vc (r_geq rfl)))
       refine z ?_ (h := fun ν => acts_pick_f ν vt xt)
       refine nl ?_
       refine wi (fun c7 => ?_) (fun c7 => ?_)
       ·skip
        have c7P := of_decide_eq_true c7
        have hno : fitD (lft l P) (⟨(gC (unc l P) 0).x, (gC (unc l P) 0).y, decide (((k : Nat) : Int) = 1)⟩ : Dom) = false := l08_no ho hok hbt (by rw [c7]; simp)
        refine wp_exit' (rg (zm ?_))
        refine z ?_ (h := fun ν => acts_bin ν vt vc (rA (by omega) (by omega)))
        refine za (nl ?_)
        exact loop_back ((k + 1)) (by show _ ≤ _; omega) (by show 2 - (k + 1) < 2 - k; omega) (wkf id (wS <| wS <| wS <| wE (e := (vsl (by (exact congrArg List.length (by first | rfl | omega | (rw [hls]; exact tlv_round hd hft) | (rw [hls]; exact Eq.symm (tlv_round hd hft)) | exact tlv_skip hd hno | exact Eq.symm (tlv_skip hd hno) | (simp [tlk]; done)))) rfl)) <| wS <| wE (e := (vint (by rfl))) <| wX <| wQV (e := (by exact Eq.symm (tlv_skip hd hno))) <| wP <| wP <| wP <| by (iterate 23 refine wF ?_); exact wN))
       ·skip
        have c7P := of_decide_eq_false c7
        have hft : fitD (lft l P) (⟨(gC (unc l P) 0).x, (gC (unc l P) 0).y, decide (((k : Nat) : Int) = 1)⟩ : Dom) = true := l08_yes ho hok hbt hhc (by have := of_decide_eq_false c7; omega)
        have hls := lft_snoc (l := l) (P := P) hok
        have hln := tl_len (n := n) hd hft h0 hk2
        have hpc := popc_sub hft
        refine sk (wp_dr (zdm ?_))
        refine zd ?_ (h := fun ν => acts_load_owns (xs := [(.sl 800 0 l.length : A)]) ν qE3_ti_29 rfl (by decide) rfl)
        refine zd ?_ (h := fun ν => b0D (h := 65) ν qE3_un_26 qE3_zi_57)
        refine zdm ?_
        refine zd ?_ (h := fun ν => aD_ (h2 := 67) (L3 := P) ν qE3_un_26 qE3_zi_57 (by exact rfl) rfl (by exact rfl) (by omega))
        refine zd ?_ (h := fun ν => acts_load_owns (xs := [vI ((gC (unc l P) 0).x), vI ((gC (unc l P) 0).y), .bool (decide (((k : Nat) : Int) = 1))].map A.val) ν qE3_ti_57 rfl (by decide) rfl)
        refine zd ?_ (h := fun ν => acts_buildSlice' (h := 69) (xs := dsl ([(⟨(gC (unc l P) 0).x, (gC (unc l P) 0).y, decide (((k : Nat) : Int) = 1)⟩ : Dom)] : List Dom)) ν qE3_un_26 qE3_zi_57 (.cons va OpVs.nil) (by decide) (by decide) (by kernel_rfl) rfl)
        refine zd ?_ (h := fun ν => aD_ (h2 := 70) (L3 := (P ++ [(⟨(gC (unc l P) 0).x, (gC (unc l P) 0).y, decide (((k : Nat) : Int) = 1)⟩ : Dom)])) ν qE3_un_26 qE3_zi_57 (by exact rfl) rfl (by exact rfl) (by (simp; omega)))
        refine zdm (zdm ?_)
        refine zd ?_ (h := fun ν => lnS ν qE3_un_85)
        refine zd ?_ (h := fun ν => acts_bin ν vt vt (rS (by omega) (by omega)))
        refine zd ?_ (h := fun ν => acts_callO (d := 75) (f := 77) (os := [(.o 800, some (.o ⟨3, 1, true, pl (isl l)⟩)), (.o 70, some (.o ⟨57, 3, true, pl (dsl (P ++ [(⟨(gC (unc l P) 0).x, (gC (unc l P) 0).y, decide (((k : Nat) : Int) = 1)⟩ : Dom)]))⟩))]) (os' := [(.o 800, some (.o ⟨3, 1, true, pl (isl l)⟩)), (.o 70, some (.o ⟨57, 3, true, pl (dsl (P ++ [(⟨(gC (unc l P) 0).x, (gC (unc l P) 0).y, decide (((k : Nat) : Int) = 1)⟩ : Dom)]))⟩))]) (r := V.b (.a (.slvv 3 (vwD ((tls n (lft l (P ++ [(⟨(gC (unc l P) 0).x, (gC (unc l P) 0).y, decide (((k : Nat) : Int) = 1)⟩ : Dom)]))).map ((P ++ [(⟨(gC (unc l P) 0).x, (gC (unc l P) 0).y, decide (((k : Nat) : Int) = 1)⟩ : Dom)]) ++ ·)))))) (bs := [.agg [(.sl 800 0 l.length : A)], .a (.sl 70 0 ((P ++ [(⟨(gC (unc l P) 0).x, (gC (unc l P) 0).y, decide (((k : Nat) : Int) = 1)⟩ : Dom)]).length)), .a (.val (.int .i64 (most - ((((tlk n (lft l P) k).map (P ++ ·)).length : Nat) : Int))))]) (keep := [800, 70]) (new := []) (dead := []) ν (FnO.ren' (ih l (P ++ [(⟨(gC (unc l P) 0).x, (gC (unc l P) 0).y, decide (((k : Nat) : Int) = 1)⟩ : Dom)]) (most - ((((tlk n (lft l P) k).map (P ++ ·)).length : Nat) : Int)) (by omega) (by omega) (by (rw [hls]; omega)) (by (rw [hls]; omega)) (by omega) (by (simp only [List.length_append, List.length_singleton]; omega))) (subst1 [(900, 70)]) rfl rfl (by kernel_rfl) (by kernel_rfl) ⟨oc_pl (fun _ => rfl), oc_pl (fun _ => rfl), trivial⟩ (by kernel_rfl) rfl (by simp only [renS, Ob.ren, pl_ren, rws_ren_doms, rws_ren_ints, rws_ren_cels, rwI_ren, rwD_ren]; first | done | rfl) (by simp only [renS, Ob.ren, pl_ren, rws_ren_doms, rws_ren_ints, rws_ren_cels, rwI_ren, rwD_ren]; first | done | rfl) rfl rfl) (by kernel_rfl) ⟨oc_pl (fun _ => rfl), oc_pl (fun _ => rfl), trivial⟩ (by kernel_rfl) (ArgOs.cons (ArgO.slot 64 (.agg [(.sl 800 0 l.length : A)])) (ArgOs.cons (ArgO.slot 70 (.a (.sl 70 0 ((P ++ [(⟨(gC (unc l P) 0).x, (gC (unc l P) 0).y, decide (((k : Nat) : Int) = 1)⟩ : Dom)]).length)))) (ArgOs.cons ((ArgO.v vt)) (ArgOs.nil)))))
        refine zd ?_ (h := fun ν => aV (h2 := 76) (nm := (((tlk n (lft l P) k).map (P ++ ·)) ++ ((tls n (lft l (P ++ [(⟨(gC (unc l P) 0).x, (gC (unc l P) 0).y, decide (((k : Nat) : Int) = 1)⟩ : Dom)]))).map ((P ++ [(⟨(gC (unc l P) 0).x, (gC (unc l P) 0).y, decide (((k : Nat) : Int) = 1)⟩ : Dom)]) ++ ·))).length) (L := ((tlk n (lft l P) k).map (P ++ ·))) (M := ((tls n (lft l (P ++ [(⟨(gC (unc l P) 0).x, (gC (unc l P) 0).y, decide (((k : Nat) : Int) = 1)⟩ : Dom)]))).map ((P ++ [(⟨(gC (unc l P) 0).x, (gC (unc l P) 0).y, decide (((k : Nat) : Int) = 1)⟩ : Dom)]) ++ ·))) ν qE3_un_85 qE3_zi_26 (by rfl) (by (first | omega | assumption | (simp only [List.length_map]; omega) | (rw [hls]; simp only [List.length_map]; omega) | (rw [hls]; omega))) (by simp))
        refine zd ?_ (h := fun ν => gt ν)
        refine dw_nil (rg (zm ?_))
        refine z ?_ (h := fun ν => acts_bin ν vt vc (rA (by omega) (by omega)))
        refine za (nl ?_)
        exact loop_back ((k + 1)) (by show _ ≤ _; omega) (by show 2 - (k + 1) < 2 - k; omega) (wkf (subst1 [(12, 76)]) (wS <| wS <| wS <| wE (e := (vsl (by (exact congrArg List.length (by first | rfl | omega | (rw [hls]; exact tlv_round hd hft) | (rw [hls]; exact Eq.symm (tlv_round hd hft)) | exact tlv_skip hd hno | exact Eq.symm (tlv_skip hd hno) | (simp [tlk]; done)))) rfl)) <| wS <| wE (e := (vint (by rfl))) <| wX <| wQV (e := (by (rw [hls]; exact Eq.symm (tlv_round hd hft)))) <| wP <| wP <| wP <| by (iterate 23 refine wF ?_); exact wN))
      ·skip
       have hno : fitD (lft l P) (⟨(gC (unc l P) 0).x, (gC (unc l P) 0).y, decide (((k : Nat) : Int) = 1)⟩ : Dom) = false := l08_no ho hok hbt (by rw [c6]; rfl)
       refine rg ?_
       refine z ?_ (h := fun ν => acts_load_owns (xs := [vI ((gC (unc l P) 0).x), vI ((gC (unc l P) 0).y), .bool (decide (((k : Nat) : Int) = 1))].map A.val) ν qE3_ti_57 rfl (by decide) rfl)
       refine z ?_ (h := fun ν => acts_call1 ν (spec_DominoOk_fn (⟨(gC (unc l P) 0).x, (gC (unc l P) 0).y, decide (((k : Nat) : Int) = 1)⟩ : Dom) ) (ac (ArgV.va va) an) (resval (congrArg Value.bool c5)))
       refine z ?_ (h := fun ν => acts_un ν vt (r_not (c := false) rfl))
       refine zm ?_
       refine zg ?_ (h := fun ν => step_on rfl rfl (acts_load_owns (xs := [(.sl 800 0 l.length : A)]) ν qE3_ti_29 rfl (by decide) rfl))
       refine zg ?_ (h := fun ν => step_on rfl rfl (acts_load_owns (xs := [vI ((cb (⟨(gC (unc l P) 0).x, (gC (unc l P) 0).y, decide (((k : Nat) : Int) = 1)⟩ : Dom)).x), vI ((cb (⟨(gC (unc l P) 0).x, (gC (unc l P) 0).y, decide (((k : Nat) : Int) = 1)⟩ : Dom)).y)].map A.val) ν qE3_ti_46 rfl (by decide) rfl))
       refine zg ?_ (h := fun ν => step_on rfl rfl (acts_call1 ν (spec_HasCell_fn l (cb (⟨(gC (unc l P) 0).x, (gC (unc l P) 0).y, decide (((k : Nat) : Int) = 1)⟩ : Dom)) (by omega)) (ac (ArgV.reg _ _ _ (s := 1) (by simp [isl]) (by exact List.take_of_length_le (by simp [isl]))) (ac (ArgV.va va) an)) (resval (congrArg Value.bool c6))))
       refine zg ?_ (h := fun ν => step_on rfl rfl (acts_un ν vt (r_not (c := true) rfl)))
       refine z ?_ (h := fun ν => acts_pick_f ν vt xt)
       refine zm (zo (zo (zo (zo ?_))))
       refine z ?_ (h := fun ν => acts_pick_t ν vt xc)
       refine nl (wt (wp_exit' (rg (zm ?_))))
       refine z ?_ (h := fun ν => acts_bin ν vt vc (rA (by omega) (by omega)))
       refine za (nl ?_)
       exact loop_back ((k + 1)) (by show _ ≤ _; omega) (by show 2 - (k + 1) < 2 - k; omega) (wkf id (wS <| wS <| wS <| wE (e := (vsl (by (exact congrArg List.length (by first | rfl | omega | (rw [hls]; exact tlv_round hd hft) | (rw [hls]; exact Eq.symm (tlv_round hd hft)) | exact tlv_skip hd hno | exact Eq.symm (tlv_skip hd hno) | (simp [tlk]; done)))) rfl)) <| wS <| wE (e := (vint (by rfl))) <| wX <| wQV (e := (by exact Eq.symm (tlv_skip hd hno))) <| wP <| wP <| wP <| by (iterate 23 refine wF ?_); exact wN))
     ·skip
      have hno := fit_no1 (s := lft l P) c5
      refine rg ?_
      refine z ?_ (h := fun ν => acts_load_owns (xs := [vI ((gC (unc l P) 0).x), vI ((gC (unc l P) 0).y), .bool (decide (((k : Nat) : Int) = 1))].map A.val) ν qE3_ti_57 rfl (by decide) rfl)
      refine z ?_ (h := fun ν => acts_call1 ν (spec_DominoOk_fn (⟨(gC (unc l P) 0).x, (gC (unc l P) 0).y, decide (((k : Nat) : Int) = 1)⟩ : Dom) ) (ac (ArgV.va va) an) (resval (congrArg Value.bool c5)))
      refine z ?_ (h := fun ν => acts_un ν vt (r_not (c := true) rfl))
      refine zm (zo (zo (zo (zo ?_))))
      refine z ?_ (h := fun ν => acts_pick_t ν vt xc)
      refine zm (zo (zo (zo (zo ?_))))
      refine z ?_ (h := fun ν => acts_pick_t ν vt xc)
      refine nl (wt (wp_exit' (rg (zm ?_))))
      refine z ?_ (h := fun ν => acts_bin ν vt vc (rA (by omega) (by omega)))
      refine za (nl ?_)
      exact loop_back ((k + 1)) (by show _ ≤ _; omega) (by show 2 - (k + 1) < 2 - k; omega) (wkf id (wS <| wS <| wS <| wE (e := (vsl (by (exact congrArg List.length (by first | rfl | omega | (rw [hls]; exact tlv_round hd hft) | (rw [hls]; exact Eq.symm (tlv_round hd hft)) | exact tlv_skip hd hno | exact Eq.symm (tlv_skip hd hno) | (simp [tlk]; done)))) rfl)) <| wS <| wE (e := (vint (by rfl))) <| wX <| wQV (e := (by exact Eq.symm (tlv_skip hd hno))) <| wP <| wP <| wP <| by (iterate 23 refine wF ?_); exact wN))
    ·skip
     have c4P := of_decide_eq_false c4
     refine wp_exit' (sq (rg (zm (za (nl ?_)))))
     refine wp_weak (fzV (k := 6) (h := 12) (T0 := 26) (ex0 := true) (n := (((tlk n (lft l P) k).map (P ++ ·)).length)) (L := ((tlk n (lft l P) k).map (P ++ ·))) (hn := by rfl)) ?_
     refine wp_ret' ?_
     exact ⟨_, weak_id, ⟨by kernel_rfl, by kernel_rfl, trivial⟩, vo_eq 6 (.a (.slvv 3 (vwD ((tlk n (lft l P) k).map (P ++ ·))))) (.a (.slvv 3 (vwD ((tls (n + 1) (lft l P)).map (P ++ ·))))) (by kernel_rfl) (congrArg (fun z => B.a (.slvv 3 (vwD z))) (by exact tlv_end h0 (by omega) (by omega)))⟩
   ·skip
    have c3P := of_decide_eq_false c3
    refine rg (zm ?_)
    refine z ?_ (h := fun ν => acts_bin ν vt vc (r_lss (c := false) c3))
    refine zm (zo (zo (zo (zo ?_))))
    refine z ?_ (h := fun ν => acts_pick_f ν vt xc)
    refine nl (wf (wp_exit' (sq (rg (zm (za (nl ?_)))))))
    refine wp_weak (fzV (k := 6) (h := 12) (T0 := 26) (ex0 := true) (n := (((tlk n (lft l P) k).map (P ++ ·)).length)) (L := ((tlk n (lft l P) k).map (P ++ ·))) (hn := by rfl)) ?_
    refine wp_ret' ?_
    exact ⟨_, weak_id, ⟨by kernel_rfl, by kernel_rfl, trivial⟩, vo_eq 6 (.a (.slvv 3 (vwD ((tlk n (lft l P) k).map (P ++ ·))))) (.a (.slvv 3 (vwD ((tls (n + 1) (lft l P)).map (P ++ ·))))) (by kernel_rfl) (congrArg (fun z => B.a (.slvv 3 (vwD z))) (by exact tlv_end h0 (by omega) (by omega)))⟩

set_option maxHeartbeats 4000000 in
set_option maxRecDepth 100000 in
theorem spec_ListTilings_fn (l : List Int) (hl : l.length ≤ 4194304) : FnO Try.prog 56 [.agg [(.sl 800 0 l.length : A)]] [(.o 800, some (.o ⟨3, 1, true, pl (isl l)⟩))] (V.b (.a (.slvv 3 (vwD (ltR l))))) [(.o 800, some (.o ⟨3, 1, true, pl (isl l)⟩))] [800] := by
 refine fn_introO (N := 11) Try.func56 rfl (by kernel_rfl) rfl (Nat.le_of_ble_eq_true rfl) rfl rfl (by kernel_rfl) (by kernel_rfl) ⟨oc_pl (fun _ => rfl), trivial⟩ [1, 4, 5, 7, 9, 10, 11, 12, 13, 14] (retO1 rfl) (fun W own kp im0 => ?_)
 show Wp _ _ _ [kV 0 (V.b (.agg [(.sl 800 0 l.length : A)])), kO 800 3 1 true (pl (isl l)), kF 1, kF 4, kF 5, kF 7, kF 9, kF 10, kF 11, kF 12, kF 13, kF 14]
 refine sq (rg ?_)
 refine z ?_ (h := fun ν => acts_box (h := 1) ν xt (by exact ob1 rfl))
 refine zk (nl (sq (sq (rg ?_))))
 refine z ?_ (h := fun ν => acts_load_owns (xs := [(.sl 800 0 l.length : A)]) ν qE3_ti_29 rfl (by decide) rfl)
 refine z ?_ (h := fun ν => acts_call1 ν (spec_CountTilings_fn l (by omega)) (ac (ArgV.reg _ _ _ (s := 1) (by simp [isl]) (by exact List.take_of_length_le (by simp [isl]))) an) rv)
 refine z ?_ (h := fun ν => acts_call1 ν (spec_l01In_fn (((cntR l) : Nat) : Int) 1 300 ) (ac (ArgV.v vt) (ac (ArgV.v vc) (ac (ArgV.v vc) an))) rv)
 refine z ?_ (h := fun ν => acts_un ν vt (r_not rfl))
 refine nl ?_
 refine wi (b := (!(inB (((cntR l) : Nat) : Int) 1 300))) (fun c1 => ?_) (fun c1 => ?_)
 ·skip
  have c2 : (inB (((cntR l) : Nat) : Int) 1 300) = false := by first | (rw [← Bool.not_eq_true']; exact c1) | simpa using c1
  have hlt := ltR_no c2
  refine sq (rg ?_)
  refine z ?_ (h := fun ν => b0P (h := 7) (T := 57) ν qE3_un_85 qE3_zi_26)
  refine za (nl ?_)
  refine wp_weak (fzD (k := 2) (h := 7) (T0 := 26) (T := 57) (ex0 := true) (n := 0) (L := []) (hn := by simp)) ?_
  refine wp_ret' ?_
  exact ⟨_, weak_id, ⟨by kernel_rfl, trivial⟩, vo_eq 2 (.a (.slvv 3 (vwD []))) (.a (.slvv 3 (vwD (ltR l)))) (by kernel_rfl) (congrArg (fun z => B.a (.slvv 3 (vwD z))) (by exact hlt.symm))⟩
 ·skip
  have c3 : (inB (((cntR l) : Nat) : Int) 1 300) = true := by first | (rw [← Bool.not_eq_false']; exact c1) | simpa using c1
  obtain ⟨hlt, hro, hl3⟩ := ltR_yes c3
  have hrp := popc_le (regSet l)
  have hln := lft_nil l
  refine sk (sq (rg ?_))
  refine z ?_ (h := fun ν => acts_load_owns (xs := [(.sl 800 0 l.length : A)]) ν qE3_ti_29 rfl (by decide) rfl)
  refine z ?_ (h := fun ν => b0D (h := 9) ν qE3_un_26 qE3_zi_57)
  refine z ?_ (h := fun ν => acts_callO (d := 10) (f := 77) (os := [(.o 800, some (.o ⟨3, 1, true, pl (isl l)⟩)), (.o 9, some (.o ⟨57, 3, true, pl (dsl [])⟩))]) (os' := [(.o 800, some (.o ⟨3, 1, true, pl (isl l)⟩)), (.o 9, some (.o ⟨57, 3, true, pl (dsl [])⟩))]) (r := V.b (.a (.slvv 3 (vwD ((tls 33 (lft l [])).map ([] ++ ·)))))) (bs := [.agg [(.sl 800 0 l.length : A)], .a (.sl 9 0 0), .a (.val (.int .i64 300))]) (keep := [800, 9]) (new := []) (dead := []) ν (FnO.ren' (spec_l08List_fn 33 l [] 300 (by omega) (by omega) (by (rw [hln]; omega)) (by (rw [hln]; omega)) (by omega) (by (simp; done))) (subst1 [(900, 9)]) rfl rfl (by kernel_rfl) (by kernel_rfl) ⟨oc_pl (fun _ => rfl), oc_pl (fun _ => rfl), trivial⟩ (by kernel_rfl) rfl (by simp only [renS, Ob.ren, pl_ren, rws_ren_doms, rws_ren_ints, rws_ren_cels, rwI_ren, rwD_ren]; first | done | rfl) (by simp only [renS, Ob.ren, pl_ren, rws_ren_doms, rws_ren_ints, rws_ren_cels, rwI_ren, rwD_ren]; first | done | rfl) rfl rfl) (by kernel_rfl) ⟨oc_pl (fun _ => rfl), oc_pl (fun _ => rfl), trivial⟩ (by kernel_rfl) (ArgOs.cons (ArgO.slot 8 (.agg [(.sl 800 0 l.length : A)])) (ArgOs.cons (ArgO.slot 9 (.a (.sl 9 0 0))) (ArgOs.cons ((ArgO.v vc)) (ArgOs.nil)))))
  refine za (nl (wp_ret' ?_))
  exact ⟨_, weak_id, ⟨by kernel_rfl, trivial⟩, vo_eq 2 (.a (.slvv 3 (vwD ((tls 33 (lft l [])).map ([] ++ ·))))) (.a (.slvv 3 (vwD (ltR l)))) (by kernel_rfl) (congrArg (fun z => B.a (.slvv 3 (vwD z))) (by (rw [hlt, hln]; exact mp_nil)))⟩
end Cl
end Go.Proofs.Ytonlghbbdcddoaa
