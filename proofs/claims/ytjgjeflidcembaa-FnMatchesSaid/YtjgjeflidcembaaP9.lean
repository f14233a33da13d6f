/- Walks over clean states, printed by wg.py. No statement is proved here. -/
import Derived.Test.YtjgjeflidcembaaP8
import Derived.Test.YtjgjeflidcembaaE3
import Derived.Test.YtjgjeflidcembaaClB
namespace Go.Proofs.Ytjgjeflidcembaa
namespace Cl
open Go.ChangeShapes Go.WideShapes Go.ChangeAt Go.RowKit
set_option maxRecDepth 20000

def goAll (l : List Dom) (cs : List Cel) : Option (List Dom) := cs.foldlM (fun o c => if canB o c.x c.y then some (flipAt o c) else none) l
def fAll (l : List Dom) (cs : List Cel) : List Dom := if 200 < cs.length then l else (goAll l cs).getD l
def fOk (l : List Dom) (cs : List Cel) : Bool := !(decide (200 < cs.length)) && (goAll l cs).isSome
theorem goAll_yes {l o : List Dom} {cs : List Cel} {k : Nat} (h : k < cs.length) (hg : goAll l (cs.take k) = some o) (hc : canB o (gC cs k).x (gC cs k).y = true) : goAll l (cs.take (k+1)) = some (flipAt o (gC cs k)) := by
  unfold goAll at *
  rw [List.take_succ_eq_append_getElem h, List.foldlM_append, hg, ← gC_eq h]
  simp [hc]
theorem goAll_no {l o : List Dom} {cs : List Cel} {k : Nat} (h : k < cs.length) (hg : goAll l (cs.take k) = some o) (hc : canB o (gC cs k).x (gC cs k).y = false) : goAll l cs = none := by
  have e : cs = cs.take k ++ gC cs k :: cs.drop (k+1) := by
    rw [gC_eq h, ← List.drop_eq_getElem_cons h, List.take_append_drop]
  unfold goAll at *
  rw [e, List.foldlM_append, hg]
  simp [hc]
theorem fAll_no {l o : List Dom} {cs : List Cel} {k : Nat} (h : k < cs.length) (hg : goAll l (cs.take k) = some o) (hc : canB o (gC cs k).x (gC cs k).y = false) : l = fAll l cs ∧ false = fOk l cs := by
  have := goAll_no h hg hc
  unfold fAll fOk; rw [this]; simp
theorem fAll_long {l : List Dom} {cs : List Cel} (h : 200 < cs.length) : l = fAll l cs ∧ false = fOk l cs := by
  unfold fAll fOk; simp [h]
theorem fAll_end {l o : List Dom} {cs : List Cel} {k : Nat} (hk : ¬ (k : Int) < (cs.length : Int)) (h2 : cs.length ≤ 200) (hg : goAll l (cs.take k) = some o) : o = fAll l cs ∧ true = fOk l cs := by
  rw [List.take_of_length_le (by omega)] at hg
  unfold fAll fOk; rw [hg]; simp; omega
theorem lt_r8c {b : List Nat} {c : Cu} {R : List Int} (h : (r8 b 6 c).1 = R) : LT R := by
  subst h
  obtain ⟨h1, h2, h3⟩ := r8_cnt b 6 c
  exact LT.of h1 h2 h3
theorem flips_len9 (P : List Dom) : (flipsOf P).length ≤ 64 := flN_len P 64
theorem flips_can9 {P : List Dom} {c : Cel} (h : c ∈ flipsOf P) : canB P c.x c.y = true := by
  unfold flipsOf flN at h
  obtain ⟨i, hi, rfl⟩ := List.mem_map.1 h
  exact (List.mem_filter.1 hi).2
theorem flips_no9 {P : List Dom} (h : (flipsOf P).length = 0) {x y : Nat} (hx : x < 8) (hy : y < 8) : canB P ((x : Nat) : Int) ((y : Nat) : Int) = false := by
  rw [Bool.eq_false_iff]
  intro hc
  have : (cellN (x + 8 * y)) ∈ flipsOf P := by
    unfold flipsOf flN
    refine List.mem_map.2 ⟨x + 8 * y, List.mem_filter.2 ⟨List.mem_range.2 (by omega), ?_⟩, rfl⟩
    unfold canN cellN
    rw [show (x + 8 * y) % 8 = x by omega, show (x + 8 * y) / 8 = y by omega]; exact hc
  rw [List.length_eq_zero_iff] at h
  rw [h] at this; exact absurd this (by simp)
theorem fAll_two {s : Nat} {P : List Dom} {c : Cel} (h : TilS s P) (hc : canB P c.x c.y = true) : fAll P [c, c] = P ∧ fOk P [c, c] = true := by
  obtain ⟨h1, h2⟩ := flip_back h hc
  have : goAll P [c, c] = some P := by simp [goAll, List.foldlM, hc, h1, h2]
  unfold fAll fOk; rw [this]; simp
theorem dwn_one : dwn [(⟨0, 0, true⟩ : Dom)] = 1 := by decide
/-- what is known of a flip at a place that is listed -/
structure FL (R : List Int) (P : List Dom) (c : Cel) : Prop where
  can : canB P c.x c.y = true
  back : canB (flipAt P c) c.x c.y = true
  same : flipAt (flipAt P c) c = P
  ne : ¬ flipAt P c = P
  two : fAll P [c, c] = P
  ok : fOk P [c, c] = true
  til : isTil R (flipAt P c) = true
  dn : dwn (flipAt P c) = dwn P + 2 ∨ dwn P = dwn (flipAt P c) + 2
theorem FL.of {R : List Int} {P : List Dom} (ho : regOk R = true) (h : TilS (regSet R) P) {k : Nat} (hk : k < (flipsOf P).length) : FL R P (gC (flipsOf P) k) := by
  have hc := flips_can9 (P := P) (c := gC (flipsOf P) k) (by rw [gC_eq hk]; exact List.getElem_mem hk)
  obtain ⟨b1, b2⟩ := flip_back h hc
  obtain ⟨a1, a2⟩ := fAll_two h hc
  exact ⟨hc, b1, b2, flip_ne h hc, a1, a2, til_isTil ho (flipAt_til h hc), flip_dwn h hc⟩
theorem dn_sq {a b : Nat} (h : a = b + 2 ∨ b = a + 2) : decide ((((a : Nat) : Int) - ((b : Nat) : Int)) * (((a : Nat) : Int) - ((b : Nat) : Int)) = 4) = true := by
  rw [decide_eq_true_eq]
  rcases h with h | h
  · rw [show ((a : Nat) : Int) - ((b : Nat) : Int) = 2 by omega]; rfl
  · rw [show ((a : Nat) : Int) - ((b : Nat) : Int) = -2 by omega]; rfl

theorem qP9_bs_46 : ∀ (a b : Int), Try.prog.built 46 [(0, .int .i64 a), (1, .int .i64 b)] = some ([.int .i64 a, .int .i64 b] : List Value).toArray := fun _ _ => rfl
theorem qP9_fo_37_2 : fieldOff Try.prog 37 2 = some 2 := by kernel_rfl
theorem qP9_sz_30 : (Try.prog.info? 30).map (·.size) = some 1 := by kernel_rfl
theorem qP9_sz_37 : (Try.prog.info? 37).map (·.size) = some 3 := by kernel_rfl
theorem qP9_sz_46 : (Try.prog.info? 46).map (·.size) = some 2 := by kernel_rfl
theorem qP9_ti_26 : TI Try.prog 26 true 1 := ⟨⟨_, Try.underlying26, rfl⟩, by kernel_rfl⟩
theorem qP9_ti_30 : TI Try.prog 30 false 1 := ⟨⟨_, Try.underlying30, rfl⟩, by kernel_rfl⟩
theorem qP9_ti_37 : TI Try.prog 37 true 3 := ⟨⟨_, Try.underlying37, rfl⟩, by kernel_rfl⟩
theorem qP9_ti_4 : TI Try.prog 4 false 1 := ⟨⟨_, Try.underlying4, rfl⟩, by kernel_rfl⟩
theorem qP9_ti_46 : TI Try.prog 46 true 2 := ⟨⟨_, Try.underlying46, rfl⟩, by kernel_rfl⟩
theorem qP9_un_28 : Try.prog.underlying 28 = some (.slice 30) := Try.underlying28
theorem qP9_un_30 : Try.prog.underlying 30 = some (.slice 37) := Try.underlying30
theorem qP9_un_42 : Try.prog.underlying 42 = some (.slice 46) := Try.underlying42
theorem qP9_zi_26 : ZI Try.prog 26 (.agg #[.slice none 0 0]) 1 24 := by unfold ZI; kernel_rfl
theorem qP9_zi_37 : ZI Try.prog 37 (.agg #[.int .i64 0, .int .i64 0, .bool false]) 3 24 := by unfold ZI; kernel_rfl
theorem qP9_zi_46 : ZI Try.prog 46 (.agg #[.int .i64 0, .int .i64 0]) 2 16 := by unfold ZI; kernel_rfl
set_option maxHeartbeats 4000000 in
set_option maxRecDepth 100000 in
theorem impl_FlipAll_fn (l : List Dom) (cs : List Cel) (hl : l.length ≤ 524288) (hc : cs.length ≤ 1048576) : Fn Try.prog 23 [.a (.slv l.length 3 (dsl l)), .a (.slv cs.length 2 (csl cs))] [.row 37 3 (fAll l cs).length (dsl (fAll l cs)), .val (.bool (fOk l cs))] := by
 refine fn_intro (N := 37) Try.func23 rfl (by kernel_rfl) rfl (Nat.le_of_ble_eq_true rfl) [8, 12, 15, 17, 19, 27, 33] (ret2 rfl rfl (by intro u hu; injection hu with hu; subst hu; rfl)) (fun W => ?_)
 show Wp _ _ _ [kV 0 (V.b (.a (.slv l.length 3 (dsl l)))), kV 1 (V.b (.a (.slv cs.length 2 (csl cs)))), kF 8, kF 12, kF 15, kF 17, kF 19, kF 27, kF 33]
 refine sq (rg (zk (zk (nl (sq (sq (rg (zm ?_))))))))
 refine z ?_ (h := fun ν => lnV ν qP9_un_42)
 refine z ?_ (h := fun ν => acts_bin ν vt vc (r_gtr rfl))
 refine nl ?_
 refine wi (fun c1 => ?_) (fun c1 => ?_)
 ·skip
  have c1P := of_decide_eq_true c1
  refine sq (rg (zm ?_))
  refine z ?_ (h := fun ν => acts_call1 ν (impl_copyDominoes_fn l (by omega)) (ac (ArgV.slv _ _ _ _) an) (ResV.row _ _ _ _ 15))
  refine za (zk (nl (wp_ret' ?_)))
  exact ⟨VRes.tmp _ _ _ (by exact rfl) (brow_doms (h := 15) (L := l) (by kernel_rfl) (by exact (fAll_long (by omega)).1) (by first | rfl | (simp; done) | (simp; omega))), VRes.tmp _ _ _ (by exact rfl) (bval (congrArg Value.bool (by exact (fAll_long (by omega)).2)))⟩
 ·skip
  have c1P := of_decide_eq_false c1
  refine sk (sq (rg (zm ?_)))
  refine z ?_ (h := fun ν => acts_call1 ν (impl_copyDominoes_fn l (by omega)) (ac (ArgV.slv _ _ _ _) an) (ResV.row _ _ _ _ 17))
  refine za (nl (sq (sq (rg (zm ?_)))))
  refine z ?_ (h := fun ν => lnV ν qP9_un_42)
  refine z ?_ (h := fun ν => mc ν)
  refine nl (bkk ?_)
  refine wp_loop' (fun ((k, out) : Nat × (List Dom)) => k ≤ cs.length ∧ goAll l (cs.take k) = some out ∧ out.length ≤ l.length + 2 * k) (fun ((k, out) : Nat × (List Dom)) => [kV 0 (V.b (.a (.slv l.length 3 (dsl l)))), kS 6 17 0 out.length, kV 18 (V.b (.a (.slv cs.length 2 (csl cs)))), kI 19 ((cs.length : Nat) : Int), kI 20 ((k : Nat) : Int), kO 17 37 3 true (pl (dsl out)), kF 8, kF 12, kF 15, kF 19, kF 27, kF 33]) (fun ((k, out) : Nat × (List Dom)) => cs.length - k) ((0 : Nat), (l : List Dom)) (by exact ⟨Nat.zero_le _, rfl, by omega⟩) (wkf id (wS <| wS <| wS <| wS <| wE (e := (vint (by first | rfl | omega | (simp; done) | (simp; omega)))) <| wP <| wF <| wF <| wF <| wF <| wF <| wF <| wN)) ?_
  rintro ⟨k, out⟩ inv2
  replace inv2 : k ≤ cs.length ∧ goAll l (cs.take k) = some out ∧ out.length ≤ l.length + 2 * k := inv2
  obtain ⟨inv2_0, inv2_1, inv2_2⟩ := inv2
  have hcs : cs.length ≤ 200 := by omega
  refine sq (rg ?_)
  refine z ?_ (h := fun ν => acts_bin ν vt vt (r_lss rfl))
  refine nl (sq ?_)
  refine wi (fun c3 => ?_) (fun c3 => ?_)
  ·skip
   have c3P := of_decide_eq_true c3
   refine sk (sq (bkk (sq (rg ?_))))
   refine z ?_ (h := fun ν => ixv ν qP9_un_42 qP9_sz_46 vt)
   refine z ?_ (h := fun ν => uC ν qP9_ti_46)
   refine z ?_ (h := fun ν => acts_alloc' (h := 8) (cap := 1) (s := 2) (cells := [aI 0, aI 0]) ν qP9_zi_46 rfl rfl (by decide))
   refine z ?_ (h := fun _ => acts_store (cells := [aI ((gC cs k).x), aI ((gC cs k).y)]) qP9_ti_46 xt (by exact rfl) (by decide) (by exact ob1 rfl) (by exact Nat.le_of_ble_eq_true rfl) (by exact rfl))
   refine nl (sq (rg (zm ?_)))
   refine z ?_ (h := fun ν => acts_load_owns (xs := [vI ((gC cs k).x), vI ((gC cs k).y)].map A.val) ν qP9_ti_46 rfl (by decide) rfl)
   refine z ?_ (h := fun ν => acts_call2 ν (impl_FlipAt_fn out (gC cs k) (by omega)) (ac (argv_own (by first | exact dsl_len _ | (simp [isl_len, bsl_len, dsl_len, csl_len]; done) | (simp [isl_len, bsl_len, dsl_len, csl_len]; omega))) (ac (ArgV.va va) an)) (ResV.row _ _ _ _ 27) rv)
   refine zm ?_
   refine z ?_ (h := fun ν => acts_extract ν (by exact rfl))
   refine z ?_ (h := fun ν => acts_extract ν (by exact rfl))
   refine za (za (nl (sq (sq (rg (zm ?_))))))
   refine z ?_ (h := fun ν => acts_un ν vt (r_not rfl))
   refine nl ?_
   refine wi (b := (!(canB out (gC cs k).x (gC cs k).y))) (fun c4 => ?_) (fun c4 => ?_)
   ·skip
    have c5 : (canB out (gC cs k).x (gC cs k).y) = false := by first | (rw [← Bool.not_eq_true']; exact c4) | simpa using c4
    refine sq (rg (zm ?_))
    refine z ?_ (h := fun ν => acts_call1 ν (impl_copyDominoes_fn l (by omega)) (ac (ArgV.slv _ _ _ _) an) (ResV.row _ _ _ _ 33))
    refine za (zk (nl (wp_ret' ?_)))
    exact ⟨VRes.tmp _ _ _ (by exact rfl) (brow_doms (h := 33) (L := l) (by kernel_rfl) (by exact (fAll_no (k := k) (by omega) (by assumption) (by assumption)).1) (by first | rfl | (simp; done) | (simp; omega))), VRes.tmp _ _ _ (by exact rfl) (bval (congrArg Value.bool (by exact (fAll_no (k := k) (by omega) (by assumption) (by assumption)).2)))⟩
   ·skip
    have c6 : (canB out (gC cs k).x (gC cs k).y) = true := by first | (rw [← Bool.not_eq_false']; exact c4) | simpa using c4
    refine sk (rg (zm (za (nl (rg ?_)))))
    refine z ?_ (h := fun ν => acts_bin ν vt vc rA)
    refine zm (nl ?_)
    exact loop_back ((k + 1), (flipAt out (gC cs k))) (by refine ⟨by omega, goAll_yes (by omega) (by assumption) (by assumption), ?_⟩; have := flipAt_len out (gC cs k); omega) (by show cs.length - (k + 1) < cs.length - k; omega) (wkf (subst1 [(17, 27)]) (wS <| wS <| wS <| wS <| wE (e := (vint (by first | rfl | omega | (simp; done) | (simp; omega)))) <| wP <| wF <| wF <| wF <| wF <| wF <| wF <| wN))
  ·skip
   have c3P := of_decide_eq_false c3
   refine wp_exit' (sq (rg (zm (za (zk (nl (wp_ret' ?_)))))))
   exact ⟨VRes.tmp _ _ _ (by exact rfl) (brow_doms (h := 17) (L := out) (by kernel_rfl) (by exact (fAll_end (k := k) (by omega) (by omega) (by assumption)).1) (by first | rfl | (simp; done) | (simp; omega))), VRes.tmp _ _ _ (by exact rfl) (bval (congrArg Value.bool (by exact (fAll_end (k := k) (by omega) (by omega) (by assumption)).2)))⟩

set_option maxHeartbeats 4000000 in
set_option maxRecDepth 100000 in
theorem impl_CountDown_fn (l : List Dom) (hl : l.length ≤ 4194304) : Fn Try.prog 20 [.a (.slv l.length 3 (dsl l))] [.val (.int .i64 (((dwn l) : Nat) : Int))] := by
 refine fn_intro (N := 22) Try.func20 rfl (by kernel_rfl) rfl (Nat.le_of_ble_eq_true rfl) [5, 7, 13] (ret1 rfl) (fun W => ?_)
 show Wp _ _ _ [kV 0 (V.b (.a (.slv l.length 3 (dsl l)))), kF 5, kF 7, kF 13]
 refine sq (rg (zk (nl (sq (rg (zk (nl (sq (sq (rg (zm ?_)))))))))))
 refine z ?_ (h := fun ν => lnV ν qP9_un_30)
 refine z ?_ (h := fun ν => mc ν)
 refine nl (bkk ?_)
 refine wp_loop' (fun (k : Nat) => k ≤ l.length) (fun (k : Nat) => [kI 3 (((dwn (l.take k)) : Nat) : Int), kV 6 (V.b (.a (.slv l.length 3 (dsl l)))), kI 7 ((l.length : Nat) : Int), kI 8 ((k : Nat) : Int), kF 5, kF 7, kF 13]) (fun (k : Nat) => l.length - k) ((0 : Nat)) (by exact (Nat.zero_le _ : 0 ≤ _)) (wkf id (wE (e := (vint (by first | rfl | omega))) <| wS <| wS <| wE (e := (vint (by first | rfl | omega))) <| wF <| wF <| wF <| wN)) ?_
 rintro k inv1
 replace inv1 : k ≤ l.length := inv1
 have invk := inv1
 have hdl := dwn_le (l.take k)
 rw [List.length_take] at hdl
 refine sq (rg ?_)
 refine z ?_ (h := fun ν => acts_bin ν vt vt (r_lss rfl))
 refine nl (sq ?_)
 refine wi (fun c2 => ?_) (fun c2 => ?_)
 ·skip
  have c2P := of_decide_eq_true c2
  have hkl : k < l.length := by omega
  have hsn := dwn_snoc hkl
  refine sk (sq (bkk (sq (rg ?_))))
  refine z ?_ (h := fun ν => ixv ν qP9_un_30 qP9_sz_37 vt (hlt := (by first | omega | assumption)))
  refine z ?_ (h := fun ν => uD ν qP9_ti_37 (by first | omega | assumption))
  refine z ?_ (h := fun ν => acts_alloc' (h := 5) (cap := 1) (s := 3) (cells := [aI 0, aI 0, aB false]) ν qP9_zi_37 rfl rfl (by decide))
  refine z ?_ (h := fun _ => acts_store (cells := [aI ((gD l k).x), aI ((gD l k).y), aB ((gD l k).d)]) qP9_ti_37 xt (by exact rfl) (by decide) (by exact ob1 rfl) (by exact Nat.le_of_ble_eq_true rfl) (by exact rfl))
  refine nl (sq ?_)
  rcases Bool.eq_false_or_eq_true ((okD (gD l k))) with c3 | c3
  ·skip
   have hok := c3
   refine rg ?_
   refine z ?_ (h := fun ν => acts_load_owns (xs := [vI ((gD l k).x), vI ((gD l k).y), .bool ((gD l k).d)].map A.val) ν qP9_ti_37 rfl (by decide) rfl)
   refine z ?_ (h := fun ν => acts_call1 ν (impl_DominoOk_fn (gD l k) ) (ac (ArgV.va va) an) (resval (congrArg Value.bool c3)))
   refine zm ?_
   refine zg ?_ (h := fun ν => step_on rfl rfl (acts_field (off' := 2) ν qP9_fo_37_2 rfl))
   refine zg ?_ (h := fun ν => step_on rfl rfl (acts_load_own (x := .val (.bool ((gD l k).d))) ν qP9_ti_4 (by exact rfl)))
   refine z ?_ (h := fun ν => acts_pick_t ν vt xt)
   refine nl ?_
   refine wi (b := (gD l k).d) (fun c4 => ?_) (fun c4 => ?_)
   ·skip
    rw [if_pos (by rw [hok, c4]; rfl)] at hsn
    refine rg (zm ?_)
    refine z ?_ (h := fun ν => acts_bin ν vt vc (rA (by first | omega | assumption) (by first | omega | assumption)))
    refine za (nl (rg ?_))
    refine z ?_ (h := fun ν => acts_bin ν vt vc (rA (by first | omega | assumption) (by first | omega | assumption)))
    refine zm (nl ?_)
    exact loop_back ((k + 1)) (by show _ ≤ _; omega) (by show l.length - (k + 1) < l.length - k; omega) (wkf id (wE (e := (vint (by first | rfl | omega))) <| wS <| wS <| wE (e := (vint (by first | rfl | omega))) <| wF <| wF <| wF <| wN))
   ·skip
    rw [if_neg (by rw [hok, c4]; simp)] at hsn
    refine sk (rg ?_)
    refine z ?_ (h := fun ν => acts_bin ν vt vc (rA (by first | omega | assumption) (by first | omega | assumption)))
    refine zm (nl ?_)
    exact loop_back ((k + 1)) (by show _ ≤ _; omega) (by show l.length - (k + 1) < l.length - k; omega) (wkf id (wE (e := (vint (by first | rfl | omega))) <| wS <| wS <| wE (e := (vint (by first | rfl | omega))) <| wF <| wF <| wF <| wN))
  ·skip
   rw [if_neg (by rw [c3]; simp)] at hsn
   refine rg ?_
   refine z ?_ (h := fun ν => acts_load_owns (xs := [vI ((gD l k).x), vI ((gD l k).y), .bool ((gD l k).d)].map A.val) ν qP9_ti_37 rfl (by decide) rfl)
   refine z ?_ (h := fun ν => acts_call1 ν (impl_DominoOk_fn (gD l k) ) (ac (ArgV.va va) an) (resval (congrArg Value.bool c3)))
   refine zm (zo (zo ?_))
   refine z ?_ (h := fun ν => acts_pick_f ν vt xc)
   refine nl (wf (sk (rg ?_)))
   refine z ?_ (h := fun ν => acts_bin ν vt vc (rA (by first | omega | assumption) (by first | omega | assumption)))
   refine zm (nl ?_)
   exact loop_back ((k + 1)) (by show _ ≤ _; omega) (by show l.length - (k + 1) < l.length - k; omega) (wkf id (wE (e := (vint (by first | rfl | omega))) <| wS <| wS <| wE (e := (vint (by first | rfl | omega))) <| wF <| wF <| wF <| wN))
 ·skip
  have c2P := of_decide_eq_false c2
  refine wp_exit' (sq (rg (zm (za (nl (wp_ret' ?_))))))
  exact VRes.tmp _ _ _ (by exact rfl) (bval (congrArg (Value.int .i64) (by rw [List.take_of_length_le (by omega)])))

set_option maxHeartbeats 4000000 in
set_option maxRecDepth 100000 in
theorem spec_CountDown_fn (l : List Dom) (hl : l.length ≤ 4194304) : Fn Try.prog 21 [.a (.slv l.length 3 (dsl l))] [.val (.int .i64 (((dwn l) : Nat) : Int))] := by
 refine fn_intro (N := 26) Try.func21 rfl (by kernel_rfl) rfl (Nat.le_of_ble_eq_true rfl) [7, 15] (ret1 rfl) (fun W => ?_)
 show Wp _ _ _ [kV 0 (V.b (.a (.slv l.length 3 (dsl l)))), kF 7, kF 15]
 refine sq (rg (zk (nl (sq (rg (zk (nl (sq (sq (rg (zk (nl (bkk ?_)))))))))))))
 refine wp_loop' (fun (k : Nat) => k ≤ l.length) (fun (k : Nat) => [kV 0 (V.b (.a (.slv l.length 3 (dsl l)))), kI 3 (((dwn (l.take k)) : Nat) : Int), kI 4 ((k : Nat) : Int), kF 7, kF 15]) (fun (k : Nat) => l.length - k) ((0 : Nat)) (by exact (Nat.zero_le _ : 0 ≤ _)) (wkf id (wS <| wE (e := (vint (by first | rfl | omega))) <| wE (e := (vint (by first | rfl | omega))) <| wF <| wF <| wN)) ?_
 rintro k inv1
 replace inv1 : k ≤ l.length := inv1
 have invk := inv1
 have hdl := dwn_le (l.take k)
 rw [List.length_take] at hdl
 refine sq (sq (rg (zm (zm ?_))))
 refine z ?_ (h := fun ν => lnV ν qP9_un_30)
 refine z ?_ (h := fun ν => acts_bin ν vt vt (r_lss rfl))
 refine nl ?_
 refine wi (fun c2 => ?_) (fun c2 => ?_)
 ·skip
  have c2P := of_decide_eq_true c2
  have hkl : k < l.length := by omega
  have hsn := dwn_snoc hkl
  refine sk (sq (bkk (sq ?_)))
  rcases Bool.eq_false_or_eq_true ((okD (gD l k))) with c3 | c3
  ·skip
   have hok := c3
   refine rg (zm (zm ?_))
   refine z ?_ (h := fun ν => ixv ν qP9_un_30 qP9_sz_37 vt (hlt := (by first | omega | assumption)))
   refine z ?_ (h := fun ν => uD ν qP9_ti_37 (by first | omega | assumption))
   refine z ?_ (h := fun ν => acts_call1 ν (spec_DominoOk_fn (gD l k) ) (ac (ArgV.va va) an) (resval (congrArg Value.bool c3)))
   refine zm ?_
   refine zg ?_ (h := fun ν => step_on rfl rfl (mt ν))
   refine zg ?_ (h := fun ν => step_on rfl rfl (mt ν))
   refine zg ?_ (h := fun ν => step_on rfl rfl (ixv ν qP9_un_30 qP9_sz_37 vt (hlt := (by first | omega | assumption))))
   refine zg ?_ (h := fun ν => step_on rfl rfl (acts_field_v (off' := (k * 3 + 2)) ν qP9_fo_37_2 rfl))
   refine zg ?_ (h := fun ν => step_on rfl rfl (acts_load_v ν qP9_ti_4 (by exact (dsl_d (k := k) (by first | omega | assumption)))))
   refine z ?_ (h := fun ν => acts_pick_t ν vt xt)
   refine nl ?_
   refine wi (b := (gD l k).d) (fun c4 => ?_) (fun c4 => ?_)
   ·skip
    rw [if_pos (by rw [hok, c4]; rfl)] at hsn
    refine rg (zm ?_)
    refine z ?_ (h := fun ν => acts_bin ν vt vc (rA (by first | omega | assumption) (by first | omega | assumption)))
    refine za (nl (rg (zm ?_)))
    refine z ?_ (h := fun ν => acts_bin ν vt vc (rA (by first | omega | assumption) (by first | omega | assumption)))
    refine za (nl ?_)
    exact loop_back ((k + 1)) (by show _ ≤ _; omega) (by show l.length - (k + 1) < l.length - k; omega) (wkf id (wS <| wE (e := (vint (by first | rfl | omega))) <| wE (e := (vint (by first | rfl | omega))) <| wF <| wF <| wN))
   ·skip
    rw [if_neg (by rw [hok, c4]; simp)] at hsn
    refine sk (rg (zm ?_))
    refine z ?_ (h := fun ν => acts_bin ν vt vc (rA (by first | omega | assumption) (by first | omega | assumption)))
    refine za (nl ?_)
    exact loop_back ((k + 1)) (by show _ ≤ _; omega) (by show l.length - (k + 1) < l.length - k; omega) (wkf id (wS <| wE (e := (vint (by first | rfl | omega))) <| wE (e := (vint (by first | rfl | omega))) <| wF <| wF <| wN))
  ·skip
   rw [if_neg (by rw [c3]; simp)] at hsn
   refine rg (zm (zm ?_))
   refine z ?_ (h := fun ν => ixv ν qP9_un_30 qP9_sz_37 vt (hlt := (by first | omega | assumption)))
   refine z ?_ (h := fun ν => uD ν qP9_ti_37 (by first | omega | assumption))
   refine z ?_ (h := fun ν => acts_call1 ν (spec_DominoOk_fn (gD l k) ) (ac (ArgV.va va) an) (resval (congrArg Value.bool c3)))
   refine zm (zo (zo (zo (zo (zo ?_)))))
   refine z ?_ (h := fun ν => acts_pick_f ν vt xc)
   refine nl (wf (sk (rg (zm ?_))))
   refine z ?_ (h := fun ν => acts_bin ν vt vc (rA (by first | omega | assumption) (by first | omega | assumption)))
   refine za (nl ?_)
   exact loop_back ((k + 1)) (by show _ ≤ _; omega) (by show l.length - (k + 1) < l.length - k; omega) (wkf id (wS <| wE (e := (vint (by first | rfl | omega))) <| wE (e := (vint (by first | rfl | omega))) <| wF <| wF <| wN))
 ·skip
  have c2P := of_decide_eq_false c2
  refine wp_exit' (sq (rg (zm (za (nl (wp_ret' ?_))))))
  exact VRes.tmp _ _ _ (by exact rfl) (bval (congrArg (Value.int .i64) (by rw [List.take_of_length_le (by omega)])))

set_option maxHeartbeats 4000000 in
set_option maxRecDepth 100000 in
theorem l08Region_R (b : List Nat) (c : Cu) (R : List Int) (cz : Cu) (hb : b.length ≤ 1048576) (hy : ∀ x ∈ b, x < 256) (hi : c.i ≤ b.length) (hR : (r8 b 6 c).1 = R) (hz : (r8 b 6 c).2 = cz) : FnO Try.prog 42 [.a (.ptr 1 0)] [(.o 1, some (.o ⟨97, 3, true, [(.slv b.length 1 (ysl b) : A), aI ((c.i : Nat) : Int), aI c.h]⟩))] (V.b (.agg [(.sl 900 0 R.length : A)])) [(.o 1, some (.o ⟨97, 3, true, [(.slv b.length 1 (ysl b) : A), aI ((cz.i : Nat) : Int), aI cz.h]⟩)), (.o 900, some (.o ⟨3, 1, true, pl (isl R)⟩))] [1] := by
 subst hR hz
 exact spec_l08Region_fn b c hb hy hi

set_option maxHeartbeats 4000000 in
set_option maxRecDepth 100000 in
theorem spec_l08Tiling_fn (b : List Nat) (c : Cu) (R : List Int) (cz : Cu) (hb : b.length ≤ 1048576) (hy : ∀ x ∈ b, x < 256) (hi : c.i ≤ b.length) (hR : (r8 b 6 c).1 = R) (hz : (r8 b 6 c).2 = cz) : FnO Try.prog 57 [.a (.ptr 1 0)] [(.o 1, some (.o ⟨97, 3, true, [(.slv b.length 1 (ysl b) : A), aI ((c.i : Nat) : Int), aI c.h]⟩))] (V.tup [.agg [(.sl 900 0 R.length : A)], .a (.slv ((gLd (ltR R) (cuX b cz (ltR R).length)).length) 3 (dsl (gLd (ltR R) (cuX b cz (ltR R).length))))]) [(.o 1, some (.o ⟨97, 3, true, [(.slv b.length 1 (ysl b) : A), aI (((cuN b cz (ltR R).length).i : Nat) : Int), aI ((cuN b cz (ltR R).length).h)]⟩)), (.o 900, some (.o ⟨3, 1, true, pl (isl R)⟩))] [1] := by
 have hT := lt_r8c hR
 have h8 := (regOk_true hT.ok).1
 have hlen := hT.len
 have hpos := hT.pos
 have hxl : cuX b cz (ltR R).length < (ltR R).length := cuX_lt (by omega)
 have hzi : cz.i ≤ b.length := hz ▸ r8_i 6 c hi
 refine fn_introO (N := 18) Try.func57 rfl (by kernel_rfl) rfl (Nat.le_of_ble_eq_true rfl) rfl rfl (by kernel_rfl) (by kernel_rfl) ⟨ocs (by kernel_rfl), trivial⟩ [2, 4, 7, 9, 14, 15, 18, 19, 20, 21] (retO2 rfl) (fun W own kp im0 => ?_)
 show Wp _ _ _ [kP 0 1 0, kO 1 97 3 true [(.slv b.length 1 (ysl b) : A), aI ((c.i : Nat) : Int), aI c.h], kF 2, kF 4, kF 7, kF 9, kF 14, kF 15, kF 18, kF 19, kF 20, kF 21]
 refine sq (rg ?_)
 refine z ?_ (h := fun ν => acts_alloc' (h := 2) (cap := 1) (s := 1) (cells := [(.val (.slice none 0 0) : A)]) ν qP9_zi_26 rfl rfl (by decide))
 refine zk (nl (sq (rg (zm ?_))))
 refine z ?_ (h := fun ν => acts_callO (d := 7) (f := 42) (os := [(.o 1, some (.o ⟨97, 3, true, [(.slv b.length 1 (ysl b) : A), aI ((c.i : Nat) : Int), aI c.h]⟩))]) (os' := [(.o 1, some (.o ⟨97, 3, true, [(.slv b.length 1 (ysl b) : A), aI ((cz.i : Nat) : Int), aI cz.h]⟩)), (.o 4, some (.o ⟨3, 1, true, pl (isl R)⟩))]) (r := V.b (.agg [(.sl 4 0 R.length : A)])) (bs := [.a (.ptr 1 0)]) (keep := [1]) (new := [4]) (dead := []) ν (FnO.ren' (l08Region_R b c R cz (by first | exact hR | exact hz | omega | assumption) (by first | exact hR | exact hz | omega | assumption) (by first | exact hR | exact hz | omega | assumption) (by first | exact hR | exact hz | omega | assumption) (by first | exact hR | exact hz | omega | assumption)) (subst1 [(900, 4)]) rfl rfl (by kernel_rfl) (by kernel_rfl) ⟨ocs (by kernel_rfl), oc_pl (fun _ => rfl), trivial⟩ (by kernel_rfl) rfl (by simp only [renS, Ob.ren, pl_ren, rws_ren_doms, rws_ren_ints, rws_ren_cels, rwI_ren, rwD_ren]; first | done | rfl) (by simp only [renS, Ob.ren, pl_ren, rws_ren_doms, rws_ren_ints, rws_ren_cels, rwI_ren, rwD_ren]; first | done | rfl) rfl rfl) (by kernel_rfl) ⟨ocs (by kernel_rfl), oc_pl (fun _ => rfl), trivial⟩ (by kernel_rfl) (ArgOs.cons (ArgO.slot 6 (.a (.ptr 1 0))) (ArgOs.nil)))
 refine z ?_ (h := fun ν => acts_alloc' (h := 7) (cap := 1) (s := 1) (cells := [(.val (.slice none 0 0) : A)]) ν qP9_zi_26 rfl rfl (by decide))
 refine z ?_ (h := fun _ => acts_store (cells := [(.sl 4 0 R.length : A)]) qP9_ti_26 xt (by exact rfl) (by decide) (by exact ob1 rfl) (by exact Nat.le_of_ble_eq_true rfl) (by exact rfl))
 refine nl (sq (rg ?_))
 refine z ?_ (h := fun ν => acts_load_owns (xs := [(.sl 4 0 R.length : A)]) ν qP9_ti_26 rfl (by decide) rfl)
 refine z ?_ (h := fun ν => acts_callO (d := 9) (f := 99) (os := [(.o 4, some (.o ⟨3, 1, true, pl (isl R)⟩))]) (os' := [(.o 4, some (.o ⟨3, 1, true, pl (isl R)⟩))]) (r := V.b (.a (.slvv 3 (vwD (ltR R))))) (bs := [.agg [(.sl 4 0 R.length : A)]]) (keep := [4]) (new := []) (dead := []) ν (FnO.ren' (spec_ListTilings_fn R (by first | omega | assumption)) (subst1 [(800, 4)]) rfl rfl (by kernel_rfl) (by kernel_rfl) ⟨oc_pl (fun _ => rfl), trivial⟩ (by kernel_rfl) rfl (by simp only [renS, Ob.ren, pl_ren, rws_ren_doms, rws_ren_ints, rws_ren_cels, rwI_ren, rwD_ren]; first | done | rfl) (by simp only [renS, Ob.ren, pl_ren, rws_ren_doms, rws_ren_ints, rws_ren_cels, rwI_ren, rwD_ren]; first | done | rfl) rfl rfl) (by kernel_rfl) ⟨oc_pl (fun _ => rfl), trivial⟩ (by kernel_rfl) (ArgOs.cons (ArgO.slot 8 (.agg [(.sl 4 0 R.length : A)])) (ArgOs.nil)))
 refine za (nl (sq (wp_dr ?_)))
 refine zd ?_ (h := fun ν => acts_load_owns (xs := [(.sl 4 0 R.length : A)]) ν qP9_ti_26 rfl (by decide) rfl)
 refine zdm (zdm (zdm ?_))
 refine zd ?_ (h := fun ν => lnD ν qP9_un_28)
 refine zd ?_ (h := fun ν => acts_callO (d := 15) (f := 87) (os := [(.o 1, some (.o ⟨97, 3, true, [(.slv b.length 1 (ysl b) : A), aI ((cz.i : Nat) : Int), aI cz.h]⟩))]) (os' := [(.o 1, some (.o ⟨97, 3, true, [(.slv b.length 1 (ysl b) : A), aI (((cuN b cz ((ltR R).length)).i : Nat) : Int), aI ((cuN b cz ((ltR R).length)).h)]⟩))]) (r := V.v (.int .i64 (((cuX b cz ((ltR R).length)) : Nat) : Int))) (bs := [.a (.ptr 1 0), .a (.val (.int .i64 (((ltR R).length : Nat) : Int)))]) (keep := [1]) (new := []) (dead := []) ν ((spec_l01Below_fn b cz ((ltR R).length) (by first | omega | assumption) (by first | omega | assumption) (by first | omega | assumption) (by first | omega | assumption) (by first | omega | assumption))) (by kernel_rfl) ⟨ocs (by kernel_rfl), trivial⟩ (by kernel_rfl) (ArgOs.cons (ArgO.slot 12 (.a (.ptr 1 0))) (ArgOs.cons ((ArgO.v vt)) (ArgOs.nil))))
 refine zd ?_ (h := fun ν => xvv ν qP9_un_28 qP9_sz_30 vt (hlt := (by simp only [vwI_len, vwD_len]; first | omega | assumption)))
 refine zd ?_ (h := fun ν => lvD ν qP9_ti_30 (by first | omega | assumption))
 refine zd ?_ (h := fun _ => acts_store (cells := [(.sl 4 0 R.length : A)]) qP9_ti_26 xt (by exact rfl) (by decide) (by exact ob1 rfl) (by exact Nat.le_of_ble_eq_true rfl) (by exact rfl))
 refine zd ?_ (h := fun ν => gt ν)
 refine dw_nil (wp_ret' ?_)
 exact ⟨[kP 2 2 0, kV 3 (V.b (.a (.slv ((gLd (ltR R) (cuX b cz ((ltR R).length))).length) 3 (dsl (gLd (ltR R) (cuX b cz ((ltR R).length))))))), kO 1 97 3 true [(.slv b.length 1 (ysl b) : A), aI (((cuN b cz ((ltR R).length)).i : Nat) : Int), aI ((cuN b cz ((ltR R).length)).h)], kO 2 26 1 true [(.sl 900 0 R.length : A)], kO 900 3 1 true (pl (isl R)), kF 4, kF 7, kF 9, kF 14, kF 15, kF 18, kF 19, kF 20, kF 21], wkf (subst1 [(900, 4)]) (wS <| wS <| wX <| wX <| wP <| by (iterate 9 refine wF ?_); exact wN), ⟨obj_eq (c := [(.slv b.length 1 (ysl b) : A), aI (((cuN b cz ((ltR R).length)).i : Nat) : Int), aI ((cuN b cz ((ltR R).length)).h)]) (by kernel_rfl) (by first | rfl | (simp_all; done)), by kernel_rfl, trivial⟩, ⟨vo_cells (h := 2) ⟨26, 1, true, [(.sl 900 0 R.length : A)]⟩ (by kernel_rfl) (by kernel_rfl) qP9_ti_26 (Nat.le_of_ble_eq_true rfl) rfl, vo_eq 3 (.a (.slv ((gLd (ltR R) (cuX b cz ((ltR R).length))).length) 3 (dsl (gLd (ltR R) (cuX b cz ((ltR R).length)))))) (.a (.slv ((gLd (ltR R) (cuX b cz (ltR R).length)).length) 3 (dsl (gLd (ltR R) (cuX b cz (ltR R).length))))) (by kernel_rfl) (slvD_eq (by first | rfl | (simp_all; done)))⟩⟩

set_option maxHeartbeats 4000000 in
set_option maxRecDepth 100000 in
theorem spec_DrawTiling_fn (b : List Nat) (R : List Int) (cz : Cu) (hb : b.length ≤ 1048576) (hy : ∀ x ∈ b, x < 256) (hR : (r8 b 6 (cu0 b)).1 = R) (hz : (r8 b 6 (cu0 b)).2 = cz) : FnO Try.prog 16 [.a (.slv b.length 1 (ysl b))] [] (V.tup [.agg [(.sl 900 0 R.length : A)], .a (.slv ((gLd (ltR R) (cuX b cz (ltR R).length)).length) 3 (dsl (gLd (ltR R) (cuX b cz (ltR R).length))))]) [(.o 900, some (.o ⟨3, 1, true, pl (isl R)⟩))] [] := by
 refine fn_introO (N := 14) Try.func16 rfl (by kernel_rfl) rfl (Nat.le_of_ble_eq_true rfl) rfl rfl (by kernel_rfl) (by kernel_rfl) trivial [2, 4, 8, 9, 14, 15, 16, 17] (retO2 rfl) (fun W own kp im0 => ?_)
 show Wp _ _ _ [kV 0 (V.b (.a (.slv b.length 1 (ysl b)))), kF 2, kF 4, kF 8, kF 9, kF 14, kF 15, kF 16, kF 17]
 refine sq (rg ?_)
 refine z ?_ (h := fun ν => acts_alloc' (h := 2) (cap := 1) (s := 1) (cells := [(.val (.slice none 0 0) : A)]) ν qP9_zi_26 rfl rfl (by decide))
 refine zk (nl (sq (rg (zm ?_))))
 refine z ?_ (h := fun ν => acts_callO (d := 8) (f := 43) (os := []) (os' := [(.o 4, some (.o ⟨97, 3, true, [(.slv b.length 1 (ysl b) : A), aI (((cu0 b).i : Nat) : Int), aI ((cu0 b).h)]⟩))]) (r := V.p 4 0) (bs := [.a (.slv b.length 1 (ysl b))]) (keep := []) (new := [4]) (dead := []) ν (FnO.ren' (spec_l01New_fn b (by first | omega | assumption | exact (Nat.zero_le _ : 0 ≤ _)) (by first | omega | assumption | exact (Nat.zero_le _ : 0 ≤ _))) (subst1 [(900, 4)]) rfl rfl (by kernel_rfl) (by kernel_rfl) ⟨ocs (by kernel_rfl), trivial⟩ (by kernel_rfl) rfl (by simp only [renS, Ob.ren, pl_ren, rws_ren_doms, rws_ren_ints, rws_ren_cels, rwI_ren, rwD_ren]; first | done | rfl) (by simp only [renS, Ob.ren, pl_ren, rws_ren_doms, rws_ren_ints, rws_ren_cels, rwI_ren, rwD_ren]; first | done | rfl) rfl rfl) (by kernel_rfl) ⟨ocs (by kernel_rfl), trivial⟩ (by kernel_rfl) (ArgOs.cons (ArgO.slot 7 (.a (.slv b.length 1 (ysl b)))) (ArgOs.nil)))
 refine z ?_ (h := fun ν => acts_callO (d := 9) (f := 57) (os := [(.o 4, some (.o ⟨97, 3, true, [(.slv b.length 1 (ysl b) : A), aI (((cu0 b).i : Nat) : Int), aI ((cu0 b).h)]⟩))]) (os' := [(.o 4, some (.o ⟨97, 3, true, [(.slv b.length 1 (ysl b) : A), aI (((cuN b cz (ltR R).length).i : Nat) : Int), aI ((cuN b cz (ltR R).length).h)]⟩)), (.o 8, some (.o ⟨3, 1, true, pl (isl R)⟩))]) (r := V.tup [.agg [(.sl 8 0 R.length : A)], .a (.slv ((gLd (ltR R) (cuX b cz (ltR R).length)).length) 3 (dsl (gLd (ltR R) (cuX b cz (ltR R).length))))]) (bs := [.a (.ptr 4 0)]) (keep := [4]) (new := [8]) (dead := []) ν (FnO.ren' (spec_l08Tiling_fn b (cu0 b) R cz (by first | exact hR | exact hz | omega | assumption | exact (Nat.zero_le _ : 0 ≤ _)) (by first | exact hR | exact hz | omega | assumption | exact (Nat.zero_le _ : 0 ≤ _)) (by first | exact hR | exact hz | omega | assumption | exact (Nat.zero_le _ : 0 ≤ _)) (by first | exact hR | exact hz | omega | assumption | exact (Nat.zero_le _ : 0 ≤ _)) (by first | exact hR | exact hz | omega | assumption | exact (Nat.zero_le _ : 0 ≤ _))) (subst1 [(1, 4), (900, 8)]) rfl rfl (by kernel_rfl) (by kernel_rfl) ⟨ocs (by kernel_rfl), oc_pl (fun _ => rfl), trivial⟩ (by kernel_rfl) rfl (by simp only [renS, Ob.ren, pl_ren, rws_ren_doms, rws_ren_ints, rws_ren_cels, rwI_ren, rwD_ren]; first | done | rfl) (by simp only [renS, Ob.ren, pl_ren, rws_ren_doms, rws_ren_ints, rws_ren_cels, rwI_ren, rwD_ren]; first | done | rfl) rfl rfl) (by kernel_rfl) ⟨ocs (by kernel_rfl), oc_pl (fun _ => rfl), trivial⟩ (by kernel_rfl) (ArgOs.cons (ArgO.slot 8 (.a (.ptr 4 0))) (ArgOs.nil)))
 refine zm ?_
 refine z ?_ (h := fun ν => acts_extract ν (by exact rfl))
 refine z ?_ (h := fun ν => acts_extract ν (by exact rfl))
 refine z ?_ (h := fun ν => acts_alloc' (h := 9) (cap := 1) (s := 1) (cells := [(.val (.slice none 0 0) : A)]) ν qP9_zi_26 rfl rfl (by decide))
 refine z ?_ (h := fun _ => acts_store (cells := [(.sl 8 0 R.length : A)]) qP9_ti_26 xt (by exact rfl) (by decide) (by exact ob1 rfl) (by exact Nat.le_of_ble_eq_true rfl) (by exact rfl))
 refine za (nl (sq (rg ?_)))
 refine z ?_ (h := fun ν => acts_load_owns (xs := [(.sl 8 0 R.length : A)]) ν qP9_ti_26 rfl (by decide) rfl)
 refine zm ?_
 refine z ?_ (h := fun _ => acts_store (cells := [(.sl 8 0 R.length : A)]) qP9_ti_26 xt (by exact rfl) (by decide) (by exact ob1 rfl) (by exact Nat.le_of_ble_eq_true rfl) (by exact rfl))
 refine za (nl (wp_ret' ?_))
 exact ⟨[kP 2 2 0, kV 3 (V.b (.a (.slv ((gLd (ltR R) (cuX b cz (ltR R).length)).length) 3 (dsl (gLd (ltR R) (cuX b cz (ltR R).length)))))), kO 2 26 1 true [(.sl 900 0 R.length : A)], kO 900 3 1 true (pl (isl R)), kF 4, kF 8, kF 9, kF 14, kF 15, kF 16, kF 17], wkf (subst1 [(900, 8)]) (wS <| wS <| wX <| wP <| wF <| wF <| wF <| wF <| wF <| wF <| wF <| wN), ⟨by kernel_rfl, trivial⟩, ⟨vo_cells (h := 2) ⟨26, 1, true, [(.sl 900 0 R.length : A)]⟩ (by kernel_rfl) (by kernel_rfl) qP9_ti_26 (Nat.le_of_ble_eq_true rfl) rfl, VO.tmp 3 (.a (.slv ((gLd (ltR R) (cuX b cz (ltR R).length)).length) 3 (dsl (gLd (ltR R) (cuX b cz (ltR R).length))))) (by kernel_rfl)⟩⟩

set_option maxHeartbeats 4000000 in
set_option maxRecDepth 100000 in
theorem DrawTiling_R (b : List Nat) (R : List Int) (cz : Cu) (P : List Dom) (hb : b.length ≤ 1048576) (hy : ∀ x ∈ b, x < 256) (hR : (r8 b 6 (cu0 b)).1 = R) (hz : (r8 b 6 (cu0 b)).2 = cz) (hP : (gLd (ltR R) (cuX b cz (ltR R).length)) = P) : FnO Try.prog 16 [.a (.slv b.length 1 (ysl b))] [] (V.tup [.agg [(.sl 900 0 R.length : A)], .a (.slv P.length 3 (dsl P))]) [(.o 900, some (.o ⟨3, 1, true, pl (isl R)⟩))] [] := by
 subst hP
 exact spec_DrawTiling_fn b R cz hb hy hR hz

set_option maxHeartbeats 4000000 in
set_option maxRecDepth 100000 in
theorem laws_FnFlips_R (b : List Nat) (R : List Int) (cz : Cu) (P : List Dom) (hbb : b.length ≤ 9223372036854775807) (hy : ∀ x ∈ b, x < 256) (hR : (r8 b 6 (cu0 b)).1 = R) (hz : (r8 b 6 (cu0 b)).2 = cz) (hP : (gLd (ltR R) (cuX b cz (ltR R).length)) = P) : Fn Try.prog 4 [.a (.slv b.length 1 (ysl b))] [.val (.bool true)] := by
 have hT := LT.r8 hR
 have h8 := (regOk_true hT.ok).1
 have hlen := hT.len
 have hpos := hT.pos
 have hxl : cuX b cz (ltR R).length < (ltR R).length := cuX_lt (by omega)
 have hts : TilS (regSet R) P := hP ▸ hT.ts _ hxl
 have hPl : P.length ≤ 33 := hP ▸ hT.row _ hxl
 have hfl := flips_len9 P
 have hdp := dwn_le P
 have hab := atB_lt hy 0
 have hab1 := atB_lt hy 1
 refine fn_intro (N := 127) Try.func4 rfl (by kernel_rfl) rfl (Nat.le_of_ble_eq_true rfl) [3, 6, 15, 18, 22, 24, 25, 27, 30, 34, 37, 40, 44, 46, 51, 52, 57, 59, 66, 72, 76, 78, 84, 85, 98, 103, 108, 113, 125] (ret1 rfl) (fun W => ?_)
 show Wp _ _ _ [kV 0 (V.b (.a (.slv b.length 1 (ysl b)))), kF 3, kF 6, kF 15, kF 18, kF 22, kF 24, kF 25, kF 27, kF 30, kF 34, kF 37, kF 40, kF 44, kF 46, kF 51, kF 52, kF 57, kF 59, kF 66, kF 72, kF 76, kF 78, kF 84, kF 85, kF 98, kF 103, kF 108, kF 113, kF 125]
 refine sq (rg (zk (nl (sq (sq (rg (zm ?_)))))))
 refine z ?_ (h := fun ν => acts_call1 ν (laws_big_fn b ) (ac (ArgV.slv _ _ _ _) an) rv)
 refine nl ?_
 refine wi (b := (decide (1048576 < ((b.length : Nat) : Int)))) (fun c1 => ?_) (fun c1 => ?_)
 ·skip
  refine sq (rg (zk (nl (wp_ret' ?_))))
  exact VRes.tmp _ _ _ (by exact rfl) (BRes.val _)
 ·skip
  have hb : b.length ≤ 1048576 := by have := of_decide_eq_false c1; omega
  refine sk (sq (rg (zm ?_)))
  refine z ?_ (h := fun ν => acts_callO (d := 18) (f := 16) (os := []) (os' := [(.o 3, some (.o ⟨3, 1, true, pl (isl R)⟩))]) (r := V.tup [.agg [(.sl 3 0 R.length : A)], .a (.slv P.length 3 (dsl P))]) (bs := [.a (.slv b.length 1 (ysl b))]) (keep := []) (new := [3]) (dead := []) ν (FnO.ren' (DrawTiling_R b R cz P (by first | exact hR | exact hz | exact hP | omega | assumption) (by first | exact hR | exact hz | exact hP | omega | assumption) (by first | exact hR | exact hz | exact hP | omega | assumption) (by first | exact hR | exact hz | exact hP | omega | assumption) (by first | exact hR | exact hz | exact hP | omega | assumption)) (subst1 [(900, 3)]) rfl rfl (by kernel_rfl) (by kernel_rfl) ⟨oc_pl (fun _ => rfl), trivial⟩ (by kernel_rfl) rfl (by simp only [renS, Ob.ren, pl_ren, rws_ren_doms, rws_ren_ints, rws_ren_cels, rwI_ren, rwD_ren]; first | done | rfl) (by simp only [renS, Ob.ren, pl_ren, rws_ren_doms, rws_ren_ints, rws_ren_cels, rwI_ren, rwD_ren]; first | done | rfl) rfl rfl) (by kernel_rfl) ⟨oc_pl (fun _ => rfl), trivial⟩ (by kernel_rfl) (ArgOs.cons (ArgO.slot 17 (.a (.slv b.length 1 (ysl b)))) (ArgOs.nil)))
  refine zm ?_
  refine z ?_ (h := fun ν => acts_extract ν (by exact rfl))
  refine z ?_ (h := fun ν => acts_extract ν (by exact rfl))
  refine z ?_ (h := fun ν => acts_alloc' (h := 6) (cap := 1) (s := 1) (cells := [(.val (.slice none 0 0) : A)]) ν qP9_zi_26 rfl rfl (by decide))
  refine z ?_ (h := fun _ => acts_store (cells := [(.sl 3 0 R.length : A)]) qP9_ti_26 xt (by exact rfl) (by decide) (by exact ob1 rfl) (by exact Nat.le_of_ble_eq_true rfl) (by exact rfl))
  refine za (nl (sq (rg (zm ?_))))
  refine z ?_ (h := fun ν => acts_call1 ν (spec_FlipsOf_fn P (by first | omega | assumption | exact Nat.le_of_ble_eq_true rfl | exact hT.ok | (rw [hF.same]; omega) | (rw [hF.two]; omega) | (rw [hq4]; decide))) (ac (ArgV.slv _ _ _ _) an) (ResV.row _ _ _ _ 22))
  refine za (nl (sq (sq (rg (zm ?_)))))
  refine z ?_ (h := fun ν => acts_call1 ν (impl_FlipsOf_fn P (by first | omega | assumption | exact Nat.le_of_ble_eq_true rfl | exact hT.ok | (rw [hF.same]; omega) | (rw [hF.two]; omega) | (rw [hq4]; decide))) (ac (ArgV.slv _ _ _ _) an) (ResV.row _ _ _ _ 24))
  refine z ?_ (h := fun ν => lnS ν qP9_un_42)
  refine zm ?_
  refine z ?_ (h := fun ν => lnS ν qP9_un_42)
  refine z ?_ (h := fun ν => acts_bin ν vt vt (r_neq rfl))
  refine nl ?_
  refine wi (fun c2 => ?_) (fun c2 => ?_)
  ·skip
   have c2P := of_decide_eq_true c2
   refine sq (rg (zk (nl (wp_ret' ?_))))
   exact VRes.tmp _ _ _ (by exact rfl) (bval (congrArg Value.bool (by first | rfl | (exfalso; omega) | (exfalso; exact absurd (hcn.symm.trans ‹canB P _ _ = true›) (by decide)) | (simp [hcn, dwn_one]; done) | (simp [hF.can, hF.back, hF.same, hF.ne, hF.two, hF.ok, hF.til, hsq]; done) | (simp_all; done))))
  ·skip
   have c2P := of_decide_eq_false c2
   refine sk (sq (sq (rg (zm ?_))))
   refine z ?_ (h := fun ν => lnS ν qP9_un_42)
   refine z ?_ (h := fun ν => acts_bin ν vt vc (r_eql rfl))
   refine nl ?_
   refine wi (fun c3 => ?_) (fun c3 => ?_)
   ·skip
    have c3P := of_decide_eq_true c3
    have hcn := flips_no9 (P := P) (by omega) (Nat.mod_lt (atB b 0) (y := 8) (by decide)) (Nat.mod_lt (atB b 1) (y := 8) (by decide))
    refine sq ?_
    rcases Bool.eq_false_or_eq_true (decide ((((dwn P) : Nat) : Int) = (((dwn P) : Nat) : Int))) with c4 | c4
    ·skip
     have c4P := of_decide_eq_true c4
     refine rg (zm (zm ?_))
     refine z ?_ (h := fun ν => acts_call1 ν (laws_at_fn b 0 (by first | omega | assumption | exact Nat.le_of_ble_eq_true rfl | exact hT.ok | (rw [hF.same]; omega) | (rw [hF.two]; omega) | (rw [hq4]; decide)) (by first | omega | assumption | exact Nat.le_of_ble_eq_true rfl | exact hT.ok | (rw [hF.same]; omega) | (rw [hF.two]; omega) | (rw [hq4]; decide)) (by first | omega | assumption | exact Nat.le_of_ble_eq_true rfl | exact hT.ok | (rw [hF.same]; omega) | (rw [hF.two]; omega) | (rw [hq4]; decide))) (ac (ArgV.slv _ _ _ _) (ac (ArgV.v vc) an)) rv)
     refine z ?_ (h := fun ν => acts_bin ν vt vc (r_rem (c := ((((atB b 0) % 8) : Nat) : Int)) (by decide) (remN (a := (((atB b 0) : Nat) : Int)) (b := (atB b 0)) (c := 8) rfl)))
     refine zm ?_
     refine z ?_ (h := fun ν => acts_call1 ν (laws_at_fn b 1 (by first | omega | assumption | exact Nat.le_of_ble_eq_true rfl | exact hT.ok | (rw [hF.same]; omega) | (rw [hF.two]; omega) | (rw [hq4]; decide)) (by first | omega | assumption | exact Nat.le_of_ble_eq_true rfl | exact hT.ok | (rw [hF.same]; omega) | (rw [hF.two]; omega) | (rw [hq4]; decide)) (by first | omega | assumption | exact Nat.le_of_ble_eq_true rfl | exact hT.ok | (rw [hF.same]; omega) | (rw [hF.two]; omega) | (rw [hq4]; decide))) (ac (ArgV.slv _ _ _ _) (ac (ArgV.v vc) an)) rv)
     refine z ?_ (h := fun ν => acts_bin ν vt vc (r_rem (c := ((((atB b 1) % 8) : Nat) : Int)) (by decide) (remN (a := (((atB b 1) : Nat) : Int)) (b := (atB b 1)) (c := 8) rfl)))
     refine z ?_ (h := fun ν => bC ν qP9_bs_46 vt vt)
     refine z ?_ (h := fun ν => acts_call1 ν (impl_CanFlip_fn P (⟨((((atB b 0) % 8) : Nat) : Int), ((((atB b 1) % 8) : Nat) : Int)⟩ : Cel) (by first | omega | assumption | exact Nat.le_of_ble_eq_true rfl | exact hT.ok | (rw [hF.same]; omega) | (rw [hF.two]; omega) | (rw [hq4]; decide))) (ac (ArgV.slv _ _ _ _) (ac (ArgV.va va) an)) (resval (congrArg Value.bool hcn)))
     refine z ?_ (h := fun ν => acts_un ν vt (r_not (c := true) rfl))
     refine zm ?_
     refine zg ?_ (h := fun ν => step_on rfl rfl (mt ν))
     refine zg ?_ (h := fun ν => step_on rfl rfl (acts_call1 ν (impl_CountDown_fn P (by first | omega | assumption | exact Nat.le_of_ble_eq_true rfl | exact hT.ok | (rw [hF.same]; omega) | (rw [hF.two]; omega) | (rw [hq4]; decide))) (ac (ArgV.slv _ _ _ _) an) rv))
     refine zg ?_ (h := fun ν => step_on rfl rfl (mt ν))
     refine zg ?_ (h := fun ν => step_on rfl rfl (acts_call1 ν (spec_CountDown_fn P (by first | omega | assumption | exact Nat.le_of_ble_eq_true rfl | exact hT.ok | (rw [hF.same]; omega) | (rw [hF.two]; omega) | (rw [hq4]; decide))) (ac (ArgV.slv _ _ _ _) an) rv))
     refine zg ?_ (h := fun ν => step_on rfl rfl (acts_bin ν vt vt (r_eql (c := true) c4)))
     refine z ?_ (h := fun ν => acts_pick_t ν vt xt)
     refine zm ?_
     refine zg ?_ (h := fun ν => step_on rfl rfl (acts_build (cells := [vI 0, vI 0, .bool true]) ν (.cons vc OpVs.nil) rfl))
     refine zg ?_ (h := fun ν => step_on rfl rfl (acts_buildSlice' (h := 51) (xs := dsl ([(⟨0, 0, true⟩ : Dom)] : List Dom)) ν qP9_un_30 qP9_zi_37 (.cons va OpVs.nil) (by decide) (by decide) (by kernel_rfl) rfl))
     refine zg ?_ (h := fun ν => step_on rfl rfl (acts_call1 ν (impl_CountDown_fn [(⟨0, 0, true⟩ : Dom)] (by first | omega | assumption | exact Nat.le_of_ble_eq_true rfl | exact hT.ok | (rw [hF.same]; omega) | (rw [hF.two]; omega) | (rw [hq4]; decide))) (ac (argv_own (by first | exact dsl_len _ | (simp [isl_len, bsl_len, dsl_len, csl_len]; done) | (simp [isl_len, bsl_len, dsl_len, csl_len]; omega))) an) rv))
     refine zg ?_ (h := fun ν => step_on rfl rfl (acts_bin ν vt vc (r_eql rfl)))
     refine z ?_ (h := fun ν => acts_pick_t ν vt xt)
     refine za (nl (wp_ret' ?_))
     exact VRes.tmp _ _ _ (by exact rfl) (bval (congrArg Value.bool (by first | rfl | (exfalso; omega) | (exfalso; exact absurd (hcn.symm.trans ‹canB P _ _ = true›) (by decide)) | (simp [hcn, dwn_one]; done) | (simp [hF.can, hF.back, hF.same, hF.ne, hF.two, hF.ok, hF.til, hsq]; done) | (simp_all; done))))
    ·skip
     have c4P := of_decide_eq_false c4
     refine rg (zm (zm ?_))
     refine z ?_ (h := fun ν => acts_call1 ν (laws_at_fn b 0 (by first | omega | assumption | exact Nat.le_of_ble_eq_true rfl | exact hT.ok | (rw [hF.same]; omega) | (rw [hF.two]; omega) | (rw [hq4]; decide)) (by first | omega | assumption | exact Nat.le_of_ble_eq_true rfl | exact hT.ok | (rw [hF.same]; omega) | (rw [hF.two]; omega) | (rw [hq4]; decide)) (by first | omega | assumption | exact Nat.le_of_ble_eq_true rfl | exact hT.ok | (rw [hF.same]; omega) | (rw [hF.two]; omega) | (rw [hq4]; decide))) (ac (ArgV.slv _ _ _ _) (ac (ArgV.v vc) an)) rv)
     refine z ?_ (h := fun ν => acts_bin ν vt vc (r_rem (c := ((((atB b 0) % 8) : Nat) : Int)) (by decide) (remN (a := (((atB b 0) : Nat) : Int)) (b := (atB b 0)) (c := 8) rfl)))
     refine zm ?_
     refine z ?_ (h := fun ν => acts_call1 ν (laws_at_fn b 1 (by first | omega | assumption | exact Nat.le_of_ble_eq_true rfl | exact hT.ok | (rw [hF.same]; omega) | (rw [hF.two]; omega) | (rw [hq4]; decide)) (by first | omega | assumption | exact Nat.le_of_ble_eq_true rfl | exact hT.ok | (rw [hF.same]; omega) | (rw [hF.two]; omega) | (rw [hq4]; decide)) (by first | omega | assumption | exact Nat.le_of_ble_eq_true rfl | exact hT.ok | (rw [hF.same]; omega) | (rw [hF.two]; omega) | (rw [hq4]; decide))) (ac (ArgV.slv _ _ _ _) (ac (ArgV.v vc) an)) rv)
     refine z ?_ (h := fun ν => acts_bin ν vt vc (r_rem (c := ((((atB b 1) % 8) : Nat) : Int)) (by decide) (remN (a := (((atB b 1) : Nat) : Int)) (b := (atB b 1)) (c := 8) rfl)))
     refine z ?_ (h := fun ν => bC ν qP9_bs_46 vt vt)
     refine z ?_ (h := fun ν => acts_call1 ν (impl_CanFlip_fn P (⟨((((atB b 0) % 8) : Nat) : Int), ((((atB b 1) % 8) : Nat) : Int)⟩ : Cel) (by first | omega | assumption | exact Nat.le_of_ble_eq_true rfl | exact hT.ok | (rw [hF.same]; omega) | (rw [hF.two]; omega) | (rw [hq4]; decide))) (ac (ArgV.slv _ _ _ _) (ac (ArgV.va va) an)) (resval (congrArg Value.bool hcn)))
     refine z ?_ (h := fun ν => acts_un ν vt (r_not (c := true) rfl))
     refine zm ?_
     refine zg ?_ (h := fun ν => step_on rfl rfl (mt ν))
     refine zg ?_ (h := fun ν => step_on rfl rfl (acts_call1 ν (impl_CountDown_fn P (by first | omega | assumption | exact Nat.le_of_ble_eq_true rfl | exact hT.ok | (rw [hF.same]; omega) | (rw [hF.two]; omega) | (rw [hq4]; decide))) (ac (ArgV.slv _ _ _ _) an) rv))
     refine zg ?_ (h := fun ν => step_on rfl rfl (mt ν))
     refine zg ?_ (h := fun ν => step_on rfl rfl (acts_call1 ν (spec_CountDown_fn P (by first | omega | assumption | exact Nat.le_of_ble_eq_true rfl | exact hT.ok | (rw [hF.same]; omega) | (rw [hF.two]; omega) | (rw [hq4]; decide))) (ac (ArgV.slv _ _ _ _) an) rv))
     refine zg ?_ (h := fun ν => step_on rfl rfl (acts_bin ν vt vt (r_eql (c := false) c4)))
     refine z ?_ (h := fun ν => acts_pick_t ν vt xt)
     refine zm (zo (zo (zo (zo ?_))))
     refine z ?_ (h := fun ν => acts_pick_f ν vt xc)
     refine za (nl (wp_ret' ?_))
     exact VRes.tmp _ _ _ (by exact rfl) (bval (congrArg Value.bool (by first | rfl | (exfalso; omega) | (exfalso; exact absurd (hcn.symm.trans ‹canB P _ _ = true›) (by decide)) | (simp [hcn, dwn_one]; done) | (simp [hF.can, hF.back, hF.same, hF.ne, hF.two, hF.ok, hF.til, hsq]; done) | (simp_all; done))))
   ·skip
    have c3P := of_decide_eq_false c3
    have hkf : atB b 0 % (flipsOf P).length < (flipsOf P).length := Nat.mod_lt _ (by omega)
    have hF := FL.of hT.ok hts hkf
    have hQl := flipAt_len P (gC (flipsOf P) (atB b 0 % (flipsOf P).length))
    have hdq := dwn_le (flipAt P (gC (flipsOf P) (atB b 0 % (flipsOf P).length)))
    have hsq := dn_sq hF.dn
    have hq4 := of_decide_eq_true hsq
    refine sk (sq (rg (zm (zm ?_))))
    refine z ?_ (h := fun ν => acts_call1 ν (laws_at_fn b 0 (by first | omega | assumption | exact Nat.le_of_ble_eq_true rfl | exact hT.ok | (rw [hF.same]; omega) | (rw [hF.two]; omega) | (rw [hq4]; decide)) (by first | omega | assumption | exact Nat.le_of_ble_eq_true rfl | exact hT.ok | (rw [hF.same]; omega) | (rw [hF.two]; omega) | (rw [hq4]; decide)) (by first | omega | assumption | exact Nat.le_of_ble_eq_true rfl | exact hT.ok | (rw [hF.same]; omega) | (rw [hF.two]; omega) | (rw [hq4]; decide))) (ac (ArgV.slv _ _ _ _) (ac (ArgV.v vc) an)) rv)
    refine zm ?_
    refine z ?_ (h := fun ν => lnS ν qP9_un_42)
    refine z ?_ (h := fun ν => acts_bin ν vt vt (r_rem (c := ((((atB b 0) % (flipsOf P).length) : Nat) : Int)) (by first | omega | assumption | exact Nat.le_of_ble_eq_true rfl | exact hT.ok | (rw [hF.same]; omega) | (rw [hF.two]; omega) | (rw [hq4]; decide)) (by rw [remI (by first | omega | assumption | exact Nat.le_of_ble_eq_true rfl | exact hT.ok | (rw [hF.same]; omega) | (rw [hF.two]; omega) | (rw [hq4]; decide))]; first | done | (push_cast; first | done | rfl))))
    refine z ?_ (h := fun ν => ix0 ν qP9_un_42 qP9_sz_46 vt (hlt := (by first | omega | assumption | exact Nat.le_of_ble_eq_true rfl | exact hT.ok | (rw [hF.same]; omega) | (rw [hF.two]; omega) | (rw [hq4]; decide))))
    refine z ?_ (h := fun ν => lC ν qP9_ti_46 (by first | omega | assumption | exact Nat.le_of_ble_eq_true rfl | exact hT.ok | (rw [hF.same]; omega) | (rw [hF.two]; omega) | (rw [hq4]; decide)))
    refine z ?_ (h := fun ν => acts_alloc' (h := 15) (cap := 1) (s := 2) (cells := [aI 0, aI 0]) ν qP9_zi_46 rfl rfl (by decide))
    refine z ?_ (h := fun _ => acts_store (cells := [aI ((gC (flipsOf P) ((atB b 0) % (flipsOf P).length)).x), aI ((gC (flipsOf P) ((atB b 0) % (flipsOf P).length)).y)]) qP9_ti_46 xt (by exact rfl) (by decide) (by exact ob1 rfl) (by exact Nat.le_of_ble_eq_true rfl) (by exact rfl))
    refine nl (sq (rg (zm ?_)))
    refine z ?_ (h := fun ν => acts_load_owns (xs := [vI ((gC (flipsOf P) ((atB b 0) % (flipsOf P).length)).x), vI ((gC (flipsOf P) ((atB b 0) % (flipsOf P).length)).y)].map A.val) ν qP9_ti_46 rfl (by decide) rfl)
    refine z ?_ (h := fun ν => acts_call2 ν (impl_FlipAt_fn P (gC (flipsOf P) ((atB b 0) % (flipsOf P).length)) (by first | omega | assumption | exact Nat.le_of_ble_eq_true rfl | exact hT.ok | (rw [hF.same]; omega) | (rw [hF.two]; omega) | (rw [hq4]; decide))) (ac (ArgV.slv _ _ _ _) (ac (ArgV.va va) an)) (ResV.row _ _ _ _ 66) (resval (congrArg Value.bool hF.can)))
    refine zm ?_
    refine z ?_ (h := fun ν => acts_extract ν (by exact rfl))
    refine z ?_ (h := fun ν => acts_extract ν (by exact rfl))
    refine za (za (nl (sq (rg (zm ?_)))))
    refine z ?_ (h := fun ν => acts_load_owns (xs := [vI ((gC (flipsOf P) ((atB b 0) % (flipsOf P).length)).x), vI ((gC (flipsOf P) ((atB b 0) % (flipsOf P).length)).y)].map A.val) ν qP9_ti_46 rfl (by decide) rfl)
    refine z ?_ (h := fun ν => acts_call2 ν (impl_FlipAt_fn (flipAt P (gC (flipsOf P) ((atB b 0) % (flipsOf P).length))) (gC (flipsOf P) ((atB b 0) % (flipsOf P).length)) (by first | omega | assumption | exact Nat.le_of_ble_eq_true rfl | exact hT.ok | (rw [hF.same]; omega) | (rw [hF.two]; omega) | (rw [hq4]; decide))) (ac (argv_own (by first | exact dsl_len _ | (simp [isl_len, bsl_len, dsl_len, csl_len]; done) | (simp [isl_len, bsl_len, dsl_len, csl_len]; omega))) (ac (ArgV.va va) an)) (ResV.row _ _ _ _ 72) (resval (congrArg Value.bool hF.back)))
    refine zm ?_
    refine z ?_ (h := fun ν => acts_extract ν (by exact rfl))
    refine z ?_ (h := fun ν => acts_extract ν (by exact rfl))
    refine za (za (nl (sq (rg (zm ?_)))))
    refine z ?_ (h := fun ν => acts_call1 ν (impl_CountDown_fn (flipAt P (gC (flipsOf P) ((atB b 0) % (flipsOf P).length))) (by first | omega | assumption | exact Nat.le_of_ble_eq_true rfl | exact hT.ok | (rw [hF.same]; omega) | (rw [hF.two]; omega) | (rw [hq4]; decide))) (ac (argv_own (by first | exact dsl_len _ | (simp [isl_len, bsl_len, dsl_len, csl_len]; done) | (simp [isl_len, bsl_len, dsl_len, csl_len]; omega))) an) rv)
    refine zm ?_
    refine z ?_ (h := fun ν => acts_call1 ν (impl_CountDown_fn P (by first | omega | assumption | exact Nat.le_of_ble_eq_true rfl | exact hT.ok | (rw [hF.same]; omega) | (rw [hF.two]; omega) | (rw [hq4]; decide))) (ac (ArgV.slv _ _ _ _) an) rv)
    refine z ?_ (h := fun ν => acts_bin ν vt vt (rS (by first | omega | assumption | exact Nat.le_of_ble_eq_true rfl | exact hT.ok | (rw [hF.same]; omega) | (rw [hF.two]; omega) | (rw [hq4]; decide)) (by first | omega | assumption | exact Nat.le_of_ble_eq_true rfl | exact hT.ok | (rw [hF.same]; omega) | (rw [hF.two]; omega) | (rw [hq4]; decide))))
    refine za (nl (sq (rg (zm ?_))))
    refine z ?_ (h := fun ν => acts_load_owns (xs := [vI ((gC (flipsOf P) ((atB b 0) % (flipsOf P).length)).x), vI ((gC (flipsOf P) ((atB b 0) % (flipsOf P).length)).y)].map A.val) ν qP9_ti_46 rfl (by decide) rfl)
    refine z ?_ (h := fun ν => acts_load_owns (xs := [vI ((gC (flipsOf P) ((atB b 0) % (flipsOf P).length)).x), vI ((gC (flipsOf P) ((atB b 0) % (flipsOf P).length)).y)].map A.val) ν qP9_ti_46 rfl (by decide) rfl)
    refine z ?_ (h := fun ν => acts_buildSlice' (h := 84) (xs := csl ([(gC (flipsOf P) ((atB b 0) % (flipsOf P).length)), (gC (flipsOf P) ((atB b 0) % (flipsOf P).length))] : List Cel)) ν qP9_un_42 qP9_zi_46 (.cons va (.cons va OpVs.nil)) (by decide) (by decide) (by kernel_rfl) rfl)
    refine z ?_ (h := fun ν => acts_call2 ν (impl_FlipAll_fn P [(gC (flipsOf P) ((atB b 0) % (flipsOf P).length)), (gC (flipsOf P) ((atB b 0) % (flipsOf P).length))] (by first | omega | assumption | exact Nat.le_of_ble_eq_true rfl | exact hT.ok | (rw [hF.same]; omega) | (rw [hF.two]; omega) | (rw [hq4]; decide)) (by first | omega | assumption | exact Nat.le_of_ble_eq_true rfl | exact hT.ok | (rw [hF.same]; omega) | (rw [hF.two]; omega) | (rw [hq4]; decide))) (ac (ArgV.slv _ _ _ _) (ac (argv_own (by first | exact csl_len _ | (simp [isl_len, bsl_len, dsl_len, csl_len]; done) | (simp [isl_len, bsl_len, dsl_len, csl_len]; omega))) an)) (ResV.row _ _ _ _ 85) (resval (congrArg Value.bool hF.ok)))
    refine zm ?_
    refine z ?_ (h := fun ν => acts_extract ν (by exact rfl))
    refine z ?_ (h := fun ν => acts_extract ν (by exact rfl))
    refine za (za (nl (sq (rg (zm (zm ?_))))))
    refine zg ?_ (h := fun ν => step_on rfl rfl (mt ν))
    refine z ?_ (h := fun ν => acts_pick_t ν vt xt)
    refine zm ?_
    refine zg ?_ (h := fun ν => step_on rfl rfl (mt ν))
    refine z ?_ (h := fun ν => acts_pick_t ν vt xt)
    refine zm ?_
    refine zg ?_ (h := fun ν => step_on rfl rfl (acts_load_owns (xs := [(.sl 3 0 R.length : A)]) ν qP9_ti_26 rfl (by decide) rfl))
    refine zg ?_ (h := fun ν => step_on rfl rfl (mt ν))
    refine zg ?_ (h := fun ν => step_on rfl rfl (acts_call1 ν (spec_IsTiling_fn R (flipAt P (gC (flipsOf P) ((atB b 0) % (flipsOf P).length))) (by first | omega | assumption | exact Nat.le_of_ble_eq_true rfl | exact hT.ok | (rw [hF.same]; omega) | (rw [hF.two]; omega) | (rw [hq4]; decide)) (by first | omega | assumption | exact Nat.le_of_ble_eq_true rfl | exact hT.ok | (rw [hF.same]; omega) | (rw [hF.two]; omega) | (rw [hq4]; decide))) (ac (ArgV.reg _ _ _ (s := 1) (by simp [isl]) (by first | exact List.take_of_length_le (by simp [isl]) | (simp [isl]; done))) (ac (argv_own (by first | exact dsl_len _ | (simp [isl_len, bsl_len, dsl_len, csl_len]; done) | (simp [isl_len, bsl_len, dsl_len, csl_len]; omega))) an)) (resval (congrArg Value.bool hF.til))))
    refine z ?_ (h := fun ν => acts_pick_t ν vt xt)
    refine zm ?_
    refine zg ?_ (h := fun ν => step_on rfl rfl (mt ν))
    refine zg ?_ (h := fun ν => step_on rfl rfl (mt ν))
    refine zg ?_ (h := fun ν => step_on rfl rfl (acts_call1 ν (spec_SameDominoes_fn (flipAt (flipAt P (gC (flipsOf P) ((atB b 0) % (flipsOf P).length))) (gC (flipsOf P) ((atB b 0) % (flipsOf P).length))) P (by first | omega | assumption | exact Nat.le_of_ble_eq_true rfl | exact hT.ok | (rw [hF.same]; omega) | (rw [hF.two]; omega) | (rw [hq4]; decide)) (by first | omega | assumption | exact Nat.le_of_ble_eq_true rfl | exact hT.ok | (rw [hF.same]; omega) | (rw [hF.two]; omega) | (rw [hq4]; decide))) (ac (argv_own (by first | exact dsl_len _ | (simp [isl_len, bsl_len, dsl_len, csl_len]; done) | (simp [isl_len, bsl_len, dsl_len, csl_len]; omega))) (ac (ArgV.slv _ _ _ _) an)) (resval (congrArg Value.bool (decide_eq_true hF.same)))))
    refine z ?_ (h := fun ν => acts_pick_t ν vt xt)
    refine zm ?_
    refine zg ?_ (h := fun ν => step_on rfl rfl (mt ν))
    refine zg ?_ (h := fun ν => step_on rfl rfl (mt ν))
    refine zg ?_ (h := fun ν => step_on rfl rfl (acts_call1 ν (spec_SameDominoes_fn (fAll P [(gC (flipsOf P) ((atB b 0) % (flipsOf P).length)), (gC (flipsOf P) ((atB b 0) % (flipsOf P).length))]) P (by first | omega | assumption | exact Nat.le_of_ble_eq_true rfl | exact hT.ok | (rw [hF.same]; omega) | (rw [hF.two]; omega) | (rw [hq4]; decide)) (by first | omega | assumption | exact Nat.le_of_ble_eq_true rfl | exact hT.ok | (rw [hF.same]; omega) | (rw [hF.two]; omega) | (rw [hq4]; decide))) (ac (argv_own (by first | exact dsl_len _ | (simp [isl_len, bsl_len, dsl_len, csl_len]; done) | (simp [isl_len, bsl_len, dsl_len, csl_len]; omega))) (ac (ArgV.slv _ _ _ _) an)) (resval (congrArg Value.bool (decide_eq_true hF.two)))))
    refine z ?_ (h := fun ν => acts_pick_t ν vt xt)
    refine zm ?_
    refine zg ?_ (h := fun ν => step_on rfl rfl (mt ν))
    refine zg ?_ (h := fun ν => step_on rfl rfl (mt ν))
    refine zg ?_ (h := fun ν => step_on rfl rfl (acts_call1 ν (spec_SameDominoes_fn (flipAt P (gC (flipsOf P) ((atB b 0) % (flipsOf P).length))) P (by first | omega | assumption | exact Nat.le_of_ble_eq_true rfl | exact hT.ok | (rw [hF.same]; omega) | (rw [hF.two]; omega) | (rw [hq4]; decide)) (by first | omega | assumption | exact Nat.le_of_ble_eq_true rfl | exact hT.ok | (rw [hF.same]; omega) | (rw [hF.two]; omega) | (rw [hq4]; decide))) (ac (argv_own (by first | exact dsl_len _ | (simp [isl_len, bsl_len, dsl_len, csl_len]; done) | (simp [isl_len, bsl_len, dsl_len, csl_len]; omega))) (ac (ArgV.slv _ _ _ _) an)) (resval (congrArg Value.bool (decide_eq_false hF.ne)))))
    refine zg ?_ (h := fun ν => step_on rfl rfl (acts_un ν vt (r_not (c := true) rfl)))
    refine z ?_ (h := fun ν => acts_pick_t ν vt xt)
    refine zm ?_
    refine zg ?_ (h := fun ν => step_on rfl rfl (mt ν))
    refine zg ?_ (h := fun ν => step_on rfl rfl (mt ν))
    refine zg ?_ (h := fun ν => step_on rfl rfl (acts_bin ν vt vt (rM (by first | omega | assumption | exact Nat.le_of_ble_eq_true rfl | exact hT.ok | (rw [hF.same]; omega) | (rw [hF.two]; omega) | (rw [hq4]; decide)) (by first | omega | assumption | exact Nat.le_of_ble_eq_true rfl | exact hT.ok | (rw [hF.same]; omega) | (rw [hF.two]; omega) | (rw [hq4]; decide)))))
    refine zg ?_ (h := fun ν => step_on rfl rfl (acts_bin ν vt vc (r_eql (c := true) hsq)))
    refine z ?_ (h := fun ν => acts_pick_t ν vt xt)
    refine zm ?_
    refine zg ?_ (h := fun ν => step_on rfl rfl (mt ν))
    refine zg ?_ (h := fun ν => step_on rfl rfl (acts_load_owns (xs := [vI ((gC (flipsOf P) ((atB b 0) % (flipsOf P).length)).x), vI ((gC (flipsOf P) ((atB b 0) % (flipsOf P).length)).y)].map A.val) ν qP9_ti_46 rfl (by decide) rfl))
    refine zg ?_ (h := fun ν => step_on rfl rfl (acts_call1 ν (impl_CanFlip_fn P (gC (flipsOf P) ((atB b 0) % (flipsOf P).length)) (by first | omega | assumption | exact Nat.le_of_ble_eq_true rfl | exact hT.ok | (rw [hF.same]; omega) | (rw [hF.two]; omega) | (rw [hq4]; decide))) (ac (ArgV.slv _ _ _ _) (ac (ArgV.va va) an)) (resval (congrArg Value.bool hF.can))))
    refine z ?_ (h := fun ν => acts_pick_t ν vt xt)
    refine za (nl (wp_ret' ?_))
    exact VRes.tmp _ _ _ (by exact rfl) (BRes.val _)
end Cl
end Go.Proofs.Ytjgjeflidcembaa
