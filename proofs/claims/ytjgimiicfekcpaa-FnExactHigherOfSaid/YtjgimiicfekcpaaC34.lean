/- Walks over clean states, printed by wg.py. No statement is proved here. -/
import Derived.Test.YtjgimiicfekcpaaC33
import Derived.Test.YtjgimiicfekcpaaCl19
namespace Go.Proofs.Ytjgimiicfekcpaa
namespace Cl
open Go.ChangeShapes Go.WideShapes Go.ChangeAt Go.RowKit

def mF (b : Bool) (x y : Int) : Int := if b = true then max x y else min x y
def mixA (f : Int → Int → Int) (x y : List Int) (k : Nat) : List Int := (List.range k).map fun i => f (gI x i) (gI y i)
def mixK (f : Int → Int → Int) (x y : List Int) (k : Nat) : List Int := mixA f x y k ++ x.drop k
theorem mixA_len (f : Int → Int → Int) (x y : List Int) (k : Nat) : (mixA f x y k).length = k := by simp [mixA]
theorem mixA_snoc (f : Int → Int → Int) (x y : List Int) (k : Nat) : mixA f x y (k + 1) = mixA f x y k ++ [f (gI x k) (gI y k)] := by unfold mixA; rw [List.range_succ, List.map_append]; rfl
theorem mixK_len {f : Int → Int → Int} {x y : List Int} {k : Nat} (h : k ≤ x.length) : (mixK f x y k).length = x.length := by unfold mixK; rw [List.length_append, mixA_len, List.length_drop]; omega
theorem mixK_zero (f : Int → Int → Int) (x y : List Int) : mixK f x y 0 = x := by simp [mixK, mixA]
theorem mixK_end {f : Int → Int → Int} {x y : List Int} {k : Nat} (h : ¬ k < x.length) : mixK f x y k = mixA f x y k := by unfold mixK; rw [List.drop_of_length_le (by omega), List.append_nil]
theorem mixK_get {f : Int → Int → Int} {x y : List Int} {k : Nat} (h : k < x.length) : gI (mixK f x y k) k = gI x k := by
  rw [gI_eq (by rw [mixK_len (by omega)]; exact h), gI_eq h]
  unfold mixK
  rw [List.getElem_append_right (by rw [mixA_len]; omega)]
  simp only [mixA_len, Nat.sub_self, List.getElem_drop, Nat.add_zero]
theorem mixK_set {f : Int → Int → Int} {x y : List Int} {k : Nat} {v : Int} (h : k < x.length) (hv : v = f (gI x k) (gI y k)) : (mixK f x y k).set k v = mixK f x y (k + 1) := by
  subst hv
  unfold mixK
  rw [List.set_append, if_neg (by rw [mixA_len]; omega), mixA_len, Nat.sub_self, mixA_snoc, List.append_assoc]
  rw [List.drop_eq_getElem_cons h]; rfl
noncomputable def mixT (b : Bool) (l : List Int) (p q : List Dom) : List Int := mixA (mF b) (hts l p) (hts l q) 81
noncomputable def mixR (c : Bool) (l : List Int) (a b : List Dom) : List Dom := if (okH l a && okH l b) = true then tilF l (mixT c l a b) else []
noncomputable def mixB (c : Bool) (l : List Int) (a b : List Dom) : Bool := (okH l a && okH l b) && tfOk l (mixT c l a b)
theorem mixR_no {c : Bool} {l : List Int} {a b : List Dom} (h : (okH l a && okH l b) = false) : mixR c l a b = [] := by unfold mixR; rw [if_neg (by rw [h]; simp)]
theorem mixB_no {c : Bool} {l : List Int} {a b : List Dom} (h : (okH l a && okH l b) = false) : mixB c l a b = false := by unfold mixB; rw [h]; rfl
theorem mix_yes {c : Bool} {l : List Int} {a b : List Dom} {k : Nat} (h : (okH l a && okH l b) = true) (hk : k ≤ (hts l a).length) (hk2 : ¬ k < (hts l a).length) : mixR c l a b = tilF l (mixK (mF c) (hts l a) (hts l b) k) ∧ mixB c l a b = tfOk l (mixK (mF c) (hts l a) (hts l b) k) := by
  have h81 := okH_len (and_tt h).1
  have ek : k = 81 := by omega
  rw [mixK_end hk2]
  subst ek
  unfold mixR mixB mixT
  rw [if_pos h, h]; exact ⟨rfl, rfl⟩
theorem mix_ys {c : Bool} {l : List Int} {a b : List Dom} {k : Nat} (h : (okH l a && okH l b) = true) (hk : k ≤ (hts l a).length) (hk2 : ¬ k < (hts l a).length) : mixR c l a b = tilF l (mixA (mF c) (hts l a) (hts l b) k) ∧ mixB c l a b = tfOk l (mixA (mF c) (hts l a) (hts l b) k) := by
  rw [← mixK_end hk2]; exact mix_yes h hk hk2
theorem mix_z {l : List Int} {a b : List Dom} (h : (decide (((hts l a).length : Int) = 0) || decide (((hts l b).length : Int) = 0)) = true) : (okH l a && okH l b) = false := by
  rw [Bool.or_eq_true, decide_eq_true_eq, decide_eq_true_eq] at h
  rcases h with h | h
  · rw [nlen_okH (by omega)]; rfl
  · rw [nlen_okH (ds := b) (by omega), Bool.and_false]
theorem mix_n {l : List Int} {a b : List Dom} (h : (decide (((hts l a).length : Int) = 0) || decide (((hts l b).length : Int) = 0)) = false) : (okH l a && okH l b) = true := by
  rw [Bool.or_eq_false_iff, decide_eq_false_iff_not, decide_eq_false_iff_not] at h
  rw [(len_okH (l := l) (ds := a) (by omega)).1, (len_okH (l := l) (ds := b) (by omega)).1]; rfl
theorem qC34_sz_3 : (Try.prog.info? 3).map (·.size) = some 1 := by kernel_rfl
theorem qC34_ti_29 : TI Try.prog 29 true 1 := ⟨⟨_, Try.underlying29, rfl⟩, by kernel_rfl⟩
theorem qC34_ti_3 : TI Try.prog 3 false 1 := ⟨⟨_, Try.underlying3, rfl⟩, by kernel_rfl⟩
theorem qC34_un_22 : Try.prog.underlying 22 = some (.slice 3) := Try.underlying22
theorem qC34_un_26 : Try.prog.underlying 26 = some (.slice 48) := Try.underlying26
theorem qC34_zi_3 : ZI Try.prog 3 (.int .i64 0) 1 8 := by unfold ZI; kernel_rfl
theorem qC34_zi_48 : ZI Try.prog 48 (.agg #[.int .i64 0, .int .i64 0, .bool false]) 3 24 := by unfold ZI; kernel_rfl
set_option maxHeartbeats 4000000 in
set_option maxRecDepth 100000 in
theorem impl_LowerOf_1_fn (a b : Int) : Fn Try.prog 44 [.a (.val (.int .i64 a)), .a (.val (.int .i64 b))] [.val (.int .i64 (mF false a b))] := by
 refine fn_intro (N := 8) Try.func44 rfl (by kernel_rfl) rfl (Nat.le_of_ble_eq_true rfl) [7] (ret1 rfl) (fun W => ?_)
 show Wp _ _ _ [kI 0 a, kI 1 b, kF 7]
 refine sq (rg (zk (nl (sq (rg (zm (zm ?_)))))))
 refine z ?_ (h := fun ν => acts_min (c := (min a b)) ν vt vt (by omega))
 refine za (nl (wp_ret' ?_))
 exact VRes.tmp _ _ _ (by exact rfl) (bval (congrArg (Value.int .i64) (by rfl)))

set_option maxHeartbeats 4000000 in
set_option maxRecDepth 100000 in
theorem mixed_LowerOf (l : List Int) (a b : List Dom) (hl : l.length ≤ 4194304) (ha : a.length ≤ 2097152) (hb : b.length ≤ 2097152) : Fn Try.prog 42 [.agg [(.slv l.length 1 (isl l) : A)], .a (.slv a.length 3 (dsl a)), .a (.slv b.length 3 (dsl b)), .a (.fn 44 [])] [.row 48 3 (mixR false l a b).length (dsl (mixR false l a b)), .val (.bool (mixB false l a b))] := by
 refine fn_intro (N := 48) Try.func42 rfl (by kernel_rfl) rfl (Nat.le_of_ble_eq_true rfl) [4, 18, 25, 40, 45] (ret2 rfl rfl (by intro u hu; injection hu with hu; subst hu; rfl)) (fun W => ?_)
 show Wp _ _ _ [kV 0 (V.b (.agg [(.slv l.length 1 (isl l) : A)])), kV 1 (V.b (.a (.slv a.length 3 (dsl a)))), kV 2 (V.b (.a (.slv b.length 3 (dsl b)))), kV 3 (V.b (.a (.fn 44 []))), kF 4, kF 18, kF 25, kF 40, kF 45]
 refine sq (rg ?_)
 refine z ?_ (h := fun ν => acts_box (h := 4) ν xt (by exact ob1 rfl))
 refine zk (zk (nl (sq (rg ?_))))
 refine z ?_ (h := fun ν => acts_load_owns (xs := [(.slv l.length 1 (isl l) : A)]) ν qC34_ti_29 rfl (by decide) rfl)
 refine zm (zm ?_)
 refine z ?_ (h := fun ν => acts_callO (d := 18) (f := 69) (os := []) (os' := [(.o 18, some (.o ⟨3, 1, true, pl (isl (hts l a))⟩)), (.o 25, some (.o ⟨3, 1, true, pl (isl (hts l b))⟩))]) (r := V.tup [.a (.sl 18 0 ((hts l a).length)), .a (.sl 25 0 ((hts l b).length)), .a (.val (.bool (okH l a && okH l b)))]) (bs := [.agg [(.slv l.length 1 (isl l) : A)], .a (.slv a.length 3 (dsl a)), .a (.slv b.length 3 (dsl b))]) (keep := []) (new := [18, 25]) (dead := []) ν (FnO.ren' (impl_bothHeights_fn l a b (by first | omega | assumption | (rw [mixK_len invk]; omega)) (by first | omega | assumption | (rw [mixK_len invk]; omega)) (by first | omega | assumption | (rw [mixK_len invk]; omega))) (subst1 [(7, 18), (9, 25)]) rfl rfl (by kernel_rfl) (by kernel_rfl) ⟨oc_pl (fun _ => rfl), oc_pl (fun _ => rfl), trivial⟩ (by kernel_rfl) rfl (by simp only [renS, Ob.ren, pl_ren, rws_ren_doms, rws_ren_ints, rws_ren_cels]; first | done | rfl) (by simp only [renS, Ob.ren, pl_ren, rws_ren_doms, rws_ren_ints, rws_ren_cels]; first | done | rfl) rfl rfl) (by kernel_rfl) ⟨oc_pl (fun _ => rfl), oc_pl (fun _ => rfl), trivial⟩ (by kernel_rfl) (ArgOs.cons (ArgO.slot 15 (.agg [(.slv l.length 1 (isl l) : A)])) (ArgOs.cons (ArgO.slot 16 (.a (.slv a.length 3 (dsl a)))) (ArgOs.cons (ArgO.slot 17 (.a (.slv b.length 3 (dsl b)))) (ArgOs.nil)))))
 refine zm ?_
 refine z ?_ (h := fun ν => acts_extract ν (by exact rfl))
 refine z ?_ (h := fun ν => acts_extract ν (by exact rfl))
 refine z ?_ (h := fun ν => acts_extract ν (by exact rfl))
 refine za (za (za (nl (sq (sq (rg (zm ?_)))))))
 refine z ?_ (h := fun ν => acts_un ν vt (r_not rfl))
 refine nl ?_
 refine wi (b := (!(okH l a && okH l b))) (fun c1 => ?_) (fun c1 => ?_)
 ·skip
  have c2 : (okH l a && okH l b) = false := by first | simpa using c1 | (rw [← Bool.not_eq_true']; exact c1)
  refine sq (rg (zk (zk (nl (wp_ret' ?_)))))
  exact ⟨VRes.tmp _ _ _ (by exact rfl) (bnil_doms (L := (mixR false l a b)) (by first | exact (mixR_no (by assumption)).symm | exact mixR_no (by assumption) | exact (mixB_no (by assumption)).symm)), VRes.tmp _ _ _ (by exact rfl) (bval (congrArg Value.bool (by first | exact (mixR_no (by assumption)).symm | exact mixR_no (by assumption) | exact (mixB_no (by assumption)).symm)))⟩
 ·skip
  have c3 : (okH l a && okH l b) = true := by first | simpa using c1 | (rw [← Bool.not_eq_false']; exact c1)
  have hoa : okH l a = true := (and_tt c3).1
  have hob : okH l b = true := (and_tt c3).2
  have hla := okH_len hoa
  have hlb := okH_len hob
  refine sk (sq (sq (rg (zm ?_))))
  refine z ?_ (h := fun ν => lnS ν qC34_un_22)
  refine z ?_ (h := fun ν => mc ν)
  refine nl (bkk ?_)
  refine wp_loop' (fun (k : Nat) => k ≤ (hts l a).length) (fun (k : Nat) => [kV 3 (V.b (.a (.fn 44 []))), kP 4 4 0, kS 10 18 0 ((mixK (mF false) (hts l a) (hts l b) k).length), kS 11 25 0 ((hts l b).length), kI 25 (((hts l a).length : Nat) : Int), kI 26 ((k : Nat) : Int), kO 4 29 1 true [(.slv l.length 1 (isl l) : A)], kO 18 3 1 true (pl (isl (mixK (mF false) (hts l a) (hts l b) k))), kO 25 3 1 true (pl (isl (hts l b))), kF 40, kF 45]) (fun (k : Nat) => (hts l a).length - k) ((0 : Nat)) (by exact (Nat.zero_le _ : 0 ≤ _)) (wkf id (wS <| wS <| wE (e := (vsl (by first | rfl | (simp; done) | (simp; omega) | omega | (exact congrArg List.length (by first | rfl | omega | exact (mixK_zero _ _ _).symm | exact mixK_zero _ _ _ | exact mixK_set (by omega) (by rw [mixK_get (x := hts l a) (k := k) (by omega)]) | exact Eq.symm (mixK_set (by omega) (by rw [mixK_get (x := hts l a) (k := k) (by omega)]))))) rfl)) <| wS <| wS <| wE (e := (vint (by first | rfl | omega | exact (mixK_zero _ _ _).symm | exact mixK_zero _ _ _ | exact mixK_set (by omega) (by rw [mixK_get (x := hts l a) (k := k) (by omega)]) | exact Eq.symm (mixK_set (by omega) (by rw [mixK_get (x := hts l a) (k := k) (by omega)]))))) <| wX <| wO (e := renob_eq (fun h => h) (congrArg isl (by first | rfl | omega | exact (mixK_zero _ _ _).symm | exact mixK_zero _ _ _ | exact mixK_set (by omega) (by rw [mixK_get (x := hts l a) (k := k) (by omega)]) | exact Eq.symm (mixK_set (by omega) (by rw [mixK_get (x := hts l a) (k := k) (by omega)]))))) <| wP <| wF <| wF <| wN)) ?_
  rintro k inv4
  replace inv4 : k ≤ (hts l a).length := inv4
  have invk := inv4
  have hmk := mixK_len (f := (mF false)) (y := hts l b) invk
  refine sq (rg ?_)
  refine z ?_ (h := fun ν => acts_bin ν vt vt (r_lss rfl))
  refine nl (sq ?_)
  refine wi (fun c5 => ?_) (fun c5 => ?_)
  ·skip
   have c5P := of_decide_eq_true c5
   have hmk1 := mixK_len (f := (mF false)) (x := hts l a) (y := hts l b) (k := k + 1) (by omega)
   refine sk (sq (bkk (sq (rg (zm (za (nl (wp_dr (zdm (zdm (zdm (zdm (zdm ?_)))))))))))))
   refine zd ?_ (h := fun ν => ix0 ν qC34_un_22 qC34_sz_3 vt (hlt := (by first | omega | assumption | (rw [mixK_len invk]; omega))))
   refine zd ?_ (h := fun ν => lI ν qC34_ti_3 (by first | omega | assumption | (rw [mixK_len invk]; omega)))
   refine zdm (zdm ?_)
   refine zd ?_ (h := fun ν => ix0 ν qC34_un_22 qC34_sz_3 vt (hlt := (by first | omega | assumption | (rw [mixK_len invk]; omega))))
   refine zd ?_ (h := fun ν => lI ν qC34_ti_3 (by first | omega | assumption | (rw [mixK_len invk]; omega)))
   refine zd ?_ (h := fun ν => acts_callV (d := 40) (f := 44) (t := 31) (caps := []) (os := []) (os' := []) (r := V.v (.int .i64 (mF false (gI (mixK (mF false) (hts l a) (hts l b) k) k) (gI (hts l b) k)))) (bs := [.a (.val (.int .i64 (gI (mixK (mF false) (hts l a) (hts l b) k) k))), .a (.val (.int .i64 (gI (hts l b) k)))]) (keep := []) (new := []) (dead := []) ν (FnO.of_fn (impl_LowerOf_1_fn (gI (mixK (mF false) (hts l a) (hts l b) k) k) (gI (hts l b) k) ) (by kernel_rfl)) rfl trivial rfl (ArgOs.cons ((ArgO.v vt)) (ArgOs.cons ((ArgO.v vt)) (ArgOs.nil))))
   refine zd ?_ (h := fun ν => ix0 ν qC34_un_22 qC34_sz_3 vt (hlt := (by first | omega | assumption | (rw [mixK_len invk]; omega))))
   refine zd ?_ (h := fun _ => sI qC34_ti_3 xt (by first | omega | assumption | (rw [mixK_len invk]; omega)))
   refine dw_nil (rg ?_)
   refine z ?_ (h := fun ν => acts_bin ν vt vc (rA (by first | omega | assumption | (rw [mixK_len invk]; omega)) (by first | omega | assumption | (rw [mixK_len invk]; omega))))
   refine zm (nl ?_)
   exact loop_back ((k + 1)) (by show _ ≤ _; omega) (by show (hts l a).length - (k + 1) < (hts l a).length - k; omega) (wkf id (wS <| wS <| wE (e := (vsl (by first | rfl | (simp; done) | (simp; omega) | omega | (exact congrArg List.length (by first | rfl | omega | exact (mixK_zero _ _ _).symm | exact mixK_zero _ _ _ | exact mixK_set (by omega) (by rw [mixK_get (x := hts l a) (k := k) (by omega)]) | exact Eq.symm (mixK_set (by omega) (by rw [mixK_get (x := hts l a) (k := k) (by omega)]))))) rfl)) <| wS <| wS <| wE (e := (vint (by first | rfl | omega | exact (mixK_zero _ _ _).symm | exact mixK_zero _ _ _ | exact mixK_set (by omega) (by rw [mixK_get (x := hts l a) (k := k) (by omega)]) | exact Eq.symm (mixK_set (by omega) (by rw [mixK_get (x := hts l a) (k := k) (by omega)]))))) <| wX <| wO (e := renob_eq (fun h => h) (congrArg isl (by first | rfl | omega | exact (mixK_zero _ _ _).symm | exact mixK_zero _ _ _ | exact mixK_set (by omega) (by rw [mixK_get (x := hts l a) (k := k) (by omega)]) | exact Eq.symm (mixK_set (by omega) (by rw [mixK_get (x := hts l a) (k := k) (by omega)]))))) <| wP <| wF <| wF <| wN))
  ·skip
   have c5P := of_decide_eq_false c5
   refine wp_exit' (sq (rg ?_))
   refine z ?_ (h := fun ν => acts_load_owns (xs := [(.slv l.length 1 (isl l) : A)]) ν qC34_ti_29 rfl (by decide) rfl)
   refine zm ?_
   refine z ?_ (h := fun ν => acts_call2 ν (impl_TilingFrom_fn l (mixK (mF false) (hts l a) (hts l b) k) (by first | omega | assumption | (rw [mixK_len invk]; omega)) (by first | omega | assumption | (rw [mixK_len invk]; omega))) (ac (ArgV.regv _ _ 1 _) (ac (argv_own (by first | exact isl_len _ | (simp [isl_len, bsl_len, dsl_len, csl_len]; done) | (simp [isl_len, bsl_len, dsl_len, csl_len]; omega))) an)) (ResV.row _ _ _ _ 45) rv)
   refine z ?_ (h := fun ν => acts_extract ν (by exact rfl))
   refine z ?_ (h := fun ν => acts_extract ν (by exact rfl))
   refine za (za (nl (wp_ret' ?_)))
   exact ⟨VRes.tmp _ _ _ (by exact rfl) (brow_doms (h := 45) (L := (tilF l (mixK (mF false) (hts l a) (hts l b) k))) (by kernel_rfl) (by first | exact (mix_yes (by assumption) (by omega) (by omega)).1.symm | exact (mix_yes (by assumption) (by omega) (by omega)).2.symm) (by first | rfl | (simp; done) | (simp; omega))), VRes.tmp _ _ _ (by exact rfl) (bval (congrArg Value.bool (by first | exact (mix_yes (by assumption) (by omega) (by omega)).1.symm | exact (mix_yes (by assumption) (by omega) (by omega)).2.symm)))⟩

set_option maxHeartbeats 4000000 in
set_option maxRecDepth 100000 in
theorem impl_LowerOf_fn (l : List Int) (a b : List Dom) (hl : l.length ≤ 4194304) (ha : a.length ≤ 2097152) (hb : b.length ≤ 2097152) : Fn Try.prog 23 [.agg [(.slv l.length 1 (isl l) : A)], .a (.slv a.length 3 (dsl a)), .a (.slv b.length 3 (dsl b))] [.row 48 3 (mixR false l a b).length (dsl (mixR false l a b)), .val (.bool (mixB false l a b))] := by
 refine fn_intro (N := 14) Try.func23 rfl (by kernel_rfl) rfl (Nat.le_of_ble_eq_true rfl) [3, 11] (ret2 rfl rfl (by intro u hu; injection hu with hu; subst hu; rfl)) (fun W => ?_)
 show Wp _ _ _ [kV 0 (V.b (.agg [(.slv l.length 1 (isl l) : A)])), kV 1 (V.b (.a (.slv a.length 3 (dsl a)))), kV 2 (V.b (.a (.slv b.length 3 (dsl b)))), kF 3, kF 11]
 refine sq (rg ?_)
 refine z ?_ (h := fun ν => acts_box (h := 3) ν xt (by exact ob1 rfl))
 refine zk (zk (nl (sq (rg ?_))))
 refine z ?_ (h := fun ν => acts_load_owns (xs := [(.slv l.length 1 (isl l) : A)]) ν qC34_ti_29 rfl (by decide) rfl)
 refine zm (zm ?_)
 refine z ?_ (h := fun ν => acts_call2 ν (mixed_LowerOf l a b (by omega) (by omega) (by omega)) (ac (ArgV.regv _ _ 1 _) (ac (ArgV.slv _ _ _ _) (ac (ArgV.slv _ _ _ _) (ac (ArgV.fn 44) an)))) (ResV.row _ _ _ _ 11) rv)
 refine z ?_ (h := fun ν => acts_extract ν (by exact rfl))
 refine z ?_ (h := fun ν => acts_extract ν (by exact rfl))
 refine za (za (nl (wp_ret' ?_)))
 exact ⟨VRes.tmp _ _ _ (by exact rfl) (BRes.row 11 ((mixR false l a b).length) _ 3 _ (by kernel_rfl) (by first | exact dsl_len _ | (simp [isl_len, bsl_len, dsl_len, csl_len]; done) | (simp [isl_len, bsl_len, dsl_len, csl_len]; omega))), VRes.tmp _ _ _ (by exact rfl) (BRes.val _)⟩

set_option maxHeartbeats 4000000 in
set_option maxRecDepth 100000 in
theorem impl_HigherOf_1_fn (a b : Int) : Fn Try.prog 43 [.a (.val (.int .i64 a)), .a (.val (.int .i64 b))] [.val (.int .i64 (mF true a b))] := by
 refine fn_intro (N := 8) Try.func43 rfl (by kernel_rfl) rfl (Nat.le_of_ble_eq_true rfl) [7] (ret1 rfl) (fun W => ?_)
 show Wp _ _ _ [kI 0 a, kI 1 b, kF 7]
 refine sq (rg (zk (nl (sq (rg (zm (zm ?_)))))))
 refine z ?_ (h := fun ν => acts_max (c := (max a b)) ν vt vt (by omega))
 refine za (nl (wp_ret' ?_))
 exact VRes.tmp _ _ _ (by exact rfl) (bval (congrArg (Value.int .i64) (by rfl)))

set_option maxHeartbeats 4000000 in
set_option maxRecDepth 100000 in
theorem mixed_HigherOf (l : List Int) (a b : List Dom) (hl : l.length ≤ 4194304) (ha : a.length ≤ 2097152) (hb : b.length ≤ 2097152) : Fn Try.prog 42 [.agg [(.slv l.length 1 (isl l) : A)], .a (.slv a.length 3 (dsl a)), .a (.slv b.length 3 (dsl b)), .a (.fn 43 [])] [.row 48 3 (mixR true l a b).length (dsl (mixR true l a b)), .val (.bool (mixB true l a b))] := by
 refine fn_intro (N := 48) Try.func42 rfl (by kernel_rfl) rfl (Nat.le_of_ble_eq_true rfl) [4, 18, 25, 40, 45] (ret2 rfl rfl (by intro u hu; injection hu with hu; subst hu; rfl)) (fun W => ?_)
 show Wp _ _ _ [kV 0 (V.b (.agg [(.slv l.length 1 (isl l) : A)])), kV 1 (V.b (.a (.slv a.length 3 (dsl a)))), kV 2 (V.b (.a (.slv b.length 3 (dsl b)))), kV 3 (V.b (.a (.fn 43 []))), kF 4, kF 18, kF 25, kF 40, kF 45]
 refine sq (rg ?_)
 refine z ?_ (h := fun ν => acts_box (h := 4) ν xt (by exact ob1 rfl))
 refine zk (zk (nl (sq (rg ?_))))
 refine z ?_ (h := fun ν => acts_load_owns (xs := [(.slv l.length 1 (isl l) : A)]) ν qC34_ti_29 rfl (by decide) rfl)
 refine zm (zm ?_)
 refine z ?_ (h := fun ν => acts_callO (d := 18) (f := 69) (os := []) (os' := [(.o 18, some (.o ⟨3, 1, true, pl (isl (hts l a))⟩)), (.o 25, some (.o ⟨3, 1, true, pl (isl (hts l b))⟩))]) (r := V.tup [.a (.sl 18 0 ((hts l a).length)), .a (.sl 25 0 ((hts l b).length)), .a (.val (.bool (okH l a && okH l b)))]) (bs := [.agg [(.slv l.length 1 (isl l) : A)], .a (.slv a.length 3 (dsl a)), .a (.slv b.length 3 (dsl b))]) (keep := []) (new := [18, 25]) (dead := []) ν (FnO.ren' (impl_bothHeights_fn l a b (by first | omega | assumption | (rw [mixK_len invk]; omega)) (by first | omega | assumption | (rw [mixK_len invk]; omega)) (by first | omega | assumption | (rw [mixK_len invk]; omega))) (subst1 [(7, 18), (9, 25)]) rfl rfl (by kernel_rfl) (by kernel_rfl) ⟨oc_pl (fun _ => rfl), oc_pl (fun _ => rfl), trivial⟩ (by kernel_rfl) rfl (by simp only [renS, Ob.ren, pl_ren, rws_ren_doms, rws_ren_ints, rws_ren_cels]; first | done | rfl) (by simp only [renS, Ob.ren, pl_ren, rws_ren_doms, rws_ren_ints, rws_ren_cels]; first | done | rfl) rfl rfl) (by kernel_rfl) ⟨oc_pl (fun _ => rfl), oc_pl (fun _ => rfl), trivial⟩ (by kernel_rfl) (ArgOs.cons (ArgO.slot 15 (.agg [(.slv l.length 1 (isl l) : A)])) (ArgOs.cons (ArgO.slot 16 (.a (.slv a.length 3 (dsl a)))) (ArgOs.cons (ArgO.slot 17 (.a (.slv b.length 3 (dsl b)))) (ArgOs.nil)))))
 refine zm ?_
 refine z ?_ (h := fun ν => acts_extract ν (by exact rfl))
 refine z ?_ (h := fun ν => acts_extract ν (by exact rfl))
 refine z ?_ (h := fun ν => acts_extract ν (by exact rfl))
 refine za (za (za (nl (sq (sq (rg (zm ?_)))))))
 refine z ?_ (h := fun ν => acts_un ν vt (r_not rfl))
 refine nl ?_
 refine wi (b := (!(okH l a && okH l b))) (fun c1 => ?_) (fun c1 => ?_)
 ·skip
  have c2 : (okH l a && okH l b) = false := by first | simpa using c1 | (rw [← Bool.not_eq_true']; exact c1)
  refine sq (rg (zk (zk (nl (wp_ret' ?_)))))
  exact ⟨VRes.tmp _ _ _ (by exact rfl) (bnil_doms (L := (mixR true l a b)) (by first | exact (mixR_no (by assumption)).symm | exact mixR_no (by assumption) | exact (mixB_no (by assumption)).symm)), VRes.tmp _ _ _ (by exact rfl) (bval (congrArg Value.bool (by first | exact (mixR_no (by assumption)).symm | exact mixR_no (by assumption) | exact (mixB_no (by assumption)).symm)))⟩
 ·skip
  have c3 : (okH l a && okH l b) = true := by first | simpa using c1 | (rw [← Bool.not_eq_false']; exact c1)
  have hoa : okH l a = true := (and_tt c3).1
  have hob : okH l b = true := (and_tt c3).2
  have hla := okH_len hoa
  have hlb := okH_len hob
  refine sk (sq (sq (rg (zm ?_))))
  refine z ?_ (h := fun ν => lnS ν qC34_un_22)
  refine z ?_ (h := fun ν => mc ν)
  refine nl (bkk ?_)
  refine wp_loop' (fun (k : Nat) => k ≤ (hts l a).length) (fun (k : Nat) => [kV 3 (V.b (.a (.fn 43 []))), kP 4 4 0, kS 10 18 0 ((mixK (mF true) (hts l a) (hts l b) k).length), kS 11 25 0 ((hts l b).length), kI 25 (((hts l a).length : Nat) : Int), kI 26 ((k : Nat) : Int), kO 4 29 1 true [(.slv l.length 1 (isl l) : A)], kO 18 3 1 true (pl (isl (mixK (mF true) (hts l a) (hts l b) k))), kO 25 3 1 true (pl (isl (hts l b))), kF 40, kF 45]) (fun (k : Nat) => (hts l a).length - k) ((0 : Nat)) (by exact (Nat.zero_le _ : 0 ≤ _)) (wkf id (wS <| wS <| wE (e := (vsl (by first | rfl | (simp; done) | (simp; omega) | omega | (exact congrArg List.length (by first | rfl | omega | exact (mixK_zero _ _ _).symm | exact mixK_zero _ _ _ | exact mixK_set (by omega) (by rw [mixK_get (x := hts l a) (k := k) (by omega)]) | exact Eq.symm (mixK_set (by omega) (by rw [mixK_get (x := hts l a) (k := k) (by omega)]))))) rfl)) <| wS <| wS <| wE (e := (vint (by first | rfl | omega | exact (mixK_zero _ _ _).symm | exact mixK_zero _ _ _ | exact mixK_set (by omega) (by rw [mixK_get (x := hts l a) (k := k) (by omega)]) | exact Eq.symm (mixK_set (by omega) (by rw [mixK_get (x := hts l a) (k := k) (by omega)]))))) <| wX <| wO (e := renob_eq (fun h => h) (congrArg isl (by first | rfl | omega | exact (mixK_zero _ _ _).symm | exact mixK_zero _ _ _ | exact mixK_set (by omega) (by rw [mixK_get (x := hts l a) (k := k) (by omega)]) | exact Eq.symm (mixK_set (by omega) (by rw [mixK_get (x := hts l a) (k := k) (by omega)]))))) <| wP <| wF <| wF <| wN)) ?_
  rintro k inv4
  replace inv4 : k ≤ (hts l a).length := inv4
  have invk := inv4
  have hmk := mixK_len (f := (mF true)) (y := hts l b) invk
  refine sq (rg ?_)
  refine z ?_ (h := fun ν => acts_bin ν vt vt (r_lss rfl))
  refine nl (sq ?_)
  refine wi (fun c5 => ?_) (fun c5 => ?_)
  ·skip
   have c5P := of_decide_eq_true c5
   have hmk1 := mixK_len (f := (mF true)) (x := hts l a) (y := hts l b) (k := k + 1) (by omega)
   refine sk (sq (bkk (sq (rg (zm (za (nl (wp_dr (zdm (zdm (zdm (zdm (zdm ?_)))))))))))))
   refine zd ?_ (h := fun ν => ix0 ν qC34_un_22 qC34_sz_3 vt (hlt := (by first | omega | assumption | (rw [mixK_len invk]; omega))))
   refine zd ?_ (h := fun ν => lI ν qC34_ti_3 (by first | omega | assumption | (rw [mixK_len invk]; omega)))
   refine zdm (zdm ?_)
   refine zd ?_ (h := fun ν => ix0 ν qC34_un_22 qC34_sz_3 vt (hlt := (by first | omega | assumption | (rw [mixK_len invk]; omega))))
   refine zd ?_ (h := fun ν => lI ν qC34_ti_3 (by first | omega | assumption | (rw [mixK_len invk]; omega)))
   refine zd ?_ (h := fun ν => acts_callV (d := 40) (f := 43) (t := 31) (caps := []) (os := []) (os' := []) (r := V.v (.int .i64 (mF true (gI (mixK (mF true) (hts l a) (hts l b) k) k) (gI (hts l b) k)))) (bs := [.a (.val (.int .i64 (gI (mixK (mF true) (hts l a) (hts l b) k) k))), .a (.val (.int .i64 (gI (hts l b) k)))]) (keep := []) (new := []) (dead := []) ν (FnO.of_fn (impl_HigherOf_1_fn (gI (mixK (mF true) (hts l a) (hts l b) k) k) (gI (hts l b) k) ) (by kernel_rfl)) rfl trivial rfl (ArgOs.cons ((ArgO.v vt)) (ArgOs.cons ((ArgO.v vt)) (ArgOs.nil))))
   refine zd ?_ (h := fun ν => ix0 ν qC34_un_22 qC34_sz_3 vt (hlt := (by first | omega | assumption | (rw [mixK_len invk]; omega))))
   refine zd ?_ (h := fun _ => sI qC34_ti_3 xt (by first | omega | assumption | (rw [mixK_len invk]; omega)))
   refine dw_nil (rg ?_)
   refine z ?_ (h := fun ν => acts_bin ν vt vc (rA (by first | omega | assumption | (rw [mixK_len invk]; omega)) (by first | omega | assumption | (rw [mixK_len invk]; omega))))
   refine zm (nl ?_)
   exact loop_back ((k + 1)) (by show _ ≤ _; omega) (by show (hts l a).length - (k + 1) < (hts l a).length - k; omega) (wkf id (wS <| wS <| wE (e := (vsl (by first | rfl | (simp; done) | (simp; omega) | omega | (exact congrArg List.length (by first | rfl | omega | exact (mixK_zero _ _ _).symm | exact mixK_zero _ _ _ | exact mixK_set (by omega) (by rw [mixK_get (x := hts l a) (k := k) (by omega)]) | exact Eq.symm (mixK_set (by omega) (by rw [mixK_get (x := hts l a) (k := k) (by omega)]))))) rfl)) <| wS <| wS <| wE (e := (vint (by first | rfl | omega | exact (mixK_zero _ _ _).symm | exact mixK_zero _ _ _ | exact mixK_set (by omega) (by rw [mixK_get (x := hts l a) (k := k) (by omega)]) | exact Eq.symm (mixK_set (by omega) (by rw [mixK_get (x := hts l a) (k := k) (by omega)]))))) <| wX <| wO (e := renob_eq (fun h => h) (congrArg isl (by first | rfl | omega | exact (mixK_zero _ _ _).symm | exact mixK_zero _ _ _ | exact mixK_set (by omega) (by rw [mixK_get (x := hts l a) (k := k) (by omega)]) | exact Eq.symm (mixK_set (by omega) (by rw [mixK_get (x := hts l a) (k := k) (by omega)]))))) <| wP <| wF <| wF <| wN))
  ·skip
   have c5P := of_decide_eq_false c5
   refine wp_exit' (sq (rg ?_))
   refine z ?_ (h := fun ν => acts_load_owns (xs := [(.slv l.length 1 (isl l) : A)]) ν qC34_ti_29 rfl (by decide) rfl)
   refine zm ?_
   refine z ?_ (h := fun ν => acts_call2 ν (impl_TilingFrom_fn l (mixK (mF true) (hts l a) (hts l b) k) (by first | omega | assumption | (rw [mixK_len invk]; omega)) (by first | omega | assumption | (rw [mixK_len invk]; omega))) (ac (ArgV.regv _ _ 1 _) (ac (argv_own (by first | exact isl_len _ | (simp [isl_len, bsl_len, dsl_len, csl_len]; done) | (simp [isl_len, bsl_len, dsl_len, csl_len]; omega))) an)) (ResV.row _ _ _ _ 45) rv)
   refine z ?_ (h := fun ν => acts_extract ν (by exact rfl))
   refine z ?_ (h := fun ν => acts_extract ν (by exact rfl))
   refine za (za (nl (wp_ret' ?_)))
   exact ⟨VRes.tmp _ _ _ (by exact rfl) (brow_doms (h := 45) (L := (tilF l (mixK (mF true) (hts l a) (hts l b) k))) (by kernel_rfl) (by first | exact (mix_yes (by assumption) (by omega) (by omega)).1.symm | exact (mix_yes (by assumption) (by omega) (by omega)).2.symm) (by first | rfl | (simp; done) | (simp; omega))), VRes.tmp _ _ _ (by exact rfl) (bval (congrArg Value.bool (by first | exact (mix_yes (by assumption) (by omega) (by omega)).1.symm | exact (mix_yes (by assumption) (by omega) (by omega)).2.symm)))⟩

set_option maxHeartbeats 4000000 in
set_option maxRecDepth 100000 in
theorem impl_HigherOf_fn (l : List Int) (a b : List Dom) (hl : l.length ≤ 4194304) (ha : a.length ≤ 2097152) (hb : b.length ≤ 2097152) : Fn Try.prog 21 [.agg [(.slv l.length 1 (isl l) : A)], .a (.slv a.length 3 (dsl a)), .a (.slv b.length 3 (dsl b))] [.row 48 3 (mixR true l a b).length (dsl (mixR true l a b)), .val (.bool (mixB true l a b))] := by
 refine fn_intro (N := 14) Try.func21 rfl (by kernel_rfl) rfl (Nat.le_of_ble_eq_true rfl) [3, 11] (ret2 rfl rfl (by intro u hu; injection hu with hu; subst hu; rfl)) (fun W => ?_)
 show Wp _ _ _ [kV 0 (V.b (.agg [(.slv l.length 1 (isl l) : A)])), kV 1 (V.b (.a (.slv a.length 3 (dsl a)))), kV 2 (V.b (.a (.slv b.length 3 (dsl b)))), kF 3, kF 11]
 refine sq (rg ?_)
 refine z ?_ (h := fun ν => acts_box (h := 3) ν xt (by exact ob1 rfl))
 refine zk (zk (nl (sq (rg ?_))))
 refine z ?_ (h := fun ν => acts_load_owns (xs := [(.slv l.length 1 (isl l) : A)]) ν qC34_ti_29 rfl (by decide) rfl)
 refine zm (zm ?_)
 refine z ?_ (h := fun ν => acts_call2 ν (mixed_HigherOf l a b (by omega) (by omega) (by omega)) (ac (ArgV.regv _ _ 1 _) (ac (ArgV.slv _ _ _ _) (ac (ArgV.slv _ _ _ _) (ac (ArgV.fn 43) an)))) (ResV.row _ _ _ _ 11) rv)
 refine z ?_ (h := fun ν => acts_extract ν (by exact rfl))
 refine z ?_ (h := fun ν => acts_extract ν (by exact rfl))
 refine za (za (nl (wp_ret' ?_)))
 exact ⟨VRes.tmp _ _ _ (by exact rfl) (BRes.row 11 ((mixR true l a b).length) _ 3 _ (by kernel_rfl) (by first | exact dsl_len _ | (simp [isl_len, bsl_len, dsl_len, csl_len]; done) | (simp [isl_len, bsl_len, dsl_len, csl_len]; omega))), VRes.tmp _ _ _ (by exact rfl) (BRes.val _)⟩

set_option maxHeartbeats 4000000 in
set_option maxRecDepth 100000 in
theorem spec_l14Join_fn (l : List Int) (a b : List Dom) (c : Bool) (hl : l.length ≤ 4194304) (ha : a.length ≤ 2097152) (hb : b.length ≤ 2097152) : Fn Try.prog 40 [.agg [(.slv l.length 1 (isl l) : A)], .a (.slv a.length 3 (dsl a)), .a (.slv b.length 3 (dsl b)), .a (.val (.bool c))] [.row 48 3 (mixR c l a b).length (dsl (mixR c l a b)), .val (.bool (mixB c l a b))] := by
 have hma := hts_len l a
 have hmb := hts_len l b
 refine fn_intro (N := 66) Try.func40 rfl (by kernel_rfl) rfl (Nat.le_of_ble_eq_true rfl) [4, 16, 19, 21, 25, 28, 29, 32, 46, 47, 48, 58, 59, 60, 63] (ret2 rfl rfl (by intro u hu; injection hu with hu; subst hu; rfl)) (fun W => ?_)
 show Wp _ _ _ [kV 0 (V.b (.agg [(.slv l.length 1 (isl l) : A)])), kV 1 (V.b (.a (.slv a.length 3 (dsl a)))), kV 2 (V.b (.a (.slv b.length 3 (dsl b)))), kB 3 c, kF 4, kF 16, kF 19, kF 21, kF 25, kF 28, kF 29, kF 32, kF 46, kF 47, kF 48, kF 58, kF 59, kF 60, kF 63]
 refine sq (rg ?_)
 refine z ?_ (h := fun ν => acts_box (h := 4) ν xt (by exact ob1 rfl))
 refine zk (zk (nl (sq (rg ?_))))
 refine z ?_ (h := fun ν => acts_load_owns (xs := [(.slv l.length 1 (isl l) : A)]) ν qC34_ti_29 rfl (by decide) rfl)
 refine zm ?_
 refine z ?_ (h := fun ν => acts_call1 ν (spec_HeightsOf_fn l a (by first | omega | assumption | (rw [mixA_len]; omega)) (by first | omega | assumption | (rw [mixA_len]; omega))) (ac (ArgV.regv _ _ 1 _) (ac (ArgV.slv _ _ _ _) an)) (ResV.row _ _ _ _ 16))
 refine za (nl (sq (rg ?_)))
 refine z ?_ (h := fun ν => acts_load_owns (xs := [(.slv l.length 1 (isl l) : A)]) ν qC34_ti_29 rfl (by decide) rfl)
 refine zm ?_
 refine z ?_ (h := fun ν => acts_call1 ν (spec_HeightsOf_fn l b (by first | omega | assumption | (rw [mixA_len]; omega)) (by first | omega | assumption | (rw [mixA_len]; omega))) (ac (ArgV.regv _ _ 1 _) (ac (ArgV.slv _ _ _ _) an)) (ResV.row _ _ _ _ 19))
 refine za (nl (sq (sq ?_)))
 refine wp_join [kB 27 ((decide ((((hts l a).length : Nat) : Int) = 0)) || (decide ((((hts l b).length : Nat) : Int) = 0))), kB 3 c, kP 4 4 0, kS 10 16 0 ((hts l a).length), kS 11 19 0 ((hts l b).length), kO 4 29 1 true [(.slv l.length 1 (isl l) : A)], kO 16 3 1 true (pl (isl (hts l a))), kO 19 3 1 true (pl (isl (hts l b))), kF 21, kF 25, kF 28, kF 29, kF 32, kF 46, kF 47, kF 48, kF 58, kF 59, kF 60, kF 63] ?_ ?_
 ·skip
  rcases Bool.eq_false_or_eq_true (decide ((((hts l a).length : Nat) : Int) = 0)) with c1 | c1
  ·skip
   have c1P := of_decide_eq_true c1
   refine rg (zm ?_)
   refine z ?_ (h := fun ν => lnS ν qC34_un_22)
   refine z ?_ (h := fun ν => acts_bin ν vt vc (r_eql (c := true) c1))
   refine zm (zo (zo (zo ?_)))
   refine z ?_ (h := fun ν => acts_pick_t ν vt xc)
   refine nl ?_
   exact ⟨rfl, weak_reads ⟨(by simp only [c1]; first | done | kernel_rfl), (by repeat (first | exact trivial | refine ⟨by kernel_rfl, ?_⟩))⟩⟩
  ·skip
   have c1P := of_decide_eq_false c1
   refine rg (zm ?_)
   refine z ?_ (h := fun ν => lnS ν qC34_un_22)
   refine z ?_ (h := fun ν => acts_bin ν vt vc (r_eql (c := false) c1))
   refine zm ?_
   refine zg ?_ (h := fun ν => step_on rfl rfl (mt ν))
   refine zg ?_ (h := fun ν => step_on rfl rfl (lnS ν qC34_un_22))
   refine zg ?_ (h := fun ν => step_on rfl rfl (acts_bin ν vt vc (r_eql rfl)))
   refine z ?_ (h := fun ν => acts_pick_f ν vt xt)
   refine nl ?_
   exact ⟨rfl, weak_reads ⟨(by simp only [c1]; first | done | kernel_rfl), (by repeat (first | exact trivial | refine ⟨by kernel_rfl, ?_⟩))⟩⟩
 refine wi (b := ((decide ((((hts l a).length : Nat) : Int) = 0)) || (decide ((((hts l b).length : Nat) : Int) = 0)))) (fun c2 => ?_) (fun c2 => ?_)
 ·skip
  have hno := mix_z c2
  have c3 := or_tt c2
  refine sq (rg ?_)
  refine z ?_ (h := fun ν => b0D (h := 28) ν qC34_un_26 qC34_zi_48)
  refine za (zk (nl (wp_ret' ?_)))
  exact ⟨VRes.tmp _ _ _ (by exact rfl) (brow_doms (h := 28) (L := []) (by kernel_rfl) (by first | exact (mixR_no hno).symm | exact mixR_no hno | exact (mixB_no hno).symm) (by first | rfl | (simp; done) | (simp; omega))), VRes.tmp _ _ _ (by exact rfl) (bval (congrArg Value.bool (by first | exact (mixR_no hno).symm | exact mixR_no hno | exact (mixB_no hno).symm)))⟩
 ·skip
  have hyes := mix_n c2
  have hla := okH_len (and_tt hyes).1
  have hlb := okH_len (and_tt hyes).2
  obtain ⟨c4, c5⟩ := or_ff c2
  have c4P := of_decide_eq_false c4
  have c5P := of_decide_eq_false c5
  refine sk (sq (rg ?_))
  refine z ?_ (h := fun ν => b0I (h := 29) ν qC34_un_22 qC34_zi_3)
  refine za (nl (sq (sq (rg (zk (nl (bkk ?_)))))))
  refine wp_loop' (fun (k : Nat) => k ≤ (hts l a).length) (fun (k : Nat) => [kB 3 c, kP 4 4 0, kS 10 16 0 ((hts l a).length), kS 11 19 0 ((hts l b).length), kS 12 29 0 ((mixA (mF c) (hts l a) (hts l b) k).length), kI 13 ((k : Nat) : Int), kO 4 29 1 true [(.slv l.length 1 (isl l) : A)], kO 16 3 1 true (pl (isl (hts l a))), kO 19 3 1 true (pl (isl (hts l b))), kO 29 3 1 true (pl (isl (mixA (mF c) (hts l a) (hts l b) k))), kF 21, kF 25, kF 28, kF 32, kF 46, kF 47, kF 48, kF 58, kF 59, kF 60, kF 63]) (fun (k : Nat) => (hts l a).length - k) ((0 : Nat)) (by exact (Nat.zero_le _ : 0 ≤ _)) (wkf id (wS <| wS <| wS <| wS <| wE (e := (vsl (by first | rfl | (simp; done) | (simp; omega) | omega | (exact congrArg List.length (by first | rfl | omega | (rw [mixA_snoc]; simp_all [mF]; done)))) rfl)) <| wE (e := (vint (by first | rfl | omega | (rw [mixA_snoc]; simp_all [mF]; done)))) <| wX <| wP <| wP <| wO (e := renob_eq (fun h => h) (congrArg isl (by first | rfl | omega | (rw [mixA_snoc]; simp_all [mF]; done)))) <| by (iterate 11 refine wF ?_); exact wN)) ?_
  rintro k inv6
  replace inv6 : k ≤ (hts l a).length := inv6
  have invk := inv6
  have hmk := mixA_len (mF c) (hts l a) (hts l b) k
  refine sq (sq (rg (zm (zm ?_))))
  refine z ?_ (h := fun ν => lnS ν qC34_un_22)
  refine z ?_ (h := fun ν => acts_bin ν vt vt (r_lss rfl))
  refine nl ?_
  refine wi (fun c7 => ?_) (fun c7 => ?_)
  ·skip
   have c7P := of_decide_eq_true c7
   refine sk (sq (bkk (sq (rg (zm (nl ?_))))))
   refine wi (b := c) (fun c8 => ?_) (fun c8 => ?_)
   ·skip
    refine wp_dr (zdm (zdm (zdm ?_)))
    refine zd ?_ (h := fun ν => ix0 ν qC34_un_22 qC34_sz_3 vt (hlt := (by first | omega | assumption | (rw [mixA_len]; omega))))
    refine zd ?_ (h := fun ν => lI ν qC34_ti_3 (by first | omega | assumption | (rw [mixA_len]; omega)))
    refine zdm (zdm ?_)
    refine zd ?_ (h := fun ν => ix0 ν qC34_un_22 qC34_sz_3 vt (hlt := (by first | omega | assumption | (rw [mixA_len]; omega))))
    refine zd ?_ (h := fun ν => lI ν qC34_ti_3 (by first | omega | assumption | (rw [mixA_len]; omega)))
    refine zd ?_ (h := fun ν => acts_max (c := (max (gI (hts l a) k) (gI (hts l b) k))) ν vt vt (by omega))
    refine zd ?_ (h := fun ν => acts_buildSlice' (h := 47) (xs := isl ([(max (gI (hts l a) k) (gI (hts l b) k))] : List Int)) ν qC34_un_22 qC34_zi_3 (.cons vt OpVs.nil) (by decide) (by decide) (by kernel_rfl) rfl)
    refine zd ?_ (h := fun ν => aI_ (h2 := 48) (L3 := ((mixA (mF c) (hts l a) (hts l b) k) ++ [(max (gI (hts l a) k) (gI (hts l b) k))])) ν qC34_un_22 qC34_zi_3 (by first | exact rfl | (simp; done) | (simp; omega) | omega) rfl (by first | exact rfl | (simp; done) | (simp; omega) | omega) (by first | omega | (simp; omega) | (simp at *; omega)))
    refine zd ?_ (h := fun ν => gt ν)
    refine dw_nil (rg (zm ?_))
    refine z ?_ (h := fun ν => acts_bin ν vt vc (rA (by first | omega | assumption | (rw [mixA_len]; omega)) (by first | omega | assumption | (rw [mixA_len]; omega))))
    refine za (nl ?_)
    exact loop_back ((k + 1)) (by show _ ≤ _; omega) (by show (hts l a).length - (k + 1) < (hts l a).length - k; omega) (wkf (subst1 [(29, 48)]) (wS <| wS <| wS <| wS <| wE (e := (vsl (by first | rfl | (simp; done) | (simp; omega) | omega | (exact congrArg List.length (by first | rfl | omega | (rw [mixA_snoc]; simp_all [mF]; done)))) rfl)) <| wE (e := (vint (by first | rfl | omega | (rw [mixA_snoc]; simp_all [mF]; done)))) <| wX <| wP <| wP <| wO (e := renob_eq (fun h => h) (congrArg isl (by first | rfl | omega | (rw [mixA_snoc]; simp_all [mF]; done)))) <| by (iterate 11 refine wF ?_); exact wN))
   ·skip
    refine wp_dr (zdm (zdm (zdm ?_)))
    refine zd ?_ (h := fun ν => ix0 ν qC34_un_22 qC34_sz_3 vt (hlt := (by first | omega | assumption | (rw [mixA_len]; omega))))
    refine zd ?_ (h := fun ν => lI ν qC34_ti_3 (by first | omega | assumption | (rw [mixA_len]; omega)))
    refine zdm (zdm ?_)
    refine zd ?_ (h := fun ν => ix0 ν qC34_un_22 qC34_sz_3 vt (hlt := (by first | omega | assumption | (rw [mixA_len]; omega))))
    refine zd ?_ (h := fun ν => lI ν qC34_ti_3 (by first | omega | assumption | (rw [mixA_len]; omega)))
    refine zd ?_ (h := fun ν => acts_min (c := (min (gI (hts l a) k) (gI (hts l b) k))) ν vt vt (by omega))
    refine zd ?_ (h := fun ν => acts_buildSlice' (h := 59) (xs := isl ([(min (gI (hts l a) k) (gI (hts l b) k))] : List Int)) ν qC34_un_22 qC34_zi_3 (.cons vt OpVs.nil) (by decide) (by decide) (by kernel_rfl) rfl)
    refine zd ?_ (h := fun ν => aI_ (h2 := 60) (L3 := ((mixA (mF c) (hts l a) (hts l b) k) ++ [(min (gI (hts l a) k) (gI (hts l b) k))])) ν qC34_un_22 qC34_zi_3 (by first | exact rfl | (simp; done) | (simp; omega) | omega) rfl (by first | exact rfl | (simp; done) | (simp; omega) | omega) (by first | omega | (simp; omega) | (simp at *; omega)))
    refine zd ?_ (h := fun ν => gt ν)
    refine dw_nil (rg (zm ?_))
    refine z ?_ (h := fun ν => acts_bin ν vt vc (rA (by first | omega | assumption | (rw [mixA_len]; omega)) (by first | omega | assumption | (rw [mixA_len]; omega))))
    refine za (nl ?_)
    exact loop_back ((k + 1)) (by show _ ≤ _; omega) (by show (hts l a).length - (k + 1) < (hts l a).length - k; omega) (wkf (subst1 [(29, 60)]) (wS <| wS <| wS <| wS <| wE (e := (vsl (by first | rfl | (simp; done) | (simp; omega) | omega | (exact congrArg List.length (by first | rfl | omega | (rw [mixA_snoc]; simp_all [mF]; done)))) rfl)) <| wE (e := (vint (by first | rfl | omega | (rw [mixA_snoc]; simp_all [mF]; done)))) <| wX <| wP <| wP <| wO (e := renob_eq (fun h => h) (congrArg isl (by first | rfl | omega | (rw [mixA_snoc]; simp_all [mF]; done)))) <| by (iterate 11 refine wF ?_); exact wN))
  ·skip
   have c7P := of_decide_eq_false c7
   refine wp_exit' (sq (rg ?_))
   refine z ?_ (h := fun ν => acts_load_owns (xs := [(.slv l.length 1 (isl l) : A)]) ν qC34_ti_29 rfl (by decide) rfl)
   refine zm ?_
   refine z ?_ (h := fun ν => acts_call2 ν (spec_TilingFrom_fn l (mixA (mF c) (hts l a) (hts l b) k) (by first | omega | assumption | (rw [mixA_len]; omega)) (by first | omega | assumption | (rw [mixA_len]; omega))) (ac (ArgV.regv _ _ 1 _) (ac (argv_own (by first | exact isl_len _ | (simp [isl_len, bsl_len, dsl_len, csl_len]; done) | (simp [isl_len, bsl_len, dsl_len, csl_len]; omega))) an)) (ResV.row _ _ _ _ 63) rv)
   refine z ?_ (h := fun ν => acts_extract ν (by exact rfl))
   refine z ?_ (h := fun ν => acts_extract ν (by exact rfl))
   refine za (za (nl (wp_ret' ?_)))
   exact ⟨VRes.tmp _ _ _ (by exact rfl) (brow_doms (h := 63) (L := (tilF l (mixA (mF c) (hts l a) (hts l b) k))) (by kernel_rfl) (by first | exact (mix_ys hyes (by omega) (by omega)).1.symm | exact (mix_ys hyes (by omega) (by omega)).2.symm) (by first | rfl | (simp; done) | (simp; omega))), VRes.tmp _ _ _ (by exact rfl) (bval (congrArg Value.bool (by first | exact (mix_ys hyes (by omega) (by omega)).1.symm | exact (mix_ys hyes (by omega) (by omega)).2.symm)))⟩

set_option maxHeartbeats 4000000 in
set_option maxRecDepth 100000 in
theorem spec_LowerOf_fn (l : List Int) (a b : List Dom) (hl : l.length ≤ 4194304) (ha : a.length ≤ 2097152) (hb : b.length ≤ 2097152) : Fn Try.prog 22 [.agg [(.slv l.length 1 (isl l) : A)], .a (.slv a.length 3 (dsl a)), .a (.slv b.length 3 (dsl b))] [.row 48 3 (mixR false l a b).length (dsl (mixR false l a b)), .val (.bool (mixB false l a b))] := by
 refine fn_intro (N := 14) Try.func22 rfl (by kernel_rfl) rfl (Nat.le_of_ble_eq_true rfl) [3, 11] (ret2 rfl rfl (by intro u hu; injection hu with hu; subst hu; rfl)) (fun W => ?_)
 show Wp _ _ _ [kV 0 (V.b (.agg [(.slv l.length 1 (isl l) : A)])), kV 1 (V.b (.a (.slv a.length 3 (dsl a)))), kV 2 (V.b (.a (.slv b.length 3 (dsl b)))), kF 3, kF 11]
 refine sq (rg ?_)
 refine z ?_ (h := fun ν => acts_box (h := 3) ν xt (by exact ob1 rfl))
 refine zk (zk (nl (sq (rg ?_))))
 refine z ?_ (h := fun ν => acts_load_owns (xs := [(.slv l.length 1 (isl l) : A)]) ν qC34_ti_29 rfl (by decide) rfl)
 refine zm (zm ?_)
 refine z ?_ (h := fun ν => acts_call2 ν (spec_l14Join_fn l a b false (by omega) (by omega) (by omega)) (ac (ArgV.regv _ _ 1 _) (ac (ArgV.slv _ _ _ _) (ac (ArgV.slv _ _ _ _) (ac (ArgV.v vc) an)))) (ResV.row _ _ _ _ 11) rv)
 refine z ?_ (h := fun ν => acts_extract ν (by exact rfl))
 refine z ?_ (h := fun ν => acts_extract ν (by exact rfl))
 refine za (za (nl (wp_ret' ?_)))
 exact ⟨VRes.tmp _ _ _ (by exact rfl) (BRes.row 11 ((mixR false l a b).length) _ 3 _ (by kernel_rfl) (by first | exact dsl_len _ | (simp [isl_len, bsl_len, dsl_len, csl_len]; done) | (simp [isl_len, bsl_len, dsl_len, csl_len]; omega))), VRes.tmp _ _ _ (by exact rfl) (BRes.val _)⟩

set_option maxHeartbeats 4000000 in
set_option maxRecDepth 100000 in
theorem spec_HigherOf_fn (l : List Int) (a b : List Dom) (hl : l.length ≤ 4194304) (ha : a.length ≤ 2097152) (hb : b.length ≤ 2097152) : Fn Try.prog 19 [.agg [(.slv l.length 1 (isl l) : A)], .a (.slv a.length 3 (dsl a)), .a (.slv b.length 3 (dsl b))] [.row 48 3 (mixR true l a b).length (dsl (mixR true l a b)), .val (.bool (mixB true l a b))] := by
 refine fn_intro (N := 14) Try.func19 rfl (by kernel_rfl) rfl (Nat.le_of_ble_eq_true rfl) [3, 11] (ret2 rfl rfl (by intro u hu; injection hu with hu; subst hu; rfl)) (fun W => ?_)
 show Wp _ _ _ [kV 0 (V.b (.agg [(.slv l.length 1 (isl l) : A)])), kV 1 (V.b (.a (.slv a.length 3 (dsl a)))), kV 2 (V.b (.a (.slv b.length 3 (dsl b)))), kF 3, kF 11]
 refine sq (rg ?_)
 refine z ?_ (h := fun ν => acts_box (h := 3) ν xt (by exact ob1 rfl))
 refine zk (zk (nl (sq (rg ?_))))
 refine z ?_ (h := fun ν => acts_load_owns (xs := [(.slv l.length 1 (isl l) : A)]) ν qC34_ti_29 rfl (by decide) rfl)
 refine zm (zm ?_)
 refine z ?_ (h := fun ν => acts_call2 ν (spec_l14Join_fn l a b true (by omega) (by omega) (by omega)) (ac (ArgV.regv _ _ 1 _) (ac (ArgV.slv _ _ _ _) (ac (ArgV.slv _ _ _ _) (ac (ArgV.v vc) an)))) (ResV.row _ _ _ _ 11) rv)
 refine z ?_ (h := fun ν => acts_extract ν (by exact rfl))
 refine z ?_ (h := fun ν => acts_extract ν (by exact rfl))
 refine za (za (nl (wp_ret' ?_)))
 exact ⟨VRes.tmp _ _ _ (by exact rfl) (BRes.row 11 ((mixR true l a b).length) _ 3 _ (by kernel_rfl) (by first | exact dsl_len _ | (simp [isl_len, bsl_len, dsl_len, csl_len]; done) | (simp [isl_len, bsl_len, dsl_len, csl_len]; omega))), VRes.tmp _ _ _ (by exact rfl) (BRes.val _)⟩
end Cl
end Go.Proofs.Ytjgimiicfekcpaa
