/- Walks over clean states, printed by wg.py. No statement is proved here. -/
import Derived.Test.YtonlghbbdcddoaaP14
import Derived.Test.YtonlghbbdcddoaaP7
import Derived.Test.YtonlghbbdcddoaaP8
import Derived.Test.YtonlghbbdcddoaaE9
import Derived.Test.YtonlghbbdcddoaaClB
namespace Go.Proofs.Ytonlghbbdcddoaa
namespace Cl
open Go.ChangeShapes Go.WideShapes Go.ChangeAt Go.RowKit
set_option maxRecDepth 20000
/-! drawn orders of long regions: ancestors as masks -/
def ancsM : List Oper → List Nat → List Nat
  | [], acc => acc
  | o :: r, acc => ancsM r (acc ++ [(depsOf o).foldl (fun a j => a ||| 2 ^ j ||| acc.getD j 0) 0])
def okPairsM : List (List Key × List Key) → List Nat → Nat → List (List Key × List Key) → Bool
  | [], _, _, _ => true
  | x :: r, bn, i, prev => (prev.zipIdx.all fun y => (bn.getD i 0).testBit y.2 || apart2 y.1 x) && okPairsM r bn (i + 1) (prev ++ [x])
def MRel (a : List (List Nat)) (b : List Nat) : Prop := a.length = b.length ∧ ∀ j i, (b.getD j 0).testBit i = true → i ∈ a.getD j []
theorem fold_bitM (acc : List Nat) (i : Nat) : ∀ (ds : List Nat) (z : Nat), (ds.foldl (fun a j => a ||| 2 ^ j ||| acc.getD j 0) z).testBit i = true → z.testBit i = true ∨ ∃ j ∈ ds, j = i ∨ (acc.getD j 0).testBit i = true := by
  intro ds
  induction ds with
  | nil => intro z h; exact .inl h
  | cons d ds ih =>
    intro z h
    rw [List.foldl_cons] at h
    rcases ih _ h with h | ⟨j, hj, h⟩
    · rw [Nat.testBit_or, Nat.testBit_or, Nat.testBit_two_pow] at h
      simp only [Bool.or_eq_true, decide_eq_true_eq] at h
      rcases h with (h | h) | h
      · exact .inl h
      · exact .inr ⟨d, List.mem_cons_self .., .inl h⟩
      · exact .inr ⟨d, List.mem_cons_self .., .inr h⟩
    · exact .inr ⟨j, List.mem_cons_of_mem _ hj, h⟩
theorem ancsM_rel : ∀ (l : List Oper) (a : List (List Nat)) (b : List Nat), MRel a b → MRel (ancs l a) (ancsM l b) := by
  intro l
  induction l with
  | nil => intro a b h; exact h
  | cons o r ih =>
    intro a b h
    rw [ancs, ancsM]
    refine ih _ _ ⟨by rw [List.length_append, List.length_append, h.1]; rfl, fun j i hb => ?_⟩
    rcases Nat.lt_trichotomy j b.length with hj | hj | hj
    · rw [List.getD_eq_getElem?_getD, List.getElem?_append_left hj, ← List.getD_eq_getElem?_getD] at hb
      rw [List.getD_eq_getElem?_getD, List.getElem?_append_left (by rw [h.1]; exact hj), ← List.getD_eq_getElem?_getD]
      exact h.2 j i hb
    · subst hj
      rw [List.getD_eq_getElem?_getD, List.getElem?_append_right (Nat.le_refl _), Nat.sub_self] at hb
      rw [List.getD_eq_getElem?_getD, List.getElem?_append_right (by rw [h.1]; exact Nat.le_refl _), ← h.1, Nat.sub_self]
      simp only [List.getElem?_cons_zero, Option.getD_some] at hb ⊢
      rcases fold_bitM b i _ _ hb with hz | ⟨j, hj, hq⟩
      · simp at hz
      · rw [List.mem_append, List.mem_flatMap]
        rcases hq with rfl | hq
        · exact .inl hj
        · exact .inr ⟨j, hj, h.2 j i hq⟩
    · rw [List.getD_eq_getElem?_getD, List.getElem?_eq_none (by rw [List.length_append]; simp; omega)] at hb
      simp at hb
theorem okPairsM_ok {a : List (List Nat)} {b : List Nat} (h : MRel a b) : ∀ (xs : List (List Key × List Key)) (i : Nat) (prev : List (List Key × List Key)), okPairsM xs b i prev = true → okPairs xs a i prev = true := by
  intro xs
  induction xs with
  | nil => intro i prev _; rfl
  | cons x xs ih =>
    intro i prev hp
    rw [okPairsM, Bool.and_eq_true, List.all_eq_true] at hp
    rw [okPairs, Bool.and_eq_true, List.all_eq_true]
    refine ⟨fun y hy => ?_, ih _ _ hp.2⟩
    have := hp.1 y hy
    rw [Bool.or_eq_true] at this ⊢
    rcases this with h1 | h1
    · exact .inl (by rw [List.contains_iff_mem]; exact h.2 i y.2 h1)
    · exact .inr h1
theorem dw_nilM {Γ : Cx} {K : Exit → St → Prop} {σ : St} {l : List Oper} {acc : Tr} (hK : K .normal σ) (hp : okPairsM (acc.map keysOf) (ancsM l []) 0 [] = true := by kernel_rfl) : DW Γ l K [] acc σ :=
  dw_nil hK (okPairsM_ok (ancsM_rel l [] [] ⟨rfl, fun j i h => by simp at h⟩) _ _ _ hp)


theorem lt_r13 {b : List Nat} {c : Cu} {R : List Int} (h : (r13 b 8 c).1 = R) : LT R ∧ simB R = true := by
  subst h
  obtain ⟨h1, h2, h3⟩ := r13_ok b 8 c
  exact ⟨LT.of (simB_ok h1).1 h2 h3, h1⟩
theorem flips_mem {P : List Dom} {c : Cel} (h : c ∈ flipsOf P) : canB P c.x c.y = true := by
  unfold flipsOf flN at h
  obtain ⟨i, hi, rfl⟩ := List.mem_map.1 h
  exact (List.mem_filter.1 hi).2
theorem flips_in {P : List Dom} {k : Nat} (hk : k < (flipsOf P).length) : canB P (gC (flipsOf P) k).x (gC (flipsOf P) k).y = true := flips_mem (by rw [gC_eq hk]; exact List.getElem_mem hk)
/-- what is known of a flip's heights -/
structure HF (R : List Int) (P : List Dom) (c : Cel) : Prop where
  st : (simB R && isTil R (flipAt P c)) = true
  ch : chK (htsF R P) (htsF R (flipAt P c)) 81 = 1
  sq : (hsum (htsF R (flipAt P c)) - hsum (htsF R P)) * (hsum (htsF R (flipAt P c)) - hsum (htsF R P)) = 16
  b1 : -1000000 ≤ hsum (htsF R P) ∧ hsum (htsF R P) ≤ 1000000
  b2 : -1000000 ≤ hsum (htsF R (flipAt P c)) ∧ hsum (htsF R (flipAt P c)) ≤ 1000000
theorem HF.of {R : List Int} {P : List Dom} (hs : simB R = true) (h : TilS (regSet R) P) {k : Nat} (hk : k < (flipsOf P).length) : HF R P (gC (flipsOf P) k) := by
  have hc := flips_in hk
  have ho := (simB_ok hs).1
  have t1 := til_isTil ho h
  have t2 := til_isTil ho (flipAt_til h hc)
  obtain ⟨f1, f2⟩ := flip_law hs h hc
  refine ⟨by rw [hs, t2]; rfl, f1, ?_, hsum_bd (fun v _ => hts_small t1 hs v) (by rw [htsF_len]; omega), hsum_bd (fun v _ => hts_small t2 hs v) (by rw [htsF_len]; omega)⟩
  rcases f2 with f | f <;> rw [f] <;> rfl

theorem qP15_sz_26 : (Try.prog.info? 26).map (·.size) = some 1 := by kernel_rfl
theorem qP15_sz_3 : (Try.prog.info? 3).map (·.size) = some 1 := by kernel_rfl
theorem qP15_sz_46 : (Try.prog.info? 46).map (·.size) = some 2 := by kernel_rfl
theorem qP15_ti_26 : TI Try.prog 26 false 1 := ⟨⟨_, Try.underlying26, rfl⟩, by kernel_rfl⟩
theorem qP15_ti_29 : TI Try.prog 29 true 1 := ⟨⟨_, Try.underlying29, rfl⟩, by kernel_rfl⟩
theorem qP15_ti_3 : TI Try.prog 3 false 1 := ⟨⟨_, Try.underlying3, rfl⟩, by kernel_rfl⟩
theorem qP15_ti_46 : TI Try.prog 46 true 2 := ⟨⟨_, Try.underlying46, rfl⟩, by kernel_rfl⟩
theorem qP15_un_22 : Try.prog.underlying 22 = some (.slice 3) := Try.underlying22
theorem qP15_un_42 : Try.prog.underlying 42 = some (.slice 46) := Try.underlying42
theorem qP15_un_85 : Try.prog.underlying 85 = some (.slice 26) := Try.underlying85
theorem qP15_zi_29 : ZI Try.prog 29 (.agg #[.slice none 0 0]) 1 24 := by unfold ZI; kernel_rfl
set_option maxHeartbeats 4000000 in
set_option maxRecDepth 100000 in
theorem spec_l13Region_fn (b : List Nat) (c : Cu) (hb : b.length ≤ 1048576) (hy : ∀ x ∈ b, x < 256) (hi : c.i ≤ b.length) : FnO Try.prog 62 [.a (.ptr 1 0)] [(.o 1, some (.o ⟨91, 3, true, [(.slv b.length 1 (ysl b) : A), aI ((c.i : Nat) : Int), aI c.h]⟩))] (V.b (.agg [(.sl 900 0 ((r13 b 8 c).1.length) : A)])) [(.o 1, some (.o ⟨91, 3, true, [(.slv b.length 1 (ysl b) : A), aI ((((r13 b 8 c).2).i : Nat) : Int), aI (((r13 b 8 c).2).h)]⟩)), (.o 900, some (.o ⟨3, 1, true, pl (isl ((r13 b 8 c).1))⟩))] [1] := by
 refine fn_introO (N := 20) Try.func62 rfl (by kernel_rfl) rfl (Nat.le_of_ble_eq_true rfl) rfl rfl (by kernel_rfl) (by kernel_rfl) ⟨ocs (by kernel_rfl), trivial⟩ [2, 4, 10, 12, 15, 16, 19, 20, 21, 22, 23] (retO1 rfl) (fun W own kp im0 => ?_)
 show Wp _ _ _ [kP 0 1 0, kO 1 91 3 true [(.slv b.length 1 (ysl b) : A), aI ((c.i : Nat) : Int), aI c.h], kF 2, kF 4, kF 10, kF 12, kF 15, kF 16, kF 19, kF 20, kF 21, kF 22, kF 23]
 refine sq (rg ?_)
 refine z ?_ (h := fun ν => acts_alloc' (h := 2) (cap := 1) (s := 1) (cells := [(.val (.slice none 0 0) : A)]) ν qP15_zi_29 rfl rfl (by decide))
 refine nl (sq (sq (rg (zk (nl (bkk ?_))))))
 refine wp_loop' (fun ((k, cz) : Nat × Cu) => k ≤ 8 ∧ cz.i ≤ b.length ∧ r13 b (8 - k) cz = (r13 b 8 c)) (fun ((k, cz) : Nat × Cu) => [kP 0 1 0, kP 2 2 0, kI 3 ((k : Nat) : Int), kO 1 91 3 true [(.slv b.length 1 (ysl b) : A), aI ((cz.i : Nat) : Int), aI cz.h], kO 2 29 1 true [(.val (.slice none 0 0) : A)], kF 4, kF 10, kF 12, kF 15, kF 16, kF 19, kF 20, kF 21, kF 22, kF 23]) (fun ((k, cz) : Nat × Cu) => 8 - k) ((0 : Nat), (c : Cu)) (by exact ⟨Nat.zero_le _, hi, rfl⟩) (wkf id (wS <| wS <| wE (e := (vint (by rfl))) <| wX <| wX <| by (iterate 10 refine wF ?_); exact wN)) ?_
 rintro ⟨k, cz⟩ inv1
 replace inv1 : k ≤ 8 ∧ cz.i ≤ b.length ∧ r13 b (8 - k) cz = (r13 b 8 c) := inv1
 obtain ⟨hk8, hi0, hr13⟩ := inv1
 refine sq (sq (rg (zm ?_)))
 refine z ?_ (h := fun ν => acts_bin ν vt vc (r_lss rfl))
 refine nl ?_
 refine wi (fun c2 => ?_) (fun c2 => ?_)
 ·skip
  have c2P := of_decide_eq_true c2
  have hi4 := r3_i (b := b) hi0
  have hl8 := r3_len b cz
  have hcb := cnt_bd (regSet_lt (r3_ok b cz))
  refine sk (sq (bkk (sq (rg (zm ?_)))))
  refine z ?_ (h := fun ν => acts_callO (d := 10) (f := 92) (os := [(.o 1, some (.o ⟨91, 3, true, [(.slv b.length 1 (ysl b) : A), aI ((cz.i : Nat) : Int), aI cz.h]⟩))]) (os' := [(.o 1, some (.o ⟨91, 3, true, [(.slv b.length 1 (ysl b) : A), aI ((((r3 b cz).2).i : Nat) : Int), aI (((r3 b cz).2).h)]⟩)), (.o 4, some (.o ⟨3, 1, true, pl (isl ((r3 b cz).1))⟩))]) (r := V.b (.agg [(.sl 4 0 ((r3 b cz).1.length) : A)])) (bs := [.a (.ptr 1 0)]) (keep := [1]) (new := [4]) (dead := []) ν (FnO.ren' (spec_l03Region_fn b cz (by omega) (by omega) (by omega)) (subst1 [(900, 4)]) rfl rfl (by kernel_rfl) (by kernel_rfl) ⟨ocs (by kernel_rfl), oc_pl (fun _ => rfl), trivial⟩ (by kernel_rfl) rfl (by simp only [renS, Ob.ren, pl_ren, rws_ren_doms, rws_ren_ints, rws_ren_cels, rwI_ren, rwD_ren]; first | done | rfl) (by simp only [renS, Ob.ren, pl_ren, rws_ren_doms, rws_ren_ints, rws_ren_cels, rwI_ren, rwD_ren]; first | done | rfl) rfl rfl) (by kernel_rfl) ⟨ocs (by kernel_rfl), oc_pl (fun _ => rfl), trivial⟩ (by kernel_rfl) (ArgOs.cons (ArgO.slot 9 (.a (.ptr 1 0))) (ArgOs.nil)))
  refine z ?_ (h := fun ν => acts_alloc' (h := 10) (cap := 1) (s := 1) (cells := [(.val (.slice none 0 0) : A)]) ν qP15_zi_29 rfl rfl (by decide))
  refine z ?_ (h := fun _ => acts_store (cells := [(.sl 4 0 ((r3 b cz).1.length) : A)]) qP15_ti_29 xt (by exact rfl) (by decide) (by exact ob1 rfl) (by exact Nat.le_of_ble_eq_true rfl) (by exact rfl))
  refine nl (sq ?_)
  rcases Bool.eq_false_or_eq_true ((simB ((r3 b cz).1))) with c3 | c3
  ·skip
   have hsi := c3
   refine rg ?_
   refine z ?_ (h := fun ν => acts_load_owns (xs := [(.sl 4 0 ((r3 b cz).1.length) : A)]) ν qP15_ti_29 rfl (by decide) rfl)
   refine z ?_ (h := fun ν => acts_call1 ν (spec_IsSimple_fn ((r3 b cz).1) (by omega)) (ac (ArgV.reg _ _ _ (s := 1) (by simp [isl]) (by exact List.take_of_length_le (by simp [isl]))) an) (resval (congrArg Value.bool c3)))
   refine zm ?_
   refine zg ?_ (h := fun ν => step_on rfl rfl (acts_load_owns (xs := [(.sl 4 0 ((r3 b cz).1.length) : A)]) ν qP15_ti_29 rfl (by decide) rfl))
   refine zg ?_ (h := fun ν => step_on rfl rfl (acts_call1 ν (spec_l07Count_fn ((r3 b cz).1) (by exact r3_ok _ _)) (ac (ArgV.reg _ _ _ (s := 1) (by simp [isl]) (by exact List.take_of_length_le (by simp [isl]))) an) rv))
   refine zg ?_ (h := fun ν => step_on rfl rfl (acts_call1 ν (spec_l01In_fn (((cnt (regSet ((r3 b cz).1))) : Nat) : Int) 1 120 ) (ac (ArgV.v vt) (ac (ArgV.v vc) (ac (ArgV.v vc) an))) rv))
   refine z ?_ (h := fun ν => acts_pick_t ν vt xt)
   refine nl ?_
   refine wi (b := (inB (((cnt (regSet ((r3 b cz).1))) : Nat) : Int) 1 120)) (fun c4 => ?_) (fun c4 => ?_)
   ·skip
    have hfin := hr13.symm.trans (r13_yes (k := 8 - k) (by omega) hsi c4)
    refine sq (rg ?_)
    refine z ?_ (h := fun ν => acts_load_owns (xs := [(.sl 4 0 ((r3 b cz).1.length) : A)]) ν qP15_ti_29 rfl (by decide) rfl)
    refine z ?_ (h := fun _ => acts_store (cells := [(.sl 4 0 ((r3 b cz).1.length) : A)]) qP15_ti_29 xt (by exact rfl) (by decide) (by exact ob1 rfl) (by exact Nat.le_of_ble_eq_true rfl) (by exact rfl))
    refine nl (wp_ret' ?_)
    exact ⟨[kP 2 2 0, kO 1 91 3 true [(.slv b.length 1 (ysl b) : A), aI ((((r3 b cz).2).i : Nat) : Int), aI (((r3 b cz).2).h)], kO 2 29 1 true [(.sl 900 0 ((r3 b cz).1.length) : A)], kO 900 3 1 true (pl (isl ((r3 b cz).1))), kF 4, kF 10, kF 12, kF 15, kF 16, kF 19, kF 20, kF 21, kF 22, kF 23], wkf (subst1 [(900, 4)]) (wS <| wX <| wX <| wP <| by (iterate 10 refine wF ?_); exact wN), ⟨obj_eq (c := [(.slv b.length 1 (ysl b) : A), aI ((((r3 b cz).2).i : Nat) : Int), aI (((r3 b cz).2).h)]) (by kernel_rfl) (by exact cu_cells (congrArg Prod.snd hfin).symm _ _), obj_eq (c := pl (isl ((r3 b cz).1))) (by kernel_rfl) (congrArg (fun z => pl (isl z)) (by exact (congrArg Prod.fst hfin).symm)), trivial⟩, vo_cells (h := 2) ⟨29, 1, true, [(.sl 900 0 ((r3 b cz).1.length) : A)]⟩ (by kernel_rfl) (by kernel_rfl) qP15_ti_29 (Nat.le_of_ble_eq_true rfl) (by (exact congrArg (fun z : Nat => [A.sl 900 0 z]) (by first | exact congrArg (fun z => z.1.length) hfin.symm | exact congrArg (fun z => z.1.length) hfin)))⟩
   ·skip
    have hnx := r13_no (k := 8 - k) (by omega) (.inr c4)
    refine sk (rg (zm ?_))
    refine z ?_ (h := fun ν => acts_bin ν vt vc (rA (by omega) (by omega)))
    refine za (nl ?_)
    exact loop_back ((k + 1), (r3 b cz).2) (by refine ⟨by omega, hi4, ?_⟩; rw [show 8 - (k + 1) = 8 - k - 1 by omega]; exact hnx.symm.trans hr13) (by show 8 - (k + 1) < 8 - k; omega) (wkf id (wS <| wS <| wE (e := (vint (by rfl))) <| wX <| wX <| by (iterate 10 refine wF ?_); exact wN))
  ·skip
   have hnx := r13_no (k := 8 - k) (by omega) (.inl c3)
   refine rg ?_
   refine z ?_ (h := fun ν => acts_load_owns (xs := [(.sl 4 0 ((r3 b cz).1.length) : A)]) ν qP15_ti_29 rfl (by decide) rfl)
   refine z ?_ (h := fun ν => acts_call1 ν (spec_IsSimple_fn ((r3 b cz).1) (by omega)) (ac (ArgV.reg _ _ _ (s := 1) (by simp [isl]) (by exact List.take_of_length_le (by simp [isl]))) an) (resval (congrArg Value.bool c3)))
   refine zm (zo (zo (zo ?_)))
   refine z ?_ (h := fun ν => acts_pick_f ν vt xc)
   refine nl (wf (sk (rg (zm ?_))))
   refine z ?_ (h := fun ν => acts_bin ν vt vc (rA (by omega) (by omega)))
   refine za (nl ?_)
   exact loop_back ((k + 1), (r3 b cz).2) (by refine ⟨by omega, hi4, ?_⟩; rw [show 8 - (k + 1) = 8 - k - 1 by omega]; exact hnx.symm.trans hr13) (by show 8 - (k + 1) < 8 - k; omega) (wkf id (wS <| wS <| wE (e := (vint (by rfl))) <| wX <| wX <| by (iterate 10 refine wF ?_); exact wN))
 ·skip
  have c2P := of_decide_eq_false c2
  have hend := r13_end (b := b) (k := 8 - k) (c2 := cz) (by omega)
  have hfin := hr13.symm.trans hend
  refine wp_exit' (sq (rg ?_))
  refine z ?_ (h := fun ν => acts_call1 ν (spec_Rectangle_fn 4 4 (by omega) (by omega)) (ac (ArgV.v vc) (ac (ArgV.v vc) an)) (ResV.reg _ _ _ _ 19))
  refine z ?_ (h := fun _ => acts_store (cells := [(.sl 19 0 ((rectR 4 4).length) : A)]) qP15_ti_29 xt (by exact rfl) (by decide) (by exact ob1 rfl) (by exact Nat.le_of_ble_eq_true rfl) (by exact rfl))
  refine nl (wp_ret' ?_)
  exact ⟨[kP 2 2 0, kO 1 91 3 true [(.slv b.length 1 (ysl b) : A), aI ((cz.i : Nat) : Int), aI cz.h], kO 2 29 1 true [(.sl 900 0 ((rectR 4 4).length) : A)], kO 900 3 1 true (pl (isl (rectR 4 4))), kF 4, kF 10, kF 12, kF 15, kF 16, kF 19, kF 20, kF 21, kF 22, kF 23], wkf (subst1 [(900, 19)]) (wS <| wX <| wX <| wP <| by (iterate 10 refine wF ?_); exact wN), ⟨obj_eq (c := [(.slv b.length 1 (ysl b) : A), aI ((cz.i : Nat) : Int), aI cz.h]) (by kernel_rfl) (by exact cu_cells (congrArg Prod.snd hfin).symm _ _), obj_eq (c := pl (isl (rectR 4 4))) (by kernel_rfl) (congrArg (fun z => pl (isl z)) (by exact (congrArg Prod.fst hfin).symm)), trivial⟩, vo_cells (h := 2) ⟨29, 1, true, [(.sl 900 0 ((rectR 4 4).length) : A)]⟩ (by kernel_rfl) (by kernel_rfl) qP15_ti_29 (Nat.le_of_ble_eq_true rfl) (by (exact congrArg (fun z : Nat => [A.sl 900 0 z]) (by first | exact congrArg (fun z => z.1.length) hfin.symm | exact congrArg (fun z => z.1.length) hfin)))⟩

set_option maxHeartbeats 4000000 in
set_option maxRecDepth 100000 in
theorem l13Region_R (b : List Nat) (c : Cu) (R : List Int) (cz : Cu) (hb : b.length ≤ 1048576) (hy : ∀ x ∈ b, x < 256) (hi : c.i ≤ b.length) (hR : (r13 b 8 c).1 = R) (hz : (r13 b 8 c).2 = cz) : FnO Try.prog 62 [.a (.ptr 1 0)] [(.o 1, some (.o ⟨91, 3, true, [(.slv b.length 1 (ysl b) : A), aI ((c.i : Nat) : Int), aI c.h]⟩))] (V.b (.agg [(.sl 900 0 R.length : A)])) [(.o 1, some (.o ⟨91, 3, true, [(.slv b.length 1 (ysl b) : A), aI ((cz.i : Nat) : Int), aI cz.h]⟩)), (.o 900, some (.o ⟨3, 1, true, pl (isl R)⟩))] [1] := by
 subst hR hz
 exact spec_l13Region_fn b c hb hy hi

set_option maxHeartbeats 4000000 in
set_option maxRecDepth 100000 in
theorem spec_l13Two_fn (b : List Nat) (c : Cu) (R : List Int) (cz : Cu) (hb : b.length ≤ 1048576) (hy : ∀ x ∈ b, x < 256) (hi : c.i ≤ b.length) (hR : (r13 b 8 c).1 = R) (hz : (r13 b 8 c).2 = cz) : FnO Try.prog 35 [.a (.ptr 1 0)] [(.o 1, some (.o ⟨91, 3, true, [(.slv b.length 1 (ysl b) : A), aI ((c.i : Nat) : Int), aI c.h]⟩))] (V.tup [.agg [(.sl 900 0 R.length : A)], .a (.slv ((gLd (ltR R) (cuX b cz (ltR R).length)).length) 3 (dsl (gLd (ltR R) (cuX b cz (ltR R).length)))), .a (.slv ((gLd (ltR R) (cuX b (cuN b cz (ltR R).length) (ltR R).length)).length) 3 (dsl (gLd (ltR R) (cuX b (cuN b cz (ltR R).length) (ltR R).length))))]) [(.o 1, some (.o ⟨91, 3, true, [(.slv b.length 1 (ysl b) : A), aI (((cuN b (cuN b cz (ltR R).length) (ltR R).length).i : Nat) : Int), aI ((cuN b (cuN b cz (ltR R).length) (ltR R).length).h)]⟩)), (.o 900, some (.o ⟨3, 1, true, pl (isl R)⟩))] [1] := by
 obtain ⟨hT, hsi⟩ := lt_r13 hR
 have h8 := (regOk_true hT.ok).1
 have hlen := hT.len
 have hpos := hT.pos
 have hxa : cuX b cz (ltR R).length < (ltR R).length := cuX_lt (by omega)
 have hxb : cuX b (cuN b cz (ltR R).length) (ltR R).length < (ltR R).length := cuX_lt (by omega)
 have hzi : cz.i ≤ b.length := hz ▸ r13_i 8 c hi
 have hzj := cuI_le (n := (ltR R).length) hzi
 refine fn_introO (N := 28) Try.func35 rfl (by kernel_rfl) rfl (Nat.le_of_ble_eq_true rfl) rfl rfl (by kernel_rfl) (by kernel_rfl) ⟨ocs (by kernel_rfl), trivial⟩ [2, 5, 9, 11, 15, 16, 24, 25, 28, 29, 30, 31] (retO3 rfl) (fun W own kp im0 => ?_)
 show Wp _ _ _ [kP 0 1 0, kO 1 91 3 true [(.slv b.length 1 (ysl b) : A), aI ((c.i : Nat) : Int), aI c.h], kF 2, kF 5, kF 9, kF 11, kF 15, kF 16, kF 24, kF 25, kF 28, kF 29, kF 30, kF 31]
 refine sq (rg ?_)
 refine z ?_ (h := fun ν => acts_alloc' (h := 2) (cap := 1) (s := 1) (cells := [(.val (.slice none 0 0) : A)]) ν qP15_zi_29 rfl rfl (by decide))
 refine zk (zk (nl (sq (rg (zm ?_)))))
 refine z ?_ (h := fun ν => acts_callO (d := 9) (f := 62) (os := [(.o 1, some (.o ⟨91, 3, true, [(.slv b.length 1 (ysl b) : A), aI ((c.i : Nat) : Int), aI c.h]⟩))]) (os' := [(.o 1, some (.o ⟨91, 3, true, [(.slv b.length 1 (ysl b) : A), aI ((cz.i : Nat) : Int), aI cz.h]⟩)), (.o 5, some (.o ⟨3, 1, true, pl (isl R)⟩))]) (r := V.b (.agg [(.sl 5 0 R.length : A)])) (bs := [.a (.ptr 1 0)]) (keep := [1]) (new := [5]) (dead := []) ν (FnO.ren' (l13Region_R b c R cz (by omega) (by omega) (by omega) (by exact hR) (by exact hz)) (subst1 [(900, 5)]) rfl rfl (by kernel_rfl) (by kernel_rfl) ⟨ocs (by kernel_rfl), oc_pl (fun _ => rfl), trivial⟩ (by kernel_rfl) rfl (by simp only [renS, Ob.ren, pl_ren, rws_ren_doms, rws_ren_ints, rws_ren_cels, rwI_ren, rwD_ren]; first | done | rfl) (by simp only [renS, Ob.ren, pl_ren, rws_ren_doms, rws_ren_ints, rws_ren_cels, rwI_ren, rwD_ren]; first | done | rfl) rfl rfl) (by kernel_rfl) ⟨ocs (by kernel_rfl), oc_pl (fun _ => rfl), trivial⟩ (by kernel_rfl) (ArgOs.cons (ArgO.slot 8 (.a (.ptr 1 0))) (ArgOs.nil)))
 refine z ?_ (h := fun ν => acts_alloc' (h := 9) (cap := 1) (s := 1) (cells := [(.val (.slice none 0 0) : A)]) ν qP15_zi_29 rfl rfl (by decide))
 refine z ?_ (h := fun _ => acts_store (cells := [(.sl 5 0 R.length : A)]) qP15_ti_29 xt (by exact rfl) (by decide) (by exact ob1 rfl) (by exact Nat.le_of_ble_eq_true rfl) (by exact rfl))
 refine nl (sq (rg ?_))
 refine z ?_ (h := fun ν => acts_load_owns (xs := [(.sl 5 0 R.length : A)]) ν qP15_ti_29 rfl (by decide) rfl)
 refine z ?_ (h := fun ν => acts_callO (d := 11) (f := 56) (os := [(.o 5, some (.o ⟨3, 1, true, pl (isl R)⟩))]) (os' := [(.o 5, some (.o ⟨3, 1, true, pl (isl R)⟩))]) (r := V.b (.a (.slvv 3 (vwD (ltR R))))) (bs := [.agg [(.sl 5 0 R.length : A)]]) (keep := [5]) (new := []) (dead := []) ν (FnO.ren' (spec_ListTilings_fn R (by omega)) (subst1 [(800, 5)]) rfl rfl (by kernel_rfl) (by kernel_rfl) ⟨oc_pl (fun _ => rfl), trivial⟩ (by kernel_rfl) rfl (by simp only [renS, Ob.ren, pl_ren, rws_ren_doms, rws_ren_ints, rws_ren_cels, rwI_ren, rwD_ren]; first | done | rfl) (by simp only [renS, Ob.ren, pl_ren, rws_ren_doms, rws_ren_ints, rws_ren_cels, rwI_ren, rwD_ren]; first | done | rfl) rfl rfl) (by kernel_rfl) ⟨oc_pl (fun _ => rfl), trivial⟩ (by kernel_rfl) (ArgOs.cons (ArgO.slot 10 (.agg [(.sl 5 0 R.length : A)])) (ArgOs.nil)))
 refine za (nl (sq (rg (zm (zm (zm ?_))))))
 refine z ?_ (h := fun ν => lnD ν qP15_un_85)
 refine z ?_ (h := fun ν => acts_callO (d := 16) (f := 63) (os := [(.o 1, some (.o ⟨91, 3, true, [(.slv b.length 1 (ysl b) : A), aI ((cz.i : Nat) : Int), aI cz.h]⟩))]) (os' := [(.o 1, some (.o ⟨91, 3, true, [(.slv b.length 1 (ysl b) : A), aI (((cuN b cz ((ltR R).length)).i : Nat) : Int), aI ((cuN b cz ((ltR R).length)).h)]⟩))]) (r := V.v (.int .i64 (((cuX b cz ((ltR R).length)) : Nat) : Int))) (bs := [.a (.ptr 1 0), .a (.val (.int .i64 (((ltR R).length : Nat) : Int)))]) (keep := [1]) (new := []) (dead := []) ν ((spec_l01Below_fn b cz ((ltR R).length) (by omega) (by omega) (by omega) (by omega) (by omega))) (by kernel_rfl) ⟨ocs (by kernel_rfl), trivial⟩ (by kernel_rfl) (ArgOs.cons (ArgO.slot 13 (.a (.ptr 1 0))) (ArgOs.cons ((ArgO.v vt)) (ArgOs.nil))))
 refine z ?_ (h := fun ν => xvv ν qP15_un_85 qP15_sz_26 vt (hlt := (by simp only [vwI_len, vwD_len]; first | omega | assumption)))
 refine z ?_ (h := fun ν => lvD ν qP15_ti_26 (by omega))
 refine za (nl (sq (wp_dr ?_)))
 refine zd ?_ (h := fun ν => acts_load_owns (xs := [(.sl 5 0 R.length : A)]) ν qP15_ti_29 rfl (by decide) rfl)
 refine zdm (zdm (zdm (zdm ?_)))
 refine zd ?_ (h := fun ν => lnD ν qP15_un_85)
 refine zd ?_ (h := fun ν => acts_callO (d := 25) (f := 63) (os := [(.o 1, some (.o ⟨91, 3, true, [(.slv b.length 1 (ysl b) : A), aI (((cuN b cz ((ltR R).length)).i : Nat) : Int), aI ((cuN b cz ((ltR R).length)).h)]⟩))]) (os' := [(.o 1, some (.o ⟨91, 3, true, [(.slv b.length 1 (ysl b) : A), aI (((cuN b (cuN b cz ((ltR R).length)) ((ltR R).length)).i : Nat) : Int), aI ((cuN b (cuN b cz ((ltR R).length)) ((ltR R).length)).h)]⟩))]) (r := V.v (.int .i64 (((cuX b (cuN b cz ((ltR R).length)) ((ltR R).length)) : Nat) : Int))) (bs := [.a (.ptr 1 0), .a (.val (.int .i64 (((ltR R).length : Nat) : Int)))]) (keep := [1]) (new := []) (dead := []) ν ((spec_l01Below_fn b (cuN b cz ((ltR R).length)) ((ltR R).length) (by omega) (by omega) (by omega) (by omega) (by omega))) (by kernel_rfl) ⟨ocs (by kernel_rfl), trivial⟩ (by kernel_rfl) (ArgOs.cons (ArgO.slot 22 (.a (.ptr 1 0))) (ArgOs.cons ((ArgO.v vt)) (ArgOs.nil))))
 refine zd ?_ (h := fun ν => xvv ν qP15_un_85 qP15_sz_26 vt (hlt := (by simp only [vwI_len, vwD_len]; first | omega | assumption)))
 refine zd ?_ (h := fun ν => lvD ν qP15_ti_26 (by omega))
 refine zd ?_ (h := fun _ => acts_store (cells := [(.sl 5 0 R.length : A)]) qP15_ti_29 xt (by exact rfl) (by decide) (by exact ob1 rfl) (by exact Nat.le_of_ble_eq_true rfl) (by exact rfl))
 refine zd ?_ (h := fun ν => gt ν)
 refine zd ?_ (h := fun ν => gt ν)
 refine dw_nil (wp_ret' ?_)
 exact ⟨[kP 2 2 0, kV 3 (V.b (.a (.slv ((gLd (ltR R) (cuX b cz ((ltR R).length))).length) 3 (dsl (gLd (ltR R) (cuX b cz ((ltR R).length))))))), kV 4 (V.b (.a (.slv ((gLd (ltR R) (cuX b (cuN b cz ((ltR R).length)) ((ltR R).length))).length) 3 (dsl (gLd (ltR R) (cuX b (cuN b cz ((ltR R).length)) ((ltR R).length))))))), kO 1 91 3 true [(.slv b.length 1 (ysl b) : A), aI (((cuN b (cuN b cz ((ltR R).length)) ((ltR R).length)).i : Nat) : Int), aI ((cuN b (cuN b cz ((ltR R).length)) ((ltR R).length)).h)], kO 2 29 1 true [(.sl 900 0 R.length : A)], kO 900 3 1 true (pl (isl R)), kF 5, kF 9, kF 11, kF 15, kF 16, kF 24, kF 25, kF 28, kF 29, kF 30, kF 31], wkf (subst1 [(900, 5)]) (wS <| wS <| wS <| wX <| wX <| wP <| by (iterate 11 refine wF ?_); exact wN), ⟨obj_eq (c := [(.slv b.length 1 (ysl b) : A), aI (((cuN b (cuN b cz ((ltR R).length)) ((ltR R).length)).i : Nat) : Int), aI ((cuN b (cuN b cz ((ltR R).length)) ((ltR R).length)).h)]) (by kernel_rfl) (by rfl), by kernel_rfl, trivial⟩, ⟨vo_cells (h := 2) ⟨29, 1, true, [(.sl 900 0 R.length : A)]⟩ (by kernel_rfl) (by kernel_rfl) qP15_ti_29 (Nat.le_of_ble_eq_true rfl) rfl, vo_eq 3 (.a (.slv ((gLd (ltR R) (cuX b cz ((ltR R).length))).length) 3 (dsl (gLd (ltR R) (cuX b cz ((ltR R).length)))))) (.a (.slv ((gLd (ltR R) (cuX b cz (ltR R).length)).length) 3 (dsl (gLd (ltR R) (cuX b cz (ltR R).length))))) (by kernel_rfl) (slvD_eq (by rfl)), vo_eq 4 (.a (.slv ((gLd (ltR R) (cuX b (cuN b cz ((ltR R).length)) ((ltR R).length))).length) 3 (dsl (gLd (ltR R) (cuX b (cuN b cz ((ltR R).length)) ((ltR R).length)))))) (.a (.slv ((gLd (ltR R) (cuX b (cuN b cz (ltR R).length) (ltR R).length)).length) 3 (dsl (gLd (ltR R) (cuX b (cuN b cz (ltR R).length) (ltR R).length))))) (by kernel_rfl) (slvD_eq (by rfl))⟩⟩

set_option maxHeartbeats 4000000 in
set_option maxRecDepth 100000 in
theorem spec_DrawHeights_fn (b : List Nat) (R : List Int) (cz : Cu) (hb : b.length ≤ 1048576) (hy : ∀ x ∈ b, x < 256) (hR : (r13 b 8 (cu0 b)).1 = R) (hz : (r13 b 8 (cu0 b)).2 = cz) : FnO Try.prog 18 [.a (.slv b.length 1 (ysl b))] [] (V.tup [.agg [(.sl 900 0 R.length : A)], .a (.slv ((gLd (ltR R) (cuX b cz (ltR R).length)).length) 3 (dsl (gLd (ltR R) (cuX b cz (ltR R).length)))), .a (.slv ((gLd (ltR R) (cuX b (cuN b cz (ltR R).length) (ltR R).length)).length) 3 (dsl (gLd (ltR R) (cuX b (cuN b cz (ltR R).length) (ltR R).length))))]) [(.o 900, some (.o ⟨3, 1, true, pl (isl R)⟩))] [] := by
 refine fn_introO (N := 18) Try.func18 rfl (by kernel_rfl) rfl (Nat.le_of_ble_eq_true rfl) rfl rfl (by kernel_rfl) (by kernel_rfl) trivial [2, 5, 10, 11, 18, 19, 20, 21] (retO3 rfl) (fun W own kp im0 => ?_)
 show Wp _ _ _ [kV 0 (V.b (.a (.slv b.length 1 (ysl b)))), kF 2, kF 5, kF 10, kF 11, kF 18, kF 19, kF 20, kF 21]
 refine sq (rg ?_)
 refine z ?_ (h := fun ν => acts_alloc' (h := 2) (cap := 1) (s := 1) (cells := [(.val (.slice none 0 0) : A)]) ν qP15_zi_29 rfl rfl (by decide))
 refine zk (zk (nl (sq (rg (zm ?_)))))
 refine z ?_ (h := fun ν => acts_callO (d := 10) (f := 36) (os := []) (os' := [(.o 5, some (.o ⟨91, 3, true, [(.slv b.length 1 (ysl b) : A), aI (((cu0 b).i : Nat) : Int), aI ((cu0 b).h)]⟩))]) (r := V.p 5 0) (bs := [.a (.slv b.length 1 (ysl b))]) (keep := []) (new := [5]) (dead := []) ν (FnO.ren' (spec_l01New_fn b (by omega) (by omega)) (subst1 [(900, 5)]) rfl rfl (by kernel_rfl) (by kernel_rfl) ⟨ocs (by kernel_rfl), trivial⟩ (by kernel_rfl) rfl (by simp only [renS, Ob.ren, pl_ren, rws_ren_doms, rws_ren_ints, rws_ren_cels, rwI_ren, rwD_ren]; first | done | rfl) (by simp only [renS, Ob.ren, pl_ren, rws_ren_doms, rws_ren_ints, rws_ren_cels, rwI_ren, rwD_ren]; first | done | rfl) rfl rfl) (by kernel_rfl) ⟨ocs (by kernel_rfl), trivial⟩ (by kernel_rfl) (ArgOs.cons (ArgO.slot 9 (.a (.slv b.length 1 (ysl b)))) (ArgOs.nil)))
 refine z ?_ (h := fun ν => acts_callO (d := 11) (f := 35) (os := [(.o 5, some (.o ⟨91, 3, true, [(.slv b.length 1 (ysl b) : A), aI (((cu0 b).i : Nat) : Int), aI ((cu0 b).h)]⟩))]) (os' := [(.o 5, some (.o ⟨91, 3, true, [(.slv b.length 1 (ysl b) : A), aI (((cuN b (cuN b cz (ltR R).length) (ltR R).length).i : Nat) : Int), aI ((cuN b (cuN b cz (ltR R).length) (ltR R).length).h)]⟩)), (.o 10, some (.o ⟨3, 1, true, pl (isl R)⟩))]) (r := V.tup [.agg [(.sl 10 0 R.length : A)], .a (.slv ((gLd (ltR R) (cuX b cz (ltR R).length)).length) 3 (dsl (gLd (ltR R) (cuX b cz (ltR R).length)))), .a (.slv ((gLd (ltR R) (cuX b (cuN b cz (ltR R).length) (ltR R).length)).length) 3 (dsl (gLd (ltR R) (cuX b (cuN b cz (ltR R).length) (ltR R).length))))]) (bs := [.a (.ptr 5 0)]) (keep := [5]) (new := [10]) (dead := []) ν (FnO.ren' (spec_l13Two_fn b (cu0 b) R cz (by omega) (by omega) (by exact (Nat.zero_le _ : 0 ≤ _)) (by exact hR) (by exact hz)) (subst1 [(1, 5), (900, 10)]) rfl rfl (by kernel_rfl) (by kernel_rfl) ⟨ocs (by kernel_rfl), oc_pl (fun _ => rfl), trivial⟩ (by kernel_rfl) rfl (by simp only [renS, Ob.ren, pl_ren, rws_ren_doms, rws_ren_ints, rws_ren_cels, rwI_ren, rwD_ren]; first | done | rfl) (by simp only [renS, Ob.ren, pl_ren, rws_ren_doms, rws_ren_ints, rws_ren_cels, rwI_ren, rwD_ren]; first | done | rfl) rfl rfl) (by kernel_rfl) ⟨ocs (by kernel_rfl), oc_pl (fun _ => rfl), trivial⟩ (by kernel_rfl) (ArgOs.cons (ArgO.slot 10 (.a (.ptr 5 0))) (ArgOs.nil)))
 refine zm ?_
 refine z ?_ (h := fun ν => acts_extract ν (by exact rfl))
 refine z ?_ (h := fun ν => acts_extract ν (by exact rfl))
 refine z ?_ (h := fun ν => acts_extract ν (by exact rfl))
 refine z ?_ (h := fun ν => acts_alloc' (h := 11) (cap := 1) (s := 1) (cells := [(.val (.slice none 0 0) : A)]) ν qP15_zi_29 rfl rfl (by decide))
 refine z ?_ (h := fun _ => acts_store (cells := [(.sl 10 0 R.length : A)]) qP15_ti_29 xt (by exact rfl) (by decide) (by exact ob1 rfl) (by exact Nat.le_of_ble_eq_true rfl) (by exact rfl))
 refine za (za (nl (sq (rg ?_))))
 refine z ?_ (h := fun ν => acts_load_owns (xs := [(.sl 10 0 R.length : A)]) ν qP15_ti_29 rfl (by decide) rfl)
 refine zm (zm ?_)
 refine z ?_ (h := fun _ => acts_store (cells := [(.sl 10 0 R.length : A)]) qP15_ti_29 xt (by exact rfl) (by decide) (by exact ob1 rfl) (by exact Nat.le_of_ble_eq_true rfl) (by exact rfl))
 refine za (za (nl (wp_ret' ?_)))
 exact ⟨[kP 2 2 0, kV 3 (V.b (.a (.slv ((gLd (ltR R) (cuX b cz (ltR R).length)).length) 3 (dsl (gLd (ltR R) (cuX b cz (ltR R).length)))))), kV 4 (V.b (.a (.slv ((gLd (ltR R) (cuX b (cuN b cz (ltR R).length) (ltR R).length)).length) 3 (dsl (gLd (ltR R) (cuX b (cuN b cz (ltR R).length) (ltR R).length)))))), kO 2 29 1 true [(.sl 900 0 R.length : A)], kO 900 3 1 true (pl (isl R)), kF 5, kF 10, kF 11, kF 18, kF 19, kF 20, kF 21], wkf (subst1 [(900, 10)]) (wS <| wS <| wS <| wX <| wP <| wF <| wF <| wF <| wF <| wF <| wF <| wF <| wN), ⟨by kernel_rfl, trivial⟩, ⟨vo_cells (h := 2) ⟨29, 1, true, [(.sl 900 0 R.length : A)]⟩ (by kernel_rfl) (by kernel_rfl) qP15_ti_29 (Nat.le_of_ble_eq_true rfl) rfl, VO.tmp 3 (.a (.slv ((gLd (ltR R) (cuX b cz (ltR R).length)).length) 3 (dsl (gLd (ltR R) (cuX b cz (ltR R).length))))) (by kernel_rfl), VO.tmp 4 (.a (.slv ((gLd (ltR R) (cuX b (cuN b cz (ltR R).length) (ltR R).length)).length) 3 (dsl (gLd (ltR R) (cuX b (cuN b cz (ltR R).length) (ltR R).length))))) (by kernel_rfl)⟩⟩

set_option maxHeartbeats 4000000 in
set_option maxRecDepth 100000 in
theorem DrawHeights_R (b : List Nat) (R : List Int) (cz : Cu) (P Q : List Dom) (hb : b.length ≤ 1048576) (hy : ∀ x ∈ b, x < 256) (hR : (r13 b 8 (cu0 b)).1 = R) (hz : (r13 b 8 (cu0 b)).2 = cz) (hP : (gLd (ltR R) (cuX b cz (ltR R).length)) = P) (hQ : (gLd (ltR R) (cuX b (cuN b cz (ltR R).length) (ltR R).length)) = Q) : FnO Try.prog 18 [.a (.slv b.length 1 (ysl b))] [] (V.tup [.agg [(.sl 900 0 R.length : A)], .a (.slv P.length 3 (dsl P)), .a (.slv Q.length 3 (dsl Q))]) [(.o 900, some (.o ⟨3, 1, true, pl (isl R)⟩))] [] := by
 subst hP hQ
 exact spec_DrawHeights_fn b R cz hb hy hR hz

set_option maxHeartbeats 4000000 in
set_option maxRecDepth 100000 in
theorem laws_btoi_fn (b : Bool) : Fn Try.prog 24 [.a (.val (.bool b))] [.val (.int .i64 (if b = true then 1 else 0))] := by
 refine fn_intro (N := 4) Try.func24 rfl (by kernel_rfl) rfl (Nat.le_of_ble_eq_true rfl) [] (ret1 rfl) (fun W => ?_)
 show Wp _ _ _ [kB 0 b]
 refine sq (rg (zk (nl (sq (sq (rg (zm (nl ?_))))))))
 refine wi (b := b) (fun c1 => ?_) (fun c1 => ?_)
 ·skip
  refine sq (rg (zk (nl (wp_ret' ?_))))
  exact VRes.tmp _ _ _ (by exact rfl) (bval (congrArg (Value.int .i64) (by (simp_all; done))))
 ·skip
  refine sk (sq (rg (zk (nl (wp_ret' ?_)))))
  exact VRes.tmp _ _ _ (by exact rfl) (bval (congrArg (Value.int .i64) (by (simp_all; done))))

set_option maxHeartbeats 4000000 in
set_option maxRecDepth 100000 in
theorem laws_FnHeights_R (b : List Nat) (R : List Int) (cz : Cu) (P Q : List Dom) (hbb : b.length ≤ 9223372036854775807) (hy : ∀ x ∈ b, x < 256) (hR : (r13 b 8 (cu0 b)).1 = R) (hz : (r13 b 8 (cu0 b)).2 = cz) (hP : (gLd (ltR R) (cuX b cz (ltR R).length)) = P) (hQ : (gLd (ltR R) (cuX b (cuN b cz (ltR R).length) (ltR R).length)) = Q) : Fn Try.prog 5 [.a (.slv b.length 1 (ysl b))] [.val (.bool true)] := by
 obtain ⟨hT, hsi⟩ := lt_r13 hR
 have h8 := (regOk_true hT.ok).1
 have hlen := hT.len
 have hpos := hT.pos
 have hxa : cuX b cz (ltR R).length < (ltR R).length := cuX_lt (by omega)
 have hxb : cuX b (cuN b cz (ltR R).length) (ltR R).length < (ltR R).length := cuX_lt (by omega)
 have hts : TilS (regSet R) P := hP ▸ hT.ts _ hxa
 have hPl : P.length ≤ 33 := hP ▸ hT.row _ hxa
 have htil := til_isTil hT.ok hts
 have hst : (simB R && isTil R P) = true := by rw [hsi, htil]; rfl
 have htf := tf_back hsi hts
 have hfl : (flipsOf P).length ≤ 64 := flN_len P 64
 have h81 := htsF_len R P
 have hest := est_law (x := ((atB b 0 % 8 : Nat) : Int)) (y := ((atB b 1 % 9 : Nat) : Int)) (by omega) (by omega)
 have htl := tilF_len R (htsF R P)
 refine fn_intro (N := 150) Try.func5 rfl (by kernel_rfl) rfl (Nat.le_of_ble_eq_true rfl) [3, 20, 23, 29, 33, 37, 46, 50, 53, 63, 68, 70, 72, 76, 90, 93, 95, 106, 109, 116, 122, 131, 140, 146] (ret1 rfl) (fun W => ?_)
 show Wp _ _ _ [kV 0 (V.b (.a (.slv b.length 1 (ysl b)))), kF 3, kF 20, kF 23, kF 29, kF 33, kF 37, kF 46, kF 50, kF 53, kF 63, kF 68, kF 70, kF 72, kF 76, kF 90, kF 93, kF 95, kF 106, kF 109, kF 116, kF 122, kF 131, kF 140, kF 146]
 refine sq (rg (zk (nl (sq (sq (rg (zm ?_)))))))
 refine z ?_ (h := fun ν => acts_call1 ν (laws_big_fn b ) (ac (ArgV.slv _ _ _ _) an) rv)
 refine nl ?_
 refine wi (b := (decide (1048576 < ((b.length : Nat) : Int)))) (fun c1 => ?_) (fun c1 => ?_)
 ·skip
  refine sq (rg (zk (nl (wp_ret' ?_))))
  exact VRes.tmp _ _ _ (by exact rfl) (BRes.val _)
 ·skip
  have hb : b.length ≤ 1048576 := by have := of_decide_eq_false c1; omega
  refine sk (sq (rg (zm ?_)))
  refine z ?_ (h := fun ν => acts_callO (d := 23) (f := 18) (os := []) (os' := [(.o 3, some (.o ⟨3, 1, true, pl (isl R)⟩))]) (r := V.tup [.agg [(.sl 3 0 R.length : A)], .a (.slv P.length 3 (dsl P)), .a (.slv Q.length 3 (dsl Q))]) (bs := [.a (.slv b.length 1 (ysl b))]) (keep := []) (new := [3]) (dead := []) ν (FnO.ren' (DrawHeights_R b R cz P Q (by with_reducible assumption) (by with_reducible assumption) (by with_reducible assumption) (by with_reducible assumption) (by with_reducible assumption) (by with_reducible assumption)) (subst1 [(900, 3)]) rfl rfl (by kernel_rfl) (by kernel_rfl) ⟨oc_pl (fun _ => rfl), trivial⟩ (by kernel_rfl) rfl (by simp only [renS, Ob.ren, pl_ren, rws_ren_doms, rws_ren_ints, rws_ren_cels, rwI_ren, rwD_ren]; first | done | rfl) (by simp only [renS, Ob.ren, pl_ren, rws_ren_doms, rws_ren_ints, rws_ren_cels, rwI_ren, rwD_ren]; first | done | rfl) rfl rfl) (by kernel_rfl) ⟨oc_pl (fun _ => rfl), trivial⟩ (by kernel_rfl) (ArgOs.cons (ArgO.slot 22 (.a (.slv b.length 1 (ysl b)))) (ArgOs.nil)))
  refine zm ?_
  refine z ?_ (h := fun ν => acts_extract ν (by exact rfl))
  refine z ?_ (h := fun ν => acts_extract ν (by exact rfl))
  refine z ?_ (h := fun ν => acts_extract ν (by exact rfl))
  refine z ?_ (h := fun ν => acts_alloc' (h := 20) (cap := 1) (s := 1) (cells := [(.val (.slice none 0 0) : A)]) ν qP15_zi_29 rfl rfl (by decide))
  refine z ?_ (h := fun _ => acts_store (cells := [(.sl 3 0 R.length : A)]) qP15_ti_29 xt (by exact rfl) (by decide) (by exact ob1 rfl) (by exact Nat.le_of_ble_eq_true rfl) (by exact rfl))
  refine za (za (nl (sq (rg ?_))))
  refine z ?_ (h := fun ν => acts_load_owns (xs := [(.sl 3 0 R.length : A)]) ν qP15_ti_29 rfl (by decide) rfl)
  refine zm ?_
  refine z ?_ (h := fun ν => acts_call1 ν (HeightsOf_yes R P (by omega) (by omega) (by omega)) (ac (ArgV.reg _ _ _ (s := 1) (by simp [isl]) (by exact List.take_of_length_le (by simp [isl]))) (ac (ArgV.slv _ _ _ _) an)) (ResV.row _ _ _ _ 29))
  refine za (nl (sq (rg ?_)))
  refine z ?_ (h := fun ν => acts_load_owns (xs := [(.sl 3 0 R.length : A)]) ν qP15_ti_29 rfl (by decide) rfl)
  refine zm ?_
  refine z ?_ (h := fun ν => acts_call2 ν (impl_TilingFrom_fn R (htsF R P) (by omega) (by omega)) (ac (ArgV.reg _ _ _ (s := 1) (by simp [isl]) (by exact List.take_of_length_le (by simp [isl]))) (ac (argv_own (by exact isl_len _)) an)) (ResV.row _ _ _ _ 33) (resval (congrArg Value.bool htf.1)))
  refine zm ?_
  refine z ?_ (h := fun ν => acts_extract ν (by exact rfl))
  refine z ?_ (h := fun ν => acts_extract ν (by exact rfl))
  refine za (za (nl (sq (sq ?_))))
  rcases Bool.eq_false_or_eq_true (decide ((((htsF R P).length : Nat) : Int) ≠ 81)) with c2 | c2
  ·skip
   have c2P := of_decide_eq_true c2
   refine rg (zm ?_)
   refine z ?_ (h := fun ν => lnS ν qP15_un_22)
   refine z ?_ (h := fun ν => acts_bin ν vt vc (r_neq (c := true) c2))
   refine zm (zo (zo ?_))
   refine z ?_ (h := fun ν => acts_pick_t ν vt xc)
   refine zm (zo (zo (zo (zo ?_))))
   refine z ?_ (h := fun ν => acts_pick_t ν vt xc)
   refine nl (wt (sq (rg (zk (nl (wp_ret' ?_))))))
   exact VRes.tmp _ _ _ (by exact rfl) (bval (congrArg Value.bool (by (exfalso; omega))))
  ·skip
   have c2P := of_decide_eq_false c2
   refine rg (zm ?_)
   refine z ?_ (h := fun ν => lnS ν qP15_un_22)
   refine z ?_ (h := fun ν => acts_bin ν vt vc (r_neq (c := false) c2))
   refine zm ?_
   refine zg ?_ (h := fun ν => step_on rfl rfl (mt ν))
   refine zg ?_ (h := fun ν => step_on rfl rfl (acts_un ν vt (r_not (c := false) rfl)))
   refine z ?_ (h := fun ν => acts_pick_f ν vt xt)
   refine zm ?_
   refine zg ?_ (h := fun ν => step_on rfl rfl (mt ν))
   refine zg ?_ (h := fun ν => step_on rfl rfl (mt ν))
   refine zg ?_ (h := fun ν => step_on rfl rfl (acts_call1 ν (spec_SameDominoes_fn (tilF R (htsF R P)) P (by omega) (by omega)) (ac (argv_own (by exact dsl_len _)) (ac (ArgV.slv _ _ _ _) an)) (resval (congrArg Value.bool (decide_eq_true htf.2)))))
   refine zg ?_ (h := fun ν => step_on rfl rfl (acts_un ν vt (r_not (c := false) rfl)))
   refine z ?_ (h := fun ν => acts_pick_f ν vt xt)
   refine nl (wf (sk (sq (rg (zm ?_)))))
   refine z ?_ (h := fun ν => acts_call1 ν (spec_FlipsOf_fn P (by omega)) (ac (ArgV.slv _ _ _ _) an) (ResV.row _ _ _ _ 50))
   refine za (nl (sq (sq (rg (zk (nl (bkk ?_)))))))
   refine wp_loop' (fun (k : Nat) => k ≤ (flipsOf P).length) (fun (k : Nat) => [kV 0 (V.b (.a (.slv b.length 1 (ysl b)))), kP 3 20 0, kV 4 (V.b (.a (.slv P.length 3 (dsl P)))), kS 6 29 0 ((htsF R P).length), kS 9 50 0 ((flipsOf P).length), kI 10 ((k : Nat) : Int), kO 3 3 1 true (pl (isl R)), kO 20 29 1 true [(.sl 3 0 R.length : A)], kO 29 3 1 true (pl (isl (htsF R P))), kO 50 46 2 true (pl (csl (flipsOf P))), kF 23, kF 33, kF 37, kF 46, kF 53, kF 63, kF 68, kF 70, kF 72, kF 76, kF 90, kF 93, kF 95, kF 106, kF 109, kF 116, kF 122, kF 131, kF 140, kF 146]) (fun (k : Nat) => (flipsOf P).length - k) ((0 : Nat)) (by exact (Nat.zero_le _ : 0 ≤ _)) (wkf id (wS <| wS <| wS <| wS <| wS <| wE (e := (vint (by rfl))) <| wP <| wX <| wP <| wP <| by (iterate 20 refine wF ?_); exact wN)) ?_
   rintro k inv3
   replace inv3 : k ≤ (flipsOf P).length := inv3
   have invk := inv3
   refine sq (sq (rg (zm (zm ?_))))
   refine z ?_ (h := fun ν => lnS ν qP15_un_42)
   refine z ?_ (h := fun ν => acts_bin ν vt vt (r_lss rfl))
   refine nl ?_
   refine wi (fun c4 => ?_) (fun c4 => ?_)
   ·skip
    have c4P := of_decide_eq_true c4
    have hkl : k < (flipsOf P).length := by omega
    have hF := HF.of hsi hts hkl
    have hQl := flipAt_len P (gC (flipsOf P) k)
    have h82 := htsF_len R (flipAt P (gC (flipsOf P) k))
    have hsq := hF.sq
    have hb1 := hF.b1
    have hb2 := hF.b2
    refine sk (sq (bkk (sq (rg (zm (zm (zm ?_)))))))
    refine z ?_ (h := fun ν => ix0 ν qP15_un_42 qP15_sz_46 vt (hlt := (by omega)))
    refine z ?_ (h := fun ν => lC ν qP15_ti_46 (by omega))
    refine z ?_ (h := fun ν => acts_call2 ν (spec_FlipAt_fn P (gC (flipsOf P) k) (by omega)) (ac (ArgV.slv _ _ _ _) (ac (ArgV.va va) an)) (ResV.row _ _ _ _ 63) rv)
    refine zm ?_
    refine z ?_ (h := fun ν => acts_extract ν (by exact rfl))
    refine z ?_ (h := fun ν => acts_extract ν (by exact rfl))
    refine za (za (nl (sq (rg ?_))))
    refine z ?_ (h := fun ν => acts_load_owns (xs := [(.sl 3 0 R.length : A)]) ν qP15_ti_29 rfl (by decide) rfl)
    refine zm ?_
    refine z ?_ (h := fun ν => acts_call1 ν (HeightsOf_yes R (flipAt P (gC (flipsOf P) k)) (by omega) (by omega) (by exact hF.st)) (ac (ArgV.reg _ _ _ (s := 1) (by simp [isl]) (by exact List.take_of_length_le (by simp [isl]))) (ac (argv_own (by exact dsl_len _)) an)) (ResV.row _ _ _ _ 68))
    refine za (nl (sq (sq (rg (zm ?_)))))
    refine z ?_ (h := fun ν => lnS ν qP15_un_22)
    refine zm ?_
    refine z ?_ (h := fun ν => lnS ν qP15_un_22)
    refine z ?_ (h := fun ν => acts_bin ν vt vt (r_neq rfl))
    refine nl ?_
    refine wi (fun c5 => ?_) (fun c5 => ?_)
    ·skip
     have c5P := of_decide_eq_true c5
     refine sq (rg (zk (nl (wp_ret' ?_))))
     exact VRes.tmp _ _ _ (by exact rfl) (bval (congrArg Value.bool (by (exfalso; omega))))
    ·skip
     have c5P := of_decide_eq_false c5
     refine sk (sq (rg (zk (nl (sq (sq (rg (zk (nl (bkk ?_))))))))))
     refine wp_loop' (fun (i : Nat) => i ≤ 81) (fun (i : Nat) => [kV 0 (V.b (.a (.slv b.length 1 (ysl b)))), kP 3 20 0, kV 4 (V.b (.a (.slv P.length 3 (dsl P)))), kS 6 29 0 ((htsF R P).length), kS 9 50 0 ((flipsOf P).length), kI 10 ((k : Nat) : Int), kS 13 68 0 ((htsF R (flipAt P (gC (flipsOf P) k))).length), kI 14 (((chK (htsF R P) (htsF R (flipAt P (gC (flipsOf P) k))) i) : Nat) : Int), kI 15 ((i : Nat) : Int), kO 3 3 1 true (pl (isl R)), kO 20 29 1 true [(.sl 3 0 R.length : A)], kO 29 3 1 true (pl (isl (htsF R P))), kO 50 46 2 true (pl (csl (flipsOf P))), kO 68 3 1 true (pl (isl (htsF R (flipAt P (gC (flipsOf P) k))))), kF 23, kF 33, kF 37, kF 46, kF 53, kF 63, kF 70, kF 72, kF 76, kF 90, kF 93, kF 95, kF 106, kF 109, kF 116, kF 122, kF 131, kF 140, kF 146]) (fun (i : Nat) => 81 - i) ((0 : Nat)) (by exact (Nat.zero_le _ : 0 ≤ _)) (wkf id (wS <| wS <| wS <| wS <| wS <| wS <| wS <| wE (e := (vint (by rfl))) <| wE (e := (vint (by rfl))) <| wP <| wX <| wP <| wP <| wP <| by (iterate 19 refine wF ?_); exact wN)) ?_
     rintro i inv6
     replace inv6 : i ≤ 81 := inv6
     have invi := inv6
     have hcl := chK_le (htsF R P) (htsF R (flipAt P (gC (flipsOf P) k))) i
     refine sq (sq (rg (zm (zm ?_))))
     refine z ?_ (h := fun ν => lnS ν qP15_un_22)
     refine z ?_ (h := fun ν => acts_bin ν vt vt (r_lss rfl))
     refine nl ?_
     refine wi (fun c7 => ?_) (fun c7 => ?_)
     ·skip
      have c7P := of_decide_eq_true c7
      have hil : i < 81 := by omega
      have hcs : chK (htsF R P) (htsF R (flipAt P (gC (flipsOf P) k))) (i + 1) = chK (htsF R P) (htsF R (flipAt P (gC (flipsOf P) k))) i + if gI (htsF R P) i = gI (htsF R (flipAt P (gC (flipsOf P) k))) i then 0 else 1 := rfl
      refine sk (sq (bkk (wp_dr (zdm (zdm (zdm ?_))))))
      refine zd ?_ (h := fun ν => ix0 ν qP15_un_22 qP15_sz_3 vt (hlt := (by omega)))
      refine zd ?_ (h := fun ν => lI ν qP15_ti_3 (by omega))
      refine zdm (zdm ?_)
      refine zd ?_ (h := fun ν => ix0 ν qP15_un_22 qP15_sz_3 vt (hlt := (by omega)))
      refine zd ?_ (h := fun ν => lI ν qP15_ti_3 (by omega))
      refine zd ?_ (h := fun ν => acts_bin ν vt vt (r_neq rfl))
      refine zd ?_ (h := fun ν => acts_call1 ν (laws_btoi_fn (decide ((gI (htsF R P) i) ≠ (gI (htsF R (flipAt P (gC (flipsOf P) k))) i))) ) (ac (ArgV.v vt) an) rv)
      refine zd ?_ (h := fun ν => acts_bin ν vt vt (rA (by omega) (by omega)))
      refine zd ?_ (h := fun ν => gt ν)
      refine dw_nilM (rg (zm ?_))
      refine z ?_ (h := fun ν => acts_bin ν vt vc (rA (by omega) (by omega)))
      refine za (nl ?_)
      exact loop_back ((i + 1)) (by show _ ≤ _; omega) (by show 81 - (i + 1) < 81 - i; omega) (wkf id (wS <| wS <| wS <| wS <| wS <| wS <| wS <| wE (e := (vint (by (rw [hcs]; split <;> simp_all <;> omega)))) <| wE (e := (vint (by rfl))) <| wP <| wX <| wP <| wP <| wP <| by (iterate 19 refine wF ?_); exact wN))
     ·skip
      have c7P := of_decide_eq_false c7
      have hie : i = 81 := by omega
      have hch : chK (htsF R P) (htsF R (flipAt P (gC (flipsOf P) k))) i = 1 := by rw [hie]; exact hF.ch
      refine wp_exit' (sq (rg (zm ?_)))
      refine z ?_ (h := fun ν => acts_call1 ν (impl_HeightSum_fn (htsF R (flipAt P (gC (flipsOf P) k))) (by omega)) (ac (argv_own (by exact isl_len _)) an) rv)
      refine zm ?_
      refine z ?_ (h := fun ν => acts_call1 ν (impl_HeightSum_fn (htsF R P) (by omega)) (ac (argv_own (by exact isl_len _)) an) rv)
      refine z ?_ (h := fun ν => acts_bin ν vt vt (rS (by omega) (by omega)))
      refine za (nl (sq ?_))
      rcases Bool.eq_false_or_eq_true (decide ((((chK (htsF R P) (htsF R (flipAt P (gC (flipsOf P) k))) i) : Nat) : Int) ≠ 1)) with c8 | c8
      ·skip
       have c8P := of_decide_eq_true c8
       refine rg (zm ?_)
       refine z ?_ (h := fun ν => acts_bin ν vt vc (r_neq (c := true) c8))
       refine zm (zo (zo (zo (zo ?_))))
       refine z ?_ (h := fun ν => acts_pick_t ν vt xc)
       refine nl (wt (sq (rg (zk (nl (wp_ret' ?_))))))
       exact VRes.tmp _ _ _ (by exact rfl) (bval (congrArg Value.bool (by (exfalso; omega))))
      ·skip
       have c8P := of_decide_eq_false c8
       refine rg (zm ?_)
       refine z ?_ (h := fun ν => acts_bin ν vt vc (r_neq (c := false) c8))
       refine zm ?_
       refine zg ?_ (h := fun ν => step_on rfl rfl (mt ν))
       refine zg ?_ (h := fun ν => step_on rfl rfl (mt ν))
       refine zg ?_ (h := fun ν => step_on rfl rfl (acts_bin ν vt vt (rM (by omega) (by omega))))
       refine zg ?_ (h := fun ν => step_on rfl rfl (acts_bin ν vt vc (r_neq rfl)))
       refine z ?_ (h := fun ν => acts_pick_f ν vt xt)
       refine nl ?_
       refine wi (fun c9 => ?_) (fun c9 => ?_)
       ·skip
        have c9P := of_decide_eq_true c9
        refine sq (rg (zk (nl (wp_ret' ?_))))
        exact VRes.tmp _ _ _ (by exact rfl) (bval (congrArg Value.bool (by (exfalso; omega))))
       ·skip
        have c9P := of_decide_eq_false c9
        refine sk (rg (zm ?_))
        refine z ?_ (h := fun ν => acts_bin ν vt vc (rA (by omega) (by omega)))
        refine za (nl ?_)
        exact loop_back ((k + 1)) (by show _ ≤ _; omega) (by show (flipsOf P).length - (k + 1) < (flipsOf P).length - k; omega) (wkf id (wS <| wS <| wS <| wS <| wS <| wE (e := (vint (by rfl))) <| wP <| wX <| wP <| wP <| by (iterate 20 refine wF ?_); exact wN))
   ·skip
    have c4P := of_decide_eq_false c4
    refine wp_exit' (sq (rg (zm ?_)))
    refine z ?_ (h := fun ν => acts_call1 ν (laws_at_fn b 0 (by omega) (by omega) (by omega)) (ac (ArgV.slv _ _ _ _) (ac (ArgV.v vc) an)) rv)
    refine z ?_ (h := fun ν => acts_bin ν vt vc (r_rem (c := ((((atB b 0) % 8) : Nat) : Int)) (by decide) (remN (a := (((atB b 0) : Nat) : Int)) (b := (atB b 0)) (c := 8) rfl)))
    refine za (nl (sq (rg (zm ?_))))
    refine z ?_ (h := fun ν => acts_call1 ν (laws_at_fn b 1 (by omega) (by omega) (by omega)) (ac (ArgV.slv _ _ _ _) (ac (ArgV.v vc) an)) rv)
    refine z ?_ (h := fun ν => acts_bin ν vt vc (r_rem (c := ((((atB b 1) % 9) : Nat) : Int)) (by decide) (remN (a := (((atB b 1) : Nat) : Int)) (b := (atB b 1)) (c := 9) rfl)))
    refine za (nl (sq ?_))
    rcases Bool.eq_false_or_eq_true (decide ((estep ((((atB b 0) % 8) : Nat) : Int) ((((atB b 1) % 9) : Nat) : Int) (((((atB b 0) % 8) : Nat) : Int) + 1) ((((atB b 1) % 9) : Nat) : Int)) = (-(estep (((((atB b 0) % 8) : Nat) : Int) + 1) ((((atB b 1) % 9) : Nat) : Int) ((((atB b 0) % 8) : Nat) : Int) ((((atB b 1) % 9) : Nat) : Int))))) with c10 | c10
    ·skip
     have c10P := of_decide_eq_true c10
     rcases Bool.eq_false_or_eq_true (decide ((estep ((((atB b 0) % 8) : Nat) : Int) ((((atB b 1) % 9) : Nat) : Int) (((((atB b 0) % 8) : Nat) : Int) + 1) ((((atB b 1) % 9) : Nat) : Int)) ≠ 0)) with c11 | c11
     ·skip
      have c11P := of_decide_eq_true c11
      refine rg (zm (zm (zm ?_)))
      refine z ?_ (h := fun ν => acts_bin ν vt vc (rA (by omega) (by omega)))
      refine zm ?_
      refine z ?_ (h := fun ν => acts_call1 ν (impl_EdgeStep_fn ((((atB b 0) % 8) : Nat) : Int) ((((atB b 1) % 9) : Nat) : Int) (((((atB b 0) % 8) : Nat) : Int) + 1) ((((atB b 1) % 9) : Nat) : Int) ) (ac (ArgV.v vt) (ac (ArgV.v vt) (ac (ArgV.v vt) (ac (ArgV.v vt) an)))) rv)
      refine zm ?_
      refine z ?_ (h := fun ν => acts_bin ν vt vc (rA (by omega) (by omega)))
      refine zm (zm (zm ?_))
      refine z ?_ (h := fun ν => acts_call1 ν (impl_EdgeStep_fn (((((atB b 0) % 8) : Nat) : Int) + 1) ((((atB b 1) % 9) : Nat) : Int) ((((atB b 0) % 8) : Nat) : Int) ((((atB b 1) % 9) : Nat) : Int) ) (ac (ArgV.v vt) (ac (ArgV.v vt) (ac (ArgV.v vt) (ac (ArgV.v vt) an)))) rv)
      refine z ?_ (h := fun ν => acts_un ν vt (r_neg (w64 (by omega) (by omega))))
      refine z ?_ (h := fun ν => acts_bin ν vt vt (r_eql (c := true) c10))
      refine zm ?_
      refine zg ?_ (h := fun ν => step_on rfl rfl (mt ν))
      refine zg ?_ (h := fun ν => step_on rfl rfl (mt ν))
      refine zg ?_ (h := fun ν => step_on rfl rfl (mt ν))
      refine zg ?_ (h := fun ν => step_on rfl rfl (acts_bin ν vt vc (rA (by omega) (by omega))))
      refine zg ?_ (h := fun ν => step_on rfl rfl (mt ν))
      refine zg ?_ (h := fun ν => step_on rfl rfl (acts_call1 ν (impl_EdgeStep_fn ((((atB b 0) % 8) : Nat) : Int) ((((atB b 1) % 9) : Nat) : Int) (((((atB b 0) % 8) : Nat) : Int) + 1) ((((atB b 1) % 9) : Nat) : Int) ) (ac (ArgV.v vt) (ac (ArgV.v vt) (ac (ArgV.v vt) (ac (ArgV.v vt) an)))) rv))
      refine zg ?_ (h := fun ν => step_on rfl rfl (acts_bin ν vt vc (r_neq (c := true) c11)))
      refine z ?_ (h := fun ν => acts_pick_t ν vt xt)
      refine zm ?_
      refine zg ?_ (h := fun ν => step_on rfl rfl (mt ν))
      refine zg ?_ (h := fun ν => step_on rfl rfl (mt ν))
      refine zg ?_ (h := fun ν => step_on rfl rfl (mt ν))
      refine zg ?_ (h := fun ν => step_on rfl rfl (mt ν))
      refine zg ?_ (h := fun ν => step_on rfl rfl (acts_bin ν vt vc (rA (by omega) (by omega))))
      refine zg ?_ (h := fun ν => step_on rfl rfl (acts_call1 ν (impl_EdgeStep_fn ((((atB b 1) % 9) : Nat) : Int) ((((atB b 0) % 8) : Nat) : Int) ((((atB b 1) % 9) : Nat) : Int) (((((atB b 0) % 8) : Nat) : Int) + 1) ) (ac (ArgV.v vt) (ac (ArgV.v vt) (ac (ArgV.v vt) (ac (ArgV.v vt) an)))) rv))
      refine zg ?_ (h := fun ν => step_on rfl rfl (mt ν))
      refine zg ?_ (h := fun ν => step_on rfl rfl (mt ν))
      refine zg ?_ (h := fun ν => step_on rfl rfl (acts_bin ν vt vc (rA (by omega) (by omega))))
      refine zg ?_ (h := fun ν => step_on rfl rfl (mt ν))
      refine zg ?_ (h := fun ν => step_on rfl rfl (mt ν))
      refine zg ?_ (h := fun ν => step_on rfl rfl (acts_call1 ν (impl_EdgeStep_fn ((((atB b 1) % 9) : Nat) : Int) (((((atB b 0) % 8) : Nat) : Int) + 1) ((((atB b 1) % 9) : Nat) : Int) ((((atB b 0) % 8) : Nat) : Int) ) (ac (ArgV.v vt) (ac (ArgV.v vt) (ac (ArgV.v vt) (ac (ArgV.v vt) an)))) rv))
      refine zg ?_ (h := fun ν => step_on rfl rfl (acts_un ν vt (r_neg (w64 (by omega) (by omega)))))
      refine zg ?_ (h := fun ν => step_on rfl rfl (acts_bin ν vt vt (r_eql rfl)))
      refine z ?_ (h := fun ν => acts_pick_t ν vt xt)
      refine za (nl (wp_ret' ?_))
      exact VRes.tmp _ _ _ (by exact rfl) (bval (congrArg Value.bool (by (simp_all; done))))
     ·skip
      have c11P := of_decide_eq_false c11
      refine rg (zm (zm (zm ?_)))
      refine z ?_ (h := fun ν => acts_bin ν vt vc (rA (by omega) (by omega)))
      refine zm ?_
      refine z ?_ (h := fun ν => acts_call1 ν (impl_EdgeStep_fn ((((atB b 0) % 8) : Nat) : Int) ((((atB b 1) % 9) : Nat) : Int) (((((atB b 0) % 8) : Nat) : Int) + 1) ((((atB b 1) % 9) : Nat) : Int) ) (ac (ArgV.v vt) (ac (ArgV.v vt) (ac (ArgV.v vt) (ac (ArgV.v vt) an)))) rv)
      refine zm ?_
      refine z ?_ (h := fun ν => acts_bin ν vt vc (rA (by omega) (by omega)))
      refine zm (zm (zm ?_))
      refine z ?_ (h := fun ν => acts_call1 ν (impl_EdgeStep_fn (((((atB b 0) % 8) : Nat) : Int) + 1) ((((atB b 1) % 9) : Nat) : Int) ((((atB b 0) % 8) : Nat) : Int) ((((atB b 1) % 9) : Nat) : Int) ) (ac (ArgV.v vt) (ac (ArgV.v vt) (ac (ArgV.v vt) (ac (ArgV.v vt) an)))) rv)
      refine z ?_ (h := fun ν => acts_un ν vt (r_neg (w64 (by omega) (by omega))))
      refine z ?_ (h := fun ν => acts_bin ν vt vt (r_eql (c := true) c10))
      refine zm ?_
      refine zg ?_ (h := fun ν => step_on rfl rfl (mt ν))
      refine zg ?_ (h := fun ν => step_on rfl rfl (mt ν))
      refine zg ?_ (h := fun ν => step_on rfl rfl (mt ν))
      refine zg ?_ (h := fun ν => step_on rfl rfl (acts_bin ν vt vc (rA (by omega) (by omega))))
      refine zg ?_ (h := fun ν => step_on rfl rfl (mt ν))
      refine zg ?_ (h := fun ν => step_on rfl rfl (acts_call1 ν (impl_EdgeStep_fn ((((atB b 0) % 8) : Nat) : Int) ((((atB b 1) % 9) : Nat) : Int) (((((atB b 0) % 8) : Nat) : Int) + 1) ((((atB b 1) % 9) : Nat) : Int) ) (ac (ArgV.v vt) (ac (ArgV.v vt) (ac (ArgV.v vt) (ac (ArgV.v vt) an)))) rv))
      refine zg ?_ (h := fun ν => step_on rfl rfl (acts_bin ν vt vc (r_neq (c := false) c11)))
      refine z ?_ (h := fun ν => acts_pick_t ν vt xt)
      refine zm (zo (zo (zo (zo (zo (zo (zo (zo (zo (zo (zo (zo (zo (zo ?_))))))))))))))
      refine z ?_ (h := fun ν => acts_pick_f ν vt xc)
      refine za (nl (wp_ret' ?_))
      exact VRes.tmp _ _ _ (by exact rfl) (bval (congrArg Value.bool (by (exfalso; omega))))
    ·skip
     have c10P := of_decide_eq_false c10
     refine rg (zm (zm (zm ?_)))
     refine z ?_ (h := fun ν => acts_bin ν vt vc (rA (by omega) (by omega)))
     refine zm ?_
     refine z ?_ (h := fun ν => acts_call1 ν (impl_EdgeStep_fn ((((atB b 0) % 8) : Nat) : Int) ((((atB b 1) % 9) : Nat) : Int) (((((atB b 0) % 8) : Nat) : Int) + 1) ((((atB b 1) % 9) : Nat) : Int) ) (ac (ArgV.v vt) (ac (ArgV.v vt) (ac (ArgV.v vt) (ac (ArgV.v vt) an)))) rv)
     refine zm ?_
     refine z ?_ (h := fun ν => acts_bin ν vt vc (rA (by omega) (by omega)))
     refine zm (zm (zm ?_))
     refine z ?_ (h := fun ν => acts_call1 ν (impl_EdgeStep_fn (((((atB b 0) % 8) : Nat) : Int) + 1) ((((atB b 1) % 9) : Nat) : Int) ((((atB b 0) % 8) : Nat) : Int) ((((atB b 1) % 9) : Nat) : Int) ) (ac (ArgV.v vt) (ac (ArgV.v vt) (ac (ArgV.v vt) (ac (ArgV.v vt) an)))) rv)
     refine z ?_ (h := fun ν => acts_un ν vt (r_neg (w64 (by omega) (by omega))))
     refine z ?_ (h := fun ν => acts_bin ν vt vt (r_eql (c := false) c10))
     refine zm (zo (zo (zo (zo (zo (zo (zo ?_)))))))
     refine z ?_ (h := fun ν => acts_pick_f ν vt xc)
     refine zm (zo (zo (zo (zo (zo (zo (zo (zo (zo (zo (zo (zo (zo (zo ?_))))))))))))))
     refine z ?_ (h := fun ν => acts_pick_f ν vt xc)
     refine za (nl (wp_ret' ?_))
     exact VRes.tmp _ _ _ (by exact rfl) (bval (congrArg Value.bool (by (exfalso; omega))))
end Cl
end Go.Proofs.Ytonlghbbdcddoaa
