/- Walks over clean states, printed by wg.py. No statement is proved here. -/
import Derived.Test.YtjgjeflidcembaaP11
import Derived.Test.YtjgjeflidcembaaClB
namespace Go.Proofs.Ytjgjeflidcembaa
namespace Cl
open Go.ChangeShapes Go.WideShapes Go.ChangeAt Go.RowKit
set_option maxRecDepth 20000
/-! drawn orders of long regions: ancestors as masks -/
def ancsM : List Oper → List Nat → List Nat
  | [], acc => acc
  | o :: r, acc => ancsM r (acc ++ [(depsOf o).foldl (fun a j => a ||| 2 ^ j ||| acc.getD j 0) 0])
def okPairsM : List (List Key × List Key) → List Nat → Nat → List (List Key × List Key) → Bool
  | [], _, _, _ => true
  | x :: r, bn, i, prev => (prev.zipIdx.all fun y => (bn.getD i 0).testBit y.2 || apart2 y.1 x) && okPairsM r bn (i + 1) (prev ++ [x])
def MRel (a : List (List Nat)) (b : List Nat) : Prop := a.length = b.length ∧ ∀ j i, (b.getD j 0).testBit i = true → i ∈ a.getD j []
theorem fold_bitM (acc : List Nat) (i : Nat) : ∀ (ds : List Nat) (z : Nat), (ds.foldl (fun a j => a ||| 2 ^ j ||| acc.getD j 0) z).testBit i = true → z.testBit i = true ∨ ∃ j ∈ ds, j = i ∨ (acc.getD j 0).testBit i = true := by
  intro ds
  induction ds with
  | nil => intro z h; exact .inl h
  | cons d ds ih =>
    intro z h
    rw [List.foldl_cons] at h
    rcases ih _ h with h | ⟨j, hj, h⟩
    · rw [Nat.testBit_or, Nat.testBit_or, Nat.testBit_two_pow] at h
      simp only [Bool.or_eq_true, decide_eq_true_eq] at h
      rcases h with (h | h) | h
      · exact .inl h
      · exact .inr ⟨d, List.mem_cons_self .., .inl h⟩
      · exact .inr ⟨d, List.mem_cons_self .., .inr h⟩
    · exact .inr ⟨j, List.mem_cons_of_mem _ hj, h⟩
theorem ancsM_rel : ∀ (l : List Oper) (a : List (List Nat)) (b : List Nat), MRel a b → MRel (ancs l a) (ancsM l b) := by
  intro l
  induction l with
  | nil => intro a b h; exact h
  | cons o r ih =>
    intro a b h
    rw [ancs, ancsM]
    refine ih _ _ ⟨by rw [List.length_append, List.length_append, h.1]; rfl, fun j i hb => ?_⟩
    rcases Nat.lt_trichotomy j b.length with hj | hj | hj
    · rw [List.getD_eq_getElem?_getD, List.getElem?_append_left hj, ← List.getD_eq_getElem?_getD] at hb
      rw [List.getD_eq_getElem?_getD, List.getElem?_append_left (by rw [h.1]; exact hj), ← List.getD_eq_getElem?_getD]
      exact h.2 j i hb
    · subst hj
      rw [List.getD_eq_getElem?_getD, List.getElem?_append_right (Nat.le_refl _), Nat.sub_self] at hb
      rw [List.getD_eq_getElem?_getD, List.getElem?_append_right (by rw [h.1]; exact Nat.le_refl _), ← h.1, Nat.sub_self]
      simp only [List.getElem?_cons_zero, Option.getD_some] at hb ⊢
      rcases fold_bitM b i _ _ hb with hz | ⟨j, hj, hq⟩
      · simp at hz
      · rw [List.mem_append, List.mem_flatMap]
        rcases hq with rfl | hq
        · exact .inl hj
        · exact .inr ⟨j, hj, h.2 j i hq⟩
    · rw [List.getD_eq_getElem?_getD, List.getElem?_eq_none (by rw [List.length_append]; simp; omega)] at hb
      simp at hb
theorem okPairsM_ok {a : List (List Nat)} {b : List Nat} (h : MRel a b) : ∀ (xs : List (List Key × List Key)) (i : Nat) (prev : List (List Key × List Key)), okPairsM xs b i prev = true → okPairs xs a i prev = true := by
  intro xs
  induction xs with
  | nil => intro i prev _; rfl
  | cons x xs ih =>
    intro i prev hp
    rw [okPairsM, Bool.and_eq_true, List.all_eq_true] at hp
    rw [okPairs, Bool.and_eq_true, List.all_eq_true]
    refine ⟨fun y hy => ?_, ih _ _ hp.2⟩
    have := hp.1 y hy
    rw [Bool.or_eq_true] at this ⊢
    rcases this with h1 | h1
    · exact .inl (by rw [List.contains_iff_mem]; exact h.2 i y.2 h1)
    · exact .inr h1
theorem dw_nilM {Γ : Cx} {K : Exit → St → Prop} {σ : St} {l : List Oper} {acc : Tr} (hK : K .normal σ) (hp : okPairsM (acc.map keysOf) (ancsM l []) 0 [] = true := by kernel_rfl) : DW Γ l K [] acc σ :=
  dw_nil hK (okPairsM_ok (ancsM_rel l [] [] ⟨rfl, fun j i h => by simp at h⟩) _ _ _ hp)

theorem qP13_ti_26 : TI Try.prog 26 true 1 := ⟨⟨_, Try.underlying26, rfl⟩, by kernel_rfl⟩
theorem qP13_un_30 : Try.prog.underlying 30 = some (.slice 37) := Try.underlying30
theorem qP13_un_4 : Try.prog.underlying 4 = some .bool := Try.underlying4
theorem qP13_zi_26 : ZI Try.prog 26 (.agg #[.slice none 0 0]) 1 24 := by unfold ZI; kernel_rfl
set_option maxHeartbeats 4000000 in
set_option maxRecDepth 100000 in
theorem laws_FnMatches_R (b : List Nat) (R : List Int) (cz : Cu) (P : List Dom) (hbb : b.length ≤ 9223372036854775807) (hy : ∀ x ∈ b, x < 256) (hR : (r3 b (cu0 b)).1 = R) (hz : (r3 b (cu0 b)).2 = cz) (hP : (grL b R (cellsOf R) cz []).1 = P) : Fn Try.prog 5 [.a (.slv b.length 1 (ysl b))] [.val (.bool true)] := by
 have hM := PM.of hR hP
 have h8 := (regOk_true hM.ok).1
 have hml := matR_len R
 have hle := hM.le
 have hdl : decide (((P.length : Nat) : Int) ≤ (((matR R).length : Nat) : Int)) = true := decide_eq_true (by omega)
 have hcl := cellsOf_len R
 refine fn_intro (N := 65) Try.func5 rfl (by kernel_rfl) rfl (Nat.le_of_ble_eq_true rfl) [3, 8, 11, 15, 17, 20, 23, 30, 34, 41, 48, 51, 58, 60] (ret1 rfl) (fun W => ?_)
 show Wp _ _ _ [kV 0 (V.b (.a (.slv b.length 1 (ysl b)))), kF 3, kF 8, kF 11, kF 15, kF 17, kF 20, kF 23, kF 30, kF 34, kF 41, kF 48, kF 51, kF 58, kF 60]
 refine sq (rg (zk (nl (sq (sq (rg (zm ?_)))))))
 refine z ?_ (h := fun ν => acts_call1 ν (laws_big_fn b ) (ac (ArgV.slv _ _ _ _) an) rv)
 refine nl ?_
 refine wi (b := (decide (1048576 < ((b.length : Nat) : Int)))) (fun c1 => ?_) (fun c1 => ?_)
 ·skip
  refine sq (rg (zk (nl (wp_ret' ?_))))
  exact VRes.tmp _ _ _ (by exact rfl) (BRes.val _)
 ·skip
  have hb : b.length ≤ 1048576 := by have := of_decide_eq_false c1; omega
  refine sk (sq (rg (zm ?_)))
  refine z ?_ (h := fun ν => acts_callO (d := 11) (f := 25) (os := []) (os' := [(.o 3, some (.o ⟨3, 1, true, pl (isl R)⟩)), (.o 8, some (.o ⟨37, 3, true, pl (dsl P)⟩))]) (r := V.tup [.agg [(.sl 3 0 R.length : A)], .a (.sl 8 0 P.length)]) (bs := [.a (.slv b.length 1 (ysl b))]) (keep := []) (new := [3, 8]) (dead := []) ν (FnO.ren' (spec_DrawPartial_fn b R cz P (by first | exact hR | exact hz | exact hP | omega | assumption) (by first | exact hR | exact hz | exact hP | omega | assumption) (by first | exact hR | exact hz | exact hP | omega | assumption) (by first | exact hR | exact hz | exact hP | omega | assumption) (by first | exact hR | exact hz | exact hP | omega | assumption)) (subst1 [(900, 3), (901, 8)]) rfl rfl (by kernel_rfl) (by kernel_rfl) ⟨oc_pl (fun _ => rfl), oc_pl (fun _ => rfl), trivial⟩ (by kernel_rfl) rfl (by simp only [renS, Ob.ren, pl_ren, rws_ren_doms, rws_ren_ints, rws_ren_cels, rwI_ren, rwD_ren]; first | done | rfl) (by simp only [renS, Ob.ren, pl_ren, rws_ren_doms, rws_ren_ints, rws_ren_cels, rwI_ren, rwD_ren]; first | done | rfl) rfl rfl) (by kernel_rfl) ⟨oc_pl (fun _ => rfl), oc_pl (fun _ => rfl), trivial⟩ (by kernel_rfl) (ArgOs.cons (ArgO.slot 10 (.a (.slv b.length 1 (ysl b)))) (ArgOs.nil)))
  refine zm ?_
  refine z ?_ (h := fun ν => acts_extract ν (by exact rfl))
  refine z ?_ (h := fun ν => acts_extract ν (by exact rfl))
  refine z ?_ (h := fun ν => acts_alloc' (h := 11) (cap := 1) (s := 1) (cells := [(.val (.slice none 0 0) : A)]) ν qP13_zi_26 rfl rfl (by decide))
  refine z ?_ (h := fun _ => acts_store (cells := [(.sl 3 0 R.length : A)]) qP13_ti_26 xt (by exact rfl) (by decide) (by exact ob1 rfl) (by exact Nat.le_of_ble_eq_true rfl) (by exact rfl))
  refine za (nl (sq (rg ?_)))
  refine z ?_ (h := fun ν => acts_load_owns (xs := [(.sl 3 0 R.length : A)]) ν qP13_ti_26 rfl (by decide) rfl)
  refine z ?_ (h := fun ν => acts_call1 ν (impl_MatchRegion_fn R (by first | omega | assumption | exact hM.ok)) (ac (ArgV.reg _ _ _ (s := 1) (by simp [isl]) (by first | exact List.take_of_length_le (by simp [isl]) | (simp [isl]; done))) an) (ResV.row _ _ _ _ 15))
  refine za (nl (sq (rg ?_)))
  refine z ?_ (h := fun ν => acts_load_owns (xs := [(.sl 3 0 R.length : A)]) ν qP13_ti_26 rfl (by decide) rfl)
  refine z ?_ (h := fun ν => acts_call1 ν (impl_MostDominoes_fn R (by first | omega | assumption | exact hM.ok)) (ac (ArgV.reg _ _ _ (s := 1) (by simp [isl]) (by first | exact List.take_of_length_le (by simp [isl]) | (simp [isl]; done))) an) rv)
  refine za (nl (sq (wp_dr ?_)))
  refine zd ?_ (h := fun ν => acts_load_owns (xs := [(.sl 3 0 R.length : A)]) ν qP13_ti_26 rfl (by decide) rfl)
  refine zdm ?_
  refine zd ?_ (h := fun ν => acts_call1 ν (impl_IsPartial_fn R (matR R) (by first | omega | assumption | exact hM.ok) (by first | omega | assumption | exact hM.ok)) (ac (ArgV.reg _ _ _ (s := 1) (by simp [isl]) (by first | exact List.take_of_length_le (by simp [isl]) | (simp [isl]; done))) (ac (argv_own (by first | exact dsl_len _ | (simp [isl_len, bsl_len, dsl_len, csl_len]; done) | (simp [isl_len, bsl_len, dsl_len, csl_len]; omega))) an)) (resval (congrArg Value.bool hM.mp)))
  refine zdm ?_
  refine zdg ?_ (h := fun ν => step_on rfl rfl (mt ν))
  refine zdg ?_ (h := fun ν => step_on rfl rfl (lnS ν qP13_un_30))
  refine zdg ?_ (h := fun ν => step_on rfl rfl (mt ν))
  refine zdg ?_ (h := fun ν => step_on rfl rfl (acts_bin ν vt vt (r_eql (c := true) (decide_eq_true rfl))))
  refine zd ?_ (h := fun ν => acts_pick_t ν vt xt)
  refine zdm ?_
  refine zdg ?_ (h := fun ν => step_on rfl rfl (acts_load_owns (xs := [(.sl 3 0 R.length : A)]) ν qP13_ti_26 rfl (by decide) rfl))
  refine zdg ?_ (h := fun ν => step_on rfl rfl (mt ν))
  refine zdg ?_ (h := fun ν => step_on rfl rfl (acts_call1 ν (impl_IsMostPartial_fn R (matR R) (by first | omega | assumption | exact hM.ok) (by first | omega | assumption | exact hM.ok)) (ac (ArgV.reg _ _ _ (s := 1) (by simp [isl]) (by first | exact List.take_of_length_le (by simp [isl]) | (simp [isl]; done))) (ac (argv_own (by first | exact dsl_len _ | (simp [isl_len, bsl_len, dsl_len, csl_len]; done) | (simp [isl_len, bsl_len, dsl_len, csl_len]; omega))) an)) (resval (congrArg Value.bool hM.mq))))
  refine zd ?_ (h := fun ν => acts_pick_t ν vt xt)
  refine zdm ?_
  refine zdg ?_ (h := fun ν => step_on rfl rfl (mt ν))
  refine zdg ?_ (h := fun ν => step_on rfl rfl (lnS ν qP13_un_30))
  refine zdg ?_ (h := fun ν => step_on rfl rfl (mt ν))
  refine zdg ?_ (h := fun ν => step_on rfl rfl (acts_bin ν vt vt (r_leq (c := true) hdl)))
  refine zd ?_ (h := fun ν => acts_pick_t ν vt xt)
  refine zdm ?_
  refine zdg ?_ (h := fun ν => step_on rfl rfl (acts_load_owns (xs := [(.sl 3 0 R.length : A)]) ν qP13_ti_26 rfl (by decide) rfl))
  refine zdg ?_ (h := fun ν => step_on rfl rfl (mt ν))
  refine zdg ?_ (h := fun ν => step_on rfl rfl (acts_call1 ν (impl_CanExtend_fn R (matR R) (by first | omega | assumption | exact hM.ok) (by first | omega | assumption | exact hM.ok)) (ac (ArgV.reg _ _ _ (s := 1) (by simp [isl]) (by first | exact List.take_of_length_le (by simp [isl]) | (simp [isl]; done))) (ac (argv_own (by first | exact dsl_len _ | (simp [isl_len, bsl_len, dsl_len, csl_len]; done) | (simp [isl_len, bsl_len, dsl_len, csl_len]; omega))) an)) (resval (congrArg Value.bool hM.nx))))
  refine zdg ?_ (h := fun ν => step_on rfl rfl (acts_un ν vt (r_not (c := true) rfl)))
  refine zd ?_ (h := fun ν => acts_pick_t ν vt xt)
  refine zdm ?_
  refine zdg ?_ (h := fun ν => step_on rfl rfl (mt ν))
  refine zdg ?_ (h := fun ν => step_on rfl rfl (acts_bin ν vc vt (rM (by first | omega | assumption | exact hM.ok) (by first | omega | assumption | exact hM.ok))))
  refine zdg ?_ (h := fun ν => step_on rfl rfl (acts_load_owns (xs := [(.sl 3 0 R.length : A)]) ν qP13_ti_26 rfl (by decide) rfl))
  refine zdg ?_ (h := fun ν => step_on rfl rfl (acts_call1 ν (spec_CountCells_fn R (by first | omega | assumption | exact hM.ok)) (ac (ArgV.reg _ _ _ (s := 1) (by simp [isl]) (by first | exact List.take_of_length_le (by simp [isl]) | (simp [isl]; done))) an) rv))
  refine zdg ?_ (h := fun ν => step_on rfl rfl (acts_bin ν vt vt (r_eql rfl)))
  refine zdg ?_ (h := fun ν => step_on rfl rfl (acts_load_owns (xs := [(.sl 3 0 R.length : A)]) ν qP13_ti_26 rfl (by decide) rfl))
  refine zdg ?_ (h := fun ν => step_on rfl rfl (acts_call1 ν (spec_CountTilings_fn R (by first | omega | assumption | exact hM.ok)) (ac (ArgV.reg _ _ _ (s := 1) (by simp [isl]) (by first | exact List.take_of_length_le (by simp [isl]) | (simp [isl]; done))) an) rv))
  refine zdg ?_ (h := fun ν => step_on rfl rfl (acts_bin ν vt vc (r_gtr rfl)))
  refine zdg ?_ (h := fun ν => step_on rfl rfl (acts_bin ν vt vt (r_beql (c := true) qP13_un_4 (decide_eq_true hM.fl))))
  refine zd ?_ (h := fun ν => acts_pick_t ν vt xt)
  refine zdm ?_
  refine zdg ?_ (h := fun ν => step_on rfl rfl (acts_load_owns (xs := [(.sl 3 0 R.length : A)]) ν qP13_ti_26 rfl (by decide) rfl))
  refine zdg ?_ (h := fun ν => step_on rfl rfl (mt ν))
  refine zdg ?_ (h := fun ν => step_on rfl rfl (acts_call1 ν (impl_IsMostPartial_fn R P (by first | omega | assumption | exact hM.ok) (by first | omega | assumption | exact hM.ok)) (ac (ArgV.reg _ _ _ (s := 1) (by simp [isl]) (by first | exact List.take_of_length_le (by simp [isl]) | (simp [isl]; done))) (ac (argv_own (by first | exact dsl_len _ | (simp [isl_len, bsl_len, dsl_len, csl_len]; done) | (simp [isl_len, bsl_len, dsl_len, csl_len]; omega))) an)) rv))
  refine zdg ?_ (h := fun ν => step_on rfl rfl (mt ν))
  refine zdg ?_ (h := fun ν => step_on rfl rfl (lnS ν qP13_un_30))
  refine zdg ?_ (h := fun ν => step_on rfl rfl (mt ν))
  refine zdg ?_ (h := fun ν => step_on rfl rfl (acts_bin ν vt vt (r_eql rfl)))
  refine zdg ?_ (h := fun ν => step_on rfl rfl (acts_bin ν vt vt (r_beql (c := (decide ((isPar R P && decide (P.length = (matR R).length)) = decide (((P.length : Nat) : Int) = (((matR R).length : Nat) : Int))))) qP13_un_4 rfl)))
  refine zd ?_ (h := fun ν => acts_pick_t ν vt xt)
  refine zd ?_ (h := fun ν => gt ν)
  refine dw_nilM (wp_ret' ?_)
  exact VRes.tmp _ _ _ (by exact rfl) (bval (congrArg Value.bool (by first | exact hM.eq | (exfalso; omega) | rfl)))
end Cl
end Go.Proofs.Ytjgjeflidcembaa
