/- Walks over clean states, printed by wg.py. No statement is proved here. -/
import Derived.Test.YtokihekhelbijaaSg
import Derived.Test.YtokihekhelbijaaClB
set_option linter.unusedSimpArgs false
set_option linter.unusedVariables false
namespace Go.Proofs.Ytokihekhelbijaa
namespace Cl
open Go.ChangeShapes Go.WideShapes Go.ChangeAt Go.RowKit
set_option maxRecDepth 20000

theorem trI {Γ : Cx} {σ : St} {h T : Nat} {ex : Bool} {L L' : List Int} (n : Nat) (ho : get σ (.o h) = some (.o ⟨T, 1, ex, pl (isl L)⟩) := by kernel_rfl) (hc : L.take n = L') : Weak Γ σ ((.o h, some (.o ⟨T, 1, ex, pl (isl L')⟩)) :: σ) :=
  weak_trim n ho (by rw [← hc]; unfold pl isl; rw [List.map_take, List.map_take])
theorem r3_pos (b : List Nat) (c : Cu) : 1 ≤ (r3 b c).1.length := by rw [(r3_RP b c).ln]; unfold r3H; omega

theorem qG1_fo_26_0 : fieldOff Try.prog 26 0 = some 0 := by kernel_rfl
theorem qG1_sz_3 : (Try.prog.info? 3).map (·.size) = some 1 := by kernel_rfl
theorem qG1_ti_24 : TI Try.prog 24 false 1 := ⟨⟨_, Try.underlying24, rfl⟩, by kernel_rfl⟩
theorem qG1_ti_26 : TI Try.prog 26 true 1 := ⟨⟨_, Try.underlying26, rfl⟩, by kernel_rfl⟩
theorem qG1_ti_3 : TI Try.prog 3 false 1 := ⟨⟨_, Try.underlying3, rfl⟩, by kernel_rfl⟩
theorem qG1_un_24 : Try.prog.underlying 24 = some (.slice 3) := Try.underlying24
theorem qG1_un_29 : Try.prog.underlying 29 = some (.slice 24) := Try.underlying29
theorem qG1_zi_24 : ZI Try.prog 24 (.slice none 0 0) 1 24 := by unfold ZI; kernel_rfl
theorem qG1_zi_26 : ZI Try.prog 26 (.agg #[.slice none 0 0]) 1 24 := by unfold ZI; kernel_rfl
theorem qG1_zi_3 : ZI Try.prog 3 (.int .i64 0) 1 8 := by unfold ZI; kernel_rfl
set_option maxHeartbeats 4000000 in
set_option maxRecDepth 100000 in
theorem spec_l01PickInt_fn (b : List Nat) (c : Cu) (L : List Int) (hb : b.length ≤ 1048576) (hy : ∀ x ∈ b, x < 256) (hi : c.i ≤ b.length) (hn : 0 < L.length) (hn2 : L.length ≤ 4294967296) : FnO Try.prog 36 [.a (.ptr 1 0), .a (.sl 801 0 L.length)] [(.o 1, some (.o ⟨52, 3, true, [(.slv b.length 1 (ysl b) : A), aI ((c.i : Nat) : Int), aI c.h]⟩)), (.o 801, some (.o ⟨3, 1, true, pl (isl L)⟩))] (V.v (.int .i64 (gI L (cuX b c L.length)))) [(.o 1, some (.o ⟨52, 3, true, [(.slv b.length 1 (ysl b) : A), aI (((cuN b c L.length).i : Nat) : Int), aI ((cuN b c L.length).h)]⟩)), (.o 801, some (.o ⟨3, 1, true, pl (isl L)⟩))] [1, 801] := by
 have hxl : cuX b c L.length < L.length := cuX_lt hn
 refine fn_introO (N := 12) Try.func36 rfl (by kernel_rfl) rfl (Nat.le_of_ble_eq_true rfl) rfl rfl (by kernel_rfl) (by kernel_rfl) ⟨ocs (by kernel_rfl), oc_pl (fun _ => rfl), trivial⟩ [8, 9] (retO1 rfl) (fun W own kp im0 => ?_)
 show Wp _ _ _ [kP 0 1 0, kS 1 801 0 L.length, kO 1 52 3 true [(.slv b.length 1 (ysl b) : A), aI ((c.i : Nat) : Int), aI c.h], kO 801 3 1 true (pl (isl L)), kF 8, kF 9]
 refine sq (rg (zk (nl (sq (rg (zm (zm (zm ?_))))))))
 refine z ?_ (h := fun ν => lnS ν qG1_un_24)
 refine z ?_ (h := fun ν => acts_callO (d := 9) (f := 19) (os := [(.o 1, some (.o ⟨52, 3, true, [(.slv b.length 1 (ysl b) : A), aI ((c.i : Nat) : Int), aI c.h]⟩))]) (os' := [(.o 1, some (.o ⟨52, 3, true, [(.slv b.length 1 (ysl b) : A), aI (((cuN b c L.length).i : Nat) : Int), aI ((cuN b c L.length).h)]⟩))]) (r := V.v (.int .i64 (((cuX b c L.length) : Nat) : Int))) (bs := [.a (.ptr 1 0), .a (.val (.int .i64 ((L.length : Nat) : Int)))]) (keep := [1]) (new := []) (dead := []) ν ((spec_l01Below_fn b c L.length (by first | omega | assumption) (by first | omega | assumption) (by first | omega | assumption) (by first | omega | assumption) (by first | omega | assumption))) (by kernel_rfl) ⟨ocs (by kernel_rfl), trivial⟩ (by kernel_rfl) (ArgOs.cons (ArgO.slot 6 (.a (.ptr 1 0))) (ArgOs.cons ((ArgO.v vt)) (ArgOs.nil))))
 refine z ?_ (h := fun ν => ix0 ν qG1_un_24 qG1_sz_3 vt (hlt := (by first | omega | assumption)))
 refine z ?_ (h := fun ν => lI ν qG1_ti_3 (by first | omega | assumption))
 refine za (nl (wp_ret' ?_))
 exact ⟨_, weak_id, ⟨by kernel_rfl, by kernel_rfl, trivial⟩, VO.tmp 4 (.a (.val (.int .i64 (gI L (cuX b c L.length))))) (by kernel_rfl)⟩

set_option maxHeartbeats 4000000 in
set_option maxRecDepth 100000 in
theorem l03Region_R (b : List Nat) (c : Cu) (R0 : List Int) (c0 : Cu) (hb : b.length ≤ 1048576) (hy : ∀ x ∈ b, x < 256) (hi : c.i ≤ b.length) (h3 : (r3 b c).1 = R0) (h4 : (r3 b c).2 = c0) : FnO Try.prog 48 [.a (.ptr 1 0)] [(.o 1, some (.o ⟨52, 3, true, [(.slv b.length 1 (ysl b) : A), aI ((c.i : Nat) : Int), aI c.h]⟩))] (V.b (.agg [(.sl 900 0 R0.length : A)])) [(.o 1, some (.o ⟨52, 3, true, [(.slv b.length 1 (ysl b) : A), aI ((c0.i : Nat) : Int), aI c0.h]⟩)), (.o 900, some (.o ⟨3, 1, true, pl (isl R0)⟩))] [1] := by
 subst h3 h4
 exact spec_l03Region_fn b c hb hy hi

set_option maxHeartbeats 4000000 in
set_option maxRecDepth 100000 in
theorem l03Any_R (b : List Nat) (c : Cu) (R0 : List Int) (c0 : Cu) (hb : b.length ≤ 1048576) (hy : ∀ x ∈ b, x < 256) (hi : c.i ≤ b.length) (h3 : (r3 b c).1 = R0) (h4 : (r3 b c).2 = c0) : FnO Try.prog 35 [.a (.ptr 1 0)] [(.o 1, some (.o ⟨52, 3, true, [(.slv b.length 1 (ysl b) : A), aI ((c.i : Nat) : Int), aI c.h]⟩))] (V.b (.agg [(.sl 900 0 ((r3A b c).1.length) : A)])) [(.o 1, some (.o ⟨52, 3, true, [(.slv b.length 1 (ysl b) : A), aI ((((r3A b c).2).i : Nat) : Int), aI (((r3A b c).2).h)]⟩)), (.o 900, some (.o ⟨3, 1, true, pl (isl ((r3A b c).1))⟩))] [1] := by
 have hl8 := r3_len b c
 have hl1 := r3_pos b c
 have hri := r3_i (b := b) hi
 rw [h3] at hl8 hl1
 rw [h4] at hri
 have hi2 := cuI_le (n := 10) hri
 have hi3 := cuI_le (n := 3) hi2
 refine fn_introO (N := 39) Try.func35 rfl (by kernel_rfl) rfl (Nat.le_of_ble_eq_true rfl) rfl rfl (by kernel_rfl) (by kernel_rfl) ⟨ocs (by kernel_rfl), trivial⟩ [2, 3, 5, 7, 13, 14, 20, 22, 28, 29, 30, 39, 40, 41, 42] (retO1 rfl) (fun W own kp im0 => ?_)
 show Wp _ _ _ [kP 0 1 0, kO 1 52 3 true [(.slv b.length 1 (ysl b) : A), aI ((c.i : Nat) : Int), aI c.h], kF 2, kF 3, kF 5, kF 7, kF 13, kF 14, kF 20, kF 22, kF 28, kF 29, kF 30, kF 39, kF 40, kF 41, kF 42]
 refine sq (rg ?_)
 refine z ?_ (h := fun ν => acts_alloc' (h := 2) (cap := 1) (s := 1) (cells := [(.val (.slice none 0 0) : A)]) ν qG1_zi_26 rfl rfl (by decide))
 refine nl (sq (rg (zm ?_)))
 refine z ?_ (h := fun ν => acts_callO (d := 5) (f := 48) (os := [(.o 1, some (.o ⟨52, 3, true, [(.slv b.length 1 (ysl b) : A), aI ((c.i : Nat) : Int), aI c.h]⟩))]) (os' := [(.o 1, some (.o ⟨52, 3, true, [(.slv b.length 1 (ysl b) : A), aI ((c0.i : Nat) : Int), aI c0.h]⟩)), (.o 3, some (.o ⟨3, 1, true, pl (isl R0)⟩))]) (r := V.b (.agg [(.sl 3 0 R0.length : A)])) (bs := [.a (.ptr 1 0)]) (keep := [1]) (new := [3]) (dead := []) ν (FnO.ren' (l03Region_R b c R0 c0 (by first | exact h3 | exact h4 | omega | assumption) (by first | exact h3 | exact h4 | omega | assumption) (by first | exact h3 | exact h4 | omega | assumption) (by first | exact h3 | exact h4 | omega | assumption) (by first | exact h3 | exact h4 | omega | assumption)) (subst1 [(900, 3)]) rfl rfl (by kernel_rfl) (by kernel_rfl) ⟨ocs (by kernel_rfl), oc_pl (fun _ => rfl), trivial⟩ (by kernel_rfl) rfl (by simp only [renS, Ob.ren, pl_ren, rws_ren_doms, rws_ren_ints, rws_ren_cels, rwI_ren, rwD_ren]; first | done | rfl) (by simp only [renS, Ob.ren, pl_ren, rws_ren_doms, rws_ren_ints, rws_ren_cels, rwI_ren, rwD_ren]; first | done | rfl) rfl rfl) (by kernel_rfl) ⟨ocs (by kernel_rfl), oc_pl (fun _ => rfl), trivial⟩ (by kernel_rfl) (ArgOs.cons (ArgO.slot 4 (.a (.ptr 1 0))) (ArgOs.nil)))
 refine z ?_ (h := fun ν => acts_alloc' (h := 5) (cap := 1) (s := 1) (cells := [(.val (.slice none 0 0) : A)]) ν qG1_zi_26 rfl rfl (by decide))
 refine z ?_ (h := fun _ => acts_store (cells := [(.sl 3 0 R0.length : A)]) qG1_ti_26 xt (by exact rfl) (by decide) (by exact ob1 rfl) (by exact Nat.le_of_ble_eq_true rfl) (by exact rfl))
 refine nl (sq (sq (rg (zm ?_))))
 refine z ?_ (h := fun ν => acts_callO (d := 7) (f := 19) (os := [(.o 1, some (.o ⟨52, 3, true, [(.slv b.length 1 (ysl b) : A), aI ((c0.i : Nat) : Int), aI c0.h]⟩))]) (os' := [(.o 1, some (.o ⟨52, 3, true, [(.slv b.length 1 (ysl b) : A), aI (((cuN b c0 10).i : Nat) : Int), aI ((cuN b c0 10).h)]⟩))]) (r := V.v (.int .i64 (((cuX b c0 10) : Nat) : Int))) (bs := [.a (.ptr 1 0), .a (.val (.int .i64 10))]) (keep := [1]) (new := []) (dead := []) ν ((spec_l01Below_fn b c0 10 (by first | omega | assumption | (simp; omega) | (simp; done)) (by first | omega | assumption | (simp; omega) | (simp; done)) (by first | omega | assumption | (simp; omega) | (simp; done)) (by first | omega | assumption | (simp; omega) | (simp; done)) (by first | omega | assumption | (simp; omega) | (simp; done)))) (by kernel_rfl) ⟨ocs (by kernel_rfl), trivial⟩ (by kernel_rfl) (ArgOs.cons (ArgO.slot 6 (.a (.ptr 1 0))) (ArgOs.cons ((ArgO.v vc)) (ArgOs.nil))))
 refine nl (bkk (sq (rg ?_)))
 refine z ?_ (h := fun ν => acts_bin ν vt vc (r_eql rfl))
 refine za (nl ?_)
 refine wi (fun c1 => ?_) (fun c1 => ?_)
 ·skip
  have c1P := of_decide_eq_true c1
  have hfin := r3A_0 (b := b) (c := c) (by rw [h4]; omega)
  rw [h3, h4] at hfin
  refine wp_dr ?_
  refine zd ?_ (h := fun ν => acts_field (off' := 0) ν qG1_fo_26_0 rfl)
  refine zd ?_ (h := fun ν => acts_load_own (x := .sl 3 0 R0.length) ν qG1_ti_24 (by exact rfl))
  refine zdm ?_
  refine zd ?_ (h := fun ν => acts_buildSlice' (h := 13) (xs := isl ([(-1), 255, 256] : List Int)) ν qG1_un_24 qG1_zi_3 (.cons vc (.cons vc (.cons vc OpVs.nil))) (by decide) (by decide) (by kernel_rfl) rfl)
  refine zd ?_ (h := fun ν => acts_callO (d := 14) (f := 36) (os := [(.o 1, some (.o ⟨52, 3, true, [(.slv b.length 1 (ysl b) : A), aI (((cuN b c0 10).i : Nat) : Int), aI ((cuN b c0 10).h)]⟩)), (.o 13, some (.o ⟨3, 1, true, pl (isl [(-1), 255, 256])⟩))]) (os' := [(.o 1, some (.o ⟨52, 3, true, [(.slv b.length 1 (ysl b) : A), aI (((cuN b (cuN b c0 10) [(-1), 255, 256].length).i : Nat) : Int), aI ((cuN b (cuN b c0 10) [(-1), 255, 256].length).h)]⟩)), (.o 13, some (.o ⟨3, 1, true, pl (isl [(-1), 255, 256])⟩))]) (r := V.v (.int .i64 (gI [(-1), 255, 256] (cuX b (cuN b c0 10) [(-1), 255, 256].length)))) (bs := [.a (.ptr 1 0), .a (.sl 13 0 3)]) (keep := [1, 13]) (new := []) (dead := []) ν (FnO.ren' (spec_l01PickInt_fn b (cuN b c0 10) [(-1), 255, 256] (by first | omega | assumption | (simp; omega) | (simp; done)) (by first | omega | assumption | (simp; omega) | (simp; done)) (by first | omega | assumption | (simp; omega) | (simp; done)) (by first | omega | assumption | (simp; omega) | (simp; done)) (by first | omega | assumption | (simp; omega) | (simp; done))) (subst1 [(801, 13)]) rfl rfl (by kernel_rfl) (by kernel_rfl) ⟨ocs (by kernel_rfl), oc_pl (fun _ => rfl), trivial⟩ (by kernel_rfl) rfl (by simp only [renS, Ob.ren, pl_ren, rws_ren_doms, rws_ren_ints, rws_ren_cels, rwI_ren, rwD_ren]; first | done | rfl) (by simp only [renS, Ob.ren, pl_ren, rws_ren_doms, rws_ren_ints, rws_ren_cels, rwI_ren, rwD_ren]; first | done | rfl) rfl rfl) (by kernel_rfl) ⟨ocs (by kernel_rfl), oc_pl (fun _ => rfl), trivial⟩ (by kernel_rfl) (ArgOs.cons (ArgO.slot 12 (.a (.ptr 1 0))) (ArgOs.cons (ArgO.slot 13 (.a (.sl 13 0 3))) (ArgOs.nil))))
  refine zd ?_ (h := fun ν => ix0 (k := 0) ν qG1_un_24 qG1_sz_3 vc (hlt := (by first | omega | assumption | (simp; omega) | (simp; done))))
  refine zd ?_ (h := fun _ => sI qG1_ti_3 xt (by first | omega | assumption | (simp; omega) | (simp; done)))
  refine dw_nil (sq (rg ?_))
  refine z ?_ (h := fun ν => acts_load_owns (xs := [(.sl 3 0 R0.length : A)]) ν qG1_ti_26 rfl (by decide) rfl)
  refine z ?_ (h := fun _ => acts_store (cells := [(.sl 3 0 R0.length : A)]) qG1_ti_26 xt (by exact rfl) (by decide) (by exact ob1 rfl) (by exact Nat.le_of_ble_eq_true rfl) (by exact rfl))
  refine nl (wp_ret' ?_)
  exact ⟨[kP 2 2 0, kO 1 52 3 true [(.slv b.length 1 (ysl b) : A), aI (((cuN b (cuN b c0 10) [(-1), 255, 256].length).i : Nat) : Int), aI ((cuN b (cuN b c0 10) [(-1), 255, 256].length).h)], kO 2 26 1 true [(.sl 900 0 R0.length : A)], kO 900 3 1 true (pl (isl (R0.set 0 (gI [(-1), 255, 256] (cuX b (cuN b c0 10) [(-1), 255, 256].length))))), kF 3, kF 5, kF 7, kF 13, kF 14, kF 20, kF 22, kF 28, kF 29, kF 30, kF 39, kF 40, kF 41, kF 42], wkf (subst1 [(900, 3)]) (wS <| wX <| wX <| wP <| by (iterate 14 refine wF ?_); exact wN), ⟨obj_eq (c := [(.slv b.length 1 (ysl b) : A), aI (((cuN b (cuN b c0 10) [(-1), 255, 256].length).i : Nat) : Int), aI ((cuN b (cuN b c0 10) [(-1), 255, 256].length).h)]) (by kernel_rfl) (by first | exact cu_cells (congrArg Prod.snd hfin).symm _ _ | exact cu_cells (congrArg Prod.snd hfin) _ _ | exact (congrArg Prod.fst hfin).symm | exact congrArg Prod.fst hfin), obj_eq (c := pl (isl (R0.set 0 (gI [(-1), 255, 256] (cuX b (cuN b c0 10) [(-1), 255, 256].length))))) (by kernel_rfl) (congrArg (fun z => pl (isl z)) (by first | exact cu_cells (congrArg Prod.snd hfin).symm _ _ | exact cu_cells (congrArg Prod.snd hfin) _ _ | exact (congrArg Prod.fst hfin).symm | exact congrArg Prod.fst hfin)), trivial⟩, vo_cells (h := 2) ⟨26, 1, true, [(.sl 900 0 R0.length : A)]⟩ (by kernel_rfl) (by kernel_rfl) qG1_ti_26 (Nat.le_of_ble_eq_true rfl) (by first | rfl | (exact congrArg (fun z : Nat => [A.sl 900 0 z]) (by first | exact congrArg (fun z => z.1.length) hfin.symm | exact congrArg (fun z => z.1.length) hfin | (rw [hfin]; simp; done))))⟩
 ·skip
  have c1P := of_decide_eq_false c1
  refine sq (rg ?_)
  refine z ?_ (h := fun ν => acts_bin ν vt vc (r_eql rfl))
  refine za (nl ?_)
  refine wi (fun c2 => ?_) (fun c2 => ?_)
  ·skip
   have c2P := of_decide_eq_true c2
   have hq1 := r3A_1 (b := b) (c := c) (by rw [h4]; omega)
   rw [h3, h4] at hq1
   refine bkk ?_
   refine wp_loop' (fun ((cz, R) : Cu × (List Int)) => cz.i ≤ b.length ∧ R.length ≤ 9 ∧ ra1 b (10 - R.length) cz R = r3A b c) (fun ((cz, R) : Cu × (List Int)) => [kP 0 1 0, kP 2 2 0, kP 3 5 0, kO 1 52 3 true [(.slv b.length 1 (ysl b) : A), aI ((cz.i : Nat) : Int), aI cz.h], kO 2 26 1 true [(.val (.slice none 0 0) : A)], kO 3 3 1 true (pl (isl R)), kO 5 26 1 true [(.sl 3 0 R.length : A)], kF 7, kF 13, kF 14, kF 20, kF 22, kF 28, kF 29, kF 30, kF 39, kF 40, kF 41, kF 42]) (fun ((cz, R) : Cu × (List Int)) => 10 - R.length) (((cuN b c0 10) : Cu), (R0 : List Int)) (by exact ⟨hi2, by omega, hq1.symm⟩) (wkf id (wS <| wS <| wS <| wX <| wX <| wP <| wX <| by (iterate 12 refine wF ?_); exact wN)) ?_
   rintro ⟨cz, R⟩ inv3
   replace inv3 : cz.i ≤ b.length ∧ R.length ≤ 9 ∧ ra1 b (10 - R.length) cz R = r3A b c := inv3
   obtain ⟨hi0, hR9, hra⟩ := inv3
   have hi4a := cuI_le (n := 2) hi0
   have hx2a : cuX b cz 2 < 2 := cuX_lt (by decide)
   have hx4a : cuX b (cuN b cz 2) 4 < 4 := cuX_lt (by decide)
   refine sq (sq (wp_dr ?_))
   refine zd ?_ (h := fun ν => acts_field (off' := 0) ν qG1_fo_26_0 rfl)
   refine zd ?_ (h := fun ν => acts_load_own (x := .sl 3 0 R.length) ν qG1_ti_24 (by exact rfl))
   refine zd ?_ (h := fun ν => lnS ν qG1_un_24)
   refine zdm ?_
   refine zd ?_ (h := fun ν => acts_callO (d := 22) (f := 19) (os := [(.o 1, some (.o ⟨52, 3, true, [(.slv b.length 1 (ysl b) : A), aI ((cz.i : Nat) : Int), aI cz.h]⟩))]) (os' := [(.o 1, some (.o ⟨52, 3, true, [(.slv b.length 1 (ysl b) : A), aI (((cuN b cz 2).i : Nat) : Int), aI ((cuN b cz 2).h)]⟩))]) (r := V.v (.int .i64 (((cuX b cz 2) : Nat) : Int))) (bs := [.a (.ptr 1 0), .a (.val (.int .i64 2))]) (keep := [1]) (new := []) (dead := []) ν ((spec_l01Below_fn b cz 2 (by first | omega | assumption | (simp; omega) | (simp; done)) (by first | omega | assumption | (simp; omega) | (simp; done)) (by first | omega | assumption | (simp; omega) | (simp; done)) (by first | omega | assumption | (simp; omega) | (simp; done)) (by first | omega | assumption | (simp; omega) | (simp; done)))) (by kernel_rfl) ⟨ocs (by kernel_rfl), trivial⟩ (by kernel_rfl) (ArgOs.cons (ArgO.slot 21 (.a (.ptr 1 0))) (ArgOs.cons ((ArgO.v vc)) (ArgOs.nil))))
   refine zd ?_ (h := fun ν => acts_bin ν vc vt (rA (by first | omega | assumption | (simp; omega) | (simp; done)) (by first | omega | assumption | (simp; omega) | (simp; done))))
   refine zd ?_ (h := fun ν => acts_bin ν vt vt (r_lss rfl))
   refine dw_nil ?_
   refine wi (fun c4 => ?_) (fun c4 => ?_)
   ·skip
    have c4P := of_decide_eq_true c4
    have hx2 : cuX b cz 2 < 2 := cuX_lt (by decide)
    have hnx := ra1_yes (b := b) (f := 10 - R.length) (c := cz) (R := R) (by omega) (by omega)
    have hi4 := cuI_le (n := 2) hi0
    have hi5 := cuI_le (n := 4) hi4
    refine sk (bkk (wp_dr ?_))
    refine zd ?_ (h := fun ν => acts_field (off' := 0) ν qG1_fo_26_0 rfl)
    refine zd ?_ (h := fun ν => acts_load_own (x := .sl 3 0 R.length) ν qG1_ti_24 (by exact rfl))
    refine zdm ?_
    refine zd ?_ (h := fun ν => acts_callO (d := 28) (f := 19) (os := [(.o 1, some (.o ⟨52, 3, true, [(.slv b.length 1 (ysl b) : A), aI (((cuN b cz 2).i : Nat) : Int), aI ((cuN b cz 2).h)]⟩))]) (os' := [(.o 1, some (.o ⟨52, 3, true, [(.slv b.length 1 (ysl b) : A), aI (((cuN b (cuN b cz 2) 4).i : Nat) : Int), aI ((cuN b (cuN b cz 2) 4).h)]⟩))]) (r := V.v (.int .i64 (((cuX b (cuN b cz 2) 4) : Nat) : Int))) (bs := [.a (.ptr 1 0), .a (.val (.int .i64 4))]) (keep := [1]) (new := []) (dead := []) ν ((spec_l01Below_fn b (cuN b cz 2) 4 (by first | omega | assumption | (simp; omega) | (simp; done)) (by first | omega | assumption | (simp; omega) | (simp; done)) (by first | omega | assumption | (simp; omega) | (simp; done)) (by first | omega | assumption | (simp; omega) | (simp; done)) (by first | omega | assumption | (simp; omega) | (simp; done)))) (by kernel_rfl) ⟨ocs (by kernel_rfl), trivial⟩ (by kernel_rfl) (ArgOs.cons (ArgO.slot 27 (.a (.ptr 1 0))) (ArgOs.cons ((ArgO.v vc)) (ArgOs.nil))))
    refine zd ?_ (h := fun ν => acts_buildSlice' (h := 29) (xs := isl ([(((cuX b (cuN b cz 2) 4) : Nat) : Int)] : List Int)) ν qG1_un_24 qG1_zi_3 (.cons vt OpVs.nil) (by decide) (by decide) (by kernel_rfl) rfl)
    refine zd ?_ (h := fun ν => aI_ (h2 := 30) (L3 := (R ++ [(((cuX b (cuN b cz 2) 4) : Nat) : Int)])) ν qG1_un_24 qG1_zi_3 (by first | exact rfl | (simp; done) | (simp; omega) | omega) rfl (by first | exact rfl | (simp; done) | (simp; omega) | omega) (by first | omega | (simp; omega) | (simp at *; omega)))
    refine zd ?_ (h := fun ν => acts_field (off' := 0) ν qG1_fo_26_0 rfl)
    refine zd ?_ (h := fun _ => acts_store (cells := [(.sl 30 0 ((R ++ [(((cuX b (cuN b cz 2) 4) : Nat) : Int)]).length) : A)]) qG1_ti_24 xt (by exact rfl) (by decide) (by exact ob1 rfl) (by exact Nat.le_of_ble_eq_true rfl) (by exact rfl))
    refine dw_nil ?_
    exact Exists.intro ((cuN b (cuN b cz 2) 4), (R ++ [((cuX b (cuN b cz 2) 4 : Nat) : Int)])) (And.intro (by refine ⟨hi5, by (simp only [List.length_append, List.length_singleton]; omega), ?_⟩; rw [List.length_append, List.length_singleton, show 10 - (R.length + 1) = 10 - R.length - 1 by omega]; exact hnx.symm.trans hra) (And.intro (by show 10 - (R ++ [((cuX b (cuN b cz 2) 4 : Nat) : Int)]).length < 10 - R.length; rw [List.length_append, List.length_singleton]; omega) (wkf (subst1 [(3, 30)]) (wS <| wS <| wS <| wX <| wX <| wO (e := renob_eq (fun h => h) (congrArg isl (by first | rfl | omega | (simp; done) | (simp; omega)))) <| wO (e := renob_l (fun h => h) (congrArg (fun z : Nat => [A.sl 30 0 z]) (by first | rfl | (simp; done) | (simp; omega) | omega | (exact congrArg List.length (by first | rfl | omega | (simp; done) | (simp; omega))))) rfl) <| by (iterate 12 refine wF ?_); exact wN))))
   ·skip
    have c4P := of_decide_eq_false c4
    have hfin := hra.symm.trans (ra1_no (b := b) (f := 10 - R.length) (c := cz) (R := R) (by omega) (by omega))
    refine wp_exit' (sq (rg ?_))
    refine z ?_ (h := fun ν => acts_load_owns (xs := [(.sl 3 0 R.length : A)]) ν qG1_ti_26 rfl (by decide) rfl)
    refine z ?_ (h := fun _ => acts_store (cells := [(.sl 3 0 R.length : A)]) qG1_ti_26 xt (by exact rfl) (by decide) (by exact ob1 rfl) (by exact Nat.le_of_ble_eq_true rfl) (by exact rfl))
    refine nl (wp_ret' ?_)
    exact ⟨[kP 2 2 0, kO 1 52 3 true [(.slv b.length 1 (ysl b) : A), aI (((cuN b cz 2).i : Nat) : Int), aI ((cuN b cz 2).h)], kO 2 26 1 true [(.sl 900 0 R.length : A)], kO 900 3 1 true (pl (isl R)), kF 3, kF 5, kF 7, kF 13, kF 14, kF 20, kF 22, kF 28, kF 29, kF 30, kF 39, kF 40, kF 41, kF 42], wkf (subst1 [(900, 3)]) (wS <| wX <| wX <| wP <| by (iterate 14 refine wF ?_); exact wN), ⟨obj_eq (c := [(.slv b.length 1 (ysl b) : A), aI (((cuN b cz 2).i : Nat) : Int), aI ((cuN b cz 2).h)]) (by kernel_rfl) (by first | exact cu_cells (congrArg Prod.snd hfin).symm _ _ | exact cu_cells (congrArg Prod.snd hfin) _ _ | exact (congrArg Prod.fst hfin).symm | exact congrArg Prod.fst hfin), obj_eq (c := pl (isl R)) (by kernel_rfl) (congrArg (fun z => pl (isl z)) (by first | exact cu_cells (congrArg Prod.snd hfin).symm _ _ | exact cu_cells (congrArg Prod.snd hfin) _ _ | exact (congrArg Prod.fst hfin).symm | exact congrArg Prod.fst hfin)), trivial⟩, vo_cells (h := 2) ⟨26, 1, true, [(.sl 900 0 R.length : A)]⟩ (by kernel_rfl) (by kernel_rfl) qG1_ti_26 (Nat.le_of_ble_eq_true rfl) (by first | rfl | (exact congrArg (fun z : Nat => [A.sl 900 0 z]) (by first | exact congrArg (fun z => z.1.length) hfin.symm | exact congrArg (fun z => z.1.length) hfin | (rw [hfin]; simp; done))))⟩
  ·skip
   have c2P := of_decide_eq_false c2
   refine sq (rg ?_)
   refine z ?_ (h := fun ν => acts_bin ν vt vc (r_eql rfl))
   refine za (nl ?_)
   refine wi (fun c5 => ?_) (fun c5 => ?_)
   ·skip
    have c5P := of_decide_eq_true c5
    have hfin := r3A_2 (b := b) (c := c) (by rw [h4]; omega)
    rw [h4] at hfin
    refine rg ?_
    refine z ?_ (h := fun ν => acts_field (off' := 0) ν qG1_fo_26_0 rfl)
    refine z ?_ (h := fun ν => acts_load_own (x := .sl 3 0 R0.length) ν qG1_ti_24 (by exact rfl))
    refine z ?_ (h := fun ν => slS (m := 0) (off' := 0) ν qG1_un_24 qG1_sz_3 (OpB.no _) (OpB.so _ 0 vc rfl) (by first | omega | assumption | (simp; omega) | (simp; done)) (by first | omega | assumption | (simp; omega) | (simp; done)) (by exact rfl) (by omega))
    refine z ?_ (h := fun ν => acts_field (off' := 0) ν qG1_fo_26_0 rfl)
    refine z ?_ (h := fun _ => acts_store (cells := [(.sl 3 0 0 : A)]) qG1_ti_24 xt (by exact rfl) (by decide) (by exact ob1 rfl) (by exact Nat.le_of_ble_eq_true rfl) (by exact rfl))
    refine nl ?_
    refine wp_weak (trI (h := 3) (T := 3) (ex := true) (L := R0) (L' := []) (0) (hc := by simp)) ?_
    refine sq (rg ?_)
    refine z ?_ (h := fun ν => acts_load_owns (xs := [(.sl 3 0 0 : A)]) ν qG1_ti_26 rfl (by decide) rfl)
    refine z ?_ (h := fun _ => acts_store (cells := [(.sl 3 0 0 : A)]) qG1_ti_26 xt (by exact rfl) (by decide) (by exact ob1 rfl) (by exact Nat.le_of_ble_eq_true rfl) (by exact rfl))
    refine nl (wp_ret' ?_)
    exact ⟨[kP 2 2 0, kO 1 52 3 true [(.slv b.length 1 (ysl b) : A), aI (((cuN b c0 10).i : Nat) : Int), aI ((cuN b c0 10).h)], kO 2 26 1 true [(.sl 900 0 0 : A)], kO 900 3 1 true (pl (isl [])), kF 3, kF 5, kF 7, kF 13, kF 14, kF 20, kF 22, kF 28, kF 29, kF 30, kF 39, kF 40, kF 41, kF 42], wkf (subst1 [(900, 3)]) (wS <| wX <| wX <| wP <| by (iterate 14 refine wF ?_); exact wN), ⟨obj_eq (c := [(.slv b.length 1 (ysl b) : A), aI (((cuN b c0 10).i : Nat) : Int), aI ((cuN b c0 10).h)]) (by kernel_rfl) (by first | exact cu_cells (congrArg Prod.snd hfin).symm _ _ | exact cu_cells (congrArg Prod.snd hfin) _ _ | exact (congrArg Prod.fst hfin).symm | exact congrArg Prod.fst hfin), obj_eq (c := pl (isl [])) (by kernel_rfl) (congrArg (fun z => pl (isl z)) (by first | exact cu_cells (congrArg Prod.snd hfin).symm _ _ | exact cu_cells (congrArg Prod.snd hfin) _ _ | exact (congrArg Prod.fst hfin).symm | exact congrArg Prod.fst hfin)), trivial⟩, vo_cells (h := 2) ⟨26, 1, true, [(.sl 900 0 0 : A)]⟩ (by kernel_rfl) (by kernel_rfl) qG1_ti_26 (Nat.le_of_ble_eq_true rfl) (by first | rfl | (exact congrArg (fun z : Nat => [A.sl 900 0 z]) (by first | exact congrArg (fun z => z.1.length) hfin.symm | exact congrArg (fun z => z.1.length) hfin | (rw [hfin]; simp; done))))⟩
   ·skip
    have c5P := of_decide_eq_false c5
    have hfin := r3A_3 (b := b) (c := c) (by rw [h4]; omega) (by rw [h4]; omega) (by rw [h4]; omega)
    rw [h3, h4] at hfin
    refine sk (sq (rg ?_))
    refine z ?_ (h := fun ν => acts_load_owns (xs := [(.sl 3 0 R0.length : A)]) ν qG1_ti_26 rfl (by decide) rfl)
    refine z ?_ (h := fun _ => acts_store (cells := [(.sl 3 0 R0.length : A)]) qG1_ti_26 xt (by exact rfl) (by decide) (by exact ob1 rfl) (by exact Nat.le_of_ble_eq_true rfl) (by exact rfl))
    refine nl (wp_ret' ?_)
    exact ⟨[kP 2 2 0, kO 1 52 3 true [(.slv b.length 1 (ysl b) : A), aI (((cuN b c0 10).i : Nat) : Int), aI ((cuN b c0 10).h)], kO 2 26 1 true [(.sl 900 0 R0.length : A)], kO 900 3 1 true (pl (isl R0)), kF 3, kF 5, kF 7, kF 13, kF 14, kF 20, kF 22, kF 28, kF 29, kF 30, kF 39, kF 40, kF 41, kF 42], wkf (subst1 [(900, 3)]) (wS <| wX <| wX <| wP <| by (iterate 14 refine wF ?_); exact wN), ⟨obj_eq (c := [(.slv b.length 1 (ysl b) : A), aI (((cuN b c0 10).i : Nat) : Int), aI ((cuN b c0 10).h)]) (by kernel_rfl) (by first | exact cu_cells (congrArg Prod.snd hfin).symm _ _ | exact cu_cells (congrArg Prod.snd hfin) _ _ | exact (congrArg Prod.fst hfin).symm | exact congrArg Prod.fst hfin), obj_eq (c := pl (isl R0)) (by kernel_rfl) (congrArg (fun z => pl (isl z)) (by first | exact cu_cells (congrArg Prod.snd hfin).symm _ _ | exact cu_cells (congrArg Prod.snd hfin) _ _ | exact (congrArg Prod.fst hfin).symm | exact congrArg Prod.fst hfin)), trivial⟩, vo_cells (h := 2) ⟨26, 1, true, [(.sl 900 0 R0.length : A)]⟩ (by kernel_rfl) (by kernel_rfl) qG1_ti_26 (Nat.le_of_ble_eq_true rfl) (by first | rfl | (exact congrArg (fun z : Nat => [A.sl 900 0 z]) (by first | exact congrArg (fun z => z.1.length) hfin.symm | exact congrArg (fun z => z.1.length) hfin | (rw [hfin]; simp; done))))⟩

set_option maxHeartbeats 4000000 in
set_option maxRecDepth 100000 in
theorem spec_l03Any_fn (b : List Nat) (c : Cu) (hb : b.length ≤ 1048576) (hy : ∀ x ∈ b, x < 256) (hi : c.i ≤ b.length) : FnO Try.prog 35 [.a (.ptr 1 0)] [(.o 1, some (.o ⟨52, 3, true, [(.slv b.length 1 (ysl b) : A), aI ((c.i : Nat) : Int), aI c.h]⟩))] (V.b (.agg [(.sl 900 0 ((r3A b c).1.length) : A)])) [(.o 1, some (.o ⟨52, 3, true, [(.slv b.length 1 (ysl b) : A), aI ((((r3A b c).2).i : Nat) : Int), aI (((r3A b c).2).h)]⟩)), (.o 900, some (.o ⟨3, 1, true, pl (isl ((r3A b c).1))⟩))] [1] := by
 exact l03Any_R b c _ _ hb hy hi rfl rfl

set_option maxHeartbeats 4000000 in
set_option maxRecDepth 100000 in
theorem spec_l15Any_fn (b : List Nat) (c : Cu) (hb : b.length ≤ 1048576) (hy : ∀ x ∈ b, x < 256) (hi : c.i ≤ b.length) : FnO Try.prog 15 [.a (.ptr 1 0)] [(.o 1, some (.o ⟨52, 3, true, [(.slv b.length 1 (ysl b) : A), aI ((c.i : Nat) : Int), aI c.h]⟩))] (V.b (.agg [(.sl 900 0 ((r15 b c).1.length) : A)])) [(.o 1, some (.o ⟨52, 3, true, [(.slv b.length 1 (ysl b) : A), aI ((((r15 b c).2).i : Nat) : Int), aI (((r15 b c).2).h)]⟩)), (.o 900, some (.o ⟨3, 1, true, pl (isl ((r15 b c).1))⟩))] [1] := by
 have hi2 := cuI_le (n := 2) hi
 refine fn_introO (N := 9) Try.func15 rfl (by kernel_rfl) rfl (Nat.le_of_ble_eq_true rfl) rfl rfl (by kernel_rfl) (by kernel_rfl) ⟨ocs (by kernel_rfl), trivial⟩ [2, 4, 6, 8, 9, 10, 11, 12] (retO1 rfl) (fun W own kp im0 => ?_)
 show Wp _ _ _ [kP 0 1 0, kO 1 52 3 true [(.slv b.length 1 (ysl b) : A), aI ((c.i : Nat) : Int), aI c.h], kF 2, kF 4, kF 6, kF 8, kF 9, kF 10, kF 11, kF 12]
 refine sq (rg ?_)
 refine z ?_ (h := fun ν => acts_alloc' (h := 2) (cap := 1) (s := 1) (cells := [(.val (.slice none 0 0) : A)]) ν qG1_zi_26 rfl rfl (by decide))
 refine nl (sq (sq (rg (zm ?_))))
 refine z ?_ (h := fun ν => acts_callO (d := 4) (f := 33) (os := [(.o 1, some (.o ⟨52, 3, true, [(.slv b.length 1 (ysl b) : A), aI ((c.i : Nat) : Int), aI c.h]⟩))]) (os' := [(.o 1, some (.o ⟨52, 3, true, [(.slv b.length 1 (ysl b) : A), aI (((cuN b c 2).i : Nat) : Int), aI ((cuN b c 2).h)]⟩))]) (r := V.v (.bool (decide (cuX b c 2 = 0)))) (bs := [.a (.ptr 1 0), .a (.val (.int .i64 2))]) (keep := [1]) (new := []) (dead := []) ν ((spec_l01Once_fn b c 2 (by first | omega | assumption) (by first | omega | assumption) (by first | omega | assumption) (by first | omega | assumption) (by first | omega | assumption))) (by kernel_rfl) ⟨ocs (by kernel_rfl), trivial⟩ (by kernel_rfl) (ArgOs.cons (ArgO.slot 3 (.a (.ptr 1 0))) (ArgOs.cons ((ArgO.v vc)) (ArgOs.nil))))
 refine nl ?_
 refine wi (b := (decide (cuX b c 2 = 0))) (fun c1 => ?_) (fun c1 => ?_)
 ·skip
  have hfin := r15_0 (of_decide_eq_true c1)
  refine sq (rg (zm ?_))
  refine z ?_ (h := fun ν => acts_callO (d := 6) (f := 34) (os := [(.o 1, some (.o ⟨52, 3, true, [(.slv b.length 1 (ysl b) : A), aI (((cuN b c 2).i : Nat) : Int), aI ((cuN b c 2).h)]⟩))]) (os' := [(.o 1, some (.o ⟨52, 3, true, [(.slv b.length 1 (ysl b) : A), aI ((((r8 b 6 (cuN b c 2)).2).i : Nat) : Int), aI (((r8 b 6 (cuN b c 2)).2).h)]⟩)), (.o 4, some (.o ⟨3, 1, true, pl (isl ((r8 b 6 (cuN b c 2)).1))⟩))]) (r := V.b (.agg [(.sl 4 0 ((r8 b 6 (cuN b c 2)).1.length) : A)])) (bs := [.a (.ptr 1 0)]) (keep := [1]) (new := [4]) (dead := []) ν (FnO.ren' (spec_l08Region_fn b (cuN b c 2) (by first | omega | assumption) (by first | omega | assumption) (by first | omega | assumption)) (subst1 [(900, 4)]) rfl rfl (by kernel_rfl) (by kernel_rfl) ⟨ocs (by kernel_rfl), oc_pl (fun _ => rfl), trivial⟩ (by kernel_rfl) rfl (by simp only [renS, Ob.ren, pl_ren, rws_ren_doms, rws_ren_ints, rws_ren_cels, rwI_ren, rwD_ren]; first | done | rfl) (by simp only [renS, Ob.ren, pl_ren, rws_ren_doms, rws_ren_ints, rws_ren_cels, rwI_ren, rwD_ren]; first | done | rfl) rfl rfl) (by kernel_rfl) ⟨ocs (by kernel_rfl), oc_pl (fun _ => rfl), trivial⟩ (by kernel_rfl) (ArgOs.cons (ArgO.slot 5 (.a (.ptr 1 0))) (ArgOs.nil)))
  refine z ?_ (h := fun _ => acts_store (cells := [(.sl 4 0 ((r8 b 6 (cuN b c 2)).1.length) : A)]) qG1_ti_26 xt (by exact rfl) (by decide) (by exact ob1 rfl) (by exact Nat.le_of_ble_eq_true rfl) (by exact rfl))
  refine nl (wp_ret' ?_)
  exact ⟨[kP 2 2 0, kO 1 52 3 true [(.slv b.length 1 (ysl b) : A), aI ((((r8 b 6 (cuN b c 2)).2).i : Nat) : Int), aI (((r8 b 6 (cuN b c 2)).2).h)], kO 2 26 1 true [(.sl 900 0 ((r8 b 6 (cuN b c 2)).1.length) : A)], kO 900 3 1 true (pl (isl ((r8 b 6 (cuN b c 2)).1))), kF 4, kF 6, kF 8, kF 9, kF 10, kF 11, kF 12], wkf (subst1 [(900, 4)]) (wS <| wX <| wX <| wP <| wF <| wF <| wF <| wF <| wF <| wF <| wF <| wN), ⟨obj_eq (c := [(.slv b.length 1 (ysl b) : A), aI ((((r8 b 6 (cuN b c 2)).2).i : Nat) : Int), aI (((r8 b 6 (cuN b c 2)).2).h)]) (by kernel_rfl) (by first | exact cu_cells (congrArg Prod.snd hfin).symm _ _ | exact cu_cells (congrArg Prod.snd hfin) _ _ | exact (congrArg Prod.fst hfin).symm | exact congrArg Prod.fst hfin), obj_eq (c := pl (isl ((r8 b 6 (cuN b c 2)).1))) (by kernel_rfl) (congrArg (fun z => pl (isl z)) (by first | exact cu_cells (congrArg Prod.snd hfin).symm _ _ | exact cu_cells (congrArg Prod.snd hfin) _ _ | exact (congrArg Prod.fst hfin).symm | exact congrArg Prod.fst hfin)), trivial⟩, vo_cells (h := 2) ⟨26, 1, true, [(.sl 900 0 ((r8 b 6 (cuN b c 2)).1.length) : A)]⟩ (by kernel_rfl) (by kernel_rfl) qG1_ti_26 (Nat.le_of_ble_eq_true rfl) (by first | rfl | (exact congrArg (fun z : Nat => [A.sl 900 0 z]) (by first | exact congrArg (fun z => z.1.length) hfin.symm | exact congrArg (fun z => z.1.length) hfin)))⟩
 ·skip
  have hfin := r15_1 (of_decide_eq_false c1)
  refine sk (sq (rg (zm ?_)))
  refine z ?_ (h := fun ν => acts_callO (d := 8) (f := 35) (os := [(.o 1, some (.o ⟨52, 3, true, [(.slv b.length 1 (ysl b) : A), aI (((cuN b c 2).i : Nat) : Int), aI ((cuN b c 2).h)]⟩))]) (os' := [(.o 1, some (.o ⟨52, 3, true, [(.slv b.length 1 (ysl b) : A), aI ((((r3A b (cuN b c 2)).2).i : Nat) : Int), aI (((r3A b (cuN b c 2)).2).h)]⟩)), (.o 4, some (.o ⟨3, 1, true, pl (isl ((r3A b (cuN b c 2)).1))⟩))]) (r := V.b (.agg [(.sl 4 0 ((r3A b (cuN b c 2)).1.length) : A)])) (bs := [.a (.ptr 1 0)]) (keep := [1]) (new := [4]) (dead := []) ν (FnO.ren' (spec_l03Any_fn b (cuN b c 2) (by first | omega | assumption) (by first | omega | assumption) (by first | omega | assumption)) (subst1 [(900, 4)]) rfl rfl (by kernel_rfl) (by kernel_rfl) ⟨ocs (by kernel_rfl), oc_pl (fun _ => rfl), trivial⟩ (by kernel_rfl) rfl (by simp only [renS, Ob.ren, pl_ren, rws_ren_doms, rws_ren_ints, rws_ren_cels, rwI_ren, rwD_ren]; first | done | rfl) (by simp only [renS, Ob.ren, pl_ren, rws_ren_doms, rws_ren_ints, rws_ren_cels, rwI_ren, rwD_ren]; first | done | rfl) rfl rfl) (by kernel_rfl) ⟨ocs (by kernel_rfl), oc_pl (fun _ => rfl), trivial⟩ (by kernel_rfl) (ArgOs.cons (ArgO.slot 7 (.a (.ptr 1 0))) (ArgOs.nil)))
  refine z ?_ (h := fun _ => acts_store (cells := [(.sl 4 0 ((r3A b (cuN b c 2)).1.length) : A)]) qG1_ti_26 xt (by exact rfl) (by decide) (by exact ob1 rfl) (by exact Nat.le_of_ble_eq_true rfl) (by exact rfl))
  refine nl (wp_ret' ?_)
  exact ⟨[kP 2 2 0, kO 1 52 3 true [(.slv b.length 1 (ysl b) : A), aI ((((r3A b (cuN b c 2)).2).i : Nat) : Int), aI (((r3A b (cuN b c 2)).2).h)], kO 2 26 1 true [(.sl 900 0 ((r3A b (cuN b c 2)).1.length) : A)], kO 900 3 1 true (pl (isl ((r3A b (cuN b c 2)).1))), kF 4, kF 6, kF 8, kF 9, kF 10, kF 11, kF 12], wkf (subst1 [(900, 4)]) (wS <| wX <| wX <| wP <| wF <| wF <| wF <| wF <| wF <| wF <| wF <| wN), ⟨obj_eq (c := [(.slv b.length 1 (ysl b) : A), aI ((((r3A b (cuN b c 2)).2).i : Nat) : Int), aI (((r3A b (cuN b c 2)).2).h)]) (by kernel_rfl) (by first | exact cu_cells (congrArg Prod.snd hfin).symm _ _ | exact cu_cells (congrArg Prod.snd hfin) _ _ | exact (congrArg Prod.fst hfin).symm | exact congrArg Prod.fst hfin), obj_eq (c := pl (isl ((r3A b (cuN b c 2)).1))) (by kernel_rfl) (congrArg (fun z => pl (isl z)) (by first | exact cu_cells (congrArg Prod.snd hfin).symm _ _ | exact cu_cells (congrArg Prod.snd hfin) _ _ | exact (congrArg Prod.fst hfin).symm | exact congrArg Prod.fst hfin)), trivial⟩, vo_cells (h := 2) ⟨26, 1, true, [(.sl 900 0 ((r3A b (cuN b c 2)).1.length) : A)]⟩ (by kernel_rfl) (by kernel_rfl) qG1_ti_26 (Nat.le_of_ble_eq_true rfl) (by first | rfl | (exact congrArg (fun z : Nat => [A.sl 900 0 z]) (by first | exact congrArg (fun z => z.1.length) hfin.symm | exact congrArg (fun z => z.1.length) hfin)))⟩

set_option maxHeartbeats 4000000 in
set_option maxRecDepth 100000 in
theorem spec_DrawSignMatrix_fn (b : List Nat) (R : List Int) (hb : b.length ≤ 1048576) (hy : ∀ x ∈ b, x < 256) (hR : (r15 b (cu0 b)).1 = R) : FnO Try.prog 5 [.a (.slv b.length 1 (ysl b))] [] (V.b (.agg [(.sl 900 0 R.length : A)])) [(.o 900, some (.o ⟨3, 1, true, pl (isl R)⟩))] [] := by
 refine fn_introO (N := 6) Try.func5 rfl (by kernel_rfl) rfl (Nat.le_of_ble_eq_true rfl) rfl rfl (by kernel_rfl) (by kernel_rfl) trivial [2, 4, 5] (retO1 rfl) (fun W own kp im0 => ?_)
 show Wp _ _ _ [kV 0 (V.b (.a (.slv b.length 1 (ysl b)))), kF 2, kF 4, kF 5]
 refine sq (rg ?_)
 refine z ?_ (h := fun ν => acts_alloc' (h := 2) (cap := 1) (s := 1) (cells := [(.val (.slice none 0 0) : A)]) ν qG1_zi_26 rfl rfl (by decide))
 refine nl (sq (rg (zm ?_)))
 refine z ?_ (h := fun ν => acts_callO (d := 4) (f := 16) (os := []) (os' := [(.o 4, some (.o ⟨52, 3, true, [(.slv b.length 1 (ysl b) : A), aI (((cu0 b).i : Nat) : Int), aI ((cu0 b).h)]⟩))]) (r := V.p 4 0) (bs := [.a (.slv b.length 1 (ysl b))]) (keep := []) (new := [4]) (dead := []) ν (FnO.ren' (spec_l01New_fn b (by first | omega | assumption | exact (Nat.zero_le _ : 0 ≤ _)) (by first | omega | assumption | exact (Nat.zero_le _ : 0 ≤ _))) (subst1 [(900, 4)]) rfl rfl (by kernel_rfl) (by kernel_rfl) ⟨ocs (by kernel_rfl), trivial⟩ (by kernel_rfl) rfl (by simp only [renS, Ob.ren, pl_ren, rws_ren_doms, rws_ren_ints, rws_ren_cels, rwI_ren, rwD_ren]; first | done | rfl) (by simp only [renS, Ob.ren, pl_ren, rws_ren_doms, rws_ren_ints, rws_ren_cels, rwI_ren, rwD_ren]; first | done | rfl) rfl rfl) (by kernel_rfl) ⟨ocs (by kernel_rfl), trivial⟩ (by kernel_rfl) (ArgOs.cons (ArgO.slot 3 (.a (.slv b.length 1 (ysl b)))) (ArgOs.nil)))
 refine z ?_ (h := fun ν => acts_callO (d := 5) (f := 15) (os := [(.o 4, some (.o ⟨52, 3, true, [(.slv b.length 1 (ysl b) : A), aI (((cu0 b).i : Nat) : Int), aI ((cu0 b).h)]⟩))]) (os' := [(.o 4, some (.o ⟨52, 3, true, [(.slv b.length 1 (ysl b) : A), aI ((((r15 b (cu0 b)).2).i : Nat) : Int), aI (((r15 b (cu0 b)).2).h)]⟩)), (.o 5, some (.o ⟨3, 1, true, pl (isl ((r15 b (cu0 b)).1))⟩))]) (r := V.b (.agg [(.sl 5 0 ((r15 b (cu0 b)).1.length) : A)])) (bs := [.a (.ptr 4 0)]) (keep := [4]) (new := [5]) (dead := []) ν (FnO.ren' (spec_l15Any_fn b (cu0 b) (by first | omega | assumption | exact (Nat.zero_le _ : 0 ≤ _)) (by first | omega | assumption | exact (Nat.zero_le _ : 0 ≤ _)) (by first | omega | assumption | exact (Nat.zero_le _ : 0 ≤ _))) (subst1 [(1, 4), (900, 5)]) rfl rfl (by kernel_rfl) (by kernel_rfl) ⟨ocs (by kernel_rfl), oc_pl (fun _ => rfl), trivial⟩ (by kernel_rfl) rfl (by simp only [renS, Ob.ren, pl_ren, rws_ren_doms, rws_ren_ints, rws_ren_cels, rwI_ren, rwD_ren]; first | done | rfl) (by simp only [renS, Ob.ren, pl_ren, rws_ren_doms, rws_ren_ints, rws_ren_cels, rwI_ren, rwD_ren]; first | done | rfl) rfl rfl) (by kernel_rfl) ⟨ocs (by kernel_rfl), oc_pl (fun _ => rfl), trivial⟩ (by kernel_rfl) (ArgOs.cons (ArgO.slot 4 (.a (.ptr 4 0))) (ArgOs.nil)))
 refine z ?_ (h := fun _ => acts_store (cells := [(.sl 5 0 ((r15 b (cu0 b)).1.length) : A)]) qG1_ti_26 xt (by exact rfl) (by decide) (by exact ob1 rfl) (by exact Nat.le_of_ble_eq_true rfl) (by exact rfl))
 refine nl (wp_ret' ?_)
 exact ⟨[kP 2 2 0, kO 2 26 1 true [(.sl 900 0 ((r15 b (cu0 b)).1.length) : A)], kO 900 3 1 true (pl (isl ((r15 b (cu0 b)).1))), kF 4, kF 5], wkf (subst1 [(900, 5)]) (wS <| wX <| wP <| wF <| wF <| wN), ⟨obj_eq (c := pl (isl ((r15 b (cu0 b)).1))) (by kernel_rfl) (congrArg (fun z => pl (isl z)) (by exact hR)), trivial⟩, vo_cells (h := 2) ⟨26, 1, true, [(.sl 900 0 ((r15 b (cu0 b)).1.length) : A)]⟩ (by kernel_rfl) (by kernel_rfl) qG1_ti_26 (Nat.le_of_ble_eq_true rfl) (by first | rfl | (exact congrArg (fun z : Nat => [A.sl 900 0 z]) (by rw [hR])))⟩

set_option maxHeartbeats 4000000 in
set_option maxRecDepth 100000 in
theorem spec_l16Square_fn (b : List Nat) (c : Cu) (n : Nat) (hb : b.length ≤ 1048576) (hy : ∀ x ∈ b, x < 256) (hi : c.i ≤ b.length) (hn : n ≤ 4) : FnO Try.prog 18 [.a (.ptr 1 0), .a (.val (.int .i64 ((n : Nat) : Int)))] [(.o 1, some (.o ⟨52, 3, true, [(.slv b.length 1 (ysl b) : A), aI ((c.i : Nat) : Int), aI c.h]⟩))] (V.b (.a (.sl 900 0 ((sqM b n c n).1.length)))) [(.o 1, some (.o ⟨52, 3, true, [(.slv b.length 1 (ysl b) : A), aI ((((sqM b n c n).2).i : Nat) : Int), aI (((sqM b n c n).2).h)]⟩)), (.o 900, some (.o ⟨24, 1, true, rwI 3 ((sqM b n c n).1)⟩))] [1] := by
 have h5 : ([0, 0, 1, -1, 1] : List Int).length = 5 := rfl
 refine fn_introO (N := 32) Try.func18 rfl (by kernel_rfl) rfl (Nat.le_of_ble_eq_true rfl) rfl rfl (by kernel_rfl) (by kernel_rfl) ⟨ocs (by kernel_rfl), trivial⟩ [9, 15, 23, 24, 25, 26, 29, 30, 32, 33, 34, 35] (retO1 rfl) (fun W own kp im0 => ?_)
 show Wp _ _ _ [kP 0 1 0, kI 1 ((n : Nat) : Int), kO 1 52 3 true [(.slv b.length 1 (ysl b) : A), aI ((c.i : Nat) : Int), aI c.h], kF 9, kF 15, kF 23, kF 24, kF 25, kF 26, kF 29, kF 30, kF 32, kF 33, kF 34, kF 35]
 refine sq (rg (zk (nl (sq (rg ?_)))))
 refine z ?_ (h := fun ν => b0Q (h := 9) (T := 3) ν qG1_un_29 qG1_zi_24)
 refine za (nl (sq (sq (rg (zk (nl (bkk ?_)))))))
 refine wp_loop' (fun (k : Nat) => k ≤ n) (fun (k : Nat) => [kP 0 1 0, kI 1 ((n : Nat) : Int), kS 5 9 0 (((sqM b n c k).1).length), kI 6 ((k : Nat) : Int), kO 1 52 3 true [(.slv b.length 1 (ysl b) : A), aI ((((sqM b n c k).2).i : Nat) : Int), aI (((sqM b n c k).2).h)], kO 9 24 1 true (rwI 3 ((sqM b n c k).1)), kF 15, kF 23, kF 24, kF 25, kF 26, kF 29, kF 30, kF 32, kF 33, kF 34, kF 35]) (fun (k : Nat) => n - k) ((0 : Nat)) (by exact (Nat.zero_le _ : 0 ≤ _)) (wkf id (wS <| wS <| wE (e := (vsl (by first | rfl | (simp; done) | (simp; omega) | omega | (exact congrArg List.length (by first | rfl | omega | ((have e : j = n := by omega); subst e; rfl) | (simp [sqM]; done)))) rfl)) <| wE (e := (vint (by first | rfl | omega | ((have e : j = n := by omega); subst e; rfl) | (simp [sqM]; done)))) <| wO (e := renob_l (fun h => h) (by first | rfl | omega | ((have e : j = n := by omega); subst e; rfl) | (simp [sqM]; done)) rfl) <| wQI (e := (by first | rfl | omega | ((have e : j = n := by omega); subst e; rfl) | (simp [sqM]; done))) <| by (iterate 11 refine wF ?_); exact wN)) ?_
 rintro k inv1
 replace inv1 : k ≤ n := inv1
 have invk := inv1
 have hsk := (sqM_ok b n c k).1
 have hik := sqM_i (n := n) hi k
 refine sq (sq (rg (zm (zm ?_))))
 refine z ?_ (h := fun ν => acts_bin ν vt vt (r_lss rfl))
 refine nl ?_
 refine wi (fun c2 => ?_) (fun c2 => ?_)
 ·skip
  have c2P := of_decide_eq_true c2
  refine sk (sq (bkk (sq (rg ?_))))
  refine z ?_ (h := fun ν => b0I (h := 15) ν qG1_un_24 qG1_zi_3)
  refine za (nl (sq (sq (rg (zk (nl (bkk ?_)))))))
  refine wp_loop' (fun (j : Nat) => j ≤ n) (fun (j : Nat) => [kP 0 1 0, kI 1 ((n : Nat) : Int), kS 5 9 0 (((sqM b n c k).1).length), kI 6 ((k : Nat) : Int), kS 7 15 0 (((sqR b (sqM b n c k).2 j).1).length), kI 8 ((j : Nat) : Int), kO 1 52 3 true [(.slv b.length 1 (ysl b) : A), aI ((((sqR b (sqM b n c k).2 j).2).i : Nat) : Int), aI (((sqR b (sqM b n c k).2 j).2).h)], kO 9 24 1 true (rwI 3 ((sqM b n c k).1)), kO 15 3 1 true (pl (isl ((sqR b (sqM b n c k).2 j).1))), kF 23, kF 24, kF 25, kF 26, kF 29, kF 30, kF 32, kF 33, kF 34, kF 35]) (fun (j : Nat) => n - j) ((0 : Nat)) (by exact (Nat.zero_le _ : 0 ≤ _)) (wkf id (wS <| wS <| wS <| wS <| wE (e := (vsl (by first | rfl | (simp; done) | (simp; omega) | omega | (exact congrArg List.length (by first | rfl | omega | (simp [sqR, five]; done)))) rfl)) <| wE (e := (vint (by first | rfl | omega | (simp [sqR, five]; done)))) <| wO (e := renob_l (fun h => h) (by first | rfl | omega | (simp [sqR, five]; done)) rfl) <| wQI <| wO (e := renob_eq (fun h => h) (congrArg isl (by first | rfl | omega | (simp [sqR, five]; done)))) <| by (iterate 10 refine wF ?_); exact wN)) ?_
  rintro j inv3
  replace inv3 : j ≤ n := inv3
  have invj := inv3
  have hsj := (sqR_ok b (sqM b n c k).2 j).1
  have hij := sqR_i hik j
  refine sq (sq (rg (zm (zm ?_))))
  refine z ?_ (h := fun ν => acts_bin ν vt vt (r_lss rfl))
  refine nl ?_
  refine wi (fun c4 => ?_) (fun c4 => ?_)
  ·skip
   have c4P := of_decide_eq_true c4
   refine sk (sq (bkk (rg (zm (zm ?_)))))
   refine z ?_ (h := fun ν => acts_buildSlice' (h := 23) (xs := isl ([0, 0, 1, (-1), 1] : List Int)) ν qG1_un_24 qG1_zi_3 (.cons vc (.cons vc (.cons vc (.cons vc (.cons vc OpVs.nil))))) (by decide) (by decide) (by kernel_rfl) rfl)
   refine z ?_ (h := fun ν => acts_callO (d := 24) (f := 36) (os := [(.o 1, some (.o ⟨52, 3, true, [(.slv b.length 1 (ysl b) : A), aI ((((sqR b (sqM b n c k).2 j).2).i : Nat) : Int), aI (((sqR b (sqM b n c k).2 j).2).h)]⟩)), (.o 23, some (.o ⟨3, 1, true, pl (isl [0, 0, 1, (-1), 1])⟩))]) (os' := [(.o 1, some (.o ⟨52, 3, true, [(.slv b.length 1 (ysl b) : A), aI (((cuN b ((sqR b (sqM b n c k).2 j).2) [0, 0, 1, (-1), 1].length).i : Nat) : Int), aI ((cuN b ((sqR b (sqM b n c k).2 j).2) [0, 0, 1, (-1), 1].length).h)]⟩)), (.o 23, some (.o ⟨3, 1, true, pl (isl [0, 0, 1, (-1), 1])⟩))]) (r := V.v (.int .i64 (gI [0, 0, 1, (-1), 1] (cuX b ((sqR b (sqM b n c k).2 j).2) [0, 0, 1, (-1), 1].length)))) (bs := [.a (.ptr 1 0), .a (.sl 23 0 5)]) (keep := [1, 23]) (new := []) (dead := []) ν (FnO.ren' (spec_l01PickInt_fn b ((sqR b (sqM b n c k).2 j).2) [0, 0, 1, (-1), 1] (by first | omega | assumption | decide | (simp; omega)) (by first | omega | assumption | decide | (simp; omega)) (by first | omega | assumption | decide | (simp; omega)) (by first | omega | assumption | decide | (simp; omega)) (by first | omega | assumption | decide | (simp; omega))) (subst1 [(801, 23)]) rfl rfl (by kernel_rfl) (by kernel_rfl) ⟨ocs (by kernel_rfl), oc_pl (fun _ => rfl), trivial⟩ (by kernel_rfl) rfl (by simp only [renS, Ob.ren, pl_ren, rws_ren_doms, rws_ren_ints, rws_ren_cels, rwI_ren, rwD_ren]; first | done | rfl) (by simp only [renS, Ob.ren, pl_ren, rws_ren_doms, rws_ren_ints, rws_ren_cels, rwI_ren, rwD_ren]; first | done | rfl) rfl rfl) (by kernel_rfl) ⟨ocs (by kernel_rfl), oc_pl (fun _ => rfl), trivial⟩ (by kernel_rfl) (ArgOs.cons (ArgO.slot 22 (.a (.ptr 1 0))) (ArgOs.cons (ArgO.slot 23 (.a (.sl 23 0 5))) (ArgOs.nil))))
   refine z ?_ (h := fun ν => acts_buildSlice' (h := 25) (xs := isl ([(gI [0, 0, 1, (-1), 1] (cuX b ((sqR b (sqM b n c k).2 j).2) [0, 0, 1, (-1), 1].length))] : List Int)) ν qG1_un_24 qG1_zi_3 (.cons vt OpVs.nil) (by decide) (by decide) (by kernel_rfl) rfl)
   refine z ?_ (h := fun ν => aI_ (h2 := 26) (L3 := ((sqR b (sqM b n c k).2 j).1 ++ [(gI [0, 0, 1, (-1), 1] (cuX b ((sqR b (sqM b n c k).2 j).2) [0, 0, 1, (-1), 1].length))])) ν qG1_un_24 qG1_zi_3 (by first | exact rfl | (simp; done) | (simp; omega) | omega) rfl (by first | exact rfl | (simp; done) | (simp; omega) | omega) (by first | omega | (simp; omega) | (simp at *; omega)))
   refine za (nl (rg (zm ?_)))
   refine z ?_ (h := fun ν => acts_bin ν vt vc (rA (by first | omega | assumption | decide | (simp; omega)) (by first | omega | assumption | decide | (simp; omega))))
   refine za (nl ?_)
   exact loop_back ((j + 1)) (by show _ ≤ _; omega) (by show n - (j + 1) < n - j; omega) (wkf (subst1 [(15, 26)]) (wS <| wS <| wS <| wS <| wE (e := (vsl (by first | rfl | (simp; done) | (simp; omega) | omega | (exact congrArg List.length (by first | rfl | omega | (simp [sqR, five]; done)))) rfl)) <| wE (e := (vint (by first | rfl | omega | (simp [sqR, five]; done)))) <| wO (e := renob_l (fun h => h) (by first | rfl | omega | (simp [sqR, five]; done)) rfl) <| wQI <| wO (e := renob_eq (fun h => h) (congrArg isl (by first | rfl | omega | (simp [sqR, five]; done)))) <| by (iterate 10 refine wF ?_); exact wN))
  ·skip
   have c4P := of_decide_eq_false c4
   refine wp_exit' (rg (zm (zm ?_)))
   refine z ?_ (h := fun ν => bs1 (h := 29) ν qG1_un_29 qG1_zi_24 (by exact ⟨_, _, _, .inl rfl⟩))
   refine z ?_ (h := fun ν => aQ (h2 := 30) (nm := ((sqM b n c k).1 ++ [(sqR b (sqM b n c k).2 j).1]).length) ν qG1_un_29 qG1_zi_24 (by exact ⟨_, _, _, .inl rfl⟩) (by simp [rwI_len, rwD_len]) (by first | omega | (simp; omega) | (first | omega | assumption | decide | (simp; omega))) (by simp))
   refine za (nl ?_)
   refine wp_weak (pkI (h := 30) (h1 := 15) (T := 3) (T0 := 24) (s0 := 1) (ex0 := true) (n := (((sqR b (sqM b n c k).2 j).1).length)) (L := ((sqM b n c k).1)) (r := ((sqR b (sqM b n c k).2 j).1))) ?_
   refine rg (zm ?_)
   refine z ?_ (h := fun ν => acts_bin ν vt vc (rA (by first | omega | assumption | decide | (simp; omega)) (by first | omega | assumption | decide | (simp; omega))))
   refine za (nl ?_)
   exact loop_back ((k + 1)) (by show _ ≤ _; omega) (by show n - (k + 1) < n - k; omega) (wkf (subst1 [(9, 30)]) (wS <| wS <| wE (e := (vsl (by first | rfl | (simp; done) | (simp; omega) | omega | (exact congrArg List.length (by first | rfl | omega | ((have e : j = n := by omega); subst e; rfl) | (simp [sqM]; done)))) rfl)) <| wE (e := (vint (by first | rfl | omega | ((have e : j = n := by omega); subst e; rfl) | (simp [sqM]; done)))) <| wO (e := renob_l (fun h => h) (by first | rfl | omega | ((have e : j = n := by omega); subst e; rfl) | (simp [sqM]; done)) rfl) <| wQI (e := (by first | rfl | omega | ((have e : j = n := by omega); subst e; rfl) | (simp [sqM]; done))) <| by (iterate 11 refine wF ?_); exact wN))
 ·skip
  have c2P := of_decide_eq_false c2
  refine wp_exit' (sq (rg (zm (za (nl (wp_ret' ?_))))))
  exact ⟨[kS 4 900 0 (((sqM b n c k).1).length), kO 1 52 3 true [(.slv b.length 1 (ysl b) : A), aI ((((sqM b n c k).2).i : Nat) : Int), aI (((sqM b n c k).2).h)], kO 900 24 1 true (rwI 3 ((sqM b n c k).1)), kF 9, kF 15, kF 23, kF 24, kF 25, kF 26, kF 29, kF 30, kF 32, kF 33, kF 34, kF 35], wkf (subst1 [(900, 9)]) (wS <| wX <| wQI <| by (iterate 12 refine wF ?_); exact wN), ⟨obj_eq (c := [(.slv b.length 1 (ysl b) : A), aI ((((sqM b n c k).2).i : Nat) : Int), aI (((sqM b n c k).2).h)]) (by kernel_rfl) (by (have e : k = n := by omega); subst e; rfl), obj_eq (c := rwI 3 ((sqM b n c k).1)) (by kernel_rfl) (congrArg (fun z => rwI 3 z) (by (have e : k = n := by omega); subst e; rfl)), trivial⟩, vo_eq 4 (.a (.sl 900 0 (((sqM b n c k).1).length))) (.a (.sl 900 0 ((sqM b n c n).1.length))) (by kernel_rfl) (congrArg (fun z : Nat => B.a (.sl 900 0 z)) (by (have e : k = n := by omega); subst e; rfl))⟩

set_option maxHeartbeats 4000000 in
set_option maxRecDepth 100000 in
theorem spec_DrawSquare_fn (b : List Nat) (m : List (List Int)) (hb : b.length ≤ 1048576) (hy : ∀ x ∈ b, x < 256) (hM : (sqM b (1 + cuX b (cu0 b) 4) (cuN b (cu0 b) 4) (1 + cuX b (cu0 b) 4)).1 = m) : FnO Try.prog 8 [.a (.slv b.length 1 (ysl b))] [] (V.b (.a (.sl 900 0 m.length))) [(.o 900, some (.o ⟨24, 1, true, rwI 3 m⟩))] [] := by
 have hx4 : cuX b (cu0 b) 4 < 4 := cuX_lt (by decide)
 have hi4 : (cuN b (cu0 b) 4).i ≤ b.length := cuI_le (Nat.zero_le _)
 refine fn_introO (N := 11) Try.func8 rfl (by kernel_rfl) rfl (Nat.le_of_ble_eq_true rfl) rfl rfl (by kernel_rfl) (by kernel_rfl) trivial [5, 8, 10] (retO1 rfl) (fun W own kp im0 => ?_)
 show Wp _ _ _ [kV 0 (V.b (.a (.slv b.length 1 (ysl b)))), kF 5, kF 8, kF 10]
 refine sq (rg (zk (nl (sq (rg (zm ?_))))))
 refine z ?_ (h := fun ν => acts_callO (d := 5) (f := 16) (os := []) (os' := [(.o 5, some (.o ⟨52, 3, true, [(.slv b.length 1 (ysl b) : A), aI (((cu0 b).i : Nat) : Int), aI ((cu0 b).h)]⟩))]) (r := V.p 5 0) (bs := [.a (.slv b.length 1 (ysl b))]) (keep := []) (new := [5]) (dead := []) ν (FnO.ren' (spec_l01New_fn b (by first | omega | assumption | exact (Nat.zero_le _ : 0 ≤ _)) (by first | omega | assumption | exact (Nat.zero_le _ : 0 ≤ _))) (subst1 [(900, 5)]) rfl rfl (by kernel_rfl) (by kernel_rfl) ⟨ocs (by kernel_rfl), trivial⟩ (by kernel_rfl) rfl (by simp only [renS, Ob.ren, pl_ren, rws_ren_doms, rws_ren_ints, rws_ren_cels, rwI_ren, rwD_ren]; first | done | rfl) (by simp only [renS, Ob.ren, pl_ren, rws_ren_doms, rws_ren_ints, rws_ren_cels, rwI_ren, rwD_ren]; first | done | rfl) rfl rfl) (by kernel_rfl) ⟨ocs (by kernel_rfl), trivial⟩ (by kernel_rfl) (ArgOs.cons (ArgO.slot 4 (.a (.slv b.length 1 (ysl b)))) (ArgOs.nil)))
 refine za (nl (sq (rg (zm (zm ?_)))))
 refine z ?_ (h := fun ν => acts_callO (d := 8) (f := 19) (os := [(.o 5, some (.o ⟨52, 3, true, [(.slv b.length 1 (ysl b) : A), aI (((cu0 b).i : Nat) : Int), aI ((cu0 b).h)]⟩))]) (os' := [(.o 5, some (.o ⟨52, 3, true, [(.slv b.length 1 (ysl b) : A), aI (((cuN b (cu0 b) 4).i : Nat) : Int), aI ((cuN b (cu0 b) 4).h)]⟩))]) (r := V.v (.int .i64 (((cuX b (cu0 b) 4) : Nat) : Int))) (bs := [.a (.ptr 5 0), .a (.val (.int .i64 4))]) (keep := [5]) (new := []) (dead := []) ν (FnO.ren' (spec_l01Below_fn b (cu0 b) 4 (by first | omega | assumption | exact (Nat.zero_le _ : 0 ≤ _)) (by first | omega | assumption | exact (Nat.zero_le _ : 0 ≤ _)) (by first | omega | assumption | exact (Nat.zero_le _ : 0 ≤ _)) (by first | omega | assumption | exact (Nat.zero_le _ : 0 ≤ _)) (by first | omega | assumption | exact (Nat.zero_le _ : 0 ≤ _))) (subst1 [(1, 5)]) rfl rfl (by kernel_rfl) (by kernel_rfl) ⟨ocs (by kernel_rfl), trivial⟩ (by kernel_rfl) rfl (by simp only [renS, Ob.ren, pl_ren, rws_ren_doms, rws_ren_ints, rws_ren_cels, rwI_ren, rwD_ren]; first | done | rfl) (by simp only [renS, Ob.ren, pl_ren, rws_ren_doms, rws_ren_ints, rws_ren_cels, rwI_ren, rwD_ren]; first | done | rfl) rfl rfl) (by kernel_rfl) ⟨ocs (by kernel_rfl), trivial⟩ (by kernel_rfl) (ArgOs.cons (ArgO.slot 7 (.a (.ptr 5 0))) (ArgOs.cons ((ArgO.v vc)) (ArgOs.nil))))
 refine z ?_ (h := fun ν => acts_bin ν vc vt (rA (by first | omega | assumption | exact (Nat.zero_le _ : 0 ≤ _)) (by first | omega | assumption | exact (Nat.zero_le _ : 0 ≤ _))))
 refine z ?_ (h := fun ν => acts_callO (d := 10) (f := 18) (os := [(.o 5, some (.o ⟨52, 3, true, [(.slv b.length 1 (ysl b) : A), aI (((cuN b (cu0 b) 4).i : Nat) : Int), aI ((cuN b (cu0 b) 4).h)]⟩))]) (os' := [(.o 5, some (.o ⟨52, 3, true, [(.slv b.length 1 (ysl b) : A), aI ((((sqM b (1 + (cuX b (cu0 b) 4)) (cuN b (cu0 b) 4) (1 + (cuX b (cu0 b) 4))).2).i : Nat) : Int), aI (((sqM b (1 + (cuX b (cu0 b) 4)) (cuN b (cu0 b) 4) (1 + (cuX b (cu0 b) 4))).2).h)]⟩)), (.o 8, some (.o ⟨24, 1, true, rwI 3 ((sqM b (1 + (cuX b (cu0 b) 4)) (cuN b (cu0 b) 4) (1 + (cuX b (cu0 b) 4))).1)⟩))]) (r := V.b (.a (.sl 8 0 ((sqM b (1 + (cuX b (cu0 b) 4)) (cuN b (cu0 b) 4) (1 + (cuX b (cu0 b) 4))).1.length)))) (bs := [.a (.ptr 5 0), .a (.val (.int .i64 (1 + (((cuX b (cu0 b) 4) : Nat) : Int))))]) (keep := [5]) (new := [8]) (dead := []) ν (FnO.ren' (spec_l16Square_fn b (cuN b (cu0 b) 4) (1 + (cuX b (cu0 b) 4)) (by first | omega | assumption | exact (Nat.zero_le _ : 0 ≤ _)) (by first | omega | assumption | exact (Nat.zero_le _ : 0 ≤ _)) (by first | omega | assumption | exact (Nat.zero_le _ : 0 ≤ _)) (by first | omega | assumption | exact (Nat.zero_le _ : 0 ≤ _))) (subst1 [(1, 5), (900, 8)]) rfl rfl (by kernel_rfl) (by kernel_rfl) ⟨ocs (by kernel_rfl), oc_rwI, trivial⟩ (by kernel_rfl) rfl (by simp only [renS, Ob.ren, pl_ren, rws_ren_doms, rws_ren_ints, rws_ren_cels, rwI_ren, rwD_ren]; first | done | rfl) (by simp only [renS, Ob.ren, pl_ren, rws_ren_doms, rws_ren_ints, rws_ren_cels, rwI_ren, rwD_ren]; first | done | rfl) rfl rfl) (by kernel_rfl) ⟨ocs (by kernel_rfl), oc_rwI, trivial⟩ (by kernel_rfl) (ArgOs.cons (ArgO.slot 6 (.a (.ptr 5 0))) (ArgOs.cons ((ArgO.v vt)) (ArgOs.nil))))
 refine za (nl (wp_ret' ?_))
 exact ⟨[kS 2 900 0 ((sqM b (1 + (cuX b (cu0 b) 4)) (cuN b (cu0 b) 4) (1 + (cuX b (cu0 b) 4))).1.length), kO 900 24 1 true (rwI 3 ((sqM b (1 + (cuX b (cu0 b) 4)) (cuN b (cu0 b) 4) (1 + (cuX b (cu0 b) 4))).1)), kF 5, kF 8, kF 10], wkf (subst1 [(900, 8)]) (wS <| wQI <| wF <| wF <| wF <| wN), ⟨obj_eq (c := rwI 3 ((sqM b (1 + (cuX b (cu0 b) 4)) (cuN b (cu0 b) 4) (1 + (cuX b (cu0 b) 4))).1)) (by kernel_rfl) (congrArg (fun z => rwI 3 z) (by exact hM)), trivial⟩, vo_eq 2 (.a (.sl 900 0 ((sqM b (1 + (cuX b (cu0 b) 4)) (cuN b (cu0 b) 4) (1 + (cuX b (cu0 b) 4))).1.length))) (.a (.sl 900 0 m.length)) (by kernel_rfl) (congrArg (fun z : Nat => B.a (.sl 900 0 z)) (by rw [hM]))⟩

set_option maxHeartbeats 4000000 in
set_option maxRecDepth 100000 in
theorem impl_Rectangle_fn (w h : Nat) (hw : 1 ≤ w ∧ w ≤ 8) (hh : 1 ≤ h ∧ h ≤ 8) : Fn Try.prog 14 [.a (.val (.int .i64 ((w : Nat) : Int))), .a (.val (.int .i64 ((h : Nat) : Int)))] [.reg 3 1 (rectR w h).length (isl (rectR w h))] := by
 have hpw : 2 ^ w ≤ 2 ^ 8 := Nat.pow_le_pow_right (by decide) hw.2
 have hp0 : 0 < 2 ^ w := Nat.two_pow_pos w
 refine fn_intro (N := 29) Try.func14 rfl (by kernel_rfl) rfl (Nat.le_of_ble_eq_true rfl) [4, 5, 7, 11, 24, 25, 1000] (ret1 rfl) (fun W => ?_)
 show Wp _ _ _ [kI 0 ((w : Nat) : Int), kI 1 ((h : Nat) : Int), kF 4, kF 5, kF 7, kF 11, kF 24, kF 25, kF 1000]
 refine sq (rg ?_)
 refine z ?_ (h := fun ν => acts_alloc' (h := 4) (cap := 1) (s := 1) (cells := [(.val (.slice none 0 0) : A)]) ν qG1_zi_26 rfl rfl (by decide))
 refine nl (sq (sq (rg (zm ?_))))
 refine z ?_ (h := fun ν => acts_call1 ν (impl_within_fn ((w : Nat) : Int) 1 8 ) (ac (ArgV.v vt) (ac (ArgV.v vc) (ac (ArgV.v vc) an))) (resval (congrArg Value.bool (inB_true.2 (by omega)))))
 refine z ?_ (h := fun ν => acts_un ν vt (r_not (c := false) rfl))
 refine zm ?_
 refine zg ?_ (h := fun ν => step_on rfl rfl (mt ν))
 refine zg ?_ (h := fun ν => step_on rfl rfl (acts_call1 ν (impl_within_fn ((h : Nat) : Int) 1 8 ) (ac (ArgV.v vt) (ac (ArgV.v vc) (ac (ArgV.v vc) an))) (resval (congrArg Value.bool (inB_true.2 (by omega))))))
 refine zg ?_ (h := fun ν => step_on rfl rfl (acts_un ν vt (r_not (c := false) rfl)))
 refine z ?_ (h := fun ν => acts_pick_f ν vt xt)
 refine nl (wf (sk (sq (rg ?_))))
 refine z ?_ (h := fun ν => acts_build (cells := [(.slice none 0 0 : Value)]) ν OpVs.nil rfl)
 refine z ?_ (h := fun ν => acts_alloc' (h := 5) (cap := 1) (s := 1) (cells := [(.val (.slice none 0 0) : A)]) ν qG1_zi_26 rfl rfl (by decide))
 refine z ?_ (h := fun _ => acts_store (cells := [(.val (.slice none 0 0) : A)]) qG1_ti_26 xt (by exact rfl) (by decide) (by exact ob1 rfl) (by exact Nat.le_of_ble_eq_true rfl) (by exact rfl))
 refine nl (sq (sq (rg (zm ?_))))
 refine z ?_ (h := fun ν => mc ν)
 refine nl (bkk ?_)
 refine wp_weak (weak_nilOI (h := 5) (h1 := 7) (T0 := 26) (s0 := 1) (ex := true) (T := 3)) ?_
 refine wp_loop' (fun (k : Nat) => k ≤ h) (fun (k : Nat) => [kI 0 ((w : Nat) : Int), kP 4 4 0, kP 5 5 0, kI 16 ((h : Nat) : Int), kI 17 ((k : Nat) : Int), kO 4 26 1 true [(.val (.slice none 0 0) : A)], kO 5 26 1 true [(.sl 7 0 ((rectR w k).length) : A)], kO 7 3 1 true (pl (isl (rectR w k))), kF 11, kF 24, kF 25, kF 1000]) (fun (k : Nat) => h - k) ((0 : Nat)) (by exact (Nat.zero_le _ : 0 ≤ _)) (wkf id (wS <| wS <| wS <| wS <| wE (e := (vint (by first | rfl | omega | (simp [rectR]; done) | (unfold rectR rc; rw [List.replicate_succ']; rfl) | (unfold rectR rc; rw [List.replicate_succ'])))) <| wX <| wO (e := renob_l (fun h => h) (congrArg (fun z : Nat => [A.sl 7 0 z]) (by first | rfl | (simp; done) | (simp; omega) | omega | (exact congrArg List.length (by first | rfl | omega | (simp [rectR]; done) | (unfold rectR rc; rw [List.replicate_succ']; rfl) | (unfold rectR rc; rw [List.replicate_succ']))))) rfl) <| wO (e := renob_eq (fun h => h) (congrArg isl (by first | rfl | omega | (simp [rectR]; done) | (unfold rectR rc; rw [List.replicate_succ']; rfl) | (unfold rectR rc; rw [List.replicate_succ'])))) <| wF <| wF <| wF <| wF <| wN)) ?_
 rintro k inv1
 replace inv1 : k ≤ h := inv1
 have invk := inv1
 have hrl : (rectR w k).length = k := by simp [rectR]
 refine sq (rg ?_)
 refine z ?_ (h := fun ν => acts_bin ν vt vt (r_lss rfl))
 refine nl (sq ?_)
 refine wi (fun c2 => ?_) (fun c2 => ?_)
 ·skip
  have c2P := of_decide_eq_true c2
  refine sk (sq (bkk (wp_dr ?_)))
  refine zd ?_ (h := fun ν => acts_field (off' := 0) ν qG1_fo_26_0 rfl)
  refine zd ?_ (h := fun ν => acts_load_own (x := .sl 7 0 ((rectR w k).length)) ν qG1_ti_24 (by exact rfl))
  refine zdm ?_
  refine zd ?_ (h := fun ν => acts_bin ν vc vt (r_shl (c := (((2 ^ w) : Nat) : Int)) (by first | omega | exact Int.natCast_nonneg _) (shl1I (n := w) rfl (by first | omega | assumption | exact Nat.lt_of_le_of_lt (shr_le _ _) (by first | omega | assumption | (first | omega | assumption)) | (first | omega | assumption)))))
  refine zd ?_ (h := fun ν => acts_bin ν vt vc (rS (by first | omega | assumption) (by first | omega | assumption)))
  refine zd ?_ (h := fun ν => acts_buildSlice' (h := 24) (xs := isl ([((((2 ^ w) : Nat) : Int) - 1)] : List Int)) ν qG1_un_24 qG1_zi_3 (.cons vt OpVs.nil) (by decide) (by decide) (by kernel_rfl) rfl)
  refine zd ?_ (h := fun ν => aI_ (h2 := 25) (L3 := ((rectR w k) ++ [((((2 ^ w) : Nat) : Int) - 1)])) ν qG1_un_24 qG1_zi_3 (by first | exact rfl | (simp; done) | (simp; omega) | omega) rfl (by first | exact rfl | (simp; done) | (simp; omega) | omega) (by first | omega | (simp; omega) | (simp at *; omega)))
  refine zd ?_ (h := fun ν => acts_field (off' := 0) ν qG1_fo_26_0 rfl)
  refine zd ?_ (h := fun _ => acts_store (cells := [(.sl 25 0 (((rectR w k) ++ [((((2 ^ w) : Nat) : Int) - 1)]).length) : A)]) qG1_ti_24 xt (by exact rfl) (by decide) (by exact ob1 rfl) (by exact Nat.le_of_ble_eq_true rfl) (by exact rfl))
  refine dw_nil (rg ?_)
  refine z ?_ (h := fun ν => acts_bin ν vt vc (rA (by first | omega | assumption) (by first | omega | assumption)))
  refine zm (nl ?_)
  exact loop_back ((k + 1)) (by show _ ≤ _; omega) (by show h - (k + 1) < h - k; omega) (wkf (subst1 [(7, 25)]) (wS <| wS <| wS <| wS <| wE (e := (vint (by first | rfl | omega | (simp [rectR]; done) | (unfold rectR rc; rw [List.replicate_succ']; rfl) | (unfold rectR rc; rw [List.replicate_succ'])))) <| wX <| wO (e := renob_l (fun h => h) (congrArg (fun z : Nat => [A.sl 25 0 z]) (by first | rfl | (simp; done) | (simp; omega) | omega | (exact congrArg List.length (by first | rfl | omega | (simp [rectR]; done) | (unfold rectR rc; rw [List.replicate_succ']; rfl) | (unfold rectR rc; rw [List.replicate_succ']))))) rfl) <| wO (e := renob_eq (fun h => h) (congrArg isl (by first | rfl | omega | (simp [rectR]; done) | (unfold rectR rc; rw [List.replicate_succ']; rfl) | (unfold rectR rc; rw [List.replicate_succ'])))) <| wF <| wF <| wF <| wF <| wN))
 ·skip
  have c2P := of_decide_eq_false c2
  refine wp_exit' (sq (rg ?_))
  refine z ?_ (h := fun ν => acts_load_owns (xs := [(.sl 7 0 ((rectR w k).length) : A)]) ν qG1_ti_26 rfl (by decide) rfl)
  refine z ?_ (h := fun _ => acts_store (cells := [(.sl 7 0 ((rectR w k).length) : A)]) qG1_ti_26 xt (by exact rfl) (by decide) (by exact ob1 rfl) (by exact Nat.le_of_ble_eq_true rfl) (by exact rfl))
  refine nl (wp_ret' ?_)
  exact VRes.cells 4 26 4 ⟨26, 1, true, [(.sl 7 0 ((rectR w k).length) : A)]⟩ _ (by kernel_rfl) (by kernel_rfl) qG1_ti_26 (Nat.le_of_ble_eq_true rfl) (breg (h := 7) (L := (rectR w k)) (by kernel_rfl) (by (have e : k = h := by omega); subst e; first | rfl | (simp [rectR]; done)) (by first | rfl | (simp; done) | (simp; omega)))
end Cl
end Go.Proofs.Ytokihekhelbijaa
