/- Walks over clean states, printed by wg.py. No statement is proved here. -/
import Derived.Test.YtmbodpmhokbapaaC3
import Derived.Test.YtmbodpmhokbapaaCl18
namespace Go.Proofs.Ytmbodpmhokbapaa
namespace Cl
open Go.ChangeShapes Go.WideShapes Go.ChangeAt Go.RowKit

theorem sp_ex1 {l : List Int} {ds : List Dom} {k : Nat} (hk : k < ds.length) (h : ((!(okD (gD ds k))) || (decide (0 < ((k : Nat) : Int)) && !(bef (gD ds (((k : Nat) : Int) - 1).toNat) (gD ds k)))) = true) : isPar l ds = false := by
  refine isPar_no' hk fun _ => ?_
  have e : (((k : Nat) : Int) - 1).toNat = k - 1 := by omega
  rw [e] at h
  unfold stepOk
  cases h1 : okD (gD ds k)
  · rfl
  · rw [h1] at h
    simp only [Bool.not_true, Bool.false_or, Bool.and_eq_true, decide_eq_true_eq, Bool.not_eq_true'] at h
    rw [h.2, decide_eq_false (by omega)]; simp
theorem sp_ex2 {l : List Int} {ds : List Dom} {k : Nat} (hk : k < ds.length) (ho : okD (gD ds k) = true) (h : ((!(hasC l (ca (gD ds k)))) || ((!(hasC l (cb (gD ds k)))) || (gB (bitsL (covS (ds.take k))) (idx (ca (gD ds k))) || gB (bitsL (covS (ds.take k))) (idx (cb (gD ds k)))))) = true) : isPar l ds = false := by
  refine isPar_no' hk fun hr => ?_
  rw [step_eq hr ho]
  revert h
  cases hasC l (ca (gD ds k)) <;> cases hasC l (cb (gD ds k)) <;> cases gB (bitsL (covS (ds.take k))) (idx (ca (gD ds k))) <;> cases gB (bitsL (covS (ds.take k))) (idx (cb (gD ds k))) <;> simp
theorem im_ex {l : List Int} {ds : List Dom} {k : Nat} (hk : k < ds.length) (h : ((!(okD (gD ds k))) || (decide (((andn (regSet l) (covS (ds.take k)) &&& domS (gD ds k) : Nat) : Int) ≠ ((domS (gD ds k) : Nat) : Int)) || (decide (((k : Nat) : Int) > 0) && !(bef (gD ds (((k : Nat) : Int) - 1).toNat) (gD ds k))))) = true) : isPar l ds = false := by
  refine isPar_no' hk fun _ => ?_
  have e : (((k : Nat) : Int) - 1).toNat = k - 1 := by omega
  rw [e] at h
  unfold stepOk fits
  cases h1 : okD (gD ds k)
  · rfl
  · rw [h1] at h
    simp only [Bool.not_true, Bool.false_or, Bool.or_eq_true, Bool.and_eq_true, decide_eq_true_eq, Bool.not_eq_true'] at h
    rcases h with h | h
    · rw [decide_eq_false (fun e => h (by rw [e]))]; rfl
    · rw [h.2, decide_eq_false (p := k = 0) (by omega)]; simp

theorem qC3w_fo_58_0 : fieldOff Try.prog 58 0 = some 0 := by kernel_rfl
theorem qC3w_fo_58_1 : fieldOff Try.prog 58 1 = some 1 := by kernel_rfl
theorem qC3w_fo_58_2 : fieldOff Try.prog 58 2 = some 2 := by kernel_rfl
theorem qC3w_sz_4 : (Try.prog.info? 4).map (·.size) = some 1 := by kernel_rfl
theorem qC3w_sz_58 : (Try.prog.info? 58).map (·.size) = some 3 := by kernel_rfl
theorem qC3w_ti_29 : TI Try.prog 29 true 1 := ⟨⟨_, Try.underlying29, rfl⟩, by kernel_rfl⟩
theorem qC3w_ti_3 : TI Try.prog 3 false 1 := ⟨⟨_, Try.underlying3, rfl⟩, by kernel_rfl⟩
theorem qC3w_ti_4 : TI Try.prog 4 false 1 := ⟨⟨_, Try.underlying4, rfl⟩, by kernel_rfl⟩
theorem qC3w_ti_53 : TI Try.prog 53 true 2 := ⟨⟨_, Try.underlying53, rfl⟩, by kernel_rfl⟩
theorem qC3w_ti_58 : TI Try.prog 58 true 3 := ⟨⟨_, Try.underlying58, rfl⟩, by kernel_rfl⟩
theorem qC3w_un_31 : Try.prog.underlying 31 = some (.slice 58) := Try.underlying31
theorem qC3w_un_94 : Try.prog.underlying 94 = some (.slice 4) := Try.underlying94
theorem qC3w_zi_4 : ZI Try.prog 4 (.bool false) 1 1 := by unfold ZI; kernel_rfl
theorem qC3w_zi_53 : ZI Try.prog 53 (.agg #[.int .i64 0, .int .i64 0]) 2 16 := by unfold ZI; kernel_rfl
theorem qC3w_zi_58 : ZI Try.prog 58 (.agg #[.int .i64 0, .int .i64 0, .bool false]) 3 24 := by unfold ZI; kernel_rfl
theorem impl_DominoOk_fn (d : Dom) : Fn Try.prog 97 [.agg ([(.int .i64 d.x : Value), .int .i64 d.y, .bool d.d].map A.val)] [.val (.bool (okD d))] := by
  refine ⟨⟨_, Try.func97, by kernel_rfl, by kernel_rfl⟩, fun w args h => ?_⟩
  match args, args_iff.1 h with
  | [u0], ⟨h0, _⟩ =>
    obtain rfl := argB_av h0
    refine Calls.mono (dominoOk_impl d.x d.y d.d w) ?_
    rintro e w' ⟨rfl, hb⟩
    exact ⟨_, rfl, rfl, hb⟩

theorem spec_DominoOk_fn (d : Dom) : Fn Try.prog 88 [.agg ([(.int .i64 d.x : Value), .int .i64 d.y, .bool d.d].map A.val)] [.val (.bool (okD d))] := by
  refine ⟨⟨_, Try.func88, by kernel_rfl, by kernel_rfl⟩, fun w args h => ?_⟩
  match args, args_iff.1 h with
  | [u0], ⟨h0, _⟩ =>
    obtain rfl := argB_av h0
    refine Calls.mono (dominoOk_spec d.x d.y d.d w) ?_
    rintro e w' ⟨rfl, hb⟩
    exact ⟨_, rfl, rfl, hb⟩

set_option maxHeartbeats 4000000 in
set_option maxRecDepth 100000 in
theorem impl_Domino__ends_fn (d : Dom) (ho : okD d = true) : Fn Try.prog 103 [.agg ([(.int .i64 d.x : Value), .int .i64 d.y, .bool d.d].map A.val)] [.val (.agg ([.int .i64 (ca d).x, .int .i64 (ca d).y] : List Value).toArray), .val (.agg ([.int .i64 (cb d).x, .int .i64 (cb d).y] : List Value).toArray)] := by
 have hq := okD_bd ho
 refine fn_intro (N := 28) Try.func103 rfl (by kernel_rfl) rfl (Nat.le_of_ble_eq_true rfl) [1, 2, 3] (ret2 rfl rfl (by intro u hu; injection hu with hu; subst hu; rfl)) (fun W => ?_)
 show Wp _ _ _ [(.s 0, some (.s (V.av [(.int .i64 d.x : Value), .int .i64 d.y, .bool d.d]))), (.o 1, some .free), (.o 2, some .free), (.o 3, some .free)]
 refine wp_seq' ?_
 refine wp_region_t ?_
 refine w1 (acts_box (d := 1) (h := 1) (b := .agg ([(.int .i64 d.x : Value), .int .i64 d.y, .bool d.d].map A.val)) (ltN rfl) (OpX.tmp 0 (V.av [(.int .i64 d.x : Value), .int .i64 d.y, .bool d.d])) (by intro y hy; simp [B.cs] at hy; rcases hy with rfl | rfl | rfl <;> rfl)) ?_
 refine w1 (acts_alloc' (d := 2) (h := 2) (cap := 1) (s := 2) (cells := [(.val (.int .i64 0) : A), .val (.int .i64 0)]) (ltN rfl) qC3w_zi_53 rfl rfl (by decide)) ?_
 refine w1 (acts_alloc' (d := 3) (h := 3) (cap := 1) (s := 2) (cells := [(.val (.int .i64 0) : A), .val (.int .i64 0)]) (ltN rfl) qC3w_zi_53 rfl rfl (by decide)) ?_
 refine wpl_nil ?_
 refine wp_seq' ?_
 refine wp_seq' ?_
 refine wp_region_t ?_
 refine w1 (acts_field (d := 4) (t := 1) (h := 1) (off := 0) (off' := 2) (ltN rfl) qC3w_fo_58_2 rfl) ?_
 refine w1 (acts_load_own (d := 5) (t := 4) (h := 1) (off := 2) (o := ⟨58, 3, true, [(.val (.int .i64 d.x) : A), .val (.int .i64 d.y), .val (.bool d.d)]⟩)  (x := .val (.bool d.d)) (ltN rfl) qC3w_ti_4 rfl) ?_
 refine wpl_nil ?_
 refine wp_if (t := 5) (d.d) (by kernel_rfl) (fun c1 => ?_) (fun c1 => ?_)
 ·skip
  refine wp_seq' ?_
  refine wp_drawn' (by kernel_rfl) (AllSteps.cons (step_plain rfl (acts_field (d := 6) (t := 1) (h := 1) (off := 0) (off' := 0) (ltN rfl) qC3w_fo_58_0 rfl)) (AllSteps.cons (step_plain rfl (acts_load_own (d := 7) (t := 6) (h := 1) (off := 0) (o := ⟨58, 3, true, [(.val (.int .i64 d.x) : A), .val (.int .i64 d.y), .val (.bool d.d)]⟩)  (x := .val (.int .i64 d.x)) (ltN rfl) qC3w_ti_3 rfl)) (AllSteps.cons (step_plain rfl (acts_field (d := 8) (t := 1) (h := 1) (off := 0) (off' := 1) (ltN rfl) qC3w_fo_58_1 rfl)) (AllSteps.cons (step_plain rfl (acts_load_own (d := 9) (t := 8) (h := 1) (off := 1) (o := ⟨58, 3, true, [(.val (.int .i64 d.x) : A), .val (.int .i64 d.y), .val (.bool d.d)]⟩)  (x := .val (.int .i64 d.y)) (ltN rfl) qC3w_ti_3 rfl)) (AllSteps.cons (step_plain rfl (acts_build (d := 10) (t := 53) (cells := [(.int .i64 d.x : Value), .int .i64 d.y]) (ltN rfl) (OpVs.cons (i := 0) (OpV.tmp 7 (.int .i64 d.x)) (OpVs.cons (i := 1) (OpV.tmp 9 (.int .i64 d.y)) (OpVs.nil))) rfl)) (AllSteps.cons (step_plain rfl (acts_field (d := 11) (t := 1) (h := 1) (off := 0) (off' := 0) (ltN rfl) qC3w_fo_58_0 rfl)) (AllSteps.cons (step_plain rfl (acts_load_own (d := 12) (t := 11) (h := 1) (off := 0) (o := ⟨58, 3, true, [(.val (.int .i64 d.x) : A), .val (.int .i64 d.y), .val (.bool d.d)]⟩)  (x := .val (.int .i64 d.x)) (ltN rfl) qC3w_ti_3 rfl)) (AllSteps.cons (step_plain rfl (acts_field (d := 13) (t := 1) (h := 1) (off := 0) (off' := 1) (ltN rfl) qC3w_fo_58_1 rfl)) (AllSteps.cons (step_plain rfl (acts_load_own (d := 14) (t := 13) (h := 1) (off := 1) (o := ⟨58, 3, true, [(.val (.int .i64 d.x) : A), .val (.int .i64 d.y), .val (.bool d.d)]⟩)  (x := .val (.int .i64 d.y)) (ltN rfl) qC3w_ti_3 rfl)) (AllSteps.cons (step_plain rfl (bn 15 (OpV.tmp 14 (.int .i64 d.y)) (OpV.const (.int .i64 1)) (r_add (c := (d.y + 1)) (w64 (by omega) (by omega))))) (AllSteps.cons (step_plain rfl (acts_build (d := 16) (t := 53) (cells := [(.int .i64 d.x : Value), .int .i64 (d.y + 1)]) (ltN rfl) (OpVs.cons (i := 0) (OpV.tmp 12 (.int .i64 d.x)) (OpVs.cons (i := 1) (OpV.tmp 15 (.int .i64 (d.y + 1))) (OpVs.nil))) rfl)) (AllSteps.cons (step_plain rfl (acts_store (t := 2) (h := 2) (off := 0) (o := ⟨53, 2, true, [(.val (.int .i64 0) : A), .val (.int .i64 0)]⟩) (b := .agg ([(.int .i64 d.x : Value), .int .i64 d.y].map A.val)) (cells := [(.val (.int .i64 d.x) : A), .val (.int .i64 d.y)]) qC3w_ti_53 (OpX.tmp 10 (V.av [(.int .i64 d.x : Value), .int .i64 d.y])) rfl (by decide) (by intro y hy; simp [B.cs] at hy; rcases hy with rfl | rfl <;> rfl) (Nat.le_of_ble_eq_true rfl) rfl)) (AllSteps.cons (step_plain rfl (acts_store (t := 3) (h := 3) (off := 0) (o := ⟨53, 2, true, [(.val (.int .i64 0) : A), .val (.int .i64 0)]⟩) (b := .agg ([(.int .i64 d.x : Value), .int .i64 (d.y + 1)].map A.val)) (cells := [(.val (.int .i64 d.x) : A), .val (.int .i64 (d.y + 1))]) qC3w_ti_53 (OpX.tmp 16 (V.av [(.int .i64 d.x : Value), .int .i64 (d.y + 1)])) rfl (by decide) (by intro y hy; simp [B.cs] at hy; rcases hy with rfl | rfl <;> rfl) (Nat.le_of_ble_eq_true rfl) rfl)) (AllSteps.nil)))))))))))))) (by kernel_rfl) (by kernel_rfl) (by kernel_rfl) ?_
  refine wp_ret' ?_
  exact ⟨VRes.cells 2 53 2 ⟨53, 2, true, [(.val (.int .i64 d.x) : A), .val (.int .i64 d.y)]⟩ _ (by kernel_rfl) (by kernel_rfl) qC3w_ti_53 (Nat.le_of_ble_eq_true rfl) (bagg (vs := [(.int .i64 d.x : Value), .int .i64 d.y]) (by rfl)), VRes.cells 3 53 3 ⟨53, 2, true, [(.val (.int .i64 d.x) : A), .val (.int .i64 (d.y + 1))]⟩ _ (by kernel_rfl) (by kernel_rfl) qC3w_ti_53 (Nat.le_of_ble_eq_true rfl) (bagg (vs := [(.int .i64 d.x : Value), .int .i64 (d.y + 1)]) (by (unfold cb; simp_all; done)))⟩
 ·skip
  refine wp_skip' ?_
  refine wp_seq' ?_
  refine wp_drawn' (by kernel_rfl) (AllSteps.cons (step_plain rfl (acts_field (d := 17) (t := 1) (h := 1) (off := 0) (off' := 0) (ltN rfl) qC3w_fo_58_0 rfl)) (AllSteps.cons (step_plain rfl (acts_load_own (d := 18) (t := 17) (h := 1) (off := 0) (o := ⟨58, 3, true, [(.val (.int .i64 d.x) : A), .val (.int .i64 d.y), .val (.bool d.d)]⟩)  (x := .val (.int .i64 d.x)) (ltN rfl) qC3w_ti_3 rfl)) (AllSteps.cons (step_plain rfl (acts_field (d := 19) (t := 1) (h := 1) (off := 0) (off' := 1) (ltN rfl) qC3w_fo_58_1 rfl)) (AllSteps.cons (step_plain rfl (acts_load_own (d := 20) (t := 19) (h := 1) (off := 1) (o := ⟨58, 3, true, [(.val (.int .i64 d.x) : A), .val (.int .i64 d.y), .val (.bool d.d)]⟩)  (x := .val (.int .i64 d.y)) (ltN rfl) qC3w_ti_3 rfl)) (AllSteps.cons (step_plain rfl (acts_build (d := 21) (t := 53) (cells := [(.int .i64 d.x : Value), .int .i64 d.y]) (ltN rfl) (OpVs.cons (i := 0) (OpV.tmp 18 (.int .i64 d.x)) (OpVs.cons (i := 1) (OpV.tmp 20 (.int .i64 d.y)) (OpVs.nil))) rfl)) (AllSteps.cons (step_plain rfl (acts_field (d := 22) (t := 1) (h := 1) (off := 0) (off' := 0) (ltN rfl) qC3w_fo_58_0 rfl)) (AllSteps.cons (step_plain rfl (acts_load_own (d := 23) (t := 22) (h := 1) (off := 0) (o := ⟨58, 3, true, [(.val (.int .i64 d.x) : A), .val (.int .i64 d.y), .val (.bool d.d)]⟩)  (x := .val (.int .i64 d.x)) (ltN rfl) qC3w_ti_3 rfl)) (AllSteps.cons (step_plain rfl (bn 24 (OpV.tmp 23 (.int .i64 d.x)) (OpV.const (.int .i64 1)) (r_add (c := (d.x + 1)) (w64 (by omega) (by omega))))) (AllSteps.cons (step_plain rfl (acts_field (d := 25) (t := 1) (h := 1) (off := 0) (off' := 1) (ltN rfl) qC3w_fo_58_1 rfl)) (AllSteps.cons (step_plain rfl (acts_load_own (d := 26) (t := 25) (h := 1) (off := 1) (o := ⟨58, 3, true, [(.val (.int .i64 d.x) : A), .val (.int .i64 d.y), .val (.bool d.d)]⟩)  (x := .val (.int .i64 d.y)) (ltN rfl) qC3w_ti_3 rfl)) (AllSteps.cons (step_plain rfl (acts_build (d := 27) (t := 53) (cells := [(.int .i64 (d.x + 1) : Value), .int .i64 d.y]) (ltN rfl) (OpVs.cons (i := 0) (OpV.tmp 24 (.int .i64 (d.x + 1))) (OpVs.cons (i := 1) (OpV.tmp 26 (.int .i64 d.y)) (OpVs.nil))) rfl)) (AllSteps.cons (step_plain rfl (acts_store (t := 2) (h := 2) (off := 0) (o := ⟨53, 2, true, [(.val (.int .i64 0) : A), .val (.int .i64 0)]⟩) (b := .agg ([(.int .i64 d.x : Value), .int .i64 d.y].map A.val)) (cells := [(.val (.int .i64 d.x) : A), .val (.int .i64 d.y)]) qC3w_ti_53 (OpX.tmp 21 (V.av [(.int .i64 d.x : Value), .int .i64 d.y])) rfl (by decide) (by intro y hy; simp [B.cs] at hy; rcases hy with rfl | rfl <;> rfl) (Nat.le_of_ble_eq_true rfl) rfl)) (AllSteps.cons (step_plain rfl (acts_store (t := 3) (h := 3) (off := 0) (o := ⟨53, 2, true, [(.val (.int .i64 0) : A), .val (.int .i64 0)]⟩) (b := .agg ([(.int .i64 (d.x + 1) : Value), .int .i64 d.y].map A.val)) (cells := [(.val (.int .i64 (d.x + 1)) : A), .val (.int .i64 d.y)]) qC3w_ti_53 (OpX.tmp 27 (V.av [(.int .i64 (d.x + 1) : Value), .int .i64 d.y])) rfl (by decide) (by intro y hy; simp [B.cs] at hy; rcases hy with rfl | rfl <;> rfl) (Nat.le_of_ble_eq_true rfl) rfl)) (AllSteps.nil)))))))))))))) (by kernel_rfl) (by kernel_rfl) (by kernel_rfl) ?_
  refine wp_ret' ?_
  exact ⟨VRes.cells 2 53 2 ⟨53, 2, true, [(.val (.int .i64 d.x) : A), .val (.int .i64 d.y)]⟩ _ (by kernel_rfl) (by kernel_rfl) qC3w_ti_53 (Nat.le_of_ble_eq_true rfl) (bagg (vs := [(.int .i64 d.x : Value), .int .i64 d.y]) (by rfl)), VRes.cells 3 53 3 ⟨53, 2, true, [(.val (.int .i64 (d.x + 1)) : A), .val (.int .i64 d.y)]⟩ _ (by kernel_rfl) (by kernel_rfl) qC3w_ti_53 (Nat.le_of_ble_eq_true rfl) (bagg (vs := [(.int .i64 (d.x + 1) : Value), .int .i64 d.y]) (by (unfold cb; simp_all; done)))⟩

set_option maxHeartbeats 4000000 in
set_option maxRecDepth 100000 in
theorem spec_l05Second_fn (d : Dom) (ho : okD d = true) : Fn Try.prog 59 [.agg ([(.int .i64 d.x : Value), .int .i64 d.y, .bool d.d].map A.val)] [.val (.agg ([.int .i64 (cb d).x, .int .i64 (cb d).y] : List Value).toArray)] := by
 have hq := okD_bd ho
 refine fn_intro (N := 17) Try.func59 rfl (by kernel_rfl) rfl (Nat.le_of_ble_eq_true rfl) [1, 2] (ret1 rfl) (fun W => ?_)
 show Wp _ _ _ [(.s 0, some (.s (V.av [(.int .i64 d.x : Value), .int .i64 d.y, .bool d.d]))), (.o 1, some .free), (.o 2, some .free)]
 refine wp_seq' ?_
 refine wp_region_t ?_
 refine w1 (acts_box (d := 1) (h := 1) (b := .agg ([(.int .i64 d.x : Value), .int .i64 d.y, .bool d.d].map A.val)) (ltN rfl) (OpX.tmp 0 (V.av [(.int .i64 d.x : Value), .int .i64 d.y, .bool d.d])) (by intro y hy; simp [B.cs] at hy; rcases hy with rfl | rfl | rfl <;> rfl)) ?_
 refine w1 (acts_alloc' (d := 2) (h := 2) (cap := 1) (s := 2) (cells := [(.val (.int .i64 0) : A), .val (.int .i64 0)]) (ltN rfl) qC3w_zi_53 rfl rfl (by decide)) ?_
 refine wpl_nil ?_
 refine wp_seq' ?_
 refine wp_seq' ?_
 refine wp_region_t ?_
 refine w1 (acts_field (d := 3) (t := 1) (h := 1) (off := 0) (off' := 2) (ltN rfl) qC3w_fo_58_2 rfl) ?_
 refine w1 (acts_load_own (d := 4) (t := 3) (h := 1) (off := 2) (o := ⟨58, 3, true, [(.val (.int .i64 d.x) : A), .val (.int .i64 d.y), .val (.bool d.d)]⟩)  (x := .val (.bool d.d)) (ltN rfl) qC3w_ti_4 rfl) ?_
 refine wpl_nil ?_
 refine wp_if (t := 4) (d.d) (by kernel_rfl) (fun c1 => ?_) (fun c1 => ?_)
 ·skip
  refine wp_seq' ?_
  refine wp_region_t ?_
  refine w1 (acts_field (d := 5) (t := 1) (h := 1) (off := 0) (off' := 0) (ltN rfl) qC3w_fo_58_0 rfl) ?_
  refine w1 (acts_load_own (d := 6) (t := 5) (h := 1) (off := 0) (o := ⟨58, 3, true, [(.val (.int .i64 d.x) : A), .val (.int .i64 d.y), .val (.bool d.d)]⟩)  (x := .val (.int .i64 d.x)) (ltN rfl) qC3w_ti_3 rfl) ?_
  refine w1 (acts_field (d := 7) (t := 1) (h := 1) (off := 0) (off' := 1) (ltN rfl) qC3w_fo_58_1 rfl) ?_
  refine w1 (acts_load_own (d := 8) (t := 7) (h := 1) (off := 1) (o := ⟨58, 3, true, [(.val (.int .i64 d.x) : A), .val (.int .i64 d.y), .val (.bool d.d)]⟩)  (x := .val (.int .i64 d.y)) (ltN rfl) qC3w_ti_3 rfl) ?_
  refine w1 (bn 9 (OpV.tmp 8 (.int .i64 d.y)) (OpV.const (.int .i64 1)) (r_add (c := (d.y + 1)) (w64 (by omega) (by omega)))) ?_
  refine w1 (acts_build (d := 10) (t := 53) (cells := [(.int .i64 d.x : Value), .int .i64 (d.y + 1)]) (ltN rfl) (OpVs.cons (i := 0) (OpV.tmp 6 (.int .i64 d.x)) (OpVs.cons (i := 1) (OpV.tmp 9 (.int .i64 (d.y + 1))) (OpVs.nil))) rfl) ?_
  refine w1 (acts_store (t := 2) (h := 2) (off := 0) (o := ⟨53, 2, true, [(.val (.int .i64 0) : A), .val (.int .i64 0)]⟩) (b := .agg ([(.int .i64 d.x : Value), .int .i64 (d.y + 1)].map A.val)) (cells := [(.val (.int .i64 d.x) : A), .val (.int .i64 (d.y + 1))]) qC3w_ti_53 (OpX.tmp 10 (V.av [(.int .i64 d.x : Value), .int .i64 (d.y + 1)])) rfl (by decide) (by intro y hy; simp [B.cs] at hy; rcases hy with rfl | rfl <;> rfl) (Nat.le_of_ble_eq_true rfl) rfl) ?_
  refine wpl_nil ?_
  refine wp_ret' ?_
  exact VRes.cells 2 53 2 ⟨53, 2, true, [(.val (.int .i64 d.x) : A), .val (.int .i64 (d.y + 1))]⟩ _ (by kernel_rfl) (by kernel_rfl) qC3w_ti_53 (Nat.le_of_ble_eq_true rfl) (bagg (vs := [(.int .i64 d.x : Value), .int .i64 (d.y + 1)]) (by (unfold cb; simp_all; done)))
 ·skip
  refine wp_skip' ?_
  refine wp_seq' ?_
  refine wp_region_t ?_
  refine w1 (acts_field (d := 11) (t := 1) (h := 1) (off := 0) (off' := 0) (ltN rfl) qC3w_fo_58_0 rfl) ?_
  refine w1 (acts_load_own (d := 12) (t := 11) (h := 1) (off := 0) (o := ⟨58, 3, true, [(.val (.int .i64 d.x) : A), .val (.int .i64 d.y), .val (.bool d.d)]⟩)  (x := .val (.int .i64 d.x)) (ltN rfl) qC3w_ti_3 rfl) ?_
  refine w1 (bn 13 (OpV.tmp 12 (.int .i64 d.x)) (OpV.const (.int .i64 1)) (r_add (c := (d.x + 1)) (w64 (by omega) (by omega)))) ?_
  refine w1 (acts_field (d := 14) (t := 1) (h := 1) (off := 0) (off' := 1) (ltN rfl) qC3w_fo_58_1 rfl) ?_
  refine w1 (acts_load_own (d := 15) (t := 14) (h := 1) (off := 1) (o := ⟨58, 3, true, [(.val (.int .i64 d.x) : A), .val (.int .i64 d.y), .val (.bool d.d)]⟩)  (x := .val (.int .i64 d.y)) (ltN rfl) qC3w_ti_3 rfl) ?_
  refine w1 (acts_build (d := 16) (t := 53) (cells := [(.int .i64 (d.x + 1) : Value), .int .i64 d.y]) (ltN rfl) (OpVs.cons (i := 0) (OpV.tmp 13 (.int .i64 (d.x + 1))) (OpVs.cons (i := 1) (OpV.tmp 15 (.int .i64 d.y)) (OpVs.nil))) rfl) ?_
  refine w1 (acts_store (t := 2) (h := 2) (off := 0) (o := ⟨53, 2, true, [(.val (.int .i64 0) : A), .val (.int .i64 0)]⟩) (b := .agg ([(.int .i64 (d.x + 1) : Value), .int .i64 d.y].map A.val)) (cells := [(.val (.int .i64 (d.x + 1)) : A), .val (.int .i64 d.y)]) qC3w_ti_53 (OpX.tmp 16 (V.av [(.int .i64 (d.x + 1) : Value), .int .i64 d.y])) rfl (by decide) (by intro y hy; simp [B.cs] at hy; rcases hy with rfl | rfl <;> rfl) (Nat.le_of_ble_eq_true rfl) rfl) ?_
  refine wpl_nil ?_
  refine wp_ret' ?_
  exact VRes.cells 2 53 2 ⟨53, 2, true, [(.val (.int .i64 (d.x + 1)) : A), .val (.int .i64 d.y)]⟩ _ (by kernel_rfl) (by kernel_rfl) qC3w_ti_53 (Nat.le_of_ble_eq_true rfl) (bagg (vs := [(.int .i64 (d.x + 1) : Value), .int .i64 d.y]) (by (unfold cb; simp_all; done)))

set_option maxHeartbeats 4000000 in
set_option maxRecDepth 100000 in
theorem impl_Domino__set_fn (d : Dom) (ho : okD d = true) : Fn Try.prog 98 [.agg ([(.int .i64 d.x : Value), .int .i64 d.y, .bool d.d].map A.val)] [.val (.int .u64 (((domS d) : Nat) : Int))] := by
 refine fn_intro (N := 14) Try.func98 rfl (by kernel_rfl) rfl (Nat.le_of_ble_eq_true rfl) [1, 3, 4, 7, 11, 13] (ret1 rfl) (fun W => ?_)
 show Wp _ _ _ [(.s 0, some (.s (V.av [(.int .i64 d.x : Value), .int .i64 d.y, .bool d.d]))), (.o 1, some .free), (.o 3, some .free), (.o 4, some .free), (.o 7, some .free), (.o 11, some .free), (.o 13, some .free)]
 refine wp_seq' ?_
 refine wp_region_t ?_
 refine w1 (acts_box (d := 1) (h := 1) (b := .agg ([(.int .i64 d.x : Value), .int .i64 d.y, .bool d.d].map A.val)) (ltN rfl) (OpX.tmp 0 (V.av [(.int .i64 d.x : Value), .int .i64 d.y, .bool d.d])) (by intro y hy; simp [B.cs] at hy; rcases hy with rfl | rfl | rfl <;> rfl)) ?_
 refine w1 (acts_assign (d := 2) (ltN rfl) (OpX.const (.int .u64 0))) ?_
 refine wpl_nil ?_
 refine wp_seq' ?_
 refine wp_region_t ?_
 refine w1 (acts_load_owns (d := 6) (t := 1) (h := 1) (off := 0) (o := ⟨58, 3, true, [(.val (.int .i64 d.x) : A), .val (.int .i64 d.y), .val (.bool d.d)]⟩)  (xs := [(.int .i64 d.x : Value), .int .i64 d.y, .bool d.d].map A.val) (ltN rfl) qC3w_ti_58 rfl (by decide) rfl) ?_
 refine w1 (acts_call2 (d := 7) (ltN rfl) (impl_Domino__ends_fn d (by omega)) (ArgVs.cons (ArgV.va (vs := [(.int .i64 d.x : Value), .int .i64 d.y, .bool d.d]) (OpV.agg 6 [(.int .i64 d.x : Value), .int .i64 d.y, .bool d.d])) (ArgVs.nil)) (ResV.agg [(.int .i64 ((ca d).x) : Value), .int .i64 ((ca d).y)]) (ResV.agg [(.int .i64 ((cb d).x) : Value), .int .i64 ((cb d).y)])) ?_
 refine w1 (mv 5 7 (V.tup [.agg ([(.int .i64 ((ca d).x) : Value), .int .i64 ((ca d).y)].map A.val), .agg ([(.int .i64 ((cb d).x) : Value), .int .i64 ((cb d).y)].map A.val)])) ?_
 refine w1 (acts_extract (d := 8) (t := 5) (ix := 0) (xs := [.agg ([(.int .i64 ((ca d).x) : Value), .int .i64 ((ca d).y)].map A.val), .agg ([(.int .i64 ((cb d).x) : Value), .int .i64 ((cb d).y)].map A.val)]) (X := .agg ([(.int .i64 ((ca d).x) : Value), .int .i64 ((ca d).y)].map A.val)) (ltN rfl) rfl) ?_
 refine w1 (acts_extract (d := 9) (t := 5) (ix := 1) (xs := [.agg ([(.int .i64 ((ca d).x) : Value), .int .i64 ((ca d).y)].map A.val), .agg ([(.int .i64 ((cb d).x) : Value), .int .i64 ((cb d).y)].map A.val)]) (X := .agg ([(.int .i64 ((cb d).x) : Value), .int .i64 ((cb d).y)].map A.val)) (ltN rfl) rfl) ?_
 refine w1 (acts_alloc' (d := 3) (h := 3) (cap := 1) (s := 2) (cells := [(.val (.int .i64 0) : A), .val (.int .i64 0)]) (ltN rfl) qC3w_zi_53 rfl rfl (by decide)) ?_
 refine w1 (acts_alloc' (d := 4) (h := 4) (cap := 1) (s := 2) (cells := [(.val (.int .i64 0) : A), .val (.int .i64 0)]) (ltN rfl) qC3w_zi_53 rfl rfl (by decide)) ?_
 refine w1 (acts_store (t := 3) (h := 3) (off := 0) (o := ⟨53, 2, true, [(.val (.int .i64 0) : A), .val (.int .i64 0)]⟩) (b := .agg ([(.int .i64 ((ca d).x) : Value), .int .i64 ((ca d).y)].map A.val)) (cells := [(.val (.int .i64 ((ca d).x)) : A), .val (.int .i64 ((ca d).y))]) qC3w_ti_53 (OpX.tmp 8 (V.av [(.int .i64 ((ca d).x) : Value), .int .i64 ((ca d).y)])) rfl (by decide) (by intro y hy; simp [B.cs] at hy; rcases hy with rfl | rfl <;> rfl) (Nat.le_of_ble_eq_true rfl) rfl) ?_
 refine w1 (acts_store (t := 4) (h := 4) (off := 0) (o := ⟨53, 2, true, [(.val (.int .i64 0) : A), .val (.int .i64 0)]⟩) (b := .agg ([(.int .i64 ((cb d).x) : Value), .int .i64 ((cb d).y)].map A.val)) (cells := [(.val (.int .i64 ((cb d).x)) : A), .val (.int .i64 ((cb d).y))]) qC3w_ti_53 (OpX.tmp 9 (V.av [(.int .i64 ((cb d).x) : Value), .int .i64 ((cb d).y)])) rfl (by decide) (by intro y hy; simp [B.cs] at hy; rcases hy with rfl | rfl <;> rfl) (Nat.le_of_ble_eq_true rfl) rfl) ?_
 refine wpl_nil ?_
 refine wp_seq' ?_
 refine wp_drawn' (by kernel_rfl) (AllSteps.cons (step_plain rfl (acts_load_owns (d := 10) (t := 3) (h := 3) (off := 0) (o := ⟨53, 2, true, [(.val (.int .i64 ((ca d).x)) : A), .val (.int .i64 ((ca d).y))]⟩)  (xs := [(.int .i64 ((ca d).x) : Value), .int .i64 ((ca d).y)].map A.val) (ltN rfl) qC3w_ti_53 rfl (by decide) rfl)) (AllSteps.cons (step_plain rfl (acts_call1 (d := 11) (ltN rfl) (impl_set__with_fn 0 (ca d) (by omega) (by exact ok_ca ho)) (ArgVs.cons (ArgV.v (OpV.const (.int .u64 0))) (ArgVs.cons (ArgV.va (vs := [(.int .i64 ((ca d).x) : Value), .int .i64 ((ca d).y)]) (OpV.agg 10 [(.int .i64 ((ca d).x) : Value), .int .i64 ((ca d).y)])) (ArgVs.nil))) (ResV.val _))) (AllSteps.cons (step_plain rfl (acts_load_owns (d := 12) (t := 4) (h := 4) (off := 0) (o := ⟨53, 2, true, [(.val (.int .i64 ((cb d).x)) : A), .val (.int .i64 ((cb d).y))]⟩)  (xs := [(.int .i64 ((cb d).x) : Value), .int .i64 ((cb d).y)].map A.val) (ltN rfl) qC3w_ti_53 rfl (by decide) rfl)) (AllSteps.cons (step_plain rfl (acts_call1 (d := 13) (ltN rfl) (impl_set__with_fn (addC 0 (ca d)) (cb d) (by exact addC_lt (by decide) (ok_ca ho)) (by exact ok_cb ho)) (ArgVs.cons (ArgV.v (OpV.tmp 11 (.int .u64 (((addC 0 (ca d)) : Nat) : Int)))) (ArgVs.cons (ArgV.va (vs := [(.int .i64 ((cb d).x) : Value), .int .i64 ((cb d).y)]) (OpV.agg 12 [(.int .i64 ((cb d).x) : Value), .int .i64 ((cb d).y)])) (ArgVs.nil))) (ResV.val _))) (AllSteps.cons (step_plain rfl (asg 2 13 (V.v (.int .u64 (((addC (addC 0 (ca d)) (cb d)) : Nat) : Int))))) (AllSteps.nil)))))) (by kernel_rfl) (by kernel_rfl) (by kernel_rfl) ?_
 refine wp_ret' ?_
 exact VRes.tmp 2 (.a (.val (.int .u64 (((addC (addC 0 (ca d)) (cb d)) : Nat) : Int)))) _ (by kernel_rfl) (bval (congrArg (Value.int .u64) (by rfl)))

set_option maxHeartbeats 4000000 in
set_option maxRecDepth 100000 in
theorem spec_CellsUnder_fn (d : Dom) (ho : okD d = true) : Fn Try.prog 91 [.agg ([(.int .i64 d.x : Value), .int .i64 d.y, .bool d.d].map A.val)] [.val (.agg ([.int .i64 (ca d).x, .int .i64 (ca d).y] : List Value).toArray), .val (.agg ([.int .i64 (cb d).x, .int .i64 (cb d).y] : List Value).toArray)] := by
 refine fn_intro (N := 16) Try.func91 rfl (by kernel_rfl) rfl (Nat.le_of_ble_eq_true rfl) [1, 2, 3, 5, 15] (ret2 rfl rfl (by intro u hu; injection hu with hu; subst hu; rfl)) (fun W => ?_)
 show Wp _ _ _ [(.s 0, some (.s (V.av [(.int .i64 d.x : Value), .int .i64 d.y, .bool d.d]))), (.o 1, some .free), (.o 2, some .free), (.o 3, some .free), (.o 5, some .free), (.o 15, some .free)]
 refine wp_seq' ?_
 refine wp_region_t ?_
 refine w1 (acts_box (d := 1) (h := 1) (b := .agg ([(.int .i64 d.x : Value), .int .i64 d.y, .bool d.d].map A.val)) (ltN rfl) (OpX.tmp 0 (V.av [(.int .i64 d.x : Value), .int .i64 d.y, .bool d.d])) (by intro y hy; simp [B.cs] at hy; rcases hy with rfl | rfl | rfl <;> rfl)) ?_
 refine w1 (acts_alloc' (d := 2) (h := 2) (cap := 1) (s := 2) (cells := [(.val (.int .i64 0) : A), .val (.int .i64 0)]) (ltN rfl) qC3w_zi_53 rfl rfl (by decide)) ?_
 refine w1 (acts_alloc' (d := 3) (h := 3) (cap := 1) (s := 2) (cells := [(.val (.int .i64 0) : A), .val (.int .i64 0)]) (ltN rfl) qC3w_zi_53 rfl rfl (by decide)) ?_
 refine wpl_nil ?_
 refine wp_seq' ?_
 refine wp_seq' ?_
 refine wp_region_t ?_
 refine w1 (acts_load_owns (d := 4) (t := 1) (h := 1) (off := 0) (o := ⟨58, 3, true, [(.val (.int .i64 d.x) : A), .val (.int .i64 d.y), .val (.bool d.d)]⟩)  (xs := [(.int .i64 d.x : Value), .int .i64 d.y, .bool d.d].map A.val) (ltN rfl) qC3w_ti_58 rfl (by decide) rfl) ?_
 refine w1 (acts_call1 (d := 5) (ltN rfl) (spec_DominoOk_fn d ) (ArgVs.cons (ArgV.va (vs := [(.int .i64 d.x : Value), .int .i64 d.y, .bool d.d]) (OpV.agg 4 [(.int .i64 d.x : Value), .int .i64 d.y, .bool d.d])) (ArgVs.nil)) ((resval (congrArg Value.bool ho)))) ?_
 refine w1 (acts_un (d := 6) (ltN rfl) (OpV.tmp 5 (.bool true)) (r_not (c := false) rfl)) ?_
 refine wpl_nil ?_
 refine wp_if_f (t := 6) (by kernel_rfl) ?_
 refine wp_skip' ?_
 refine wp_seq' ?_
 refine wp_drawn' (by kernel_rfl) (AllSteps.cons (step_plain rfl (acts_field (d := 9) (t := 1) (h := 1) (off := 0) (off' := 0) (ltN rfl) qC3w_fo_58_0 rfl)) (AllSteps.cons (step_plain rfl (acts_load_own (d := 10) (t := 9) (h := 1) (off := 0) (o := ⟨58, 3, true, [(.val (.int .i64 d.x) : A), .val (.int .i64 d.y), .val (.bool d.d)]⟩)  (x := .val (.int .i64 d.x)) (ltN rfl) qC3w_ti_3 rfl)) (AllSteps.cons (step_plain rfl (acts_field (d := 11) (t := 1) (h := 1) (off := 0) (off' := 1) (ltN rfl) qC3w_fo_58_1 rfl)) (AllSteps.cons (step_plain rfl (acts_load_own (d := 12) (t := 11) (h := 1) (off := 1) (o := ⟨58, 3, true, [(.val (.int .i64 d.x) : A), .val (.int .i64 d.y), .val (.bool d.d)]⟩)  (x := .val (.int .i64 d.y)) (ltN rfl) qC3w_ti_3 rfl)) (AllSteps.cons (step_plain rfl (acts_build (d := 13) (t := 53) (cells := [(.int .i64 d.x : Value), .int .i64 d.y]) (ltN rfl) (OpVs.cons (i := 0) (OpV.tmp 10 (.int .i64 d.x)) (OpVs.cons (i := 1) (OpV.tmp 12 (.int .i64 d.y)) (OpVs.nil))) rfl)) (AllSteps.cons (step_plain rfl (acts_load_owns (d := 14) (t := 1) (h := 1) (off := 0) (o := ⟨58, 3, true, [(.val (.int .i64 d.x) : A), .val (.int .i64 d.y), .val (.bool d.d)]⟩)  (xs := [(.int .i64 d.x : Value), .int .i64 d.y, .bool d.d].map A.val) (ltN rfl) qC3w_ti_58 rfl (by decide) rfl)) (AllSteps.cons (step_plain rfl (acts_call1 (d := 15) (ltN rfl) (spec_l05Second_fn d (by omega)) (ArgVs.cons (ArgV.va (vs := [(.int .i64 d.x : Value), .int .i64 d.y, .bool d.d]) (OpV.agg 14 [(.int .i64 d.x : Value), .int .i64 d.y, .bool d.d])) (ArgVs.nil)) (ResV.agg [(.int .i64 ((cb d).x) : Value), .int .i64 ((cb d).y)]))) (AllSteps.cons (step_plain rfl (acts_store (t := 2) (h := 2) (off := 0) (o := ⟨53, 2, true, [(.val (.int .i64 0) : A), .val (.int .i64 0)]⟩) (b := .agg ([(.int .i64 d.x : Value), .int .i64 d.y].map A.val)) (cells := [(.val (.int .i64 d.x) : A), .val (.int .i64 d.y)]) qC3w_ti_53 (OpX.tmp 13 (V.av [(.int .i64 d.x : Value), .int .i64 d.y])) rfl (by decide) (by intro y hy; simp [B.cs] at hy; rcases hy with rfl | rfl <;> rfl) (Nat.le_of_ble_eq_true rfl) rfl)) (AllSteps.cons (step_plain rfl (acts_store (t := 3) (h := 3) (off := 0) (o := ⟨53, 2, true, [(.val (.int .i64 0) : A), .val (.int .i64 0)]⟩) (b := .agg ([(.int .i64 ((cb d).x) : Value), .int .i64 ((cb d).y)].map A.val)) (cells := [(.val (.int .i64 ((cb d).x)) : A), .val (.int .i64 ((cb d).y))]) qC3w_ti_53 (OpX.tmp 15 (V.av [(.int .i64 ((cb d).x) : Value), .int .i64 ((cb d).y)])) rfl (by decide) (by intro y hy; simp [B.cs] at hy; rcases hy with rfl | rfl <;> rfl) (Nat.le_of_ble_eq_true rfl) rfl)) (AllSteps.nil)))))))))) (by kernel_rfl) (by kernel_rfl) (by kernel_rfl) ?_
 refine wp_ret' ?_
 exact ⟨VRes.cells 2 53 2 ⟨53, 2, true, [(.val (.int .i64 d.x) : A), .val (.int .i64 d.y)]⟩ _ (by kernel_rfl) (by kernel_rfl) qC3w_ti_53 (Nat.le_of_ble_eq_true rfl) (bagg (vs := [(.int .i64 d.x : Value), .int .i64 d.y]) (by rfl)), VRes.cells 3 53 3 ⟨53, 2, true, [(.val (.int .i64 ((cb d).x)) : A), .val (.int .i64 ((cb d).y))]⟩ _ (by kernel_rfl) (by kernel_rfl) qC3w_ti_53 (Nat.le_of_ble_eq_true rfl) (bagg (vs := [(.int .i64 ((cb d).x) : Value), .int .i64 ((cb d).y)]) (by rfl))⟩

set_option maxHeartbeats 4000000 in
set_option maxRecDepth 100000 in
theorem impl_Domino__order_fn (d : Dom) (ho : okD d = true) : Fn Try.prog 104 [.agg ([(.int .i64 d.x : Value), .int .i64 d.y, .bool d.d].map A.val)] [.val (.int .i64 (((ord d) : Nat) : Int))] := by
 have hi : idx (⟨d.x, d.y⟩ : Cel) < 64 := idx_lt (ok_ca ho)
 refine fn_intro (N := 16) Try.func104 rfl (by kernel_rfl) rfl (Nat.le_of_ble_eq_true rfl) [1, 9] (ret1 rfl) (fun W => ?_)
 show Wp _ _ _ [(.s 0, some (.s (V.av [(.int .i64 d.x : Value), .int .i64 d.y, .bool d.d]))), (.o 1, some .free), (.o 9, some .free)]
 refine wp_seq' ?_
 refine wp_region_t ?_
 refine w1 (acts_box (d := 1) (h := 1) (b := .agg ([(.int .i64 d.x : Value), .int .i64 d.y, .bool d.d].map A.val)) (ltN rfl) (OpX.tmp 0 (V.av [(.int .i64 d.x : Value), .int .i64 d.y, .bool d.d])) (by intro y hy; simp [B.cs] at hy; rcases hy with rfl | rfl | rfl <;> rfl)) ?_
 refine w1 (acts_assign (d := 2) (ltN rfl) (OpX.const (.int .i64 0))) ?_
 refine wpl_nil ?_
 refine wp_seq' ?_
 refine wp_region_t ?_
 refine w1 (acts_field (d := 4) (t := 1) (h := 1) (off := 0) (off' := 0) (ltN rfl) qC3w_fo_58_0 rfl) ?_
 refine w1 (acts_load_own (d := 5) (t := 4) (h := 1) (off := 0) (o := ⟨58, 3, true, [(.val (.int .i64 d.x) : A), .val (.int .i64 d.y), .val (.bool d.d)]⟩)  (x := .val (.int .i64 d.x)) (ltN rfl) qC3w_ti_3 rfl) ?_
 refine w1 (acts_field (d := 6) (t := 1) (h := 1) (off := 0) (off' := 1) (ltN rfl) qC3w_fo_58_1 rfl) ?_
 refine w1 (acts_load_own (d := 7) (t := 6) (h := 1) (off := 1) (o := ⟨58, 3, true, [(.val (.int .i64 d.x) : A), .val (.int .i64 d.y), .val (.bool d.d)]⟩)  (x := .val (.int .i64 d.y)) (ltN rfl) qC3w_ti_3 rfl) ?_
 refine w1 (acts_build (d := 8) (t := 53) (cells := [(.int .i64 d.x : Value), .int .i64 d.y]) (ltN rfl) (OpVs.cons (i := 0) (OpV.tmp 5 (.int .i64 d.x)) (OpVs.cons (i := 1) (OpV.tmp 7 (.int .i64 d.y)) (OpVs.nil))) rfl) ?_
 refine w1 (acts_call1 (d := 9) (ltN rfl) (impl_CellIndex_fn (⟨d.x, d.y⟩ : Cel) (by exact ok_ca ho)) (ArgVs.cons (ArgV.va (vs := [(.int .i64 d.x : Value), .int .i64 d.y]) (OpV.agg 8 [(.int .i64 d.x : Value), .int .i64 d.y])) (ArgVs.nil)) (ResV.val _)) ?_
 refine w1 (bn 10 (OpV.const (.int .i64 2)) (OpV.tmp 9 (.int .i64 (((idx (⟨d.x, d.y⟩ : Cel)) : Nat) : Int))) (r_mul (c := (2 * (((idx (⟨d.x, d.y⟩ : Cel)) : Nat) : Int))) (w64 (by omega) (by omega)))) ?_
 refine w1 (asg 3 10 (V.v (.int .i64 (2 * (((idx (⟨d.x, d.y⟩ : Cel)) : Nat) : Int))))) ?_
 refine wpl_nil ?_
 refine wp_seq' ?_
 refine wp_seq' ?_
 refine wp_region_t ?_
 refine w1 (acts_field (d := 11) (t := 1) (h := 1) (off := 0) (off' := 2) (ltN rfl) qC3w_fo_58_2 rfl) ?_
 refine w1 (acts_load_own (d := 12) (t := 11) (h := 1) (off := 2) (o := ⟨58, 3, true, [(.val (.int .i64 d.x) : A), .val (.int .i64 d.y), .val (.bool d.d)]⟩)  (x := .val (.bool d.d)) (ltN rfl) qC3w_ti_4 rfl) ?_
 refine wpl_nil ?_
 refine wp_if (t := 12) (d.d) (by kernel_rfl) (fun c1 => ?_) (fun c1 => ?_)
 ·skip
  refine wp_region_t ?_
  refine w1 (mv 13 3 (V.v (.int .i64 (2 * (((idx (⟨d.x, d.y⟩ : Cel)) : Nat) : Int))))) ?_
  refine w1 (bn 14 (OpV.tmp 13 (.int .i64 (2 * (((idx (⟨d.x, d.y⟩ : Cel)) : Nat) : Int)))) (OpV.const (.int .i64 1)) (r_add (c := ((2 * (((idx (⟨d.x, d.y⟩ : Cel)) : Nat) : Int)) + 1)) (w64 (by omega) (by omega)))) ?_
  refine w1 (asg 3 14 (V.v (.int .i64 ((2 * (((idx (⟨d.x, d.y⟩ : Cel)) : Nat) : Int)) + 1)))) ?_
  refine wpl_nil ?_
  refine wp_seq' ?_
  refine wp_region_t ?_
  refine w1 (mv 15 3 (V.v (.int .i64 ((2 * (((idx (⟨d.x, d.y⟩ : Cel)) : Nat) : Int)) + 1)))) ?_
  refine w1 (asg 2 15 (V.v (.int .i64 ((2 * (((idx (⟨d.x, d.y⟩ : Cel)) : Nat) : Int)) + 1)))) ?_
  refine wpl_nil ?_
  refine wp_ret' ?_
  exact VRes.tmp 2 (.a (.val (.int .i64 ((2 * (((idx (⟨d.x, d.y⟩ : Cel)) : Nat) : Int)) + 1)))) _ (by kernel_rfl) (bval (congrArg (Value.int .i64) (by unfold ord ca; simp_all)))
 ·skip
  refine wp_skip' ?_
  refine wp_seq' ?_
  refine wp_region_t ?_
  refine w1 (mv 15 3 (V.v (.int .i64 (2 * (((idx (⟨d.x, d.y⟩ : Cel)) : Nat) : Int))))) ?_
  refine w1 (asg 2 15 (V.v (.int .i64 (2 * (((idx (⟨d.x, d.y⟩ : Cel)) : Nat) : Int))))) ?_
  refine wpl_nil ?_
  refine wp_ret' ?_
  exact VRes.tmp 2 (.a (.val (.int .i64 (2 * (((idx (⟨d.x, d.y⟩ : Cel)) : Nat) : Int))))) _ (by kernel_rfl) (bval (congrArg (Value.int .i64) (by unfold ord ca; simp_all)))

set_option maxHeartbeats 4000000 in
set_option maxRecDepth 100000 in
theorem impl_IsDominoBefore_fn (d e : Dom) : Fn Try.prog 99 [.agg ([(.int .i64 d.x : Value), .int .i64 d.y, .bool d.d].map A.val), .agg ([(.int .i64 e.x : Value), .int .i64 e.y, .bool e.d].map A.val)] [.val (.bool (bef d e))] := by
 refine fn_intro (N := 18) Try.func99 rfl (by kernel_rfl) rfl (Nat.le_of_ble_eq_true rfl) [2, 3, 6, 9, 13, 15] (ret1 rfl) (fun W => ?_)
 show Wp _ _ _ [(.s 0, some (.s (V.av [(.int .i64 d.x : Value), .int .i64 d.y, .bool d.d]))), (.s 1, some (.s (V.av [(.int .i64 e.x : Value), .int .i64 e.y, .bool e.d]))), (.o 2, some .free), (.o 3, some .free), (.o 6, some .free), (.o 9, some .free), (.o 13, some .free), (.o 15, some .free)]
 refine wp_seq' ?_
 refine wp_region_t ?_
 refine w1 (acts_box (d := 2) (h := 2) (b := .agg ([(.int .i64 d.x : Value), .int .i64 d.y, .bool d.d].map A.val)) (ltN rfl) (OpX.tmp 0 (V.av [(.int .i64 d.x : Value), .int .i64 d.y, .bool d.d])) (by intro y hy; simp [B.cs] at hy; rcases hy with rfl | rfl | rfl <;> rfl)) ?_
 refine w1 (acts_box (d := 3) (h := 3) (b := .agg ([(.int .i64 e.x : Value), .int .i64 e.y, .bool e.d].map A.val)) (ltN rfl) (OpX.tmp 1 (V.av [(.int .i64 e.x : Value), .int .i64 e.y, .bool e.d])) (by intro y hy; simp [B.cs] at hy; rcases hy with rfl | rfl | rfl <;> rfl)) ?_
 refine w1 (acts_assign (d := 4) (ltN rfl) (OpX.const (.bool false))) ?_
 refine wpl_nil ?_
 refine wp_seq' ?_
 rcases Bool.eq_false_or_eq_true ((okD d)) with c1 | c1
 ·skip
  rcases Bool.eq_false_or_eq_true ((okD e)) with c2 | c2
  ·skip
   refine wp_drawn' (by kernel_rfl) (AllSteps.cons (step_plain rfl (acts_load_owns (d := 5) (t := 2) (h := 2) (off := 0) (o := ⟨58, 3, true, [(.val (.int .i64 d.x) : A), .val (.int .i64 d.y), .val (.bool d.d)]⟩)  (xs := [(.int .i64 d.x : Value), .int .i64 d.y, .bool d.d].map A.val) (ltN rfl) qC3w_ti_58 rfl (by decide) rfl)) (AllSteps.cons (step_plain rfl (acts_call1 (d := 6) (ltN rfl) (impl_DominoOk_fn d ) (ArgVs.cons (ArgV.va (vs := [(.int .i64 d.x : Value), .int .i64 d.y, .bool d.d]) (OpV.agg 5 [(.int .i64 d.x : Value), .int .i64 d.y, .bool d.d])) (ArgVs.nil)) ((resval (congrArg Value.bool c1))))) (AllSteps.cons (step_plain rfl (mv 7 6 (V.v (.bool true)))) (AllSteps.cons (step_on (dj := 7) rfl rfl (acts_load_owns (d := 8) (t := 3) (h := 3) (off := 0) (o := ⟨58, 3, true, [(.val (.int .i64 e.x) : A), .val (.int .i64 e.y), .val (.bool e.d)]⟩)  (xs := [(.int .i64 e.x : Value), .int .i64 e.y, .bool e.d].map A.val) (ltN rfl) qC3w_ti_58 rfl (by decide) rfl)) (AllSteps.cons (step_on (dj := 7) rfl rfl (acts_call1 (d := 9) (ltN rfl) (impl_DominoOk_fn e ) (ArgVs.cons (ArgV.va (vs := [(.int .i64 e.x : Value), .int .i64 e.y, .bool e.d]) (OpV.agg 8 [(.int .i64 e.x : Value), .int .i64 e.y, .bool e.d])) (ArgVs.nil)) ((resval (congrArg Value.bool c2))))) (AllSteps.cons (step_plain rfl (acts_pick_t (d := 10) (ltN rfl) (OpV.tmp 7 (.bool true)) (OpX.tmp 9 (V.v (.bool true))))) (AllSteps.cons (step_plain rfl (mv 11 10 (V.v (.bool true)))) (AllSteps.cons (step_on (dj := 11) rfl rfl (acts_load_owns (d := 12) (t := 2) (h := 2) (off := 0) (o := ⟨58, 3, true, [(.val (.int .i64 d.x) : A), .val (.int .i64 d.y), .val (.bool d.d)]⟩)  (xs := [(.int .i64 d.x : Value), .int .i64 d.y, .bool d.d].map A.val) (ltN rfl) qC3w_ti_58 rfl (by decide) rfl)) (AllSteps.cons (step_on (dj := 11) rfl rfl (acts_call1 (d := 13) (ltN rfl) (impl_Domino__order_fn d (by omega)) (ArgVs.cons (ArgV.va (vs := [(.int .i64 d.x : Value), .int .i64 d.y, .bool d.d]) (OpV.agg 12 [(.int .i64 d.x : Value), .int .i64 d.y, .bool d.d])) (ArgVs.nil)) (ResV.val _))) (AllSteps.cons (step_on (dj := 11) rfl rfl (acts_load_owns (d := 14) (t := 3) (h := 3) (off := 0) (o := ⟨58, 3, true, [(.val (.int .i64 e.x) : A), .val (.int .i64 e.y), .val (.bool e.d)]⟩)  (xs := [(.int .i64 e.x : Value), .int .i64 e.y, .bool e.d].map A.val) (ltN rfl) qC3w_ti_58 rfl (by decide) rfl)) (AllSteps.cons (step_on (dj := 11) rfl rfl (acts_call1 (d := 15) (ltN rfl) (impl_Domino__order_fn e (by omega)) (ArgVs.cons (ArgV.va (vs := [(.int .i64 e.x : Value), .int .i64 e.y, .bool e.d]) (OpV.agg 14 [(.int .i64 e.x : Value), .int .i64 e.y, .bool e.d])) (ArgVs.nil)) (ResV.val _))) (AllSteps.cons (step_on (dj := 11) rfl rfl (bn 16 (OpV.tmp 13 (.int .i64 (((ord d) : Nat) : Int))) (OpV.tmp 15 (.int .i64 (((ord e) : Nat) : Int))) (r_lss (c := (decide ((((ord d) : Nat) : Int) < (((ord e) : Nat) : Int)))) rfl))) (AllSteps.cons (step_plain rfl (acts_pick_t (d := 17) (ltN rfl) (OpV.tmp 11 (.bool true)) (OpX.tmp 16 (V.v (.bool (decide ((((ord d) : Nat) : Int) < (((ord e) : Nat) : Int)))))))) (AllSteps.cons (step_plain rfl (asg 4 17 (V.v (.bool (decide ((((ord d) : Nat) : Int) < (((ord e) : Nat) : Int))))))) (AllSteps.nil))))))))))))))) (by kernel_rfl) (by kernel_rfl) (by kernel_rfl) ?_
   refine wp_ret' ?_
   exact VRes.tmp 4 (.a (.val (.bool (decide ((((ord d) : Nat) : Int) < (((ord e) : Nat) : Int)))))) _ (by kernel_rfl) (bval (congrArg Value.bool (by (simp_all [bef]; done))))
  ·skip
   refine wp_drawn' (by kernel_rfl) (AllSteps.cons (step_plain rfl (acts_load_owns (d := 5) (t := 2) (h := 2) (off := 0) (o := ⟨58, 3, true, [(.val (.int .i64 d.x) : A), .val (.int .i64 d.y), .val (.bool d.d)]⟩)  (xs := [(.int .i64 d.x : Value), .int .i64 d.y, .bool d.d].map A.val) (ltN rfl) qC3w_ti_58 rfl (by decide) rfl)) (AllSteps.cons (step_plain rfl (acts_call1 (d := 6) (ltN rfl) (impl_DominoOk_fn d ) (ArgVs.cons (ArgV.va (vs := [(.int .i64 d.x : Value), .int .i64 d.y, .bool d.d]) (OpV.agg 5 [(.int .i64 d.x : Value), .int .i64 d.y, .bool d.d])) (ArgVs.nil)) ((resval (congrArg Value.bool c1))))) (AllSteps.cons (step_plain rfl (mv 7 6 (V.v (.bool true)))) (AllSteps.cons (step_on (dj := 7) rfl rfl (acts_load_owns (d := 8) (t := 3) (h := 3) (off := 0) (o := ⟨58, 3, true, [(.val (.int .i64 e.x) : A), .val (.int .i64 e.y), .val (.bool e.d)]⟩)  (xs := [(.int .i64 e.x : Value), .int .i64 e.y, .bool e.d].map A.val) (ltN rfl) qC3w_ti_58 rfl (by decide) rfl)) (AllSteps.cons (step_on (dj := 7) rfl rfl (acts_call1 (d := 9) (ltN rfl) (impl_DominoOk_fn e ) (ArgVs.cons (ArgV.va (vs := [(.int .i64 e.x : Value), .int .i64 e.y, .bool e.d]) (OpV.agg 8 [(.int .i64 e.x : Value), .int .i64 e.y, .bool e.d])) (ArgVs.nil)) ((resval (congrArg Value.bool c2))))) (AllSteps.cons (step_plain rfl (acts_pick_t (d := 10) (ltN rfl) (OpV.tmp 7 (.bool true)) (OpX.tmp 9 (V.v (.bool false))))) (AllSteps.cons (step_plain rfl (mv 11 10 (V.v (.bool false)))) (AllSteps.cons (step_off (dj := 11) (b' := false) rfl rfl (by decide) rfl (ltN rfl)) (AllSteps.cons (step_off (dj := 11) (b' := false) rfl rfl (by decide) rfl (ltN rfl)) (AllSteps.cons (step_off (dj := 11) (b' := false) rfl rfl (by decide) rfl (ltN rfl)) (AllSteps.cons (step_off (dj := 11) (b' := false) rfl rfl (by decide) rfl (ltN rfl)) (AllSteps.cons (step_off (dj := 11) (b' := false) rfl rfl (by decide) rfl (ltN rfl)) (AllSteps.cons (step_plain rfl (acts_pick_f (d := 17) (ltN rfl) (OpV.tmp 11 (.bool false)) (OpX.const (.bool false)))) (AllSteps.cons (step_plain rfl (asg 4 17 (V.v (.bool false)))) (AllSteps.nil))))))))))))))) (by kernel_rfl) (by kernel_rfl) (by kernel_rfl) ?_
   refine wp_ret' ?_
   exact VRes.tmp 4 (.a (.val (.bool false))) _ (by kernel_rfl) (bval (congrArg Value.bool (by (simp_all [bef]; done))))
 ·skip
  refine wp_drawn' (by kernel_rfl) (AllSteps.cons (step_plain rfl (acts_load_owns (d := 5) (t := 2) (h := 2) (off := 0) (o := ⟨58, 3, true, [(.val (.int .i64 d.x) : A), .val (.int .i64 d.y), .val (.bool d.d)]⟩)  (xs := [(.int .i64 d.x : Value), .int .i64 d.y, .bool d.d].map A.val) (ltN rfl) qC3w_ti_58 rfl (by decide) rfl)) (AllSteps.cons (step_plain rfl (acts_call1 (d := 6) (ltN rfl) (impl_DominoOk_fn d ) (ArgVs.cons (ArgV.va (vs := [(.int .i64 d.x : Value), .int .i64 d.y, .bool d.d]) (OpV.agg 5 [(.int .i64 d.x : Value), .int .i64 d.y, .bool d.d])) (ArgVs.nil)) ((resval (congrArg Value.bool c1))))) (AllSteps.cons (step_plain rfl (mv 7 6 (V.v (.bool false)))) (AllSteps.cons (step_off (dj := 7) (b' := false) rfl rfl (by decide) rfl (ltN rfl)) (AllSteps.cons (step_off (dj := 7) (b' := false) rfl rfl (by decide) rfl (ltN rfl)) (AllSteps.cons (step_plain rfl (acts_pick_f (d := 10) (ltN rfl) (OpV.tmp 7 (.bool false)) (OpX.const (.bool false)))) (AllSteps.cons (step_plain rfl (mv 11 10 (V.v (.bool false)))) (AllSteps.cons (step_off (dj := 11) (b' := false) rfl rfl (by decide) rfl (ltN rfl)) (AllSteps.cons (step_off (dj := 11) (b' := false) rfl rfl (by decide) rfl (ltN rfl)) (AllSteps.cons (step_off (dj := 11) (b' := false) rfl rfl (by decide) rfl (ltN rfl)) (AllSteps.cons (step_off (dj := 11) (b' := false) rfl rfl (by decide) rfl (ltN rfl)) (AllSteps.cons (step_off (dj := 11) (b' := false) rfl rfl (by decide) rfl (ltN rfl)) (AllSteps.cons (step_plain rfl (acts_pick_f (d := 17) (ltN rfl) (OpV.tmp 11 (.bool false)) (OpX.const (.bool false)))) (AllSteps.cons (step_plain rfl (asg 4 17 (V.v (.bool false)))) (AllSteps.nil))))))))))))))) (by kernel_rfl) (by kernel_rfl) (by kernel_rfl) ?_
  refine wp_ret' ?_
  exact VRes.tmp 4 (.a (.val (.bool false))) _ (by kernel_rfl) (bval (congrArg Value.bool (by (simp_all [bef]; done))))

set_option maxHeartbeats 4000000 in
set_option maxRecDepth 100000 in
theorem spec_IsDominoBefore_fn (d e : Dom) : Fn Try.prog 89 [.agg ([(.int .i64 d.x : Value), .int .i64 d.y, .bool d.d].map A.val), .agg ([(.int .i64 e.x : Value), .int .i64 e.y, .bool e.d].map A.val)] [.val (.bool (bef d e))] := by
 refine fn_intro (N := 44) Try.func89 rfl (by kernel_rfl) rfl (Nat.le_of_ble_eq_true rfl) [2, 3, 8, 12] (ret1 rfl) (fun W => ?_)
 show Wp _ _ _ [(.s 0, some (.s (V.av [(.int .i64 d.x : Value), .int .i64 d.y, .bool d.d]))), (.s 1, some (.s (V.av [(.int .i64 e.x : Value), .int .i64 e.y, .bool e.d]))), (.o 2, some .free), (.o 3, some .free), (.o 8, some .free), (.o 12, some .free)]
 refine wp_seq' ?_
 refine wp_region_t ?_
 refine w1 (acts_box (d := 2) (h := 2) (b := .agg ([(.int .i64 d.x : Value), .int .i64 d.y, .bool d.d].map A.val)) (ltN rfl) (OpX.tmp 0 (V.av [(.int .i64 d.x : Value), .int .i64 d.y, .bool d.d])) (by intro y hy; simp [B.cs] at hy; rcases hy with rfl | rfl | rfl <;> rfl)) ?_
 refine w1 (acts_box (d := 3) (h := 3) (b := .agg ([(.int .i64 e.x : Value), .int .i64 e.y, .bool e.d].map A.val)) (ltN rfl) (OpX.tmp 1 (V.av [(.int .i64 e.x : Value), .int .i64 e.y, .bool e.d])) (by intro y hy; simp [B.cs] at hy; rcases hy with rfl | rfl | rfl <;> rfl)) ?_
 refine w1 (acts_assign (d := 4) (ltN rfl) (OpX.const (.bool false))) ?_
 refine wpl_nil ?_
 refine wp_seq' ?_
 refine wp_seq' ?_
 rcases Bool.eq_false_or_eq_true ((okD d)) with c1 | c1
 ·skip
  refine wp_region_t ?_
  refine w1 (acts_load_owns (d := 7) (t := 2) (h := 2) (off := 0) (o := ⟨58, 3, true, [(.val (.int .i64 d.x) : A), .val (.int .i64 d.y), .val (.bool d.d)]⟩)  (xs := [(.int .i64 d.x : Value), .int .i64 d.y, .bool d.d].map A.val) (ltN rfl) qC3w_ti_58 rfl (by decide) rfl) ?_
  refine w1 (acts_call1 (d := 8) (ltN rfl) (spec_DominoOk_fn d ) (ArgVs.cons (ArgV.va (vs := [(.int .i64 d.x : Value), .int .i64 d.y, .bool d.d]) (OpV.agg 7 [(.int .i64 d.x : Value), .int .i64 d.y, .bool d.d])) (ArgVs.nil)) ((resval (congrArg Value.bool c1)))) ?_
  refine w1 (acts_un (d := 9) (ltN rfl) (OpV.tmp 8 (.bool true)) (r_not (c := false) rfl)) ?_
  refine w1 (mv 10 9 (V.v (.bool false))) ?_
  refine w2 (step_on (dj := 10) rfl rfl (acts_load_owns (d := 11) (t := 3) (h := 3) (off := 0) (o := ⟨58, 3, true, [(.val (.int .i64 e.x) : A), .val (.int .i64 e.y), .val (.bool e.d)]⟩)  (xs := [(.int .i64 e.x : Value), .int .i64 e.y, .bool e.d].map A.val) (ltN rfl) qC3w_ti_58 rfl (by decide) rfl)) ?_
  refine w2 (step_on (dj := 10) rfl rfl (acts_call1 (d := 12) (ltN rfl) (spec_DominoOk_fn e ) (ArgVs.cons (ArgV.va (vs := [(.int .i64 e.x : Value), .int .i64 e.y, .bool e.d]) (OpV.agg 11 [(.int .i64 e.x : Value), .int .i64 e.y, .bool e.d])) (ArgVs.nil)) (ResV.val _))) ?_
  refine w2 (step_on (dj := 10) rfl rfl (acts_un (d := 13) (ltN rfl) (OpV.tmp 12 (.bool (okD e))) (r_not (c := (!(okD e))) rfl))) ?_
  refine w1 (acts_pick_f (d := 14) (ltN rfl) (OpV.tmp 10 (.bool false)) (OpX.tmp 13 (V.v (.bool (!(okD e)))))) ?_
  refine wpl_nil ?_
  refine wp_if (t := 14) ((!(okD e))) (by kernel_rfl) (fun c2 => ?_) (fun c2 => ?_)
  ·skip
   have c3 : (okD e) = false := by first | simpa using c2 | (rw [← Bool.not_eq_true']; exact c2)
   refine wp_seq' ?_
   refine wp_region_t ?_
   refine w1 (acts_assign (d := 4) (ltN rfl) (OpX.const (.bool false))) ?_
   refine wpl_nil ?_
   refine wp_ret' ?_
   exact VRes.tmp 4 (.a (.val (.bool false))) _ (by kernel_rfl) (bval (congrArg Value.bool (by (simp_all [bef]; done))))
  ·skip
   have c4 : (okD e) = true := by first | simpa using c2 | (rw [← Bool.not_eq_false']; exact c2)
   refine wp_skip' ?_
   refine wp_seq' ?_
   refine wp_region_t ?_
   refine w1 (acts_field (d := 15) (t := 2) (h := 2) (off := 0) (off' := 1) (ltN rfl) qC3w_fo_58_1 rfl) ?_
   refine w1 (acts_load_own (d := 16) (t := 15) (h := 2) (off := 1) (o := ⟨58, 3, true, [(.val (.int .i64 d.x) : A), .val (.int .i64 d.y), .val (.bool d.d)]⟩)  (x := .val (.int .i64 d.y)) (ltN rfl) qC3w_ti_3 rfl) ?_
   refine w1 (bn 17 (OpV.tmp 16 (.int .i64 d.y)) (OpV.const (.int .i64 8)) (r_mul (c := (d.y * 8)) (w64 (by (have q1 := okD_bd (d := d) (by assumption); have q2 := okD_bd (d := e) (by assumption); omega)) (by (have q1 := okD_bd (d := d) (by assumption); have q2 := okD_bd (d := e) (by assumption); omega))))) ?_
   refine w1 (acts_field (d := 18) (t := 2) (h := 2) (off := 0) (off' := 0) (ltN rfl) qC3w_fo_58_0 rfl) ?_
   refine w1 (acts_load_own (d := 19) (t := 18) (h := 2) (off := 0) (o := ⟨58, 3, true, [(.val (.int .i64 d.x) : A), .val (.int .i64 d.y), .val (.bool d.d)]⟩)  (x := .val (.int .i64 d.x)) (ltN rfl) qC3w_ti_3 rfl) ?_
   refine w1 (bn 20 (OpV.tmp 17 (.int .i64 (d.y * 8))) (OpV.tmp 19 (.int .i64 d.x)) (r_add (c := ((d.y * 8) + d.x)) (w64 (by (have q1 := okD_bd (d := d) (by assumption); have q2 := okD_bd (d := e) (by assumption); omega)) (by (have q1 := okD_bd (d := d) (by assumption); have q2 := okD_bd (d := e) (by assumption); omega))))) ?_
   refine w1 (asg 5 20 (V.v (.int .i64 ((d.y * 8) + d.x)))) ?_
   refine wpl_nil ?_
   refine wp_seq' ?_
   refine wp_region_t ?_
   refine w1 (acts_field (d := 21) (t := 3) (h := 3) (off := 0) (off' := 1) (ltN rfl) qC3w_fo_58_1 rfl) ?_
   refine w1 (acts_load_own (d := 22) (t := 21) (h := 3) (off := 1) (o := ⟨58, 3, true, [(.val (.int .i64 e.x) : A), .val (.int .i64 e.y), .val (.bool e.d)]⟩)  (x := .val (.int .i64 e.y)) (ltN rfl) qC3w_ti_3 rfl) ?_
   refine w1 (bn 23 (OpV.tmp 22 (.int .i64 e.y)) (OpV.const (.int .i64 8)) (r_mul (c := (e.y * 8)) (w64 (by (have q1 := okD_bd (d := d) (by assumption); have q2 := okD_bd (d := e) (by assumption); omega)) (by (have q1 := okD_bd (d := d) (by assumption); have q2 := okD_bd (d := e) (by assumption); omega))))) ?_
   refine w1 (acts_field (d := 24) (t := 3) (h := 3) (off := 0) (off' := 0) (ltN rfl) qC3w_fo_58_0 rfl) ?_
   refine w1 (acts_load_own (d := 25) (t := 24) (h := 3) (off := 0) (o := ⟨58, 3, true, [(.val (.int .i64 e.x) : A), .val (.int .i64 e.y), .val (.bool e.d)]⟩)  (x := .val (.int .i64 e.x)) (ltN rfl) qC3w_ti_3 rfl) ?_
   refine w1 (bn 26 (OpV.tmp 23 (.int .i64 (e.y * 8))) (OpV.tmp 25 (.int .i64 e.x)) (r_add (c := ((e.y * 8) + e.x)) (w64 (by (have q1 := okD_bd (d := d) (by assumption); have q2 := okD_bd (d := e) (by assumption); omega)) (by (have q1 := okD_bd (d := d) (by assumption); have q2 := okD_bd (d := e) (by assumption); omega))))) ?_
   refine w1 (asg 6 26 (V.v (.int .i64 ((e.y * 8) + e.x)))) ?_
   refine wpl_nil ?_
   refine wp_seq' ?_
   rcases Bool.eq_false_or_eq_true (decide (((d.y * 8) + d.x) < ((e.y * 8) + e.x))) with c5 | c5
   ·skip
    have c5P := of_decide_eq_true c5
    refine wp_region_t ?_
    refine w1 (mv 27 5 (V.v (.int .i64 ((d.y * 8) + d.x)))) ?_
    refine w1 (mv 28 6 (V.v (.int .i64 ((e.y * 8) + e.x)))) ?_
    refine w1 (bn 29 (OpV.tmp 27 (.int .i64 ((d.y * 8) + d.x))) (OpV.tmp 28 (.int .i64 ((e.y * 8) + e.x))) (r_lss (c := true) c5)) ?_
    refine w1 (mv 30 29 (V.v (.bool true))) ?_
    refine w2 (step_off (dj := 30) (b' := true) rfl rfl (by decide) rfl (ltN rfl)) ?_
    refine w2 (step_off (dj := 30) (b' := true) rfl rfl (by decide) rfl (ltN rfl)) ?_
    refine w2 (step_off (dj := 30) (b' := true) rfl rfl (by decide) rfl (ltN rfl)) ?_
    refine w2 (step_offu (dj := 30) (b' := true) rfl rfl (by decide) rfl (ltN rfl)) ?_
    refine w2 (step_offx (dj := 34) rfl rfl rfl (ltN rfl)) ?_
    refine w2 (step_offx (dj := 34) rfl rfl rfl (ltN rfl)) ?_
    refine w2 (step_offx (dj := 34) rfl rfl rfl (ltN rfl)) ?_
    refine w2 (step_off (dj := 30) (b' := true) rfl rfl (by decide) rfl (ltN rfl)) ?_
    refine w2 (step_offu (dj := 30) (b' := true) rfl rfl (by decide) rfl (ltN rfl)) ?_
    refine w2 (step_offx (dj := 39) rfl rfl rfl (ltN rfl)) ?_
    refine w2 (step_offx (dj := 39) rfl rfl rfl (ltN rfl)) ?_
    refine w2 (step_off (dj := 30) (b' := true) rfl rfl (by decide) rfl (ltN rfl)) ?_
    refine w1 (acts_pick_t (d := 43) (ltN rfl) (OpV.tmp 30 (.bool true)) (OpX.const (.bool true))) ?_
    refine w1 (asg 4 43 (V.v (.bool true))) ?_
    refine wpl_nil ?_
    refine wp_ret' ?_
    exact VRes.tmp 4 (.a (.val (.bool true))) _ (by kernel_rfl) (bval (congrArg Value.bool (by (have q1 := ord_val (d := d) (by assumption); have q2 := ord_val (d := e) (by assumption); unfold bef; cases hd1 : d.d <;> cases he1 : e.d <;> simp_all <;> omega))))
   ·skip
    have c5P := of_decide_eq_false c5
    rcases Bool.eq_false_or_eq_true (decide (((d.y * 8) + d.x) = ((e.y * 8) + e.x))) with c6 | c6
    ·skip
     have c6P := of_decide_eq_true c6
     rcases Bool.eq_false_or_eq_true (d.d) with c7 | c7
     ·skip
      refine wp_region_t ?_
      refine w1 (mv 27 5 (V.v (.int .i64 ((d.y * 8) + d.x)))) ?_
      refine w1 (mv 28 6 (V.v (.int .i64 ((e.y * 8) + e.x)))) ?_
      refine w1 (bn 29 (OpV.tmp 27 (.int .i64 ((d.y * 8) + d.x))) (OpV.tmp 28 (.int .i64 ((e.y * 8) + e.x))) (r_lss (c := false) c5)) ?_
      refine w1 (mv 30 29 (V.v (.bool false))) ?_
      refine w2 (step_on (dj := 30) rfl rfl (mv 31 5 (V.v (.int .i64 ((d.y * 8) + d.x))))) ?_
      refine w2 (step_on (dj := 30) rfl rfl (mv 32 6 (V.v (.int .i64 ((e.y * 8) + e.x))))) ?_
      refine w2 (step_on (dj := 30) rfl rfl (bn 33 (OpV.tmp 31 (.int .i64 ((d.y * 8) + d.x))) (OpV.tmp 32 (.int .i64 ((e.y * 8) + e.x))) (r_eql (c := true) c6))) ?_
      refine w2 (step_on (dj := 30) rfl rfl (mv 34 33 (V.v (.bool true)))) ?_
      refine w2 (step_on (dj := 34) rfl rfl (acts_field (d := 35) (t := 2) (h := 2) (off := 0) (off' := 2) (ltN rfl) qC3w_fo_58_2 rfl)) ?_
      refine w2 (step_on (dj := 34) rfl rfl (acts_load_own (d := 36) (t := 35) (h := 2) (off := 2) (o := ⟨58, 3, true, [(.val (.int .i64 d.x) : A), .val (.int .i64 d.y), .val (.bool d.d)]⟩)  (x := .val (.bool d.d)) (ltN rfl) qC3w_ti_4 rfl)) ?_
      refine w2 (step_on (dj := 34) rfl rfl (acts_un (d := 37) (ltN rfl) (OpV.tmp 36 (.bool d.d)) (r_not (c := false) (by (rw [c7]; rfl))))) ?_
      refine w2 (step_on (dj := 30) rfl rfl (acts_pick_t (d := 38) (ltN rfl) (OpV.tmp 34 (.bool true)) (OpX.tmp 37 (V.v (.bool false))))) ?_
      refine w2 (step_on (dj := 30) rfl rfl (mv 39 38 (V.v (.bool false)))) ?_
      refine w2 (step_off (dj := 39) (b' := false) rfl rfl (by decide) rfl (ltN rfl)) ?_
      refine w2 (step_off (dj := 39) (b' := false) rfl rfl (by decide) rfl (ltN rfl)) ?_
      refine w2 (step_on (dj := 30) rfl rfl (acts_pick_f (d := 42) (ltN rfl) (OpV.tmp 39 (.bool false)) (OpX.const (.bool false)))) ?_
      refine w1 (acts_pick_f (d := 43) (ltN rfl) (OpV.tmp 30 (.bool false)) (OpX.tmp 42 (V.v (.bool false)))) ?_
      refine w1 (asg 4 43 (V.v (.bool false))) ?_
      refine wpl_nil ?_
      refine wp_ret' ?_
      exact VRes.tmp 4 (.a (.val (.bool false))) _ (by kernel_rfl) (bval (congrArg Value.bool (by (have q1 := ord_val (d := d) (by assumption); have q2 := ord_val (d := e) (by assumption); unfold bef; cases hd1 : d.d <;> cases he1 : e.d <;> simp_all <;> omega))))
     ·skip
      refine wp_region_t ?_
      refine w1 (mv 27 5 (V.v (.int .i64 ((d.y * 8) + d.x)))) ?_
      refine w1 (mv 28 6 (V.v (.int .i64 ((e.y * 8) + e.x)))) ?_
      refine w1 (bn 29 (OpV.tmp 27 (.int .i64 ((d.y * 8) + d.x))) (OpV.tmp 28 (.int .i64 ((e.y * 8) + e.x))) (r_lss (c := false) c5)) ?_
      refine w1 (mv 30 29 (V.v (.bool false))) ?_
      refine w2 (step_on (dj := 30) rfl rfl (mv 31 5 (V.v (.int .i64 ((d.y * 8) + d.x))))) ?_
      refine w2 (step_on (dj := 30) rfl rfl (mv 32 6 (V.v (.int .i64 ((e.y * 8) + e.x))))) ?_
      refine w2 (step_on (dj := 30) rfl rfl (bn 33 (OpV.tmp 31 (.int .i64 ((d.y * 8) + d.x))) (OpV.tmp 32 (.int .i64 ((e.y * 8) + e.x))) (r_eql (c := true) c6))) ?_
      refine w2 (step_on (dj := 30) rfl rfl (mv 34 33 (V.v (.bool true)))) ?_
      refine w2 (step_on (dj := 34) rfl rfl (acts_field (d := 35) (t := 2) (h := 2) (off := 0) (off' := 2) (ltN rfl) qC3w_fo_58_2 rfl)) ?_
      refine w2 (step_on (dj := 34) rfl rfl (acts_load_own (d := 36) (t := 35) (h := 2) (off := 2) (o := ⟨58, 3, true, [(.val (.int .i64 d.x) : A), .val (.int .i64 d.y), .val (.bool d.d)]⟩)  (x := .val (.bool d.d)) (ltN rfl) qC3w_ti_4 rfl)) ?_
      refine w2 (step_on (dj := 34) rfl rfl (acts_un (d := 37) (ltN rfl) (OpV.tmp 36 (.bool d.d)) (r_not (c := true) (by (rw [c7]; rfl))))) ?_
      refine w2 (step_on (dj := 30) rfl rfl (acts_pick_t (d := 38) (ltN rfl) (OpV.tmp 34 (.bool true)) (OpX.tmp 37 (V.v (.bool true))))) ?_
      refine w2 (step_on (dj := 30) rfl rfl (mv 39 38 (V.v (.bool true)))) ?_
      refine w2 (step_on (dj := 39) rfl rfl (acts_field (d := 40) (t := 3) (h := 3) (off := 0) (off' := 2) (ltN rfl) qC3w_fo_58_2 rfl)) ?_
      refine w2 (step_on (dj := 39) rfl rfl (acts_load_own (d := 41) (t := 40) (h := 3) (off := 2) (o := ⟨58, 3, true, [(.val (.int .i64 e.x) : A), .val (.int .i64 e.y), .val (.bool e.d)]⟩)  (x := .val (.bool e.d)) (ltN rfl) qC3w_ti_4 rfl)) ?_
      refine w2 (step_on (dj := 30) rfl rfl (acts_pick_t (d := 42) (ltN rfl) (OpV.tmp 39 (.bool true)) (OpX.tmp 41 (V.v (.bool e.d))))) ?_
      refine w1 (acts_pick_f (d := 43) (ltN rfl) (OpV.tmp 30 (.bool false)) (OpX.tmp 42 (V.v (.bool e.d)))) ?_
      refine w1 (asg 4 43 (V.v (.bool e.d))) ?_
      refine wpl_nil ?_
      refine wp_ret' ?_
      exact VRes.tmp 4 (.a (.val (.bool e.d))) _ (by kernel_rfl) (bval (congrArg Value.bool (by (have q1 := ord_val (d := d) (by assumption); have q2 := ord_val (d := e) (by assumption); unfold bef; cases hd1 : d.d <;> cases he1 : e.d <;> simp_all <;> omega))))
    ·skip
     have c6P := of_decide_eq_false c6
     refine wp_region_t ?_
     refine w1 (mv 27 5 (V.v (.int .i64 ((d.y * 8) + d.x)))) ?_
     refine w1 (mv 28 6 (V.v (.int .i64 ((e.y * 8) + e.x)))) ?_
     refine w1 (bn 29 (OpV.tmp 27 (.int .i64 ((d.y * 8) + d.x))) (OpV.tmp 28 (.int .i64 ((e.y * 8) + e.x))) (r_lss (c := false) c5)) ?_
     refine w1 (mv 30 29 (V.v (.bool false))) ?_
     refine w2 (step_on (dj := 30) rfl rfl (mv 31 5 (V.v (.int .i64 ((d.y * 8) + d.x))))) ?_
     refine w2 (step_on (dj := 30) rfl rfl (mv 32 6 (V.v (.int .i64 ((e.y * 8) + e.x))))) ?_
     refine w2 (step_on (dj := 30) rfl rfl (bn 33 (OpV.tmp 31 (.int .i64 ((d.y * 8) + d.x))) (OpV.tmp 32 (.int .i64 ((e.y * 8) + e.x))) (r_eql (c := false) c6))) ?_
     refine w2 (step_on (dj := 30) rfl rfl (mv 34 33 (V.v (.bool false)))) ?_
     refine w2 (step_off (dj := 34) (b' := false) rfl rfl (by decide) rfl (ltN rfl)) ?_
     refine w2 (step_off (dj := 34) (b' := false) rfl rfl (by decide) rfl (ltN rfl)) ?_
     refine w2 (step_off (dj := 34) (b' := false) rfl rfl (by decide) rfl (ltN rfl)) ?_
     refine w2 (step_on (dj := 30) rfl rfl (acts_pick_f (d := 38) (ltN rfl) (OpV.tmp 34 (.bool false)) (OpX.const (.bool false)))) ?_
     refine w2 (step_on (dj := 30) rfl rfl (mv 39 38 (V.v (.bool false)))) ?_
     refine w2 (step_off (dj := 39) (b' := false) rfl rfl (by decide) rfl (ltN rfl)) ?_
     refine w2 (step_off (dj := 39) (b' := false) rfl rfl (by decide) rfl (ltN rfl)) ?_
     refine w2 (step_on (dj := 30) rfl rfl (acts_pick_f (d := 42) (ltN rfl) (OpV.tmp 39 (.bool false)) (OpX.const (.bool false)))) ?_
     refine w1 (acts_pick_f (d := 43) (ltN rfl) (OpV.tmp 30 (.bool false)) (OpX.tmp 42 (V.v (.bool false)))) ?_
     refine w1 (asg 4 43 (V.v (.bool false))) ?_
     refine wpl_nil ?_
     refine wp_ret' ?_
     exact VRes.tmp 4 (.a (.val (.bool false))) _ (by kernel_rfl) (bval (congrArg Value.bool (by (have q1 := ord_val (d := d) (by assumption); have q2 := ord_val (d := e) (by assumption); unfold bef; cases hd1 : d.d <;> cases he1 : e.d <;> simp_all <;> omega))))
 ·skip
  refine wp_region_t ?_
  refine w1 (acts_load_owns (d := 7) (t := 2) (h := 2) (off := 0) (o := ⟨58, 3, true, [(.val (.int .i64 d.x) : A), .val (.int .i64 d.y), .val (.bool d.d)]⟩)  (xs := [(.int .i64 d.x : Value), .int .i64 d.y, .bool d.d].map A.val) (ltN rfl) qC3w_ti_58 rfl (by decide) rfl) ?_
  refine w1 (acts_call1 (d := 8) (ltN rfl) (spec_DominoOk_fn d ) (ArgVs.cons (ArgV.va (vs := [(.int .i64 d.x : Value), .int .i64 d.y, .bool d.d]) (OpV.agg 7 [(.int .i64 d.x : Value), .int .i64 d.y, .bool d.d])) (ArgVs.nil)) ((resval (congrArg Value.bool c1)))) ?_
  refine w1 (acts_un (d := 9) (ltN rfl) (OpV.tmp 8 (.bool false)) (r_not (c := true) rfl)) ?_
  refine w1 (mv 10 9 (V.v (.bool true))) ?_
  refine w2 (step_off (dj := 10) (b' := true) rfl rfl (by decide) rfl (ltN rfl)) ?_
  refine w2 (step_off (dj := 10) (b' := true) rfl rfl (by decide) rfl (ltN rfl)) ?_
  refine w2 (step_off (dj := 10) (b' := true) rfl rfl (by decide) rfl (ltN rfl)) ?_
  refine w1 (acts_pick_t (d := 14) (ltN rfl) (OpV.tmp 10 (.bool true)) (OpX.const (.bool true))) ?_
  refine wpl_nil ?_
  refine wp_if_t (t := 14) (by kernel_rfl) ?_
  refine wp_seq' ?_
  refine wp_region_t ?_
  refine w1 (acts_assign (d := 4) (ltN rfl) (OpX.const (.bool false))) ?_
  refine wpl_nil ?_
  refine wp_ret' ?_
  exact VRes.tmp 4 (.a (.val (.bool false))) _ (by kernel_rfl) (bval (congrArg Value.bool (by (simp_all [bef]; done))))

set_option maxHeartbeats 4000000 in
set_option maxRecDepth 100000 in
theorem impl_covered_fn (ds : List Dom) (hd : ds.length ≤ 2097152) : Fn Try.prog 81 [.a (.slv ds.length 3 (dsl ds))] [.val (.int .u64 (((covS ds) : Nat) : Int))] := by
 refine fn_intro (N := 20) Try.func81 rfl (by kernel_rfl) rfl (Nat.le_of_ble_eq_true rfl) [5, 7, 13, 16] (ret1 rfl) (fun W => ?_)
 show Wp _ _ _ [(.s 0, some (.s (V.b (.a (.slv ds.length 3 (dsl ds)))))), (.o 5, some .free), (.o 7, some .free), (.o 13, some .free), (.o 16, some .free)]
 refine wp_seq' ?_
 refine wp_region_t ?_
 refine w1 (acts_assign (d := 2) (ltN rfl) (OpX.const (.int .u64 0))) ?_
 refine wpl_nil ?_
 refine wp_seq' ?_
 refine wp_region_t ?_
 refine w1 (acts_assign (d := 3) (ltN rfl) (OpX.const (.int .u64 0))) ?_
 refine wpl_nil ?_
 refine wp_seq' ?_
 refine wp_seq' ?_
 refine wp_region_t ?_
 refine w1 (mv 6 0 (V.b (.a (.slv ds.length 3 (dsl ds))))) ?_
 refine w1 (acts_len (d := 7) (X := .slv ds.length 3 (dsl ds)) (n := ds.length) (iv := ((ds.length : Nat) : Int)) (ltN rfl) qC3w_un_31 (OpX.tmp 6 (V.b (.a (.slv ds.length 3 (dsl ds))))) (LenOf.slv _ _ _) rfl) ?_
 refine w1 (acts_move (d := 8) (ltN rfl) (OpX.const (.int .i64 0))) ?_
 refine wpl_nil ?_
 refine wp_block' ?_
 refine wp_loop' (fun (k : Nat) => k ≤ ds.length) (fun (k : Nat) => [(.s 3, some (.s (V.v (.int .u64 (((covS (ds.take k)) : Nat) : Int))))), (.s 6, some (.s (V.b (.a (.slv ds.length 3 (dsl ds)))))), (.s 7, some (.s (V.v (.int .i64 ((ds.length : Nat) : Int))))), (.s 8, some (.s (V.v (.int .i64 ((k : Nat) : Int))))), (.o 5, some .free), (.o 7, some .free), (.o 13, some .free), (.o 16, some .free)]) (fun (k : Nat) => ds.length - k) ((0 : Nat)) (by exact (Nat.zero_le _ : 0 ≤ _)) (weak_of id [5, 7, 13, 16] (by kernel_rfl) (wk_s (v' := V.v (.int .u64 0)) (by kernel_rfl) (vint (by rfl)) rfl (wk_s (v' := V.b (.a (.slv ds.length 3 (dsl ds)))) (by kernel_rfl) rfl rfl (wk_s (v' := V.v (.int .i64 ((ds.length : Nat) : Int))) (by kernel_rfl) rfl rfl (wk_s (v' := V.v (.int .i64 0)) (by kernel_rfl) (vint (by rfl)) rfl (wk_f rfl (wk_f rfl (wk_f rfl (wk_f rfl (wk_nil)))))))))) ?_
 rintro k inv1
 replace inv1 : k ≤ ds.length := inv1
 have inv := inv1
 show Wp _ _ _ [(.s 3, some (.s (V.v (.int .u64 (((covS (ds.take k)) : Nat) : Int))))), (.s 6, some (.s (V.b (.a (.slv ds.length 3 (dsl ds)))))), (.s 7, some (.s (V.v (.int .i64 ((ds.length : Nat) : Int))))), (.s 8, some (.s (V.v (.int .i64 ((k : Nat) : Int))))), (.o 5, some .free), (.o 7, some .free), (.o 13, some .free), (.o 16, some .free)]
 have hcl := covS_lt (ds.take k)
 refine wp_seq' ?_
 refine wp_region_t ?_
 refine w1 (bn 9 (OpV.tmp 8 (.int .i64 ((k : Nat) : Int))) (OpV.tmp 7 (.int .i64 ((ds.length : Nat) : Int))) (r_lss (c := (decide (((k : Nat) : Int) < ((ds.length : Nat) : Int)))) rfl)) ?_
 refine wpl_nil ?_
 refine wp_seq' ?_
 refine wp_if (t := 9) (decide (((k : Nat) : Int) < ((ds.length : Nat) : Int))) (by kernel_rfl) (fun c2 => ?_) (fun c2 => ?_)
 ·skip
  have c2P := of_decide_eq_true c2
  refine wp_skip' ?_
  refine wp_seq' ?_
  refine wp_block' ?_
  refine wp_seq' ?_
  refine wp_region_t ?_
  refine w1 (acts_index_v (d := 10) (x := 6) (n := ds.length) (s := 3) (k := k) (xs := dsl ds) (ltN rfl) qC3w_un_31 qC3w_sz_58 (OpV.tmp 8 (.int .i64 ((k : Nat) : Int))) rfl (by omega)) ?_
  refine w1 (acts_load_vs (d := 11) (t := 10) (s := 3) (off := (k * 3)) (xs := dsl ds)  (vs := [(.int .i64 ((gD ds k).x) : Value), .int .i64 ((gD ds k).y), .bool ((gD ds k).d)]) (ltN rfl) qC3w_ti_58 rfl (dsl_at (k := k) (by omega))) ?_
  refine w1 (acts_alloc' (d := 5) (h := 5) (cap := 1) (s := 3) (cells := [(.val (.int .i64 0) : A), .val (.int .i64 0), .val (.bool false)]) (ltN rfl) qC3w_zi_58 rfl rfl (by decide)) ?_
  refine w1 (acts_store (t := 5) (h := 5) (off := 0) (o := ⟨58, 3, true, [(.val (.int .i64 0) : A), .val (.int .i64 0), .val (.bool false)]⟩) (b := .agg ([(.int .i64 ((gD ds k).x) : Value), .int .i64 ((gD ds k).y), .bool ((gD ds k).d)].map A.val)) (cells := [(.val (.int .i64 ((gD ds k).x)) : A), .val (.int .i64 ((gD ds k).y)), .val (.bool ((gD ds k).d))]) qC3w_ti_58 (OpX.tmp 11 (V.av [(.int .i64 ((gD ds k).x) : Value), .int .i64 ((gD ds k).y), .bool ((gD ds k).d)])) rfl (by decide) (by intro y hy; simp [B.cs] at hy; rcases hy with rfl | rfl | rfl <;> rfl) (Nat.le_of_ble_eq_true rfl) rfl) ?_
  refine wpl_nil ?_
  refine wp_seq' ?_
  refine wp_region_t ?_
  refine w1 (acts_load_owns (d := 12) (t := 5) (h := 5) (off := 0) (o := ⟨58, 3, true, [(.val (.int .i64 ((gD ds k).x)) : A), .val (.int .i64 ((gD ds k).y)), .val (.bool ((gD ds k).d))]⟩)  (xs := [(.int .i64 ((gD ds k).x) : Value), .int .i64 ((gD ds k).y), .bool ((gD ds k).d)].map A.val) (ltN rfl) qC3w_ti_58 rfl (by decide) rfl) ?_
  refine w1 (acts_call1 (d := 13) (ltN rfl) (impl_DominoOk_fn (gD ds k) ) (ArgVs.cons (ArgV.va (vs := [(.int .i64 ((gD ds k).x) : Value), .int .i64 ((gD ds k).y), .bool ((gD ds k).d)]) (OpV.agg 12 [(.int .i64 ((gD ds k).x) : Value), .int .i64 ((gD ds k).y), .bool ((gD ds k).d)])) (ArgVs.nil)) (ResV.val _)) ?_
  refine wpl_nil ?_
  refine wp_if (t := 13) ((okD (gD ds k))) (by kernel_rfl) (fun c3 => ?_) (fun c3 => ?_)
  ·skip
   refine wp_region_t ?_
   refine w1 (mv 14 3 (V.v (.int .u64 (((covS (ds.take k)) : Nat) : Int)))) ?_
   refine w1 (acts_load_owns (d := 15) (t := 5) (h := 5) (off := 0) (o := ⟨58, 3, true, [(.val (.int .i64 ((gD ds k).x)) : A), .val (.int .i64 ((gD ds k).y)), .val (.bool ((gD ds k).d))]⟩)  (xs := [(.int .i64 ((gD ds k).x) : Value), .int .i64 ((gD ds k).y), .bool ((gD ds k).d)].map A.val) (ltN rfl) qC3w_ti_58 rfl (by decide) rfl) ?_
   refine w1 (acts_call1 (d := 16) (ltN rfl) (impl_Domino__set_fn (gD ds k) (by omega)) (ArgVs.cons (ArgV.va (vs := [(.int .i64 ((gD ds k).x) : Value), .int .i64 ((gD ds k).y), .bool ((gD ds k).d)]) (OpV.agg 15 [(.int .i64 ((gD ds k).x) : Value), .int .i64 ((gD ds k).y), .bool ((gD ds k).d)])) (ArgVs.nil)) (ResV.val _)) ?_
   refine w1 (bn 17 (OpV.tmp 14 (.int .u64 (((covS (ds.take k)) : Nat) : Int))) (OpV.tmp 16 (.int .u64 (((domS (gD ds k)) : Nat) : Int))) (r_or (c := ((((covS (ds.take k)) ||| (domS (gD ds k))) : Nat) : Int)) (orU (m := (covS (ds.take k))) (n := (domS (gD ds k))) rfl rfl (by omega) (by (first | omega | assumption | exact domS_lt (by assumption)))))) ?_
   refine w1 (asg 3 17 (V.v (.int .u64 ((((covS (ds.take k)) ||| (domS (gD ds k))) : Nat) : Int)))) ?_
   refine wpl_nil ?_
   refine wp_region_t ?_
   refine w1 (bn 18 (OpV.tmp 8 (.int .i64 ((k : Nat) : Int))) (OpV.const (.int .i64 1)) (r_add (c := (((k : Nat) : Int) + 1)) (w64 (by omega) (by omega)))) ?_
   refine w1 (mv 8 18 (V.v (.int .i64 (((k : Nat) : Int) + 1)))) ?_
   refine wpl_nil ?_
   exact loop_back ((k + 1)) (by show _ ≤ _; omega) (by show ds.length - (k + 1) < ds.length - k; omega) (weak_of id [5, 7, 13, 16] (by kernel_rfl) (wk_s (v' := V.v (.int .u64 ((((covS (ds.take k)) ||| (domS (gD ds k))) : Nat) : Int))) (by kernel_rfl) (vint (by exact congrArg _ (covS_yes (by omega) (by assumption)))) rfl (wk_s (v' := V.b (.a (.slv ds.length 3 (dsl ds)))) (by kernel_rfl) rfl rfl (wk_s (v' := V.v (.int .i64 ((ds.length : Nat) : Int))) (by kernel_rfl) rfl rfl (wk_s (v' := V.v (.int .i64 (((k : Nat) : Int) + 1))) (by kernel_rfl) (vint (by rfl)) rfl (wk_f rfl (wk_f rfl (wk_f rfl (wk_f rfl (wk_nil))))))))))
  ·skip
   refine wp_skip' ?_
   refine wp_region_t ?_
   refine w1 (bn 18 (OpV.tmp 8 (.int .i64 ((k : Nat) : Int))) (OpV.const (.int .i64 1)) (r_add (c := (((k : Nat) : Int) + 1)) (w64 (by omega) (by omega)))) ?_
   refine w1 (mv 8 18 (V.v (.int .i64 (((k : Nat) : Int) + 1)))) ?_
   refine wpl_nil ?_
   exact loop_back ((k + 1)) (by show _ ≤ _; omega) (by show ds.length - (k + 1) < ds.length - k; omega) (weak_of id [5, 7, 13, 16] (by kernel_rfl) (wk_s (v' := V.v (.int .u64 (((covS (ds.take k)) : Nat) : Int))) (by kernel_rfl) (vint (by exact congrArg _ (covS_no (by omega) (by assumption)))) rfl (wk_s (v' := V.b (.a (.slv ds.length 3 (dsl ds)))) (by kernel_rfl) rfl rfl (wk_s (v' := V.v (.int .i64 ((ds.length : Nat) : Int))) (by kernel_rfl) rfl rfl (wk_s (v' := V.v (.int .i64 (((k : Nat) : Int) + 1))) (by kernel_rfl) (vint (by rfl)) rfl (wk_f rfl (wk_f rfl (wk_f rfl (wk_f rfl (wk_nil))))))))))
 ·skip
  have c2P := of_decide_eq_false c2
  refine wp_exit' ?_
  refine wp_seq' ?_
  refine wp_region_t ?_
  refine w1 (mv 19 3 (V.v (.int .u64 (((covS (ds.take k)) : Nat) : Int)))) ?_
  refine w1 (asg 2 19 (V.v (.int .u64 (((covS (ds.take k)) : Nat) : Int)))) ?_
  refine wpl_nil ?_
  refine wp_ret' ?_
  exact VRes.tmp 2 (.a (.val (.int .u64 (((covS (ds.take k)) : Nat) : Int)))) _ (by kernel_rfl) (bval (congrArg (Value.int .u64) (by rw [covS_end (by assumption)])))

set_option maxHeartbeats 4000000 in
set_option maxRecDepth 100000 in
theorem impl_IsPartial_fn (l : List Int) (ds : List Dom) (hl : l.length ≤ 4194304) (hd : ds.length ≤ 2097152) : Fn Try.prog 80 [.agg [(.slv l.length 1 (isl l) : A)], .a (.slv ds.length 3 (dsl ds))] [.val (.bool (isPar l ds))] := by
 refine fn_intro (N := 51) Try.func80 rfl (by kernel_rfl) rfl (Nat.le_of_ble_eq_true rfl) [2, 7, 9, 12, 14, 21, 26, 29, 42, 48] (ret1 rfl) (fun W => ?_)
 show Wp _ _ _ [(.s 0, some (.s (V.b (.agg [(.slv l.length 1 (isl l) : A)])))), (.s 1, some (.s (V.b (.a (.slv ds.length 3 (dsl ds)))))), (.o 2, some .free), (.o 7, some .free), (.o 9, some .free), (.o 12, some .free), (.o 14, some .free), (.o 21, some .free), (.o 26, some .free), (.o 29, some .free), (.o 42, some .free), (.o 48, some .free)]
 refine wp_seq' ?_
 refine wp_region_t ?_
 refine w1 (acts_box (d := 2) (h := 2) (b := .agg [(.slv l.length 1 (isl l) : A)]) (ltN rfl) (OpX.tmp 0 (V.b (.agg [(.slv l.length 1 (isl l) : A)]))) (by intro y hy; simp [B.cs] at hy; subst hy; rfl)) ?_
 refine w1 (acts_assign (d := 4) (ltN rfl) (OpX.const (.bool false))) ?_
 refine wpl_nil ?_
 refine wp_seq' ?_
 refine wp_seq' ?_
 refine wp_region_t ?_
 refine w1 (acts_load_owns (d := 8) (t := 2) (h := 2) (off := 0) (o := ⟨29, 1, true, [(.slv l.length 1 (isl l) : A)]⟩)  (xs := [(.slv l.length 1 (isl l) : A)]) (ltN rfl) qC3w_ti_29 rfl (by decide) rfl) ?_
 refine w1 (acts_call1 (d := 9) (ltN rfl) (impl_RegionOk_fn l (by omega)) (ArgVs.cons (ArgV.regv 8 l.length 1 (isl l)) (ArgVs.nil)) (ResV.val _)) ?_
 refine w1 (acts_un (d := 10) (ltN rfl) (OpV.tmp 9 (.bool (regOk l))) (r_not (c := (!(regOk l))) rfl)) ?_
 refine wpl_nil ?_
 refine wp_if (t := 10) ((!(regOk l))) (by kernel_rfl) (fun c1 => ?_) (fun c1 => ?_)
 ·skip
  have c2 : (regOk l) = false := by first | simpa using c1 | (rw [← Bool.not_eq_true']; exact c1)
  refine wp_seq' ?_
  refine wp_region_t ?_
  refine w1 (acts_assign (d := 4) (ltN rfl) (OpX.const (.bool false))) ?_
  refine wpl_nil ?_
  refine wp_ret' ?_
  exact VRes.tmp 4 (.a (.val (.bool false))) _ (by kernel_rfl) (bval (congrArg Value.bool (by (simp_all [isPar]; done))))
 ·skip
  have c3 : (regOk l) = true := by first | simpa using c1 | (rw [← Bool.not_eq_false']; exact c1)
  refine wp_skip' ?_
  refine wp_seq' ?_
  refine wp_region_t ?_
  refine w1 (acts_load_owns (d := 11) (t := 2) (h := 2) (off := 0) (o := ⟨29, 1, true, [(.slv l.length 1 (isl l) : A)]⟩)  (xs := [(.slv l.length 1 (isl l) : A)]) (ltN rfl) qC3w_ti_29 rfl (by decide) rfl) ?_
  refine w1 (acts_call1 (d := 12) (ltN rfl) (impl_Region__set_fn l (by omega)) (ArgVs.cons (ArgV.regv 11 l.length 1 (isl l)) (ArgVs.nil)) (ResV.val _)) ?_
  refine w1 (asg 5 12 (V.v (.int .u64 (((regSet l) : Nat) : Int)))) ?_
  refine wpl_nil ?_
  refine wp_seq' ?_
  refine wp_seq' ?_
  refine wp_region_t ?_
  refine w1 (mv 13 1 (V.b (.a (.slv ds.length 3 (dsl ds))))) ?_
  refine w1 (acts_len (d := 14) (X := .slv ds.length 3 (dsl ds)) (n := ds.length) (iv := ((ds.length : Nat) : Int)) (ltN rfl) qC3w_un_31 (OpX.tmp 13 (V.b (.a (.slv ds.length 3 (dsl ds))))) (LenOf.slv _ _ _) rfl) ?_
  refine w1 (acts_move (d := 15) (ltN rfl) (OpX.const (.int .i64 0))) ?_
  refine wpl_nil ?_
  refine wp_block' ?_
  refine wp_loop' (fun (k : Nat) => k ≤ ds.length ∧ parT (regSet l) ds k = true) (fun (k : Nat) => [(.s 1, some (.s (V.b (.a (.slv ds.length 3 (dsl ds)))))), (.s 5, some (.s (V.v (.int .u64 (((andn (regSet l) (covS (ds.take k))) : Nat) : Int))))), (.s 13, some (.s (V.b (.a (.slv ds.length 3 (dsl ds)))))), (.s 14, some (.s (V.v (.int .i64 ((ds.length : Nat) : Int))))), (.s 15, some (.s (V.v (.int .i64 ((k : Nat) : Int))))), (.o 2, some .free), (.o 7, some .free), (.o 9, some .free), (.o 12, some .free), (.o 14, some .free), (.o 21, some .free), (.o 26, some .free), (.o 29, some .free), (.o 42, some .free), (.o 48, some .free)]) (fun (k : Nat) => ds.length - k) ((0 : Nat)) (by exact ⟨Nat.zero_le _, parT_zero _ _⟩) (weak_of id [2, 7, 9, 12, 14, 21, 26, 29, 42, 48] (by kernel_rfl) (wk_s (v' := V.b (.a (.slv ds.length 3 (dsl ds)))) (by kernel_rfl) rfl rfl (wk_s (v' := V.v (.int .u64 (((regSet l) : Nat) : Int))) (by kernel_rfl) (vint (by (rw [andn_cov0]))) rfl (wk_s (v' := V.b (.a (.slv ds.length 3 (dsl ds)))) (by kernel_rfl) rfl rfl (wk_s (v' := V.v (.int .i64 ((ds.length : Nat) : Int))) (by kernel_rfl) rfl rfl (wk_s (v' := V.v (.int .i64 0)) (by kernel_rfl) (vint (by rfl)) rfl (wk_f rfl (wk_f rfl (wk_f rfl (wk_f rfl (wk_f rfl (wk_f rfl (wk_f rfl (wk_f rfl (wk_f rfl (wk_f rfl (wk_nil))))))))))))))))) ?_
  rintro k inv4
  replace inv4 : k ≤ ds.length ∧ parT (regSet l) ds k = true := inv4
  obtain ⟨inv4_0, inv4_1⟩ := inv4
  show Wp _ _ _ [(.s 1, some (.s (V.b (.a (.slv ds.length 3 (dsl ds)))))), (.s 5, some (.s (V.v (.int .u64 (((andn (regSet l) (covS (ds.take k))) : Nat) : Int))))), (.s 13, some (.s (V.b (.a (.slv ds.length 3 (dsl ds)))))), (.s 14, some (.s (V.v (.int .i64 ((ds.length : Nat) : Int))))), (.s 15, some (.s (V.v (.int .i64 ((k : Nat) : Int))))), (.o 2, some .free), (.o 7, some .free), (.o 9, some .free), (.o 12, some .free), (.o 14, some .free), (.o 21, some .free), (.o 26, some .free), (.o 29, some .free), (.o 42, some .free), (.o 48, some .free)]
  refine wp_seq' ?_
  refine wp_region_t ?_
  refine w1 (bn 16 (OpV.tmp 15 (.int .i64 ((k : Nat) : Int))) (OpV.tmp 14 (.int .i64 ((ds.length : Nat) : Int))) (r_lss (c := (decide (((k : Nat) : Int) < ((ds.length : Nat) : Int)))) rfl)) ?_
  refine wpl_nil ?_
  refine wp_seq' ?_
  refine wp_if (t := 16) (decide (((k : Nat) : Int) < ((ds.length : Nat) : Int))) (by kernel_rfl) (fun c5 => ?_) (fun c5 => ?_)
  ·skip
   have c5P := of_decide_eq_true c5
   refine wp_skip' ?_
   refine wp_seq' ?_
   refine wp_block' ?_
   refine wp_seq' ?_
   refine wp_region_t ?_
   refine w1 (mv 17 15 (V.v (.int .i64 ((k : Nat) : Int)))) ?_
   refine w1 (acts_index_v (d := 18) (x := 13) (n := ds.length) (s := 3) (k := k) (xs := dsl ds) (ltN rfl) qC3w_un_31 qC3w_sz_58 (OpV.tmp 15 (.int .i64 ((k : Nat) : Int))) rfl (by omega)) ?_
   refine w1 (acts_load_vs (d := 19) (t := 18) (s := 3) (off := (k * 3)) (xs := dsl ds)  (vs := [(.int .i64 ((gD ds k).x) : Value), .int .i64 ((gD ds k).y), .bool ((gD ds k).d)]) (ltN rfl) qC3w_ti_58 rfl (dsl_at (k := k) (by omega))) ?_
   refine w1 (acts_alloc' (d := 7) (h := 7) (cap := 1) (s := 3) (cells := [(.val (.int .i64 0) : A), .val (.int .i64 0), .val (.bool false)]) (ltN rfl) qC3w_zi_58 rfl rfl (by decide)) ?_
   refine w1 (asg 6 17 (V.v (.int .i64 ((k : Nat) : Int)))) ?_
   refine w1 (acts_store (t := 7) (h := 7) (off := 0) (o := ⟨58, 3, true, [(.val (.int .i64 0) : A), .val (.int .i64 0), .val (.bool false)]⟩) (b := .agg ([(.int .i64 ((gD ds k).x) : Value), .int .i64 ((gD ds k).y), .bool ((gD ds k).d)].map A.val)) (cells := [(.val (.int .i64 ((gD ds k).x)) : A), .val (.int .i64 ((gD ds k).y)), .val (.bool ((gD ds k).d))]) qC3w_ti_58 (OpX.tmp 19 (V.av [(.int .i64 ((gD ds k).x) : Value), .int .i64 ((gD ds k).y), .bool ((gD ds k).d)])) rfl (by decide) (by intro y hy; simp [B.cs] at hy; rcases hy with rfl | rfl | rfl <;> rfl) (Nat.le_of_ble_eq_true rfl) rfl) ?_
   refine wpl_nil ?_
   refine wp_seq' ?_
   refine wp_seq' ?_
   refine wp_join [(.s 45, some (.s (V.v (.bool ((!(okD (gD ds k))) || ((decide (((((andn (regSet l) (covS (ds.take k))) &&& (domS (gD ds k))) : Nat) : Int) ≠ (((domS (gD ds k)) : Nat) : Int))) || ((decide (0 < ((k : Nat) : Int))) && (!(bef (gD ds ((((k : Nat) : Int) - 1).toNat)) (gD ds k)))))))))), (.s 1, some (.s (V.b (.a (.slv ds.length 3 (dsl ds)))))), (.s 5, some (.s (V.v (.int .u64 (((andn (regSet l) (covS (ds.take k))) : Nat) : Int))))), (.s 7, some (.s (V.p 7 0))), (.s 13, some (.s (V.b (.a (.slv ds.length 3 (dsl ds)))))), (.s 14, some (.s (V.v (.int .i64 ((ds.length : Nat) : Int))))), (.s 15, some (.s (V.v (.int .i64 ((k : Nat) : Int))))), (.o 7, some (.o ⟨58, 3, true, [(.val (.int .i64 ((gD ds k).x)) : A), .val (.int .i64 ((gD ds k).y)), .val (.bool ((gD ds k).d))]⟩)), (.o 2, some .free), (.o 9, some .free), (.o 12, some .free), (.o 14, some .free), (.o 21, some .free), (.o 26, some .free), (.o 29, some .free), (.o 42, some .free), (.o 48, some .free)] ?_ ?_
   ·skip
    rcases Bool.eq_false_or_eq_true ((okD (gD ds k))) with c6 | c6
    ·skip
     rcases Bool.eq_false_or_eq_true (decide (((((andn (regSet l) (covS (ds.take k))) &&& (domS (gD ds k))) : Nat) : Int) ≠ (((domS (gD ds k)) : Nat) : Int))) with c7 | c7
     ·skip
      have c7P := of_decide_eq_true c7
      refine wp_drawn' (by kernel_rfl) (AllSteps.cons (step_plain rfl (acts_load_owns (d := 20) (t := 7) (h := 7) (off := 0) (o := ⟨58, 3, true, [(.val (.int .i64 ((gD ds k).x)) : A), .val (.int .i64 ((gD ds k).y)), .val (.bool ((gD ds k).d))]⟩)  (xs := [(.int .i64 ((gD ds k).x) : Value), .int .i64 ((gD ds k).y), .bool ((gD ds k).d)].map A.val) (ltN rfl) qC3w_ti_58 rfl (by decide) rfl)) (AllSteps.cons (step_plain rfl (acts_call1 (d := 21) (ltN rfl) (impl_DominoOk_fn (gD ds k) ) (ArgVs.cons (ArgV.va (vs := [(.int .i64 ((gD ds k).x) : Value), .int .i64 ((gD ds k).y), .bool ((gD ds k).d)]) (OpV.agg 20 [(.int .i64 ((gD ds k).x) : Value), .int .i64 ((gD ds k).y), .bool ((gD ds k).d)])) (ArgVs.nil)) ((resval (congrArg Value.bool c6))))) (AllSteps.cons (step_plain rfl (acts_un (d := 22) (ltN rfl) (OpV.tmp 21 (.bool true)) (r_not (c := false) rfl))) (AllSteps.cons (step_plain rfl (mv 23 22 (V.v (.bool false)))) (AllSteps.cons (step_on (dj := 23) rfl rfl (mv 24 5 (V.v (.int .u64 (((andn (regSet l) (covS (ds.take k))) : Nat) : Int))))) (AllSteps.cons (step_on (dj := 23) rfl rfl (acts_load_owns (d := 25) (t := 7) (h := 7) (off := 0) (o := ⟨58, 3, true, [(.val (.int .i64 ((gD ds k).x)) : A), .val (.int .i64 ((gD ds k).y)), .val (.bool ((gD ds k).d))]⟩)  (xs := [(.int .i64 ((gD ds k).x) : Value), .int .i64 ((gD ds k).y), .bool ((gD ds k).d)].map A.val) (ltN rfl) qC3w_ti_58 rfl (by decide) rfl)) (AllSteps.cons (step_on (dj := 23) rfl rfl (acts_call1 (d := 26) (ltN rfl) (impl_Domino__set_fn (gD ds k) (by omega)) (ArgVs.cons (ArgV.va (vs := [(.int .i64 ((gD ds k).x) : Value), .int .i64 ((gD ds k).y), .bool ((gD ds k).d)]) (OpV.agg 25 [(.int .i64 ((gD ds k).x) : Value), .int .i64 ((gD ds k).y), .bool ((gD ds k).d)])) (ArgVs.nil)) (ResV.val _))) (AllSteps.cons (step_on (dj := 23) rfl rfl (bn 27 (OpV.tmp 24 (.int .u64 (((andn (regSet l) (covS (ds.take k))) : Nat) : Int))) (OpV.tmp 26 (.int .u64 (((domS (gD ds k)) : Nat) : Int))) (r_and (c := ((((andn (regSet l) (covS (ds.take k))) &&& (domS (gD ds k))) : Nat) : Int)) (andU (m := (andn (regSet l) (covS (ds.take k)))) (n := (domS (gD ds k))) rfl rfl (by (first | omega | assumption | exact regSet_lt (by assumption) | exact domS_lt (by assumption) | exact andn_lt (regSet_lt (by assumption)))) (by (first | omega | assumption | exact regSet_lt (by assumption) | exact domS_lt (by assumption) | exact andn_lt (regSet_lt (by assumption)))))))) (AllSteps.cons (step_on (dj := 23) rfl rfl (acts_load_owns (d := 28) (t := 7) (h := 7) (off := 0) (o := ⟨58, 3, true, [(.val (.int .i64 ((gD ds k).x)) : A), .val (.int .i64 ((gD ds k).y)), .val (.bool ((gD ds k).d))]⟩)  (xs := [(.int .i64 ((gD ds k).x) : Value), .int .i64 ((gD ds k).y), .bool ((gD ds k).d)].map A.val) (ltN rfl) qC3w_ti_58 rfl (by decide) rfl)) (AllSteps.cons (step_on (dj := 23) rfl rfl (acts_call1 (d := 29) (ltN rfl) (impl_Domino__set_fn (gD ds k) (by omega)) (ArgVs.cons (ArgV.va (vs := [(.int .i64 ((gD ds k).x) : Value), .int .i64 ((gD ds k).y), .bool ((gD ds k).d)]) (OpV.agg 28 [(.int .i64 ((gD ds k).x) : Value), .int .i64 ((gD ds k).y), .bool ((gD ds k).d)])) (ArgVs.nil)) (ResV.val _))) (AllSteps.cons (step_on (dj := 23) rfl rfl (bn 30 (OpV.tmp 27 (.int .u64 ((((andn (regSet l) (covS (ds.take k))) &&& (domS (gD ds k))) : Nat) : Int))) (OpV.tmp 29 (.int .u64 (((domS (gD ds k)) : Nat) : Int))) (r_neq (c := true) c7))) (AllSteps.cons (step_plain rfl (acts_pick_f (d := 31) (ltN rfl) (OpV.tmp 23 (.bool false)) (OpX.tmp 30 (V.v (.bool true))))) (AllSteps.cons (step_plain rfl (mv 32 31 (V.v (.bool true)))) (AllSteps.cons (step_off (dj := 32) (b' := true) rfl rfl (by decide) rfl (ltN rfl)) (AllSteps.cons (step_off (dj := 32) (b' := true) rfl rfl (by decide) rfl (ltN rfl)) (AllSteps.cons (step_offu (dj := 32) (b' := true) rfl rfl (by decide) rfl (ltN rfl)) (AllSteps.cons (step_offx (dj := 35) rfl rfl rfl (ltN rfl)) (AllSteps.cons (step_offx (dj := 35) rfl rfl rfl (ltN rfl)) (AllSteps.cons (step_offx (dj := 35) rfl rfl rfl (ltN rfl)) (AllSteps.cons (step_offx (dj := 35) rfl rfl rfl (ltN rfl)) (AllSteps.cons (step_offx (dj := 35) rfl rfl rfl (ltN rfl)) (AllSteps.cons (step_offx (dj := 35) rfl rfl rfl (ltN rfl)) (AllSteps.cons (step_offx (dj := 35) rfl rfl rfl (ltN rfl)) (AllSteps.cons (step_offx (dj := 35) rfl rfl rfl (ltN rfl)) (AllSteps.cons (step_off (dj := 32) (b' := true) rfl rfl (by decide) rfl (ltN rfl)) (AllSteps.cons (step_plain rfl (acts_pick_t (d := 45) (ltN rfl) (OpV.tmp 32 (.bool true)) (OpX.const (.bool true)))) (AllSteps.nil))))))))))))))))))))))))))) (by kernel_rfl) (by kernel_rfl) (by kernel_rfl) ?_
      exact ⟨rfl, weak_reads ⟨(by simp only [c6, c7]; first | done | kernel_rfl), (by repeat (first | exact trivial | refine ⟨by kernel_rfl, ?_⟩))⟩⟩
     ·skip
      have c7P := of_decide_eq_false c7
      rcases Bool.eq_false_or_eq_true (decide (0 < ((k : Nat) : Int))) with c8 | c8
      ·skip
       have c8P := of_decide_eq_true c8
       refine wp_drawn' (by kernel_rfl) (AllSteps.cons (step_plain rfl (acts_load_owns (d := 20) (t := 7) (h := 7) (off := 0) (o := ⟨58, 3, true, [(.val (.int .i64 ((gD ds k).x)) : A), .val (.int .i64 ((gD ds k).y)), .val (.bool ((gD ds k).d))]⟩)  (xs := [(.int .i64 ((gD ds k).x) : Value), .int .i64 ((gD ds k).y), .bool ((gD ds k).d)].map A.val) (ltN rfl) qC3w_ti_58 rfl (by decide) rfl)) (AllSteps.cons (step_plain rfl (acts_call1 (d := 21) (ltN rfl) (impl_DominoOk_fn (gD ds k) ) (ArgVs.cons (ArgV.va (vs := [(.int .i64 ((gD ds k).x) : Value), .int .i64 ((gD ds k).y), .bool ((gD ds k).d)]) (OpV.agg 20 [(.int .i64 ((gD ds k).x) : Value), .int .i64 ((gD ds k).y), .bool ((gD ds k).d)])) (ArgVs.nil)) ((resval (congrArg Value.bool c6))))) (AllSteps.cons (step_plain rfl (acts_un (d := 22) (ltN rfl) (OpV.tmp 21 (.bool true)) (r_not (c := false) rfl))) (AllSteps.cons (step_plain rfl (mv 23 22 (V.v (.bool false)))) (AllSteps.cons (step_on (dj := 23) rfl rfl (mv 24 5 (V.v (.int .u64 (((andn (regSet l) (covS (ds.take k))) : Nat) : Int))))) (AllSteps.cons (step_on (dj := 23) rfl rfl (acts_load_owns (d := 25) (t := 7) (h := 7) (off := 0) (o := ⟨58, 3, true, [(.val (.int .i64 ((gD ds k).x)) : A), .val (.int .i64 ((gD ds k).y)), .val (.bool ((gD ds k).d))]⟩)  (xs := [(.int .i64 ((gD ds k).x) : Value), .int .i64 ((gD ds k).y), .bool ((gD ds k).d)].map A.val) (ltN rfl) qC3w_ti_58 rfl (by decide) rfl)) (AllSteps.cons (step_on (dj := 23) rfl rfl (acts_call1 (d := 26) (ltN rfl) (impl_Domino__set_fn (gD ds k) (by omega)) (ArgVs.cons (ArgV.va (vs := [(.int .i64 ((gD ds k).x) : Value), .int .i64 ((gD ds k).y), .bool ((gD ds k).d)]) (OpV.agg 25 [(.int .i64 ((gD ds k).x) : Value), .int .i64 ((gD ds k).y), .bool ((gD ds k).d)])) (ArgVs.nil)) (ResV.val _))) (AllSteps.cons (step_on (dj := 23) rfl rfl (bn 27 (OpV.tmp 24 (.int .u64 (((andn (regSet l) (covS (ds.take k))) : Nat) : Int))) (OpV.tmp 26 (.int .u64 (((domS (gD ds k)) : Nat) : Int))) (r_and (c := ((((andn (regSet l) (covS (ds.take k))) &&& (domS (gD ds k))) : Nat) : Int)) (andU (m := (andn (regSet l) (covS (ds.take k)))) (n := (domS (gD ds k))) rfl rfl (by (first | omega | assumption | exact regSet_lt (by assumption) | exact domS_lt (by assumption) | exact andn_lt (regSet_lt (by assumption)))) (by (first | omega | assumption | exact regSet_lt (by assumption) | exact domS_lt (by assumption) | exact andn_lt (regSet_lt (by assumption)))))))) (AllSteps.cons (step_on (dj := 23) rfl rfl (acts_load_owns (d := 28) (t := 7) (h := 7) (off := 0) (o := ⟨58, 3, true, [(.val (.int .i64 ((gD ds k).x)) : A), .val (.int .i64 ((gD ds k).y)), .val (.bool ((gD ds k).d))]⟩)  (xs := [(.int .i64 ((gD ds k).x) : Value), .int .i64 ((gD ds k).y), .bool ((gD ds k).d)].map A.val) (ltN rfl) qC3w_ti_58 rfl (by decide) rfl)) (AllSteps.cons (step_on (dj := 23) rfl rfl (acts_call1 (d := 29) (ltN rfl) (impl_Domino__set_fn (gD ds k) (by omega)) (ArgVs.cons (ArgV.va (vs := [(.int .i64 ((gD ds k).x) : Value), .int .i64 ((gD ds k).y), .bool ((gD ds k).d)]) (OpV.agg 28 [(.int .i64 ((gD ds k).x) : Value), .int .i64 ((gD ds k).y), .bool ((gD ds k).d)])) (ArgVs.nil)) (ResV.val _))) (AllSteps.cons (step_on (dj := 23) rfl rfl (bn 30 (OpV.tmp 27 (.int .u64 ((((andn (regSet l) (covS (ds.take k))) &&& (domS (gD ds k))) : Nat) : Int))) (OpV.tmp 29 (.int .u64 (((domS (gD ds k)) : Nat) : Int))) (r_neq (c := false) c7))) (AllSteps.cons (step_plain rfl (acts_pick_f (d := 31) (ltN rfl) (OpV.tmp 23 (.bool false)) (OpX.tmp 30 (V.v (.bool false))))) (AllSteps.cons (step_plain rfl (mv 32 31 (V.v (.bool false)))) (AllSteps.cons (step_on (dj := 32) rfl rfl (mv 33 6 (V.v (.int .i64 ((k : Nat) : Int))))) (AllSteps.cons (step_on (dj := 32) rfl rfl (bn 34 (OpV.tmp 33 (.int .i64 ((k : Nat) : Int))) (OpV.const (.int .i64 0)) (r_gtr (c := true) c8))) (AllSteps.cons (step_on (dj := 32) rfl rfl (mv 35 34 (V.v (.bool true)))) (AllSteps.cons (step_on (dj := 35) rfl rfl (mv 36 1 (V.b (.a (.slv ds.length 3 (dsl ds)))))) (AllSteps.cons (step_on (dj := 35) rfl rfl (mv 37 6 (V.v (.int .i64 ((k : Nat) : Int))))) (AllSteps.cons (step_on (dj := 35) rfl rfl (bn 38 (OpV.tmp 37 (.int .i64 ((k : Nat) : Int))) (OpV.const (.int .i64 1)) (r_sub (c := (((k : Nat) : Int) - 1)) (w64 (by omega) (by omega))))) (AllSteps.cons (step_on (dj := 35) rfl rfl (acts_index_v (d := 39) (x := 36) (n := ds.length) (s := 3) (k := ((((k : Nat) : Int) - 1).toNat)) (xs := dsl ds) (ltN rfl) qC3w_un_31 qC3w_sz_58 (OpV.tmp 38 (.int .i64 (((k : Nat) : Int) - 1))) (Int.toNat_of_nonneg (by omega)).symm (by omega))) (AllSteps.cons (step_on (dj := 35) rfl rfl (acts_load_vs (d := 40) (t := 39) (s := 3) (off := (((((k : Nat) : Int) - 1).toNat) * 3)) (xs := dsl ds)  (vs := [(.int .i64 ((gD ds ((((k : Nat) : Int) - 1).toNat)).x) : Value), .int .i64 ((gD ds ((((k : Nat) : Int) - 1).toNat)).y), .bool ((gD ds ((((k : Nat) : Int) - 1).toNat)).d)]) (ltN rfl) qC3w_ti_58 rfl (dsl_at (k := ((((k : Nat) : Int) - 1).toNat)) (by omega)))) (AllSteps.cons (step_on (dj := 35) rfl rfl (acts_load_owns (d := 41) (t := 7) (h := 7) (off := 0) (o := ⟨58, 3, true, [(.val (.int .i64 ((gD ds k).x)) : A), .val (.int .i64 ((gD ds k).y)), .val (.bool ((gD ds k).d))]⟩)  (xs := [(.int .i64 ((gD ds k).x) : Value), .int .i64 ((gD ds k).y), .bool ((gD ds k).d)].map A.val) (ltN rfl) qC3w_ti_58 rfl (by decide) rfl)) (AllSteps.cons (step_on (dj := 35) rfl rfl (acts_call1 (d := 42) (ltN rfl) (impl_IsDominoBefore_fn (gD ds ((((k : Nat) : Int) - 1).toNat)) (gD ds k) ) (ArgVs.cons (ArgV.va (vs := [(.int .i64 ((gD ds ((((k : Nat) : Int) - 1).toNat)).x) : Value), .int .i64 ((gD ds ((((k : Nat) : Int) - 1).toNat)).y), .bool ((gD ds ((((k : Nat) : Int) - 1).toNat)).d)]) (OpV.agg 40 [(.int .i64 ((gD ds ((((k : Nat) : Int) - 1).toNat)).x) : Value), .int .i64 ((gD ds ((((k : Nat) : Int) - 1).toNat)).y), .bool ((gD ds ((((k : Nat) : Int) - 1).toNat)).d)])) (ArgVs.cons (ArgV.va (vs := [(.int .i64 ((gD ds k).x) : Value), .int .i64 ((gD ds k).y), .bool ((gD ds k).d)]) (OpV.agg 41 [(.int .i64 ((gD ds k).x) : Value), .int .i64 ((gD ds k).y), .bool ((gD ds k).d)])) (ArgVs.nil))) (ResV.val _))) (AllSteps.cons (step_on (dj := 35) rfl rfl (acts_un (d := 43) (ltN rfl) (OpV.tmp 42 (.bool (bef (gD ds ((((k : Nat) : Int) - 1).toNat)) (gD ds k)))) (r_not (c := (!(bef (gD ds ((((k : Nat) : Int) - 1).toNat)) (gD ds k)))) rfl))) (AllSteps.cons (step_on (dj := 32) rfl rfl (acts_pick_t (d := 44) (ltN rfl) (OpV.tmp 35 (.bool true)) (OpX.tmp 43 (V.v (.bool (!(bef (gD ds ((((k : Nat) : Int) - 1).toNat)) (gD ds k)))))))) (AllSteps.cons (step_plain rfl (acts_pick_f (d := 45) (ltN rfl) (OpV.tmp 32 (.bool false)) (OpX.tmp 44 (V.v (.bool (!(bef (gD ds ((((k : Nat) : Int) - 1).toNat)) (gD ds k)))))))) (AllSteps.nil))))))))))))))))))))))))))) (by kernel_rfl) (by kernel_rfl) (by kernel_rfl) ?_
       exact ⟨rfl, weak_reads ⟨(by simp only [c6, c7, c8]; first | done | kernel_rfl), (by repeat (first | exact trivial | refine ⟨by kernel_rfl, ?_⟩))⟩⟩
      ·skip
       have c8P := of_decide_eq_false c8
       refine wp_drawn' (by kernel_rfl) (AllSteps.cons (step_plain rfl (acts_load_owns (d := 20) (t := 7) (h := 7) (off := 0) (o := ⟨58, 3, true, [(.val (.int .i64 ((gD ds k).x)) : A), .val (.int .i64 ((gD ds k).y)), .val (.bool ((gD ds k).d))]⟩)  (xs := [(.int .i64 ((gD ds k).x) : Value), .int .i64 ((gD ds k).y), .bool ((gD ds k).d)].map A.val) (ltN rfl) qC3w_ti_58 rfl (by decide) rfl)) (AllSteps.cons (step_plain rfl (acts_call1 (d := 21) (ltN rfl) (impl_DominoOk_fn (gD ds k) ) (ArgVs.cons (ArgV.va (vs := [(.int .i64 ((gD ds k).x) : Value), .int .i64 ((gD ds k).y), .bool ((gD ds k).d)]) (OpV.agg 20 [(.int .i64 ((gD ds k).x) : Value), .int .i64 ((gD ds k).y), .bool ((gD ds k).d)])) (ArgVs.nil)) ((resval (congrArg Value.bool c6))))) (AllSteps.cons (step_plain rfl (acts_un (d := 22) (ltN rfl) (OpV.tmp 21 (.bool true)) (r_not (c := false) rfl))) (AllSteps.cons (step_plain rfl (mv 23 22 (V.v (.bool false)))) (AllSteps.cons (step_on (dj := 23) rfl rfl (mv 24 5 (V.v (.int .u64 (((andn (regSet l) (covS (ds.take k))) : Nat) : Int))))) (AllSteps.cons (step_on (dj := 23) rfl rfl (acts_load_owns (d := 25) (t := 7) (h := 7) (off := 0) (o := ⟨58, 3, true, [(.val (.int .i64 ((gD ds k).x)) : A), .val (.int .i64 ((gD ds k).y)), .val (.bool ((gD ds k).d))]⟩)  (xs := [(.int .i64 ((gD ds k).x) : Value), .int .i64 ((gD ds k).y), .bool ((gD ds k).d)].map A.val) (ltN rfl) qC3w_ti_58 rfl (by decide) rfl)) (AllSteps.cons (step_on (dj := 23) rfl rfl (acts_call1 (d := 26) (ltN rfl) (impl_Domino__set_fn (gD ds k) (by omega)) (ArgVs.cons (ArgV.va (vs := [(.int .i64 ((gD ds k).x) : Value), .int .i64 ((gD ds k).y), .bool ((gD ds k).d)]) (OpV.agg 25 [(.int .i64 ((gD ds k).x) : Value), .int .i64 ((gD ds k).y), .bool ((gD ds k).d)])) (ArgVs.nil)) (ResV.val _))) (AllSteps.cons (step_on (dj := 23) rfl rfl (bn 27 (OpV.tmp 24 (.int .u64 (((andn (regSet l) (covS (ds.take k))) : Nat) : Int))) (OpV.tmp 26 (.int .u64 (((domS (gD ds k)) : Nat) : Int))) (r_and (c := ((((andn (regSet l) (covS (ds.take k))) &&& (domS (gD ds k))) : Nat) : Int)) (andU (m := (andn (regSet l) (covS (ds.take k)))) (n := (domS (gD ds k))) rfl rfl (by (first | omega | assumption | exact regSet_lt (by assumption) | exact domS_lt (by assumption) | exact andn_lt (regSet_lt (by assumption)))) (by (first | omega | assumption | exact regSet_lt (by assumption) | exact domS_lt (by assumption) | exact andn_lt (regSet_lt (by assumption)))))))) (AllSteps.cons (step_on (dj := 23) rfl rfl (acts_load_owns (d := 28) (t := 7) (h := 7) (off := 0) (o := ⟨58, 3, true, [(.val (.int .i64 ((gD ds k).x)) : A), .val (.int .i64 ((gD ds k).y)), .val (.bool ((gD ds k).d))]⟩)  (xs := [(.int .i64 ((gD ds k).x) : Value), .int .i64 ((gD ds k).y), .bool ((gD ds k).d)].map A.val) (ltN rfl) qC3w_ti_58 rfl (by decide) rfl)) (AllSteps.cons (step_on (dj := 23) rfl rfl (acts_call1 (d := 29) (ltN rfl) (impl_Domino__set_fn (gD ds k) (by omega)) (ArgVs.cons (ArgV.va (vs := [(.int .i64 ((gD ds k).x) : Value), .int .i64 ((gD ds k).y), .bool ((gD ds k).d)]) (OpV.agg 28 [(.int .i64 ((gD ds k).x) : Value), .int .i64 ((gD ds k).y), .bool ((gD ds k).d)])) (ArgVs.nil)) (ResV.val _))) (AllSteps.cons (step_on (dj := 23) rfl rfl (bn 30 (OpV.tmp 27 (.int .u64 ((((andn (regSet l) (covS (ds.take k))) &&& (domS (gD ds k))) : Nat) : Int))) (OpV.tmp 29 (.int .u64 (((domS (gD ds k)) : Nat) : Int))) (r_neq (c := false) c7))) (AllSteps.cons (step_plain rfl (acts_pick_f (d := 31) (ltN rfl) (OpV.tmp 23 (.bool false)) (OpX.tmp 30 (V.v (.bool false))))) (AllSteps.cons (step_plain rfl (mv 32 31 (V.v (.bool false)))) (AllSteps.cons (step_on (dj := 32) rfl rfl (mv 33 6 (V.v (.int .i64 ((k : Nat) : Int))))) (AllSteps.cons (step_on (dj := 32) rfl rfl (bn 34 (OpV.tmp 33 (.int .i64 ((k : Nat) : Int))) (OpV.const (.int .i64 0)) (r_gtr (c := false) c8))) (AllSteps.cons (step_on (dj := 32) rfl rfl (mv 35 34 (V.v (.bool false)))) (AllSteps.cons (step_off (dj := 35) (b' := false) rfl rfl (by decide) rfl (ltN rfl)) (AllSteps.cons (step_off (dj := 35) (b' := false) rfl rfl (by decide) rfl (ltN rfl)) (AllSteps.cons (step_off (dj := 35) (b' := false) rfl rfl (by decide) rfl (ltN rfl)) (AllSteps.cons (step_off (dj := 35) (b' := false) rfl rfl (by decide) rfl (ltN rfl)) (AllSteps.cons (step_off (dj := 35) (b' := false) rfl rfl (by decide) rfl (ltN rfl)) (AllSteps.cons (step_off (dj := 35) (b' := false) rfl rfl (by decide) rfl (ltN rfl)) (AllSteps.cons (step_off (dj := 35) (b' := false) rfl rfl (by decide) rfl (ltN rfl)) (AllSteps.cons (step_off (dj := 35) (b' := false) rfl rfl (by decide) rfl (ltN rfl)) (AllSteps.cons (step_on (dj := 32) rfl rfl (acts_pick_f (d := 44) (ltN rfl) (OpV.tmp 35 (.bool false)) (OpX.const (.bool false)))) (AllSteps.cons (step_plain rfl (acts_pick_f (d := 45) (ltN rfl) (OpV.tmp 32 (.bool false)) (OpX.tmp 44 (V.v (.bool false))))) (AllSteps.nil))))))))))))))))))))))))))) (by kernel_rfl) (by kernel_rfl) (by kernel_rfl) ?_
       exact ⟨rfl, weak_reads ⟨(by simp only [c6, c7, c8]; first | done | kernel_rfl), (by repeat (first | exact trivial | refine ⟨by kernel_rfl, ?_⟩))⟩⟩
    ·skip
     refine wp_drawn' (by kernel_rfl) (AllSteps.cons (step_plain rfl (acts_load_owns (d := 20) (t := 7) (h := 7) (off := 0) (o := ⟨58, 3, true, [(.val (.int .i64 ((gD ds k).x)) : A), .val (.int .i64 ((gD ds k).y)), .val (.bool ((gD ds k).d))]⟩)  (xs := [(.int .i64 ((gD ds k).x) : Value), .int .i64 ((gD ds k).y), .bool ((gD ds k).d)].map A.val) (ltN rfl) qC3w_ti_58 rfl (by decide) rfl)) (AllSteps.cons (step_plain rfl (acts_call1 (d := 21) (ltN rfl) (impl_DominoOk_fn (gD ds k) ) (ArgVs.cons (ArgV.va (vs := [(.int .i64 ((gD ds k).x) : Value), .int .i64 ((gD ds k).y), .bool ((gD ds k).d)]) (OpV.agg 20 [(.int .i64 ((gD ds k).x) : Value), .int .i64 ((gD ds k).y), .bool ((gD ds k).d)])) (ArgVs.nil)) ((resval (congrArg Value.bool c6))))) (AllSteps.cons (step_plain rfl (acts_un (d := 22) (ltN rfl) (OpV.tmp 21 (.bool false)) (r_not (c := true) rfl))) (AllSteps.cons (step_plain rfl (mv 23 22 (V.v (.bool true)))) (AllSteps.cons (step_off (dj := 23) (b' := true) rfl rfl (by decide) rfl (ltN rfl)) (AllSteps.cons (step_off (dj := 23) (b' := true) rfl rfl (by decide) rfl (ltN rfl)) (AllSteps.cons (step_off (dj := 23) (b' := true) rfl rfl (by decide) rfl (ltN rfl)) (AllSteps.cons (step_off (dj := 23) (b' := true) rfl rfl (by decide) rfl (ltN rfl)) (AllSteps.cons (step_off (dj := 23) (b' := true) rfl rfl (by decide) rfl (ltN rfl)) (AllSteps.cons (step_off (dj := 23) (b' := true) rfl rfl (by decide) rfl (ltN rfl)) (AllSteps.cons (step_off (dj := 23) (b' := true) rfl rfl (by decide) rfl (ltN rfl)) (AllSteps.cons (step_plain rfl (acts_pick_t (d := 31) (ltN rfl) (OpV.tmp 23 (.bool true)) (OpX.const (.bool true)))) (AllSteps.cons (step_plain rfl (mv 32 31 (V.v (.bool true)))) (AllSteps.cons (step_off (dj := 32) (b' := true) rfl rfl (by decide) rfl (ltN rfl)) (AllSteps.cons (step_off (dj := 32) (b' := true) rfl rfl (by decide) rfl (ltN rfl)) (AllSteps.cons (step_offu (dj := 32) (b' := true) rfl rfl (by decide) rfl (ltN rfl)) (AllSteps.cons (step_offx (dj := 35) rfl rfl rfl (ltN rfl)) (AllSteps.cons (step_offx (dj := 35) rfl rfl rfl (ltN rfl)) (AllSteps.cons (step_offx (dj := 35) rfl rfl rfl (ltN rfl)) (AllSteps.cons (step_offx (dj := 35) rfl rfl rfl (ltN rfl)) (AllSteps.cons (step_offx (dj := 35) rfl rfl rfl (ltN rfl)) (AllSteps.cons (step_offx (dj := 35) rfl rfl rfl (ltN rfl)) (AllSteps.cons (step_offx (dj := 35) rfl rfl rfl (ltN rfl)) (AllSteps.cons (step_offx (dj := 35) rfl rfl rfl (ltN rfl)) (AllSteps.cons (step_off (dj := 32) (b' := true) rfl rfl (by decide) rfl (ltN rfl)) (AllSteps.cons (step_plain rfl (acts_pick_t (d := 45) (ltN rfl) (OpV.tmp 32 (.bool true)) (OpX.const (.bool true)))) (AllSteps.nil))))))))))))))))))))))))))) (by kernel_rfl) (by kernel_rfl) (by kernel_rfl) ?_
     exact ⟨rfl, weak_reads ⟨(by simp only [c6]; first | done | kernel_rfl), (by repeat (first | exact trivial | refine ⟨by kernel_rfl, ?_⟩))⟩⟩
   refine wp_if (t := 45) (((!(okD (gD ds k))) || ((decide (((((andn (regSet l) (covS (ds.take k))) &&& (domS (gD ds k))) : Nat) : Int) ≠ (((domS (gD ds k)) : Nat) : Int))) || ((decide (0 < ((k : Nat) : Int))) && (!(bef (gD ds ((((k : Nat) : Int) - 1).toNat)) (gD ds k))))))) (by kernel_rfl) (fun c9 => ?_) (fun c9 => ?_)
   ·skip
    have c10 := or_tt c9
    refine wp_seq' ?_
    refine wp_region_t ?_
    refine w1 (acts_assign (d := 4) (ltN rfl) (OpX.const (.bool false))) ?_
    refine wpl_nil ?_
    refine wp_ret' ?_
    exact VRes.tmp 4 (.a (.val (.bool false))) _ (by kernel_rfl) (bval (congrArg Value.bool (by exact (im_ex (k := k) (by omega) (by assumption)).symm)))
   ·skip
    obtain ⟨c11, c12⟩ := or_ff c9
    have c13 : (okD (gD ds k)) = true := by first | simpa using c11 | (rw [← Bool.not_eq_false']; exact c11)
    obtain ⟨c14, c15⟩ := or_ff c12
    have c14P := of_decide_eq_false c14
    have c16 := and_ff c15
    refine wp_skip' ?_
    refine wp_region_t ?_
    refine w1 (mv 46 5 (V.v (.int .u64 (((andn (regSet l) (covS (ds.take k))) : Nat) : Int)))) ?_
    refine w1 (acts_load_owns (d := 47) (t := 7) (h := 7) (off := 0) (o := ⟨58, 3, true, [(.val (.int .i64 ((gD ds k).x)) : A), .val (.int .i64 ((gD ds k).y)), .val (.bool ((gD ds k).d))]⟩)  (xs := [(.int .i64 ((gD ds k).x) : Value), .int .i64 ((gD ds k).y), .bool ((gD ds k).d)].map A.val) (ltN rfl) qC3w_ti_58 rfl (by decide) rfl) ?_
    refine w1 (acts_call1 (d := 48) (ltN rfl) (impl_Domino__set_fn (gD ds k) (by omega)) (ArgVs.cons (ArgV.va (vs := [(.int .i64 ((gD ds k).x) : Value), .int .i64 ((gD ds k).y), .bool ((gD ds k).d)]) (OpV.agg 47 [(.int .i64 ((gD ds k).x) : Value), .int .i64 ((gD ds k).y), .bool ((gD ds k).d)])) (ArgVs.nil)) (ResV.val _)) ?_
    refine w1 (bn 49 (OpV.tmp 46 (.int .u64 (((andn (regSet l) (covS (ds.take k))) : Nat) : Int))) (OpV.tmp 48 (.int .u64 (((domS (gD ds k)) : Nat) : Int))) (r_andNot (c := (((andn (andn (regSet l) (covS (ds.take k))) (domS (gD ds k))) : Nat) : Int)) (andnU (m := (andn (regSet l) (covS (ds.take k)))) (n := (domS (gD ds k))) rfl rfl (by (first | omega | assumption | exact regSet_lt (by assumption) | exact domS_lt (by assumption) | exact andn_lt (regSet_lt (by assumption)))) (by (first | omega | assumption | exact regSet_lt (by assumption) | exact domS_lt (by assumption) | exact andn_lt (regSet_lt (by assumption))))))) ?_
    refine w1 (asg 5 49 (V.v (.int .u64 (((andn (andn (regSet l) (covS (ds.take k))) (domS (gD ds k))) : Nat) : Int)))) ?_
    refine wpl_nil ?_
    refine wp_region_t ?_
    refine w1 (bn 50 (OpV.tmp 15 (.int .i64 ((k : Nat) : Int))) (OpV.const (.int .i64 1)) (r_add (c := (((k : Nat) : Int) + 1)) (w64 (by omega) (by omega)))) ?_
    refine w1 (mv 15 50 (V.v (.int .i64 (((k : Nat) : Int) + 1)))) ?_
    refine wpl_nil ?_
    exact loop_back ((k + 1)) (by refine ⟨by omega, parT_snoc (by assumption) ?_⟩; unfold stepOk fits; simp_all [natI]; (try omega)) (by show ds.length - (k + 1) < ds.length - k; omega) (weak_of id [2, 7, 9, 12, 14, 21, 26, 29, 42, 48] (by kernel_rfl) (wk_s (v' := V.b (.a (.slv ds.length 3 (dsl ds)))) (by kernel_rfl) rfl rfl (wk_s (v' := V.v (.int .u64 (((andn (andn (regSet l) (covS (ds.take k))) (domS (gD ds k))) : Nat) : Int))) (by kernel_rfl) (vint (by (rw [covS_yes (by omega) (by assumption), andn_or]))) rfl (wk_s (v' := V.b (.a (.slv ds.length 3 (dsl ds)))) (by kernel_rfl) rfl rfl (wk_s (v' := V.v (.int .i64 ((ds.length : Nat) : Int))) (by kernel_rfl) rfl rfl (wk_s (v' := V.v (.int .i64 (((k : Nat) : Int) + 1))) (by kernel_rfl) (vint (by rfl)) rfl (wk_f rfl (wk_f rfl (wk_f rfl (wk_f rfl (wk_f rfl (wk_f rfl (wk_f rfl (wk_f rfl (wk_f rfl (wk_f rfl (wk_nil)))))))))))))))))
  ·skip
   have c5P := of_decide_eq_false c5
   refine wp_exit' ?_
   refine wp_seq' ?_
   refine wp_region_t ?_
   refine w1 (acts_assign (d := 4) (ltN rfl) (OpX.const (.bool true))) ?_
   refine wpl_nil ?_
   refine wp_ret' ?_
   exact VRes.tmp 4 (.a (.val (.bool true))) _ (by kernel_rfl) (bval (congrArg Value.bool (by exact (isPar_yes (by omega) (by omega) (by assumption) (by assumption)).symm)))

set_option maxHeartbeats 4000000 in
set_option maxRecDepth 100000 in
theorem spec_IsPartial_fn (l : List Int) (ds : List Dom) (hl : l.length ≤ 4194304) (hd : ds.length ≤ 2097152) : Fn Try.prog 72 [.agg [(.slv l.length 1 (isl l) : A)], .a (.slv ds.length 3 (dsl ds))] [.val (.bool (isPar l ds))] := by
 refine fn_intro (N := 81) Try.func72 rfl (by kernel_rfl) rfl (Nat.le_of_ble_eq_true rfl) [2, 7, 8, 9, 12, 20, 35, 44, 49, 54, 60, 67, 73, 77, 80] (ret1 rfl) (fun W => ?_)
 show Wp _ _ _ [(.s 0, some (.s (V.b (.agg [(.slv l.length 1 (isl l) : A)])))), (.s 1, some (.s (V.b (.a (.slv ds.length 3 (dsl ds)))))), (.o 2, some .free), (.o 7, some .free), (.o 8, some .free), (.o 9, some .free), (.o 12, some .free), (.o 20, some .free), (.o 35, some .free), (.o 44, some .free), (.o 49, some .free), (.o 54, some .free), (.o 60, some .free), (.o 67, some .free), (.o 73, some .free), (.o 77, some .free), (.o 80, some .free)]
 refine wp_seq' ?_
 refine wp_region_t ?_
 refine w1 (acts_box (d := 2) (h := 2) (b := .agg [(.slv l.length 1 (isl l) : A)]) (ltN rfl) (OpX.tmp 0 (V.b (.agg [(.slv l.length 1 (isl l) : A)]))) (by intro y hy; simp [B.cs] at hy; subst hy; rfl)) ?_
 refine w1 (acts_assign (d := 4) (ltN rfl) (OpX.const (.bool false))) ?_
 refine wpl_nil ?_
 refine wp_seq' ?_
 refine wp_region_t ?_
 refine w1 (acts_make' (d := 9) (h := 9) (n := 64) (s := 1) (xs := bsl (List.replicate 64 false)) (ltN rfl) qC3w_un_94 qC3w_zi_4 (OpV.const (.int .i64 64)) (OpV.const (.int .i64 64)) rfl rfl (by decide) (by omega) (made_bools 64)) ?_
 refine w1 (asg 5 9 (V.b (.a (.sl 9 0 64)))) ?_
 refine wpl_nil ?_
 refine wp_seq' ?_
 refine wp_seq' ?_
 refine wp_region_t ?_
 refine w1 (acts_assign (d := 6) (ltN rfl) (OpX.const (.int .i64 0))) ?_
 refine wpl_nil ?_
 refine wp_block' ?_
 refine wp_loop' (fun (k : Nat) => k ≤ ds.length ∧ (k = 0 ∨ regOk l = true) ∧ parT (regSet l) ds k = true) (fun (k : Nat) => [(.s 1, some (.s (V.b (.a (.slv ds.length 3 (dsl ds)))))), (.s 2, some (.s (V.p 2 0))), (.s 5, some (.s (V.b (.a (.sl 9 0 ((bitsL (covS (ds.take k))).length)))))), (.s 6, some (.s (V.v (.int .i64 ((k : Nat) : Int))))), (.o 2, some (.o ⟨29, 1, true, [(.slv l.length 1 (isl l) : A)]⟩)), (.o 9, some (.o ⟨4, 1, true, pl (bsl (bitsL (covS (ds.take k))))⟩)), (.o 7, some .free), (.o 8, some .free), (.o 12, some .free), (.o 20, some .free), (.o 35, some .free), (.o 44, some .free), (.o 49, some .free), (.o 54, some .free), (.o 60, some .free), (.o 67, some .free), (.o 73, some .free), (.o 77, some .free), (.o 80, some .free)]) (fun (k : Nat) => ds.length - k) ((0 : Nat)) (by exact ⟨Nat.zero_le _, .inl rfl, parT_zero _ _⟩) (weak_of id [7, 8, 12, 20, 35, 44, 49, 54, 60, 67, 73, 77, 80] (by kernel_rfl) (wk_s (v' := V.b (.a (.slv ds.length 3 (dsl ds)))) (by kernel_rfl) rfl rfl (wk_s (v' := V.p 2 0) (by kernel_rfl) rfl rfl (wk_s (v' := V.b (.a (.sl 9 0 64))) (by kernel_rfl) (vsl (by rfl) rfl) rfl (wk_s (v' := V.v (.int .i64 0)) (by kernel_rfl) (vint (by rfl)) rfl (wk_o (o' := ⟨29, 1, true, [(.slv l.length 1 (isl l) : A)]⟩) (by kernel_rfl) (renob_l (fun h => h) rfl rfl) rfl (wk_o (o' := ⟨4, 1, true, pl (bsl (List.replicate 64 false))⟩) (by kernel_rfl) (renob_eq (fun h => h) (congrArg bsl (by exact (bits_cov0 _).symm))) rfl (wk_f rfl (wk_f rfl (wk_f rfl (wk_f rfl (wk_f rfl (wk_f rfl (wk_f rfl (wk_f rfl (wk_f rfl (wk_f rfl (wk_f rfl (wk_f rfl (wk_f rfl (wk_nil))))))))))))))))))))) ?_
 rintro k inv1
 replace inv1 : k ≤ ds.length ∧ (k = 0 ∨ regOk l = true) ∧ parT (regSet l) ds k = true := inv1
 obtain ⟨inv1_0, inv1_1, inv1_2⟩ := inv1
 show Wp _ _ _ [(.s 1, some (.s (V.b (.a (.slv ds.length 3 (dsl ds)))))), (.s 2, some (.s (V.p 2 0))), (.s 5, some (.s (V.b (.a (.sl 9 0 ((bitsL (covS (ds.take k))).length)))))), (.s 6, some (.s (V.v (.int .i64 ((k : Nat) : Int))))), (.o 2, some (.o ⟨29, 1, true, [(.slv l.length 1 (isl l) : A)]⟩)), (.o 9, some (.o ⟨4, 1, true, pl (bsl (bitsL (covS (ds.take k))))⟩)), (.o 7, some .free), (.o 8, some .free), (.o 12, some .free), (.o 20, some .free), (.o 35, some .free), (.o 44, some .free), (.o 49, some .free), (.o 54, some .free), (.o 60, some .free), (.o 67, some .free), (.o 73, some .free), (.o 77, some .free), (.o 80, some .free)]
 refine wp_seq' ?_
 refine wp_seq' ?_
 refine wp_region_t ?_
 refine w1 (mv 10 6 (V.v (.int .i64 ((k : Nat) : Int)))) ?_
 refine w1 (mv 11 1 (V.b (.a (.slv ds.length 3 (dsl ds))))) ?_
 refine w1 (acts_len (d := 12) (X := .slv ds.length 3 (dsl ds)) (n := ds.length) (iv := ((ds.length : Nat) : Int)) (ltN rfl) qC3w_un_31 (OpX.tmp 11 (V.b (.a (.slv ds.length 3 (dsl ds))))) (LenOf.slv _ _ _) rfl) ?_
 refine w1 (bn 13 (OpV.tmp 10 (.int .i64 ((k : Nat) : Int))) (OpV.tmp 12 (.int .i64 ((ds.length : Nat) : Int))) (r_lss (c := (decide (((k : Nat) : Int) < ((ds.length : Nat) : Int)))) rfl)) ?_
 refine wpl_nil ?_
 refine wp_if (t := 13) (decide (((k : Nat) : Int) < ((ds.length : Nat) : Int))) (by kernel_rfl) (fun c2 => ?_) (fun c2 => ?_)
 ·skip
  have c2P := of_decide_eq_true c2
  refine wp_skip' ?_
  refine wp_seq' ?_
  refine wp_block' ?_
  refine wp_seq' ?_
  refine wp_seq' ?_
  refine wp_join [(.s 38, some (.s (V.v (.bool ((!(okD (gD ds k))) || ((decide (0 < ((k : Nat) : Int))) && (!(bef (gD ds ((((k : Nat) : Int) - 1).toNat)) (gD ds k))))))))), (.s 1, some (.s (V.b (.a (.slv ds.length 3 (dsl ds)))))), (.s 2, some (.s (V.p 2 0))), (.s 5, some (.s (V.b (.a (.sl 9 0 ((bitsL (covS (ds.take k))).length)))))), (.s 6, some (.s (V.v (.int .i64 ((k : Nat) : Int))))), (.o 2, some (.o ⟨29, 1, true, [(.slv l.length 1 (isl l) : A)]⟩)), (.o 9, some (.o ⟨4, 1, true, pl (bsl (bitsL (covS (ds.take k))))⟩)), (.o 7, some .free), (.o 8, some .free), (.o 12, some .free), (.o 20, some .free), (.o 35, some .free), (.o 44, some .free), (.o 49, some .free), (.o 54, some .free), (.o 60, some .free), (.o 67, some .free), (.o 73, some .free), (.o 77, some .free), (.o 80, some .free)] ?_ ?_
  ·skip
   rcases Bool.eq_false_or_eq_true ((okD (gD ds k))) with c3 | c3
   ·skip
    rcases Bool.eq_false_or_eq_true (decide (0 < ((k : Nat) : Int))) with c4 | c4
    ·skip
     have c4P := of_decide_eq_true c4
     refine wp_drawn' (by kernel_rfl) (AllSteps.cons (step_plain rfl (mv 16 1 (V.b (.a (.slv ds.length 3 (dsl ds)))))) (AllSteps.cons (step_plain rfl (mv 17 6 (V.v (.int .i64 ((k : Nat) : Int))))) (AllSteps.cons (step_plain rfl (acts_index_v (d := 18) (x := 16) (n := ds.length) (s := 3) (k := k) (xs := dsl ds) (ltN rfl) qC3w_un_31 qC3w_sz_58 (OpV.tmp 17 (.int .i64 ((k : Nat) : Int))) rfl (by omega))) (AllSteps.cons (step_plain rfl (acts_load_vs (d := 19) (t := 18) (s := 3) (off := (k * 3)) (xs := dsl ds)  (vs := [(.int .i64 ((gD ds k).x) : Value), .int .i64 ((gD ds k).y), .bool ((gD ds k).d)]) (ltN rfl) qC3w_ti_58 rfl (dsl_at (k := k) (by omega)))) (AllSteps.cons (step_plain rfl (acts_call1 (d := 20) (ltN rfl) (spec_DominoOk_fn (gD ds k) ) (ArgVs.cons (ArgV.va (vs := [(.int .i64 ((gD ds k).x) : Value), .int .i64 ((gD ds k).y), .bool ((gD ds k).d)]) (OpV.agg 19 [(.int .i64 ((gD ds k).x) : Value), .int .i64 ((gD ds k).y), .bool ((gD ds k).d)])) (ArgVs.nil)) ((resval (congrArg Value.bool c3))))) (AllSteps.cons (step_plain rfl (acts_un (d := 21) (ltN rfl) (OpV.tmp 20 (.bool true)) (r_not (c := false) rfl))) (AllSteps.cons (step_plain rfl (mv 22 21 (V.v (.bool false)))) (AllSteps.cons (step_on (dj := 22) rfl rfl (mv 23 6 (V.v (.int .i64 ((k : Nat) : Int))))) (AllSteps.cons (step_on (dj := 22) rfl rfl (bn 24 (OpV.tmp 23 (.int .i64 ((k : Nat) : Int))) (OpV.const (.int .i64 0)) (r_gtr (c := true) c4))) (AllSteps.cons (step_on (dj := 22) rfl rfl (mv 25 24 (V.v (.bool true)))) (AllSteps.cons (step_on (dj := 25) rfl rfl (mv 26 1 (V.b (.a (.slv ds.length 3 (dsl ds)))))) (AllSteps.cons (step_on (dj := 25) rfl rfl (mv 27 6 (V.v (.int .i64 ((k : Nat) : Int))))) (AllSteps.cons (step_on (dj := 25) rfl rfl (bn 28 (OpV.tmp 27 (.int .i64 ((k : Nat) : Int))) (OpV.const (.int .i64 1)) (r_sub (c := (((k : Nat) : Int) - 1)) (w64 (by omega) (by omega))))) (AllSteps.cons (step_on (dj := 25) rfl rfl (acts_index_v (d := 29) (x := 26) (n := ds.length) (s := 3) (k := ((((k : Nat) : Int) - 1).toNat)) (xs := dsl ds) (ltN rfl) qC3w_un_31 qC3w_sz_58 (OpV.tmp 28 (.int .i64 (((k : Nat) : Int) - 1))) (Int.toNat_of_nonneg (by omega)).symm (by omega))) (AllSteps.cons (step_on (dj := 25) rfl rfl (acts_load_vs (d := 30) (t := 29) (s := 3) (off := (((((k : Nat) : Int) - 1).toNat) * 3)) (xs := dsl ds)  (vs := [(.int .i64 ((gD ds ((((k : Nat) : Int) - 1).toNat)).x) : Value), .int .i64 ((gD ds ((((k : Nat) : Int) - 1).toNat)).y), .bool ((gD ds ((((k : Nat) : Int) - 1).toNat)).d)]) (ltN rfl) qC3w_ti_58 rfl (dsl_at (k := ((((k : Nat) : Int) - 1).toNat)) (by omega)))) (AllSteps.cons (step_on (dj := 25) rfl rfl (mv 31 1 (V.b (.a (.slv ds.length 3 (dsl ds)))))) (AllSteps.cons (step_on (dj := 25) rfl rfl (mv 32 6 (V.v (.int .i64 ((k : Nat) : Int))))) (AllSteps.cons (step_on (dj := 25) rfl rfl (acts_index_v (d := 33) (x := 31) (n := ds.length) (s := 3) (k := k) (xs := dsl ds) (ltN rfl) qC3w_un_31 qC3w_sz_58 (OpV.tmp 32 (.int .i64 ((k : Nat) : Int))) rfl (by omega))) (AllSteps.cons (step_on (dj := 25) rfl rfl (acts_load_vs (d := 34) (t := 33) (s := 3) (off := (k * 3)) (xs := dsl ds)  (vs := [(.int .i64 ((gD ds k).x) : Value), .int .i64 ((gD ds k).y), .bool ((gD ds k).d)]) (ltN rfl) qC3w_ti_58 rfl (dsl_at (k := k) (by omega)))) (AllSteps.cons (step_on (dj := 25) rfl rfl (acts_call1 (d := 35) (ltN rfl) (spec_IsDominoBefore_fn (gD ds ((((k : Nat) : Int) - 1).toNat)) (gD ds k) ) (ArgVs.cons (ArgV.va (vs := [(.int .i64 ((gD ds ((((k : Nat) : Int) - 1).toNat)).x) : Value), .int .i64 ((gD ds ((((k : Nat) : Int) - 1).toNat)).y), .bool ((gD ds ((((k : Nat) : Int) - 1).toNat)).d)]) (OpV.agg 30 [(.int .i64 ((gD ds ((((k : Nat) : Int) - 1).toNat)).x) : Value), .int .i64 ((gD ds ((((k : Nat) : Int) - 1).toNat)).y), .bool ((gD ds ((((k : Nat) : Int) - 1).toNat)).d)])) (ArgVs.cons (ArgV.va (vs := [(.int .i64 ((gD ds k).x) : Value), .int .i64 ((gD ds k).y), .bool ((gD ds k).d)]) (OpV.agg 34 [(.int .i64 ((gD ds k).x) : Value), .int .i64 ((gD ds k).y), .bool ((gD ds k).d)])) (ArgVs.nil))) (ResV.val _))) (AllSteps.cons (step_on (dj := 25) rfl rfl (acts_un (d := 36) (ltN rfl) (OpV.tmp 35 (.bool (bef (gD ds ((((k : Nat) : Int) - 1).toNat)) (gD ds k)))) (r_not (c := (!(bef (gD ds ((((k : Nat) : Int) - 1).toNat)) (gD ds k)))) rfl))) (AllSteps.cons (step_on (dj := 22) rfl rfl (acts_pick_t (d := 37) (ltN rfl) (OpV.tmp 25 (.bool true)) (OpX.tmp 36 (V.v (.bool (!(bef (gD ds ((((k : Nat) : Int) - 1).toNat)) (gD ds k)))))))) (AllSteps.cons (step_plain rfl (acts_pick_f (d := 38) (ltN rfl) (OpV.tmp 22 (.bool false)) (OpX.tmp 37 (V.v (.bool (!(bef (gD ds ((((k : Nat) : Int) - 1).toNat)) (gD ds k)))))))) (AllSteps.nil)))))))))))))))))))))))) (by kernel_rfl) (by kernel_rfl) (by kernel_rfl) ?_
     exact ⟨rfl, weak_reads ⟨(by simp only [c3, c4]; first | done | kernel_rfl), (by repeat (first | exact trivial | refine ⟨by kernel_rfl, ?_⟩))⟩⟩
    ·skip
     have c4P := of_decide_eq_false c4
     refine wp_drawn' (by kernel_rfl) (AllSteps.cons (step_plain rfl (mv 16 1 (V.b (.a (.slv ds.length 3 (dsl ds)))))) (AllSteps.cons (step_plain rfl (mv 17 6 (V.v (.int .i64 ((k : Nat) : Int))))) (AllSteps.cons (step_plain rfl (acts_index_v (d := 18) (x := 16) (n := ds.length) (s := 3) (k := k) (xs := dsl ds) (ltN rfl) qC3w_un_31 qC3w_sz_58 (OpV.tmp 17 (.int .i64 ((k : Nat) : Int))) rfl (by omega))) (AllSteps.cons (step_plain rfl (acts_load_vs (d := 19) (t := 18) (s := 3) (off := (k * 3)) (xs := dsl ds)  (vs := [(.int .i64 ((gD ds k).x) : Value), .int .i64 ((gD ds k).y), .bool ((gD ds k).d)]) (ltN rfl) qC3w_ti_58 rfl (dsl_at (k := k) (by omega)))) (AllSteps.cons (step_plain rfl (acts_call1 (d := 20) (ltN rfl) (spec_DominoOk_fn (gD ds k) ) (ArgVs.cons (ArgV.va (vs := [(.int .i64 ((gD ds k).x) : Value), .int .i64 ((gD ds k).y), .bool ((gD ds k).d)]) (OpV.agg 19 [(.int .i64 ((gD ds k).x) : Value), .int .i64 ((gD ds k).y), .bool ((gD ds k).d)])) (ArgVs.nil)) ((resval (congrArg Value.bool c3))))) (AllSteps.cons (step_plain rfl (acts_un (d := 21) (ltN rfl) (OpV.tmp 20 (.bool true)) (r_not (c := false) rfl))) (AllSteps.cons (step_plain rfl (mv 22 21 (V.v (.bool false)))) (AllSteps.cons (step_on (dj := 22) rfl rfl (mv 23 6 (V.v (.int .i64 ((k : Nat) : Int))))) (AllSteps.cons (step_on (dj := 22) rfl rfl (bn 24 (OpV.tmp 23 (.int .i64 ((k : Nat) : Int))) (OpV.const (.int .i64 0)) (r_gtr (c := false) c4))) (AllSteps.cons (step_on (dj := 22) rfl rfl (mv 25 24 (V.v (.bool false)))) (AllSteps.cons (step_off (dj := 25) (b' := false) rfl rfl (by decide) rfl (ltN rfl)) (AllSteps.cons (step_off (dj := 25) (b' := false) rfl rfl (by decide) rfl (ltN rfl)) (AllSteps.cons (step_off (dj := 25) (b' := false) rfl rfl (by decide) rfl (ltN rfl)) (AllSteps.cons (step_off (dj := 25) (b' := false) rfl rfl (by decide) rfl (ltN rfl)) (AllSteps.cons (step_off (dj := 25) (b' := false) rfl rfl (by decide) rfl (ltN rfl)) (AllSteps.cons (step_off (dj := 25) (b' := false) rfl rfl (by decide) rfl (ltN rfl)) (AllSteps.cons (step_off (dj := 25) (b' := false) rfl rfl (by decide) rfl (ltN rfl)) (AllSteps.cons (step_off (dj := 25) (b' := false) rfl rfl (by decide) rfl (ltN rfl)) (AllSteps.cons (step_off (dj := 25) (b' := false) rfl rfl (by decide) rfl (ltN rfl)) (AllSteps.cons (step_off (dj := 25) (b' := false) rfl rfl (by decide) rfl (ltN rfl)) (AllSteps.cons (step_off (dj := 25) (b' := false) rfl rfl (by decide) rfl (ltN rfl)) (AllSteps.cons (step_on (dj := 22) rfl rfl (acts_pick_f (d := 37) (ltN rfl) (OpV.tmp 25 (.bool false)) (OpX.const (.bool false)))) (AllSteps.cons (step_plain rfl (acts_pick_f (d := 38) (ltN rfl) (OpV.tmp 22 (.bool false)) (OpX.tmp 37 (V.v (.bool false))))) (AllSteps.nil)))))))))))))))))))))))) (by kernel_rfl) (by kernel_rfl) (by kernel_rfl) ?_
     exact ⟨rfl, weak_reads ⟨(by simp only [c3, c4]; first | done | kernel_rfl), (by repeat (first | exact trivial | refine ⟨by kernel_rfl, ?_⟩))⟩⟩
   ·skip
    refine wp_drawn' (by kernel_rfl) (AllSteps.cons (step_plain rfl (mv 16 1 (V.b (.a (.slv ds.length 3 (dsl ds)))))) (AllSteps.cons (step_plain rfl (mv 17 6 (V.v (.int .i64 ((k : Nat) : Int))))) (AllSteps.cons (step_plain rfl (acts_index_v (d := 18) (x := 16) (n := ds.length) (s := 3) (k := k) (xs := dsl ds) (ltN rfl) qC3w_un_31 qC3w_sz_58 (OpV.tmp 17 (.int .i64 ((k : Nat) : Int))) rfl (by omega))) (AllSteps.cons (step_plain rfl (acts_load_vs (d := 19) (t := 18) (s := 3) (off := (k * 3)) (xs := dsl ds)  (vs := [(.int .i64 ((gD ds k).x) : Value), .int .i64 ((gD ds k).y), .bool ((gD ds k).d)]) (ltN rfl) qC3w_ti_58 rfl (dsl_at (k := k) (by omega)))) (AllSteps.cons (step_plain rfl (acts_call1 (d := 20) (ltN rfl) (spec_DominoOk_fn (gD ds k) ) (ArgVs.cons (ArgV.va (vs := [(.int .i64 ((gD ds k).x) : Value), .int .i64 ((gD ds k).y), .bool ((gD ds k).d)]) (OpV.agg 19 [(.int .i64 ((gD ds k).x) : Value), .int .i64 ((gD ds k).y), .bool ((gD ds k).d)])) (ArgVs.nil)) ((resval (congrArg Value.bool c3))))) (AllSteps.cons (step_plain rfl (acts_un (d := 21) (ltN rfl) (OpV.tmp 20 (.bool false)) (r_not (c := true) rfl))) (AllSteps.cons (step_plain rfl (mv 22 21 (V.v (.bool true)))) (AllSteps.cons (step_off (dj := 22) (b' := true) rfl rfl (by decide) rfl (ltN rfl)) (AllSteps.cons (step_off (dj := 22) (b' := true) rfl rfl (by decide) rfl (ltN rfl)) (AllSteps.cons (step_offu (dj := 22) (b' := true) rfl rfl (by decide) rfl (ltN rfl)) (AllSteps.cons (step_offx (dj := 25) rfl rfl rfl (ltN rfl)) (AllSteps.cons (step_offx (dj := 25) rfl rfl rfl (ltN rfl)) (AllSteps.cons (step_offx (dj := 25) rfl rfl rfl (ltN rfl)) (AllSteps.cons (step_offx (dj := 25) rfl rfl rfl (ltN rfl)) (AllSteps.cons (step_offx (dj := 25) rfl rfl rfl (ltN rfl)) (AllSteps.cons (step_offx (dj := 25) rfl rfl rfl (ltN rfl)) (AllSteps.cons (step_offx (dj := 25) rfl rfl rfl (ltN rfl)) (AllSteps.cons (step_offx (dj := 25) rfl rfl rfl (ltN rfl)) (AllSteps.cons (step_offx (dj := 25) rfl rfl rfl (ltN rfl)) (AllSteps.cons (step_offx (dj := 25) rfl rfl rfl (ltN rfl)) (AllSteps.cons (step_offx (dj := 25) rfl rfl rfl (ltN rfl)) (AllSteps.cons (step_off (dj := 22) (b' := true) rfl rfl (by decide) rfl (ltN rfl)) (AllSteps.cons (step_plain rfl (acts_pick_t (d := 38) (ltN rfl) (OpV.tmp 22 (.bool true)) (OpX.const (.bool true)))) (AllSteps.nil)))))))))))))))))))))))) (by kernel_rfl) (by kernel_rfl) (by kernel_rfl) ?_
    exact ⟨rfl, weak_reads ⟨(by simp only [c3]; first | done | kernel_rfl), (by repeat (first | exact trivial | refine ⟨by kernel_rfl, ?_⟩))⟩⟩
  refine wp_if (t := 38) (((!(okD (gD ds k))) || ((decide (0 < ((k : Nat) : Int))) && (!(bef (gD ds ((((k : Nat) : Int) - 1).toNat)) (gD ds k)))))) (by kernel_rfl) (fun c5 => ?_) (fun c5 => ?_)
  ·skip
   have c6 := or_tt c5
   refine wp_seq' ?_
   refine wp_region_t ?_
   refine w1 (acts_assign (d := 4) (ltN rfl) (OpX.const (.bool false))) ?_
   refine wpl_nil ?_
   refine wp_ret' ?_
   exact VRes.tmp 4 (.a (.val (.bool false))) _ (by kernel_rfl) (bval (congrArg Value.bool (by exact (sp_ex1 (k := k) (by omega) (by assumption)).symm)))
  ·skip
   obtain ⟨c7, c8⟩ := or_ff c5
   have c9 : (okD (gD ds k)) = true := by first | simpa using c7 | (rw [← Bool.not_eq_false']; exact c7)
   have c10 := and_ff c8
   refine wp_skip' ?_
   refine wp_seq' ?_
   refine wp_region_t ?_
   refine w1 (mv 40 1 (V.b (.a (.slv ds.length 3 (dsl ds))))) ?_
   refine w1 (mv 41 6 (V.v (.int .i64 ((k : Nat) : Int)))) ?_
   refine w1 (acts_index_v (d := 42) (x := 40) (n := ds.length) (s := 3) (k := k) (xs := dsl ds) (ltN rfl) qC3w_un_31 qC3w_sz_58 (OpV.tmp 41 (.int .i64 ((k : Nat) : Int))) rfl (by omega)) ?_
   refine w1 (acts_load_vs (d := 43) (t := 42) (s := 3) (off := (k * 3)) (xs := dsl ds)  (vs := [(.int .i64 ((gD ds k).x) : Value), .int .i64 ((gD ds k).y), .bool ((gD ds k).d)]) (ltN rfl) qC3w_ti_58 rfl (dsl_at (k := k) (by omega))) ?_
   refine w1 (acts_call2 (d := 44) (ltN rfl) (spec_CellsUnder_fn (gD ds k) (by omega)) (ArgVs.cons (ArgV.va (vs := [(.int .i64 ((gD ds k).x) : Value), .int .i64 ((gD ds k).y), .bool ((gD ds k).d)]) (OpV.agg 43 [(.int .i64 ((gD ds k).x) : Value), .int .i64 ((gD ds k).y), .bool ((gD ds k).d)])) (ArgVs.nil)) (ResV.agg [(.int .i64 ((ca (gD ds k)).x) : Value), .int .i64 ((ca (gD ds k)).y)]) (ResV.agg [(.int .i64 ((cb (gD ds k)).x) : Value), .int .i64 ((cb (gD ds k)).y)])) ?_
   refine w1 (mv 39 44 (V.tup [.agg ([(.int .i64 ((ca (gD ds k)).x) : Value), .int .i64 ((ca (gD ds k)).y)].map A.val), .agg ([(.int .i64 ((cb (gD ds k)).x) : Value), .int .i64 ((cb (gD ds k)).y)].map A.val)])) ?_
   refine w1 (acts_extract (d := 45) (t := 39) (ix := 0) (xs := [.agg ([(.int .i64 ((ca (gD ds k)).x) : Value), .int .i64 ((ca (gD ds k)).y)].map A.val), .agg ([(.int .i64 ((cb (gD ds k)).x) : Value), .int .i64 ((cb (gD ds k)).y)].map A.val)]) (X := .agg ([(.int .i64 ((ca (gD ds k)).x) : Value), .int .i64 ((ca (gD ds k)).y)].map A.val)) (ltN rfl) rfl) ?_
   refine w1 (acts_extract (d := 46) (t := 39) (ix := 1) (xs := [.agg ([(.int .i64 ((ca (gD ds k)).x) : Value), .int .i64 ((ca (gD ds k)).y)].map A.val), .agg ([(.int .i64 ((cb (gD ds k)).x) : Value), .int .i64 ((cb (gD ds k)).y)].map A.val)]) (X := .agg ([(.int .i64 ((cb (gD ds k)).x) : Value), .int .i64 ((cb (gD ds k)).y)].map A.val)) (ltN rfl) rfl) ?_
   refine w1 (acts_alloc' (d := 7) (h := 7) (cap := 1) (s := 2) (cells := [(.val (.int .i64 0) : A), .val (.int .i64 0)]) (ltN rfl) qC3w_zi_53 rfl rfl (by decide)) ?_
   refine w1 (acts_alloc' (d := 8) (h := 8) (cap := 1) (s := 2) (cells := [(.val (.int .i64 0) : A), .val (.int .i64 0)]) (ltN rfl) qC3w_zi_53 rfl rfl (by decide)) ?_
   refine w1 (acts_store (t := 7) (h := 7) (off := 0) (o := ⟨53, 2, true, [(.val (.int .i64 0) : A), .val (.int .i64 0)]⟩) (b := .agg ([(.int .i64 ((ca (gD ds k)).x) : Value), .int .i64 ((ca (gD ds k)).y)].map A.val)) (cells := [(.val (.int .i64 ((ca (gD ds k)).x)) : A), .val (.int .i64 ((ca (gD ds k)).y))]) qC3w_ti_53 (OpX.tmp 45 (V.av [(.int .i64 ((ca (gD ds k)).x) : Value), .int .i64 ((ca (gD ds k)).y)])) rfl (by decide) (by intro y hy; simp [B.cs] at hy; rcases hy with rfl | rfl <;> rfl) (Nat.le_of_ble_eq_true rfl) rfl) ?_
   refine w1 (acts_store (t := 8) (h := 8) (off := 0) (o := ⟨53, 2, true, [(.val (.int .i64 0) : A), .val (.int .i64 0)]⟩) (b := .agg ([(.int .i64 ((cb (gD ds k)).x) : Value), .int .i64 ((cb (gD ds k)).y)].map A.val)) (cells := [(.val (.int .i64 ((cb (gD ds k)).x)) : A), .val (.int .i64 ((cb (gD ds k)).y))]) qC3w_ti_53 (OpX.tmp 46 (V.av [(.int .i64 ((cb (gD ds k)).x) : Value), .int .i64 ((cb (gD ds k)).y)])) rfl (by decide) (by intro y hy; simp [B.cs] at hy; rcases hy with rfl | rfl <;> rfl) (Nat.le_of_ble_eq_true rfl) rfl) ?_
   refine wpl_nil ?_
   refine wp_seq' ?_
   refine wp_seq' ?_
   refine wp_join [(.s 70, some (.s (V.v (.bool ((!(hasC l (ca (gD ds k)))) || ((!(hasC l (cb (gD ds k)))) || ((gB (bitsL (covS (ds.take k))) (idx (ca (gD ds k)))) || (gB (bitsL (covS (ds.take k))) (idx (cb (gD ds k))))))))))), (.s 1, some (.s (V.b (.a (.slv ds.length 3 (dsl ds)))))), (.s 2, some (.s (V.p 2 0))), (.s 5, some (.s (V.b (.a (.sl 9 0 ((bitsL (covS (ds.take k))).length)))))), (.s 6, some (.s (V.v (.int .i64 ((k : Nat) : Int))))), (.s 7, some (.s (V.p 7 0))), (.s 8, some (.s (V.p 8 0))), (.o 2, some (.o ⟨29, 1, true, [(.slv l.length 1 (isl l) : A)]⟩)), (.o 7, some (.o ⟨53, 2, true, [(.val (.int .i64 ((ca (gD ds k)).x)) : A), .val (.int .i64 ((ca (gD ds k)).y))]⟩)), (.o 8, some (.o ⟨53, 2, true, [(.val (.int .i64 ((cb (gD ds k)).x)) : A), .val (.int .i64 ((cb (gD ds k)).y))]⟩)), (.o 9, some (.o ⟨4, 1, true, pl (bsl (bitsL (covS (ds.take k))))⟩)), (.o 12, some .free), (.o 20, some .free), (.o 35, some .free), (.o 44, some .free), (.o 49, some .free), (.o 54, some .free), (.o 60, some .free), (.o 67, some .free), (.o 73, some .free), (.o 77, some .free), (.o 80, some .free)] ?_ ?_
   ·skip
    rcases Bool.eq_false_or_eq_true ((hasC l (ca (gD ds k)))) with c11 | c11
    ·skip
     rcases Bool.eq_false_or_eq_true ((hasC l (cb (gD ds k)))) with c12 | c12
     ·skip
      rcases Bool.eq_false_or_eq_true ((gB (bitsL (covS (ds.take k))) (idx (ca (gD ds k))))) with c13 | c13
      ·skip
       refine wp_region_t ?_
       refine w1 (acts_load_owns (d := 47) (t := 2) (h := 2) (off := 0) (o := ⟨29, 1, true, [(.slv l.length 1 (isl l) : A)]⟩)  (xs := [(.slv l.length 1 (isl l) : A)]) (ltN rfl) qC3w_ti_29 rfl (by decide) rfl) ?_
       refine w1 (acts_load_owns (d := 48) (t := 7) (h := 7) (off := 0) (o := ⟨53, 2, true, [(.val (.int .i64 ((ca (gD ds k)).x)) : A), .val (.int .i64 ((ca (gD ds k)).y))]⟩)  (xs := [(.int .i64 ((ca (gD ds k)).x) : Value), .int .i64 ((ca (gD ds k)).y)].map A.val) (ltN rfl) qC3w_ti_53 rfl (by decide) rfl) ?_
       refine w1 (acts_call1 (d := 49) (ltN rfl) (spec_HasCell_fn l (ca (gD ds k)) (by omega)) (ArgVs.cons (ArgV.regv 47 l.length 1 (isl l)) (ArgVs.cons (ArgV.va (vs := [(.int .i64 ((ca (gD ds k)).x) : Value), .int .i64 ((ca (gD ds k)).y)]) (OpV.agg 48 [(.int .i64 ((ca (gD ds k)).x) : Value), .int .i64 ((ca (gD ds k)).y)])) (ArgVs.nil))) ((resval (congrArg Value.bool c11)))) ?_
       refine w1 (acts_un (d := 50) (ltN rfl) (OpV.tmp 49 (.bool true)) (r_not (c := false) rfl)) ?_
       refine w1 (mv 51 50 (V.v (.bool false))) ?_
       refine w2 (step_on (dj := 51) rfl rfl (acts_load_owns (d := 52) (t := 2) (h := 2) (off := 0) (o := ⟨29, 1, true, [(.slv l.length 1 (isl l) : A)]⟩)  (xs := [(.slv l.length 1 (isl l) : A)]) (ltN rfl) qC3w_ti_29 rfl (by decide) rfl)) ?_
       refine w2 (step_on (dj := 51) rfl rfl (acts_load_owns (d := 53) (t := 8) (h := 8) (off := 0) (o := ⟨53, 2, true, [(.val (.int .i64 ((cb (gD ds k)).x)) : A), .val (.int .i64 ((cb (gD ds k)).y))]⟩)  (xs := [(.int .i64 ((cb (gD ds k)).x) : Value), .int .i64 ((cb (gD ds k)).y)].map A.val) (ltN rfl) qC3w_ti_53 rfl (by decide) rfl)) ?_
       refine w2 (step_on (dj := 51) rfl rfl (acts_call1 (d := 54) (ltN rfl) (spec_HasCell_fn l (cb (gD ds k)) (by omega)) (ArgVs.cons (ArgV.regv 52 l.length 1 (isl l)) (ArgVs.cons (ArgV.va (vs := [(.int .i64 ((cb (gD ds k)).x) : Value), .int .i64 ((cb (gD ds k)).y)]) (OpV.agg 53 [(.int .i64 ((cb (gD ds k)).x) : Value), .int .i64 ((cb (gD ds k)).y)])) (ArgVs.nil))) ((resval (congrArg Value.bool c12))))) ?_
       refine w2 (step_on (dj := 51) rfl rfl (acts_un (d := 55) (ltN rfl) (OpV.tmp 54 (.bool true)) (r_not (c := false) rfl))) ?_
       refine w1 (acts_pick_f (d := 56) (ltN rfl) (OpV.tmp 51 (.bool false)) (OpX.tmp 55 (V.v (.bool false)))) ?_
       refine w1 (mv 57 56 (V.v (.bool false))) ?_
       refine w2 (step_on (dj := 57) rfl rfl (mv 58 5 (V.b (.a (.sl 9 0 ((bitsL (covS (ds.take k))).length)))))) ?_
       refine w2 (step_on (dj := 57) rfl rfl (acts_load_owns (d := 59) (t := 7) (h := 7) (off := 0) (o := ⟨53, 2, true, [(.val (.int .i64 ((ca (gD ds k)).x)) : A), .val (.int .i64 ((ca (gD ds k)).y))]⟩)  (xs := [(.int .i64 ((ca (gD ds k)).x) : Value), .int .i64 ((ca (gD ds k)).y)].map A.val) (ltN rfl) qC3w_ti_53 rfl (by decide) rfl)) ?_
       refine w2 (step_on (dj := 57) rfl rfl (acts_call1 (d := 60) (ltN rfl) (spec_CellIndex_fn (ca (gD ds k)) (by exact ok_ca (by assumption))) (ArgVs.cons (ArgV.va (vs := [(.int .i64 ((ca (gD ds k)).x) : Value), .int .i64 ((ca (gD ds k)).y)]) (OpV.agg 59 [(.int .i64 ((ca (gD ds k)).x) : Value), .int .i64 ((ca (gD ds k)).y)])) (ArgVs.nil)) (ResV.val _))) ?_
       refine w2 (step_on (dj := 57) rfl rfl (acts_index_sl (d := 61) (x := 58) (h := 9) (off := 0) (n := ((bitsL (covS (ds.take k))).length)) (k := (idx (ca (gD ds k)))) (off' := ((idx (ca (gD ds k))) * 1)) (o := ⟨4, 1, true, pl (bsl (bitsL (covS (ds.take k))))⟩) (ltN rfl) qC3w_un_94 qC3w_sz_4 (OpV.tmp 60 (.int .i64 (((idx (ca (gD ds k))) : Nat) : Int))) rfl (by (have := idx_lt (ok_ca (d := gD ds k) (by assumption)); have := idx_lt (ok_cb (d := gD ds k) (by assumption)); simp [bitsL_len] at *; omega)) (by (simp; done)))) ?_
       refine w2 (step_on (dj := 57) rfl rfl (acts_load_own (d := 62) (t := 61) (h := 9) (off := ((idx (ca (gD ds k))) * 1)) (o := ⟨4, 1, true, pl (bsl (bitsL (covS (ds.take k))))⟩)  (x := .val (.bool true)) (ltN rfl) qC3w_ti_4 (pl_get ((bsl_get1 (k := (idx (ca (gD ds k)))) (by (have := idx_lt (ok_ca (d := gD ds k) (by assumption)); have := idx_lt (ok_cb (d := gD ds k) (by assumption)); simp [bitsL_len] at *; omega))).trans (congrArg (fun b : Bool => some (Value.bool b)) c13))))) ?_
       refine w1 (acts_pick_f (d := 63) (ltN rfl) (OpV.tmp 57 (.bool false)) (OpX.tmp 62 (V.v (.bool true)))) ?_
       refine w1 (mv 64 63 (V.v (.bool true))) ?_
       refine w2 (step_off (dj := 64) (b' := true) rfl rfl (by decide) rfl (ltN rfl)) ?_
       refine w2 (step_off (dj := 64) (b' := true) rfl rfl (by decide) rfl (ltN rfl)) ?_
       refine w2 (step_off (dj := 64) (b' := true) rfl rfl (by decide) rfl (ltN rfl)) ?_
       refine w2 (step_off (dj := 64) (b' := true) rfl rfl (by decide) rfl (ltN rfl)) ?_
       refine w2 (step_off (dj := 64) (b' := true) rfl rfl (by decide) rfl (ltN rfl)) ?_
       refine w1 (acts_pick_t (d := 70) (ltN rfl) (OpV.tmp 64 (.bool true)) (OpX.const (.bool true))) ?_
       refine wpl_nil ?_
       exact ⟨rfl, weak_reads ⟨(by simp only [c11, c12, c13]; first | done | kernel_rfl), (by repeat (first | exact trivial | refine ⟨by kernel_rfl, ?_⟩))⟩⟩
      ·skip
       refine wp_region_t ?_
       refine w1 (acts_load_owns (d := 47) (t := 2) (h := 2) (off := 0) (o := ⟨29, 1, true, [(.slv l.length 1 (isl l) : A)]⟩)  (xs := [(.slv l.length 1 (isl l) : A)]) (ltN rfl) qC3w_ti_29 rfl (by decide) rfl) ?_
       refine w1 (acts_load_owns (d := 48) (t := 7) (h := 7) (off := 0) (o := ⟨53, 2, true, [(.val (.int .i64 ((ca (gD ds k)).x)) : A), .val (.int .i64 ((ca (gD ds k)).y))]⟩)  (xs := [(.int .i64 ((ca (gD ds k)).x) : Value), .int .i64 ((ca (gD ds k)).y)].map A.val) (ltN rfl) qC3w_ti_53 rfl (by decide) rfl) ?_
       refine w1 (acts_call1 (d := 49) (ltN rfl) (spec_HasCell_fn l (ca (gD ds k)) (by omega)) (ArgVs.cons (ArgV.regv 47 l.length 1 (isl l)) (ArgVs.cons (ArgV.va (vs := [(.int .i64 ((ca (gD ds k)).x) : Value), .int .i64 ((ca (gD ds k)).y)]) (OpV.agg 48 [(.int .i64 ((ca (gD ds k)).x) : Value), .int .i64 ((ca (gD ds k)).y)])) (ArgVs.nil))) ((resval (congrArg Value.bool c11)))) ?_
       refine w1 (acts_un (d := 50) (ltN rfl) (OpV.tmp 49 (.bool true)) (r_not (c := false) rfl)) ?_
       refine w1 (mv 51 50 (V.v (.bool false))) ?_
       refine w2 (step_on (dj := 51) rfl rfl (acts_load_owns (d := 52) (t := 2) (h := 2) (off := 0) (o := ⟨29, 1, true, [(.slv l.length 1 (isl l) : A)]⟩)  (xs := [(.slv l.length 1 (isl l) : A)]) (ltN rfl) qC3w_ti_29 rfl (by decide) rfl)) ?_
       refine w2 (step_on (dj := 51) rfl rfl (acts_load_owns (d := 53) (t := 8) (h := 8) (off := 0) (o := ⟨53, 2, true, [(.val (.int .i64 ((cb (gD ds k)).x)) : A), .val (.int .i64 ((cb (gD ds k)).y))]⟩)  (xs := [(.int .i64 ((cb (gD ds k)).x) : Value), .int .i64 ((cb (gD ds k)).y)].map A.val) (ltN rfl) qC3w_ti_53 rfl (by decide) rfl)) ?_
       refine w2 (step_on (dj := 51) rfl rfl (acts_call1 (d := 54) (ltN rfl) (spec_HasCell_fn l (cb (gD ds k)) (by omega)) (ArgVs.cons (ArgV.regv 52 l.length 1 (isl l)) (ArgVs.cons (ArgV.va (vs := [(.int .i64 ((cb (gD ds k)).x) : Value), .int .i64 ((cb (gD ds k)).y)]) (OpV.agg 53 [(.int .i64 ((cb (gD ds k)).x) : Value), .int .i64 ((cb (gD ds k)).y)])) (ArgVs.nil))) ((resval (congrArg Value.bool c12))))) ?_
       refine w2 (step_on (dj := 51) rfl rfl (acts_un (d := 55) (ltN rfl) (OpV.tmp 54 (.bool true)) (r_not (c := false) rfl))) ?_
       refine w1 (acts_pick_f (d := 56) (ltN rfl) (OpV.tmp 51 (.bool false)) (OpX.tmp 55 (V.v (.bool false)))) ?_
       refine w1 (mv 57 56 (V.v (.bool false))) ?_
       refine w2 (step_on (dj := 57) rfl rfl (mv 58 5 (V.b (.a (.sl 9 0 ((bitsL (covS (ds.take k))).length)))))) ?_
       refine w2 (step_on (dj := 57) rfl rfl (acts_load_owns (d := 59) (t := 7) (h := 7) (off := 0) (o := ⟨53, 2, true, [(.val (.int .i64 ((ca (gD ds k)).x)) : A), .val (.int .i64 ((ca (gD ds k)).y))]⟩)  (xs := [(.int .i64 ((ca (gD ds k)).x) : Value), .int .i64 ((ca (gD ds k)).y)].map A.val) (ltN rfl) qC3w_ti_53 rfl (by decide) rfl)) ?_
       refine w2 (step_on (dj := 57) rfl rfl (acts_call1 (d := 60) (ltN rfl) (spec_CellIndex_fn (ca (gD ds k)) (by exact ok_ca (by assumption))) (ArgVs.cons (ArgV.va (vs := [(.int .i64 ((ca (gD ds k)).x) : Value), .int .i64 ((ca (gD ds k)).y)]) (OpV.agg 59 [(.int .i64 ((ca (gD ds k)).x) : Value), .int .i64 ((ca (gD ds k)).y)])) (ArgVs.nil)) (ResV.val _))) ?_
       refine w2 (step_on (dj := 57) rfl rfl (acts_index_sl (d := 61) (x := 58) (h := 9) (off := 0) (n := ((bitsL (covS (ds.take k))).length)) (k := (idx (ca (gD ds k)))) (off' := ((idx (ca (gD ds k))) * 1)) (o := ⟨4, 1, true, pl (bsl (bitsL (covS (ds.take k))))⟩) (ltN rfl) qC3w_un_94 qC3w_sz_4 (OpV.tmp 60 (.int .i64 (((idx (ca (gD ds k))) : Nat) : Int))) rfl (by (have := idx_lt (ok_ca (d := gD ds k) (by assumption)); have := idx_lt (ok_cb (d := gD ds k) (by assumption)); simp [bitsL_len] at *; omega)) (by (simp; done)))) ?_
       refine w2 (step_on (dj := 57) rfl rfl (acts_load_own (d := 62) (t := 61) (h := 9) (off := ((idx (ca (gD ds k))) * 1)) (o := ⟨4, 1, true, pl (bsl (bitsL (covS (ds.take k))))⟩)  (x := .val (.bool false)) (ltN rfl) qC3w_ti_4 (pl_get ((bsl_get1 (k := (idx (ca (gD ds k)))) (by (have := idx_lt (ok_ca (d := gD ds k) (by assumption)); have := idx_lt (ok_cb (d := gD ds k) (by assumption)); simp [bitsL_len] at *; omega))).trans (congrArg (fun b : Bool => some (Value.bool b)) c13))))) ?_
       refine w1 (acts_pick_f (d := 63) (ltN rfl) (OpV.tmp 57 (.bool false)) (OpX.tmp 62 (V.v (.bool false)))) ?_
       refine w1 (mv 64 63 (V.v (.bool false))) ?_
       refine w2 (step_on (dj := 64) rfl rfl (mv 65 5 (V.b (.a (.sl 9 0 ((bitsL (covS (ds.take k))).length)))))) ?_
       refine w2 (step_on (dj := 64) rfl rfl (acts_load_owns (d := 66) (t := 8) (h := 8) (off := 0) (o := ⟨53, 2, true, [(.val (.int .i64 ((cb (gD ds k)).x)) : A), .val (.int .i64 ((cb (gD ds k)).y))]⟩)  (xs := [(.int .i64 ((cb (gD ds k)).x) : Value), .int .i64 ((cb (gD ds k)).y)].map A.val) (ltN rfl) qC3w_ti_53 rfl (by decide) rfl)) ?_
       refine w2 (step_on (dj := 64) rfl rfl (acts_call1 (d := 67) (ltN rfl) (spec_CellIndex_fn (cb (gD ds k)) (by exact ok_cb (by assumption))) (ArgVs.cons (ArgV.va (vs := [(.int .i64 ((cb (gD ds k)).x) : Value), .int .i64 ((cb (gD ds k)).y)]) (OpV.agg 66 [(.int .i64 ((cb (gD ds k)).x) : Value), .int .i64 ((cb (gD ds k)).y)])) (ArgVs.nil)) (ResV.val _))) ?_
       refine w2 (step_on (dj := 64) rfl rfl (acts_index_sl (d := 68) (x := 65) (h := 9) (off := 0) (n := ((bitsL (covS (ds.take k))).length)) (k := (idx (cb (gD ds k)))) (off' := ((idx (cb (gD ds k))) * 1)) (o := ⟨4, 1, true, pl (bsl (bitsL (covS (ds.take k))))⟩) (ltN rfl) qC3w_un_94 qC3w_sz_4 (OpV.tmp 67 (.int .i64 (((idx (cb (gD ds k))) : Nat) : Int))) rfl (by (have := idx_lt (ok_ca (d := gD ds k) (by assumption)); have := idx_lt (ok_cb (d := gD ds k) (by assumption)); simp [bitsL_len] at *; omega)) (by (simp; done)))) ?_
       refine w2 (step_on (dj := 64) rfl rfl (acts_load_own (d := 69) (t := 68) (h := 9) (off := ((idx (cb (gD ds k))) * 1)) (o := ⟨4, 1, true, pl (bsl (bitsL (covS (ds.take k))))⟩)  (x := .val (.bool (gB (bitsL (covS (ds.take k))) (idx (cb (gD ds k)))))) (ltN rfl) qC3w_ti_4 (pl_get (bsl_get1 (k := (idx (cb (gD ds k)))) (by (have := idx_lt (ok_ca (d := gD ds k) (by assumption)); have := idx_lt (ok_cb (d := gD ds k) (by assumption)); simp [bitsL_len] at *; omega)))))) ?_
       refine w1 (acts_pick_f (d := 70) (ltN rfl) (OpV.tmp 64 (.bool false)) (OpX.tmp 69 (V.v (.bool (gB (bitsL (covS (ds.take k))) (idx (cb (gD ds k)))))))) ?_
       refine wpl_nil ?_
       exact ⟨rfl, weak_reads ⟨(by simp only [c11, c12, c13]; first | done | kernel_rfl), (by repeat (first | exact trivial | refine ⟨by kernel_rfl, ?_⟩))⟩⟩
     ·skip
      refine wp_region_t ?_
      refine w1 (acts_load_owns (d := 47) (t := 2) (h := 2) (off := 0) (o := ⟨29, 1, true, [(.slv l.length 1 (isl l) : A)]⟩)  (xs := [(.slv l.length 1 (isl l) : A)]) (ltN rfl) qC3w_ti_29 rfl (by decide) rfl) ?_
      refine w1 (acts_load_owns (d := 48) (t := 7) (h := 7) (off := 0) (o := ⟨53, 2, true, [(.val (.int .i64 ((ca (gD ds k)).x)) : A), .val (.int .i64 ((ca (gD ds k)).y))]⟩)  (xs := [(.int .i64 ((ca (gD ds k)).x) : Value), .int .i64 ((ca (gD ds k)).y)].map A.val) (ltN rfl) qC3w_ti_53 rfl (by decide) rfl) ?_
      refine w1 (acts_call1 (d := 49) (ltN rfl) (spec_HasCell_fn l (ca (gD ds k)) (by omega)) (ArgVs.cons (ArgV.regv 47 l.length 1 (isl l)) (ArgVs.cons (ArgV.va (vs := [(.int .i64 ((ca (gD ds k)).x) : Value), .int .i64 ((ca (gD ds k)).y)]) (OpV.agg 48 [(.int .i64 ((ca (gD ds k)).x) : Value), .int .i64 ((ca (gD ds k)).y)])) (ArgVs.nil))) ((resval (congrArg Value.bool c11)))) ?_
      refine w1 (acts_un (d := 50) (ltN rfl) (OpV.tmp 49 (.bool true)) (r_not (c := false) rfl)) ?_
      refine w1 (mv 51 50 (V.v (.bool false))) ?_
      refine w2 (step_on (dj := 51) rfl rfl (acts_load_owns (d := 52) (t := 2) (h := 2) (off := 0) (o := ⟨29, 1, true, [(.slv l.length 1 (isl l) : A)]⟩)  (xs := [(.slv l.length 1 (isl l) : A)]) (ltN rfl) qC3w_ti_29 rfl (by decide) rfl)) ?_
      refine w2 (step_on (dj := 51) rfl rfl (acts_load_owns (d := 53) (t := 8) (h := 8) (off := 0) (o := ⟨53, 2, true, [(.val (.int .i64 ((cb (gD ds k)).x)) : A), .val (.int .i64 ((cb (gD ds k)).y))]⟩)  (xs := [(.int .i64 ((cb (gD ds k)).x) : Value), .int .i64 ((cb (gD ds k)).y)].map A.val) (ltN rfl) qC3w_ti_53 rfl (by decide) rfl)) ?_
      refine w2 (step_on (dj := 51) rfl rfl (acts_call1 (d := 54) (ltN rfl) (spec_HasCell_fn l (cb (gD ds k)) (by omega)) (ArgVs.cons (ArgV.regv 52 l.length 1 (isl l)) (ArgVs.cons (ArgV.va (vs := [(.int .i64 ((cb (gD ds k)).x) : Value), .int .i64 ((cb (gD ds k)).y)]) (OpV.agg 53 [(.int .i64 ((cb (gD ds k)).x) : Value), .int .i64 ((cb (gD ds k)).y)])) (ArgVs.nil))) ((resval (congrArg Value.bool c12))))) ?_
      refine w2 (step_on (dj := 51) rfl rfl (acts_un (d := 55) (ltN rfl) (OpV.tmp 54 (.bool false)) (r_not (c := true) rfl))) ?_
      refine w1 (acts_pick_f (d := 56) (ltN rfl) (OpV.tmp 51 (.bool false)) (OpX.tmp 55 (V.v (.bool true)))) ?_
      refine w1 (mv 57 56 (V.v (.bool true))) ?_
      refine w2 (step_off (dj := 57) (b' := true) rfl rfl (by decide) rfl (ltN rfl)) ?_
      refine w2 (step_off (dj := 57) (b' := true) rfl rfl (by decide) rfl (ltN rfl)) ?_
      refine w2 (step_off (dj := 57) (b' := true) rfl rfl (by decide) rfl (ltN rfl)) ?_
      refine w2 (step_off (dj := 57) (b' := true) rfl rfl (by decide) rfl (ltN rfl)) ?_
      refine w2 (step_off (dj := 57) (b' := true) rfl rfl (by decide) rfl (ltN rfl)) ?_
      refine w1 (acts_pick_t (d := 63) (ltN rfl) (OpV.tmp 57 (.bool true)) (OpX.const (.bool true))) ?_
      refine w1 (mv 64 63 (V.v (.bool true))) ?_
      refine w2 (step_off (dj := 64) (b' := true) rfl rfl (by decide) rfl (ltN rfl)) ?_
      refine w2 (step_off (dj := 64) (b' := true) rfl rfl (by decide) rfl (ltN rfl)) ?_
      refine w2 (step_off (dj := 64) (b' := true) rfl rfl (by decide) rfl (ltN rfl)) ?_
      refine w2 (step_off (dj := 64) (b' := true) rfl rfl (by decide) rfl (ltN rfl)) ?_
      refine w2 (step_off (dj := 64) (b' := true) rfl rfl (by decide) rfl (ltN rfl)) ?_
      refine w1 (acts_pick_t (d := 70) (ltN rfl) (OpV.tmp 64 (.bool true)) (OpX.const (.bool true))) ?_
      refine wpl_nil ?_
      exact ⟨rfl, weak_reads ⟨(by simp only [c11, c12]; first | done | kernel_rfl), (by repeat (first | exact trivial | refine ⟨by kernel_rfl, ?_⟩))⟩⟩
    ·skip
     refine wp_region_t ?_
     refine w1 (acts_load_owns (d := 47) (t := 2) (h := 2) (off := 0) (o := ⟨29, 1, true, [(.slv l.length 1 (isl l) : A)]⟩)  (xs := [(.slv l.length 1 (isl l) : A)]) (ltN rfl) qC3w_ti_29 rfl (by decide) rfl) ?_
     refine w1 (acts_load_owns (d := 48) (t := 7) (h := 7) (off := 0) (o := ⟨53, 2, true, [(.val (.int .i64 ((ca (gD ds k)).x)) : A), .val (.int .i64 ((ca (gD ds k)).y))]⟩)  (xs := [(.int .i64 ((ca (gD ds k)).x) : Value), .int .i64 ((ca (gD ds k)).y)].map A.val) (ltN rfl) qC3w_ti_53 rfl (by decide) rfl) ?_
     refine w1 (acts_call1 (d := 49) (ltN rfl) (spec_HasCell_fn l (ca (gD ds k)) (by omega)) (ArgVs.cons (ArgV.regv 47 l.length 1 (isl l)) (ArgVs.cons (ArgV.va (vs := [(.int .i64 ((ca (gD ds k)).x) : Value), .int .i64 ((ca (gD ds k)).y)]) (OpV.agg 48 [(.int .i64 ((ca (gD ds k)).x) : Value), .int .i64 ((ca (gD ds k)).y)])) (ArgVs.nil))) ((resval (congrArg Value.bool c11)))) ?_
     refine w1 (acts_un (d := 50) (ltN rfl) (OpV.tmp 49 (.bool false)) (r_not (c := true) rfl)) ?_
     refine w1 (mv 51 50 (V.v (.bool true))) ?_
     refine w2 (step_off (dj := 51) (b' := true) rfl rfl (by decide) rfl (ltN rfl)) ?_
     refine w2 (step_off (dj := 51) (b' := true) rfl rfl (by decide) rfl (ltN rfl)) ?_
     refine w2 (step_off (dj := 51) (b' := true) rfl rfl (by decide) rfl (ltN rfl)) ?_
     refine w2 (step_off (dj := 51) (b' := true) rfl rfl (by decide) rfl (ltN rfl)) ?_
     refine w1 (acts_pick_t (d := 56) (ltN rfl) (OpV.tmp 51 (.bool true)) (OpX.const (.bool true))) ?_
     refine w1 (mv 57 56 (V.v (.bool true))) ?_
     refine w2 (step_off (dj := 57) (b' := true) rfl rfl (by decide) rfl (ltN rfl)) ?_
     refine w2 (step_off (dj := 57) (b' := true) rfl rfl (by decide) rfl (ltN rfl)) ?_
     refine w2 (step_off (dj := 57) (b' := true) rfl rfl (by decide) rfl (ltN rfl)) ?_
     refine w2 (step_off (dj := 57) (b' := true) rfl rfl (by decide) rfl (ltN rfl)) ?_
     refine w2 (step_off (dj := 57) (b' := true) rfl rfl (by decide) rfl (ltN rfl)) ?_
     refine w1 (acts_pick_t (d := 63) (ltN rfl) (OpV.tmp 57 (.bool true)) (OpX.const (.bool true))) ?_
     refine w1 (mv 64 63 (V.v (.bool true))) ?_
     refine w2 (step_off (dj := 64) (b' := true) rfl rfl (by decide) rfl (ltN rfl)) ?_
     refine w2 (step_off (dj := 64) (b' := true) rfl rfl (by decide) rfl (ltN rfl)) ?_
     refine w2 (step_off (dj := 64) (b' := true) rfl rfl (by decide) rfl (ltN rfl)) ?_
     refine w2 (step_off (dj := 64) (b' := true) rfl rfl (by decide) rfl (ltN rfl)) ?_
     refine w2 (step_off (dj := 64) (b' := true) rfl rfl (by decide) rfl (ltN rfl)) ?_
     refine w1 (acts_pick_t (d := 70) (ltN rfl) (OpV.tmp 64 (.bool true)) (OpX.const (.bool true))) ?_
     refine wpl_nil ?_
     exact ⟨rfl, weak_reads ⟨(by simp only [c11]; first | done | kernel_rfl), (by repeat (first | exact trivial | refine ⟨by kernel_rfl, ?_⟩))⟩⟩
   refine wp_if (t := 70) (((!(hasC l (ca (gD ds k)))) || ((!(hasC l (cb (gD ds k)))) || ((gB (bitsL (covS (ds.take k))) (idx (ca (gD ds k)))) || (gB (bitsL (covS (ds.take k))) (idx (cb (gD ds k)))))))) (by kernel_rfl) (fun c14 => ?_) (fun c14 => ?_)
   ·skip
    have c15 := or_tt c14
    refine wp_seq' ?_
    refine wp_region_t ?_
    refine w1 (acts_assign (d := 4) (ltN rfl) (OpX.const (.bool false))) ?_
    refine wpl_nil ?_
    refine wp_ret' ?_
    exact VRes.tmp 4 (.a (.val (.bool false))) _ (by kernel_rfl) (bval (congrArg Value.bool (by exact (sp_ex2 (k := k) (by omega) (by assumption) (by assumption)).symm)))
   ·skip
    obtain ⟨c16, c17⟩ := or_ff c14
    have c18 : (hasC l (ca (gD ds k))) = true := by first | simpa using c16 | (rw [← Bool.not_eq_false']; exact c16)
    obtain ⟨c19, c20⟩ := or_ff c17
    have c21 : (hasC l (cb (gD ds k))) = true := by first | simpa using c19 | (rw [← Bool.not_eq_false']; exact c19)
    obtain ⟨c22, c23⟩ := or_ff c20
    refine wp_skip' ?_
    refine wp_seq' ?_
    refine wp_region_t ?_
    refine w1 (mv 71 5 (V.b (.a (.sl 9 0 ((bitsL (covS (ds.take k))).length))))) ?_
    refine w1 (acts_load_owns (d := 72) (t := 7) (h := 7) (off := 0) (o := ⟨53, 2, true, [(.val (.int .i64 ((ca (gD ds k)).x)) : A), .val (.int .i64 ((ca (gD ds k)).y))]⟩)  (xs := [(.int .i64 ((ca (gD ds k)).x) : Value), .int .i64 ((ca (gD ds k)).y)].map A.val) (ltN rfl) qC3w_ti_53 rfl (by decide) rfl) ?_
    refine w1 (acts_call1 (d := 73) (ltN rfl) (spec_CellIndex_fn (ca (gD ds k)) (by exact ok_ca (by assumption))) (ArgVs.cons (ArgV.va (vs := [(.int .i64 ((ca (gD ds k)).x) : Value), .int .i64 ((ca (gD ds k)).y)]) (OpV.agg 72 [(.int .i64 ((ca (gD ds k)).x) : Value), .int .i64 ((ca (gD ds k)).y)])) (ArgVs.nil)) (ResV.val _)) ?_
    refine w1 (acts_index_sl (d := 74) (x := 71) (h := 9) (off := 0) (n := ((bitsL (covS (ds.take k))).length)) (k := (idx (ca (gD ds k)))) (off' := ((idx (ca (gD ds k))) * 1)) (o := ⟨4, 1, true, pl (bsl (bitsL (covS (ds.take k))))⟩) (ltN rfl) qC3w_un_94 qC3w_sz_4 (OpV.tmp 73 (.int .i64 (((idx (ca (gD ds k))) : Nat) : Int))) rfl (by (have := idx_lt (ok_ca (d := gD ds k) (by assumption)); have := idx_lt (ok_cb (d := gD ds k) (by assumption)); simp [bitsL_len] at *; omega)) (by (simp; done))) ?_
    refine w1 (acts_store (t := 74) (h := 9) (off := ((idx (ca (gD ds k))) * 1)) (o := ⟨4, 1, true, pl (bsl (bitsL (covS (ds.take k))))⟩) (b := .a (.val (.bool true))) (cells := pl (bsl ((bitsL (covS (ds.take k))).set (idx (ca (gD ds k))) true))) qC3w_ti_4 (OpX.const (.bool true)) rfl (by decide) (by intro y hy; simp [B.cs] at hy; subst hy; rfl) (by simp only [pl_len, bsl_len]; first | omega | assumption | exact ok_ca (by assumption) | exact ok_cb (by assumption) | (have := idx_lt (ok_ca (d := gD ds k) (by assumption)); have := idx_lt (ok_cb (d := gD ds k) (by assumption)); simp [bitsL_len] at *; omega)) (bsl_put (k := (idx (ca (gD ds k)))) (by (have := idx_lt (ok_ca (d := gD ds k) (by assumption)); have := idx_lt (ok_cb (d := gD ds k) (by assumption)); simp [bitsL_len] at *; omega)))) ?_
    refine wpl_nil ?_
    refine wp_region_t ?_
    refine w1 (mv 75 5 (V.b (.a (.sl 9 0 ((bitsL (covS (ds.take k))).length))))) ?_
    refine w1 (acts_load_owns (d := 76) (t := 8) (h := 8) (off := 0) (o := ⟨53, 2, true, [(.val (.int .i64 ((cb (gD ds k)).x)) : A), .val (.int .i64 ((cb (gD ds k)).y))]⟩)  (xs := [(.int .i64 ((cb (gD ds k)).x) : Value), .int .i64 ((cb (gD ds k)).y)].map A.val) (ltN rfl) qC3w_ti_53 rfl (by decide) rfl) ?_
    refine w1 (acts_call1 (d := 77) (ltN rfl) (spec_CellIndex_fn (cb (gD ds k)) (by exact ok_cb (by assumption))) (ArgVs.cons (ArgV.va (vs := [(.int .i64 ((cb (gD ds k)).x) : Value), .int .i64 ((cb (gD ds k)).y)]) (OpV.agg 76 [(.int .i64 ((cb (gD ds k)).x) : Value), .int .i64 ((cb (gD ds k)).y)])) (ArgVs.nil)) (ResV.val _)) ?_
    refine w1 (acts_index_sl (d := 78) (x := 75) (h := 9) (off := 0) (n := ((bitsL (covS (ds.take k))).length)) (k := (idx (cb (gD ds k)))) (off' := ((idx (cb (gD ds k))) * 1)) (o := ⟨4, 1, true, pl (bsl ((bitsL (covS (ds.take k))).set (idx (ca (gD ds k))) true))⟩) (ltN rfl) qC3w_un_94 qC3w_sz_4 (OpV.tmp 77 (.int .i64 (((idx (cb (gD ds k))) : Nat) : Int))) rfl (by (have := idx_lt (ok_ca (d := gD ds k) (by assumption)); have := idx_lt (ok_cb (d := gD ds k) (by assumption)); simp [bitsL_len] at *; omega)) (by (simp; done))) ?_
    refine w1 (acts_store (t := 78) (h := 9) (off := ((idx (cb (gD ds k))) * 1)) (o := ⟨4, 1, true, pl (bsl ((bitsL (covS (ds.take k))).set (idx (ca (gD ds k))) true))⟩) (b := .a (.val (.bool true))) (cells := pl (bsl (((bitsL (covS (ds.take k))).set (idx (ca (gD ds k))) true).set (idx (cb (gD ds k))) true))) qC3w_ti_4 (OpX.const (.bool true)) rfl (by decide) (by intro y hy; simp [B.cs] at hy; subst hy; rfl) (by simp only [pl_len, bsl_len]; first | omega | assumption | exact ok_ca (by assumption) | exact ok_cb (by assumption) | (have := idx_lt (ok_ca (d := gD ds k) (by assumption)); have := idx_lt (ok_cb (d := gD ds k) (by assumption)); simp [bitsL_len] at *; omega)) (bsl_put (k := (idx (cb (gD ds k)))) (by (have := idx_lt (ok_ca (d := gD ds k) (by assumption)); have := idx_lt (ok_cb (d := gD ds k) (by assumption)); simp [bitsL_len] at *; omega)))) ?_
    refine wpl_nil ?_
    refine wp_region_t ?_
    refine w1 (mv 14 6 (V.v (.int .i64 ((k : Nat) : Int)))) ?_
    refine w1 (bn 15 (OpV.tmp 14 (.int .i64 ((k : Nat) : Int))) (OpV.const (.int .i64 1)) (r_add (c := (((k : Nat) : Int) + 1)) (w64 (by omega) (by omega)))) ?_
    refine w1 (asg 6 15 (V.v (.int .i64 (((k : Nat) : Int) + 1)))) ?_
    refine wpl_nil ?_
    exact loop_back ((k + 1)) (by refine ⟨by omega, .inr (hasC_reg (by assumption)), parT_snoc (by assumption) ?_⟩; rw [step_eq (hasC_reg (by assumption)) (by assumption)]; simp_all; (try omega)) (by show ds.length - (k + 1) < ds.length - k; omega) (weak_of id [7, 8, 12, 20, 35, 44, 49, 54, 60, 67, 73, 77, 80] (by kernel_rfl) (wk_s (v' := V.b (.a (.slv ds.length 3 (dsl ds)))) (by kernel_rfl) rfl rfl (wk_s (v' := V.p 2 0) (by kernel_rfl) rfl rfl (wk_s (v' := V.b (.a (.sl 9 0 ((bitsL (covS (ds.take k))).length)))) (by kernel_rfl) (vsl (by rfl) rfl) rfl (wk_s (v' := V.v (.int .i64 (((k : Nat) : Int) + 1))) (by kernel_rfl) (vint (by rfl)) rfl (wk_o (o' := ⟨29, 1, true, [(.slv l.length 1 (isl l) : A)]⟩) (by kernel_rfl) (renob_l (fun h => h) rfl rfl) rfl (wk_o (o' := ⟨4, 1, true, pl (bsl (((bitsL (covS (ds.take k))).set (idx (ca (gD ds k))) true).set (idx (cb (gD ds k))) true))⟩) (by kernel_rfl) (renob_eq (fun h => h) (congrArg bsl (by (rw [bits_step (by omega) (by assumption)])))) rfl (wk_f rfl (wk_f rfl (wk_f rfl (wk_f rfl (wk_f rfl (wk_f rfl (wk_f rfl (wk_f rfl (wk_f rfl (wk_f rfl (wk_f rfl (wk_f rfl (wk_f rfl (wk_nil)))))))))))))))))))))
 ·skip
  have c2P := of_decide_eq_false c2
  refine wp_exit' ?_
  refine wp_seq' ?_
  refine wp_region_t ?_
  refine w1 (acts_load_owns (d := 79) (t := 2) (h := 2) (off := 0) (o := ⟨29, 1, true, [(.slv l.length 1 (isl l) : A)]⟩)  (xs := [(.slv l.length 1 (isl l) : A)]) (ltN rfl) qC3w_ti_29 rfl (by decide) rfl) ?_
  refine w1 (acts_call1 (d := 80) (ltN rfl) (spec_RegionOk_fn l (by omega)) (ArgVs.cons (ArgV.regv 79 l.length 1 (isl l)) (ArgVs.nil)) (ResV.val _)) ?_
  refine w1 (asg 4 80 (V.v (.bool (regOk l)))) ?_
  refine wpl_nil ?_
  refine wp_ret' ?_
  exact VRes.tmp 4 (.a (.val (.bool (regOk l)))) _ (by kernel_rfl) (bval (congrArg Value.bool (by exact isPar_end (by omega) (by omega) (by assumption))))

set_option maxHeartbeats 4000000 in
set_option maxRecDepth 100000 in
theorem impl_IsTiling_fn (l : List Int) (ds : List Dom) (hl : l.length ≤ 4194304) (hd : ds.length ≤ 2097152) : Fn Try.prog 45 [.agg [(.slv l.length 1 (isl l) : A)], .a (.slv ds.length 3 (dsl ds))] [.val (.bool (isTil l ds))] := by
 refine fn_intro (N := 15) Try.func45 rfl (by kernel_rfl) rfl (Nat.le_of_ble_eq_true rfl) [2, 7, 10, 12] (ret1 rfl) (fun W => ?_)
 show Wp _ _ _ [(.s 0, some (.s (V.b (.agg [(.slv l.length 1 (isl l) : A)])))), (.s 1, some (.s (V.b (.a (.slv ds.length 3 (dsl ds)))))), (.o 2, some .free), (.o 7, some .free), (.o 10, some .free), (.o 12, some .free)]
 refine wp_seq' ?_
 refine wp_region_t ?_
 refine w1 (acts_box (d := 2) (h := 2) (b := .agg [(.slv l.length 1 (isl l) : A)]) (ltN rfl) (OpX.tmp 0 (V.b (.agg [(.slv l.length 1 (isl l) : A)]))) (by intro y hy; simp [B.cs] at hy; subst hy; rfl)) ?_
 refine w1 (acts_assign (d := 4) (ltN rfl) (OpX.const (.bool false))) ?_
 refine wpl_nil ?_
 refine wp_seq' ?_
 rcases Bool.eq_false_or_eq_true ((isPar l ds)) with c1 | c1
 ·skip
  refine wp_drawn' (by kernel_rfl) (AllSteps.cons (step_plain rfl (acts_load_owns (d := 5) (t := 2) (h := 2) (off := 0) (o := ⟨29, 1, true, [(.slv l.length 1 (isl l) : A)]⟩)  (xs := [(.slv l.length 1 (isl l) : A)]) (ltN rfl) qC3w_ti_29 rfl (by decide) rfl)) (AllSteps.cons (step_plain rfl (mv 6 1 (V.b (.a (.slv ds.length 3 (dsl ds)))))) (AllSteps.cons (step_plain rfl (acts_call1 (d := 7) (ltN rfl) (impl_IsPartial_fn l ds (by omega) (by omega)) (ArgVs.cons (ArgV.regv 5 l.length 1 (isl l)) (ArgVs.cons (ArgV.slv 6 ds.length 3 (dsl ds)) (ArgVs.nil))) ((resval (congrArg Value.bool c1))))) (AllSteps.cons (step_plain rfl (mv 8 7 (V.v (.bool true)))) (AllSteps.cons (step_on (dj := 8) rfl rfl (mv 9 1 (V.b (.a (.slv ds.length 3 (dsl ds)))))) (AllSteps.cons (step_on (dj := 8) rfl rfl (acts_call1 (d := 10) (ltN rfl) (impl_covered_fn ds (by omega)) (ArgVs.cons (ArgV.slv 9 ds.length 3 (dsl ds)) (ArgVs.nil)) (ResV.val _))) (AllSteps.cons (step_on (dj := 8) rfl rfl (acts_load_owns (d := 11) (t := 2) (h := 2) (off := 0) (o := ⟨29, 1, true, [(.slv l.length 1 (isl l) : A)]⟩)  (xs := [(.slv l.length 1 (isl l) : A)]) (ltN rfl) qC3w_ti_29 rfl (by decide) rfl)) (AllSteps.cons (step_on (dj := 8) rfl rfl (acts_call1 (d := 12) (ltN rfl) (impl_Region__set_fn l (by exact (isPar_step (by assumption)).1)) (ArgVs.cons (ArgV.regv 11 l.length 1 (isl l)) (ArgVs.nil)) (ResV.val _))) (AllSteps.cons (step_on (dj := 8) rfl rfl (bn 13 (OpV.tmp 10 (.int .u64 (((covS ds) : Nat) : Int))) (OpV.tmp 12 (.int .u64 (((regSet l) : Nat) : Int))) (r_eql (c := (decide ((((covS ds) : Nat) : Int) = (((regSet l) : Nat) : Int)))) rfl))) (AllSteps.cons (step_plain rfl (acts_pick_t (d := 14) (ltN rfl) (OpV.tmp 8 (.bool true)) (OpX.tmp 13 (V.v (.bool (decide ((((covS ds) : Nat) : Int) = (((regSet l) : Nat) : Int)))))))) (AllSteps.cons (step_plain rfl (asg 4 14 (V.v (.bool (decide ((((covS ds) : Nat) : Int) = (((regSet l) : Nat) : Int))))))) (AllSteps.nil)))))))))))) (by kernel_rfl) (by kernel_rfl) (by kernel_rfl) ?_
  refine wp_ret' ?_
  exact VRes.tmp 4 (.a (.val (.bool (decide ((((covS ds) : Nat) : Int) = (((regSet l) : Nat) : Int)))))) _ (by kernel_rfl) (bval (congrArg Value.bool (by (simp_all [isTil, natI]; done))))
 ·skip
  refine wp_drawn' (by kernel_rfl) (AllSteps.cons (step_plain rfl (acts_load_owns (d := 5) (t := 2) (h := 2) (off := 0) (o := ⟨29, 1, true, [(.slv l.length 1 (isl l) : A)]⟩)  (xs := [(.slv l.length 1 (isl l) : A)]) (ltN rfl) qC3w_ti_29 rfl (by decide) rfl)) (AllSteps.cons (step_plain rfl (mv 6 1 (V.b (.a (.slv ds.length 3 (dsl ds)))))) (AllSteps.cons (step_plain rfl (acts_call1 (d := 7) (ltN rfl) (impl_IsPartial_fn l ds (by omega) (by omega)) (ArgVs.cons (ArgV.regv 5 l.length 1 (isl l)) (ArgVs.cons (ArgV.slv 6 ds.length 3 (dsl ds)) (ArgVs.nil))) ((resval (congrArg Value.bool c1))))) (AllSteps.cons (step_plain rfl (mv 8 7 (V.v (.bool false)))) (AllSteps.cons (step_off (dj := 8) (b' := false) rfl rfl (by decide) rfl (ltN rfl)) (AllSteps.cons (step_off (dj := 8) (b' := false) rfl rfl (by decide) rfl (ltN rfl)) (AllSteps.cons (step_off (dj := 8) (b' := false) rfl rfl (by decide) rfl (ltN rfl)) (AllSteps.cons (step_off (dj := 8) (b' := false) rfl rfl (by decide) rfl (ltN rfl)) (AllSteps.cons (step_off (dj := 8) (b' := false) rfl rfl (by decide) rfl (ltN rfl)) (AllSteps.cons (step_plain rfl (acts_pick_f (d := 14) (ltN rfl) (OpV.tmp 8 (.bool false)) (OpX.const (.bool false)))) (AllSteps.cons (step_plain rfl (asg 4 14 (V.v (.bool false)))) (AllSteps.nil)))))))))))) (by kernel_rfl) (by kernel_rfl) (by kernel_rfl) ?_
  refine wp_ret' ?_
  exact VRes.tmp 4 (.a (.val (.bool false))) _ (by kernel_rfl) (bval (congrArg Value.bool (by (simp_all [isTil, natI]; done))))

set_option maxHeartbeats 4000000 in
set_option maxRecDepth 100000 in
theorem spec_IsTiling_fn (l : List Int) (ds : List Dom) (hl : l.length ≤ 4194304) (hd : ds.length ≤ 2097152) : Fn Try.prog 36 [.agg [(.slv l.length 1 (isl l) : A)], .a (.slv ds.length 3 (dsl ds))] [.val (.bool (isTil l ds))] := by
 have h64 := cellsOf_len l
 refine fn_intro (N := 16) Try.func36 rfl (by kernel_rfl) rfl (Nat.le_of_ble_eq_true rfl) [2, 7, 10, 13] (ret1 rfl) (fun W => ?_)
 show Wp _ _ _ [(.s 0, some (.s (V.b (.agg [(.slv l.length 1 (isl l) : A)])))), (.s 1, some (.s (V.b (.a (.slv ds.length 3 (dsl ds)))))), (.o 2, some .free), (.o 7, some .free), (.o 10, some .free), (.o 13, some .free)]
 refine wp_seq' ?_
 refine wp_region_t ?_
 refine w1 (acts_box (d := 2) (h := 2) (b := .agg [(.slv l.length 1 (isl l) : A)]) (ltN rfl) (OpX.tmp 0 (V.b (.agg [(.slv l.length 1 (isl l) : A)]))) (by intro y hy; simp [B.cs] at hy; subst hy; rfl)) ?_
 refine w1 (acts_assign (d := 4) (ltN rfl) (OpX.const (.bool false))) ?_
 refine wpl_nil ?_
 refine wp_seq' ?_
 rcases Bool.eq_false_or_eq_true ((isPar l ds)) with c1 | c1
 ·skip
  refine wp_region_t ?_
  refine w1 (acts_load_owns (d := 5) (t := 2) (h := 2) (off := 0) (o := ⟨29, 1, true, [(.slv l.length 1 (isl l) : A)]⟩)  (xs := [(.slv l.length 1 (isl l) : A)]) (ltN rfl) qC3w_ti_29 rfl (by decide) rfl) ?_
  refine w1 (mv 6 1 (V.b (.a (.slv ds.length 3 (dsl ds))))) ?_
  refine w1 (acts_call1 (d := 7) (ltN rfl) (spec_IsPartial_fn l ds (by omega) (by omega)) (ArgVs.cons (ArgV.regv 5 l.length 1 (isl l)) (ArgVs.cons (ArgV.slv 6 ds.length 3 (dsl ds)) (ArgVs.nil))) ((resval (congrArg Value.bool c1)))) ?_
  refine w1 (mv 8 7 (V.v (.bool true))) ?_
  refine w2 (step_on (dj := 8) rfl rfl (mv 9 1 (V.b (.a (.slv ds.length 3 (dsl ds)))))) ?_
  refine w2 (step_on (dj := 8) rfl rfl (acts_len (d := 10) (X := .slv ds.length 3 (dsl ds)) (n := ds.length) (iv := ((ds.length : Nat) : Int)) (ltN rfl) qC3w_un_31 (OpX.tmp 9 (V.b (.a (.slv ds.length 3 (dsl ds))))) (LenOf.slv _ _ _) rfl)) ?_
  refine w2 (step_on (dj := 8) rfl rfl (bn 11 (OpV.const (.int .i64 2)) (OpV.tmp 10 (.int .i64 ((ds.length : Nat) : Int))) (r_mul (c := (2 * ((ds.length : Nat) : Int))) (w64 (by omega) (by omega))))) ?_
  refine w2 (step_on (dj := 8) rfl rfl (acts_load_owns (d := 12) (t := 2) (h := 2) (off := 0) (o := ⟨29, 1, true, [(.slv l.length 1 (isl l) : A)]⟩)  (xs := [(.slv l.length 1 (isl l) : A)]) (ltN rfl) qC3w_ti_29 rfl (by decide) rfl)) ?_
  refine w2 (step_on (dj := 8) rfl rfl (acts_call1 (d := 13) (ltN rfl) (spec_CountCells_fn l (by omega)) (ArgVs.cons (ArgV.regv 12 l.length 1 (isl l)) (ArgVs.nil)) (ResV.val _))) ?_
  refine w2 (step_on (dj := 8) rfl rfl (bn 14 (OpV.tmp 11 (.int .i64 (2 * ((ds.length : Nat) : Int)))) (OpV.tmp 13 (.int .i64 (((cellsOf l).length : Nat) : Int))) (r_eql (c := (decide ((2 * ((ds.length : Nat) : Int)) = (((cellsOf l).length : Nat) : Int)))) rfl))) ?_
  refine w1 (acts_pick_t (d := 15) (ltN rfl) (OpV.tmp 8 (.bool true)) (OpX.tmp 14 (V.v (.bool (decide ((2 * ((ds.length : Nat) : Int)) = (((cellsOf l).length : Nat) : Int))))))) ?_
  refine w1 (asg 4 15 (V.v (.bool (decide ((2 * ((ds.length : Nat) : Int)) = (((cellsOf l).length : Nat) : Int)))))) ?_
  refine wpl_nil ?_
  refine wp_ret' ?_
  exact VRes.tmp 4 (.a (.val (.bool (decide ((2 * ((ds.length : Nat) : Int)) = (((cellsOf l).length : Nat) : Int)))))) _ (by kernel_rfl) (bval (congrArg Value.bool (by (rw [isTil_count (by assumption), decide_eq_decide]; omega))))
 ·skip
  refine wp_region_t ?_
  refine w1 (acts_load_owns (d := 5) (t := 2) (h := 2) (off := 0) (o := ⟨29, 1, true, [(.slv l.length 1 (isl l) : A)]⟩)  (xs := [(.slv l.length 1 (isl l) : A)]) (ltN rfl) qC3w_ti_29 rfl (by decide) rfl) ?_
  refine w1 (mv 6 1 (V.b (.a (.slv ds.length 3 (dsl ds))))) ?_
  refine w1 (acts_call1 (d := 7) (ltN rfl) (spec_IsPartial_fn l ds (by omega) (by omega)) (ArgVs.cons (ArgV.regv 5 l.length 1 (isl l)) (ArgVs.cons (ArgV.slv 6 ds.length 3 (dsl ds)) (ArgVs.nil))) ((resval (congrArg Value.bool c1)))) ?_
  refine w1 (mv 8 7 (V.v (.bool false))) ?_
  refine w2 (step_off (dj := 8) (b' := false) rfl rfl (by decide) rfl (ltN rfl)) ?_
  refine w2 (step_off (dj := 8) (b' := false) rfl rfl (by decide) rfl (ltN rfl)) ?_
  refine w2 (step_off (dj := 8) (b' := false) rfl rfl (by decide) rfl (ltN rfl)) ?_
  refine w2 (step_off (dj := 8) (b' := false) rfl rfl (by decide) rfl (ltN rfl)) ?_
  refine w2 (step_off (dj := 8) (b' := false) rfl rfl (by decide) rfl (ltN rfl)) ?_
  refine w2 (step_off (dj := 8) (b' := false) rfl rfl (by decide) rfl (ltN rfl)) ?_
  refine w1 (acts_pick_f (d := 15) (ltN rfl) (OpV.tmp 8 (.bool false)) (OpX.const (.bool false))) ?_
  refine w1 (asg 4 15 (V.v (.bool false))) ?_
  refine wpl_nil ?_
  refine wp_ret' ?_
  exact VRes.tmp 4 (.a (.val (.bool false))) _ (by kernel_rfl) (bval (congrArg Value.bool (by (simp_all [isTil]; done))))
end Cl
end Go.Proofs.Ytmbodpmhokbapaa
