/- Walks over clean states, printed by wg.py. No statement is proved here. -/
import Derived.Test.YtabgfoindidigaaC10
import Derived.Test.YtabgfoindidigaaC1
namespace Go.Proofs.Ytabgfoindidigaa
namespace Cl
open Go.ChangeShapes Go.WideShapes Go.ChangeAt Go.RowKit

theorem qC11_fo_32_0 : fieldOff Try.prog 32 0 = some 0 := by kernel_rfl
theorem qC11_fo_39_0 : fieldOff Try.prog 39 0 = some 0 := by kernel_rfl
theorem qC11_fo_39_1 : fieldOff Try.prog 39 1 = some 1 := by kernel_rfl
theorem qC11_sz_3 : (Try.prog.info? 3).map (·.size) = some 1 := by kernel_rfl
theorem qC11_ti_22 : TI Try.prog 22 false 1 := ⟨⟨_, Try.underlying22, rfl⟩, by kernel_rfl⟩
theorem qC11_ti_3 : TI Try.prog 3 false 1 := ⟨⟨_, Try.underlying3, rfl⟩, by kernel_rfl⟩
theorem qC11_ti_39 : TI Try.prog 39 true 2 := ⟨⟨_, Try.underlying39, rfl⟩, by kernel_rfl⟩
theorem qC11_ti_58 : TI Try.prog 58 false 1 := ⟨⟨_, Try.underlying58, rfl⟩, by kernel_rfl⟩
theorem qC11_un_22 : Try.prog.underlying 22 = some (.slice 3) := Try.underlying22
theorem qC11_zi_22 : ZI Try.prog 22 (.slice none 0 0) 1 24 := by unfold ZI; kernel_rfl
theorem qC11_zi_3 : ZI Try.prog 3 (.int .i64 0) 1 8 := by unfold ZI; kernel_rfl
theorem qC11_zi_39 : ZI Try.prog 39 (.agg #[.int .i64 0, .int .i64 0]) 2 16 := by unfold ZI; kernel_rfl
set_option maxHeartbeats 4000000 in
set_option maxRecDepth 100000 in
theorem impl_set__count_1_fn (a b : Int) (h1 : -4611686018427387904 ≤ a + b) (h2 : a + b ≤ 4611686018427387904) : Fn Try.prog 87 [.a (.val (.int .i64 a)), .a (.val (.int .i64 b))] [.val (.int .i64 (a + b))] := by
  refine fn_intro (N := 8) Try.func87 rfl (by kernel_rfl) rfl (Nat.le_of_ble_eq_true rfl) [] (ret1 rfl) (fun W => ?_)
  show Wp _ _ _ [(.s 0, some (.s (V.v (.int .i64 a)))), (.s 1, some (.s (V.v (.int .i64 b))))]
  refine wp_seq' ?_
  refine wp_region_t ?_
  refine wpc (step_plain rfl (acts_assign (d := 4) (ltN rfl) (OpX.const (.int .i64 0)))) (by kernel_rfl) ?_
  refine wpl_nil ?_
  refine wp_seq' ?_
  refine wp_region_t ?_
  refine wpc (step_plain rfl (acts_move (d := 5) (ltN rfl) (OpX.tmp 0 (V.v (.int .i64 a))))) (by kernel_rfl) ?_
  refine wpc (step_plain rfl (acts_move (d := 6) (ltN rfl) (OpX.tmp 1 (V.v (.int .i64 b))))) (by kernel_rfl) ?_
  refine wpc (step_plain rfl (acts_bin (d := 7) (ltN rfl) (OpV.tmp 5 (.int .i64 a)) (OpV.tmp 6 (.int .i64 b)) (r_add (c := (a + b)) (w64 (by omega) (by omega))))) (by kernel_rfl) ?_
  refine wpc (step_plain rfl (acts_assign (d := 4) (ltN rfl) (OpX.tmp 7 (V.v (.int .i64 (a + b)))))) (by kernel_rfl) ?_
  refine wpl_nil ?_
  refine wp_ret' ?_
  exact VRes.tmp 4 (.a (.val (.int .i64 (a + b)))) _ (by kernel_rfl) (BRes.val _)

set_option maxHeartbeats 4000000 in
set_option maxRecDepth 100000 in
theorem impl_set__count_2_fn (n : Int) (d : Dom) : Fn Try.prog 88 [.a (.val (.int .i64 n)), .agg ([(.int .i64 d.x : Value), .int .i64 d.y, .bool d.d].map A.val)] [.val (.int .i64 (wth d.x n))] := by
  refine fn_intro (N := 9) Try.func88 rfl (by kernel_rfl) rfl (Nat.le_of_ble_eq_true rfl) [3] (ret1 rfl) (fun W => ?_)
  show Wp _ _ _ [(.s 0, some (.s (V.v (.int .i64 n)))), (.s 1, some (.s (V.av [(.int .i64 d.x : Value), .int .i64 d.y, .bool d.d]))), (.o 3, some .free)]
  refine wp_seq' ?_
  refine wp_region_t ?_
  refine wpc (step_plain rfl (acts_box (d := 3) (h := 3) (b := .agg ([(.int .i64 d.x : Value), .int .i64 d.y, .bool d.d].map A.val)) (ltN rfl) (OpX.tmp 1 (V.av [(.int .i64 d.x : Value), .int .i64 d.y, .bool d.d])) (by intro y hy; simp [B.cs] at hy; rcases hy with rfl | rfl | rfl <;> rfl))) (by kernel_rfl) ?_
  refine wpc (step_plain rfl (acts_assign (d := 4) (ltN rfl) (OpX.const (.int .i64 0)))) (by kernel_rfl) ?_
  refine wpl_nil ?_
  refine wp_seq' ?_
  refine wp_seq' ?_
  refine wp_region_t ?_
  refine wpc (step_plain rfl (acts_field (d := 5) (t := 3) (h := 3) (off := 0) (off' := 0) (ltN rfl) qC11_fo_32_0 rfl)) (by kernel_rfl) ?_
  refine wpc (step_plain rfl (acts_load_own (d := 6) (t := 5) (h := 3) (off := 0) (o := ⟨32, 3, true, [(.val (.int .i64 d.x) : A), .val (.int .i64 d.y), .val (.bool d.d)]⟩)  (x := .val (.int .i64 d.x)) (ltN rfl) qC11_ti_3 rfl)) (by kernel_rfl) ?_
  refine wpc (step_plain rfl (acts_bin (d := 7) (ltN rfl) (OpV.tmp 6 (.int .i64 d.x)) (OpV.const (.int .i64 0)) (r_lss (c := (decide (d.x < 0))) rfl))) (by kernel_rfl) ?_
  refine wpl_nil ?_
  refine wp_if (t := 7) (decide (d.x < 0)) (by kernel_rfl) (fun c1 => ?_) (fun c1 => ?_)
  · skip
    have c1P := of_decide_eq_true c1
    refine wp_seq' ?_
    refine wp_region_t ?_
    refine wpc (step_plain rfl (acts_assign (d := 4) (ltN rfl) (OpX.const (.int .i64 1)))) (by kernel_rfl) ?_
    refine wpl_nil ?_
    refine wp_ret' ?_
    exact VRes.tmp 4 (.a (.val (.int .i64 1))) _ (by kernel_rfl) (bval (congrArg (Value.int .i64) (by unfold wth; rw [if_pos (by omega)])))
  · skip
    have c1P := of_decide_eq_false c1
    refine wp_skip' ?_
    refine wp_seq' ?_
    refine wp_region_t ?_
    refine wpc (step_plain rfl (acts_move (d := 8) (ltN rfl) (OpX.tmp 0 (V.v (.int .i64 n))))) (by kernel_rfl) ?_
    refine wpc (step_plain rfl (acts_assign (d := 4) (ltN rfl) (OpX.tmp 8 (V.v (.int .i64 n))))) (by kernel_rfl) ?_
    refine wpl_nil ?_
    refine wp_ret' ?_
    exact VRes.tmp 4 (.a (.val (.int .i64 n))) _ (by kernel_rfl) (bval (congrArg (Value.int .i64) (by unfold wth; rw [if_neg (by omega)])))

set_option maxHeartbeats 4000000 in
set_option maxRecDepth 100000 in
theorem impl_profile_1_fn (k m : Nat) (n : Int) (L : List Int) (hk : k < 256) (hL : L.length = 256) (hm : m = 256) (hn : 0 ≤ n ∧ n ≤ 1099511627776) (hg : 0 ≤ gI L k ∧ gI L k ≤ 1099511627776) : FnO Try.prog 96 [.a (.val (.int .i64 ((k : Nat) : Int))), .a (.val (.int .i64 n)), .a (.ptr 2 0), .a (.ptr 3 0), .a (.ptr 4 0)] [(.o 2, some (.o ⟨22, 1, true, [(.sl 9 0 m : A)]⟩)), (.o 3, some (.o ⟨3, 1, true, [(.val (.int .i64 0) : A)]⟩)), (.o 4, some (.o ⟨58, 1, true, [(.fn 87 [] : A)]⟩)), (.o 9, some (.o ⟨3, 1, true, pl (isl L)⟩))] (V.v (.tuple #[])) [(.o 2, some (.o ⟨22, 1, true, [(.sl 9 0 m : A)]⟩)), (.o 3, some (.o ⟨3, 1, true, [(.val (.int .i64 0) : A)]⟩)), (.o 4, some (.o ⟨58, 1, true, [(.fn 87 [] : A)]⟩)), (.o 9, some (.o ⟨3, 1, true, pl (isl (putI L k n))⟩))] [2, 3, 4, 9] := by
  refine fn_introO (N := 27) Try.func96 rfl (by kernel_rfl) rfl (Nat.le_of_ble_eq_true rfl) rfl rfl (by kernel_rfl) (by kernel_rfl) ⟨ocs (by kernel_rfl), ocs (by kernel_rfl), ocs (by kernel_rfl), oc_pl (fun _ => rfl), trivial⟩ [25] (retO0 rfl) (fun W own kp im0 => ?_)
  show Wp _ _ _ [(.s 0, some (.s (V.v (.int .i64 ((k : Nat) : Int))))), (.s 1, some (.s (V.v (.int .i64 n)))), (.s 2, some (.s (V.p 2 0))), (.s 3, some (.s (V.p 3 0))), (.s 4, some (.s (V.p 4 0))), (.o 2, some (.o ⟨22, 1, true, [(.sl 9 0 m : A)]⟩)), (.o 3, some (.o ⟨3, 1, true, [(.val (.int .i64 0) : A)]⟩)), (.o 4, some (.o ⟨58, 1, true, [(.fn 87 [] : A)]⟩)), (.o 9, some (.o ⟨3, 1, true, pl (isl L)⟩)), (.o 25, some .free)]
  refine wp_seq' ?_
  refine wp_drawn' (by kernel_rfl) (AllSteps.cons (step_plain rfl (acts_load_own (d := 7) (t := 2) (h := 2) (off := 0) (o := ⟨22, 1, true, [(.sl 9 0 m : A)]⟩)  (x := .sl 9 0 m) (ltN rfl) qC11_ti_22 rfl)) (AllSteps.cons (step_plain rfl (acts_move (d := 8) (ltN rfl) (OpX.tmp 0 (V.v (.int .i64 ((k : Nat) : Int)))))) (AllSteps.cons (step_plain rfl (acts_index_sl (d := 9) (x := 7) (h := 9) (off := 0) (n := m) (k := k) (off' := (k * 1)) (o := ⟨3, 1, true, pl (isl L)⟩) (ltN rfl) qC11_un_22 qC11_sz_3 (OpV.tmp 8 (.int .i64 ((k : Nat) : Int))) rfl (by omega) (by (simp; done)))) (AllSteps.cons (step_plain rfl (acts_load_own (d := 10) (t := 9) (h := 9) (off := (k * 1)) (o := ⟨3, 1, true, pl (isl L)⟩)  (x := .val (.int .i64 (gI L k))) (ltN rfl) qC11_ti_3 (pl_get (isl_get1 (k := k) (by omega))))) (AllSteps.cons (step_plain rfl (acts_load_own (d := 11) (t := 3) (h := 3) (off := 0) (o := ⟨3, 1, true, [(.val (.int .i64 0) : A)]⟩)  (x := .val (.int .i64 0)) (ltN rfl) qC11_ti_3 rfl)) (AllSteps.cons (step_plain rfl (acts_bin (d := 12) (ltN rfl) (OpV.tmp 10 (.int .i64 (gI L k))) (OpV.tmp 11 (.int .i64 0)) (r_eql (c := (decide ((gI L k) = 0))) rfl))) (AllSteps.nil))))))) (by kernel_rfl) (by kernel_rfl) (by kernel_rfl) ?_
  refine wp_if (t := 12) (decide ((gI L k) = 0)) (by kernel_rfl) (fun c1 => ?_) (fun c1 => ?_)
  · skip
    have c1P := of_decide_eq_true c1
    refine wp_region_t ?_
    refine wpc (step_plain rfl (acts_load_own (d := 13) (t := 2) (h := 2) (off := 0) (o := ⟨22, 1, true, [(.sl 9 0 m : A)]⟩)  (x := .sl 9 0 m) (ltN rfl) qC11_ti_22 rfl)) (by kernel_rfl) ?_
    refine wpc (step_plain rfl (acts_move (d := 14) (ltN rfl) (OpX.tmp 0 (V.v (.int .i64 ((k : Nat) : Int)))))) (by kernel_rfl) ?_
    refine wpc (step_plain rfl (acts_move (d := 15) (ltN rfl) (OpX.tmp 1 (V.v (.int .i64 n))))) (by kernel_rfl) ?_
    refine wpc (step_plain rfl (acts_index_sl (d := 16) (x := 13) (h := 9) (off := 0) (n := m) (k := k) (off' := (k * 1)) (o := ⟨3, 1, true, pl (isl L)⟩) (ltN rfl) qC11_un_22 qC11_sz_3 (OpV.tmp 14 (.int .i64 ((k : Nat) : Int))) rfl (by omega) (by (simp; done)))) (by kernel_rfl) ?_
    refine wpc (step_plain rfl (acts_store (t := 16) (h := 9) (off := (k * 1)) (o := ⟨3, 1, true, pl (isl L)⟩) (b := .a (.val (.int .i64 n))) (cells := pl (isl (L.set k n))) qC11_ti_3 (OpX.tmp 15 (V.v (.int .i64 n))) rfl (by decide) (by intro y hy; simp [B.cs] at hy; subst hy; rfl) (by simp only [pl_len, isl_len]; omega) (isl_put (k := k) (by omega)))) (by kernel_rfl) ?_
    refine wpl_nil ?_
    exact ⟨_, weak_id, ⟨by kernel_rfl, by kernel_rfl, by kernel_rfl, obj_eq (c := pl (isl (L.set k n))) (by kernel_rfl) (congrArg (fun z => pl (isl z)) (by (unfold putI; rw [show gI L k = 0 by assumption, Int.zero_add]))), trivial⟩, trivial⟩
  · skip
    have c1P := of_decide_eq_false c1
    refine wp_drawn' (by kernel_rfl) (AllSteps.cons (step_plain rfl (acts_load_own (d := 17) (t := 2) (h := 2) (off := 0) (o := ⟨22, 1, true, [(.sl 9 0 m : A)]⟩)  (x := .sl 9 0 m) (ltN rfl) qC11_ti_22 rfl)) (AllSteps.cons (step_plain rfl (acts_move (d := 18) (ltN rfl) (OpX.tmp 0 (V.v (.int .i64 ((k : Nat) : Int)))))) (AllSteps.cons (step_plain rfl (acts_load_own (d := 19) (t := 4) (h := 4) (off := 0) (o := ⟨58, 1, true, [(.fn 87 [] : A)]⟩)  (x := .fn 87 []) (ltN rfl) qC11_ti_58 rfl)) (AllSteps.cons (step_plain rfl (acts_load_own (d := 20) (t := 2) (h := 2) (off := 0) (o := ⟨22, 1, true, [(.sl 9 0 m : A)]⟩)  (x := .sl 9 0 m) (ltN rfl) qC11_ti_22 rfl)) (AllSteps.cons (step_plain rfl (acts_move (d := 21) (ltN rfl) (OpX.tmp 0 (V.v (.int .i64 ((k : Nat) : Int)))))) (AllSteps.cons (step_plain rfl (acts_index_sl (d := 22) (x := 20) (h := 9) (off := 0) (n := m) (k := k) (off' := (k * 1)) (o := ⟨3, 1, true, pl (isl L)⟩) (ltN rfl) qC11_un_22 qC11_sz_3 (OpV.tmp 21 (.int .i64 ((k : Nat) : Int))) rfl (by omega) (by (simp; done)))) (AllSteps.cons (step_plain rfl (acts_load_own (d := 23) (t := 22) (h := 9) (off := (k * 1)) (o := ⟨3, 1, true, pl (isl L)⟩)  (x := .val (.int .i64 (gI L k))) (ltN rfl) qC11_ti_3 (pl_get (isl_get1 (k := k) (by omega))))) (AllSteps.cons (step_plain rfl (acts_move (d := 24) (ltN rfl) (OpX.tmp 1 (V.v (.int .i64 n))))) (AllSteps.cons (step_plain rfl (acts_callV (d := 25) (f := 87) (t := 19) (caps := []) (os := []) (os' := []) (r := V.v (.int .i64 ((gI L k) + n))) (bs := [.a (.val (.int .i64 (gI L k))), .a (.val (.int .i64 n))]) (keep := []) (new := []) (dead := []) (ltN rfl) (FnO.of_fn (impl_set__count_1_fn (gI L k) n (by omega) (by omega)) (by kernel_rfl)) rfl trivial rfl (ArgOs.cons (ArgO.v (OpV.tmp 23 (.int .i64 (gI L k)))) (ArgOs.cons (ArgO.v (OpV.tmp 24 (.int .i64 n))) (ArgOs.nil))))) (AllSteps.cons (step_plain rfl (acts_index_sl (d := 26) (x := 17) (h := 9) (off := 0) (n := m) (k := k) (off' := (k * 1)) (o := ⟨3, 1, true, pl (isl L)⟩) (ltN rfl) qC11_un_22 qC11_sz_3 (OpV.tmp 18 (.int .i64 ((k : Nat) : Int))) rfl (by omega) (by (simp; done)))) (AllSteps.cons (step_plain rfl (acts_store (t := 26) (h := 9) (off := (k * 1)) (o := ⟨3, 1, true, pl (isl L)⟩) (b := .a (.val (.int .i64 ((gI L k) + n)))) (cells := pl (isl (L.set k ((gI L k) + n)))) qC11_ti_3 (OpX.tmp 25 (V.v (.int .i64 ((gI L k) + n)))) rfl (by decide) (by intro y hy; simp [B.cs] at hy; subst hy; rfl) (by simp only [pl_len, isl_len]; omega) (isl_put (k := k) (by omega)))) (AllSteps.nil)))))))))))) (by kernel_rfl) (by kernel_rfl) (by kernel_rfl) ?_
    exact ⟨_, weak_id, ⟨by kernel_rfl, by kernel_rfl, by kernel_rfl, obj_eq (c := pl (isl (L.set k ((gI L k) + n)))) (by kernel_rfl) (congrArg (fun z => pl (isl z)) (by rfl)), trivial⟩, trivial⟩

set_option maxHeartbeats 4000000 in
set_option maxRecDepth 100000 in
theorem impl_profile_fn (s : Nat) (hs : s < 18446744073709551616) : Fn Try.prog 86 [.a (.val (.int .u64 ((s : Nat) : Int))), .a (.val (.int .i64 0)), .a (.fn 87 []), .a (.fn 88 [])] [.val (.int .i64 (((cnt s) : Nat) : Int))] := by
  have hpl0 := prof_len s 0
  have hr0 : (List.replicate 256 (0 : Int)).length = 256 := List.length_replicate
  refine fn_intro (N := 157) Try.func86 rfl (by kernel_rfl) rfl (Nat.le_of_ble_eq_true rfl) [5, 6, 12, 13, 19, 21, 34, 40, 41, 43, 57, 69, 80, 84, 96, 100, 108, 120, 121, 129, 149, 150] (ret1 rfl) (fun W => ?_)
  show Wp _ _ _ [(.s 0, some (.s (V.v (.int .u64 ((s : Nat) : Int))))), (.s 1, some (.s (V.v (.int .i64 0)))), (.s 2, some (.s (V.b (.a (.fn 87 []))))), (.s 3, some (.s (V.b (.a (.fn 88 []))))), (.o 5, some .free), (.o 6, some .free), (.o 12, some .free), (.o 13, some .free), (.o 19, some .free), (.o 21, some .free), (.o 34, some .free), (.o 40, some .free), (.o 41, some .free), (.o 43, some .free), (.o 57, some .free), (.o 69, some .free), (.o 80, some .free), (.o 84, some .free), (.o 96, some .free), (.o 100, some .free), (.o 108, some .free), (.o 120, some .free), (.o 121, some .free), (.o 129, some .free), (.o 149, some .free), (.o 150, some .free)]
  refine wp_seq' ?_
  refine wp_region_t ?_
  refine wpc (step_plain rfl (acts_box (d := 5) (h := 5) (b := .a (.val (.int .i64 0))) (ltN rfl) (OpX.tmp 1 (V.v (.int .i64 0))) (by intro y hy; simp [B.cs] at hy; subst hy; rfl))) (by kernel_rfl) ?_
  refine wpc (step_plain rfl (acts_box (d := 6) (h := 6) (b := .a (.fn 87 [])) (ltN rfl) (OpX.tmp 2 (V.b (.a (.fn 87 [])))) (by intro y hy; simp [B.cs] at hy; subst hy; rfl))) (by kernel_rfl) ?_
  refine wpc (step_plain rfl (acts_assign (d := 8) (ltN rfl) (OpX.const (.int .i64 0)))) (by kernel_rfl) ?_
  refine wpl_nil ?_
  refine wp_seq' ?_
  refine wp_region_t ?_
  refine wpc (step_plain rfl (acts_make' (d := 19) (h := 19) (n := 256) (s := 1) (xs := isl (List.replicate 256 0)) (ltN rfl) qC11_un_22 qC11_zi_3 (OpV.const (.int .i64 256)) (OpV.const (.int .i64 256)) rfl rfl (by decide) (by omega) (made_ints' 256))) (by kernel_rfl) ?_
  refine wpc (step_plain rfl (acts_assign (d := 9) (ltN rfl) (OpX.tmp 19 (V.b (.a (.sl 19 0 256)))))) (by kernel_rfl) ?_
  refine wpl_nil ?_
  refine wp_seq' ?_
  refine wp_seq' ?_
  refine wp_region_t ?_
  refine wpc (step_plain rfl (acts_move (d := 20) (ltN rfl) (OpX.tmp 9 (V.b (.a (.sl 19 0 256)))))) (by kernel_rfl) ?_
  refine wpc (step_plain rfl (acts_len (d := 21) (X := .sl 19 0 256) (n := 256) (iv := 256) (ltN rfl) qC11_un_22 (OpX.tmp 20 (V.b (.a (.sl 19 0 256)))) (LenOf.sl _ _ _) rfl)) (by kernel_rfl) ?_
  refine wpc (step_plain rfl (acts_move (d := 22) (ltN rfl) (OpX.const (.int .i64 0)))) (by kernel_rfl) ?_
  refine wpl_nil ?_
  refine wp_block' ?_
  refine wp_loop' (fun (p : Nat) => p ≤ 256) (fun (p : Nat) => [(.s 0, some (.s (V.v (.int .u64 ((s : Nat) : Int))))), (.s 3, some (.s (V.b (.a (.fn 88 []))))), (.s 5, some (.s (V.p 5 0))), (.s 6, some (.s (V.p 6 0))), (.s 9, some (.s (V.b (.a (.sl 19 0 256))))), (.s 21, some (.s (V.v (.int .i64 256)))), (.s 22, some (.s (V.v (.int .i64 ((p : Nat) : Int))))), (.o 5, some (.o ⟨3, 1, true, [(.val (.int .i64 0) : A)]⟩)), (.o 6, some (.o ⟨58, 1, true, [(.fn 87 [] : A)]⟩)), (.o 19, some (.o ⟨3, 1, true, pl (isl (List.replicate 256 0))⟩)), (.o 12, some .free), (.o 13, some .free), (.o 21, some .free), (.o 34, some .free), (.o 40, some .free), (.o 41, some .free), (.o 43, some .free), (.o 57, some .free), (.o 69, some .free), (.o 80, some .free), (.o 84, some .free), (.o 96, some .free), (.o 100, some .free), (.o 108, some .free), (.o 120, some .free), (.o 121, some .free), (.o 129, some .free), (.o 149, some .free), (.o 150, some .free)]) (fun (p : Nat) => 256 - p) ((0 : Nat)) (by exact (Nat.zero_le _ : 0 ≤ _)) (weak_of id [12, 13, 21, 34, 40, 41, 43, 57, 69, 80, 84, 96, 100, 108, 120, 121, 129, 149, 150] (by kernel_rfl) (wk_s (v' := V.v (.int .u64 ((s : Nat) : Int))) (by kernel_rfl) rfl rfl (wk_s (v' := V.b (.a (.fn 88 []))) (by kernel_rfl) rfl rfl (wk_s (v' := V.p 5 0) (by kernel_rfl) rfl rfl (wk_s (v' := V.p 6 0) (by kernel_rfl) rfl rfl (wk_s (v' := V.b (.a (.sl 19 0 256))) (by kernel_rfl) rfl rfl (wk_s (v' := V.v (.int .i64 256)) (by kernel_rfl) rfl rfl (wk_s (v' := V.v (.int .i64 0)) (by kernel_rfl) (vint (by rfl)) rfl (wk_o (o' := ⟨3, 1, true, [(.val (.int .i64 0) : A)]⟩) (by kernel_rfl) (renob_l (fun h => h) rfl rfl) rfl (wk_o (o' := ⟨58, 1, true, [(.fn 87 [] : A)]⟩) (by kernel_rfl) (renob_l (fun h => h) rfl rfl) rfl (wk_o (o' := ⟨3, 1, true, pl (isl (List.replicate 256 0))⟩) (by kernel_rfl) (renob_eq (fun h => h) (congrArg isl (by rfl))) rfl (wk_f rfl (wk_f rfl (wk_f rfl (wk_f rfl (wk_f rfl (wk_f rfl (wk_f rfl (wk_f rfl (wk_f rfl (wk_f rfl (wk_f rfl (wk_f rfl (wk_f rfl (wk_f rfl (wk_f rfl (wk_f rfl (wk_f rfl (wk_f rfl (wk_f rfl (wk_nil))))))))))))))))))))))))))))))) ?_
  rintro p inv1
  replace inv1 : p ≤ 256 := inv1
  have inv := inv1
  show Wp _ _ _ [(.s 0, some (.s (V.v (.int .u64 ((s : Nat) : Int))))), (.s 3, some (.s (V.b (.a (.fn 88 []))))), (.s 5, some (.s (V.p 5 0))), (.s 6, some (.s (V.p 6 0))), (.s 9, some (.s (V.b (.a (.sl 19 0 256))))), (.s 21, some (.s (V.v (.int .i64 256)))), (.s 22, some (.s (V.v (.int .i64 ((p : Nat) : Int))))), (.o 5, some (.o ⟨3, 1, true, [(.val (.int .i64 0) : A)]⟩)), (.o 6, some (.o ⟨58, 1, true, [(.fn 87 [] : A)]⟩)), (.o 19, some (.o ⟨3, 1, true, pl (isl (List.replicate 256 0))⟩)), (.o 12, some .free), (.o 13, some .free), (.o 21, some .free), (.o 34, some .free), (.o 40, some .free), (.o 41, some .free), (.o 43, some .free), (.o 57, some .free), (.o 69, some .free), (.o 80, some .free), (.o 84, some .free), (.o 96, some .free), (.o 100, some .free), (.o 108, some .free), (.o 120, some .free), (.o 121, some .free), (.o 129, some .free), (.o 149, some .free), (.o 150, some .free)]
  refine wp_seq' ?_
  refine wp_region_t ?_
  refine wpc (step_plain rfl (acts_bin (d := 23) (ltN rfl) (OpV.tmp 22 (.int .i64 ((p : Nat) : Int))) (OpV.tmp 21 (.int .i64 256)) (r_lss (c := (decide (((p : Nat) : Int) < 256))) rfl))) (by kernel_rfl) ?_
  refine wpl_nil ?_
  refine wp_seq' ?_
  refine wp_if (t := 23) (decide (((p : Nat) : Int) < 256)) (by kernel_rfl) (fun c2 => ?_) (fun c2 => ?_)
  · skip
    have c2P := of_decide_eq_true c2
    refine wp_skip' ?_
    refine wp_seq' ?_
    refine wp_block' ?_
    refine wp_seq' ?_
    refine wp_region_t ?_
    refine wpc (step_plain rfl (acts_move (d := 24) (ltN rfl) (OpX.tmp 22 (V.v (.int .i64 ((p : Nat) : Int)))))) (by kernel_rfl) ?_
    refine wpc (step_plain rfl (acts_assign (d := 10) (ltN rfl) (OpX.tmp 24 (V.v (.int .i64 ((p : Nat) : Int)))))) (by kernel_rfl) ?_
    refine wpl_nil ?_
    refine wp_region_t ?_
    refine wpc (step_plain rfl (acts_move (d := 25) (ltN rfl) (OpX.tmp 9 (V.b (.a (.sl 19 0 256)))))) (by kernel_rfl) ?_
    refine wpc (step_plain rfl (acts_move (d := 26) (ltN rfl) (OpX.tmp 10 (V.v (.int .i64 ((p : Nat) : Int)))))) (by kernel_rfl) ?_
    refine wpc (step_plain rfl (acts_load_own (d := 27) (t := 5) (h := 5) (off := 0) (o := ⟨3, 1, true, [(.val (.int .i64 0) : A)]⟩)  (x := .val (.int .i64 0)) (ltN rfl) qC11_ti_3 rfl)) (by kernel_rfl) ?_
    refine wpc (step_plain rfl (acts_index_sl (d := 28) (x := 25) (h := 19) (off := 0) (n := 256) (k := p) (off' := (p * 1)) (o := ⟨3, 1, true, pl (isl (List.replicate 256 0))⟩) (ltN rfl) qC11_un_22 qC11_sz_3 (OpV.tmp 26 (.int .i64 ((p : Nat) : Int))) rfl (by omega) (by (simp; done)))) (by kernel_rfl) ?_
    refine wpc (step_plain rfl (acts_store (t := 28) (h := 19) (off := (p * 1)) (o := ⟨3, 1, true, pl (isl (List.replicate 256 0))⟩) (b := .a (.val (.int .i64 0))) (cells := pl (isl ((List.replicate 256 0).set p 0))) qC11_ti_3 (OpX.tmp 27 (V.v (.int .i64 0))) rfl (by decide) (by intro y hy; simp [B.cs] at hy; subst hy; rfl) (by simp only [pl_len, isl_len]; first | omega | assumption | exact cN_ok (by omega) | exact or_lt (by omega) (by omega) | exact andn_lt8 (by omega) | (rw [shl_one]; exact or_lt (by omega) (by omega)) | (rw [wth_n (by omega)]; omega) | (rw [wth_n (by omega)]; exact ⟨by omega, by omega⟩) | (simp only [putI_len, stepT_len]; done) | (simp only [putI_len]; omega) | exact hbt _ (or_lt (by omega) (by omega)) | exact hbt _ (andn_lt8 (by omega)) | exact hbt _ (by omega) | (rw [shl_one]; exact hbt _ (or_lt (by omega) (by omega))) | exact rt_bd (by omega) (by omega) hR) (isl_put (k := p) (by omega)))) (by kernel_rfl) ?_
    refine wpl_nil ?_
    refine wp_region_t ?_
    refine wpc (step_plain rfl (acts_bin (d := 29) (ltN rfl) (OpV.tmp 22 (.int .i64 ((p : Nat) : Int))) (OpV.const (.int .i64 1)) (r_add (c := (((p : Nat) : Int) + 1)) (w64 (by omega) (by omega))))) (by kernel_rfl) ?_
    refine wpc (step_plain rfl (acts_move (d := 22) (ltN rfl) (OpX.tmp 29 (V.v (.int .i64 (((p : Nat) : Int) + 1)))))) (by kernel_rfl) ?_
    refine wpl_nil ?_
    exact loop_back ((p + 1)) (by show _ ≤ _; omega) (by show 256 - (p + 1) < 256 - p; omega) (weak_of id [12, 13, 21, 34, 40, 41, 43, 57, 69, 80, 84, 96, 100, 108, 120, 121, 129, 149, 150] (by kernel_rfl) (wk_s (v' := V.v (.int .u64 ((s : Nat) : Int))) (by kernel_rfl) rfl rfl (wk_s (v' := V.b (.a (.fn 88 []))) (by kernel_rfl) rfl rfl (wk_s (v' := V.p 5 0) (by kernel_rfl) rfl rfl (wk_s (v' := V.p 6 0) (by kernel_rfl) rfl rfl (wk_s (v' := V.b (.a (.sl 19 0 256))) (by kernel_rfl) rfl rfl (wk_s (v' := V.v (.int .i64 256)) (by kernel_rfl) rfl rfl (wk_s (v' := V.v (.int .i64 (((p : Nat) : Int) + 1))) (by kernel_rfl) (vint (by rfl)) rfl (wk_o (o' := ⟨3, 1, true, [(.val (.int .i64 0) : A)]⟩) (by kernel_rfl) (renob_l (fun h => h) rfl rfl) rfl (wk_o (o' := ⟨58, 1, true, [(.fn 87 [] : A)]⟩) (by kernel_rfl) (renob_l (fun h => h) rfl rfl) rfl (wk_o (o' := ⟨3, 1, true, pl (isl ((List.replicate 256 0).set p 0))⟩) (by kernel_rfl) (renob_eq (fun h => h) (congrArg isl (by exact (rep_set0 _).symm))) rfl (wk_f rfl (wk_f rfl (wk_f rfl (wk_f rfl (wk_f rfl (wk_f rfl (wk_f rfl (wk_f rfl (wk_f rfl (wk_f rfl (wk_f rfl (wk_f rfl (wk_f rfl (wk_f rfl (wk_f rfl (wk_f rfl (wk_f rfl (wk_f rfl (wk_f rfl (wk_nil)))))))))))))))))))))))))))))))
  · skip
    have c2P := of_decide_eq_false c2
    refine wp_exit' ?_
    refine wp_seq' ?_
    refine wp_region_t ?_
    refine wpc (step_plain rfl (acts_move (d := 30) (ltN rfl) (OpX.tmp 9 (V.b (.a (.sl 19 0 256)))))) (by kernel_rfl) ?_
    refine wpc (step_plain rfl (acts_move (d := 31) (ltN rfl) (OpX.tmp 3 (V.b (.a (.fn 88 [])))))) (by kernel_rfl) ?_
    refine wpc (step_plain rfl (acts_load_own (d := 32) (t := 5) (h := 5) (off := 0) (o := ⟨3, 1, true, [(.val (.int .i64 0) : A)]⟩)  (x := .val (.int .i64 0)) (ltN rfl) qC11_ti_3 rfl)) (by kernel_rfl) ?_
    refine wpc (step_plain rfl (acts_build (d := 33) (t := 32) (cells := [(.int .i64 (-1) : Value), .int .i64 0, .bool false]) (ltN rfl) (OpVs.cons (i := 0) (OpV.const (.int .i64 (-1))) (OpVs.nil)) rfl)) (by kernel_rfl) ?_
    refine wpc (step_plain rfl (acts_callV (d := 34) (f := 88) (t := 31) (caps := []) (os := []) (os' := []) (r := V.v (.int .i64 (wth (-1) 0))) (bs := [.a (.val (.int .i64 0)), .agg ([(.int .i64 (-1) : Value), .int .i64 0, .bool false].map A.val)]) (keep := []) (new := []) (dead := []) (ltN rfl) (FnO.of_fn (impl_set__count_2_fn 0 (⟨(-1), 0, false⟩ : Dom) ) (by kernel_rfl)) rfl trivial rfl (ArgOs.cons (ArgO.v (OpV.tmp 32 (.int .i64 0))) (ArgOs.cons (ArgO.va (vs := [(.int .i64 (-1) : Value), .int .i64 0, .bool false]) (OpV.agg 33 [(.int .i64 (-1) : Value), .int .i64 0, .bool false])) (ArgOs.nil))))) (by kernel_rfl) ?_
    refine wpc (step_plain rfl (acts_index_sl (d := 35) (x := 30) (h := 19) (off := 0) (n := 256) (k := 0) (off' := (0 * 1)) (o := ⟨3, 1, true, pl (isl (List.replicate 256 0))⟩) (ltN rfl) qC11_un_22 qC11_sz_3 (OpV.const (.int .i64 0)) rfl (by omega) (by (simp; done)))) (by kernel_rfl) ?_
    refine wpc (step_plain rfl (acts_store (t := 35) (h := 19) (off := (0 * 1)) (o := ⟨3, 1, true, pl (isl (List.replicate 256 0))⟩) (b := .a (.val (.int .i64 (wth (-1) 0)))) (cells := pl (isl ((List.replicate 256 0).set 0 (wth (-1) 0)))) qC11_ti_3 (OpX.tmp 34 (V.v (.int .i64 (wth (-1) 0)))) rfl (by decide) (by intro y hy; simp [B.cs] at hy; subst hy; rfl) (by simp only [pl_len, isl_len]; first | omega | assumption | exact cN_ok (by omega) | exact or_lt (by omega) (by omega) | exact andn_lt8 (by omega) | (rw [shl_one]; exact or_lt (by omega) (by omega)) | (rw [wth_n (by omega)]; omega) | (rw [wth_n (by omega)]; exact ⟨by omega, by omega⟩) | (simp only [putI_len, stepT_len]; done) | (simp only [putI_len]; omega) | exact hbt _ (or_lt (by omega) (by omega)) | exact hbt _ (andn_lt8 (by omega)) | exact hbt _ (by omega) | (rw [shl_one]; exact hbt _ (or_lt (by omega) (by omega))) | exact rt_bd (by omega) (by omega) hR) (isl_put (k := 0) (by omega)))) (by kernel_rfl) ?_
    refine wpl_nil ?_
    refine wp_seq' ?_
    refine wp_seq' ?_
    refine wp_region_t ?_
    refine wpc (step_plain rfl (acts_move (d := 36) (ltN rfl) (OpX.const (.int .i64 0)))) (by kernel_rfl) ?_
    refine wpl_nil ?_
    refine wp_block' ?_
    refine wp_loop' (fun (i : Nat) => i ≤ 64) (fun (i : Nat) => [(.s 0, some (.s (V.v (.int .u64 ((s : Nat) : Int))))), (.s 3, some (.s (V.b (.a (.fn 88 []))))), (.s 5, some (.s (V.p 5 0))), (.s 6, some (.s (V.p 6 0))), (.s 9, some (.s (V.b (.a (.sl 19 0 ((prof s i).length)))))), (.s 36, some (.s (V.v (.int .i64 ((i : Nat) : Int))))), (.o 5, some (.o ⟨3, 1, true, [(.val (.int .i64 0) : A)]⟩)), (.o 6, some (.o ⟨58, 1, true, [(.fn 87 [] : A)]⟩)), (.o 19, some (.o ⟨3, 1, true, pl (isl (prof s i))⟩)), (.o 12, some .free), (.o 13, some .free), (.o 21, some .free), (.o 34, some .free), (.o 40, some .free), (.o 41, some .free), (.o 43, some .free), (.o 57, some .free), (.o 69, some .free), (.o 80, some .free), (.o 84, some .free), (.o 96, some .free), (.o 100, some .free), (.o 108, some .free), (.o 120, some .free), (.o 121, some .free), (.o 129, some .free), (.o 149, some .free), (.o 150, some .free)]) (fun (i : Nat) => 64 - i) ((0 : Nat)) (by exact (Nat.zero_le _ : 0 ≤ _)) (weak_of id [12, 13, 21, 34, 40, 41, 43, 57, 69, 80, 84, 96, 100, 108, 120, 121, 129, 149, 150] (by kernel_rfl) (wk_s (v' := V.v (.int .u64 ((s : Nat) : Int))) (by kernel_rfl) rfl rfl (wk_s (v' := V.b (.a (.fn 88 []))) (by kernel_rfl) rfl rfl (wk_s (v' := V.p 5 0) (by kernel_rfl) rfl rfl (wk_s (v' := V.p 6 0) (by kernel_rfl) rfl rfl (wk_s (v' := V.b (.a (.sl 19 0 256))) (by kernel_rfl) (vsl (by rfl) rfl) rfl (wk_s (v' := V.v (.int .i64 0)) (by kernel_rfl) (vint (by rfl)) rfl (wk_o (o' := ⟨3, 1, true, [(.val (.int .i64 0) : A)]⟩) (by kernel_rfl) (renob_l (fun h => h) rfl rfl) rfl (wk_o (o' := ⟨58, 1, true, [(.fn 87 [] : A)]⟩) (by kernel_rfl) (renob_l (fun h => h) rfl rfl) rfl (wk_o (o' := ⟨3, 1, true, pl (isl ((List.replicate 256 0).set 0 (wth (-1) 0)))⟩) (by kernel_rfl) (renob_eq (fun h => h) (congrArg isl (by rfl))) rfl (wk_f rfl (wk_f rfl (wk_f rfl (wk_f rfl (wk_f rfl (wk_f rfl (wk_f rfl (wk_f rfl (wk_f rfl (wk_f rfl (wk_f rfl (wk_f rfl (wk_f rfl (wk_f rfl (wk_f rfl (wk_f rfl (wk_f rfl (wk_f rfl (wk_f rfl (wk_nil)))))))))))))))))))))))))))))) ?_
    rintro i inv3
    replace inv3 : i ≤ 64 := inv3
    have invi := inv3
    show Wp _ _ _ [(.s 0, some (.s (V.v (.int .u64 ((s : Nat) : Int))))), (.s 3, some (.s (V.b (.a (.fn 88 []))))), (.s 5, some (.s (V.p 5 0))), (.s 6, some (.s (V.p 6 0))), (.s 9, some (.s (V.b (.a (.sl 19 0 ((prof s i).length)))))), (.s 36, some (.s (V.v (.int .i64 ((i : Nat) : Int))))), (.o 5, some (.o ⟨3, 1, true, [(.val (.int .i64 0) : A)]⟩)), (.o 6, some (.o ⟨58, 1, true, [(.fn 87 [] : A)]⟩)), (.o 19, some (.o ⟨3, 1, true, pl (isl (prof s i))⟩)), (.o 12, some .free), (.o 13, some .free), (.o 21, some .free), (.o 34, some .free), (.o 40, some .free), (.o 41, some .free), (.o 43, some .free), (.o 57, some .free), (.o 69, some .free), (.o 80, some .free), (.o 84, some .free), (.o 96, some .free), (.o 100, some .free), (.o 108, some .free), (.o 120, some .free), (.o 121, some .free), (.o 129, some .free), (.o 149, some .free), (.o 150, some .free)]
    have hpl := prof_len s i
    have hpl1 := prof_len s (i + 1)
    have hcx : (cN i).x = ((i % 8 : Nat) : Int) := rfl
    have hcx0 : 0 ≤ (cN i).x := Int.natCast_nonneg _
    have hpw : 2 ^ (cN i).x.toNat < 256 := Nat.pow_lt_pow_right (m := (cN i).x.toNat) (n := 8) (by decide) (by omega)
    have hcy : (cN i).y = ((i / 8 : Nat) : Int) := rfl
    refine wp_seq' ?_
    refine wp_region_t ?_
    refine wpc (step_plain rfl (acts_bin (d := 37) (ltN rfl) (OpV.tmp 36 (.int .i64 ((i : Nat) : Int))) (OpV.const (.int .i64 64)) (r_lss (c := (decide (((i : Nat) : Int) < 64))) rfl))) (by kernel_rfl) ?_
    refine wpl_nil ?_
    refine wp_seq' ?_
    refine wp_if (t := 37) (decide (((i : Nat) : Int) < 64)) (by kernel_rfl) (fun c4 => ?_) (fun c4 => ?_)
    · skip
      have c4P := of_decide_eq_true c4
      refine wp_skip' ?_
      refine wp_seq' ?_
      refine wp_block' ?_
      refine wp_seq' ?_
      refine wp_region_t ?_
      refine wpc (step_plain rfl (acts_move (d := 38) (ltN rfl) (OpX.tmp 36 (V.v (.int .i64 ((i : Nat) : Int)))))) (by kernel_rfl) ?_
      refine wpc (step_plain rfl (acts_assign (d := 11) (ltN rfl) (OpX.tmp 38 (V.v (.int .i64 ((i : Nat) : Int)))))) (by kernel_rfl) ?_
      refine wpl_nil ?_
      refine wp_seq' ?_
      refine wp_region_t ?_
      refine wpc (step_plain rfl (acts_move (d := 39) (ltN rfl) (OpX.tmp 11 (V.v (.int .i64 ((i : Nat) : Int)))))) (by kernel_rfl) ?_
      refine wpc (step_plain rfl (acts_call1 (d := 40) (ltN rfl) (impl_cellAt_fn i (by omega)) (ArgVs.cons (ArgV.v (OpV.tmp 39 (.int .i64 ((i : Nat) : Int)))) (ArgVs.nil)) (ResV.agg [(.int .i64 ((cN i).x) : Value), .int .i64 ((cN i).y)]))) (by kernel_rfl) ?_
      refine wpc (step_plain rfl (acts_alloc' (d := 12) (h := 12) (cap := 1) (s := 2) (cells := [(.val (.int .i64 0) : A), .val (.int .i64 0)]) (ltN rfl) qC11_zi_39 rfl rfl (by decide))) (by kernel_rfl) ?_
      refine wpc (step_plain rfl (acts_store (t := 12) (h := 12) (off := 0) (o := ⟨39, 2, true, [(.val (.int .i64 0) : A), .val (.int .i64 0)]⟩) (b := .agg ([(.int .i64 ((cN i).x) : Value), .int .i64 ((cN i).y)].map A.val)) (cells := [(.val (.int .i64 ((cN i).x)) : A), .val (.int .i64 ((cN i).y))]) qC11_ti_39 (OpX.tmp 40 (V.av [(.int .i64 ((cN i).x) : Value), .int .i64 ((cN i).y)])) rfl (by decide) (by intro y hy; simp [B.cs] at hy; rcases hy with rfl | rfl <;> rfl) (Nat.le_of_ble_eq_true rfl) rfl)) (by kernel_rfl) ?_
      refine wpl_nil ?_
      refine wp_seq' ?_
      refine wp_region_t ?_
      refine wpc (step_plain rfl (acts_make' (d := 41) (h := 41) (n := 256) (s := 1) (xs := isl (List.replicate 256 0)) (ltN rfl) qC11_un_22 qC11_zi_3 (OpV.const (.int .i64 256)) (OpV.const (.int .i64 256)) rfl rfl (by decide) (by omega) (made_ints' 256))) (by kernel_rfl) ?_
      refine wpc (step_plain rfl (acts_alloc' (d := 13) (h := 13) (cap := 1) (s := 1) (cells := [(.val (.slice none 0 0) : A)]) (ltN rfl) qC11_zi_22 rfl rfl (by decide))) (by kernel_rfl) ?_
      refine wpc (step_plain rfl (acts_store (t := 13) (h := 13) (off := 0) (o := ⟨22, 1, true, [(.val (.slice none 0 0) : A)]⟩) (b := .a (.sl 41 0 256)) (cells := [(.sl 41 0 256 : A)]) qC11_ti_22 (OpX.tmp 41 (V.b (.a (.sl 41 0 256)))) rfl (by decide) (by intro y hy; simp [B.cs] at hy; subst hy; rfl) (Nat.le_of_ble_eq_true rfl) rfl)) (by kernel_rfl) ?_
      refine wpl_nil ?_
      refine wp_seq' ?_
      refine wp_seq' ?_
      refine wp_region_t ?_
      refine wpc (step_plain rfl (acts_load_own (d := 42) (t := 13) (h := 13) (off := 0) (o := ⟨22, 1, true, [(.sl 41 0 256 : A)]⟩)  (x := .sl 41 0 256) (ltN rfl) qC11_ti_22 rfl)) (by kernel_rfl) ?_
      refine wpc (step_plain rfl (acts_len (d := 43) (X := .sl 41 0 256) (n := 256) (iv := 256) (ltN rfl) qC11_un_22 (OpX.tmp 42 (V.b (.a (.sl 41 0 256)))) (LenOf.sl _ _ _) rfl)) (by kernel_rfl) ?_
      refine wpc (step_plain rfl (acts_move (d := 44) (ltN rfl) (OpX.const (.int .i64 0)))) (by kernel_rfl) ?_
      refine wpl_nil ?_
      refine wp_block' ?_
      refine wp_loop' (fun (q : Nat) => q ≤ 256) (fun (q : Nat) => [(.s 0, some (.s (V.v (.int .u64 ((s : Nat) : Int))))), (.s 3, some (.s (V.b (.a (.fn 88 []))))), (.s 5, some (.s (V.p 5 0))), (.s 6, some (.s (V.p 6 0))), (.s 9, some (.s (V.b (.a (.sl 19 0 ((prof s i).length)))))), (.s 12, some (.s (V.p 12 0))), (.s 13, some (.s (V.p 13 0))), (.s 36, some (.s (V.v (.int .i64 ((i : Nat) : Int))))), (.s 43, some (.s (V.v (.int .i64 256)))), (.s 44, some (.s (V.v (.int .i64 ((q : Nat) : Int))))), (.o 5, some (.o ⟨3, 1, true, [(.val (.int .i64 0) : A)]⟩)), (.o 6, some (.o ⟨58, 1, true, [(.fn 87 [] : A)]⟩)), (.o 12, some (.o ⟨39, 2, true, [(.val (.int .i64 ((cN i).x)) : A), .val (.int .i64 ((cN i).y))]⟩)), (.o 13, some (.o ⟨22, 1, true, [(.sl 41 0 256 : A)]⟩)), (.o 19, some (.o ⟨3, 1, true, pl (isl (prof s i))⟩)), (.o 41, some (.o ⟨3, 1, true, pl (isl (List.replicate 256 0))⟩)), (.o 21, some .free), (.o 34, some .free), (.o 40, some .free), (.o 43, some .free), (.o 57, some .free), (.o 69, some .free), (.o 80, some .free), (.o 84, some .free), (.o 96, some .free), (.o 100, some .free), (.o 108, some .free), (.o 120, some .free), (.o 121, some .free), (.o 129, some .free), (.o 149, some .free), (.o 150, some .free)]) (fun (q : Nat) => 256 - q) ((0 : Nat)) (by exact (Nat.zero_le _ : 0 ≤ _)) (weak_of id [21, 34, 40, 43, 57, 69, 80, 84, 96, 100, 108, 120, 121, 129, 149, 150] (by kernel_rfl) (wk_s (v' := V.v (.int .u64 ((s : Nat) : Int))) (by kernel_rfl) rfl rfl (wk_s (v' := V.b (.a (.fn 88 []))) (by kernel_rfl) rfl rfl (wk_s (v' := V.p 5 0) (by kernel_rfl) rfl rfl (wk_s (v' := V.p 6 0) (by kernel_rfl) rfl rfl (wk_s (v' := V.b (.a (.sl 19 0 ((prof s i).length)))) (by kernel_rfl) rfl rfl (wk_s (v' := V.p 12 0) (by kernel_rfl) rfl rfl (wk_s (v' := V.p 13 0) (by kernel_rfl) rfl rfl (wk_s (v' := V.v (.int .i64 ((i : Nat) : Int))) (by kernel_rfl) rfl rfl (wk_s (v' := V.v (.int .i64 256)) (by kernel_rfl) rfl rfl (wk_s (v' := V.v (.int .i64 0)) (by kernel_rfl) (vint (by rfl)) rfl (wk_o (o' := ⟨3, 1, true, [(.val (.int .i64 0) : A)]⟩) (by kernel_rfl) (renob_l (fun h => h) rfl rfl) rfl (wk_o (o' := ⟨58, 1, true, [(.fn 87 [] : A)]⟩) (by kernel_rfl) (renob_l (fun h => h) rfl rfl) rfl (wk_o (o' := ⟨39, 2, true, [(.val (.int .i64 ((cN i).x)) : A), .val (.int .i64 ((cN i).y))]⟩) (by kernel_rfl) (renob_l (fun h => h) rfl rfl) rfl (wk_o (o' := ⟨22, 1, true, [(.sl 41 0 256 : A)]⟩) (by kernel_rfl) (renob_l (fun h => h) rfl rfl) rfl (wk_o (o' := ⟨3, 1, true, pl (isl (prof s i))⟩) (by kernel_rfl) (renob_pl (fun h => h)) rfl (wk_o (o' := ⟨3, 1, true, pl (isl (List.replicate 256 0))⟩) (by kernel_rfl) (renob_eq (fun h => h) (congrArg isl (by rfl))) rfl (wk_f rfl (wk_f rfl (wk_f rfl (wk_f rfl (wk_f rfl (wk_f rfl (wk_f rfl (wk_f rfl (wk_f rfl (wk_f rfl (wk_f rfl (wk_f rfl (wk_f rfl (wk_f rfl (wk_f rfl (wk_f rfl (wk_nil)))))))))))))))))))))))))))))))))) ?_
      rintro q inv5
      replace inv5 : q ≤ 256 := inv5
      have inv3 := inv5
      show Wp _ _ _ [(.s 0, some (.s (V.v (.int .u64 ((s : Nat) : Int))))), (.s 3, some (.s (V.b (.a (.fn 88 []))))), (.s 5, some (.s (V.p 5 0))), (.s 6, some (.s (V.p 6 0))), (.s 9, some (.s (V.b (.a (.sl 19 0 ((prof s i).length)))))), (.s 12, some (.s (V.p 12 0))), (.s 13, some (.s (V.p 13 0))), (.s 36, some (.s (V.v (.int .i64 ((i : Nat) : Int))))), (.s 43, some (.s (V.v (.int .i64 256)))), (.s 44, some (.s (V.v (.int .i64 ((q : Nat) : Int))))), (.o 5, some (.o ⟨3, 1, true, [(.val (.int .i64 0) : A)]⟩)), (.o 6, some (.o ⟨58, 1, true, [(.fn 87 [] : A)]⟩)), (.o 12, some (.o ⟨39, 2, true, [(.val (.int .i64 ((cN i).x)) : A), .val (.int .i64 ((cN i).y))]⟩)), (.o 13, some (.o ⟨22, 1, true, [(.sl 41 0 256 : A)]⟩)), (.o 19, some (.o ⟨3, 1, true, pl (isl (prof s i))⟩)), (.o 41, some (.o ⟨3, 1, true, pl (isl (List.replicate 256 0))⟩)), (.o 21, some .free), (.o 34, some .free), (.o 40, some .free), (.o 43, some .free), (.o 57, some .free), (.o 69, some .free), (.o 80, some .free), (.o 84, some .free), (.o 96, some .free), (.o 100, some .free), (.o 108, some .free), (.o 120, some .free), (.o 121, some .free), (.o 129, some .free), (.o 149, some .free), (.o 150, some .free)]
      refine wp_seq' ?_
      refine wp_region_t ?_
      refine wpc (step_plain rfl (acts_bin (d := 45) (ltN rfl) (OpV.tmp 44 (.int .i64 ((q : Nat) : Int))) (OpV.tmp 43 (.int .i64 256)) (r_lss (c := (decide (((q : Nat) : Int) < 256))) rfl))) (by kernel_rfl) ?_
      refine wpl_nil ?_
      refine wp_seq' ?_
      refine wp_if (t := 45) (decide (((q : Nat) : Int) < 256)) (by kernel_rfl) (fun c6 => ?_) (fun c6 => ?_)
      · skip
        have c6P := of_decide_eq_true c6
        refine wp_skip' ?_
        refine wp_seq' ?_
        refine wp_block' ?_
        refine wp_seq' ?_
        refine wp_region_t ?_
        refine wpc (step_plain rfl (acts_move (d := 46) (ltN rfl) (OpX.tmp 44 (V.v (.int .i64 ((q : Nat) : Int)))))) (by kernel_rfl) ?_
        refine wpc (step_plain rfl (acts_assign (d := 14) (ltN rfl) (OpX.tmp 46 (V.v (.int .i64 ((q : Nat) : Int)))))) (by kernel_rfl) ?_
        refine wpl_nil ?_
        refine wp_region_t ?_
        refine wpc (step_plain rfl (acts_load_own (d := 47) (t := 13) (h := 13) (off := 0) (o := ⟨22, 1, true, [(.sl 41 0 256 : A)]⟩)  (x := .sl 41 0 256) (ltN rfl) qC11_ti_22 rfl)) (by kernel_rfl) ?_
        refine wpc (step_plain rfl (acts_move (d := 48) (ltN rfl) (OpX.tmp 14 (V.v (.int .i64 ((q : Nat) : Int)))))) (by kernel_rfl) ?_
        refine wpc (step_plain rfl (acts_load_own (d := 49) (t := 5) (h := 5) (off := 0) (o := ⟨3, 1, true, [(.val (.int .i64 0) : A)]⟩)  (x := .val (.int .i64 0)) (ltN rfl) qC11_ti_3 rfl)) (by kernel_rfl) ?_
        refine wpc (step_plain rfl (acts_index_sl (d := 50) (x := 47) (h := 41) (off := 0) (n := 256) (k := q) (off' := (q * 1)) (o := ⟨3, 1, true, pl (isl (List.replicate 256 0))⟩) (ltN rfl) qC11_un_22 qC11_sz_3 (OpV.tmp 48 (.int .i64 ((q : Nat) : Int))) rfl (by omega) (by (simp; done)))) (by kernel_rfl) ?_
        refine wpc (step_plain rfl (acts_store (t := 50) (h := 41) (off := (q * 1)) (o := ⟨3, 1, true, pl (isl (List.replicate 256 0))⟩) (b := .a (.val (.int .i64 0))) (cells := pl (isl ((List.replicate 256 0).set q 0))) qC11_ti_3 (OpX.tmp 49 (V.v (.int .i64 0))) rfl (by decide) (by intro y hy; simp [B.cs] at hy; subst hy; rfl) (by simp only [pl_len, isl_len]; first | omega | assumption | exact cN_ok (by omega) | exact or_lt (by omega) (by omega) | exact andn_lt8 (by omega) | (rw [shl_one]; exact or_lt (by omega) (by omega)) | (rw [wth_n (by omega)]; omega) | (rw [wth_n (by omega)]; exact ⟨by omega, by omega⟩) | (simp only [putI_len, stepT_len]; done) | (simp only [putI_len]; omega) | exact hbt _ (or_lt (by omega) (by omega)) | exact hbt _ (andn_lt8 (by omega)) | exact hbt _ (by omega) | (rw [shl_one]; exact hbt _ (or_lt (by omega) (by omega))) | exact rt_bd (by omega) (by omega) hR) (isl_put (k := q) (by omega)))) (by kernel_rfl) ?_
        refine wpl_nil ?_
        refine wp_region_t ?_
        refine wpc (step_plain rfl (acts_bin (d := 51) (ltN rfl) (OpV.tmp 44 (.int .i64 ((q : Nat) : Int))) (OpV.const (.int .i64 1)) (r_add (c := (((q : Nat) : Int) + 1)) (w64 (by omega) (by omega))))) (by kernel_rfl) ?_
        refine wpc (step_plain rfl (acts_move (d := 44) (ltN rfl) (OpX.tmp 51 (V.v (.int .i64 (((q : Nat) : Int) + 1)))))) (by kernel_rfl) ?_
        refine wpl_nil ?_
        exact loop_back ((q + 1)) (by show _ ≤ _; omega) (by show 256 - (q + 1) < 256 - q; omega) (weak_of id [21, 34, 40, 43, 57, 69, 80, 84, 96, 100, 108, 120, 121, 129, 149, 150] (by kernel_rfl) (wk_s (v' := V.v (.int .u64 ((s : Nat) : Int))) (by kernel_rfl) rfl rfl (wk_s (v' := V.b (.a (.fn 88 []))) (by kernel_rfl) rfl rfl (wk_s (v' := V.p 5 0) (by kernel_rfl) rfl rfl (wk_s (v' := V.p 6 0) (by kernel_rfl) rfl rfl (wk_s (v' := V.b (.a (.sl 19 0 ((prof s i).length)))) (by kernel_rfl) rfl rfl (wk_s (v' := V.p 12 0) (by kernel_rfl) rfl rfl (wk_s (v' := V.p 13 0) (by kernel_rfl) rfl rfl (wk_s (v' := V.v (.int .i64 ((i : Nat) : Int))) (by kernel_rfl) rfl rfl (wk_s (v' := V.v (.int .i64 256)) (by kernel_rfl) rfl rfl (wk_s (v' := V.v (.int .i64 (((q : Nat) : Int) + 1))) (by kernel_rfl) (vint (by rfl)) rfl (wk_o (o' := ⟨3, 1, true, [(.val (.int .i64 0) : A)]⟩) (by kernel_rfl) (renob_l (fun h => h) rfl rfl) rfl (wk_o (o' := ⟨58, 1, true, [(.fn 87 [] : A)]⟩) (by kernel_rfl) (renob_l (fun h => h) rfl rfl) rfl (wk_o (o' := ⟨39, 2, true, [(.val (.int .i64 ((cN i).x)) : A), .val (.int .i64 ((cN i).y))]⟩) (by kernel_rfl) (renob_l (fun h => h) rfl rfl) rfl (wk_o (o' := ⟨22, 1, true, [(.sl 41 0 256 : A)]⟩) (by kernel_rfl) (renob_l (fun h => h) rfl rfl) rfl (wk_o (o' := ⟨3, 1, true, pl (isl (prof s i))⟩) (by kernel_rfl) (renob_pl (fun h => h)) rfl (wk_o (o' := ⟨3, 1, true, pl (isl ((List.replicate 256 0).set q 0))⟩) (by kernel_rfl) (renob_eq (fun h => h) (congrArg isl (by exact (rep_set0 _).symm))) rfl (wk_f rfl (wk_f rfl (wk_f rfl (wk_f rfl (wk_f rfl (wk_f rfl (wk_f rfl (wk_f rfl (wk_f rfl (wk_f rfl (wk_f rfl (wk_f rfl (wk_f rfl (wk_f rfl (wk_f rfl (wk_f rfl (wk_nil))))))))))))))))))))))))))))))))))
      · skip
        have c6P := of_decide_eq_false c6
        refine wp_exit' ?_
        refine wp_seq' ?_
        refine wp_region_t ?_
        refine wpc (step_plain rfl (acts_makeFunc (d := 52) (f := 96) (l := [(13, 13), (5, 5), (6, 6)]) (ltN rfl))) (by kernel_rfl) ?_
        refine wpc (step_plain rfl (acts_assign (d := 15) (ltN rfl) (OpX.tmp 52 (V.b (.a (.fn 96 [13, 5, 6])))))) (by kernel_rfl) ?_
        refine wpl_nil ?_
        refine wp_seq' ?_
        refine wp_region_t ?_
        refine wpc (step_plain rfl (acts_field (d := 53) (t := 12) (h := 12) (off := 0) (off' := 0) (ltN rfl) qC11_fo_39_0 rfl)) (by kernel_rfl) ?_
        refine wpc (step_plain rfl (acts_load_own (d := 54) (t := 53) (h := 12) (off := 0) (o := ⟨39, 2, true, [(.val (.int .i64 ((cN i).x)) : A), .val (.int .i64 ((cN i).y))]⟩)  (x := .val (.int .i64 ((cN i).x))) (ltN rfl) qC11_ti_3 rfl)) (by kernel_rfl) ?_
        refine wpc (step_plain rfl (acts_bin (d := 55) (ltN rfl) (OpV.const (.int .i64 1)) (OpV.tmp 54 (.int .i64 ((cN i).x))) (r_shl (c := (((2 ^ (((cN i).x).toNat)) : Nat) : Int)) (by omega) (shl1I (n := (((cN i).x).toNat)) (Int.toNat_of_nonneg (by omega)).symm (by omega))))) (by kernel_rfl) ?_
        refine wpc (step_plain rfl (acts_assign (d := 16) (ltN rfl) (OpX.tmp 55 (V.v (.int .i64 (((2 ^ (((cN i).x).toNat)) : Nat) : Int)))))) (by kernel_rfl) ?_
        refine wpl_nil ?_
        refine wp_seq' ?_
        refine wp_seq' ?_
        refine wp_region_t ?_
        refine wpc (step_plain rfl (acts_move (d := 56) (ltN rfl) (OpX.tmp 9 (V.b (.a (.sl 19 0 ((prof s i).length))))))) (by kernel_rfl) ?_
        refine wpc (step_plain rfl (acts_len (d := 57) (X := .sl 19 0 ((prof s i).length)) (n := ((prof s i).length)) (iv := (((prof s i).length : Nat) : Int)) (ltN rfl) qC11_un_22 (OpX.tmp 56 (V.b (.a (.sl 19 0 ((prof s i).length))))) (LenOf.sl _ _ _) rfl)) (by kernel_rfl) ?_
        refine wpc (step_plain rfl (acts_move (d := 58) (ltN rfl) (OpX.const (.int .i64 0)))) (by kernel_rfl) ?_
        refine wpl_nil ?_
        refine wp_block' ?_
        refine wp_loop' (fun (k : Nat) => k ≤ 256) (fun (k : Nat) => [(.s 0, some (.s (V.v (.int .u64 ((s : Nat) : Int))))), (.s 3, some (.s (V.b (.a (.fn 88 []))))), (.s 5, some (.s (V.p 5 0))), (.s 6, some (.s (V.p 6 0))), (.s 12, some (.s (V.p 12 0))), (.s 13, some (.s (V.p 13 0))), (.s 15, some (.s (V.b (.a (.fn 96 [13, 5, 6]))))), (.s 16, some (.s (V.v (.int .i64 (((2 ^ (((cN i).x).toNat)) : Nat) : Int))))), (.s 36, some (.s (V.v (.int .i64 ((i : Nat) : Int))))), (.s 56, some (.s (V.b (.a (.sl 19 0 ((prof s i).length)))))), (.s 57, some (.s (V.v (.int .i64 (((prof s i).length : Nat) : Int))))), (.s 58, some (.s (V.v (.int .i64 ((k : Nat) : Int))))), (.o 5, some (.o ⟨3, 1, true, [(.val (.int .i64 0) : A)]⟩)), (.o 6, some (.o ⟨58, 1, true, [(.fn 87 [] : A)]⟩)), (.o 12, some (.o ⟨39, 2, true, [(.val (.int .i64 ((cN i).x)) : A), .val (.int .i64 ((cN i).y))]⟩)), (.o 13, some (.o ⟨22, 1, true, [(.sl 41 0 256 : A)]⟩)), (.o 19, some (.o ⟨3, 1, true, pl (isl (prof s i))⟩)), (.o 41, some (.o ⟨3, 1, true, pl (isl (stepT s i (prof s i) k))⟩)), (.o 21, some .free), (.o 34, some .free), (.o 40, some .free), (.o 43, some .free), (.o 57, some .free), (.o 69, some .free), (.o 80, some .free), (.o 84, some .free), (.o 96, some .free), (.o 100, some .free), (.o 108, some .free), (.o 120, some .free), (.o 121, some .free), (.o 129, some .free), (.o 149, some .free), (.o 150, some .free)]) (fun (k : Nat) => 256 - k) ((0 : Nat)) (by exact (Nat.zero_le _ : 0 ≤ _)) (weak_of id [21, 34, 40, 43, 57, 69, 80, 84, 96, 100, 108, 120, 121, 129, 149, 150] (by kernel_rfl) (wk_s (v' := V.v (.int .u64 ((s : Nat) : Int))) (by kernel_rfl) rfl rfl (wk_s (v' := V.b (.a (.fn 88 []))) (by kernel_rfl) rfl rfl (wk_s (v' := V.p 5 0) (by kernel_rfl) rfl rfl (wk_s (v' := V.p 6 0) (by kernel_rfl) rfl rfl (wk_s (v' := V.p 12 0) (by kernel_rfl) rfl rfl (wk_s (v' := V.p 13 0) (by kernel_rfl) rfl rfl (wk_s (v' := V.b (.a (.fn 96 [13, 5, 6]))) (by kernel_rfl) rfl rfl (wk_s (v' := V.v (.int .i64 (((2 ^ (((cN i).x).toNat)) : Nat) : Int))) (by kernel_rfl) rfl rfl (wk_s (v' := V.v (.int .i64 ((i : Nat) : Int))) (by kernel_rfl) rfl rfl (wk_s (v' := V.b (.a (.sl 19 0 ((prof s i).length)))) (by kernel_rfl) rfl rfl (wk_s (v' := V.v (.int .i64 (((prof s i).length : Nat) : Int))) (by kernel_rfl) rfl rfl (wk_s (v' := V.v (.int .i64 0)) (by kernel_rfl) (vint (by rfl)) rfl (wk_o (o' := ⟨3, 1, true, [(.val (.int .i64 0) : A)]⟩) (by kernel_rfl) (renob_l (fun h => h) rfl rfl) rfl (wk_o (o' := ⟨58, 1, true, [(.fn 87 [] : A)]⟩) (by kernel_rfl) (renob_l (fun h => h) rfl rfl) rfl (wk_o (o' := ⟨39, 2, true, [(.val (.int .i64 ((cN i).x)) : A), .val (.int .i64 ((cN i).y))]⟩) (by kernel_rfl) (renob_l (fun h => h) rfl rfl) rfl (wk_o (o' := ⟨22, 1, true, [(.sl 41 0 256 : A)]⟩) (by kernel_rfl) (renob_l (fun h => h) rfl rfl) rfl (wk_o (o' := ⟨3, 1, true, pl (isl (prof s i))⟩) (by kernel_rfl) (renob_pl (fun h => h)) rfl (wk_o (o' := ⟨3, 1, true, pl (isl (List.replicate 256 0))⟩) (by kernel_rfl) (renob_eq (fun h => h) (congrArg isl (by rfl))) rfl (wk_f rfl (wk_f rfl (wk_f rfl (wk_f rfl (wk_f rfl (wk_f rfl (wk_f rfl (wk_f rfl (wk_f rfl (wk_f rfl (wk_f rfl (wk_f rfl (wk_f rfl (wk_f rfl (wk_f rfl (wk_f rfl (wk_nil)))))))))))))))))))))))))))))))))))) ?_
        rintro k inv7
        replace inv7 : k ≤ 256 := inv7
        have inv4 := inv7
        show Wp _ _ _ [(.s 0, some (.s (V.v (.int .u64 ((s : Nat) : Int))))), (.s 3, some (.s (V.b (.a (.fn 88 []))))), (.s 5, some (.s (V.p 5 0))), (.s 6, some (.s (V.p 6 0))), (.s 12, some (.s (V.p 12 0))), (.s 13, some (.s (V.p 13 0))), (.s 15, some (.s (V.b (.a (.fn 96 [13, 5, 6]))))), (.s 16, some (.s (V.v (.int .i64 (((2 ^ (((cN i).x).toNat)) : Nat) : Int))))), (.s 36, some (.s (V.v (.int .i64 ((i : Nat) : Int))))), (.s 56, some (.s (V.b (.a (.sl 19 0 ((prof s i).length)))))), (.s 57, some (.s (V.v (.int .i64 (((prof s i).length : Nat) : Int))))), (.s 58, some (.s (V.v (.int .i64 ((k : Nat) : Int))))), (.o 5, some (.o ⟨3, 1, true, [(.val (.int .i64 0) : A)]⟩)), (.o 6, some (.o ⟨58, 1, true, [(.fn 87 [] : A)]⟩)), (.o 12, some (.o ⟨39, 2, true, [(.val (.int .i64 ((cN i).x)) : A), .val (.int .i64 ((cN i).y))]⟩)), (.o 13, some (.o ⟨22, 1, true, [(.sl 41 0 256 : A)]⟩)), (.o 19, some (.o ⟨3, 1, true, pl (isl (prof s i))⟩)), (.o 41, some (.o ⟨3, 1, true, pl (isl (stepT s i (prof s i) k))⟩)), (.o 21, some .free), (.o 34, some .free), (.o 40, some .free), (.o 43, some .free), (.o 57, some .free), (.o 69, some .free), (.o 80, some .free), (.o 84, some .free), (.o 96, some .free), (.o 100, some .free), (.o 108, some .free), (.o 120, some .free), (.o 121, some .free), (.o 129, some .free), (.o 149, some .free), (.o 150, some .free)]
        have hlt := stepT_len s i (prof s i) k
        have hbt : ∀ j, j < 256 → 0 ≤ gI (stepT s i (prof s i) k) j ∧ gI (stepT s i (prof s i) k) j ≤ 1099511627776 := fun j hj => by
          have := part_bd (s := s) (i := i) (by omega) (m := k) (k := j) (by omega) hj
          omega
        refine wp_seq' ?_
        refine wp_region_t ?_
        refine wpc (step_plain rfl (acts_bin (d := 59) (ltN rfl) (OpV.tmp 58 (.int .i64 ((k : Nat) : Int))) (OpV.tmp 57 (.int .i64 (((prof s i).length : Nat) : Int))) (r_lss (c := (decide (((k : Nat) : Int) < (((prof s i).length : Nat) : Int)))) rfl))) (by kernel_rfl) ?_
        refine wpl_nil ?_
        refine wp_seq' ?_
        refine wp_if (t := 59) (decide (((k : Nat) : Int) < (((prof s i).length : Nat) : Int))) (by kernel_rfl) (fun c8 => ?_) (fun c8 => ?_)
        · skip
          have c8P := of_decide_eq_true c8
          have hpk := prof_bd (s := s) (i := i) (by omega) (k := k) (by omega)
          refine wp_skip' ?_
          refine wp_seq' ?_
          refine wp_block' ?_
          refine wp_seq' ?_
          refine wp_region_t ?_
          refine wpc (step_plain rfl (acts_move (d := 60) (ltN rfl) (OpX.tmp 58 (V.v (.int .i64 ((k : Nat) : Int)))))) (by kernel_rfl) ?_
          refine wpc (step_plain rfl (acts_index_sl (d := 61) (x := 56) (h := 19) (off := 0) (n := ((prof s i).length)) (k := k) (off' := (k * 1)) (o := ⟨3, 1, true, pl (isl (prof s i))⟩) (ltN rfl) qC11_un_22 qC11_sz_3 (OpV.tmp 58 (.int .i64 ((k : Nat) : Int))) rfl (by omega) (by (simp; done)))) (by kernel_rfl) ?_
          refine wpc (step_plain rfl (acts_load_own (d := 62) (t := 61) (h := 19) (off := (k * 1)) (o := ⟨3, 1, true, pl (isl (prof s i))⟩)  (x := .val (.int .i64 (gI (prof s i) k))) (ltN rfl) qC11_ti_3 (pl_get (isl_get1 (k := k) (by omega))))) (by kernel_rfl) ?_
          refine wpc (step_plain rfl (acts_assign (d := 17) (ltN rfl) (OpX.tmp 60 (V.v (.int .i64 ((k : Nat) : Int)))))) (by kernel_rfl) ?_
          refine wpc (step_plain rfl (acts_assign (d := 18) (ltN rfl) (OpX.tmp 62 (V.v (.int .i64 (gI (prof s i) k)))))) (by kernel_rfl) ?_
          refine wpl_nil ?_
          refine wp_seq' ?_
          refine wp_seq' ?_
          refine wp_region_t ?_
          refine wpc (step_plain rfl (acts_move (d := 63) (ltN rfl) (OpX.tmp 18 (V.v (.int .i64 (gI (prof s i) k)))))) (by kernel_rfl) ?_
          refine wpc (step_plain rfl (acts_load_own (d := 64) (t := 5) (h := 5) (off := 0) (o := ⟨3, 1, true, [(.val (.int .i64 0) : A)]⟩)  (x := .val (.int .i64 0)) (ltN rfl) qC11_ti_3 rfl)) (by kernel_rfl) ?_
          refine wpc (step_plain rfl (acts_bin (d := 65) (ltN rfl) (OpV.tmp 63 (.int .i64 (gI (prof s i) k))) (OpV.tmp 64 (.int .i64 0)) (r_eql (c := (decide ((gI (prof s i) k) = 0))) rfl))) (by kernel_rfl) ?_
          refine wpl_nil ?_
          refine wp_if (t := 65) (decide ((gI (prof s i) k) = 0)) (by kernel_rfl) (fun c9 => ?_) (fun c9 => ?_)
          · skip
            have c9P := of_decide_eq_true c9
            refine wp_exit' ?_
            refine wp_region_t ?_
            refine wpc (step_plain rfl (acts_bin (d := 151) (ltN rfl) (OpV.tmp 58 (.int .i64 ((k : Nat) : Int))) (OpV.const (.int .i64 1)) (r_add (c := (((k : Nat) : Int) + 1)) (w64 (by omega) (by omega))))) (by kernel_rfl) ?_
            refine wpc (step_plain rfl (acts_move (d := 58) (ltN rfl) (OpX.tmp 151 (V.v (.int .i64 (((k : Nat) : Int) + 1)))))) (by kernel_rfl) ?_
            refine wpl_nil ?_
            exact loop_back ((k + 1)) (by show _ ≤ _; omega) (by show 256 - (k + 1) < 256 - k; omega) (weak_of id [21, 34, 40, 43, 57, 69, 80, 84, 96, 100, 108, 120, 121, 129, 149, 150] (by kernel_rfl) (wk_s (v' := V.v (.int .u64 ((s : Nat) : Int))) (by kernel_rfl) rfl rfl (wk_s (v' := V.b (.a (.fn 88 []))) (by kernel_rfl) rfl rfl (wk_s (v' := V.p 5 0) (by kernel_rfl) rfl rfl (wk_s (v' := V.p 6 0) (by kernel_rfl) rfl rfl (wk_s (v' := V.p 12 0) (by kernel_rfl) rfl rfl (wk_s (v' := V.p 13 0) (by kernel_rfl) rfl rfl (wk_s (v' := V.b (.a (.fn 96 [13, 5, 6]))) (by kernel_rfl) rfl rfl (wk_s (v' := V.v (.int .i64 (((2 ^ (((cN i).x).toNat)) : Nat) : Int))) (by kernel_rfl) rfl rfl (wk_s (v' := V.v (.int .i64 ((i : Nat) : Int))) (by kernel_rfl) rfl rfl (wk_s (v' := V.b (.a (.sl 19 0 ((prof s i).length)))) (by kernel_rfl) rfl rfl (wk_s (v' := V.v (.int .i64 (((prof s i).length : Nat) : Int))) (by kernel_rfl) rfl rfl (wk_s (v' := V.v (.int .i64 (((k : Nat) : Int) + 1))) (by kernel_rfl) (vint (by rfl)) rfl (wk_o (o' := ⟨3, 1, true, [(.val (.int .i64 0) : A)]⟩) (by kernel_rfl) (renob_l (fun h => h) rfl rfl) rfl (wk_o (o' := ⟨58, 1, true, [(.fn 87 [] : A)]⟩) (by kernel_rfl) (renob_l (fun h => h) rfl rfl) rfl (wk_o (o' := ⟨39, 2, true, [(.val (.int .i64 ((cN i).x)) : A), .val (.int .i64 ((cN i).y))]⟩) (by kernel_rfl) (renob_l (fun h => h) rfl rfl) rfl (wk_o (o' := ⟨22, 1, true, [(.sl 41 0 256 : A)]⟩) (by kernel_rfl) (renob_l (fun h => h) rfl rfl) rfl (wk_o (o' := ⟨3, 1, true, pl (isl (prof s i))⟩) (by kernel_rfl) (renob_pl (fun h => h)) rfl (wk_o (o' := ⟨3, 1, true, pl (isl (stepT s i (prof s i) k))⟩) (by kernel_rfl) (renob_eq (fun h => h) (congrArg isl (by (rw [stepT_snoc, sk_zero (by assumption)]; done)))) rfl (wk_f rfl (wk_f rfl (wk_f rfl (wk_f rfl (wk_f rfl (wk_f rfl (wk_f rfl (wk_f rfl (wk_f rfl (wk_f rfl (wk_f rfl (wk_f rfl (wk_f rfl (wk_f rfl (wk_f rfl (wk_f rfl (wk_nil))))))))))))))))))))))))))))))))))))
          · skip
            have c9P := of_decide_eq_false c9
            have hN : ¬ gI (prof s i) k = 0 := of_decide_eq_false c9
            refine wp_skip' ?_
            refine wp_block' ?_
            refine wp_seq' ?_
            rcases Bool.eq_false_or_eq_true ((hasS s (cN i))) with c10 | c10
            · skip
              have hS : s.testBit i = true := (has_i (by omega)).symm.trans c10
              refine wp_region_t ?_
              refine wpc (step_plain rfl (acts_move (d := 67) (ltN rfl) (OpX.tmp 0 (V.v (.int .u64 ((s : Nat) : Int)))))) (by kernel_rfl) ?_
              refine wpc (step_plain rfl (acts_load_owns (d := 68) (t := 12) (h := 12) (off := 0) (o := ⟨39, 2, true, [(.val (.int .i64 ((cN i).x)) : A), .val (.int .i64 ((cN i).y))]⟩)  (xs := [(.int .i64 ((cN i).x) : Value), .int .i64 ((cN i).y)].map A.val) (ltN rfl) qC11_ti_39 rfl (by decide) rfl)) (by kernel_rfl) ?_
              refine wpc (step_plain rfl (acts_call1 (d := 69) (ltN rfl) (impl_set__has_fn s (cN i) (by omega)) (ArgVs.cons (ArgV.v (OpV.tmp 67 (.int .u64 ((s : Nat) : Int)))) (ArgVs.cons (ArgV.va (vs := [(.int .i64 ((cN i).x) : Value), .int .i64 ((cN i).y)]) (OpV.agg 68 [(.int .i64 ((cN i).x) : Value), .int .i64 ((cN i).y)])) (ArgVs.nil))) ((resval (congrArg Value.bool c10))))) (by kernel_rfl) ?_
              refine wpc (step_plain rfl (acts_un (d := 70) (ltN rfl) (OpV.tmp 69 (.bool true)) (r_not (c := false) rfl))) (by kernel_rfl) ?_
              refine wpc (step_plain rfl (acts_move (d := 71) (ltN rfl) (OpX.tmp 70 (V.v (.bool false))))) (by kernel_rfl) ?_
              refine wpc (step_off (dj := 71) (b' := false) rfl rfl (by decide) rfl (ltN rfl)) (by kernel_rfl) ?_
              refine wpc (step_off (dj := 71) (b' := false) rfl rfl (by decide) rfl (ltN rfl)) (by kernel_rfl) ?_
              refine wpc (step_off (dj := 71) (b' := false) rfl rfl (by decide) rfl (ltN rfl)) (by kernel_rfl) ?_
              refine wpc (step_off (dj := 71) (b' := false) rfl rfl (by decide) rfl (ltN rfl)) (by kernel_rfl) ?_
              refine wpc (step_plain rfl (acts_pick_f (d := 76) (ltN rfl) (OpV.tmp 71 (.bool false)) (OpX.const (.bool false)))) (by kernel_rfl) ?_
              refine wpc (step_plain rfl (acts_assign (d := 66) (ltN rfl) (OpX.tmp 76 (V.v (.bool false))))) (by kernel_rfl) ?_
              refine wpl_nil ?_
              refine wp_if_f (t := 66) (by kernel_rfl) ?_
              refine wp_seq' ?_
              refine wp_region_t ?_
              refine wpc (step_plain rfl (acts_move (d := 82) (ltN rfl) (OpX.tmp 0 (V.v (.int .u64 ((s : Nat) : Int)))))) (by kernel_rfl) ?_
              refine wpc (step_plain rfl (acts_load_owns (d := 83) (t := 12) (h := 12) (off := 0) (o := ⟨39, 2, true, [(.val (.int .i64 ((cN i).x)) : A), .val (.int .i64 ((cN i).y))]⟩)  (xs := [(.int .i64 ((cN i).x) : Value), .int .i64 ((cN i).y)].map A.val) (ltN rfl) qC11_ti_39 rfl (by decide) rfl)) (by kernel_rfl) ?_
              refine wpc (step_plain rfl (acts_call1 (d := 84) (ltN rfl) (impl_set__has_fn s (cN i) (by omega)) (ArgVs.cons (ArgV.v (OpV.tmp 82 (.int .u64 ((s : Nat) : Int)))) (ArgVs.cons (ArgV.va (vs := [(.int .i64 ((cN i).x) : Value), .int .i64 ((cN i).y)]) (OpV.agg 83 [(.int .i64 ((cN i).x) : Value), .int .i64 ((cN i).y)])) (ArgVs.nil))) ((resval (congrArg Value.bool c10))))) (by kernel_rfl) ?_
              refine wpc (step_plain rfl (acts_move (d := 85) (ltN rfl) (OpX.tmp 84 (V.v (.bool true))))) (by kernel_rfl) ?_
              refine wpc (step_on (dj := 85) rfl rfl (acts_move (d := 86) (ltN rfl) (OpX.tmp 17 (V.v (.int .i64 ((k : Nat) : Int)))))) (by kernel_rfl) ?_
              refine wpc (step_on (dj := 85) rfl rfl (acts_move (d := 87) (ltN rfl) (OpX.tmp 16 (V.v (.int .i64 (((2 ^ (((cN i).x).toNat)) : Nat) : Int)))))) (by kernel_rfl) ?_
              refine wpc (step_on (dj := 85) rfl rfl (acts_bin (d := 88) (ltN rfl) (OpV.tmp 86 (.int .i64 ((k : Nat) : Int))) (OpV.tmp 87 (.int .i64 (((2 ^ (((cN i).x).toNat)) : Nat) : Int))) (r_and (c := (((k &&& (2 ^ (((cN i).x).toNat))) : Nat) : Int)) (andI (m := k) (n := (2 ^ (((cN i).x).toNat))) rfl rfl (by omega) (by omega))))) (by kernel_rfl) ?_
              refine wpc (step_on (dj := 85) rfl rfl (acts_bin (d := 89) (ltN rfl) (OpV.tmp 88 (.int .i64 (((k &&& (2 ^ (((cN i).x).toNat))) : Nat) : Int))) (OpV.const (.int .i64 0)) (r_neq (c := (decide ((((k &&& (2 ^ (((cN i).x).toNat))) : Nat) : Int) ≠ 0))) rfl))) (by kernel_rfl) ?_
              refine wpc (step_plain rfl (acts_pick_t (d := 90) (ltN rfl) (OpV.tmp 85 (.bool true)) (OpX.tmp 89 (V.v (.bool (decide ((((k &&& (2 ^ (((cN i).x).toNat))) : Nat) : Int) ≠ 0))))))) (by kernel_rfl) ?_
              refine wpc (step_plain rfl (acts_assign (d := 81) (ltN rfl) (OpX.tmp 90 (V.v (.bool (decide ((((k &&& (2 ^ (((cN i).x).toNat))) : Nat) : Int) ≠ 0))))))) (by kernel_rfl) ?_
              refine wpl_nil ?_
              refine wp_if (t := 81) (decide ((((k &&& (2 ^ (((cN i).x).toNat))) : Nat) : Int) ≠ 0)) (by kernel_rfl) (fun c11 => ?_) (fun c11 => ?_)
              · skip
                have c11P := of_decide_eq_true c11
                have hK : k.testBit (i % 8) = true := and0 (decide_eq_false (of_decide_eq_true c11))
                refine wp_region_t ?_
                refine wpc (step_plain rfl (acts_move (d := 91) (ltN rfl) (OpX.tmp 15 (V.b (.a (.fn 96 [13, 5, 6])))))) (by kernel_rfl) ?_
                refine wpc (step_plain rfl (acts_move (d := 92) (ltN rfl) (OpX.tmp 17 (V.v (.int .i64 ((k : Nat) : Int)))))) (by kernel_rfl) ?_
                refine wpc (step_plain rfl (acts_move (d := 93) (ltN rfl) (OpX.tmp 16 (V.v (.int .i64 (((2 ^ (((cN i).x).toNat)) : Nat) : Int)))))) (by kernel_rfl) ?_
                refine wpc (step_plain rfl (acts_bin (d := 94) (ltN rfl) (OpV.tmp 92 (.int .i64 ((k : Nat) : Int))) (OpV.tmp 93 (.int .i64 (((2 ^ (((cN i).x).toNat)) : Nat) : Int))) (r_andNot (c := (((andn k (2 ^ (((cN i).x).toNat))) : Nat) : Int)) (andnI (m := k) (n := (2 ^ (((cN i).x).toNat))) rfl rfl (by omega) (by omega))))) (by kernel_rfl) ?_
                refine wpc (step_plain rfl (acts_move (d := 95) (ltN rfl) (OpX.tmp 18 (V.v (.int .i64 (gI (prof s i) k)))))) (by kernel_rfl) ?_
                refine wpc (step_plain rfl (acts_callV (d := 96) (f := 96) (t := 91) (caps := [13, 5, 6]) (os := [(.o 13, some (.o ⟨22, 1, true, [(.sl 41 0 256 : A)]⟩)), (.o 5, some (.o ⟨3, 1, true, [(.val (.int .i64 0) : A)]⟩)), (.o 6, some (.o ⟨58, 1, true, [(.fn 87 [] : A)]⟩)), (.o 41, some (.o ⟨3, 1, true, pl (isl (stepT s i (prof s i) k))⟩))]) (os' := [(.o 13, some (.o ⟨22, 1, true, [(.sl 41 0 256 : A)]⟩)), (.o 5, some (.o ⟨3, 1, true, [(.val (.int .i64 0) : A)]⟩)), (.o 6, some (.o ⟨58, 1, true, [(.fn 87 [] : A)]⟩)), (.o 41, some (.o ⟨3, 1, true, pl (isl (putI (stepT s i (prof s i) k) (andn k (2 ^ (((cN i).x).toNat))) (gI (prof s i) k)))⟩))]) (r := V.v (.tuple #[])) (bs := [.a (.val (.int .i64 (((andn k (2 ^ (((cN i).x).toNat))) : Nat) : Int))), .a (.val (.int .i64 (gI (prof s i) k)))]) (keep := [13, 5, 6, 41]) (new := []) (dead := []) (ltN rfl) (FnO.ren' (impl_profile_1_fn (andn k (2 ^ (((cN i).x).toNat))) 256 (gI (prof s i) k) (stepT s i (prof s i) k) (by exact andn_lt8 (by omega)) (by omega) (by omega) (by omega) (by exact hbt _ (andn_lt8 (by omega)))) (subst1 [(2, 13), (3, 5), (4, 6), (9, 41)]) rfl rfl (by kernel_rfl) (by kernel_rfl) ⟨ocs (by kernel_rfl), ocs (by kernel_rfl), ocs (by kernel_rfl), oc_pl (fun _ => rfl), trivial⟩ (by kernel_rfl) rfl (by simp only [renS, Ob.ren, pl_ren, rws_ren_doms, rws_ren_ints, rws_ren_cels]; rfl) (by simp only [renS, Ob.ren, pl_ren, rws_ren_doms, rws_ren_ints, rws_ren_cels]; rfl) rfl rfl) (by kernel_rfl) ⟨ocs (by kernel_rfl), ocs (by kernel_rfl), ocs (by kernel_rfl), oc_pl (fun _ => rfl), trivial⟩ (by kernel_rfl) (ArgOs.cons (ArgO.v (OpV.tmp 94 (.int .i64 (((andn k (2 ^ (((cN i).x).toNat))) : Nat) : Int)))) (ArgOs.cons (ArgO.v (OpV.tmp 95 (.int .i64 (gI (prof s i) k)))) (ArgOs.nil))))) (by kernel_rfl) ?_
                refine wpl_nil ?_
                refine wp_region_t ?_
                refine wpc (step_plain rfl (acts_bin (d := 151) (ltN rfl) (OpV.tmp 58 (.int .i64 ((k : Nat) : Int))) (OpV.const (.int .i64 1)) (r_add (c := (((k : Nat) : Int) + 1)) (w64 (by omega) (by omega))))) (by kernel_rfl) ?_
                refine wpc (step_plain rfl (acts_move (d := 58) (ltN rfl) (OpX.tmp 151 (V.v (.int .i64 (((k : Nat) : Int) + 1)))))) (by kernel_rfl) ?_
                refine wpl_nil ?_
                exact loop_back ((k + 1)) (by show _ ≤ _; omega) (by show 256 - (k + 1) < 256 - k; omega) (weak_of id [21, 34, 40, 43, 57, 69, 80, 84, 96, 100, 108, 120, 121, 129, 149, 150] (by kernel_rfl) (wk_s (v' := V.v (.int .u64 ((s : Nat) : Int))) (by kernel_rfl) rfl rfl (wk_s (v' := V.b (.a (.fn 88 []))) (by kernel_rfl) rfl rfl (wk_s (v' := V.p 5 0) (by kernel_rfl) rfl rfl (wk_s (v' := V.p 6 0) (by kernel_rfl) rfl rfl (wk_s (v' := V.p 12 0) (by kernel_rfl) rfl rfl (wk_s (v' := V.p 13 0) (by kernel_rfl) rfl rfl (wk_s (v' := V.b (.a (.fn 96 [13, 5, 6]))) (by kernel_rfl) rfl rfl (wk_s (v' := V.v (.int .i64 (((2 ^ (((cN i).x).toNat)) : Nat) : Int))) (by kernel_rfl) rfl rfl (wk_s (v' := V.v (.int .i64 ((i : Nat) : Int))) (by kernel_rfl) rfl rfl (wk_s (v' := V.b (.a (.sl 19 0 ((prof s i).length)))) (by kernel_rfl) rfl rfl (wk_s (v' := V.v (.int .i64 (((prof s i).length : Nat) : Int))) (by kernel_rfl) rfl rfl (wk_s (v' := V.v (.int .i64 (((k : Nat) : Int) + 1))) (by kernel_rfl) (vint (by rfl)) rfl (wk_o (o' := ⟨3, 1, true, [(.val (.int .i64 0) : A)]⟩) (by kernel_rfl) (renob_l (fun h => h) rfl rfl) rfl (wk_o (o' := ⟨58, 1, true, [(.fn 87 [] : A)]⟩) (by kernel_rfl) (renob_l (fun h => h) rfl rfl) rfl (wk_o (o' := ⟨39, 2, true, [(.val (.int .i64 ((cN i).x)) : A), .val (.int .i64 ((cN i).y))]⟩) (by kernel_rfl) (renob_l (fun h => h) rfl rfl) rfl (wk_o (o' := ⟨22, 1, true, [(.sl 41 0 256 : A)]⟩) (by kernel_rfl) (renob_l (fun h => h) rfl rfl) rfl (wk_o (o' := ⟨3, 1, true, pl (isl (prof s i))⟩) (by kernel_rfl) (renob_pl (fun h => h)) rfl (wk_o (o' := ⟨3, 1, true, pl (isl (putI (stepT s i (prof s i) k) (andn k (2 ^ (((cN i).x).toNat))) (gI (prof s i) k)))⟩) (by kernel_rfl) (renob_eq (fun h => h) (congrArg isl (by (rw [stepT_snoc, sk_b hN hS hK]; first | done | rfl)))) rfl (wk_f rfl (wk_f rfl (wk_f rfl (wk_f rfl (wk_f rfl (wk_f rfl (wk_f rfl (wk_f rfl (wk_f rfl (wk_f rfl (wk_f rfl (wk_f rfl (wk_f rfl (wk_f rfl (wk_f rfl (wk_f rfl (wk_nil))))))))))))))))))))))))))))))))))))
              · skip
                have c11P := of_decide_eq_false c11
                have hK : k.testBit (i % 8) = false := and0 (decide_eq_true (Decidable.not_not.1 (of_decide_eq_false c11)))
                refine wp_seq' ?_
                refine wp_region_t ?_
                refine wpc (step_plain rfl (acts_move (d := 98) (ltN rfl) (OpX.tmp 0 (V.v (.int .u64 ((s : Nat) : Int)))))) (by kernel_rfl) ?_
                refine wpc (step_plain rfl (acts_load_owns (d := 99) (t := 12) (h := 12) (off := 0) (o := ⟨39, 2, true, [(.val (.int .i64 ((cN i).x)) : A), .val (.int .i64 ((cN i).y))]⟩)  (xs := [(.int .i64 ((cN i).x) : Value), .int .i64 ((cN i).y)].map A.val) (ltN rfl) qC11_ti_39 rfl (by decide) rfl)) (by kernel_rfl) ?_
                refine wpc (step_plain rfl (acts_call1 (d := 100) (ltN rfl) (impl_set__has_fn s (cN i) (by omega)) (ArgVs.cons (ArgV.v (OpV.tmp 98 (.int .u64 ((s : Nat) : Int)))) (ArgVs.cons (ArgV.va (vs := [(.int .i64 ((cN i).x) : Value), .int .i64 ((cN i).y)]) (OpV.agg 99 [(.int .i64 ((cN i).x) : Value), .int .i64 ((cN i).y)])) (ArgVs.nil))) ((resval (congrArg Value.bool c10))))) (by kernel_rfl) ?_
                refine wpc (step_plain rfl (acts_assign (d := 97) (ltN rfl) (OpX.tmp 100 (V.v (.bool true))))) (by kernel_rfl) ?_
                refine wpl_nil ?_
                refine wp_if_t (t := 97) (by kernel_rfl) ?_
                refine wp_seq' ?_
                refine wp_seq' ?_
                refine wp_region_t ?_
                refine wpc (step_plain rfl (acts_move (d := 101) (ltN rfl) (OpX.tmp 0 (V.v (.int .u64 ((s : Nat) : Int)))))) (by kernel_rfl) ?_
                refine wpc (step_plain rfl (acts_field (d := 102) (t := 12) (h := 12) (off := 0) (off' := 0) (ltN rfl) qC11_fo_39_0 rfl)) (by kernel_rfl) ?_
                refine wpc (step_plain rfl (acts_load_own (d := 103) (t := 102) (h := 12) (off := 0) (o := ⟨39, 2, true, [(.val (.int .i64 ((cN i).x)) : A), .val (.int .i64 ((cN i).y))]⟩)  (x := .val (.int .i64 ((cN i).x))) (ltN rfl) qC11_ti_3 rfl)) (by kernel_rfl) ?_
                refine wpc (step_plain rfl (acts_field (d := 104) (t := 12) (h := 12) (off := 0) (off' := 1) (ltN rfl) qC11_fo_39_1 rfl)) (by kernel_rfl) ?_
                refine wpc (step_plain rfl (acts_load_own (d := 105) (t := 104) (h := 12) (off := 1) (o := ⟨39, 2, true, [(.val (.int .i64 ((cN i).x)) : A), .val (.int .i64 ((cN i).y))]⟩)  (x := .val (.int .i64 ((cN i).y))) (ltN rfl) qC11_ti_3 rfl)) (by kernel_rfl) ?_
                refine wpc (step_plain rfl (acts_bin (d := 106) (ltN rfl) (OpV.tmp 105 (.int .i64 ((cN i).y))) (OpV.const (.int .i64 1)) (r_add (c := ((cN i).y + 1)) (w64 (by omega) (by omega))))) (by kernel_rfl) ?_
                refine wpc (step_plain rfl (acts_build (d := 107) (t := 39) (cells := [(.int .i64 ((cN i).x) : Value), .int .i64 ((cN i).y + 1)]) (ltN rfl) (OpVs.cons (i := 0) (OpV.tmp 103 (.int .i64 ((cN i).x))) (OpVs.cons (i := 1) (OpV.tmp 106 (.int .i64 ((cN i).y + 1))) (OpVs.nil))) rfl)) (by kernel_rfl) ?_
                refine wpc (step_plain rfl (acts_call1 (d := 108) (ltN rfl) (impl_set__has_fn s (⟨(cN i).x, ((cN i).y + 1)⟩ : Cel) (by omega)) (ArgVs.cons (ArgV.v (OpV.tmp 101 (.int .u64 ((s : Nat) : Int)))) (ArgVs.cons (ArgV.va (vs := [(.int .i64 ((cN i).x) : Value), .int .i64 ((cN i).y + 1)]) (OpV.agg 107 [(.int .i64 ((cN i).x) : Value), .int .i64 ((cN i).y + 1)])) (ArgVs.nil))) (ResV.val _))) (by kernel_rfl) ?_
                refine wpl_nil ?_
                refine wp_if (t := 108) ((hasS s (⟨(cN i).x, ((cN i).y + 1)⟩ : Cel))) (by kernel_rfl) (fun c12 => ?_) (fun c12 => ?_)
                · skip
                  have hD : dnB s i = true := (has_dn (by omega)).symm.trans c12
                  refine wp_region_t ?_
                  refine wpc (step_plain rfl (acts_move (d := 109) (ltN rfl) (OpX.tmp 15 (V.b (.a (.fn 96 [13, 5, 6])))))) (by kernel_rfl) ?_
                  refine wpc (step_plain rfl (acts_move (d := 110) (ltN rfl) (OpX.tmp 17 (V.v (.int .i64 ((k : Nat) : Int)))))) (by kernel_rfl) ?_
                  refine wpc (step_plain rfl (acts_move (d := 111) (ltN rfl) (OpX.tmp 16 (V.v (.int .i64 (((2 ^ (((cN i).x).toNat)) : Nat) : Int)))))) (by kernel_rfl) ?_
                  refine wpc (step_plain rfl (acts_bin (d := 112) (ltN rfl) (OpV.tmp 110 (.int .i64 ((k : Nat) : Int))) (OpV.tmp 111 (.int .i64 (((2 ^ (((cN i).x).toNat)) : Nat) : Int))) (r_or (c := (((k ||| (2 ^ (((cN i).x).toNat))) : Nat) : Int)) (orI (m := k) (n := (2 ^ (((cN i).x).toNat))) rfl rfl (by omega) (by omega))))) (by kernel_rfl) ?_
                  refine wpc (step_plain rfl (acts_move (d := 113) (ltN rfl) (OpX.tmp 3 (V.b (.a (.fn 88 [])))))) (by kernel_rfl) ?_
                  refine wpc (step_plain rfl (acts_move (d := 114) (ltN rfl) (OpX.tmp 18 (V.v (.int .i64 (gI (prof s i) k)))))) (by kernel_rfl) ?_
                  refine wpc (step_plain rfl (acts_field (d := 115) (t := 12) (h := 12) (off := 0) (off' := 0) (ltN rfl) qC11_fo_39_0 rfl)) (by kernel_rfl) ?_
                  refine wpc (step_plain rfl (acts_load_own (d := 116) (t := 115) (h := 12) (off := 0) (o := ⟨39, 2, true, [(.val (.int .i64 ((cN i).x)) : A), .val (.int .i64 ((cN i).y))]⟩)  (x := .val (.int .i64 ((cN i).x))) (ltN rfl) qC11_ti_3 rfl)) (by kernel_rfl) ?_
                  refine wpc (step_plain rfl (acts_field (d := 117) (t := 12) (h := 12) (off := 0) (off' := 1) (ltN rfl) qC11_fo_39_1 rfl)) (by kernel_rfl) ?_
                  refine wpc (step_plain rfl (acts_load_own (d := 118) (t := 117) (h := 12) (off := 1) (o := ⟨39, 2, true, [(.val (.int .i64 ((cN i).x)) : A), .val (.int .i64 ((cN i).y))]⟩)  (x := .val (.int .i64 ((cN i).y))) (ltN rfl) qC11_ti_3 rfl)) (by kernel_rfl) ?_
                  refine wpc (step_plain rfl (acts_build (d := 119) (t := 32) (cells := [(.int .i64 ((cN i).x) : Value), .int .i64 ((cN i).y), .bool true]) (ltN rfl) (OpVs.cons (i := 0) (OpV.tmp 116 (.int .i64 ((cN i).x))) (OpVs.cons (i := 1) (OpV.tmp 118 (.int .i64 ((cN i).y))) (OpVs.cons (i := 2) (OpV.const (.bool true)) (OpVs.nil)))) rfl)) (by kernel_rfl) ?_
                  refine wpc (step_plain rfl (acts_callV (d := 120) (f := 88) (t := 113) (caps := []) (os := []) (os' := []) (r := V.v (.int .i64 (wth ((cN i).x) (gI (prof s i) k)))) (bs := [.a (.val (.int .i64 (gI (prof s i) k))), .agg ([(.int .i64 ((cN i).x) : Value), .int .i64 ((cN i).y), .bool true].map A.val)]) (keep := []) (new := []) (dead := []) (ltN rfl) (FnO.of_fn (impl_set__count_2_fn (gI (prof s i) k) (⟨(cN i).x, (cN i).y, true⟩ : Dom) ) (by kernel_rfl)) rfl trivial rfl (ArgOs.cons (ArgO.v (OpV.tmp 114 (.int .i64 (gI (prof s i) k)))) (ArgOs.cons (ArgO.va (vs := [(.int .i64 ((cN i).x) : Value), .int .i64 ((cN i).y), .bool true]) (OpV.agg 119 [(.int .i64 ((cN i).x) : Value), .int .i64 ((cN i).y), .bool true])) (ArgOs.nil))))) (by kernel_rfl) ?_
                  refine wpc (step_plain rfl (acts_callV (d := 121) (f := 96) (t := 109) (caps := [13, 5, 6]) (os := [(.o 13, some (.o ⟨22, 1, true, [(.sl 41 0 256 : A)]⟩)), (.o 5, some (.o ⟨3, 1, true, [(.val (.int .i64 0) : A)]⟩)), (.o 6, some (.o ⟨58, 1, true, [(.fn 87 [] : A)]⟩)), (.o 41, some (.o ⟨3, 1, true, pl (isl (stepT s i (prof s i) k))⟩))]) (os' := [(.o 13, some (.o ⟨22, 1, true, [(.sl 41 0 256 : A)]⟩)), (.o 5, some (.o ⟨3, 1, true, [(.val (.int .i64 0) : A)]⟩)), (.o 6, some (.o ⟨58, 1, true, [(.fn 87 [] : A)]⟩)), (.o 41, some (.o ⟨3, 1, true, pl (isl (putI (stepT s i (prof s i) k) (k ||| (2 ^ (((cN i).x).toNat))) (wth ((cN i).x) (gI (prof s i) k))))⟩))]) (r := V.v (.tuple #[])) (bs := [.a (.val (.int .i64 (((k ||| (2 ^ (((cN i).x).toNat))) : Nat) : Int))), .a (.val (.int .i64 (wth ((cN i).x) (gI (prof s i) k))))]) (keep := [13, 5, 6, 41]) (new := []) (dead := []) (ltN rfl) (FnO.ren' (impl_profile_1_fn (k ||| (2 ^ (((cN i).x).toNat))) 256 (wth ((cN i).x) (gI (prof s i) k)) (stepT s i (prof s i) k) (by exact or_lt (by omega) (by omega)) (by omega) (by omega) (by (rw [wth_n (by omega)]; omega)) (by exact hbt _ (or_lt (by omega) (by omega)))) (subst1 [(2, 13), (3, 5), (4, 6), (9, 41)]) rfl rfl (by kernel_rfl) (by kernel_rfl) ⟨ocs (by kernel_rfl), ocs (by kernel_rfl), ocs (by kernel_rfl), oc_pl (fun _ => rfl), trivial⟩ (by kernel_rfl) rfl (by simp only [renS, Ob.ren, pl_ren, rws_ren_doms, rws_ren_ints, rws_ren_cels]; rfl) (by simp only [renS, Ob.ren, pl_ren, rws_ren_doms, rws_ren_ints, rws_ren_cels]; rfl) rfl rfl) (by kernel_rfl) ⟨ocs (by kernel_rfl), ocs (by kernel_rfl), ocs (by kernel_rfl), oc_pl (fun _ => rfl), trivial⟩ (by kernel_rfl) (ArgOs.cons (ArgO.v (OpV.tmp 112 (.int .i64 (((k ||| (2 ^ (((cN i).x).toNat))) : Nat) : Int)))) (ArgOs.cons (ArgO.v (OpV.tmp 120 (.int .i64 (wth ((cN i).x) (gI (prof s i) k))))) (ArgOs.nil))))) (by kernel_rfl) ?_
                  refine wpl_nil ?_
                  refine wp_seq' ?_
                  rcases Bool.eq_false_or_eq_true ((hasS s (⟨((cN i).x + 1), (cN i).y⟩ : Cel))) with c13 | c13
                  · skip
                    have hR : rtB s i = true := (has_rt (by omega)).symm.trans c13
                    have hr7 := rt_lt hR
                    refine wp_region_t ?_
                    refine wpc (step_plain rfl (acts_move (d := 122) (ltN rfl) (OpX.tmp 0 (V.v (.int .u64 ((s : Nat) : Int)))))) (by kernel_rfl) ?_
                    refine wpc (step_plain rfl (acts_field (d := 123) (t := 12) (h := 12) (off := 0) (off' := 0) (ltN rfl) qC11_fo_39_0 rfl)) (by kernel_rfl) ?_
                    refine wpc (step_plain rfl (acts_load_own (d := 124) (t := 123) (h := 12) (off := 0) (o := ⟨39, 2, true, [(.val (.int .i64 ((cN i).x)) : A), .val (.int .i64 ((cN i).y))]⟩)  (x := .val (.int .i64 ((cN i).x))) (ltN rfl) qC11_ti_3 rfl)) (by kernel_rfl) ?_
                    refine wpc (step_plain rfl (acts_bin (d := 125) (ltN rfl) (OpV.tmp 124 (.int .i64 ((cN i).x))) (OpV.const (.int .i64 1)) (r_add (c := ((cN i).x + 1)) (w64 (by omega) (by omega))))) (by kernel_rfl) ?_
                    refine wpc (step_plain rfl (acts_field (d := 126) (t := 12) (h := 12) (off := 0) (off' := 1) (ltN rfl) qC11_fo_39_1 rfl)) (by kernel_rfl) ?_
                    refine wpc (step_plain rfl (acts_load_own (d := 127) (t := 126) (h := 12) (off := 1) (o := ⟨39, 2, true, [(.val (.int .i64 ((cN i).x)) : A), .val (.int .i64 ((cN i).y))]⟩)  (x := .val (.int .i64 ((cN i).y))) (ltN rfl) qC11_ti_3 rfl)) (by kernel_rfl) ?_
                    refine wpc (step_plain rfl (acts_build (d := 128) (t := 39) (cells := [(.int .i64 ((cN i).x + 1) : Value), .int .i64 ((cN i).y)]) (ltN rfl) (OpVs.cons (i := 0) (OpV.tmp 125 (.int .i64 ((cN i).x + 1))) (OpVs.cons (i := 1) (OpV.tmp 127 (.int .i64 ((cN i).y))) (OpVs.nil))) rfl)) (by kernel_rfl) ?_
                    refine wpc (step_plain rfl (acts_call1 (d := 129) (ltN rfl) (impl_set__has_fn s (⟨((cN i).x + 1), (cN i).y⟩ : Cel) (by omega)) (ArgVs.cons (ArgV.v (OpV.tmp 122 (.int .u64 ((s : Nat) : Int)))) (ArgVs.cons (ArgV.va (vs := [(.int .i64 ((cN i).x + 1) : Value), .int .i64 ((cN i).y)]) (OpV.agg 128 [(.int .i64 ((cN i).x + 1) : Value), .int .i64 ((cN i).y)])) (ArgVs.nil))) ((resval (congrArg Value.bool c13))))) (by kernel_rfl) ?_
                    refine wpc (step_plain rfl (acts_move (d := 130) (ltN rfl) (OpX.tmp 129 (V.v (.bool true))))) (by kernel_rfl) ?_
                    refine wpc (step_on (dj := 130) rfl rfl (acts_move (d := 131) (ltN rfl) (OpX.tmp 17 (V.v (.int .i64 ((k : Nat) : Int)))))) (by kernel_rfl) ?_
                    refine wpc (step_on (dj := 130) rfl rfl (acts_move (d := 132) (ltN rfl) (OpX.tmp 16 (V.v (.int .i64 (((2 ^ (((cN i).x).toNat)) : Nat) : Int)))))) (by kernel_rfl) ?_
                    refine wpc (step_on (dj := 130) rfl rfl (acts_bin (d := 133) (ltN rfl) (OpV.tmp 132 (.int .i64 (((2 ^ (((cN i).x).toNat)) : Nat) : Int))) (OpV.const (.int .u64 1)) (r_shl (c := ((((2 ^ (((cN i).x).toNat)) <<< 1) : Nat) : Int)) (by omega) (shlI (m := (2 ^ (((cN i).x).toNat))) (n := 1) rfl rfl (by omega) (by omega))))) (by kernel_rfl) ?_
                    refine wpc (step_on (dj := 130) rfl rfl (acts_bin (d := 134) (ltN rfl) (OpV.tmp 131 (.int .i64 ((k : Nat) : Int))) (OpV.tmp 133 (.int .i64 ((((2 ^ (((cN i).x).toNat)) <<< 1) : Nat) : Int))) (r_and (c := (((k &&& ((2 ^ (((cN i).x).toNat)) <<< 1)) : Nat) : Int)) (andI (m := k) (n := ((2 ^ (((cN i).x).toNat)) <<< 1)) rfl rfl (by omega) (by omega))))) (by kernel_rfl) ?_
                    refine wpc (step_on (dj := 130) rfl rfl (acts_bin (d := 135) (ltN rfl) (OpV.tmp 134 (.int .i64 (((k &&& ((2 ^ (((cN i).x).toNat)) <<< 1)) : Nat) : Int))) (OpV.const (.int .i64 0)) (r_eql (c := (decide ((((k &&& ((2 ^ (((cN i).x).toNat)) <<< 1)) : Nat) : Int) = 0))) rfl))) (by kernel_rfl) ?_
                    refine wpc (step_plain rfl (acts_pick_t (d := 136) (ltN rfl) (OpV.tmp 130 (.bool true)) (OpX.tmp 135 (V.v (.bool (decide ((((k &&& ((2 ^ (((cN i).x).toNat)) <<< 1)) : Nat) : Int) = 0))))))) (by kernel_rfl) ?_
                    refine wpl_nil ?_
                    refine wp_if (t := 136) (decide ((((k &&& ((2 ^ (((cN i).x).toNat)) <<< 1)) : Nat) : Int) = 0)) (by kernel_rfl) (fun c14 => ?_) (fun c14 => ?_)
                    · skip
                      have c14P := of_decide_eq_true c14
                      have hK1 : k.testBit (i % 8 + 1) = false := and1 c14
                      refine wp_region_t ?_
                      refine wpc (step_plain rfl (acts_move (d := 137) (ltN rfl) (OpX.tmp 15 (V.b (.a (.fn 96 [13, 5, 6])))))) (by kernel_rfl) ?_
                      refine wpc (step_plain rfl (acts_move (d := 138) (ltN rfl) (OpX.tmp 17 (V.v (.int .i64 ((k : Nat) : Int)))))) (by kernel_rfl) ?_
                      refine wpc (step_plain rfl (acts_move (d := 139) (ltN rfl) (OpX.tmp 16 (V.v (.int .i64 (((2 ^ (((cN i).x).toNat)) : Nat) : Int)))))) (by kernel_rfl) ?_
                      refine wpc (step_plain rfl (acts_bin (d := 140) (ltN rfl) (OpV.tmp 139 (.int .i64 (((2 ^ (((cN i).x).toNat)) : Nat) : Int))) (OpV.const (.int .u64 1)) (r_shl (c := ((((2 ^ (((cN i).x).toNat)) <<< 1) : Nat) : Int)) (by omega) (shlI (m := (2 ^ (((cN i).x).toNat))) (n := 1) rfl rfl (by omega) (by omega))))) (by kernel_rfl) ?_
                      refine wpc (step_plain rfl (acts_bin (d := 141) (ltN rfl) (OpV.tmp 138 (.int .i64 ((k : Nat) : Int))) (OpV.tmp 140 (.int .i64 ((((2 ^ (((cN i).x).toNat)) <<< 1) : Nat) : Int))) (r_or (c := (((k ||| ((2 ^ (((cN i).x).toNat)) <<< 1)) : Nat) : Int)) (orI (m := k) (n := ((2 ^ (((cN i).x).toNat)) <<< 1)) rfl rfl (by omega) (by omega))))) (by kernel_rfl) ?_
                      refine wpc (step_plain rfl (acts_move (d := 142) (ltN rfl) (OpX.tmp 3 (V.b (.a (.fn 88 [])))))) (by kernel_rfl) ?_
                      refine wpc (step_plain rfl (acts_move (d := 143) (ltN rfl) (OpX.tmp 18 (V.v (.int .i64 (gI (prof s i) k)))))) (by kernel_rfl) ?_
                      refine wpc (step_plain rfl (acts_field (d := 144) (t := 12) (h := 12) (off := 0) (off' := 0) (ltN rfl) qC11_fo_39_0 rfl)) (by kernel_rfl) ?_
                      refine wpc (step_plain rfl (acts_load_own (d := 145) (t := 144) (h := 12) (off := 0) (o := ⟨39, 2, true, [(.val (.int .i64 ((cN i).x)) : A), .val (.int .i64 ((cN i).y))]⟩)  (x := .val (.int .i64 ((cN i).x))) (ltN rfl) qC11_ti_3 rfl)) (by kernel_rfl) ?_
                      refine wpc (step_plain rfl (acts_field (d := 146) (t := 12) (h := 12) (off := 0) (off' := 1) (ltN rfl) qC11_fo_39_1 rfl)) (by kernel_rfl) ?_
                      refine wpc (step_plain rfl (acts_load_own (d := 147) (t := 146) (h := 12) (off := 1) (o := ⟨39, 2, true, [(.val (.int .i64 ((cN i).x)) : A), .val (.int .i64 ((cN i).y))]⟩)  (x := .val (.int .i64 ((cN i).y))) (ltN rfl) qC11_ti_3 rfl)) (by kernel_rfl) ?_
                      refine wpc (step_plain rfl (acts_build (d := 148) (t := 32) (cells := [(.int .i64 ((cN i).x) : Value), .int .i64 ((cN i).y), .bool false]) (ltN rfl) (OpVs.cons (i := 0) (OpV.tmp 145 (.int .i64 ((cN i).x))) (OpVs.cons (i := 1) (OpV.tmp 147 (.int .i64 ((cN i).y))) (OpVs.cons (i := 2) (OpV.const (.bool false)) (OpVs.nil)))) rfl)) (by kernel_rfl) ?_
                      refine wpc (step_plain rfl (acts_callV (d := 149) (f := 88) (t := 142) (caps := []) (os := []) (os' := []) (r := V.v (.int .i64 (wth ((cN i).x) (gI (prof s i) k)))) (bs := [.a (.val (.int .i64 (gI (prof s i) k))), .agg ([(.int .i64 ((cN i).x) : Value), .int .i64 ((cN i).y), .bool false].map A.val)]) (keep := []) (new := []) (dead := []) (ltN rfl) (FnO.of_fn (impl_set__count_2_fn (gI (prof s i) k) (⟨(cN i).x, (cN i).y, false⟩ : Dom) ) (by kernel_rfl)) rfl trivial rfl (ArgOs.cons (ArgO.v (OpV.tmp 143 (.int .i64 (gI (prof s i) k)))) (ArgOs.cons (ArgO.va (vs := [(.int .i64 ((cN i).x) : Value), .int .i64 ((cN i).y), .bool false]) (OpV.agg 148 [(.int .i64 ((cN i).x) : Value), .int .i64 ((cN i).y), .bool false])) (ArgOs.nil))))) (by kernel_rfl) ?_
                      refine wpc (step_plain rfl (acts_callV (d := 150) (f := 96) (t := 137) (caps := [13, 5, 6]) (os := [(.o 13, some (.o ⟨22, 1, true, [(.sl 41 0 256 : A)]⟩)), (.o 5, some (.o ⟨3, 1, true, [(.val (.int .i64 0) : A)]⟩)), (.o 6, some (.o ⟨58, 1, true, [(.fn 87 [] : A)]⟩)), (.o 41, some (.o ⟨3, 1, true, pl (isl (putI (stepT s i (prof s i) k) (k ||| (2 ^ (((cN i).x).toNat))) (wth ((cN i).x) (gI (prof s i) k))))⟩))]) (os' := [(.o 13, some (.o ⟨22, 1, true, [(.sl 41 0 256 : A)]⟩)), (.o 5, some (.o ⟨3, 1, true, [(.val (.int .i64 0) : A)]⟩)), (.o 6, some (.o ⟨58, 1, true, [(.fn 87 [] : A)]⟩)), (.o 41, some (.o ⟨3, 1, true, pl (isl (putI (putI (stepT s i (prof s i) k) (k ||| (2 ^ (((cN i).x).toNat))) (wth ((cN i).x) (gI (prof s i) k))) (k ||| ((2 ^ (((cN i).x).toNat)) <<< 1)) (wth ((cN i).x) (gI (prof s i) k))))⟩))]) (r := V.v (.tuple #[])) (bs := [.a (.val (.int .i64 (((k ||| ((2 ^ (((cN i).x).toNat)) <<< 1)) : Nat) : Int))), .a (.val (.int .i64 (wth ((cN i).x) (gI (prof s i) k))))]) (keep := [13, 5, 6, 41]) (new := []) (dead := []) (ltN rfl) (FnO.ren' (impl_profile_1_fn (k ||| ((2 ^ (((cN i).x).toNat)) <<< 1)) 256 (wth ((cN i).x) (gI (prof s i) k)) (putI (stepT s i (prof s i) k) (k ||| (2 ^ (((cN i).x).toNat))) (wth ((cN i).x) (gI (prof s i) k))) (by (rw [shl_one]; exact or_lt (by omega) (by omega))) (by (simp only [putI_len, stepT_len]; done)) (by omega) (by (rw [wth_n (by omega)]; omega)) (by exact rt_bd (by omega) (by omega) hR)) (subst1 [(2, 13), (3, 5), (4, 6), (9, 41)]) rfl rfl (by kernel_rfl) (by kernel_rfl) ⟨ocs (by kernel_rfl), ocs (by kernel_rfl), ocs (by kernel_rfl), oc_pl (fun _ => rfl), trivial⟩ (by kernel_rfl) rfl (by simp only [renS, Ob.ren, pl_ren, rws_ren_doms, rws_ren_ints, rws_ren_cels]; rfl) (by simp only [renS, Ob.ren, pl_ren, rws_ren_doms, rws_ren_ints, rws_ren_cels]; rfl) rfl rfl) (by kernel_rfl) ⟨ocs (by kernel_rfl), ocs (by kernel_rfl), ocs (by kernel_rfl), oc_pl (fun _ => rfl), trivial⟩ (by kernel_rfl) (ArgOs.cons (ArgO.v (OpV.tmp 141 (.int .i64 (((k ||| ((2 ^ (((cN i).x).toNat)) <<< 1)) : Nat) : Int)))) (ArgOs.cons (ArgO.v (OpV.tmp 149 (.int .i64 (wth ((cN i).x) (gI (prof s i) k))))) (ArgOs.nil))))) (by kernel_rfl) ?_
                      refine wpl_nil ?_
                      refine wp_region_t ?_
                      refine wpc (step_plain rfl (acts_bin (d := 151) (ltN rfl) (OpV.tmp 58 (.int .i64 ((k : Nat) : Int))) (OpV.const (.int .i64 1)) (r_add (c := (((k : Nat) : Int) + 1)) (w64 (by omega) (by omega))))) (by kernel_rfl) ?_
                      refine wpc (step_plain rfl (acts_move (d := 58) (ltN rfl) (OpX.tmp 151 (V.v (.int .i64 (((k : Nat) : Int) + 1)))))) (by kernel_rfl) ?_
                      refine wpl_nil ?_
                      exact loop_back ((k + 1)) (by show _ ≤ _; omega) (by show 256 - (k + 1) < 256 - k; omega) (weak_of id [21, 34, 40, 43, 57, 69, 80, 84, 96, 100, 108, 120, 121, 129, 149, 150] (by kernel_rfl) (wk_s (v' := V.v (.int .u64 ((s : Nat) : Int))) (by kernel_rfl) rfl rfl (wk_s (v' := V.b (.a (.fn 88 []))) (by kernel_rfl) rfl rfl (wk_s (v' := V.p 5 0) (by kernel_rfl) rfl rfl (wk_s (v' := V.p 6 0) (by kernel_rfl) rfl rfl (wk_s (v' := V.p 12 0) (by kernel_rfl) rfl rfl (wk_s (v' := V.p 13 0) (by kernel_rfl) rfl rfl (wk_s (v' := V.b (.a (.fn 96 [13, 5, 6]))) (by kernel_rfl) rfl rfl (wk_s (v' := V.v (.int .i64 (((2 ^ (((cN i).x).toNat)) : Nat) : Int))) (by kernel_rfl) rfl rfl (wk_s (v' := V.v (.int .i64 ((i : Nat) : Int))) (by kernel_rfl) rfl rfl (wk_s (v' := V.b (.a (.sl 19 0 ((prof s i).length)))) (by kernel_rfl) rfl rfl (wk_s (v' := V.v (.int .i64 (((prof s i).length : Nat) : Int))) (by kernel_rfl) rfl rfl (wk_s (v' := V.v (.int .i64 (((k : Nat) : Int) + 1))) (by kernel_rfl) (vint (by rfl)) rfl (wk_o (o' := ⟨3, 1, true, [(.val (.int .i64 0) : A)]⟩) (by kernel_rfl) (renob_l (fun h => h) rfl rfl) rfl (wk_o (o' := ⟨58, 1, true, [(.fn 87 [] : A)]⟩) (by kernel_rfl) (renob_l (fun h => h) rfl rfl) rfl (wk_o (o' := ⟨39, 2, true, [(.val (.int .i64 ((cN i).x)) : A), .val (.int .i64 ((cN i).y))]⟩) (by kernel_rfl) (renob_l (fun h => h) rfl rfl) rfl (wk_o (o' := ⟨22, 1, true, [(.sl 41 0 256 : A)]⟩) (by kernel_rfl) (renob_l (fun h => h) rfl rfl) rfl (wk_o (o' := ⟨3, 1, true, pl (isl (prof s i))⟩) (by kernel_rfl) (renob_pl (fun h => h)) rfl (wk_o (o' := ⟨3, 1, true, pl (isl (putI (putI (stepT s i (prof s i) k) (k ||| (2 ^ (((cN i).x).toNat))) (wth ((cN i).x) (gI (prof s i) k))) (k ||| ((2 ^ (((cN i).x).toNat)) <<< 1)) (wth ((cN i).x) (gI (prof s i) k))))⟩) (by kernel_rfl) (renob_eq (fun h => h) (congrArg isl (by (rw [stepT_snoc, sk_c hN hS hK]; simp only [hD, hR, hK1, wth_n hcx0, shl_one, Bool.true_and, Bool.false_and, Bool.not_false, Bool.not_true, if_true, if_false, Bool.false_eq_true]; first | done | rfl)))) rfl (wk_f rfl (wk_f rfl (wk_f rfl (wk_f rfl (wk_f rfl (wk_f rfl (wk_f rfl (wk_f rfl (wk_f rfl (wk_f rfl (wk_f rfl (wk_f rfl (wk_f rfl (wk_f rfl (wk_f rfl (wk_f rfl (wk_nil))))))))))))))))))))))))))))))))))))
                    · skip
                      have c14P := of_decide_eq_false c14
                      have hK1 : k.testBit (i % 8 + 1) = true := and1 c14
                      refine wp_skip' ?_
                      refine wp_region_t ?_
                      refine wpc (step_plain rfl (acts_bin (d := 151) (ltN rfl) (OpV.tmp 58 (.int .i64 ((k : Nat) : Int))) (OpV.const (.int .i64 1)) (r_add (c := (((k : Nat) : Int) + 1)) (w64 (by omega) (by omega))))) (by kernel_rfl) ?_
                      refine wpc (step_plain rfl (acts_move (d := 58) (ltN rfl) (OpX.tmp 151 (V.v (.int .i64 (((k : Nat) : Int) + 1)))))) (by kernel_rfl) ?_
                      refine wpl_nil ?_
                      exact loop_back ((k + 1)) (by show _ ≤ _; omega) (by show 256 - (k + 1) < 256 - k; omega) (weak_of id [21, 34, 40, 43, 57, 69, 80, 84, 96, 100, 108, 120, 121, 129, 149, 150] (by kernel_rfl) (wk_s (v' := V.v (.int .u64 ((s : Nat) : Int))) (by kernel_rfl) rfl rfl (wk_s (v' := V.b (.a (.fn 88 []))) (by kernel_rfl) rfl rfl (wk_s (v' := V.p 5 0) (by kernel_rfl) rfl rfl (wk_s (v' := V.p 6 0) (by kernel_rfl) rfl rfl (wk_s (v' := V.p 12 0) (by kernel_rfl) rfl rfl (wk_s (v' := V.p 13 0) (by kernel_rfl) rfl rfl (wk_s (v' := V.b (.a (.fn 96 [13, 5, 6]))) (by kernel_rfl) rfl rfl (wk_s (v' := V.v (.int .i64 (((2 ^ (((cN i).x).toNat)) : Nat) : Int))) (by kernel_rfl) rfl rfl (wk_s (v' := V.v (.int .i64 ((i : Nat) : Int))) (by kernel_rfl) rfl rfl (wk_s (v' := V.b (.a (.sl 19 0 ((prof s i).length)))) (by kernel_rfl) rfl rfl (wk_s (v' := V.v (.int .i64 (((prof s i).length : Nat) : Int))) (by kernel_rfl) rfl rfl (wk_s (v' := V.v (.int .i64 (((k : Nat) : Int) + 1))) (by kernel_rfl) (vint (by rfl)) rfl (wk_o (o' := ⟨3, 1, true, [(.val (.int .i64 0) : A)]⟩) (by kernel_rfl) (renob_l (fun h => h) rfl rfl) rfl (wk_o (o' := ⟨58, 1, true, [(.fn 87 [] : A)]⟩) (by kernel_rfl) (renob_l (fun h => h) rfl rfl) rfl (wk_o (o' := ⟨39, 2, true, [(.val (.int .i64 ((cN i).x)) : A), .val (.int .i64 ((cN i).y))]⟩) (by kernel_rfl) (renob_l (fun h => h) rfl rfl) rfl (wk_o (o' := ⟨22, 1, true, [(.sl 41 0 256 : A)]⟩) (by kernel_rfl) (renob_l (fun h => h) rfl rfl) rfl (wk_o (o' := ⟨3, 1, true, pl (isl (prof s i))⟩) (by kernel_rfl) (renob_pl (fun h => h)) rfl (wk_o (o' := ⟨3, 1, true, pl (isl (putI (stepT s i (prof s i) k) (k ||| (2 ^ (((cN i).x).toNat))) (wth ((cN i).x) (gI (prof s i) k))))⟩) (by kernel_rfl) (renob_eq (fun h => h) (congrArg isl (by (rw [stepT_snoc, sk_c hN hS hK]; simp only [hD, hR, hK1, wth_n hcx0, shl_one, Bool.true_and, Bool.false_and, Bool.not_false, Bool.not_true, if_true, if_false, Bool.false_eq_true]; first | done | rfl)))) rfl (wk_f rfl (wk_f rfl (wk_f rfl (wk_f rfl (wk_f rfl (wk_f rfl (wk_f rfl (wk_f rfl (wk_f rfl (wk_f rfl (wk_f rfl (wk_f rfl (wk_f rfl (wk_f rfl (wk_f rfl (wk_f rfl (wk_nil))))))))))))))))))))))))))))))))))))
                  · skip
                    have hR : rtB s i = false := (has_rt (by omega)).symm.trans c13
                    refine wp_region_t ?_
                    refine wpc (step_plain rfl (acts_move (d := 122) (ltN rfl) (OpX.tmp 0 (V.v (.int .u64 ((s : Nat) : Int)))))) (by kernel_rfl) ?_
                    refine wpc (step_plain rfl (acts_field (d := 123) (t := 12) (h := 12) (off := 0) (off' := 0) (ltN rfl) qC11_fo_39_0 rfl)) (by kernel_rfl) ?_
                    refine wpc (step_plain rfl (acts_load_own (d := 124) (t := 123) (h := 12) (off := 0) (o := ⟨39, 2, true, [(.val (.int .i64 ((cN i).x)) : A), .val (.int .i64 ((cN i).y))]⟩)  (x := .val (.int .i64 ((cN i).x))) (ltN rfl) qC11_ti_3 rfl)) (by kernel_rfl) ?_
                    refine wpc (step_plain rfl (acts_bin (d := 125) (ltN rfl) (OpV.tmp 124 (.int .i64 ((cN i).x))) (OpV.const (.int .i64 1)) (r_add (c := ((cN i).x + 1)) (w64 (by omega) (by omega))))) (by kernel_rfl) ?_
                    refine wpc (step_plain rfl (acts_field (d := 126) (t := 12) (h := 12) (off := 0) (off' := 1) (ltN rfl) qC11_fo_39_1 rfl)) (by kernel_rfl) ?_
                    refine wpc (step_plain rfl (acts_load_own (d := 127) (t := 126) (h := 12) (off := 1) (o := ⟨39, 2, true, [(.val (.int .i64 ((cN i).x)) : A), .val (.int .i64 ((cN i).y))]⟩)  (x := .val (.int .i64 ((cN i).y))) (ltN rfl) qC11_ti_3 rfl)) (by kernel_rfl) ?_
                    refine wpc (step_plain rfl (acts_build (d := 128) (t := 39) (cells := [(.int .i64 ((cN i).x + 1) : Value), .int .i64 ((cN i).y)]) (ltN rfl) (OpVs.cons (i := 0) (OpV.tmp 125 (.int .i64 ((cN i).x + 1))) (OpVs.cons (i := 1) (OpV.tmp 127 (.int .i64 ((cN i).y))) (OpVs.nil))) rfl)) (by kernel_rfl) ?_
                    refine wpc (step_plain rfl (acts_call1 (d := 129) (ltN rfl) (impl_set__has_fn s (⟨((cN i).x + 1), (cN i).y⟩ : Cel) (by omega)) (ArgVs.cons (ArgV.v (OpV.tmp 122 (.int .u64 ((s : Nat) : Int)))) (ArgVs.cons (ArgV.va (vs := [(.int .i64 ((cN i).x + 1) : Value), .int .i64 ((cN i).y)]) (OpV.agg 128 [(.int .i64 ((cN i).x + 1) : Value), .int .i64 ((cN i).y)])) (ArgVs.nil))) ((resval (congrArg Value.bool c13))))) (by kernel_rfl) ?_
                    refine wpc (step_plain rfl (acts_move (d := 130) (ltN rfl) (OpX.tmp 129 (V.v (.bool false))))) (by kernel_rfl) ?_
                    refine wpc (step_off (dj := 130) (b' := false) rfl rfl (by decide) rfl (ltN rfl)) (by kernel_rfl) ?_
                    refine wpc (step_off (dj := 130) (b' := false) rfl rfl (by decide) rfl (ltN rfl)) (by kernel_rfl) ?_
                    refine wpc (step_off (dj := 130) (b' := false) rfl rfl (by decide) rfl (ltN rfl)) (by kernel_rfl) ?_
                    refine wpc (step_off (dj := 130) (b' := false) rfl rfl (by decide) rfl (ltN rfl)) (by kernel_rfl) ?_
                    refine wpc (step_off (dj := 130) (b' := false) rfl rfl (by decide) rfl (ltN rfl)) (by kernel_rfl) ?_
                    refine wpc (step_plain rfl (acts_pick_f (d := 136) (ltN rfl) (OpV.tmp 130 (.bool false)) (OpX.const (.bool false)))) (by kernel_rfl) ?_
                    refine wpl_nil ?_
                    refine wp_if_f (t := 136) (by kernel_rfl) ?_
                    refine wp_skip' ?_
                    refine wp_region_t ?_
                    refine wpc (step_plain rfl (acts_bin (d := 151) (ltN rfl) (OpV.tmp 58 (.int .i64 ((k : Nat) : Int))) (OpV.const (.int .i64 1)) (r_add (c := (((k : Nat) : Int) + 1)) (w64 (by omega) (by omega))))) (by kernel_rfl) ?_
                    refine wpc (step_plain rfl (acts_move (d := 58) (ltN rfl) (OpX.tmp 151 (V.v (.int .i64 (((k : Nat) : Int) + 1)))))) (by kernel_rfl) ?_
                    refine wpl_nil ?_
                    exact loop_back ((k + 1)) (by show _ ≤ _; omega) (by show 256 - (k + 1) < 256 - k; omega) (weak_of id [21, 34, 40, 43, 57, 69, 80, 84, 96, 100, 108, 120, 121, 129, 149, 150] (by kernel_rfl) (wk_s (v' := V.v (.int .u64 ((s : Nat) : Int))) (by kernel_rfl) rfl rfl (wk_s (v' := V.b (.a (.fn 88 []))) (by kernel_rfl) rfl rfl (wk_s (v' := V.p 5 0) (by kernel_rfl) rfl rfl (wk_s (v' := V.p 6 0) (by kernel_rfl) rfl rfl (wk_s (v' := V.p 12 0) (by kernel_rfl) rfl rfl (wk_s (v' := V.p 13 0) (by kernel_rfl) rfl rfl (wk_s (v' := V.b (.a (.fn 96 [13, 5, 6]))) (by kernel_rfl) rfl rfl (wk_s (v' := V.v (.int .i64 (((2 ^ (((cN i).x).toNat)) : Nat) : Int))) (by kernel_rfl) rfl rfl (wk_s (v' := V.v (.int .i64 ((i : Nat) : Int))) (by kernel_rfl) rfl rfl (wk_s (v' := V.b (.a (.sl 19 0 ((prof s i).length)))) (by kernel_rfl) rfl rfl (wk_s (v' := V.v (.int .i64 (((prof s i).length : Nat) : Int))) (by kernel_rfl) rfl rfl (wk_s (v' := V.v (.int .i64 (((k : Nat) : Int) + 1))) (by kernel_rfl) (vint (by rfl)) rfl (wk_o (o' := ⟨3, 1, true, [(.val (.int .i64 0) : A)]⟩) (by kernel_rfl) (renob_l (fun h => h) rfl rfl) rfl (wk_o (o' := ⟨58, 1, true, [(.fn 87 [] : A)]⟩) (by kernel_rfl) (renob_l (fun h => h) rfl rfl) rfl (wk_o (o' := ⟨39, 2, true, [(.val (.int .i64 ((cN i).x)) : A), .val (.int .i64 ((cN i).y))]⟩) (by kernel_rfl) (renob_l (fun h => h) rfl rfl) rfl (wk_o (o' := ⟨22, 1, true, [(.sl 41 0 256 : A)]⟩) (by kernel_rfl) (renob_l (fun h => h) rfl rfl) rfl (wk_o (o' := ⟨3, 1, true, pl (isl (prof s i))⟩) (by kernel_rfl) (renob_pl (fun h => h)) rfl (wk_o (o' := ⟨3, 1, true, pl (isl (putI (stepT s i (prof s i) k) (k ||| (2 ^ (((cN i).x).toNat))) (wth ((cN i).x) (gI (prof s i) k))))⟩) (by kernel_rfl) (renob_eq (fun h => h) (congrArg isl (by (rw [stepT_snoc, sk_c hN hS hK]; simp only [hD, hR, wth_n hcx0, shl_one, Bool.true_and, Bool.false_and, Bool.not_false, Bool.not_true, if_true, if_false, Bool.false_eq_true]; first | done | rfl)))) rfl (wk_f rfl (wk_f rfl (wk_f rfl (wk_f rfl (wk_f rfl (wk_f rfl (wk_f rfl (wk_f rfl (wk_f rfl (wk_f rfl (wk_f rfl (wk_f rfl (wk_f rfl (wk_f rfl (wk_f rfl (wk_f rfl (wk_nil))))))))))))))))))))))))))))))))))))
                · skip
                  have hD : dnB s i = false := (has_dn (by omega)).symm.trans c12
                  refine wp_skip' ?_
                  refine wp_seq' ?_
                  rcases Bool.eq_false_or_eq_true ((hasS s (⟨((cN i).x + 1), (cN i).y⟩ : Cel))) with c15 | c15
                  · skip
                    have hR : rtB s i = true := (has_rt (by omega)).symm.trans c15
                    have hr7 := rt_lt hR
                    refine wp_region_t ?_
                    refine wpc (step_plain rfl (acts_move (d := 122) (ltN rfl) (OpX.tmp 0 (V.v (.int .u64 ((s : Nat) : Int)))))) (by kernel_rfl) ?_
                    refine wpc (step_plain rfl (acts_field (d := 123) (t := 12) (h := 12) (off := 0) (off' := 0) (ltN rfl) qC11_fo_39_0 rfl)) (by kernel_rfl) ?_
                    refine wpc (step_plain rfl (acts_load_own (d := 124) (t := 123) (h := 12) (off := 0) (o := ⟨39, 2, true, [(.val (.int .i64 ((cN i).x)) : A), .val (.int .i64 ((cN i).y))]⟩)  (x := .val (.int .i64 ((cN i).x))) (ltN rfl) qC11_ti_3 rfl)) (by kernel_rfl) ?_
                    refine wpc (step_plain rfl (acts_bin (d := 125) (ltN rfl) (OpV.tmp 124 (.int .i64 ((cN i).x))) (OpV.const (.int .i64 1)) (r_add (c := ((cN i).x + 1)) (w64 (by omega) (by omega))))) (by kernel_rfl) ?_
                    refine wpc (step_plain rfl (acts_field (d := 126) (t := 12) (h := 12) (off := 0) (off' := 1) (ltN rfl) qC11_fo_39_1 rfl)) (by kernel_rfl) ?_
                    refine wpc (step_plain rfl (acts_load_own (d := 127) (t := 126) (h := 12) (off := 1) (o := ⟨39, 2, true, [(.val (.int .i64 ((cN i).x)) : A), .val (.int .i64 ((cN i).y))]⟩)  (x := .val (.int .i64 ((cN i).y))) (ltN rfl) qC11_ti_3 rfl)) (by kernel_rfl) ?_
                    refine wpc (step_plain rfl (acts_build (d := 128) (t := 39) (cells := [(.int .i64 ((cN i).x + 1) : Value), .int .i64 ((cN i).y)]) (ltN rfl) (OpVs.cons (i := 0) (OpV.tmp 125 (.int .i64 ((cN i).x + 1))) (OpVs.cons (i := 1) (OpV.tmp 127 (.int .i64 ((cN i).y))) (OpVs.nil))) rfl)) (by kernel_rfl) ?_
                    refine wpc (step_plain rfl (acts_call1 (d := 129) (ltN rfl) (impl_set__has_fn s (⟨((cN i).x + 1), (cN i).y⟩ : Cel) (by omega)) (ArgVs.cons (ArgV.v (OpV.tmp 122 (.int .u64 ((s : Nat) : Int)))) (ArgVs.cons (ArgV.va (vs := [(.int .i64 ((cN i).x + 1) : Value), .int .i64 ((cN i).y)]) (OpV.agg 128 [(.int .i64 ((cN i).x + 1) : Value), .int .i64 ((cN i).y)])) (ArgVs.nil))) ((resval (congrArg Value.bool c15))))) (by kernel_rfl) ?_
                    refine wpc (step_plain rfl (acts_move (d := 130) (ltN rfl) (OpX.tmp 129 (V.v (.bool true))))) (by kernel_rfl) ?_
                    refine wpc (step_on (dj := 130) rfl rfl (acts_move (d := 131) (ltN rfl) (OpX.tmp 17 (V.v (.int .i64 ((k : Nat) : Int)))))) (by kernel_rfl) ?_
                    refine wpc (step_on (dj := 130) rfl rfl (acts_move (d := 132) (ltN rfl) (OpX.tmp 16 (V.v (.int .i64 (((2 ^ (((cN i).x).toNat)) : Nat) : Int)))))) (by kernel_rfl) ?_
                    refine wpc (step_on (dj := 130) rfl rfl (acts_bin (d := 133) (ltN rfl) (OpV.tmp 132 (.int .i64 (((2 ^ (((cN i).x).toNat)) : Nat) : Int))) (OpV.const (.int .u64 1)) (r_shl (c := ((((2 ^ (((cN i).x).toNat)) <<< 1) : Nat) : Int)) (by omega) (shlI (m := (2 ^ (((cN i).x).toNat))) (n := 1) rfl rfl (by omega) (by omega))))) (by kernel_rfl) ?_
                    refine wpc (step_on (dj := 130) rfl rfl (acts_bin (d := 134) (ltN rfl) (OpV.tmp 131 (.int .i64 ((k : Nat) : Int))) (OpV.tmp 133 (.int .i64 ((((2 ^ (((cN i).x).toNat)) <<< 1) : Nat) : Int))) (r_and (c := (((k &&& ((2 ^ (((cN i).x).toNat)) <<< 1)) : Nat) : Int)) (andI (m := k) (n := ((2 ^ (((cN i).x).toNat)) <<< 1)) rfl rfl (by omega) (by omega))))) (by kernel_rfl) ?_
                    refine wpc (step_on (dj := 130) rfl rfl (acts_bin (d := 135) (ltN rfl) (OpV.tmp 134 (.int .i64 (((k &&& ((2 ^ (((cN i).x).toNat)) <<< 1)) : Nat) : Int))) (OpV.const (.int .i64 0)) (r_eql (c := (decide ((((k &&& ((2 ^ (((cN i).x).toNat)) <<< 1)) : Nat) : Int) = 0))) rfl))) (by kernel_rfl) ?_
                    refine wpc (step_plain rfl (acts_pick_t (d := 136) (ltN rfl) (OpV.tmp 130 (.bool true)) (OpX.tmp 135 (V.v (.bool (decide ((((k &&& ((2 ^ (((cN i).x).toNat)) <<< 1)) : Nat) : Int) = 0))))))) (by kernel_rfl) ?_
                    refine wpl_nil ?_
                    refine wp_if (t := 136) (decide ((((k &&& ((2 ^ (((cN i).x).toNat)) <<< 1)) : Nat) : Int) = 0)) (by kernel_rfl) (fun c16 => ?_) (fun c16 => ?_)
                    · skip
                      have c16P := of_decide_eq_true c16
                      have hK1 : k.testBit (i % 8 + 1) = false := and1 c16
                      refine wp_region_t ?_
                      refine wpc (step_plain rfl (acts_move (d := 137) (ltN rfl) (OpX.tmp 15 (V.b (.a (.fn 96 [13, 5, 6])))))) (by kernel_rfl) ?_
                      refine wpc (step_plain rfl (acts_move (d := 138) (ltN rfl) (OpX.tmp 17 (V.v (.int .i64 ((k : Nat) : Int)))))) (by kernel_rfl) ?_
                      refine wpc (step_plain rfl (acts_move (d := 139) (ltN rfl) (OpX.tmp 16 (V.v (.int .i64 (((2 ^ (((cN i).x).toNat)) : Nat) : Int)))))) (by kernel_rfl) ?_
                      refine wpc (step_plain rfl (acts_bin (d := 140) (ltN rfl) (OpV.tmp 139 (.int .i64 (((2 ^ (((cN i).x).toNat)) : Nat) : Int))) (OpV.const (.int .u64 1)) (r_shl (c := ((((2 ^ (((cN i).x).toNat)) <<< 1) : Nat) : Int)) (by omega) (shlI (m := (2 ^ (((cN i).x).toNat))) (n := 1) rfl rfl (by omega) (by omega))))) (by kernel_rfl) ?_
                      refine wpc (step_plain rfl (acts_bin (d := 141) (ltN rfl) (OpV.tmp 138 (.int .i64 ((k : Nat) : Int))) (OpV.tmp 140 (.int .i64 ((((2 ^ (((cN i).x).toNat)) <<< 1) : Nat) : Int))) (r_or (c := (((k ||| ((2 ^ (((cN i).x).toNat)) <<< 1)) : Nat) : Int)) (orI (m := k) (n := ((2 ^ (((cN i).x).toNat)) <<< 1)) rfl rfl (by omega) (by omega))))) (by kernel_rfl) ?_
                      refine wpc (step_plain rfl (acts_move (d := 142) (ltN rfl) (OpX.tmp 3 (V.b (.a (.fn 88 [])))))) (by kernel_rfl) ?_
                      refine wpc (step_plain rfl (acts_move (d := 143) (ltN rfl) (OpX.tmp 18 (V.v (.int .i64 (gI (prof s i) k)))))) (by kernel_rfl) ?_
                      refine wpc (step_plain rfl (acts_field (d := 144) (t := 12) (h := 12) (off := 0) (off' := 0) (ltN rfl) qC11_fo_39_0 rfl)) (by kernel_rfl) ?_
                      refine wpc (step_plain rfl (acts_load_own (d := 145) (t := 144) (h := 12) (off := 0) (o := ⟨39, 2, true, [(.val (.int .i64 ((cN i).x)) : A), .val (.int .i64 ((cN i).y))]⟩)  (x := .val (.int .i64 ((cN i).x))) (ltN rfl) qC11_ti_3 rfl)) (by kernel_rfl) ?_
                      refine wpc (step_plain rfl (acts_field (d := 146) (t := 12) (h := 12) (off := 0) (off' := 1) (ltN rfl) qC11_fo_39_1 rfl)) (by kernel_rfl) ?_
                      refine wpc (step_plain rfl (acts_load_own (d := 147) (t := 146) (h := 12) (off := 1) (o := ⟨39, 2, true, [(.val (.int .i64 ((cN i).x)) : A), .val (.int .i64 ((cN i).y))]⟩)  (x := .val (.int .i64 ((cN i).y))) (ltN rfl) qC11_ti_3 rfl)) (by kernel_rfl) ?_
                      refine wpc (step_plain rfl (acts_build (d := 148) (t := 32) (cells := [(.int .i64 ((cN i).x) : Value), .int .i64 ((cN i).y), .bool false]) (ltN rfl) (OpVs.cons (i := 0) (OpV.tmp 145 (.int .i64 ((cN i).x))) (OpVs.cons (i := 1) (OpV.tmp 147 (.int .i64 ((cN i).y))) (OpVs.cons (i := 2) (OpV.const (.bool false)) (OpVs.nil)))) rfl)) (by kernel_rfl) ?_
                      refine wpc (step_plain rfl (acts_callV (d := 149) (f := 88) (t := 142) (caps := []) (os := []) (os' := []) (r := V.v (.int .i64 (wth ((cN i).x) (gI (prof s i) k)))) (bs := [.a (.val (.int .i64 (gI (prof s i) k))), .agg ([(.int .i64 ((cN i).x) : Value), .int .i64 ((cN i).y), .bool false].map A.val)]) (keep := []) (new := []) (dead := []) (ltN rfl) (FnO.of_fn (impl_set__count_2_fn (gI (prof s i) k) (⟨(cN i).x, (cN i).y, false⟩ : Dom) ) (by kernel_rfl)) rfl trivial rfl (ArgOs.cons (ArgO.v (OpV.tmp 143 (.int .i64 (gI (prof s i) k)))) (ArgOs.cons (ArgO.va (vs := [(.int .i64 ((cN i).x) : Value), .int .i64 ((cN i).y), .bool false]) (OpV.agg 148 [(.int .i64 ((cN i).x) : Value), .int .i64 ((cN i).y), .bool false])) (ArgOs.nil))))) (by kernel_rfl) ?_
                      refine wpc (step_plain rfl (acts_callV (d := 150) (f := 96) (t := 137) (caps := [13, 5, 6]) (os := [(.o 13, some (.o ⟨22, 1, true, [(.sl 41 0 256 : A)]⟩)), (.o 5, some (.o ⟨3, 1, true, [(.val (.int .i64 0) : A)]⟩)), (.o 6, some (.o ⟨58, 1, true, [(.fn 87 [] : A)]⟩)), (.o 41, some (.o ⟨3, 1, true, pl (isl (stepT s i (prof s i) k))⟩))]) (os' := [(.o 13, some (.o ⟨22, 1, true, [(.sl 41 0 256 : A)]⟩)), (.o 5, some (.o ⟨3, 1, true, [(.val (.int .i64 0) : A)]⟩)), (.o 6, some (.o ⟨58, 1, true, [(.fn 87 [] : A)]⟩)), (.o 41, some (.o ⟨3, 1, true, pl (isl (putI (stepT s i (prof s i) k) (k ||| ((2 ^ (((cN i).x).toNat)) <<< 1)) (wth ((cN i).x) (gI (prof s i) k))))⟩))]) (r := V.v (.tuple #[])) (bs := [.a (.val (.int .i64 (((k ||| ((2 ^ (((cN i).x).toNat)) <<< 1)) : Nat) : Int))), .a (.val (.int .i64 (wth ((cN i).x) (gI (prof s i) k))))]) (keep := [13, 5, 6, 41]) (new := []) (dead := []) (ltN rfl) (FnO.ren' (impl_profile_1_fn (k ||| ((2 ^ (((cN i).x).toNat)) <<< 1)) 256 (wth ((cN i).x) (gI (prof s i) k)) (stepT s i (prof s i) k) (by (rw [shl_one]; exact or_lt (by omega) (by omega))) (by omega) (by omega) (by (rw [wth_n (by omega)]; omega)) (by (rw [shl_one]; exact hbt _ (or_lt (by omega) (by omega))))) (subst1 [(2, 13), (3, 5), (4, 6), (9, 41)]) rfl rfl (by kernel_rfl) (by kernel_rfl) ⟨ocs (by kernel_rfl), ocs (by kernel_rfl), ocs (by kernel_rfl), oc_pl (fun _ => rfl), trivial⟩ (by kernel_rfl) rfl (by simp only [renS, Ob.ren, pl_ren, rws_ren_doms, rws_ren_ints, rws_ren_cels]; rfl) (by simp only [renS, Ob.ren, pl_ren, rws_ren_doms, rws_ren_ints, rws_ren_cels]; rfl) rfl rfl) (by kernel_rfl) ⟨ocs (by kernel_rfl), ocs (by kernel_rfl), ocs (by kernel_rfl), oc_pl (fun _ => rfl), trivial⟩ (by kernel_rfl) (ArgOs.cons (ArgO.v (OpV.tmp 141 (.int .i64 (((k ||| ((2 ^ (((cN i).x).toNat)) <<< 1)) : Nat) : Int)))) (ArgOs.cons (ArgO.v (OpV.tmp 149 (.int .i64 (wth ((cN i).x) (gI (prof s i) k))))) (ArgOs.nil))))) (by kernel_rfl) ?_
                      refine wpl_nil ?_
                      refine wp_region_t ?_
                      refine wpc (step_plain rfl (acts_bin (d := 151) (ltN rfl) (OpV.tmp 58 (.int .i64 ((k : Nat) : Int))) (OpV.const (.int .i64 1)) (r_add (c := (((k : Nat) : Int) + 1)) (w64 (by omega) (by omega))))) (by kernel_rfl) ?_
                      refine wpc (step_plain rfl (acts_move (d := 58) (ltN rfl) (OpX.tmp 151 (V.v (.int .i64 (((k : Nat) : Int) + 1)))))) (by kernel_rfl) ?_
                      refine wpl_nil ?_
                      exact loop_back ((k + 1)) (by show _ ≤ _; omega) (by show 256 - (k + 1) < 256 - k; omega) (weak_of id [21, 34, 40, 43, 57, 69, 80, 84, 96, 100, 108, 120, 121, 129, 149, 150] (by kernel_rfl) (wk_s (v' := V.v (.int .u64 ((s : Nat) : Int))) (by kernel_rfl) rfl rfl (wk_s (v' := V.b (.a (.fn 88 []))) (by kernel_rfl) rfl rfl (wk_s (v' := V.p 5 0) (by kernel_rfl) rfl rfl (wk_s (v' := V.p 6 0) (by kernel_rfl) rfl rfl (wk_s (v' := V.p 12 0) (by kernel_rfl) rfl rfl (wk_s (v' := V.p 13 0) (by kernel_rfl) rfl rfl (wk_s (v' := V.b (.a (.fn 96 [13, 5, 6]))) (by kernel_rfl) rfl rfl (wk_s (v' := V.v (.int .i64 (((2 ^ (((cN i).x).toNat)) : Nat) : Int))) (by kernel_rfl) rfl rfl (wk_s (v' := V.v (.int .i64 ((i : Nat) : Int))) (by kernel_rfl) rfl rfl (wk_s (v' := V.b (.a (.sl 19 0 ((prof s i).length)))) (by kernel_rfl) rfl rfl (wk_s (v' := V.v (.int .i64 (((prof s i).length : Nat) : Int))) (by kernel_rfl) rfl rfl (wk_s (v' := V.v (.int .i64 (((k : Nat) : Int) + 1))) (by kernel_rfl) (vint (by rfl)) rfl (wk_o (o' := ⟨3, 1, true, [(.val (.int .i64 0) : A)]⟩) (by kernel_rfl) (renob_l (fun h => h) rfl rfl) rfl (wk_o (o' := ⟨58, 1, true, [(.fn 87 [] : A)]⟩) (by kernel_rfl) (renob_l (fun h => h) rfl rfl) rfl (wk_o (o' := ⟨39, 2, true, [(.val (.int .i64 ((cN i).x)) : A), .val (.int .i64 ((cN i).y))]⟩) (by kernel_rfl) (renob_l (fun h => h) rfl rfl) rfl (wk_o (o' := ⟨22, 1, true, [(.sl 41 0 256 : A)]⟩) (by kernel_rfl) (renob_l (fun h => h) rfl rfl) rfl (wk_o (o' := ⟨3, 1, true, pl (isl (prof s i))⟩) (by kernel_rfl) (renob_pl (fun h => h)) rfl (wk_o (o' := ⟨3, 1, true, pl (isl (putI (stepT s i (prof s i) k) (k ||| ((2 ^ (((cN i).x).toNat)) <<< 1)) (wth ((cN i).x) (gI (prof s i) k))))⟩) (by kernel_rfl) (renob_eq (fun h => h) (congrArg isl (by (rw [stepT_snoc, sk_c hN hS hK]; simp only [hD, hR, hK1, wth_n hcx0, shl_one, Bool.true_and, Bool.false_and, Bool.not_false, Bool.not_true, if_true, if_false, Bool.false_eq_true]; first | done | rfl)))) rfl (wk_f rfl (wk_f rfl (wk_f rfl (wk_f rfl (wk_f rfl (wk_f rfl (wk_f rfl (wk_f rfl (wk_f rfl (wk_f rfl (wk_f rfl (wk_f rfl (wk_f rfl (wk_f rfl (wk_f rfl (wk_f rfl (wk_nil))))))))))))))))))))))))))))))))))))
                    · skip
                      have c16P := of_decide_eq_false c16
                      have hK1 : k.testBit (i % 8 + 1) = true := and1 c16
                      refine wp_skip' ?_
                      refine wp_region_t ?_
                      refine wpc (step_plain rfl (acts_bin (d := 151) (ltN rfl) (OpV.tmp 58 (.int .i64 ((k : Nat) : Int))) (OpV.const (.int .i64 1)) (r_add (c := (((k : Nat) : Int) + 1)) (w64 (by omega) (by omega))))) (by kernel_rfl) ?_
                      refine wpc (step_plain rfl (acts_move (d := 58) (ltN rfl) (OpX.tmp 151 (V.v (.int .i64 (((k : Nat) : Int) + 1)))))) (by kernel_rfl) ?_
                      refine wpl_nil ?_
                      exact loop_back ((k + 1)) (by show _ ≤ _; omega) (by show 256 - (k + 1) < 256 - k; omega) (weak_of id [21, 34, 40, 43, 57, 69, 80, 84, 96, 100, 108, 120, 121, 129, 149, 150] (by kernel_rfl) (wk_s (v' := V.v (.int .u64 ((s : Nat) : Int))) (by kernel_rfl) rfl rfl (wk_s (v' := V.b (.a (.fn 88 []))) (by kernel_rfl) rfl rfl (wk_s (v' := V.p 5 0) (by kernel_rfl) rfl rfl (wk_s (v' := V.p 6 0) (by kernel_rfl) rfl rfl (wk_s (v' := V.p 12 0) (by kernel_rfl) rfl rfl (wk_s (v' := V.p 13 0) (by kernel_rfl) rfl rfl (wk_s (v' := V.b (.a (.fn 96 [13, 5, 6]))) (by kernel_rfl) rfl rfl (wk_s (v' := V.v (.int .i64 (((2 ^ (((cN i).x).toNat)) : Nat) : Int))) (by kernel_rfl) rfl rfl (wk_s (v' := V.v (.int .i64 ((i : Nat) : Int))) (by kernel_rfl) rfl rfl (wk_s (v' := V.b (.a (.sl 19 0 ((prof s i).length)))) (by kernel_rfl) rfl rfl (wk_s (v' := V.v (.int .i64 (((prof s i).length : Nat) : Int))) (by kernel_rfl) rfl rfl (wk_s (v' := V.v (.int .i64 (((k : Nat) : Int) + 1))) (by kernel_rfl) (vint (by rfl)) rfl (wk_o (o' := ⟨3, 1, true, [(.val (.int .i64 0) : A)]⟩) (by kernel_rfl) (renob_l (fun h => h) rfl rfl) rfl (wk_o (o' := ⟨58, 1, true, [(.fn 87 [] : A)]⟩) (by kernel_rfl) (renob_l (fun h => h) rfl rfl) rfl (wk_o (o' := ⟨39, 2, true, [(.val (.int .i64 ((cN i).x)) : A), .val (.int .i64 ((cN i).y))]⟩) (by kernel_rfl) (renob_l (fun h => h) rfl rfl) rfl (wk_o (o' := ⟨22, 1, true, [(.sl 41 0 256 : A)]⟩) (by kernel_rfl) (renob_l (fun h => h) rfl rfl) rfl (wk_o (o' := ⟨3, 1, true, pl (isl (prof s i))⟩) (by kernel_rfl) (renob_pl (fun h => h)) rfl (wk_o (o' := ⟨3, 1, true, pl (isl (stepT s i (prof s i) k))⟩) (by kernel_rfl) (renob_eq (fun h => h) (congrArg isl (by (rw [stepT_snoc, sk_c hN hS hK]; simp only [hD, hR, hK1, wth_n hcx0, shl_one, Bool.true_and, Bool.false_and, Bool.not_false, Bool.not_true, if_true, if_false, Bool.false_eq_true]; first | done | rfl)))) rfl (wk_f rfl (wk_f rfl (wk_f rfl (wk_f rfl (wk_f rfl (wk_f rfl (wk_f rfl (wk_f rfl (wk_f rfl (wk_f rfl (wk_f rfl (wk_f rfl (wk_f rfl (wk_f rfl (wk_f rfl (wk_f rfl (wk_nil))))))))))))))))))))))))))))))))))))
                  · skip
                    have hR : rtB s i = false := (has_rt (by omega)).symm.trans c15
                    refine wp_region_t ?_
                    refine wpc (step_plain rfl (acts_move (d := 122) (ltN rfl) (OpX.tmp 0 (V.v (.int .u64 ((s : Nat) : Int)))))) (by kernel_rfl) ?_
                    refine wpc (step_plain rfl (acts_field (d := 123) (t := 12) (h := 12) (off := 0) (off' := 0) (ltN rfl) qC11_fo_39_0 rfl)) (by kernel_rfl) ?_
                    refine wpc (step_plain rfl (acts_load_own (d := 124) (t := 123) (h := 12) (off := 0) (o := ⟨39, 2, true, [(.val (.int .i64 ((cN i).x)) : A), .val (.int .i64 ((cN i).y))]⟩)  (x := .val (.int .i64 ((cN i).x))) (ltN rfl) qC11_ti_3 rfl)) (by kernel_rfl) ?_
                    refine wpc (step_plain rfl (acts_bin (d := 125) (ltN rfl) (OpV.tmp 124 (.int .i64 ((cN i).x))) (OpV.const (.int .i64 1)) (r_add (c := ((cN i).x + 1)) (w64 (by omega) (by omega))))) (by kernel_rfl) ?_
                    refine wpc (step_plain rfl (acts_field (d := 126) (t := 12) (h := 12) (off := 0) (off' := 1) (ltN rfl) qC11_fo_39_1 rfl)) (by kernel_rfl) ?_
                    refine wpc (step_plain rfl (acts_load_own (d := 127) (t := 126) (h := 12) (off := 1) (o := ⟨39, 2, true, [(.val (.int .i64 ((cN i).x)) : A), .val (.int .i64 ((cN i).y))]⟩)  (x := .val (.int .i64 ((cN i).y))) (ltN rfl) qC11_ti_3 rfl)) (by kernel_rfl) ?_
                    refine wpc (step_plain rfl (acts_build (d := 128) (t := 39) (cells := [(.int .i64 ((cN i).x + 1) : Value), .int .i64 ((cN i).y)]) (ltN rfl) (OpVs.cons (i := 0) (OpV.tmp 125 (.int .i64 ((cN i).x + 1))) (OpVs.cons (i := 1) (OpV.tmp 127 (.int .i64 ((cN i).y))) (OpVs.nil))) rfl)) (by kernel_rfl) ?_
                    refine wpc (step_plain rfl (acts_call1 (d := 129) (ltN rfl) (impl_set__has_fn s (⟨((cN i).x + 1), (cN i).y⟩ : Cel) (by omega)) (ArgVs.cons (ArgV.v (OpV.tmp 122 (.int .u64 ((s : Nat) : Int)))) (ArgVs.cons (ArgV.va (vs := [(.int .i64 ((cN i).x + 1) : Value), .int .i64 ((cN i).y)]) (OpV.agg 128 [(.int .i64 ((cN i).x + 1) : Value), .int .i64 ((cN i).y)])) (ArgVs.nil))) ((resval (congrArg Value.bool c15))))) (by kernel_rfl) ?_
                    refine wpc (step_plain rfl (acts_move (d := 130) (ltN rfl) (OpX.tmp 129 (V.v (.bool false))))) (by kernel_rfl) ?_
                    refine wpc (step_off (dj := 130) (b' := false) rfl rfl (by decide) rfl (ltN rfl)) (by kernel_rfl) ?_
                    refine wpc (step_off (dj := 130) (b' := false) rfl rfl (by decide) rfl (ltN rfl)) (by kernel_rfl) ?_
                    refine wpc (step_off (dj := 130) (b' := false) rfl rfl (by decide) rfl (ltN rfl)) (by kernel_rfl) ?_
                    refine wpc (step_off (dj := 130) (b' := false) rfl rfl (by decide) rfl (ltN rfl)) (by kernel_rfl) ?_
                    refine wpc (step_off (dj := 130) (b' := false) rfl rfl (by decide) rfl (ltN rfl)) (by kernel_rfl) ?_
                    refine wpc (step_plain rfl (acts_pick_f (d := 136) (ltN rfl) (OpV.tmp 130 (.bool false)) (OpX.const (.bool false)))) (by kernel_rfl) ?_
                    refine wpl_nil ?_
                    refine wp_if_f (t := 136) (by kernel_rfl) ?_
                    refine wp_skip' ?_
                    refine wp_region_t ?_
                    refine wpc (step_plain rfl (acts_bin (d := 151) (ltN rfl) (OpV.tmp 58 (.int .i64 ((k : Nat) : Int))) (OpV.const (.int .i64 1)) (r_add (c := (((k : Nat) : Int) + 1)) (w64 (by omega) (by omega))))) (by kernel_rfl) ?_
                    refine wpc (step_plain rfl (acts_move (d := 58) (ltN rfl) (OpX.tmp 151 (V.v (.int .i64 (((k : Nat) : Int) + 1)))))) (by kernel_rfl) ?_
                    refine wpl_nil ?_
                    exact loop_back ((k + 1)) (by show _ ≤ _; omega) (by show 256 - (k + 1) < 256 - k; omega) (weak_of id [21, 34, 40, 43, 57, 69, 80, 84, 96, 100, 108, 120, 121, 129, 149, 150] (by kernel_rfl) (wk_s (v' := V.v (.int .u64 ((s : Nat) : Int))) (by kernel_rfl) rfl rfl (wk_s (v' := V.b (.a (.fn 88 []))) (by kernel_rfl) rfl rfl (wk_s (v' := V.p 5 0) (by kernel_rfl) rfl rfl (wk_s (v' := V.p 6 0) (by kernel_rfl) rfl rfl (wk_s (v' := V.p 12 0) (by kernel_rfl) rfl rfl (wk_s (v' := V.p 13 0) (by kernel_rfl) rfl rfl (wk_s (v' := V.b (.a (.fn 96 [13, 5, 6]))) (by kernel_rfl) rfl rfl (wk_s (v' := V.v (.int .i64 (((2 ^ (((cN i).x).toNat)) : Nat) : Int))) (by kernel_rfl) rfl rfl (wk_s (v' := V.v (.int .i64 ((i : Nat) : Int))) (by kernel_rfl) rfl rfl (wk_s (v' := V.b (.a (.sl 19 0 ((prof s i).length)))) (by kernel_rfl) rfl rfl (wk_s (v' := V.v (.int .i64 (((prof s i).length : Nat) : Int))) (by kernel_rfl) rfl rfl (wk_s (v' := V.v (.int .i64 (((k : Nat) : Int) + 1))) (by kernel_rfl) (vint (by rfl)) rfl (wk_o (o' := ⟨3, 1, true, [(.val (.int .i64 0) : A)]⟩) (by kernel_rfl) (renob_l (fun h => h) rfl rfl) rfl (wk_o (o' := ⟨58, 1, true, [(.fn 87 [] : A)]⟩) (by kernel_rfl) (renob_l (fun h => h) rfl rfl) rfl (wk_o (o' := ⟨39, 2, true, [(.val (.int .i64 ((cN i).x)) : A), .val (.int .i64 ((cN i).y))]⟩) (by kernel_rfl) (renob_l (fun h => h) rfl rfl) rfl (wk_o (o' := ⟨22, 1, true, [(.sl 41 0 256 : A)]⟩) (by kernel_rfl) (renob_l (fun h => h) rfl rfl) rfl (wk_o (o' := ⟨3, 1, true, pl (isl (prof s i))⟩) (by kernel_rfl) (renob_pl (fun h => h)) rfl (wk_o (o' := ⟨3, 1, true, pl (isl (stepT s i (prof s i) k))⟩) (by kernel_rfl) (renob_eq (fun h => h) (congrArg isl (by (rw [stepT_snoc, sk_c hN hS hK]; simp only [hD, hR, wth_n hcx0, shl_one, Bool.true_and, Bool.false_and, Bool.not_false, Bool.not_true, if_true, if_false, Bool.false_eq_true]; first | done | rfl)))) rfl (wk_f rfl (wk_f rfl (wk_f rfl (wk_f rfl (wk_f rfl (wk_f rfl (wk_f rfl (wk_f rfl (wk_f rfl (wk_f rfl (wk_f rfl (wk_f rfl (wk_f rfl (wk_f rfl (wk_f rfl (wk_f rfl (wk_nil))))))))))))))))))))))))))))))))))))
            · skip
              have hS : s.testBit i = false := (has_i (by omega)).symm.trans c10
              refine wp_region_t ?_
              refine wpc (step_plain rfl (acts_move (d := 67) (ltN rfl) (OpX.tmp 0 (V.v (.int .u64 ((s : Nat) : Int)))))) (by kernel_rfl) ?_
              refine wpc (step_plain rfl (acts_load_owns (d := 68) (t := 12) (h := 12) (off := 0) (o := ⟨39, 2, true, [(.val (.int .i64 ((cN i).x)) : A), .val (.int .i64 ((cN i).y))]⟩)  (xs := [(.int .i64 ((cN i).x) : Value), .int .i64 ((cN i).y)].map A.val) (ltN rfl) qC11_ti_39 rfl (by decide) rfl)) (by kernel_rfl) ?_
              refine wpc (step_plain rfl (acts_call1 (d := 69) (ltN rfl) (impl_set__has_fn s (cN i) (by omega)) (ArgVs.cons (ArgV.v (OpV.tmp 67 (.int .u64 ((s : Nat) : Int)))) (ArgVs.cons (ArgV.va (vs := [(.int .i64 ((cN i).x) : Value), .int .i64 ((cN i).y)]) (OpV.agg 68 [(.int .i64 ((cN i).x) : Value), .int .i64 ((cN i).y)])) (ArgVs.nil))) ((resval (congrArg Value.bool c10))))) (by kernel_rfl) ?_
              refine wpc (step_plain rfl (acts_un (d := 70) (ltN rfl) (OpV.tmp 69 (.bool false)) (r_not (c := true) rfl))) (by kernel_rfl) ?_
              refine wpc (step_plain rfl (acts_move (d := 71) (ltN rfl) (OpX.tmp 70 (V.v (.bool true))))) (by kernel_rfl) ?_
              refine wpc (step_on (dj := 71) rfl rfl (acts_move (d := 72) (ltN rfl) (OpX.tmp 17 (V.v (.int .i64 ((k : Nat) : Int)))))) (by kernel_rfl) ?_
              refine wpc (step_on (dj := 71) rfl rfl (acts_move (d := 73) (ltN rfl) (OpX.tmp 16 (V.v (.int .i64 (((2 ^ (((cN i).x).toNat)) : Nat) : Int)))))) (by kernel_rfl) ?_
              refine wpc (step_on (dj := 71) rfl rfl (acts_bin (d := 74) (ltN rfl) (OpV.tmp 72 (.int .i64 ((k : Nat) : Int))) (OpV.tmp 73 (.int .i64 (((2 ^ (((cN i).x).toNat)) : Nat) : Int))) (r_and (c := (((k &&& (2 ^ (((cN i).x).toNat))) : Nat) : Int)) (andI (m := k) (n := (2 ^ (((cN i).x).toNat))) rfl rfl (by omega) (by omega))))) (by kernel_rfl) ?_
              refine wpc (step_on (dj := 71) rfl rfl (acts_bin (d := 75) (ltN rfl) (OpV.tmp 74 (.int .i64 (((k &&& (2 ^ (((cN i).x).toNat))) : Nat) : Int))) (OpV.const (.int .i64 0)) (r_eql (c := (decide ((((k &&& (2 ^ (((cN i).x).toNat))) : Nat) : Int) = 0))) rfl))) (by kernel_rfl) ?_
              refine wpc (step_plain rfl (acts_pick_t (d := 76) (ltN rfl) (OpV.tmp 71 (.bool true)) (OpX.tmp 75 (V.v (.bool (decide ((((k &&& (2 ^ (((cN i).x).toNat))) : Nat) : Int) = 0))))))) (by kernel_rfl) ?_
              refine wpc (step_plain rfl (acts_assign (d := 66) (ltN rfl) (OpX.tmp 76 (V.v (.bool (decide ((((k &&& (2 ^ (((cN i).x).toNat))) : Nat) : Int) = 0))))))) (by kernel_rfl) ?_
              refine wpl_nil ?_
              refine wp_if (t := 66) (decide ((((k &&& (2 ^ (((cN i).x).toNat))) : Nat) : Int) = 0)) (by kernel_rfl) (fun c17 => ?_) (fun c17 => ?_)
              · skip
                have c17P := of_decide_eq_true c17
                have hK : k.testBit (i % 8) = false := and0 c17
                refine wp_region_t ?_
                refine wpc (step_plain rfl (acts_move (d := 77) (ltN rfl) (OpX.tmp 15 (V.b (.a (.fn 96 [13, 5, 6])))))) (by kernel_rfl) ?_
                refine wpc (step_plain rfl (acts_move (d := 78) (ltN rfl) (OpX.tmp 17 (V.v (.int .i64 ((k : Nat) : Int)))))) (by kernel_rfl) ?_
                refine wpc (step_plain rfl (acts_move (d := 79) (ltN rfl) (OpX.tmp 18 (V.v (.int .i64 (gI (prof s i) k)))))) (by kernel_rfl) ?_
                refine wpc (step_plain rfl (acts_callV (d := 80) (f := 96) (t := 77) (caps := [13, 5, 6]) (os := [(.o 13, some (.o ⟨22, 1, true, [(.sl 41 0 256 : A)]⟩)), (.o 5, some (.o ⟨3, 1, true, [(.val (.int .i64 0) : A)]⟩)), (.o 6, some (.o ⟨58, 1, true, [(.fn 87 [] : A)]⟩)), (.o 41, some (.o ⟨3, 1, true, pl (isl (stepT s i (prof s i) k))⟩))]) (os' := [(.o 13, some (.o ⟨22, 1, true, [(.sl 41 0 256 : A)]⟩)), (.o 5, some (.o ⟨3, 1, true, [(.val (.int .i64 0) : A)]⟩)), (.o 6, some (.o ⟨58, 1, true, [(.fn 87 [] : A)]⟩)), (.o 41, some (.o ⟨3, 1, true, pl (isl (putI (stepT s i (prof s i) k) k (gI (prof s i) k)))⟩))]) (r := V.v (.tuple #[])) (bs := [.a (.val (.int .i64 ((k : Nat) : Int))), .a (.val (.int .i64 (gI (prof s i) k)))]) (keep := [13, 5, 6, 41]) (new := []) (dead := []) (ltN rfl) (FnO.ren' (impl_profile_1_fn k 256 (gI (prof s i) k) (stepT s i (prof s i) k) (by omega) (by omega) (by omega) (by omega) (by exact hbt _ (by omega))) (subst1 [(2, 13), (3, 5), (4, 6), (9, 41)]) rfl rfl (by kernel_rfl) (by kernel_rfl) ⟨ocs (by kernel_rfl), ocs (by kernel_rfl), ocs (by kernel_rfl), oc_pl (fun _ => rfl), trivial⟩ (by kernel_rfl) rfl (by simp only [renS, Ob.ren, pl_ren, rws_ren_doms, rws_ren_ints, rws_ren_cels]; rfl) (by simp only [renS, Ob.ren, pl_ren, rws_ren_doms, rws_ren_ints, rws_ren_cels]; rfl) rfl rfl) (by kernel_rfl) ⟨ocs (by kernel_rfl), ocs (by kernel_rfl), ocs (by kernel_rfl), oc_pl (fun _ => rfl), trivial⟩ (by kernel_rfl) (ArgOs.cons (ArgO.v (OpV.tmp 78 (.int .i64 ((k : Nat) : Int)))) (ArgOs.cons (ArgO.v (OpV.tmp 79 (.int .i64 (gI (prof s i) k)))) (ArgOs.nil))))) (by kernel_rfl) ?_
                refine wpl_nil ?_
                refine wp_region_t ?_
                refine wpc (step_plain rfl (acts_bin (d := 151) (ltN rfl) (OpV.tmp 58 (.int .i64 ((k : Nat) : Int))) (OpV.const (.int .i64 1)) (r_add (c := (((k : Nat) : Int) + 1)) (w64 (by omega) (by omega))))) (by kernel_rfl) ?_
                refine wpc (step_plain rfl (acts_move (d := 58) (ltN rfl) (OpX.tmp 151 (V.v (.int .i64 (((k : Nat) : Int) + 1)))))) (by kernel_rfl) ?_
                refine wpl_nil ?_
                exact loop_back ((k + 1)) (by show _ ≤ _; omega) (by show 256 - (k + 1) < 256 - k; omega) (weak_of id [21, 34, 40, 43, 57, 69, 80, 84, 96, 100, 108, 120, 121, 129, 149, 150] (by kernel_rfl) (wk_s (v' := V.v (.int .u64 ((s : Nat) : Int))) (by kernel_rfl) rfl rfl (wk_s (v' := V.b (.a (.fn 88 []))) (by kernel_rfl) rfl rfl (wk_s (v' := V.p 5 0) (by kernel_rfl) rfl rfl (wk_s (v' := V.p 6 0) (by kernel_rfl) rfl rfl (wk_s (v' := V.p 12 0) (by kernel_rfl) rfl rfl (wk_s (v' := V.p 13 0) (by kernel_rfl) rfl rfl (wk_s (v' := V.b (.a (.fn 96 [13, 5, 6]))) (by kernel_rfl) rfl rfl (wk_s (v' := V.v (.int .i64 (((2 ^ (((cN i).x).toNat)) : Nat) : Int))) (by kernel_rfl) rfl rfl (wk_s (v' := V.v (.int .i64 ((i : Nat) : Int))) (by kernel_rfl) rfl rfl (wk_s (v' := V.b (.a (.sl 19 0 ((prof s i).length)))) (by kernel_rfl) rfl rfl (wk_s (v' := V.v (.int .i64 (((prof s i).length : Nat) : Int))) (by kernel_rfl) rfl rfl (wk_s (v' := V.v (.int .i64 (((k : Nat) : Int) + 1))) (by kernel_rfl) (vint (by rfl)) rfl (wk_o (o' := ⟨3, 1, true, [(.val (.int .i64 0) : A)]⟩) (by kernel_rfl) (renob_l (fun h => h) rfl rfl) rfl (wk_o (o' := ⟨58, 1, true, [(.fn 87 [] : A)]⟩) (by kernel_rfl) (renob_l (fun h => h) rfl rfl) rfl (wk_o (o' := ⟨39, 2, true, [(.val (.int .i64 ((cN i).x)) : A), .val (.int .i64 ((cN i).y))]⟩) (by kernel_rfl) (renob_l (fun h => h) rfl rfl) rfl (wk_o (o' := ⟨22, 1, true, [(.sl 41 0 256 : A)]⟩) (by kernel_rfl) (renob_l (fun h => h) rfl rfl) rfl (wk_o (o' := ⟨3, 1, true, pl (isl (prof s i))⟩) (by kernel_rfl) (renob_pl (fun h => h)) rfl (wk_o (o' := ⟨3, 1, true, pl (isl (putI (stepT s i (prof s i) k) k (gI (prof s i) k)))⟩) (by kernel_rfl) (renob_eq (fun h => h) (congrArg isl (by (rw [stepT_snoc, sk_a hN hS hK]; done)))) rfl (wk_f rfl (wk_f rfl (wk_f rfl (wk_f rfl (wk_f rfl (wk_f rfl (wk_f rfl (wk_f rfl (wk_f rfl (wk_f rfl (wk_f rfl (wk_f rfl (wk_f rfl (wk_f rfl (wk_f rfl (wk_f rfl (wk_nil))))))))))))))))))))))))))))))))))))
              · skip
                have c17P := of_decide_eq_false c17
                have hK : k.testBit (i % 8) = true := and0 c17
                refine wp_seq' ?_
                refine wp_region_t ?_
                refine wpc (step_plain rfl (acts_move (d := 82) (ltN rfl) (OpX.tmp 0 (V.v (.int .u64 ((s : Nat) : Int)))))) (by kernel_rfl) ?_
                refine wpc (step_plain rfl (acts_load_owns (d := 83) (t := 12) (h := 12) (off := 0) (o := ⟨39, 2, true, [(.val (.int .i64 ((cN i).x)) : A), .val (.int .i64 ((cN i).y))]⟩)  (xs := [(.int .i64 ((cN i).x) : Value), .int .i64 ((cN i).y)].map A.val) (ltN rfl) qC11_ti_39 rfl (by decide) rfl)) (by kernel_rfl) ?_
                refine wpc (step_plain rfl (acts_call1 (d := 84) (ltN rfl) (impl_set__has_fn s (cN i) (by omega)) (ArgVs.cons (ArgV.v (OpV.tmp 82 (.int .u64 ((s : Nat) : Int)))) (ArgVs.cons (ArgV.va (vs := [(.int .i64 ((cN i).x) : Value), .int .i64 ((cN i).y)]) (OpV.agg 83 [(.int .i64 ((cN i).x) : Value), .int .i64 ((cN i).y)])) (ArgVs.nil))) ((resval (congrArg Value.bool c10))))) (by kernel_rfl) ?_
                refine wpc (step_plain rfl (acts_move (d := 85) (ltN rfl) (OpX.tmp 84 (V.v (.bool false))))) (by kernel_rfl) ?_
                refine wpc (step_off (dj := 85) (b' := false) rfl rfl (by decide) rfl (ltN rfl)) (by kernel_rfl) ?_
                refine wpc (step_off (dj := 85) (b' := false) rfl rfl (by decide) rfl (ltN rfl)) (by kernel_rfl) ?_
                refine wpc (step_off (dj := 85) (b' := false) rfl rfl (by decide) rfl (ltN rfl)) (by kernel_rfl) ?_
                refine wpc (step_off (dj := 85) (b' := false) rfl rfl (by decide) rfl (ltN rfl)) (by kernel_rfl) ?_
                refine wpc (step_plain rfl (acts_pick_f (d := 90) (ltN rfl) (OpV.tmp 85 (.bool false)) (OpX.const (.bool false)))) (by kernel_rfl) ?_
                refine wpc (step_plain rfl (acts_assign (d := 81) (ltN rfl) (OpX.tmp 90 (V.v (.bool false))))) (by kernel_rfl) ?_
                refine wpl_nil ?_
                refine wp_if_f (t := 81) (by kernel_rfl) ?_
                refine wp_seq' ?_
                refine wp_region_t ?_
                refine wpc (step_plain rfl (acts_move (d := 98) (ltN rfl) (OpX.tmp 0 (V.v (.int .u64 ((s : Nat) : Int)))))) (by kernel_rfl) ?_
                refine wpc (step_plain rfl (acts_load_owns (d := 99) (t := 12) (h := 12) (off := 0) (o := ⟨39, 2, true, [(.val (.int .i64 ((cN i).x)) : A), .val (.int .i64 ((cN i).y))]⟩)  (xs := [(.int .i64 ((cN i).x) : Value), .int .i64 ((cN i).y)].map A.val) (ltN rfl) qC11_ti_39 rfl (by decide) rfl)) (by kernel_rfl) ?_
                refine wpc (step_plain rfl (acts_call1 (d := 100) (ltN rfl) (impl_set__has_fn s (cN i) (by omega)) (ArgVs.cons (ArgV.v (OpV.tmp 98 (.int .u64 ((s : Nat) : Int)))) (ArgVs.cons (ArgV.va (vs := [(.int .i64 ((cN i).x) : Value), .int .i64 ((cN i).y)]) (OpV.agg 99 [(.int .i64 ((cN i).x) : Value), .int .i64 ((cN i).y)])) (ArgVs.nil))) ((resval (congrArg Value.bool c10))))) (by kernel_rfl) ?_
                refine wpc (step_plain rfl (acts_assign (d := 97) (ltN rfl) (OpX.tmp 100 (V.v (.bool false))))) (by kernel_rfl) ?_
                refine wpl_nil ?_
                refine wp_if_f (t := 97) (by kernel_rfl) ?_
                refine wp_skip' ?_
                refine wp_region_t ?_
                refine wpc (step_plain rfl (acts_bin (d := 151) (ltN rfl) (OpV.tmp 58 (.int .i64 ((k : Nat) : Int))) (OpV.const (.int .i64 1)) (r_add (c := (((k : Nat) : Int) + 1)) (w64 (by omega) (by omega))))) (by kernel_rfl) ?_
                refine wpc (step_plain rfl (acts_move (d := 58) (ltN rfl) (OpX.tmp 151 (V.v (.int .i64 (((k : Nat) : Int) + 1)))))) (by kernel_rfl) ?_
                refine wpl_nil ?_
                exact loop_back ((k + 1)) (by show _ ≤ _; omega) (by show 256 - (k + 1) < 256 - k; omega) (weak_of id [21, 34, 40, 43, 57, 69, 80, 84, 96, 100, 108, 120, 121, 129, 149, 150] (by kernel_rfl) (wk_s (v' := V.v (.int .u64 ((s : Nat) : Int))) (by kernel_rfl) rfl rfl (wk_s (v' := V.b (.a (.fn 88 []))) (by kernel_rfl) rfl rfl (wk_s (v' := V.p 5 0) (by kernel_rfl) rfl rfl (wk_s (v' := V.p 6 0) (by kernel_rfl) rfl rfl (wk_s (v' := V.p 12 0) (by kernel_rfl) rfl rfl (wk_s (v' := V.p 13 0) (by kernel_rfl) rfl rfl (wk_s (v' := V.b (.a (.fn 96 [13, 5, 6]))) (by kernel_rfl) rfl rfl (wk_s (v' := V.v (.int .i64 (((2 ^ (((cN i).x).toNat)) : Nat) : Int))) (by kernel_rfl) rfl rfl (wk_s (v' := V.v (.int .i64 ((i : Nat) : Int))) (by kernel_rfl) rfl rfl (wk_s (v' := V.b (.a (.sl 19 0 ((prof s i).length)))) (by kernel_rfl) rfl rfl (wk_s (v' := V.v (.int .i64 (((prof s i).length : Nat) : Int))) (by kernel_rfl) rfl rfl (wk_s (v' := V.v (.int .i64 (((k : Nat) : Int) + 1))) (by kernel_rfl) (vint (by rfl)) rfl (wk_o (o' := ⟨3, 1, true, [(.val (.int .i64 0) : A)]⟩) (by kernel_rfl) (renob_l (fun h => h) rfl rfl) rfl (wk_o (o' := ⟨58, 1, true, [(.fn 87 [] : A)]⟩) (by kernel_rfl) (renob_l (fun h => h) rfl rfl) rfl (wk_o (o' := ⟨39, 2, true, [(.val (.int .i64 ((cN i).x)) : A), .val (.int .i64 ((cN i).y))]⟩) (by kernel_rfl) (renob_l (fun h => h) rfl rfl) rfl (wk_o (o' := ⟨22, 1, true, [(.sl 41 0 256 : A)]⟩) (by kernel_rfl) (renob_l (fun h => h) rfl rfl) rfl (wk_o (o' := ⟨3, 1, true, pl (isl (prof s i))⟩) (by kernel_rfl) (renob_pl (fun h => h)) rfl (wk_o (o' := ⟨3, 1, true, pl (isl (stepT s i (prof s i) k))⟩) (by kernel_rfl) (renob_eq (fun h => h) (congrArg isl (by (rw [stepT_snoc, sk_d hN hS hK]; done)))) rfl (wk_f rfl (wk_f rfl (wk_f rfl (wk_f rfl (wk_f rfl (wk_f rfl (wk_f rfl (wk_f rfl (wk_f rfl (wk_f rfl (wk_f rfl (wk_f rfl (wk_f rfl (wk_f rfl (wk_f rfl (wk_f rfl (wk_nil))))))))))))))))))))))))))))))))))))
        · skip
          have c8P := of_decide_eq_false c8
          refine wp_exit' ?_
          refine wp_region_t ?_
          refine wpc (step_plain rfl (acts_load_own (d := 152) (t := 13) (h := 13) (off := 0) (o := ⟨22, 1, true, [(.sl 41 0 256 : A)]⟩)  (x := .sl 41 0 256) (ltN rfl) qC11_ti_22 rfl)) (by kernel_rfl) ?_
          refine wpc (step_plain rfl (acts_assign (d := 9) (ltN rfl) (OpX.tmp 152 (V.b (.a (.sl 41 0 256)))))) (by kernel_rfl) ?_
          refine wpl_nil ?_
          refine wp_region_t ?_
          refine wpc (step_plain rfl (acts_bin (d := 153) (ltN rfl) (OpV.tmp 36 (.int .i64 ((i : Nat) : Int))) (OpV.const (.int .i64 1)) (r_add (c := (((i : Nat) : Int) + 1)) (w64 (by omega) (by omega))))) (by kernel_rfl) ?_
          refine wpc (step_plain rfl (acts_move (d := 36) (ltN rfl) (OpX.tmp 153 (V.v (.int .i64 (((i : Nat) : Int) + 1)))))) (by kernel_rfl) ?_
          refine wpl_nil ?_
          exact loop_back ((i + 1)) (by show _ ≤ _; omega) (by show 64 - (i + 1) < 64 - i; omega) (weak_of (subst1 [(19, 41)]) [12, 13, 21, 34, 40, 41, 43, 57, 69, 80, 84, 96, 100, 108, 120, 121, 129, 149, 150] (by kernel_rfl) (wk_s (v' := V.v (.int .u64 ((s : Nat) : Int))) (by kernel_rfl) rfl rfl (wk_s (v' := V.b (.a (.fn 88 []))) (by kernel_rfl) rfl rfl (wk_s (v' := V.p 5 0) (by kernel_rfl) rfl rfl (wk_s (v' := V.p 6 0) (by kernel_rfl) rfl rfl (wk_s (v' := V.b (.a (.sl 41 0 256))) (by kernel_rfl) (vsl (by omega) rfl) rfl (wk_s (v' := V.v (.int .i64 (((i : Nat) : Int) + 1))) (by kernel_rfl) (vint (by rfl)) rfl (wk_o (o' := ⟨3, 1, true, [(.val (.int .i64 0) : A)]⟩) (by kernel_rfl) (renob_l (fun h => h) rfl rfl) rfl (wk_o (o' := ⟨58, 1, true, [(.fn 87 [] : A)]⟩) (by kernel_rfl) (renob_l (fun h => h) rfl rfl) rfl (wk_o (o' := ⟨3, 1, true, pl (isl (stepT s i (prof s i) k))⟩) (by kernel_rfl) (renob_eq (fun h => h) (congrArg isl (by (have e : k = 256 := by omega); subst e; rfl))) rfl (wk_f rfl (wk_f rfl (wk_f rfl (wk_f rfl (wk_f rfl (wk_f rfl (wk_f rfl (wk_f rfl (wk_f rfl (wk_f rfl (wk_f rfl (wk_f rfl (wk_f rfl (wk_f rfl (wk_f rfl (wk_f rfl (wk_f rfl (wk_f rfl (wk_f rfl (wk_nil))))))))))))))))))))))))))))))
    · skip
      have c4P := of_decide_eq_false c4
      refine wp_exit' ?_
      refine wp_seq' ?_
      refine wp_region_t ?_
      refine wpc (step_plain rfl (acts_move (d := 154) (ltN rfl) (OpX.tmp 9 (V.b (.a (.sl 19 0 ((prof s i).length))))))) (by kernel_rfl) ?_
      refine wpc (step_plain rfl (acts_index_sl (d := 155) (x := 154) (h := 19) (off := 0) (n := ((prof s i).length)) (k := 0) (off' := (0 * 1)) (o := ⟨3, 1, true, pl (isl (prof s i))⟩) (ltN rfl) qC11_un_22 qC11_sz_3 (OpV.const (.int .i64 0)) rfl (by omega) (by (simp; done)))) (by kernel_rfl) ?_
      refine wpc (step_plain rfl (acts_load_own (d := 156) (t := 155) (h := 19) (off := (0 * 1)) (o := ⟨3, 1, true, pl (isl (prof s i))⟩)  (x := .val (.int .i64 (gI (prof s i) 0))) (ltN rfl) qC11_ti_3 (pl_get (isl_get1 (k := 0) (by omega))))) (by kernel_rfl) ?_
      refine wpc (step_plain rfl (acts_assign (d := 8) (ltN rfl) (OpX.tmp 156 (V.v (.int .i64 (gI (prof s i) 0)))))) (by kernel_rfl) ?_
      refine wpl_nil ?_
      refine wp_ret' ?_
      exact VRes.tmp 8 (.a (.val (.int .i64 (gI (prof s i) 0)))) _ (by kernel_rfl) (bval (congrArg (Value.int .i64) (by (have e : i = 64 := by omega); subst e; exact prof_cnt hs)))

set_option maxHeartbeats 4000000 in
set_option maxRecDepth 100000 in
theorem impl_set__count_fn (s : Nat) (hs : s < 18446744073709551616) : Fn Try.prog 59 [.a (.val (.int .u64 ((s : Nat) : Int)))] [.val (.int .i64 (((cnt s) : Nat) : Int))] := by
  refine fn_intro (N := 5) Try.func59 rfl (by kernel_rfl) rfl (Nat.le_of_ble_eq_true rfl) [4] (ret1 rfl) (fun W => ?_)
  show Wp _ _ _ [(.s 0, some (.s (V.v (.int .u64 ((s : Nat) : Int))))), (.o 4, some .free)]
  refine wp_seq' ?_
  refine wp_region_t ?_
  refine wpc (step_plain rfl (acts_assign (d := 2) (ltN rfl) (OpX.const (.int .i64 0)))) (by kernel_rfl) ?_
  refine wpl_nil ?_
  refine wp_seq' ?_
  refine wp_region_t ?_
  refine wpc (step_plain rfl (acts_move (d := 3) (ltN rfl) (OpX.tmp 0 (V.v (.int .u64 ((s : Nat) : Int)))))) (by kernel_rfl) ?_
  refine wpc (step_plain rfl (acts_call1 (d := 4) (ltN rfl) (impl_profile_fn s (by omega)) (ArgVs.cons (ArgV.v (OpV.tmp 3 (.int .u64 ((s : Nat) : Int)))) (ArgVs.cons (ArgV.v (OpV.const (.int .i64 0))) (ArgVs.cons (ArgV.fn 87) (ArgVs.cons (ArgV.fn 88) (ArgVs.nil))))) (ResV.val _))) (by kernel_rfl) ?_
  refine wpc (step_plain rfl (acts_assign (d := 2) (ltN rfl) (OpX.tmp 4 (V.v (.int .i64 (((cnt s) : Nat) : Int)))))) (by kernel_rfl) ?_
  refine wpl_nil ?_
  refine wp_ret' ?_
  exact VRes.tmp 2 (.a (.val (.int .i64 (((cnt s) : Nat) : Int)))) _ (by kernel_rfl) (BRes.val _)
end Cl
end Go.Proofs.Ytabgfoindidigaa
