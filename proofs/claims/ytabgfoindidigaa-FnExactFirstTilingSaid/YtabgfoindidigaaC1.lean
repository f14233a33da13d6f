/- Walks over clean states, printed by wg.py. No statement is proved here. -/
import Derived.Test.YtabgfoindidigaaC0
namespace Go.Proofs.Ytabgfoindidigaa
namespace Cl
open Go.ChangeShapes Go.WideShapes Go.ChangeAt Go.RowKit

theorem four_len (c : Cel) : (four c).length = 4 := rfl
theorem regOk_spec {l : List Int} {k : Nat} (hk : k < l.length) (h : inB (gI l k) 0 255 = false) : regOk l = false := by
  unfold regOk allIn
  have : l.all (fun x => inB x 0 255) = false := by
    rw [List.all_eq_false]; exact ⟨l[k], List.getElem_mem hk, by rw [gI_eq hk] at h; simp [h]⟩
  rw [this]; simp
theorem regOk_spec2 {l : List Int} (h : allIn l 0 255 = true) : regOk l = decide (l.length ≤ 8) := by unfold regOk; rw [h]; simp
theorem allIn_snoc {l : List Int} {k : Nat} (hk : k < l.length) (h : allIn (l.take k) 0 255 = true) (h2 : inB (gI l k) 0 255 = true) : allIn (l.take (k+1)) 0 255 = true := by
  unfold allIn at *; rw [List.take_succ_eq_append_getElem hk, List.all_append, h]; simp [← gI_eq hk, h2]
theorem allIn_end {l : List Int} {k : Nat} (hk : ¬ (k : Int) < (l.length : Int)) (h : allIn (l.take k) 0 255 = true) : allIn l 0 255 = true := by rwa [List.take_of_length_le (by omega)] at h
theorem testBit_nat (m n : Nat) : decide (m.testBit n = true) = m.testBit n := by cases m.testBit n <;> rfl

theorem qC1_fo_30_0 : fieldOff Try.prog 30 0 = some 0 := by kernel_rfl
theorem qC1_fo_39_0 : fieldOff Try.prog 39 0 = some 0 := by kernel_rfl
theorem qC1_fo_39_1 : fieldOff Try.prog 39 1 = some 1 := by kernel_rfl
theorem qC1_sz_3 : (Try.prog.info? 3).map (·.size) = some 1 := by kernel_rfl
theorem qC1_ti_22 : TI Try.prog 22 false 1 := ⟨⟨_, Try.underlying22, rfl⟩, by kernel_rfl⟩
theorem qC1_ti_3 : TI Try.prog 3 false 1 := ⟨⟨_, Try.underlying3, rfl⟩, by kernel_rfl⟩
theorem qC1_ti_30 : TI Try.prog 30 true 1 := ⟨⟨_, Try.underlying30, rfl⟩, by kernel_rfl⟩
theorem qC1_ti_39 : TI Try.prog 39 true 2 := ⟨⟨_, Try.underlying39, rfl⟩, by kernel_rfl⟩
theorem qC1_un_22 : Try.prog.underlying 22 = some (.slice 3) := Try.underlying22
theorem qC1_un_3 : Try.prog.underlying 3 = some (.int .i64) := Try.underlying3
theorem qC1_un_64 : Try.prog.underlying 64 = some (.int .u64) := Try.underlying64
theorem qC1_un_71 : Try.prog.underlying 71 = some (.slice 39) := Try.underlying71
theorem qC1_zi_39 : ZI Try.prog 39 (.agg #[.int .i64 0, .int .i64 0]) 2 16 := by unfold ZI; kernel_rfl
set_option maxHeartbeats 4000000 in
set_option maxRecDepth 100000 in
theorem impl_set__has_fn (s : Nat) (c : Cel) (hs : s < 18446744073709551616) : Fn Try.prog 43 [.a (.val (.int .u64 ((s : Nat) : Int))), .agg ([(.int .i64 c.x : Value), .int .i64 c.y].map A.val)] [.val (.bool (hasS s c))] := by
  refine fn_intro (N := 15) Try.func43 rfl (by kernel_rfl) rfl (Nat.le_of_ble_eq_true rfl) [3, 6, 10] (ret1 rfl) (fun W => ?_)
  show Wp _ _ _ [(.s 0, some (.s (V.v (.int .u64 ((s : Nat) : Int))))), (.s 1, some (.s (V.av [(.int .i64 c.x : Value), .int .i64 c.y]))), (.o 3, some .free), (.o 6, some .free), (.o 10, some .free)]
  refine wp_seq' ?_
  refine wp_region_t ?_
  refine wpc (step_plain rfl (acts_box (d := 3) (h := 3) (b := .agg ([(.int .i64 c.x : Value), .int .i64 c.y].map A.val)) (ltN rfl) (OpX.tmp 1 (V.av [(.int .i64 c.x : Value), .int .i64 c.y])) (by intro y hy; simp [B.cs] at hy; rcases hy with rfl | rfl <;> rfl))) (by kernel_rfl) ?_
  refine wpc (step_plain rfl (acts_assign (d := 4) (ltN rfl) (OpX.const (.bool false)))) (by kernel_rfl) ?_
  refine wpl_nil ?_
  refine wp_seq' ?_
  rcases Bool.eq_false_or_eq_true ((okc c.x c.y)) with c1 | c1
  · skip
    have c1Q := okc_true.1 c1
    refine wp_region_t ?_
    refine wpc (step_plain rfl (acts_load_owns (d := 5) (t := 3) (h := 3) (off := 0) (o := ⟨39, 2, true, [(.val (.int .i64 c.x) : A), .val (.int .i64 c.y)]⟩)  (xs := [(.int .i64 c.x : Value), .int .i64 c.y].map A.val) (ltN rfl) qC1_ti_39 rfl (by decide) rfl)) (by kernel_rfl) ?_
    refine wpc (step_plain rfl (acts_call1 (d := 6) (ltN rfl) (impl_CellOk_fn c ) (ArgVs.cons (ArgV.va (vs := [(.int .i64 c.x : Value), .int .i64 c.y]) (OpV.agg 5 [(.int .i64 c.x : Value), .int .i64 c.y])) (ArgVs.nil)) ((resval (congrArg Value.bool c1))))) (by kernel_rfl) ?_
    refine wpc (step_plain rfl (acts_move (d := 7) (ltN rfl) (OpX.tmp 6 (V.v (.bool true))))) (by kernel_rfl) ?_
    refine wpc (step_on (dj := 7) rfl rfl (acts_move (d := 8) (ltN rfl) (OpX.tmp 0 (V.v (.int .u64 ((s : Nat) : Int)))))) (by kernel_rfl) ?_
    refine wpc (step_on (dj := 7) rfl rfl (acts_load_owns (d := 9) (t := 3) (h := 3) (off := 0) (o := ⟨39, 2, true, [(.val (.int .i64 c.x) : A), .val (.int .i64 c.y)]⟩)  (xs := [(.int .i64 c.x : Value), .int .i64 c.y].map A.val) (ltN rfl) qC1_ti_39 rfl (by decide) rfl)) (by kernel_rfl) ?_
    refine wpc (step_on (dj := 7) rfl rfl (acts_call1 (d := 10) (ltN rfl) (impl_CellIndex_fn c (by omega)) (ArgVs.cons (ArgV.va (vs := [(.int .i64 c.x : Value), .int .i64 c.y]) (OpV.agg 9 [(.int .i64 c.x : Value), .int .i64 c.y])) (ArgVs.nil)) (ResV.val _))) (by kernel_rfl) ?_
    refine wpc (step_on (dj := 7) rfl rfl (acts_bin (d := 11) (ltN rfl) (OpV.tmp 8 (.int .u64 ((s : Nat) : Int))) (OpV.tmp 10 (.int .i64 (((idx c) : Nat) : Int))) (r_shr (c := (((s >>> (idx c)) : Nat) : Int)) (by omega) (shrU (m := s) (n := (idx c)) rfl rfl (by (first | omega | assumption | exact idx_lt (by assumption))) rfl)))) (by kernel_rfl) ?_
    refine wpc (step_on (dj := 7) rfl rfl (acts_bin (d := 12) (ltN rfl) (OpV.tmp 11 (.int .u64 (((s >>> (idx c)) : Nat) : Int))) (OpV.const (.int .u64 1)) (r_and (c := ((((s >>> (idx c)) &&& 1) : Nat) : Int)) (andU (m := (s >>> (idx c))) (n := 1) rfl rfl (by exact Nat.lt_of_le_of_lt (shr_le _ _) (by first | omega | assumption | (first | omega | assumption | exact idx_lt (by assumption)))) (by omega))))) (by kernel_rfl) ?_
    refine wpc (step_on (dj := 7) rfl rfl (acts_bin (d := 13) (ltN rfl) (OpV.tmp 12 (.int .u64 ((((s >>> (idx c)) &&& 1) : Nat) : Int))) (OpV.const (.int .u64 1)) (r_eql (c := (s.testBit (idx c))) (bit_one _ _)))) (by kernel_rfl) ?_
    refine wpc (step_plain rfl (acts_pick_t (d := 14) (ltN rfl) (OpV.tmp 7 (.bool true)) (OpX.tmp 13 (V.v (.bool (s.testBit (idx c))))))) (by kernel_rfl) ?_
    refine wpc (step_plain rfl (acts_assign (d := 4) (ltN rfl) (OpX.tmp 14 (V.v (.bool (s.testBit (idx c))))))) (by kernel_rfl) ?_
    refine wpl_nil ?_
    refine wp_ret' ?_
    exact VRes.tmp 4 (.a (.val (.bool (s.testBit (idx c))))) _ (by kernel_rfl) (bval (congrArg Value.bool (by (simp_all [hasS]; done))))
  · skip
    have c1Q := okc_false.1 c1
    refine wp_region_t ?_
    refine wpc (step_plain rfl (acts_load_owns (d := 5) (t := 3) (h := 3) (off := 0) (o := ⟨39, 2, true, [(.val (.int .i64 c.x) : A), .val (.int .i64 c.y)]⟩)  (xs := [(.int .i64 c.x : Value), .int .i64 c.y].map A.val) (ltN rfl) qC1_ti_39 rfl (by decide) rfl)) (by kernel_rfl) ?_
    refine wpc (step_plain rfl (acts_call1 (d := 6) (ltN rfl) (impl_CellOk_fn c ) (ArgVs.cons (ArgV.va (vs := [(.int .i64 c.x : Value), .int .i64 c.y]) (OpV.agg 5 [(.int .i64 c.x : Value), .int .i64 c.y])) (ArgVs.nil)) ((resval (congrArg Value.bool c1))))) (by kernel_rfl) ?_
    refine wpc (step_plain rfl (acts_move (d := 7) (ltN rfl) (OpX.tmp 6 (V.v (.bool false))))) (by kernel_rfl) ?_
    refine wpc (step_off (dj := 7) (b' := false) rfl rfl (by decide) rfl (ltN rfl)) (by kernel_rfl) ?_
    refine wpc (step_off (dj := 7) (b' := false) rfl rfl (by decide) rfl (ltN rfl)) (by kernel_rfl) ?_
    refine wpc (step_off (dj := 7) (b' := false) rfl rfl (by decide) rfl (ltN rfl)) (by kernel_rfl) ?_
    refine wpc (step_off (dj := 7) (b' := false) rfl rfl (by decide) rfl (ltN rfl)) (by kernel_rfl) ?_
    refine wpc (step_off (dj := 7) (b' := false) rfl rfl (by decide) rfl (ltN rfl)) (by kernel_rfl) ?_
    refine wpc (step_off (dj := 7) (b' := false) rfl rfl (by decide) rfl (ltN rfl)) (by kernel_rfl) ?_
    refine wpc (step_plain rfl (acts_pick_f (d := 14) (ltN rfl) (OpV.tmp 7 (.bool false)) (OpX.const (.bool false)))) (by kernel_rfl) ?_
    refine wpc (step_plain rfl (acts_assign (d := 4) (ltN rfl) (OpX.tmp 14 (V.v (.bool false))))) (by kernel_rfl) ?_
    refine wpl_nil ?_
    refine wp_ret' ?_
    exact VRes.tmp 4 (.a (.val (.bool false))) _ (by kernel_rfl) (bval (congrArg Value.bool (by (simp_all [hasS]; done))))

set_option maxHeartbeats 4000000 in
set_option maxRecDepth 100000 in
theorem impl_set__with_fn (s : Nat) (c : Cel) (hs : s < 18446744073709551616) (hc : okc c.x c.y = true) : Fn Try.prog 77 [.a (.val (.int .u64 ((s : Nat) : Int))), .agg ([(.int .i64 c.x : Value), .int .i64 c.y].map A.val)] [.val (.int .u64 (((addC s c) : Nat) : Int))] := by
  refine fn_intro (N := 10) Try.func77 rfl (by kernel_rfl) rfl (Nat.le_of_ble_eq_true rfl) [3, 7] (ret1 rfl) (fun W => ?_)
  show Wp _ _ _ [(.s 0, some (.s (V.v (.int .u64 ((s : Nat) : Int))))), (.s 1, some (.s (V.av [(.int .i64 c.x : Value), .int .i64 c.y]))), (.o 3, some .free), (.o 7, some .free)]
  refine wp_seq' ?_
  refine wp_region_t ?_
  refine wpc (step_plain rfl (acts_box (d := 3) (h := 3) (b := .agg ([(.int .i64 c.x : Value), .int .i64 c.y].map A.val)) (ltN rfl) (OpX.tmp 1 (V.av [(.int .i64 c.x : Value), .int .i64 c.y])) (by intro y hy; simp [B.cs] at hy; rcases hy with rfl | rfl <;> rfl))) (by kernel_rfl) ?_
  refine wpc (step_plain rfl (acts_assign (d := 4) (ltN rfl) (OpX.const (.int .u64 0)))) (by kernel_rfl) ?_
  refine wpl_nil ?_
  refine wp_seq' ?_
  refine wp_region_t ?_
  refine wpc (step_plain rfl (acts_move (d := 5) (ltN rfl) (OpX.tmp 0 (V.v (.int .u64 ((s : Nat) : Int)))))) (by kernel_rfl) ?_
  refine wpc (step_plain rfl (acts_load_owns (d := 6) (t := 3) (h := 3) (off := 0) (o := ⟨39, 2, true, [(.val (.int .i64 c.x) : A), .val (.int .i64 c.y)]⟩)  (xs := [(.int .i64 c.x : Value), .int .i64 c.y].map A.val) (ltN rfl) qC1_ti_39 rfl (by decide) rfl)) (by kernel_rfl) ?_
  refine wpc (step_plain rfl (acts_call1 (d := 7) (ltN rfl) (impl_CellIndex_fn c (by omega)) (ArgVs.cons (ArgV.va (vs := [(.int .i64 c.x : Value), .int .i64 c.y]) (OpV.agg 6 [(.int .i64 c.x : Value), .int .i64 c.y])) (ArgVs.nil)) (ResV.val _))) (by kernel_rfl) ?_
  refine wpc (step_plain rfl (acts_bin (d := 8) (ltN rfl) (OpV.const (.int .u64 1)) (OpV.tmp 7 (.int .i64 (((idx c) : Nat) : Int))) (r_shl (c := (((2 ^ (idx c)) : Nat) : Int)) (by omega) (shl1U (n := (idx c)) rfl (by (first | omega | assumption | exact idx_lt (by assumption) | exact two_pow_u (idx_lt (by assumption)) | exact addC_lt (by assumption) (by assumption) | exact delC_lt (by assumption) _)))))) (by kernel_rfl) ?_
  refine wpc (step_plain rfl (acts_bin (d := 9) (ltN rfl) (OpV.tmp 5 (.int .u64 ((s : Nat) : Int))) (OpV.tmp 8 (.int .u64 (((2 ^ (idx c)) : Nat) : Int))) (r_or (c := (((s ||| (2 ^ (idx c))) : Nat) : Int)) (orU (m := s) (n := (2 ^ (idx c))) rfl rfl (by omega) (by (first | omega | assumption | exact idx_lt (by assumption) | exact two_pow_u (idx_lt (by assumption)) | exact addC_lt (by assumption) (by assumption) | exact delC_lt (by assumption) _)))))) (by kernel_rfl) ?_
  refine wpc (step_plain rfl (acts_assign (d := 4) (ltN rfl) (OpX.tmp 9 (V.v (.int .u64 (((s ||| (2 ^ (idx c))) : Nat) : Int)))))) (by kernel_rfl) ?_
  refine wpl_nil ?_
  refine wp_ret' ?_
  exact VRes.tmp 4 (.a (.val (.int .u64 (((s ||| (2 ^ (idx c))) : Nat) : Int)))) _ (by kernel_rfl) (bval (congrArg (Value.int .u64) (by rfl)))

set_option maxHeartbeats 4000000 in
set_option maxRecDepth 100000 in
theorem impl_Region__set_fn (l : List Int) (ho : regOk l = true) : Fn Try.prog 56 [.agg [(.slv l.length 1 (isl l) : A)]] [.val (.int .u64 (((regSet l) : Nat) : Int))] := by
  obtain ⟨h8, hr⟩ := regOk_true ho
  refine fn_intro (N := 23) Try.func56 rfl (by kernel_rfl) rfl (Nat.le_of_ble_eq_true rfl) [1, 8] (ret1 rfl) (fun W => ?_)
  show Wp _ _ _ [(.s 0, some (.s (V.b (.agg [(.slv l.length 1 (isl l) : A)])))), (.o 1, some .free), (.o 8, some .free)]
  refine wp_seq' ?_
  refine wp_region_t ?_
  refine wpc (step_plain rfl (acts_box (d := 1) (h := 1) (b := .agg [(.slv l.length 1 (isl l) : A)]) (ltN rfl) (OpX.tmp 0 (V.b (.agg [(.slv l.length 1 (isl l) : A)]))) (by intro y hy; simp [B.cs] at hy; subst hy; rfl))) (by kernel_rfl) ?_
  refine wpc (step_plain rfl (acts_assign (d := 2) (ltN rfl) (OpX.const (.int .u64 0)))) (by kernel_rfl) ?_
  refine wpl_nil ?_
  refine wp_seq' ?_
  refine wp_region_t ?_
  refine wpc (step_plain rfl (acts_assign (d := 3) (ltN rfl) (OpX.const (.int .u64 0)))) (by kernel_rfl) ?_
  refine wpl_nil ?_
  refine wp_seq' ?_
  refine wp_seq' ?_
  refine wp_region_t ?_
  refine wpc (step_plain rfl (acts_field (d := 6) (t := 1) (h := 1) (off := 0) (off' := 0) (ltN rfl) qC1_fo_30_0 rfl)) (by kernel_rfl) ?_
  refine wpc (step_plain rfl (acts_load_own (d := 7) (t := 6) (h := 1) (off := 0) (o := ⟨30, 1, true, [(.slv l.length 1 (isl l) : A)]⟩)  (x := .slv l.length 1 (isl l)) (ltN rfl) qC1_ti_22 rfl)) (by kernel_rfl) ?_
  refine wpc (step_plain rfl (acts_len (d := 8) (X := .slv l.length 1 (isl l)) (n := l.length) (iv := ((l.length : Nat) : Int)) (ltN rfl) qC1_un_22 (OpX.tmp 7 (V.b (.a (.slv l.length 1 (isl l))))) (LenOf.slv _ _ _) rfl)) (by kernel_rfl) ?_
  refine wpc (step_plain rfl (acts_move (d := 9) (ltN rfl) (OpX.const (.int .i64 0)))) (by kernel_rfl) ?_
  refine wpl_nil ?_
  refine wp_block' ?_
  refine wp_loop' (fun (k : Nat) => k ≤ l.length) (fun (k : Nat) => [(.s 3, some (.s (V.v (.int .u64 (((rs l k) : Nat) : Int))))), (.s 7, some (.s (V.b (.a (.slv l.length 1 (isl l)))))), (.s 8, some (.s (V.v (.int .i64 ((l.length : Nat) : Int))))), (.s 9, some (.s (V.v (.int .i64 ((k : Nat) : Int))))), (.o 1, some .free), (.o 8, some .free)]) (fun (k : Nat) => l.length - k) ((0 : Nat)) (by exact (Nat.zero_le _ : 0 ≤ _)) (weak_of id [1, 8] (by kernel_rfl) (wk_s (v' := V.v (.int .u64 0)) (by kernel_rfl) (vint (by rfl)) rfl (wk_s (v' := V.b (.a (.slv l.length 1 (isl l)))) (by kernel_rfl) rfl rfl (wk_s (v' := V.v (.int .i64 ((l.length : Nat) : Int))) (by kernel_rfl) rfl rfl (wk_s (v' := V.v (.int .i64 0)) (by kernel_rfl) (vint (by rfl)) rfl (wk_f rfl (wk_f rfl (wk_nil)))))))) ?_
  rintro k inv1
  replace inv1 : k ≤ l.length := inv1
  have inv := inv1
  show Wp _ _ _ [(.s 3, some (.s (V.v (.int .u64 (((rs l k) : Nat) : Int))))), (.s 7, some (.s (V.b (.a (.slv l.length 1 (isl l)))))), (.s 8, some (.s (V.v (.int .i64 ((l.length : Nat) : Int))))), (.s 9, some (.s (V.v (.int .i64 ((k : Nat) : Int))))), (.o 1, some .free), (.o 8, some .free)]
  have hrs := rs_lt ho inv
  refine wp_seq' ?_
  refine wp_region_t ?_
  refine wpc (step_plain rfl (acts_bin (d := 10) (ltN rfl) (OpV.tmp 9 (.int .i64 ((k : Nat) : Int))) (OpV.tmp 8 (.int .i64 ((l.length : Nat) : Int))) (r_lss (c := (decide (((k : Nat) : Int) < ((l.length : Nat) : Int)))) rfl))) (by kernel_rfl) ?_
  refine wpl_nil ?_
  refine wp_seq' ?_
  refine wp_if (t := 10) (decide (((k : Nat) : Int) < ((l.length : Nat) : Int))) (by kernel_rfl) (fun c2 => ?_) (fun c2 => ?_)
  · skip
    have c2P := of_decide_eq_true c2
    refine wp_skip' ?_
    refine wp_seq' ?_
    refine wp_block' ?_
    refine wp_seq' ?_
    refine wp_region_t ?_
    refine wpc (step_plain rfl (acts_move (d := 11) (ltN rfl) (OpX.tmp 9 (V.v (.int .i64 ((k : Nat) : Int)))))) (by kernel_rfl) ?_
    refine wpc (step_plain rfl (acts_index_v (d := 12) (x := 7) (n := l.length) (s := 1) (k := k) (xs := isl l) (ltN rfl) qC1_un_22 qC1_sz_3 (OpV.tmp 9 (.int .i64 ((k : Nat) : Int))) rfl (by omega))) (by kernel_rfl) ?_
    refine wpc (step_plain rfl (acts_load_v (d := 13) (t := 12) (s := 1) (off := (k * 1)) (xs := isl l)  (v := .int .i64 (gI l k)) (ltN rfl) qC1_ti_3 (isl_get1 (k := k) (by omega)))) (by kernel_rfl) ?_
    refine wpc (step_plain rfl (acts_assign (d := 4) (ltN rfl) (OpX.tmp 11 (V.v (.int .i64 ((k : Nat) : Int)))))) (by kernel_rfl) ?_
    refine wpc (step_plain rfl (acts_assign (d := 5) (ltN rfl) (OpX.tmp 13 (V.v (.int .i64 (gI l k)))))) (by kernel_rfl) ?_
    refine wpl_nil ?_
    refine wp_region_t ?_
    refine wpc (step_plain rfl (acts_move (d := 14) (ltN rfl) (OpX.tmp 3 (V.v (.int .u64 (((rs l k) : Nat) : Int)))))) (by kernel_rfl) ?_
    refine wpc (step_plain rfl (acts_move (d := 15) (ltN rfl) (OpX.tmp 5 (V.v (.int .i64 (gI l k)))))) (by kernel_rfl) ?_
    refine wpc (step_plain rfl (acts_conv (d := 16) (ltN rfl) (OpV.tmp 15 (.int .i64 (gI l k))) (r_conv (c := (gI l k)) qC1_un_3 qC1_un_64 (w_u64 (by (have := hr k (by omega); omega)) (by (have := hr k (by omega); omega)))))) (by kernel_rfl) ?_
    refine wpc (step_plain rfl (acts_move (d := 17) (ltN rfl) (OpX.tmp 4 (V.v (.int .i64 ((k : Nat) : Int)))))) (by kernel_rfl) ?_
    refine wpc (step_plain rfl (acts_bin (d := 18) (ltN rfl) (OpV.const (.int .i64 8)) (OpV.tmp 17 (.int .i64 ((k : Nat) : Int))) (r_mul (c := (8 * ((k : Nat) : Int))) (w64 (by omega) (by omega))))) (by kernel_rfl) ?_
    refine wpc (step_plain rfl (acts_bin (d := 19) (ltN rfl) (OpV.tmp 16 (.int .u64 (gI l k))) (OpV.tmp 18 (.int .i64 (8 * ((k : Nat) : Int)))) (r_shl (c := (((((gI l k).toNat) <<< (8 * k)) : Nat) : Int)) (by omega) (shlU (m := ((gI l k).toNat)) (n := (8 * k)) (Int.toNat_of_nonneg (by (have := hr k (by omega); omega))).symm (by rfl) (by omega) (by (first | omega | assumption | (have := hr k (by omega); exact shl_u (by omega) (by omega)))))))) (by kernel_rfl) ?_
    refine wpc (step_plain rfl (acts_bin (d := 20) (ltN rfl) (OpV.tmp 14 (.int .u64 (((rs l k) : Nat) : Int))) (OpV.tmp 19 (.int .u64 (((((gI l k).toNat) <<< (8 * k)) : Nat) : Int))) (r_or (c := ((((rs l k) ||| (((gI l k).toNat) <<< (8 * k))) : Nat) : Int)) (orU (m := (rs l k)) (n := (((gI l k).toNat) <<< (8 * k))) rfl rfl (by omega) (by (first | omega | assumption | (have := hr k (by omega); exact shl_u (by omega) (by omega)))))))) (by kernel_rfl) ?_
    refine wpc (step_plain rfl (acts_assign (d := 3) (ltN rfl) (OpX.tmp 20 (V.v (.int .u64 ((((rs l k) ||| (((gI l k).toNat) <<< (8 * k))) : Nat) : Int)))))) (by kernel_rfl) ?_
    refine wpl_nil ?_
    refine wp_region_t ?_
    refine wpc (step_plain rfl (acts_bin (d := 21) (ltN rfl) (OpV.tmp 9 (.int .i64 ((k : Nat) : Int))) (OpV.const (.int .i64 1)) (r_add (c := (((k : Nat) : Int) + 1)) (w64 (by omega) (by omega))))) (by kernel_rfl) ?_
    refine wpc (step_plain rfl (acts_move (d := 9) (ltN rfl) (OpX.tmp 21 (V.v (.int .i64 (((k : Nat) : Int) + 1)))))) (by kernel_rfl) ?_
    refine wpl_nil ?_
    exact loop_back ((k + 1)) (by show _ ≤ _; omega) (by show l.length - (k + 1) < l.length - k; omega) (weak_of id [1, 8] (by kernel_rfl) (wk_s (v' := V.v (.int .u64 ((((rs l k) ||| (((gI l k).toNat) <<< (8 * k))) : Nat) : Int))) (by kernel_rfl) (vint (by rfl)) rfl (wk_s (v' := V.b (.a (.slv l.length 1 (isl l)))) (by kernel_rfl) rfl rfl (wk_s (v' := V.v (.int .i64 ((l.length : Nat) : Int))) (by kernel_rfl) rfl rfl (wk_s (v' := V.v (.int .i64 (((k : Nat) : Int) + 1))) (by kernel_rfl) (vint (by rfl)) rfl (wk_f rfl (wk_f rfl (wk_nil))))))))
  · skip
    have c2P := of_decide_eq_false c2
    refine wp_exit' ?_
    refine wp_seq' ?_
    refine wp_region_t ?_
    refine wpc (step_plain rfl (acts_move (d := 22) (ltN rfl) (OpX.tmp 3 (V.v (.int .u64 (((rs l k) : Nat) : Int)))))) (by kernel_rfl) ?_
    refine wpc (step_plain rfl (acts_assign (d := 2) (ltN rfl) (OpX.tmp 22 (V.v (.int .u64 (((rs l k) : Nat) : Int)))))) (by kernel_rfl) ?_
    refine wpl_nil ?_
    refine wp_ret' ?_
    exact VRes.tmp 2 (.a (.val (.int .u64 (((rs l k) : Nat) : Int)))) _ (by kernel_rfl) (bval (congrArg (Value.int .u64) (by (have e : k = l.length := by omega); subst e; rfl)))

set_option maxHeartbeats 4000000 in
set_option maxRecDepth 100000 in
theorem impl_RegionOk_fn (l : List Int) (hl : l.length ≤ 4194304) : Fn Try.prog 46 [.agg [(.slv l.length 1 (isl l) : A)]] [.val (.bool (regOk l))] := by
  refine fn_intro (N := 12) Try.func46 rfl (by kernel_rfl) rfl (Nat.le_of_ble_eq_true rfl) [1, 5, 10] (ret1 rfl) (fun W => ?_)
  show Wp _ _ _ [(.s 0, some (.s (V.b (.agg [(.slv l.length 1 (isl l) : A)])))), (.o 1, some .free), (.o 5, some .free), (.o 10, some .free)]
  refine wp_seq' ?_
  refine wp_region_t ?_
  refine wpc (step_plain rfl (acts_box (d := 1) (h := 1) (b := .agg [(.slv l.length 1 (isl l) : A)]) (ltN rfl) (OpX.tmp 0 (V.b (.agg [(.slv l.length 1 (isl l) : A)]))) (by intro y hy; simp [B.cs] at hy; subst hy; rfl))) (by kernel_rfl) ?_
  refine wpc (step_plain rfl (acts_assign (d := 2) (ltN rfl) (OpX.const (.bool false)))) (by kernel_rfl) ?_
  refine wpl_nil ?_
  refine wp_seq' ?_
  rcases Bool.eq_false_or_eq_true (decide (((l.length : Nat) : Int) ≤ 8)) with c1 | c1
  · skip
    have c1P := of_decide_eq_true c1
    refine wp_region_t ?_
    refine wpc (step_plain rfl (acts_field (d := 3) (t := 1) (h := 1) (off := 0) (off' := 0) (ltN rfl) qC1_fo_30_0 rfl)) (by kernel_rfl) ?_
    refine wpc (step_plain rfl (acts_load_own (d := 4) (t := 3) (h := 1) (off := 0) (o := ⟨30, 1, true, [(.slv l.length 1 (isl l) : A)]⟩)  (x := .slv l.length 1 (isl l)) (ltN rfl) qC1_ti_22 rfl)) (by kernel_rfl) ?_
    refine wpc (step_plain rfl (acts_len (d := 5) (X := .slv l.length 1 (isl l)) (n := l.length) (iv := ((l.length : Nat) : Int)) (ltN rfl) qC1_un_22 (OpX.tmp 4 (V.b (.a (.slv l.length 1 (isl l))))) (LenOf.slv _ _ _) rfl)) (by kernel_rfl) ?_
    refine wpc (step_plain rfl (acts_bin (d := 6) (ltN rfl) (OpV.tmp 5 (.int .i64 ((l.length : Nat) : Int))) (OpV.const (.int .i64 8)) (r_leq (c := true) c1))) (by kernel_rfl) ?_
    refine wpc (step_plain rfl (acts_move (d := 7) (ltN rfl) (OpX.tmp 6 (V.v (.bool true))))) (by kernel_rfl) ?_
    refine wpc (step_on (dj := 7) rfl rfl (acts_field (d := 8) (t := 1) (h := 1) (off := 0) (off' := 0) (ltN rfl) qC1_fo_30_0 rfl)) (by kernel_rfl) ?_
    refine wpc (step_on (dj := 7) rfl rfl (acts_load_own (d := 9) (t := 8) (h := 1) (off := 0) (o := ⟨30, 1, true, [(.slv l.length 1 (isl l) : A)]⟩)  (x := .slv l.length 1 (isl l)) (ltN rfl) qC1_ti_22 rfl)) (by kernel_rfl) ?_
    refine wpc (step_on (dj := 7) rfl rfl (acts_call1 (d := 10) (ltN rfl) (impl_allWithin_fn l 0 255 (by omega)) (ArgVs.cons (ArgV.slv 9 l.length 1 (isl l)) (ArgVs.cons (ArgV.v (OpV.const (.int .i64 0))) (ArgVs.cons (ArgV.v (OpV.const (.int .i64 255))) (ArgVs.nil)))) (ResV.val _))) (by kernel_rfl) ?_
    refine wpc (step_plain rfl (acts_pick_t (d := 11) (ltN rfl) (OpV.tmp 7 (.bool true)) (OpX.tmp 10 (V.v (.bool (allIn l 0 255)))))) (by kernel_rfl) ?_
    refine wpc (step_plain rfl (acts_assign (d := 2) (ltN rfl) (OpX.tmp 11 (V.v (.bool (allIn l 0 255)))))) (by kernel_rfl) ?_
    refine wpl_nil ?_
    refine wp_ret' ?_
    exact VRes.tmp 2 (.a (.val (.bool (allIn l 0 255)))) _ (by kernel_rfl) (bval (congrArg Value.bool (by (unfold regOk; simp_all; (try intros); omega))))
  · skip
    have c1P := of_decide_eq_false c1
    refine wp_region_t ?_
    refine wpc (step_plain rfl (acts_field (d := 3) (t := 1) (h := 1) (off := 0) (off' := 0) (ltN rfl) qC1_fo_30_0 rfl)) (by kernel_rfl) ?_
    refine wpc (step_plain rfl (acts_load_own (d := 4) (t := 3) (h := 1) (off := 0) (o := ⟨30, 1, true, [(.slv l.length 1 (isl l) : A)]⟩)  (x := .slv l.length 1 (isl l)) (ltN rfl) qC1_ti_22 rfl)) (by kernel_rfl) ?_
    refine wpc (step_plain rfl (acts_len (d := 5) (X := .slv l.length 1 (isl l)) (n := l.length) (iv := ((l.length : Nat) : Int)) (ltN rfl) qC1_un_22 (OpX.tmp 4 (V.b (.a (.slv l.length 1 (isl l))))) (LenOf.slv _ _ _) rfl)) (by kernel_rfl) ?_
    refine wpc (step_plain rfl (acts_bin (d := 6) (ltN rfl) (OpV.tmp 5 (.int .i64 ((l.length : Nat) : Int))) (OpV.const (.int .i64 8)) (r_leq (c := false) c1))) (by kernel_rfl) ?_
    refine wpc (step_plain rfl (acts_move (d := 7) (ltN rfl) (OpX.tmp 6 (V.v (.bool false))))) (by kernel_rfl) ?_
    refine wpc (step_off (dj := 7) (b' := false) rfl rfl (by decide) rfl (ltN rfl)) (by kernel_rfl) ?_
    refine wpc (step_off (dj := 7) (b' := false) rfl rfl (by decide) rfl (ltN rfl)) (by kernel_rfl) ?_
    refine wpc (step_off (dj := 7) (b' := false) rfl rfl (by decide) rfl (ltN rfl)) (by kernel_rfl) ?_
    refine wpc (step_plain rfl (acts_pick_f (d := 11) (ltN rfl) (OpV.tmp 7 (.bool false)) (OpX.const (.bool false)))) (by kernel_rfl) ?_
    refine wpc (step_plain rfl (acts_assign (d := 2) (ltN rfl) (OpX.tmp 11 (V.v (.bool false))))) (by kernel_rfl) ?_
    refine wpl_nil ?_
    refine wp_ret' ?_
    exact VRes.tmp 2 (.a (.val (.bool false))) _ (by kernel_rfl) (bval (congrArg Value.bool (by (unfold regOk; simp_all; (try intros); omega))))

set_option maxHeartbeats 4000000 in
set_option maxRecDepth 100000 in
theorem spec_RegionOk_fn (l : List Int) (hl : l.length ≤ 4194304) : Fn Try.prog 44 [.agg [(.slv l.length 1 (isl l) : A)]] [.val (.bool (regOk l))] := by
  refine fn_intro (N := 22) Try.func44 rfl (by kernel_rfl) rfl (Nat.le_of_ble_eq_true rfl) [1, 7, 16, 20] (ret1 rfl) (fun W => ?_)
  show Wp _ _ _ [(.s 0, some (.s (V.b (.agg [(.slv l.length 1 (isl l) : A)])))), (.o 1, some .free), (.o 7, some .free), (.o 16, some .free), (.o 20, some .free)]
  refine wp_seq' ?_
  refine wp_region_t ?_
  refine wpc (step_plain rfl (acts_box (d := 1) (h := 1) (b := .agg [(.slv l.length 1 (isl l) : A)]) (ltN rfl) (OpX.tmp 0 (V.b (.agg [(.slv l.length 1 (isl l) : A)]))) (by intro y hy; simp [B.cs] at hy; subst hy; rfl))) (by kernel_rfl) ?_
  refine wpc (step_plain rfl (acts_assign (d := 2) (ltN rfl) (OpX.const (.bool false)))) (by kernel_rfl) ?_
  refine wpl_nil ?_
  refine wp_seq' ?_
  refine wp_seq' ?_
  refine wp_region_t ?_
  refine wpc (step_plain rfl (acts_assign (d := 3) (ltN rfl) (OpX.const (.int .i64 0)))) (by kernel_rfl) ?_
  refine wpl_nil ?_
  refine wp_block' ?_
  refine wp_loop' (fun (k : Nat) => k ≤ l.length ∧ allIn (l.take k) 0 255 = true) (fun (k : Nat) => [(.s 1, some (.s (V.p 1 0))), (.s 3, some (.s (V.v (.int .i64 ((k : Nat) : Int))))), (.o 1, some (.o ⟨30, 1, true, [(.slv l.length 1 (isl l) : A)]⟩)), (.o 7, some .free), (.o 16, some .free), (.o 20, some .free)]) (fun (k : Nat) => l.length - k) ((0 : Nat)) (by exact ⟨Nat.zero_le _, rfl⟩) (weak_of id [7, 16, 20] (by kernel_rfl) (wk_s (v' := V.p 1 0) (by kernel_rfl) rfl rfl (wk_s (v' := V.v (.int .i64 0)) (by kernel_rfl) (vint (by rfl)) rfl (wk_o (o' := ⟨30, 1, true, [(.slv l.length 1 (isl l) : A)]⟩) (by kernel_rfl) (renob_l (fun h => h) rfl rfl) rfl (wk_f rfl (wk_f rfl (wk_f rfl (wk_nil)))))))) ?_
  rintro k inv1
  replace inv1 : k ≤ l.length ∧ allIn (l.take k) 0 255 = true := inv1
  obtain ⟨inv1_0, inv1_1⟩ := inv1
  show Wp _ _ _ [(.s 1, some (.s (V.p 1 0))), (.s 3, some (.s (V.v (.int .i64 ((k : Nat) : Int))))), (.o 1, some (.o ⟨30, 1, true, [(.slv l.length 1 (isl l) : A)]⟩)), (.o 7, some .free), (.o 16, some .free), (.o 20, some .free)]
  refine wp_seq' ?_
  refine wp_seq' ?_
  refine wp_region_t ?_
  refine wpc (step_plain rfl (acts_move (d := 4) (ltN rfl) (OpX.tmp 3 (V.v (.int .i64 ((k : Nat) : Int)))))) (by kernel_rfl) ?_
  refine wpc (step_plain rfl (acts_field (d := 5) (t := 1) (h := 1) (off := 0) (off' := 0) (ltN rfl) qC1_fo_30_0 rfl)) (by kernel_rfl) ?_
  refine wpc (step_plain rfl (acts_load_own (d := 6) (t := 5) (h := 1) (off := 0) (o := ⟨30, 1, true, [(.slv l.length 1 (isl l) : A)]⟩)  (x := .slv l.length 1 (isl l)) (ltN rfl) qC1_ti_22 rfl)) (by kernel_rfl) ?_
  refine wpc (step_plain rfl (acts_len (d := 7) (X := .slv l.length 1 (isl l)) (n := l.length) (iv := ((l.length : Nat) : Int)) (ltN rfl) qC1_un_22 (OpX.tmp 6 (V.b (.a (.slv l.length 1 (isl l))))) (LenOf.slv _ _ _) rfl)) (by kernel_rfl) ?_
  refine wpc (step_plain rfl (acts_bin (d := 8) (ltN rfl) (OpV.tmp 4 (.int .i64 ((k : Nat) : Int))) (OpV.tmp 7 (.int .i64 ((l.length : Nat) : Int))) (r_lss (c := (decide (((k : Nat) : Int) < ((l.length : Nat) : Int)))) rfl))) (by kernel_rfl) ?_
  refine wpl_nil ?_
  refine wp_if (t := 8) (decide (((k : Nat) : Int) < ((l.length : Nat) : Int))) (by kernel_rfl) (fun c2 => ?_) (fun c2 => ?_)
  · skip
    have c2P := of_decide_eq_true c2
    refine wp_skip' ?_
    refine wp_seq' ?_
    refine wp_block' ?_
    refine wp_seq' ?_
    refine wp_region_t ?_
    refine wpc (step_plain rfl (acts_field (d := 11) (t := 1) (h := 1) (off := 0) (off' := 0) (ltN rfl) qC1_fo_30_0 rfl)) (by kernel_rfl) ?_
    refine wpc (step_plain rfl (acts_load_own (d := 12) (t := 11) (h := 1) (off := 0) (o := ⟨30, 1, true, [(.slv l.length 1 (isl l) : A)]⟩)  (x := .slv l.length 1 (isl l)) (ltN rfl) qC1_ti_22 rfl)) (by kernel_rfl) ?_
    refine wpc (step_plain rfl (acts_move (d := 13) (ltN rfl) (OpX.tmp 3 (V.v (.int .i64 ((k : Nat) : Int)))))) (by kernel_rfl) ?_
    refine wpc (step_plain rfl (acts_index_v (d := 14) (x := 12) (n := l.length) (s := 1) (k := k) (xs := isl l) (ltN rfl) qC1_un_22 qC1_sz_3 (OpV.tmp 13 (.int .i64 ((k : Nat) : Int))) rfl (by omega))) (by kernel_rfl) ?_
    refine wpc (step_plain rfl (acts_load_v (d := 15) (t := 14) (s := 1) (off := (k * 1)) (xs := isl l)  (v := .int .i64 (gI l k)) (ltN rfl) qC1_ti_3 (isl_get1 (k := k) (by omega)))) (by kernel_rfl) ?_
    refine wpc (step_plain rfl (acts_call1 (d := 16) (ltN rfl) (spec_l01In_fn (gI l k) 0 255 ) (ArgVs.cons (ArgV.v (OpV.tmp 15 (.int .i64 (gI l k)))) (ArgVs.cons (ArgV.v (OpV.const (.int .i64 0))) (ArgVs.cons (ArgV.v (OpV.const (.int .i64 255))) (ArgVs.nil)))) (ResV.val _))) (by kernel_rfl) ?_
    refine wpc (step_plain rfl (acts_un (d := 17) (ltN rfl) (OpV.tmp 16 (.bool (inB (gI l k) 0 255))) (r_not (c := (!(inB (gI l k) 0 255))) rfl))) (by kernel_rfl) ?_
    refine wpl_nil ?_
    refine wp_if (t := 17) ((!(inB (gI l k) 0 255))) (by kernel_rfl) (fun c3 => ?_) (fun c3 => ?_)
    · skip
      have c4 : (inB (gI l k) 0 255) = false := by simpa using c3
      have c4Q := inB_false.1 c4
      refine wp_seq' ?_
      refine wp_region_t ?_
      refine wpc (step_plain rfl (acts_assign (d := 2) (ltN rfl) (OpX.const (.bool false)))) (by kernel_rfl) ?_
      refine wpl_nil ?_
      refine wp_ret' ?_
      exact VRes.tmp 2 (.a (.val (.bool false))) _ (by kernel_rfl) (bval (congrArg Value.bool (by exact (regOk_spec (k := k) (by omega) (by assumption)).symm)))
    · skip
      have c5 : (inB (gI l k) 0 255) = true := by simpa using c3
      have c5Q := inB_true.1 c5
      refine wp_skip' ?_
      refine wp_region_t ?_
      refine wpc (step_plain rfl (acts_move (d := 9) (ltN rfl) (OpX.tmp 3 (V.v (.int .i64 ((k : Nat) : Int)))))) (by kernel_rfl) ?_
      refine wpc (step_plain rfl (acts_bin (d := 10) (ltN rfl) (OpV.tmp 9 (.int .i64 ((k : Nat) : Int))) (OpV.const (.int .i64 1)) (r_add (c := (((k : Nat) : Int) + 1)) (w64 (by omega) (by omega))))) (by kernel_rfl) ?_
      refine wpc (step_plain rfl (acts_assign (d := 3) (ltN rfl) (OpX.tmp 10 (V.v (.int .i64 (((k : Nat) : Int) + 1)))))) (by kernel_rfl) ?_
      refine wpl_nil ?_
      exact loop_back ((k + 1)) (by exact ⟨by omega, allIn_snoc (by omega) (by assumption) (by assumption)⟩) (by show l.length - (k + 1) < l.length - k; omega) (weak_of id [7, 16, 20] (by kernel_rfl) (wk_s (v' := V.p 1 0) (by kernel_rfl) rfl rfl (wk_s (v' := V.v (.int .i64 (((k : Nat) : Int) + 1))) (by kernel_rfl) (vint (by rfl)) rfl (wk_o (o' := ⟨30, 1, true, [(.slv l.length 1 (isl l) : A)]⟩) (by kernel_rfl) (renob_l (fun h => h) rfl rfl) rfl (wk_f rfl (wk_f rfl (wk_f rfl (wk_nil))))))))
  · skip
    have c2P := of_decide_eq_false c2
    refine wp_exit' ?_
    refine wp_seq' ?_
    refine wp_region_t ?_
    refine wpc (step_plain rfl (acts_field (d := 18) (t := 1) (h := 1) (off := 0) (off' := 0) (ltN rfl) qC1_fo_30_0 rfl)) (by kernel_rfl) ?_
    refine wpc (step_plain rfl (acts_load_own (d := 19) (t := 18) (h := 1) (off := 0) (o := ⟨30, 1, true, [(.slv l.length 1 (isl l) : A)]⟩)  (x := .slv l.length 1 (isl l)) (ltN rfl) qC1_ti_22 rfl)) (by kernel_rfl) ?_
    refine wpc (step_plain rfl (acts_len (d := 20) (X := .slv l.length 1 (isl l)) (n := l.length) (iv := ((l.length : Nat) : Int)) (ltN rfl) qC1_un_22 (OpX.tmp 19 (V.b (.a (.slv l.length 1 (isl l))))) (LenOf.slv _ _ _) rfl)) (by kernel_rfl) ?_
    refine wpc (step_plain rfl (acts_bin (d := 21) (ltN rfl) (OpV.tmp 20 (.int .i64 ((l.length : Nat) : Int))) (OpV.const (.int .i64 8)) (r_leq (c := (decide (((l.length : Nat) : Int) ≤ 8))) rfl))) (by kernel_rfl) ?_
    refine wpc (step_plain rfl (acts_assign (d := 2) (ltN rfl) (OpX.tmp 21 (V.v (.bool (decide (((l.length : Nat) : Int) ≤ 8))))))) (by kernel_rfl) ?_
    refine wpl_nil ?_
    refine wp_ret' ?_
    exact VRes.tmp 2 (.a (.val (.bool (decide (((l.length : Nat) : Int) ≤ 8))))) _ (by kernel_rfl) (bval (congrArg Value.bool (by rw [regOk_spec2 (allIn_end (by omega) (by assumption))]; simp; omega)))

set_option maxHeartbeats 4000000 in
set_option maxRecDepth 100000 in
theorem spec_l03Has_fn (l : List Int) (c : Cel) (ho : regOk l = true) (hc : okc c.x c.y = true) : Fn Try.prog 80 [.agg [(.slv l.length 1 (isl l) : A)], .agg ([(.int .i64 c.x : Value), .int .i64 c.y].map A.val)] [.val (.bool (hasR l c))] := by
  obtain ⟨h8, hr⟩ := regOk_true ho
  have hq := okc_true.1 hc
  refine fn_intro (N := 24) Try.func80 rfl (by kernel_rfl) rfl (Nat.le_of_ble_eq_true rfl) [2, 3, 9] (ret1 rfl) (fun W => ?_)
  show Wp _ _ _ [(.s 0, some (.s (V.b (.agg [(.slv l.length 1 (isl l) : A)])))), (.s 1, some (.s (V.av [(.int .i64 c.x : Value), .int .i64 c.y]))), (.o 2, some .free), (.o 3, some .free), (.o 9, some .free)]
  refine wp_seq' ?_
  refine wp_region_t ?_
  refine wpc (step_plain rfl (acts_box (d := 2) (h := 2) (b := .agg [(.slv l.length 1 (isl l) : A)]) (ltN rfl) (OpX.tmp 0 (V.b (.agg [(.slv l.length 1 (isl l) : A)]))) (by intro y hy; simp [B.cs] at hy; subst hy; rfl))) (by kernel_rfl) ?_
  refine wpc (step_plain rfl (acts_box (d := 3) (h := 3) (b := .agg ([(.int .i64 c.x : Value), .int .i64 c.y].map A.val)) (ltN rfl) (OpX.tmp 1 (V.av [(.int .i64 c.x : Value), .int .i64 c.y])) (by intro y hy; simp [B.cs] at hy; rcases hy with rfl | rfl <;> rfl))) (by kernel_rfl) ?_
  refine wpc (step_plain rfl (acts_assign (d := 4) (ltN rfl) (OpX.const (.bool false)))) (by kernel_rfl) ?_
  refine wpl_nil ?_
  refine wp_seq' ?_
  rcases Bool.eq_false_or_eq_true (decide (c.y < ((l.length : Nat) : Int))) with c1 | c1
  · skip
    have c1P := of_decide_eq_true c1
    refine wp_drawn' (by kernel_rfl) (AllSteps.cons (step_plain rfl (acts_field (d := 5) (t := 3) (h := 3) (off := 0) (off' := 1) (ltN rfl) qC1_fo_39_1 rfl)) (AllSteps.cons (step_plain rfl (acts_load_own (d := 6) (t := 5) (h := 3) (off := 1) (o := ⟨39, 2, true, [(.val (.int .i64 c.x) : A), .val (.int .i64 c.y)]⟩)  (x := .val (.int .i64 c.y)) (ltN rfl) qC1_ti_3 rfl)) (AllSteps.cons (step_plain rfl (acts_field (d := 7) (t := 2) (h := 2) (off := 0) (off' := 0) (ltN rfl) qC1_fo_30_0 rfl)) (AllSteps.cons (step_plain rfl (acts_load_own (d := 8) (t := 7) (h := 2) (off := 0) (o := ⟨30, 1, true, [(.slv l.length 1 (isl l) : A)]⟩)  (x := .slv l.length 1 (isl l)) (ltN rfl) qC1_ti_22 rfl)) (AllSteps.cons (step_plain rfl (acts_len (d := 9) (X := .slv l.length 1 (isl l)) (n := l.length) (iv := ((l.length : Nat) : Int)) (ltN rfl) qC1_un_22 (OpX.tmp 8 (V.b (.a (.slv l.length 1 (isl l))))) (LenOf.slv _ _ _) rfl)) (AllSteps.cons (step_plain rfl (acts_bin (d := 10) (ltN rfl) (OpV.tmp 6 (.int .i64 c.y)) (OpV.tmp 9 (.int .i64 ((l.length : Nat) : Int))) (r_lss (c := true) c1))) (AllSteps.cons (step_plain rfl (acts_move (d := 11) (ltN rfl) (OpX.tmp 10 (V.v (.bool true))))) (AllSteps.cons (step_on (dj := 11) rfl rfl (acts_field (d := 12) (t := 2) (h := 2) (off := 0) (off' := 0) (ltN rfl) qC1_fo_30_0 rfl)) (AllSteps.cons (step_on (dj := 11) rfl rfl (acts_load_own (d := 13) (t := 12) (h := 2) (off := 0) (o := ⟨30, 1, true, [(.slv l.length 1 (isl l) : A)]⟩)  (x := .slv l.length 1 (isl l)) (ltN rfl) qC1_ti_22 rfl)) (AllSteps.cons (step_on (dj := 11) rfl rfl (acts_field (d := 14) (t := 3) (h := 3) (off := 0) (off' := 1) (ltN rfl) qC1_fo_39_1 rfl)) (AllSteps.cons (step_on (dj := 11) rfl rfl (acts_load_own (d := 15) (t := 14) (h := 3) (off := 1) (o := ⟨39, 2, true, [(.val (.int .i64 c.x) : A), .val (.int .i64 c.y)]⟩)  (x := .val (.int .i64 c.y)) (ltN rfl) qC1_ti_3 rfl)) (AllSteps.cons (step_on (dj := 11) rfl rfl (acts_index_v (d := 16) (x := 13) (n := l.length) (s := 1) (k := c.y.toNat) (xs := isl l) (ltN rfl) qC1_un_22 qC1_sz_3 (OpV.tmp 15 (.int .i64 c.y)) (Int.toNat_of_nonneg (by omega)).symm (by omega))) (AllSteps.cons (step_on (dj := 11) rfl rfl (acts_load_v (d := 17) (t := 16) (s := 1) (off := (c.y.toNat * 1)) (xs := isl l)  (v := .int .i64 (gI l c.y.toNat)) (ltN rfl) qC1_ti_3 (isl_get1 (k := c.y.toNat) (by omega)))) (AllSteps.cons (step_on (dj := 11) rfl rfl (acts_field (d := 18) (t := 3) (h := 3) (off := 0) (off' := 0) (ltN rfl) qC1_fo_39_0 rfl)) (AllSteps.cons (step_on (dj := 11) rfl rfl (acts_load_own (d := 19) (t := 18) (h := 3) (off := 0) (o := ⟨39, 2, true, [(.val (.int .i64 c.x) : A), .val (.int .i64 c.y)]⟩)  (x := .val (.int .i64 c.x)) (ltN rfl) qC1_ti_3 rfl)) (AllSteps.cons (step_on (dj := 11) rfl rfl (acts_bin (d := 20) (ltN rfl) (OpV.tmp 17 (.int .i64 (gI l c.y.toNat))) (OpV.tmp 19 (.int .i64 c.x)) (r_shr (c := (((((gI l c.y.toNat).toNat) >>> c.x.toNat) : Nat) : Int)) (by omega) (shrU (m := ((gI l c.y.toNat).toNat)) (n := c.x.toNat) (Int.toNat_of_nonneg (by (have := hr c.y.toNat (by omega); omega))).symm (Int.toNat_of_nonneg (by omega)).symm (by omega) rfl)))) (AllSteps.cons (step_on (dj := 11) rfl rfl (acts_bin (d := 21) (ltN rfl) (OpV.tmp 20 (.int .i64 (((((gI l c.y.toNat).toNat) >>> c.x.toNat) : Nat) : Int))) (OpV.const (.int .i64 1)) (r_and (c := ((((((gI l c.y.toNat).toNat) >>> c.x.toNat) &&& 1) : Nat) : Int)) (andI (m := (((gI l c.y.toNat).toNat) >>> c.x.toNat)) (n := 1) rfl rfl (by exact Nat.lt_of_le_of_lt (shr_le _ _) (by first | omega | assumption | (first | omega | (have := hr c.y.toNat (by omega); omega)))) (by omega))))) (AllSteps.cons (step_on (dj := 11) rfl rfl (acts_bin (d := 22) (ltN rfl) (OpV.tmp 21 (.int .i64 ((((((gI l c.y.toNat).toNat) >>> c.x.toNat) &&& 1) : Nat) : Int))) (OpV.const (.int .i64 1)) (r_eql (c := (((gI l c.y.toNat).toNat).testBit c.x.toNat)) (bit_one _ _)))) (AllSteps.cons (step_plain rfl (acts_pick_t (d := 23) (ltN rfl) (OpV.tmp 11 (.bool true)) (OpX.tmp 22 (V.v (.bool (((gI l c.y.toNat).toNat).testBit c.x.toNat)))))) (AllSteps.cons (step_plain rfl (acts_assign (d := 4) (ltN rfl) (OpX.tmp 23 (V.v (.bool (((gI l c.y.toNat).toNat).testBit c.x.toNat)))))) (AllSteps.nil))))))))))))))))))))) (by kernel_rfl) (by kernel_rfl) (by kernel_rfl) ?_
    refine wp_ret' ?_
    exact VRes.tmp 4 (.a (.val (.bool (((gI l c.y.toNat).toNat).testBit c.x.toNat)))) _ (by kernel_rfl) (bval (congrArg Value.bool (by (simp_all [hasR]; done))))
  · skip
    have c1P := of_decide_eq_false c1
    refine wp_drawn' (by kernel_rfl) (AllSteps.cons (step_plain rfl (acts_field (d := 5) (t := 3) (h := 3) (off := 0) (off' := 1) (ltN rfl) qC1_fo_39_1 rfl)) (AllSteps.cons (step_plain rfl (acts_load_own (d := 6) (t := 5) (h := 3) (off := 1) (o := ⟨39, 2, true, [(.val (.int .i64 c.x) : A), .val (.int .i64 c.y)]⟩)  (x := .val (.int .i64 c.y)) (ltN rfl) qC1_ti_3 rfl)) (AllSteps.cons (step_plain rfl (acts_field (d := 7) (t := 2) (h := 2) (off := 0) (off' := 0) (ltN rfl) qC1_fo_30_0 rfl)) (AllSteps.cons (step_plain rfl (acts_load_own (d := 8) (t := 7) (h := 2) (off := 0) (o := ⟨30, 1, true, [(.slv l.length 1 (isl l) : A)]⟩)  (x := .slv l.length 1 (isl l)) (ltN rfl) qC1_ti_22 rfl)) (AllSteps.cons (step_plain rfl (acts_len (d := 9) (X := .slv l.length 1 (isl l)) (n := l.length) (iv := ((l.length : Nat) : Int)) (ltN rfl) qC1_un_22 (OpX.tmp 8 (V.b (.a (.slv l.length 1 (isl l))))) (LenOf.slv _ _ _) rfl)) (AllSteps.cons (step_plain rfl (acts_bin (d := 10) (ltN rfl) (OpV.tmp 6 (.int .i64 c.y)) (OpV.tmp 9 (.int .i64 ((l.length : Nat) : Int))) (r_lss (c := false) c1))) (AllSteps.cons (step_plain rfl (acts_move (d := 11) (ltN rfl) (OpX.tmp 10 (V.v (.bool false))))) (AllSteps.cons (step_off (dj := 11) (b' := false) rfl rfl (by decide) rfl (ltN rfl)) (AllSteps.cons (step_off (dj := 11) (b' := false) rfl rfl (by decide) rfl (ltN rfl)) (AllSteps.cons (step_off (dj := 11) (b' := false) rfl rfl (by decide) rfl (ltN rfl)) (AllSteps.cons (step_off (dj := 11) (b' := false) rfl rfl (by decide) rfl (ltN rfl)) (AllSteps.cons (step_off (dj := 11) (b' := false) rfl rfl (by decide) rfl (ltN rfl)) (AllSteps.cons (step_off (dj := 11) (b' := false) rfl rfl (by decide) rfl (ltN rfl)) (AllSteps.cons (step_off (dj := 11) (b' := false) rfl rfl (by decide) rfl (ltN rfl)) (AllSteps.cons (step_off (dj := 11) (b' := false) rfl rfl (by decide) rfl (ltN rfl)) (AllSteps.cons (step_off (dj := 11) (b' := false) rfl rfl (by decide) rfl (ltN rfl)) (AllSteps.cons (step_off (dj := 11) (b' := false) rfl rfl (by decide) rfl (ltN rfl)) (AllSteps.cons (step_off (dj := 11) (b' := false) rfl rfl (by decide) rfl (ltN rfl)) (AllSteps.cons (step_plain rfl (acts_pick_f (d := 23) (ltN rfl) (OpV.tmp 11 (.bool false)) (OpX.const (.bool false)))) (AllSteps.cons (step_plain rfl (acts_assign (d := 4) (ltN rfl) (OpX.tmp 23 (V.v (.bool false))))) (AllSteps.nil))))))))))))))))))))) (by kernel_rfl) (by kernel_rfl) (by kernel_rfl) ?_
    refine wp_ret' ?_
    exact VRes.tmp 4 (.a (.val (.bool false))) _ (by kernel_rfl) (bval (congrArg Value.bool (by (unfold hasR; simp_all; (try intros); omega))))

set_option maxHeartbeats 4000000 in
set_option maxRecDepth 100000 in
theorem spec_HasCell_fn (l : List Int) (c : Cel) (hl : l.length ≤ 4194304) : Fn Try.prog 73 [.agg [(.slv l.length 1 (isl l) : A)], .agg ([(.int .i64 c.x : Value), .int .i64 c.y].map A.val)] [.val (.bool (hasC l c))] := by
  refine fn_intro (N := 16) Try.func73 rfl (by kernel_rfl) rfl (Nat.le_of_ble_eq_true rfl) [2, 3, 6, 9, 14] (ret1 rfl) (fun W => ?_)
  show Wp _ _ _ [(.s 0, some (.s (V.b (.agg [(.slv l.length 1 (isl l) : A)])))), (.s 1, some (.s (V.av [(.int .i64 c.x : Value), .int .i64 c.y]))), (.o 2, some .free), (.o 3, some .free), (.o 6, some .free), (.o 9, some .free), (.o 14, some .free)]
  refine wp_seq' ?_
  refine wp_region_t ?_
  refine wpc (step_plain rfl (acts_box (d := 2) (h := 2) (b := .agg [(.slv l.length 1 (isl l) : A)]) (ltN rfl) (OpX.tmp 0 (V.b (.agg [(.slv l.length 1 (isl l) : A)]))) (by intro y hy; simp [B.cs] at hy; subst hy; rfl))) (by kernel_rfl) ?_
  refine wpc (step_plain rfl (acts_box (d := 3) (h := 3) (b := .agg ([(.int .i64 c.x : Value), .int .i64 c.y].map A.val)) (ltN rfl) (OpX.tmp 1 (V.av [(.int .i64 c.x : Value), .int .i64 c.y])) (by intro y hy; simp [B.cs] at hy; rcases hy with rfl | rfl <;> rfl))) (by kernel_rfl) ?_
  refine wpc (step_plain rfl (acts_assign (d := 4) (ltN rfl) (OpX.const (.bool false)))) (by kernel_rfl) ?_
  refine wpl_nil ?_
  refine wp_seq' ?_
  rcases Bool.eq_false_or_eq_true ((regOk l)) with c1 | c1
  · skip
    rcases Bool.eq_false_or_eq_true ((okc c.x c.y)) with c2 | c2
    · skip
      have c2Q := okc_true.1 c2
      refine wp_region_t ?_
      refine wpc (step_plain rfl (acts_load_owns (d := 5) (t := 2) (h := 2) (off := 0) (o := ⟨30, 1, true, [(.slv l.length 1 (isl l) : A)]⟩)  (xs := [(.slv l.length 1 (isl l) : A)]) (ltN rfl) qC1_ti_30 rfl (by decide) rfl)) (by kernel_rfl) ?_
      refine wpc (step_plain rfl (acts_call1 (d := 6) (ltN rfl) (spec_RegionOk_fn l (by omega)) (ArgVs.cons (ArgV.regv 5 l.length 1 (isl l)) (ArgVs.nil)) ((resval (congrArg Value.bool c1))))) (by kernel_rfl) ?_
      refine wpc (step_plain rfl (acts_move (d := 7) (ltN rfl) (OpX.tmp 6 (V.v (.bool true))))) (by kernel_rfl) ?_
      refine wpc (step_on (dj := 7) rfl rfl (acts_load_owns (d := 8) (t := 3) (h := 3) (off := 0) (o := ⟨39, 2, true, [(.val (.int .i64 c.x) : A), .val (.int .i64 c.y)]⟩)  (xs := [(.int .i64 c.x : Value), .int .i64 c.y].map A.val) (ltN rfl) qC1_ti_39 rfl (by decide) rfl)) (by kernel_rfl) ?_
      refine wpc (step_on (dj := 7) rfl rfl (acts_call1 (d := 9) (ltN rfl) (spec_CellOk_fn c ) (ArgVs.cons (ArgV.va (vs := [(.int .i64 c.x : Value), .int .i64 c.y]) (OpV.agg 8 [(.int .i64 c.x : Value), .int .i64 c.y])) (ArgVs.nil)) ((resval (congrArg Value.bool c2))))) (by kernel_rfl) ?_
      refine wpc (step_plain rfl (acts_pick_t (d := 10) (ltN rfl) (OpV.tmp 7 (.bool true)) (OpX.tmp 9 (V.v (.bool true))))) (by kernel_rfl) ?_
      refine wpc (step_plain rfl (acts_move (d := 11) (ltN rfl) (OpX.tmp 10 (V.v (.bool true))))) (by kernel_rfl) ?_
      refine wpc (step_on (dj := 11) rfl rfl (acts_load_owns (d := 12) (t := 2) (h := 2) (off := 0) (o := ⟨30, 1, true, [(.slv l.length 1 (isl l) : A)]⟩)  (xs := [(.slv l.length 1 (isl l) : A)]) (ltN rfl) qC1_ti_30 rfl (by decide) rfl)) (by kernel_rfl) ?_
      refine wpc (step_on (dj := 11) rfl rfl (acts_load_owns (d := 13) (t := 3) (h := 3) (off := 0) (o := ⟨39, 2, true, [(.val (.int .i64 c.x) : A), .val (.int .i64 c.y)]⟩)  (xs := [(.int .i64 c.x : Value), .int .i64 c.y].map A.val) (ltN rfl) qC1_ti_39 rfl (by decide) rfl)) (by kernel_rfl) ?_
      refine wpc (step_on (dj := 11) rfl rfl (acts_call1 (d := 14) (ltN rfl) (spec_l03Has_fn l c (by omega) (by omega)) (ArgVs.cons (ArgV.regv 12 l.length 1 (isl l)) (ArgVs.cons (ArgV.va (vs := [(.int .i64 c.x : Value), .int .i64 c.y]) (OpV.agg 13 [(.int .i64 c.x : Value), .int .i64 c.y])) (ArgVs.nil))) (ResV.val _))) (by kernel_rfl) ?_
      refine wpc (step_plain rfl (acts_pick_t (d := 15) (ltN rfl) (OpV.tmp 11 (.bool true)) (OpX.tmp 14 (V.v (.bool (hasR l c)))))) (by kernel_rfl) ?_
      refine wpc (step_plain rfl (acts_assign (d := 4) (ltN rfl) (OpX.tmp 15 (V.v (.bool (hasR l c)))))) (by kernel_rfl) ?_
      refine wpl_nil ?_
      refine wp_ret' ?_
      exact VRes.tmp 4 (.a (.val (.bool (hasR l c)))) _ (by kernel_rfl) (bval (congrArg Value.bool (by exact hasC_spec (by assumption) (by assumption))))
    · skip
      have c2Q := okc_false.1 c2
      refine wp_region_t ?_
      refine wpc (step_plain rfl (acts_load_owns (d := 5) (t := 2) (h := 2) (off := 0) (o := ⟨30, 1, true, [(.slv l.length 1 (isl l) : A)]⟩)  (xs := [(.slv l.length 1 (isl l) : A)]) (ltN rfl) qC1_ti_30 rfl (by decide) rfl)) (by kernel_rfl) ?_
      refine wpc (step_plain rfl (acts_call1 (d := 6) (ltN rfl) (spec_RegionOk_fn l (by omega)) (ArgVs.cons (ArgV.regv 5 l.length 1 (isl l)) (ArgVs.nil)) ((resval (congrArg Value.bool c1))))) (by kernel_rfl) ?_
      refine wpc (step_plain rfl (acts_move (d := 7) (ltN rfl) (OpX.tmp 6 (V.v (.bool true))))) (by kernel_rfl) ?_
      refine wpc (step_on (dj := 7) rfl rfl (acts_load_owns (d := 8) (t := 3) (h := 3) (off := 0) (o := ⟨39, 2, true, [(.val (.int .i64 c.x) : A), .val (.int .i64 c.y)]⟩)  (xs := [(.int .i64 c.x : Value), .int .i64 c.y].map A.val) (ltN rfl) qC1_ti_39 rfl (by decide) rfl)) (by kernel_rfl) ?_
      refine wpc (step_on (dj := 7) rfl rfl (acts_call1 (d := 9) (ltN rfl) (spec_CellOk_fn c ) (ArgVs.cons (ArgV.va (vs := [(.int .i64 c.x : Value), .int .i64 c.y]) (OpV.agg 8 [(.int .i64 c.x : Value), .int .i64 c.y])) (ArgVs.nil)) ((resval (congrArg Value.bool c2))))) (by kernel_rfl) ?_
      refine wpc (step_plain rfl (acts_pick_t (d := 10) (ltN rfl) (OpV.tmp 7 (.bool true)) (OpX.tmp 9 (V.v (.bool false))))) (by kernel_rfl) ?_
      refine wpc (step_plain rfl (acts_move (d := 11) (ltN rfl) (OpX.tmp 10 (V.v (.bool false))))) (by kernel_rfl) ?_
      refine wpc (step_off (dj := 11) (b' := false) rfl rfl (by decide) rfl (ltN rfl)) (by kernel_rfl) ?_
      refine wpc (step_off (dj := 11) (b' := false) rfl rfl (by decide) rfl (ltN rfl)) (by kernel_rfl) ?_
      refine wpc (step_off (dj := 11) (b' := false) rfl rfl (by decide) rfl (ltN rfl)) (by kernel_rfl) ?_
      refine wpc (step_plain rfl (acts_pick_f (d := 15) (ltN rfl) (OpV.tmp 11 (.bool false)) (OpX.const (.bool false)))) (by kernel_rfl) ?_
      refine wpc (step_plain rfl (acts_assign (d := 4) (ltN rfl) (OpX.tmp 15 (V.v (.bool false))))) (by kernel_rfl) ?_
      refine wpl_nil ?_
      refine wp_ret' ?_
      exact VRes.tmp 4 (.a (.val (.bool false))) _ (by kernel_rfl) (bval (congrArg Value.bool (by (simp_all [hasC]; done))))
  · skip
    refine wp_region_t ?_
    refine wpc (step_plain rfl (acts_load_owns (d := 5) (t := 2) (h := 2) (off := 0) (o := ⟨30, 1, true, [(.slv l.length 1 (isl l) : A)]⟩)  (xs := [(.slv l.length 1 (isl l) : A)]) (ltN rfl) qC1_ti_30 rfl (by decide) rfl)) (by kernel_rfl) ?_
    refine wpc (step_plain rfl (acts_call1 (d := 6) (ltN rfl) (spec_RegionOk_fn l (by omega)) (ArgVs.cons (ArgV.regv 5 l.length 1 (isl l)) (ArgVs.nil)) ((resval (congrArg Value.bool c1))))) (by kernel_rfl) ?_
    refine wpc (step_plain rfl (acts_move (d := 7) (ltN rfl) (OpX.tmp 6 (V.v (.bool false))))) (by kernel_rfl) ?_
    refine wpc (step_off (dj := 7) (b' := false) rfl rfl (by decide) rfl (ltN rfl)) (by kernel_rfl) ?_
    refine wpc (step_off (dj := 7) (b' := false) rfl rfl (by decide) rfl (ltN rfl)) (by kernel_rfl) ?_
    refine wpc (step_plain rfl (acts_pick_f (d := 10) (ltN rfl) (OpV.tmp 7 (.bool false)) (OpX.const (.bool false)))) (by kernel_rfl) ?_
    refine wpc (step_plain rfl (acts_move (d := 11) (ltN rfl) (OpX.tmp 10 (V.v (.bool false))))) (by kernel_rfl) ?_
    refine wpc (step_off (dj := 11) (b' := false) rfl rfl (by decide) rfl (ltN rfl)) (by kernel_rfl) ?_
    refine wpc (step_off (dj := 11) (b' := false) rfl rfl (by decide) rfl (ltN rfl)) (by kernel_rfl) ?_
    refine wpc (step_off (dj := 11) (b' := false) rfl rfl (by decide) rfl (ltN rfl)) (by kernel_rfl) ?_
    refine wpc (step_plain rfl (acts_pick_f (d := 15) (ltN rfl) (OpV.tmp 11 (.bool false)) (OpX.const (.bool false)))) (by kernel_rfl) ?_
    refine wpc (step_plain rfl (acts_assign (d := 4) (ltN rfl) (OpX.tmp 15 (V.v (.bool false))))) (by kernel_rfl) ?_
    refine wpl_nil ?_
    refine wp_ret' ?_
    exact VRes.tmp 4 (.a (.val (.bool false))) _ (by kernel_rfl) (bval (congrArg Value.bool (by (simp_all [hasC]; done))))

set_option maxHeartbeats 4000000 in
set_option maxRecDepth 100000 in
theorem spec_CellsOf_fn (l : List Int) (hl : l.length ≤ 4194304) : Fn Try.prog 53 [.agg [(.slv l.length 1 (isl l) : A)]] [.row 39 2 (cellsOf l).length (csl (cellsOf l))] := by
  refine fn_intro (N := 29) Try.func53 rfl (by kernel_rfl) rfl (Nat.le_of_ble_eq_true rfl) [1, 5, 7, 12, 18, 23, 26, 27] (ret1 rfl) (fun W => ?_)
  show Wp _ _ _ [(.s 0, some (.s (V.b (.agg [(.slv l.length 1 (isl l) : A)])))), (.o 1, some .free), (.o 5, some .free), (.o 7, some .free), (.o 12, some .free), (.o 18, some .free), (.o 23, some .free), (.o 26, some .free), (.o 27, some .free)]
  refine wp_seq' ?_
  refine wp_region_t ?_
  refine wpc (step_plain rfl (acts_box (d := 1) (h := 1) (b := .agg [(.slv l.length 1 (isl l) : A)]) (ltN rfl) (OpX.tmp 0 (V.b (.agg [(.slv l.length 1 (isl l) : A)]))) (by intro y hy; simp [B.cs] at hy; subst hy; rfl))) (by kernel_rfl) ?_
  refine wpc (step_plain rfl (acts_assign (d := 2) (ltN rfl) (OpX.const (.slice none 0 0)))) (by kernel_rfl) ?_
  refine wpl_nil ?_
  refine wp_seq' ?_
  refine wp_region_t ?_
  refine wpc (step_plain rfl (acts_buildSlice0' (d := 7) (h := 7) (s := 2) (ltN rfl) qC1_un_71 qC1_zi_39)) (by kernel_rfl) ?_
  refine wpc (step_plain rfl (acts_assign (d := 3) (ltN rfl) (OpX.tmp 7 (V.b (.a (.sl 7 0 0)))))) (by kernel_rfl) ?_
  refine wpl_nil ?_
  refine wp_seq' ?_
  refine wp_seq' ?_
  refine wp_region_t ?_
  refine wpc (step_plain rfl (acts_assign (d := 4) (ltN rfl) (OpX.const (.int .i64 0)))) (by kernel_rfl) ?_
  refine wpl_nil ?_
  refine wp_block' ?_
  refine wp_loop' (fun (k : Nat) => k ≤ 64 ∧ (k = 0 ∨ regOk l = true)) (fun (k : Nat) => [(.s 1, some (.s (V.p 1 0))), (.s 3, some (.s (V.b (.a (.sl 7 0 ((((List.range k).filter (fun i => hasR l (cN i))).map cN).length)))))), (.s 4, some (.s (V.v (.int .i64 ((k : Nat) : Int))))), (.o 1, some (.o ⟨30, 1, true, [(.slv l.length 1 (isl l) : A)]⟩)), (.o 7, some (.o ⟨39, 2, true, pl (csl (((List.range k).filter (fun i => hasR l (cN i))).map cN))⟩)), (.o 5, some .free), (.o 12, some .free), (.o 18, some .free), (.o 23, some .free), (.o 26, some .free), (.o 27, some .free)]) (fun (k : Nat) => 64 - k) ((0 : Nat)) (by exact ⟨by omega, .inl rfl⟩) (weak_of id [5, 12, 18, 23, 26, 27] (by kernel_rfl) (wk_s (v' := V.p 1 0) (by kernel_rfl) rfl rfl (wk_s (v' := V.b (.a (.sl 7 0 0))) (by kernel_rfl) (vsl (by rfl) rfl) rfl (wk_s (v' := V.v (.int .i64 0)) (by kernel_rfl) (vint (by rfl)) rfl (wk_o (o' := ⟨30, 1, true, [(.slv l.length 1 (isl l) : A)]⟩) (by kernel_rfl) (renob_l (fun h => h) rfl rfl) rfl (wk_o (o' := ⟨39, 2, true, pl (csl [])⟩) (by kernel_rfl) (renob_eq (fun h => h) (congrArg csl (by rfl))) rfl (wk_f rfl (wk_f rfl (wk_f rfl (wk_f rfl (wk_f rfl (wk_f rfl (wk_nil))))))))))))) ?_
  rintro k inv1
  replace inv1 : k ≤ 64 ∧ (k = 0 ∨ regOk l = true) := inv1
  obtain ⟨inv1_0, inv1_1⟩ := inv1
  show Wp _ _ _ [(.s 1, some (.s (V.p 1 0))), (.s 3, some (.s (V.b (.a (.sl 7 0 ((((List.range k).filter (fun i => hasR l (cN i))).map cN).length)))))), (.s 4, some (.s (V.v (.int .i64 ((k : Nat) : Int))))), (.o 1, some (.o ⟨30, 1, true, [(.slv l.length 1 (isl l) : A)]⟩)), (.o 7, some (.o ⟨39, 2, true, pl (csl (((List.range k).filter (fun i => hasR l (cN i))).map cN))⟩)), (.o 5, some .free), (.o 12, some .free), (.o 18, some .free), (.o 23, some .free), (.o 26, some .free), (.o 27, some .free)]
  have hfl := range_len (fun i => hasR l (cN i)) k
  refine wp_seq' ?_
  refine wp_seq' ?_
  rcases Bool.eq_false_or_eq_true (decide (((k : Nat) : Int) < 64)) with c2 | c2
  · skip
    have c2P := of_decide_eq_true c2
    refine wp_region_t ?_
    refine wpc (step_plain rfl (acts_move (d := 8) (ltN rfl) (OpX.tmp 4 (V.v (.int .i64 ((k : Nat) : Int)))))) (by kernel_rfl) ?_
    refine wpc (step_plain rfl (acts_bin (d := 9) (ltN rfl) (OpV.tmp 8 (.int .i64 ((k : Nat) : Int))) (OpV.const (.int .i64 64)) (r_lss (c := true) c2))) (by kernel_rfl) ?_
    refine wpc (step_plain rfl (acts_move (d := 10) (ltN rfl) (OpX.tmp 9 (V.v (.bool true))))) (by kernel_rfl) ?_
    refine wpc (step_on (dj := 10) rfl rfl (acts_load_owns (d := 11) (t := 1) (h := 1) (off := 0) (o := ⟨30, 1, true, [(.slv l.length 1 (isl l) : A)]⟩)  (xs := [(.slv l.length 1 (isl l) : A)]) (ltN rfl) qC1_ti_30 rfl (by decide) rfl)) (by kernel_rfl) ?_
    refine wpc (step_on (dj := 10) rfl rfl (acts_call1 (d := 12) (ltN rfl) (spec_RegionOk_fn l (by omega)) (ArgVs.cons (ArgV.regv 11 l.length 1 (isl l)) (ArgVs.nil)) (ResV.val _))) (by kernel_rfl) ?_
    refine wpc (step_plain rfl (acts_pick_t (d := 13) (ltN rfl) (OpV.tmp 10 (.bool true)) (OpX.tmp 12 (V.v (.bool (regOk l)))))) (by kernel_rfl) ?_
    refine wpl_nil ?_
    refine wp_if (t := 13) ((regOk l)) (by kernel_rfl) (fun c3 => ?_) (fun c3 => ?_)
    · skip
      refine wp_skip' ?_
      refine wp_seq' ?_
      refine wp_block' ?_
      refine wp_seq' ?_
      refine wp_region_t ?_
      refine wpc (step_plain rfl (acts_move (d := 17) (ltN rfl) (OpX.tmp 4 (V.v (.int .i64 ((k : Nat) : Int)))))) (by kernel_rfl) ?_
      refine wpc (step_plain rfl (acts_call2 (d := 18) (ltN rfl) (spec_CellAt_fn k (by omega)) (ArgVs.cons (ArgV.v (OpV.tmp 17 (.int .i64 ((k : Nat) : Int)))) (ArgVs.nil)) (ResV.agg [(.int .i64 ((cN k).x) : Value), .int .i64 ((cN k).y)]) (ResV.val _))) (by kernel_rfl) ?_
      refine wpc (step_plain rfl (acts_move (d := 16) (ltN rfl) (OpX.tmp 18 (V.tup [.agg ([(.int .i64 ((cN k).x) : Value), .int .i64 ((cN k).y)].map A.val), .a (.val (.bool true))])))) (by kernel_rfl) ?_
      refine wpc (step_plain rfl (acts_extract (d := 19) (t := 16) (ix := 0) (xs := [.agg ([(.int .i64 ((cN k).x) : Value), .int .i64 ((cN k).y)].map A.val), .a (.val (.bool true))]) (X := .agg ([(.int .i64 ((cN k).x) : Value), .int .i64 ((cN k).y)].map A.val)) (ltN rfl) rfl)) (by kernel_rfl) ?_
      refine wpc (step_plain rfl (acts_extract (d := 20) (t := 16) (ix := 1) (xs := [.agg ([(.int .i64 ((cN k).x) : Value), .int .i64 ((cN k).y)].map A.val), .a (.val (.bool true))]) (X := .a (.val (.bool true))) (ltN rfl) rfl)) (by kernel_rfl) ?_
      refine wpc (step_plain rfl (acts_alloc' (d := 5) (h := 5) (cap := 1) (s := 2) (cells := [(.val (.int .i64 0) : A), .val (.int .i64 0)]) (ltN rfl) qC1_zi_39 rfl rfl (by decide))) (by kernel_rfl) ?_
      refine wpc (step_plain rfl (acts_store (t := 5) (h := 5) (off := 0) (o := ⟨39, 2, true, [(.val (.int .i64 0) : A), .val (.int .i64 0)]⟩) (b := .agg ([(.int .i64 ((cN k).x) : Value), .int .i64 ((cN k).y)].map A.val)) (cells := [(.val (.int .i64 ((cN k).x)) : A), .val (.int .i64 ((cN k).y))]) qC1_ti_39 (OpX.tmp 19 (V.av [(.int .i64 ((cN k).x) : Value), .int .i64 ((cN k).y)])) rfl (by decide) (by intro y hy; simp [B.cs] at hy; rcases hy with rfl | rfl <;> rfl) (Nat.le_of_ble_eq_true rfl) rfl)) (by kernel_rfl) ?_
      refine wpc (step_plain rfl (acts_assign (d := 6) (ltN rfl) (OpX.tmp 20 (V.v (.bool true))))) (by kernel_rfl) ?_
      refine wpl_nil ?_
      refine wp_seq' ?_
      refine wp_region_t ?_
      refine wpc (step_plain rfl (acts_load_owns (d := 21) (t := 1) (h := 1) (off := 0) (o := ⟨30, 1, true, [(.slv l.length 1 (isl l) : A)]⟩)  (xs := [(.slv l.length 1 (isl l) : A)]) (ltN rfl) qC1_ti_30 rfl (by decide) rfl)) (by kernel_rfl) ?_
      refine wpc (step_plain rfl (acts_load_owns (d := 22) (t := 5) (h := 5) (off := 0) (o := ⟨39, 2, true, [(.val (.int .i64 ((cN k).x)) : A), .val (.int .i64 ((cN k).y))]⟩)  (xs := [(.int .i64 ((cN k).x) : Value), .int .i64 ((cN k).y)].map A.val) (ltN rfl) qC1_ti_39 rfl (by decide) rfl)) (by kernel_rfl) ?_
      refine wpc (step_plain rfl (acts_call1 (d := 23) (ltN rfl) (spec_l03Has_fn l (cN k) (by omega) (by exact cN_ok (by omega))) (ArgVs.cons (ArgV.regv 21 l.length 1 (isl l)) (ArgVs.cons (ArgV.va (vs := [(.int .i64 ((cN k).x) : Value), .int .i64 ((cN k).y)]) (OpV.agg 22 [(.int .i64 ((cN k).x) : Value), .int .i64 ((cN k).y)])) (ArgVs.nil))) (ResV.val _))) (by kernel_rfl) ?_
      refine wpl_nil ?_
      refine wp_if (t := 23) ((hasR l (cN k))) (by kernel_rfl) (fun c4 => ?_) (fun c4 => ?_)
      · skip
        refine wp_region_t ?_
        refine wpc (step_plain rfl (acts_move (d := 24) (ltN rfl) (OpX.tmp 3 (V.b (.a (.sl 7 0 ((((List.range k).filter (fun i => hasR l (cN i))).map cN).length))))))) (by kernel_rfl) ?_
        refine wpc (step_plain rfl (acts_load_owns (d := 25) (t := 5) (h := 5) (off := 0) (o := ⟨39, 2, true, [(.val (.int .i64 ((cN k).x)) : A), .val (.int .i64 ((cN k).y))]⟩)  (xs := [(.int .i64 ((cN k).x) : Value), .int .i64 ((cN k).y)].map A.val) (ltN rfl) qC1_ti_39 rfl (by decide) rfl)) (by kernel_rfl) ?_
        refine wpc (step_plain rfl (acts_buildSlice' (d := 26) (h := 26) (n := 1) (s := 2) (xs := csl ([(cN k)] : List Cel)) (ltN rfl) qC1_un_71 qC1_zi_39 (OpVs.cons (i := 0) (OpV.agg 25 [(.int .i64 ((cN k).x) : Value), .int .i64 ((cN k).y)]) (OpVs.nil)) (by decide) (by decide) (by kernel_rfl) rfl)) (by kernel_rfl) ?_
        refine wpc (step_plain rfl (acts_app (d := 27) (x := 24) (h := 7) (h2 := 27) (n := ((((List.range k).filter (fun i => hasR l (cN i))).map cN).length)) (m := 1) (nm := (((((List.range k).filter (fun i => hasR l (cN i))).map cN) ++ [(cN k)]).length)) (X := .sl 26 0 1) (xs := csl (((List.range k).filter (fun i => hasR l (cN i))).map cN)) (ys := csl [(cN k)]) (zs := csl ((((List.range k).filter (fun i => hasR l (cN i))).map cN) ++ [(cN k)])) (ltN rfl) qC1_un_71 qC1_zi_39 rfl (by decide) (by decide) (by exact csl_len _) (OpX.tmp 26 (V.b (.a (.sl 26 0 1)))) (src_own (h := 26) (T := 39) (s := 2) (ex := true) (n := 1) (by exact csl_len _)) (csl_one' _) (by omega) (by exact (csl_append _ _).symm) (by (simp; done)))) (by kernel_rfl) ?_
        refine wpc (step_plain rfl (acts_assign (d := 3) (ltN rfl) (OpX.tmp 27 (V.b (.a (.sl 27 0 (((((List.range k).filter (fun i => hasR l (cN i))).map cN) ++ [(cN k)]).length))))))) (by kernel_rfl) ?_
        refine wpl_nil ?_
        refine wp_region_t ?_
        refine wpc (step_plain rfl (acts_move (d := 14) (ltN rfl) (OpX.tmp 4 (V.v (.int .i64 ((k : Nat) : Int)))))) (by kernel_rfl) ?_
        refine wpc (step_plain rfl (acts_bin (d := 15) (ltN rfl) (OpV.tmp 14 (.int .i64 ((k : Nat) : Int))) (OpV.const (.int .i64 1)) (r_add (c := (((k : Nat) : Int) + 1)) (w64 (by omega) (by omega))))) (by kernel_rfl) ?_
        refine wpc (step_plain rfl (acts_assign (d := 4) (ltN rfl) (OpX.tmp 15 (V.v (.int .i64 (((k : Nat) : Int) + 1)))))) (by kernel_rfl) ?_
        refine wpl_nil ?_
        exact loop_back ((k + 1)) (by exact ⟨by omega, .inr (by assumption)⟩) (by show 64 - (k + 1) < 64 - k; omega) (weak_of (subst1 [(7, 27)]) [5, 12, 18, 23, 26, 27] (by kernel_rfl) (wk_s (v' := V.p 1 0) (by kernel_rfl) rfl rfl (wk_s (v' := V.b (.a (.sl 27 0 (((((List.range k).filter (fun i => hasR l (cN i))).map cN) ++ [(cN k)]).length)))) (by kernel_rfl) (vsl (by (exact congrArg List.length (by first | rfl | exact range_yes (p := fun i => hasR l (cN i)) (by assumption) | exact range_no (p := fun i => hasR l (cN i)) (by assumption) | omega))) rfl) rfl (wk_s (v' := V.v (.int .i64 (((k : Nat) : Int) + 1))) (by kernel_rfl) (vint (by rfl)) rfl (wk_o (o' := ⟨30, 1, true, [(.slv l.length 1 (isl l) : A)]⟩) (by kernel_rfl) (renob_l (fun h => h) rfl rfl) rfl (wk_o (o' := ⟨39, 2, true, pl (csl ((((List.range k).filter (fun i => hasR l (cN i))).map cN) ++ [(cN k)]))⟩) (by kernel_rfl) (renob_eq (fun h => h) (congrArg csl (by exact range_yes (p := fun i => hasR l (cN i)) (by assumption)))) rfl (wk_f rfl (wk_f rfl (wk_f rfl (wk_f rfl (wk_f rfl (wk_f rfl (wk_nil)))))))))))))
      · skip
        refine wp_skip' ?_
        refine wp_region_t ?_
        refine wpc (step_plain rfl (acts_move (d := 14) (ltN rfl) (OpX.tmp 4 (V.v (.int .i64 ((k : Nat) : Int)))))) (by kernel_rfl) ?_
        refine wpc (step_plain rfl (acts_bin (d := 15) (ltN rfl) (OpV.tmp 14 (.int .i64 ((k : Nat) : Int))) (OpV.const (.int .i64 1)) (r_add (c := (((k : Nat) : Int) + 1)) (w64 (by omega) (by omega))))) (by kernel_rfl) ?_
        refine wpc (step_plain rfl (acts_assign (d := 4) (ltN rfl) (OpX.tmp 15 (V.v (.int .i64 (((k : Nat) : Int) + 1)))))) (by kernel_rfl) ?_
        refine wpl_nil ?_
        exact loop_back ((k + 1)) (by exact ⟨by omega, .inr (by assumption)⟩) (by show 64 - (k + 1) < 64 - k; omega) (weak_of id [5, 12, 18, 23, 26, 27] (by kernel_rfl) (wk_s (v' := V.p 1 0) (by kernel_rfl) rfl rfl (wk_s (v' := V.b (.a (.sl 7 0 ((((List.range k).filter (fun i => hasR l (cN i))).map cN).length)))) (by kernel_rfl) (vsl (by (exact congrArg List.length (by first | rfl | exact range_yes (p := fun i => hasR l (cN i)) (by assumption) | exact range_no (p := fun i => hasR l (cN i)) (by assumption) | omega))) rfl) rfl (wk_s (v' := V.v (.int .i64 (((k : Nat) : Int) + 1))) (by kernel_rfl) (vint (by rfl)) rfl (wk_o (o' := ⟨30, 1, true, [(.slv l.length 1 (isl l) : A)]⟩) (by kernel_rfl) (renob_l (fun h => h) rfl rfl) rfl (wk_o (o' := ⟨39, 2, true, pl (csl (((List.range k).filter (fun i => hasR l (cN i))).map cN))⟩) (by kernel_rfl) (renob_eq (fun h => h) (congrArg csl (by exact range_no (p := fun i => hasR l (cN i)) (by assumption)))) rfl (wk_f rfl (wk_f rfl (wk_f rfl (wk_f rfl (wk_f rfl (wk_f rfl (wk_nil)))))))))))))
    · skip
      refine wp_exit' ?_
      refine wp_seq' ?_
      refine wp_region_t ?_
      refine wpc (step_plain rfl (acts_move (d := 28) (ltN rfl) (OpX.tmp 3 (V.b (.a (.sl 7 0 ((((List.range k).filter (fun i => hasR l (cN i))).map cN).length))))))) (by kernel_rfl) ?_
      refine wpc (step_plain rfl (acts_assign (d := 2) (ltN rfl) (OpX.tmp 28 (V.b (.a (.sl 7 0 ((((List.range k).filter (fun i => hasR l (cN i))).map cN).length))))))) (by kernel_rfl) ?_
      refine wpl_nil ?_
      refine wp_ret' ?_
      exact VRes.tmp 2 (.a (.sl 7 0 ((((List.range k).filter (fun i => hasR l (cN i))).map cN).length))) _ (by kernel_rfl) (brow_cels (h := 7) (L := (((List.range k).filter (fun i => hasR l (cN i))).map cN)) (by kernel_rfl) (by (have e : k = 0 := by simp_all); subst e; unfold cellsOf; simp_all) (by rfl))
  · skip
    have c2P := of_decide_eq_false c2
    refine wp_region_t ?_
    refine wpc (step_plain rfl (acts_move (d := 8) (ltN rfl) (OpX.tmp 4 (V.v (.int .i64 ((k : Nat) : Int)))))) (by kernel_rfl) ?_
    refine wpc (step_plain rfl (acts_bin (d := 9) (ltN rfl) (OpV.tmp 8 (.int .i64 ((k : Nat) : Int))) (OpV.const (.int .i64 64)) (r_lss (c := false) c2))) (by kernel_rfl) ?_
    refine wpc (step_plain rfl (acts_move (d := 10) (ltN rfl) (OpX.tmp 9 (V.v (.bool false))))) (by kernel_rfl) ?_
    refine wpc (step_off (dj := 10) (b' := false) rfl rfl (by decide) rfl (ltN rfl)) (by kernel_rfl) ?_
    refine wpc (step_off (dj := 10) (b' := false) rfl rfl (by decide) rfl (ltN rfl)) (by kernel_rfl) ?_
    refine wpc (step_plain rfl (acts_pick_f (d := 13) (ltN rfl) (OpV.tmp 10 (.bool false)) (OpX.const (.bool false)))) (by kernel_rfl) ?_
    refine wpl_nil ?_
    refine wp_if_f (t := 13) (by kernel_rfl) ?_
    refine wp_exit' ?_
    refine wp_seq' ?_
    refine wp_region_t ?_
    refine wpc (step_plain rfl (acts_move (d := 28) (ltN rfl) (OpX.tmp 3 (V.b (.a (.sl 7 0 ((((List.range k).filter (fun i => hasR l (cN i))).map cN).length))))))) (by kernel_rfl) ?_
    refine wpc (step_plain rfl (acts_assign (d := 2) (ltN rfl) (OpX.tmp 28 (V.b (.a (.sl 7 0 ((((List.range k).filter (fun i => hasR l (cN i))).map cN).length))))))) (by kernel_rfl) ?_
    refine wpl_nil ?_
    refine wp_ret' ?_
    exact VRes.tmp 2 (.a (.sl 7 0 ((((List.range k).filter (fun i => hasR l (cN i))).map cN).length))) _ (by kernel_rfl) (brow_cels (h := 7) (L := (((List.range k).filter (fun i => hasR l (cN i))).map cN)) (by kernel_rfl) (by (have e : k = 64 := by omega); subst e; exact cellsOf_scan (by simp_all)) (by rfl))

set_option maxHeartbeats 4000000 in
set_option maxRecDepth 100000 in
theorem spec_CountCells_fn (l : List Int) (hl : l.length ≤ 4194304) : Fn Try.prog 52 [.agg [(.slv l.length 1 (isl l) : A)]] [.val (.int .i64 (((cellsOf l).length : Nat) : Int))] := by
  refine fn_intro (N := 6) Try.func52 rfl (by kernel_rfl) rfl (Nat.le_of_ble_eq_true rfl) [1, 4, 5] (ret1 rfl) (fun W => ?_)
  show Wp _ _ _ [(.s 0, some (.s (V.b (.agg [(.slv l.length 1 (isl l) : A)])))), (.o 1, some .free), (.o 4, some .free), (.o 5, some .free)]
  refine wp_seq' ?_
  refine wp_region_t ?_
  refine wpc (step_plain rfl (acts_box (d := 1) (h := 1) (b := .agg [(.slv l.length 1 (isl l) : A)]) (ltN rfl) (OpX.tmp 0 (V.b (.agg [(.slv l.length 1 (isl l) : A)]))) (by intro y hy; simp [B.cs] at hy; subst hy; rfl))) (by kernel_rfl) ?_
  refine wpc (step_plain rfl (acts_assign (d := 2) (ltN rfl) (OpX.const (.int .i64 0)))) (by kernel_rfl) ?_
  refine wpl_nil ?_
  refine wp_seq' ?_
  refine wp_region_t ?_
  refine wpc (step_plain rfl (acts_load_owns (d := 3) (t := 1) (h := 1) (off := 0) (o := ⟨30, 1, true, [(.slv l.length 1 (isl l) : A)]⟩)  (xs := [(.slv l.length 1 (isl l) : A)]) (ltN rfl) qC1_ti_30 rfl (by decide) rfl)) (by kernel_rfl) ?_
  refine wpc (step_plain rfl (acts_call1 (d := 4) (ltN rfl) (spec_CellsOf_fn l (by omega)) (ArgVs.cons (ArgV.regv 3 l.length 1 (isl l)) (ArgVs.nil)) (ResV.row 39 2 ((cellsOf l).length) (csl (cellsOf l)) 4))) (by kernel_rfl) ?_
  refine wpc (step_plain rfl (acts_len (d := 5) (X := .sl 4 0 ((cellsOf l).length)) (n := ((cellsOf l).length)) (iv := (((cellsOf l).length : Nat) : Int)) (ltN rfl) qC1_un_71 (OpX.tmp 4 (V.b (.a (.sl 4 0 ((cellsOf l).length))))) (LenOf.sl _ _ _) rfl)) (by kernel_rfl) ?_
  refine wpc (step_plain rfl (acts_assign (d := 2) (ltN rfl) (OpX.tmp 5 (V.v (.int .i64 (((cellsOf l).length : Nat) : Int)))))) (by kernel_rfl) ?_
  refine wpl_nil ?_
  refine wp_ret' ?_
  exact VRes.tmp 2 (.a (.val (.int .i64 (((cellsOf l).length : Nat) : Int)))) _ (by kernel_rfl) (BRes.val _)
end Cl
end Go.Proofs.Ytabgfoindidigaa
