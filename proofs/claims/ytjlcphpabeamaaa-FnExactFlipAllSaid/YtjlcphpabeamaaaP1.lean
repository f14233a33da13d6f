/- Walks over clean states, printed by wg.py. No statement is proved here. -/
import Derived.Test.YtjlcphpabeamaaaCl12
import Derived.Test.YtjlcphpabeamaaaFlip
import Derived.Test.YtjlcphpabeamaaaSortS
namespace Go.Proofs.Ytjlcphpabeamaaa
namespace Cl
open Go.ChangeShapes Go.WideShapes Go.ChangeAt Go.RowKit

theorem hasB_snoc {l : List Dom} {k : Nat} (h : k < l.length) (x y : Int) (d : Bool) : hasB (l.take (k+1)) x y d = (hasB (l.take k) x y d || dEq x y d (gD l k).x (gD l k).y (gD l k).d) := by
  unfold hasB
  rw [List.take_succ_eq_append_getElem h, gD_eq h, Bool.eq_iff_iff]
  simp only [decide_eq_true_eq, Bool.or_eq_true, List.mem_append, List.mem_singleton]
  rw [show dEq x y d l[k].x l[k].y l[k].d = decide ((⟨x, y, d⟩ : Dom) = l[k]) from dEq_dom ⟨x, y, d⟩ l[k]]
  simp
theorem hasB_of {l : List Dom} {k : Nat} (h : k < l.length) {x y : Int} {d : Bool} (he : dEq x y d (gD l k).x (gD l k).y (gD l k).d = true) : hasB l x y d = true := by
  rw [show dEq x y d (gD l k).x (gD l k).y (gD l k).d = decide ((⟨x, y, d⟩ : Dom) = gD l k) from dEq_dom ⟨x, y, d⟩ (gD l k)] at he
  unfold hasB
  simp only [decide_eq_true_eq] at he ⊢
  rw [he, gD_eq h]; exact List.getElem_mem h

theorem qP1_eg_54 : Try.prog.eqGuardType Try.prog.depth 54 = false := by kernel_rfl
theorem qP1_sz_54 : (Try.prog.info? 54).map (·.size) = some 3 := by kernel_rfl
theorem qP1_ti_54 : TI Try.prog 54 true 3 := ⟨⟨_, Try.underlying54, rfl⟩, by kernel_rfl⟩
theorem qP1_un_27 : Try.prog.underlying 27 = some (.slice 54) := Try.underlying27
theorem qP1_zi_54 : ZI Try.prog 54 (.agg #[.int .i64 0, .int .i64 0, .bool false]) 3 24 := by unfold ZI; kernel_rfl
theorem impl_within_fn (a b c : Int) : Fn Try.prog 37 [.a (.val (.int .i64 a)), .a (.val (.int .i64 b)), .a (.val (.int .i64 c))] [.val (.bool (inB a b c))] := by
  refine ⟨⟨_, Try.func37, by kernel_rfl, by kernel_rfl⟩, fun w args h => ?_⟩
  match args, args_iff.1 h with
  | [u0, u1, u2], ⟨h0, h1, h2, _⟩ =>
    obtain rfl := argB_v h0
    obtain rfl := argB_v h1
    obtain rfl := argB_v h2
    refine Calls.mono (within_c a b c w) ?_
    rintro e w' ⟨rfl, rfl⟩
    exact ⟨_, rfl, rfl, Below.refl _ _⟩

theorem spec_l01In_fn (a b c : Int) : Fn Try.prog 49 [.a (.val (.int .i64 a)), .a (.val (.int .i64 b)), .a (.val (.int .i64 c))] [.val (.bool (inB a b c))] := by
  refine ⟨⟨_, Try.func49, by kernel_rfl, by kernel_rfl⟩, fun w args h => ?_⟩
  match args, args_iff.1 h with
  | [u0, u1, u2], ⟨h0, h1, h2, _⟩ =>
    obtain rfl := argB_v h0
    obtain rfl := argB_v h1
    obtain rfl := argB_v h2
    refine Calls.mono (l01In_c a b c w) ?_
    rintro e w' ⟨rfl, rfl⟩
    exact ⟨_, rfl, rfl, Below.refl _ _⟩

theorem impl_allWithin_fn (l : List Int) (a b : Int) (hl : l.length ≤ 4194304) : Fn Try.prog 51 [.a (.slv l.length 1 (isl l)), .a (.val (.int .i64 a)), .a (.val (.int .i64 b))] [.val (.bool (allIn l a b))] := by
  refine ⟨⟨_, Try.func51, by kernel_rfl, by kernel_rfl⟩, fun w args h => ?_⟩
  match args, args_iff.1 h with
  | [u0, u1, u2], ⟨h0, h1, h2, _⟩ =>
    obtain ⟨A0, c0, rfl, hc0, hr0⟩ := argB_slv h0
    obtain rfl := argB_v h1
    obtain rfl := argB_v h2
    refine Calls.mono (allWithin_c l A0 l.length c0 a b w hr0 hl) ?_
    rintro e w' ⟨rfl, rfl⟩
    exact ⟨_, rfl, rfl, Below.refl _ _⟩

theorem impl_CellOk_fn (c : Cel) : Fn Try.prog 63 [.agg ([(.int .i64 c.x : Value), .int .i64 c.y].map A.val)] [.val (.bool (okc c.x c.y))] := by
  refine ⟨⟨_, Try.func63, by kernel_rfl, by kernel_rfl⟩, fun w args h => ?_⟩
  match args, args_iff.1 h with
  | [u0], ⟨h0, _⟩ =>
    obtain rfl := argB_av h0
    refine Calls.mono (cellOk_impl c.x c.y w) ?_
    rintro e w' ⟨rfl, hb⟩
    exact ⟨_, rfl, rfl, hb⟩

theorem spec_CellOk_fn (c : Cel) : Fn Try.prog 60 [.agg ([(.int .i64 c.x : Value), .int .i64 c.y].map A.val)] [.val (.bool (okc c.x c.y))] := by
  refine ⟨⟨_, Try.func60, by kernel_rfl, by kernel_rfl⟩, fun w args h => ?_⟩
  match args, args_iff.1 h with
  | [u0], ⟨h0, _⟩ =>
    obtain rfl := argB_av h0
    refine Calls.mono (cellOk_spec c.x c.y w) ?_
    rintro e w' ⟨rfl, hb⟩
    exact ⟨_, rfl, rfl, hb⟩

theorem impl_DominoOk_fn (d : Dom) : Fn Try.prog 57 [.agg ([(.int .i64 d.x : Value), .int .i64 d.y, .bool d.d].map A.val)] [.val (.bool (okd d.x d.y d.d))] := by
  refine ⟨⟨_, Try.func57, by kernel_rfl, by kernel_rfl⟩, fun w args h => ?_⟩
  match args, args_iff.1 h with
  | [u0], ⟨h0, _⟩ =>
    obtain rfl := argB_av h0
    refine Calls.mono (dominoOk_impl d.x d.y d.d w) ?_
    rintro e w' ⟨rfl, hb⟩
    exact ⟨_, rfl, rfl, hb⟩

theorem spec_DominoOk_fn (d : Dom) : Fn Try.prog 55 [.agg ([(.int .i64 d.x : Value), .int .i64 d.y, .bool d.d].map A.val)] [.val (.bool (okd d.x d.y d.d))] := by
  refine ⟨⟨_, Try.func55, by kernel_rfl, by kernel_rfl⟩, fun w args h => ?_⟩
  match args, args_iff.1 h with
  | [u0], ⟨h0, _⟩ =>
    obtain rfl := argB_av h0
    refine Calls.mono (dominoOk_spec d.x d.y d.d w) ?_
    rintro e w' ⟨rfl, hb⟩
    exact ⟨_, rfl, rfl, hb⟩

theorem impl_Domino__ends_fn (d : Dom) : Fn Try.prog 62 [.agg ([(.int .i64 d.x : Value), .int .i64 d.y, .bool d.d].map A.val)] [.val (.agg ([.int .i64 (⟨d.x, d.y⟩ : Cel).x, .int .i64 (⟨d.x, d.y⟩ : Cel).y] : List Value).toArray), .val (.agg ([.int .i64 (⟨sx d.x d.d, sy d.y d.d⟩ : Cel).x, .int .i64 (⟨sx d.x d.d, sy d.y d.d⟩ : Cel).y] : List Value).toArray)] := by
  refine ⟨⟨_, Try.func62, by kernel_rfl, by kernel_rfl⟩, fun w args h => ?_⟩
  match args, args_iff.1 h with
  | [u0], ⟨h0, _⟩ =>
    obtain rfl := argB_av h0
    refine Calls.mono (ends_c d.x d.y d.d w) ?_
    rintro e w' ⟨rfl, hb⟩
    exact ⟨_, rfl, resok2 rfl rfl rfl, hb⟩

theorem spec_l05Second_fn (d : Dom) : Fn Try.prog 61 [.agg ([(.int .i64 d.x : Value), .int .i64 d.y, .bool d.d].map A.val)] [.val (.agg ([.int .i64 (⟨sx d.x d.d, sy d.y d.d⟩ : Cel).x, .int .i64 (⟨sx d.x d.d, sy d.y d.d⟩ : Cel).y] : List Value).toArray)] := by
  refine ⟨⟨_, Try.func61, by kernel_rfl, by kernel_rfl⟩, fun w args h => ?_⟩
  match args, args_iff.1 h with
  | [u0], ⟨h0, _⟩ =>
    obtain rfl := argB_av h0
    refine Calls.mono (l05Second_c d.x d.y d.d w) ?_
    rintro e w' ⟨rfl, hb⟩
    exact ⟨_, rfl, rfl, hb⟩

theorem impl_SortDominoes_fn (l : List Dom) (hl : l.length ≤ 4194304) : Fn Try.prog 47 [.a (.slv l.length 3 (dsl l))] [.row 54 3 (sortD l).length (dsl (sortD l))] := by
  refine ⟨⟨_, Try.func47, by kernel_rfl, by kernel_rfl⟩, fun w args h => ?_⟩
  match args, args_iff.1 h with
  | [u0], ⟨h0, _⟩ =>
    obtain ⟨A0, c0, rfl, hc0, hr0⟩ := argB_slv h0
    refine Calls.mono (sortDominoes_impl l A0 l.length c0 w hr0 hl) ?_
    rintro e w' ⟨v, rfl, ho, hb⟩
    exact ⟨_, rfl, ho, hb⟩

theorem spec_SortDominoes_fn (l : List Dom) (hl : l.length ≤ 4194304) : Fn Try.prog 45 [.a (.slv l.length 3 (dsl l))] [.row 54 3 (sortD l).length (dsl (sortD l))] := by
  refine ⟨⟨_, Try.func45, by kernel_rfl, by kernel_rfl⟩, fun w args h => ?_⟩
  match args, args_iff.1 h with
  | [u0], ⟨h0, _⟩ =>
    obtain ⟨A0, c0, rfl, hc0, hr0⟩ := argB_slv h0
    refine Calls.mono (sortDominoes_spec l A0 l.length c0 w hr0 hl) ?_
    rintro e w' ⟨v, rfl, ho, hb⟩
    exact ⟨_, rfl, ho, hb⟩

theorem impl_CanFlip_fn (l : List Dom) (c : Cel) (hl : l.length ≤ 4194304) : Fn Try.prog 13 [.a (.slv l.length 3 (dsl l)), .agg ([(.int .i64 c.x : Value), .int .i64 c.y].map A.val)] [.val (.bool (canB l c.x c.y))] := by
  refine ⟨⟨_, Try.func13, by kernel_rfl, by kernel_rfl⟩, fun w args h => ?_⟩
  match args, args_iff.1 h with
  | [u0, u1], ⟨h0, h1, _⟩ =>
    obtain ⟨A0, c0, rfl, hc0, hr0⟩ := argB_slv h0
    obtain rfl := argB_av h1
    refine Calls.mono (canFlip_impl l A0 l.length c0 c.x c.y w hr0 hl) ?_
    rintro e w' ⟨rfl, hb⟩
    exact ⟨_, rfl, rfl, hb⟩

theorem spec_CanFlip_fn (l : List Dom) (c : Cel) (hl : l.length ≤ 4194304) : Fn Try.prog 10 [.a (.slv l.length 3 (dsl l)), .agg ([(.int .i64 c.x : Value), .int .i64 c.y].map A.val)] [.val (.bool (canB l c.x c.y))] := by
  refine ⟨⟨_, Try.func10, by kernel_rfl, by kernel_rfl⟩, fun w args h => ?_⟩
  match args, args_iff.1 h with
  | [u0, u1], ⟨h0, h1, _⟩ =>
    obtain ⟨A0, c0, rfl, hc0, hr0⟩ := argB_slv h0
    obtain rfl := argB_av h1
    refine Calls.mono (canFlip_spec l A0 l.length c0 c.x c.y w hr0 hl) ?_
    rintro e w' ⟨rfl, hb⟩
    exact ⟨_, rfl, rfl, hb⟩

theorem spec_l11Kind_fn (l : List Dom) (c : Cel) (hl : l.length ≤ 4194304) : Fn Try.prog 35 [.a (.slv l.length 3 (dsl l)), .agg ([(.int .i64 c.x : Value), .int .i64 c.y].map A.val)] [.val (.int .i64 (kindI l c.x c.y))] := by
  refine ⟨⟨_, Try.func35, by kernel_rfl, by kernel_rfl⟩, fun w args h => ?_⟩
  match args, args_iff.1 h with
  | [u0, u1], ⟨h0, h1, _⟩ =>
    obtain ⟨A0, c0, rfl, hc0, hr0⟩ := argB_slv h0
    obtain rfl := argB_av h1
    refine Calls.mono (l11Kind_c l A0 l.length c0 c.x c.y w hr0 hl) ?_
    rintro e w' ⟨rfl, hb⟩
    exact ⟨_, rfl, rfl, hb⟩

set_option maxHeartbeats 4000000 in
set_option maxRecDepth 100000 in
theorem impl_hasDomino_fn (l : List Dom) (d : Dom) (hl : l.length ≤ 4194304) : Fn Try.prog 39 [.a (.slv l.length 3 (dsl l)), .agg ([(.int .i64 d.x : Value), .int .i64 d.y, .bool d.d].map A.val)] [.val (.bool (hasB l d.x d.y d.d))] := by
  refine fn_intro (N := 17) Try.func39 rfl (by kernel_rfl) rfl (Nat.le_of_ble_eq_true rfl) [3, 6, 8] (ret1 rfl) (fun W => ?_)
  show Wp _ _ _ [(.s 0, some (.s (V.b (.a (.slv l.length 3 (dsl l)))))), (.s 1, some (.s (V.av [(.int .i64 d.x : Value), .int .i64 d.y, .bool d.d]))), (.o 3, some .free), (.o 6, some .free), (.o 8, some .free)]
  refine wp_seq' ?_
  refine wp_region_t ?_
  refine wpc (step_plain rfl (acts_box (d := 3) (h := 3) (b := .agg ([(.int .i64 d.x : Value), .int .i64 d.y, .bool d.d].map A.val)) (ltN rfl) (OpX.tmp 1 (V.av [(.int .i64 d.x : Value), .int .i64 d.y, .bool d.d])) (by intro y hy; simp [B.cs] at hy; rcases hy with rfl | rfl | rfl <;> rfl))) (by kernel_rfl) ?_
  refine wpc (step_plain rfl (acts_assign (d := 4) (ltN rfl) (OpX.const (.bool false)))) (by kernel_rfl) ?_
  refine wpl_nil ?_
  refine wp_seq' ?_
  refine wp_seq' ?_
  refine wp_region_t ?_
  refine wpc (step_plain rfl (acts_move (d := 7) (ltN rfl) (OpX.tmp 0 (V.b (.a (.slv l.length 3 (dsl l))))))) (by kernel_rfl) ?_
  refine wpc (step_plain rfl (acts_len (d := 8) (X := .slv l.length 3 (dsl l)) (n := l.length) (iv := ((l.length : Nat) : Int)) (ltN rfl) qP1_un_27 (OpX.tmp 7 (V.b (.a (.slv l.length 3 (dsl l))))) (LenOf.slv _ _ _) rfl)) (by kernel_rfl) ?_
  refine wpc (step_plain rfl (acts_move (d := 9) (ltN rfl) (OpX.const (.int .i64 0)))) (by kernel_rfl) ?_
  refine wpl_nil ?_
  refine wp_block' ?_
  refine wp_loop' (fun (k : Nat) => k ≤ l.length ∧ hasB (l.take k) d.x d.y d.d = false) (fun (k : Nat) => [(.s 3, some (.s (V.p 3 0))), (.s 7, some (.s (V.b (.a (.slv l.length 3 (dsl l)))))), (.s 8, some (.s (V.v (.int .i64 ((l.length : Nat) : Int))))), (.s 9, some (.s (V.v (.int .i64 ((k : Nat) : Int))))), (.o 3, some (.o ⟨54, 3, true, [(.val (.int .i64 d.x) : A), .val (.int .i64 d.y), .val (.bool d.d)]⟩)), (.o 6, some .free), (.o 8, some .free)]) (fun (k : Nat) => l.length - k) ((0 : Nat)) (by exact ⟨Nat.zero_le _, by simp [hasB]⟩) (weak_of id [6, 8] (by kernel_rfl) (wk_s (v' := V.p 3 0) (by kernel_rfl) rfl rfl (wk_s (v' := V.b (.a (.slv l.length 3 (dsl l)))) (by kernel_rfl) rfl rfl (wk_s (v' := V.v (.int .i64 ((l.length : Nat) : Int))) (by kernel_rfl) rfl rfl (wk_s (v' := V.v (.int .i64 0)) (by kernel_rfl) (vint (by first | rfl | omega | (simp; done) | (simp; omega))) rfl (wk_o (o' := ⟨54, 3, true, [(.val (.int .i64 d.x) : A), .val (.int .i64 d.y), .val (.bool d.d)]⟩) (by kernel_rfl) (renob_l (fun h => h) rfl rfl) rfl (wk_f rfl (wk_f rfl (wk_nil))))))))) ?_
  rintro k inv1
  replace inv1 : k ≤ l.length ∧ hasB (l.take k) d.x d.y d.d = false := inv1
  obtain ⟨inv1_0, inv1_1⟩ := inv1
  show Wp _ _ _ [(.s 3, some (.s (V.p 3 0))), (.s 7, some (.s (V.b (.a (.slv l.length 3 (dsl l)))))), (.s 8, some (.s (V.v (.int .i64 ((l.length : Nat) : Int))))), (.s 9, some (.s (V.v (.int .i64 ((k : Nat) : Int))))), (.o 3, some (.o ⟨54, 3, true, [(.val (.int .i64 d.x) : A), .val (.int .i64 d.y), .val (.bool d.d)]⟩)), (.o 6, some .free), (.o 8, some .free)]
  refine wp_seq' ?_
  refine wp_region_t ?_
  refine wpc (step_plain rfl (acts_bin (d := 10) (ltN rfl) (OpV.tmp 9 (.int .i64 ((k : Nat) : Int))) (OpV.tmp 8 (.int .i64 ((l.length : Nat) : Int))) (r_lss (c := (decide (((k : Nat) : Int) < ((l.length : Nat) : Int)))) rfl))) (by kernel_rfl) ?_
  refine wpl_nil ?_
  refine wp_seq' ?_
  refine wp_if (t := 10) (decide (((k : Nat) : Int) < ((l.length : Nat) : Int))) (by kernel_rfl) (fun c2 => ?_) (fun c2 => ?_)
  · skip
    have c2P := of_decide_eq_true c2
    refine wp_skip' ?_
    refine wp_seq' ?_
    refine wp_block' ?_
    refine wp_seq' ?_
    refine wp_region_t ?_
    refine wpc (step_plain rfl (acts_index_v (d := 11) (x := 7) (n := l.length) (s := 3) (k := k) (xs := dsl l) (ltN rfl) qP1_un_27 qP1_sz_54 (OpV.tmp 9 (.int .i64 ((k : Nat) : Int))) (by first | rfl | omega) (by omega))) (by kernel_rfl) ?_
    refine wpc (step_plain rfl (acts_load_vs (d := 12) (t := 11) (s := 3) (off := (k * 3)) (xs := dsl l)  (vs := [(.int .i64 ((gD l k).x) : Value), .int .i64 ((gD l k).y), .bool ((gD l k).d)]) (ltN rfl) qP1_ti_54 rfl (dsl_at (k := k) (by omega)))) (by kernel_rfl) ?_
    refine wpc (step_plain rfl (acts_alloc' (d := 6) (h := 6) (cap := 1) (s := 3) (cells := [(.val (.int .i64 0) : A), .val (.int .i64 0), .val (.bool false)]) (ltN rfl) qP1_zi_54 rfl rfl (by decide))) (by kernel_rfl) ?_
    refine wpc (step_plain rfl (acts_store (t := 6) (h := 6) (off := 0) (o := ⟨54, 3, true, [(.val (.int .i64 0) : A), .val (.int .i64 0), .val (.bool false)]⟩) (b := .agg ([(.int .i64 ((gD l k).x) : Value), .int .i64 ((gD l k).y), .bool ((gD l k).d)].map A.val)) (cells := [(.val (.int .i64 ((gD l k).x)) : A), .val (.int .i64 ((gD l k).y)), .val (.bool ((gD l k).d))]) qP1_ti_54 (OpX.tmp 12 (V.av [(.int .i64 ((gD l k).x) : Value), .int .i64 ((gD l k).y), .bool ((gD l k).d)])) rfl (by decide) (by intro y hy; simp [B.cs] at hy; rcases hy with rfl | rfl | rfl <;> rfl) (Nat.le_of_ble_eq_true rfl) rfl)) (by kernel_rfl) ?_
    refine wpl_nil ?_
    refine wp_seq' ?_
    refine wp_region_t ?_
    refine wpc (step_plain rfl (acts_load_owns (d := 13) (t := 3) (h := 3) (off := 0) (o := ⟨54, 3, true, [(.val (.int .i64 d.x) : A), .val (.int .i64 d.y), .val (.bool d.d)]⟩)  (xs := [(.int .i64 d.x : Value), .int .i64 d.y, .bool d.d].map A.val) (ltN rfl) qP1_ti_54 rfl (by decide) rfl)) (by kernel_rfl) ?_
    refine wpc (step_plain rfl (acts_load_owns (d := 14) (t := 6) (h := 6) (off := 0) (o := ⟨54, 3, true, [(.val (.int .i64 ((gD l k).x)) : A), .val (.int .i64 ((gD l k).y)), .val (.bool ((gD l k).d))]⟩)  (xs := [(.int .i64 ((gD l k).x) : Value), .int .i64 ((gD l k).y), .bool ((gD l k).d)].map A.val) (ltN rfl) qP1_ti_54 rfl (by decide) rfl)) (by kernel_rfl) ?_
    refine wpc (step_plain rfl (acts_bin (d := 15) (ltN rfl) (OpV.agg 13 [(.int .i64 d.x : Value), .int .i64 d.y, .bool d.d]) (OpV.agg 14 [(.int .i64 ((gD l k).x) : Value), .int .i64 ((gD l k).y), .bool ((gD l k).d)]) (r_aggeq qP1_eg_54 (fun w => (run_eql_dom d.x d.y d.d ((gD l k).x) ((gD l k).y) ((gD l k).d) w).trans (congrArg (fun z => Result.ok (Value.bool z) w) (rfl : (dEq d.x d.y d.d ((gD l k).x) ((gD l k).y) ((gD l k).d)) = (dEq d.x d.y d.d ((gD l k).x) ((gD l k).y) ((gD l k).d)))))))) (by kernel_rfl) ?_
    refine wpl_nil ?_
    refine wp_if (t := 15) ((dEq d.x d.y d.d ((gD l k).x) ((gD l k).y) ((gD l k).d))) (by kernel_rfl) (fun c3 => ?_) (fun c3 => ?_)
    · skip
      refine wp_seq' ?_
      refine wp_region_t ?_
      refine wpc (step_plain rfl (acts_assign (d := 4) (ltN rfl) (OpX.const (.bool true)))) (by kernel_rfl) ?_
      refine wpl_nil ?_
      refine wp_ret' ?_
      exact VRes.tmp 4 (.a (.val (.bool true))) _ (by kernel_rfl) (bval (congrArg Value.bool (by first | exact (hasB_of (k := k) (by omega) (by assumption)).symm)))
    · skip
      refine wp_skip' ?_
      refine wp_region_t ?_
      refine wpc (step_plain rfl (acts_bin (d := 16) (ltN rfl) (OpV.tmp 9 (.int .i64 ((k : Nat) : Int))) (OpV.const (.int .i64 1)) (r_add (c := (((k : Nat) : Int) + 1)) (w64 (by omega) (by omega))))) (by kernel_rfl) ?_
      refine wpc (step_plain rfl (acts_move (d := 9) (ltN rfl) (OpX.tmp 16 (V.v (.int .i64 (((k : Nat) : Int) + 1)))))) (by kernel_rfl) ?_
      refine wpl_nil ?_
      exact loop_back ((k + 1)) (by refine ⟨by omega, ?_⟩; rw [hasB_snoc (by omega)]; simp_all) (by show l.length - (k + 1) < l.length - k; omega) (weak_of id [6, 8] (by kernel_rfl) (wk_s (v' := V.p 3 0) (by kernel_rfl) rfl rfl (wk_s (v' := V.b (.a (.slv l.length 3 (dsl l)))) (by kernel_rfl) rfl rfl (wk_s (v' := V.v (.int .i64 ((l.length : Nat) : Int))) (by kernel_rfl) rfl rfl (wk_s (v' := V.v (.int .i64 (((k : Nat) : Int) + 1))) (by kernel_rfl) (vint (by first | rfl | omega | (simp; done) | (simp; omega))) rfl (wk_o (o' := ⟨54, 3, true, [(.val (.int .i64 d.x) : A), .val (.int .i64 d.y), .val (.bool d.d)]⟩) (by kernel_rfl) (renob_l (fun h => h) rfl rfl) rfl (wk_f rfl (wk_f rfl (wk_nil)))))))))
  · skip
    have c2P := of_decide_eq_false c2
    refine wp_exit' ?_
    refine wp_seq' ?_
    refine wp_region_t ?_
    refine wpc (step_plain rfl (acts_assign (d := 4) (ltN rfl) (OpX.const (.bool false)))) (by kernel_rfl) ?_
    refine wpl_nil ?_
    refine wp_ret' ?_
    exact VRes.tmp 4 (.a (.val (.bool false))) _ (by kernel_rfl) (bval (congrArg Value.bool (by first | exact (hasB_of (k := k) (by omega) (by assumption)).symm | (have e : k = l.length := by omega); subst e; simp_all)))
end Cl
end Go.Proofs.Ytjlcphpabeamaaa
