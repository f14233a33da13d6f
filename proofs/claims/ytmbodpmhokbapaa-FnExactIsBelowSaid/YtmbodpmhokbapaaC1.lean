/- Walks over clean states, printed by wg.py. No statement is proved here. -/
import Derived.Test.YtmbodpmhokbapaaCl18
import Derived.Test.YtmbodpmhokbapaaC0
namespace Go.Proofs.Ytmbodpmhokbapaa
namespace Cl
open Go.ChangeShapes Go.WideShapes Go.ChangeAt Go.RowKit

theorem four_len (c : Cel) : (four c).length = 4 := rfl
theorem regOk_spec {l : List Int} {k : Nat} (hk : k < l.length) (h : inB (gI l k) 0 255 = false) : regOk l = false := by
  unfold regOk allIn
  have : l.all (fun x => inB x 0 255) = false := by
    rw [List.all_eq_false]; exact ⟨l[k], List.getElem_mem hk, by rw [gI_eq hk] at h; simp [h]⟩
  rw [this]; simp
theorem regOk_spec2 {l : List Int} (h : allIn l 0 255 = true) : regOk l = decide (l.length ≤ 8) := by unfold regOk; rw [h]; simp
theorem allIn_snoc {l : List Int} {k : Nat} (hk : k < l.length) (h : allIn (l.take k) 0 255 = true) (h2 : inB (gI l k) 0 255 = true) : allIn (l.take (k+1)) 0 255 = true := by
  unfold allIn at *; rw [List.take_succ_eq_append_getElem hk, List.all_append, h]; simp [← gI_eq hk, h2]
theorem allIn_end {l : List Int} {k : Nat} (hk : ¬ (k : Int) < (l.length : Int)) (h : allIn (l.take k) 0 255 = true) : allIn l 0 255 = true := by rwa [List.take_of_length_le (by omega)] at h
theorem qC1_fo_29_0 : fieldOff Try.prog 29 0 = some 0 := by kernel_rfl
theorem qC1_fo_53_0 : fieldOff Try.prog 53 0 = some 0 := by kernel_rfl
theorem qC1_fo_53_1 : fieldOff Try.prog 53 1 = some 1 := by kernel_rfl
theorem qC1_sz_3 : (Try.prog.info? 3).map (·.size) = some 1 := by kernel_rfl
theorem qC1_sz_53 : (Try.prog.info? 53).map (·.size) = some 2 := by kernel_rfl
theorem qC1_ti_22 : TI Try.prog 22 false 1 := ⟨⟨_, Try.underlying22, rfl⟩, by kernel_rfl⟩
theorem qC1_ti_29 : TI Try.prog 29 true 1 := ⟨⟨_, Try.underlying29, rfl⟩, by kernel_rfl⟩
theorem qC1_ti_3 : TI Try.prog 3 false 1 := ⟨⟨_, Try.underlying3, rfl⟩, by kernel_rfl⟩
theorem qC1_ti_53 : TI Try.prog 53 true 2 := ⟨⟨_, Try.underlying53, rfl⟩, by kernel_rfl⟩
theorem qC1_un_22 : Try.prog.underlying 22 = some (.slice 3) := Try.underlying22
theorem qC1_un_3 : Try.prog.underlying 3 = some (.int .i64) := Try.underlying3
theorem qC1_un_65 : Try.prog.underlying 65 = some (.int .u64) := Try.underlying65
theorem qC1_un_69 : Try.prog.underlying 69 = some (.slice 53) := Try.underlying69
theorem qC1_zi_53 : ZI Try.prog 53 (.agg #[.int .i64 0, .int .i64 0]) 2 16 := by unfold ZI; kernel_rfl
set_option maxHeartbeats 4000000 in
set_option maxRecDepth 100000 in
theorem impl_NeighborsOf_fn (c : Cel) : Fn Try.prog 102 [.agg ([(.int .i64 c.x : Value), .int .i64 c.y].map A.val)] [.row 53 2 (nbs c).length (csl (nbs c))] := by
 refine fn_intro (N := 48) Try.func102 rfl (by kernel_rfl) rfl (Nat.le_of_ble_eq_true rfl) [1, 5, 7, 9, 34, 35, 41, 44, 45] (ret1 rfl) (fun W => ?_)
 show Wp _ _ _ [(.s 0, some (.s (V.av [(.int .i64 c.x : Value), .int .i64 c.y]))), (.o 1, some .free), (.o 5, some .free), (.o 7, some .free), (.o 9, some .free), (.o 34, some .free), (.o 35, some .free), (.o 41, some .free), (.o 44, some .free), (.o 45, some .free)]
 refine wp_seq' ?_
 refine wp_region_t ?_
 refine w1 (acts_box (d := 1) (h := 1) (b := .agg ([(.int .i64 c.x : Value), .int .i64 c.y].map A.val)) (ltN rfl) (OpX.tmp 0 (V.av [(.int .i64 c.x : Value), .int .i64 c.y])) (by intro y hy; simp [B.cs] at hy; rcases hy with rfl | rfl <;> rfl)) ?_
 refine w1 (acts_assign (d := 2) (ltN rfl) (OpX.const (.slice none 0 0))) ?_
 refine wpl_nil ?_
 refine wp_seq' ?_
 refine wp_seq' ?_
 refine wp_region_t ?_
 refine w1 (acts_load_owns (d := 6) (t := 1) (h := 1) (off := 0) (o := ⟨53, 2, true, [(.val (.int .i64 c.x) : A), .val (.int .i64 c.y)]⟩)  (xs := [(.int .i64 c.x : Value), .int .i64 c.y].map A.val) (ltN rfl) qC1_ti_53 rfl (by decide) rfl) ?_
 refine w1 (acts_call1 (d := 7) (ltN rfl) (impl_CellOk_fn c ) (ArgVs.cons (ArgV.va (vs := [(.int .i64 c.x : Value), .int .i64 c.y]) (OpV.agg 6 [(.int .i64 c.x : Value), .int .i64 c.y])) (ArgVs.nil)) (ResV.val _)) ?_
 refine w1 (acts_un (d := 8) (ltN rfl) (OpV.tmp 7 (.bool (okc c.x c.y))) (r_not (c := (!(okc c.x c.y))) rfl)) ?_
 refine wpl_nil ?_
 refine wp_if (t := 8) ((!(okc c.x c.y))) (by kernel_rfl) (fun c1 => ?_) (fun c1 => ?_)
 ·skip
  have c2 : (okc c.x c.y) = false := by simpa using c1
  have c2Q := okc_false.1 c2
  refine wp_seq' ?_
  refine wp_region_t ?_
  refine w1 (acts_assign (d := 2) (ltN rfl) (OpX.const (.slice none 0 0))) ?_
  refine wpl_nil ?_
  refine wp_ret' ?_
  exact VRes.tmp 2 (.a (.val (.slice none 0 0))) _ (by kernel_rfl) (bnil_cels (L := (nbs c)) (by (simp_all [nbs]; done)))
 ·skip
  have c3 : (okc c.x c.y) = true := by simpa using c1
  have c3Q := okc_true.1 c3
  refine wp_skip' ?_
  refine wp_seq' ?_
  refine wp_region_t ?_
  refine w1 (acts_buildSlice0' (d := 9) (h := 9) (s := 2) (ltN rfl) qC1_un_69 qC1_zi_53) ?_
  refine w1 (asg 3 9 (V.b (.a (.sl 9 0 0)))) ?_
  refine wpl_nil ?_
  refine wp_seq' ?_
  refine wp_seq' ?_
  refine wp_region_t ?_
  refine w1 (acts_field (d := 10) (t := 1) (h := 1) (off := 0) (off' := 0) (ltN rfl) qC1_fo_53_0 rfl) ?_
  refine w1 (acts_load_own (d := 11) (t := 10) (h := 1) (off := 0) (o := ⟨53, 2, true, [(.val (.int .i64 c.x) : A), .val (.int .i64 c.y)]⟩)  (x := .val (.int .i64 c.x)) (ltN rfl) qC1_ti_3 rfl) ?_
  refine w1 (acts_field (d := 12) (t := 1) (h := 1) (off := 0) (off' := 1) (ltN rfl) qC1_fo_53_1 rfl) ?_
  refine w1 (acts_load_own (d := 13) (t := 12) (h := 1) (off := 1) (o := ⟨53, 2, true, [(.val (.int .i64 c.x) : A), .val (.int .i64 c.y)]⟩)  (x := .val (.int .i64 c.y)) (ltN rfl) qC1_ti_3 rfl) ?_
  refine w1 (bn 14 (OpV.tmp 13 (.int .i64 c.y)) (OpV.const (.int .i64 1)) (r_sub (c := (c.y - 1)) (w64 (by omega) (by omega)))) ?_
  refine w1 (acts_build (d := 15) (t := 53) (cells := [(.int .i64 c.x : Value), .int .i64 (c.y - 1)]) (ltN rfl) (OpVs.cons (i := 0) (OpV.tmp 11 (.int .i64 c.x)) (OpVs.cons (i := 1) (OpV.tmp 14 (.int .i64 (c.y - 1))) (OpVs.nil))) rfl) ?_
  refine w1 (acts_field (d := 16) (t := 1) (h := 1) (off := 0) (off' := 0) (ltN rfl) qC1_fo_53_0 rfl) ?_
  refine w1 (acts_load_own (d := 17) (t := 16) (h := 1) (off := 0) (o := ⟨53, 2, true, [(.val (.int .i64 c.x) : A), .val (.int .i64 c.y)]⟩)  (x := .val (.int .i64 c.x)) (ltN rfl) qC1_ti_3 rfl) ?_
  refine w1 (bn 18 (OpV.tmp 17 (.int .i64 c.x)) (OpV.const (.int .i64 1)) (r_sub (c := (c.x - 1)) (w64 (by omega) (by omega)))) ?_
  refine w1 (acts_field (d := 19) (t := 1) (h := 1) (off := 0) (off' := 1) (ltN rfl) qC1_fo_53_1 rfl) ?_
  refine w1 (acts_load_own (d := 20) (t := 19) (h := 1) (off := 1) (o := ⟨53, 2, true, [(.val (.int .i64 c.x) : A), .val (.int .i64 c.y)]⟩)  (x := .val (.int .i64 c.y)) (ltN rfl) qC1_ti_3 rfl) ?_
  refine w1 (acts_build (d := 21) (t := 53) (cells := [(.int .i64 (c.x - 1) : Value), .int .i64 c.y]) (ltN rfl) (OpVs.cons (i := 0) (OpV.tmp 18 (.int .i64 (c.x - 1))) (OpVs.cons (i := 1) (OpV.tmp 20 (.int .i64 c.y)) (OpVs.nil))) rfl) ?_
  refine w1 (acts_field (d := 22) (t := 1) (h := 1) (off := 0) (off' := 0) (ltN rfl) qC1_fo_53_0 rfl) ?_
  refine w1 (acts_load_own (d := 23) (t := 22) (h := 1) (off := 0) (o := ⟨53, 2, true, [(.val (.int .i64 c.x) : A), .val (.int .i64 c.y)]⟩)  (x := .val (.int .i64 c.x)) (ltN rfl) qC1_ti_3 rfl) ?_
  refine w1 (bn 24 (OpV.tmp 23 (.int .i64 c.x)) (OpV.const (.int .i64 1)) (r_add (c := (c.x + 1)) (w64 (by omega) (by omega)))) ?_
  refine w1 (acts_field (d := 25) (t := 1) (h := 1) (off := 0) (off' := 1) (ltN rfl) qC1_fo_53_1 rfl) ?_
  refine w1 (acts_load_own (d := 26) (t := 25) (h := 1) (off := 1) (o := ⟨53, 2, true, [(.val (.int .i64 c.x) : A), .val (.int .i64 c.y)]⟩)  (x := .val (.int .i64 c.y)) (ltN rfl) qC1_ti_3 rfl) ?_
  refine w1 (acts_build (d := 27) (t := 53) (cells := [(.int .i64 (c.x + 1) : Value), .int .i64 c.y]) (ltN rfl) (OpVs.cons (i := 0) (OpV.tmp 24 (.int .i64 (c.x + 1))) (OpVs.cons (i := 1) (OpV.tmp 26 (.int .i64 c.y)) (OpVs.nil))) rfl) ?_
  refine w1 (acts_field (d := 28) (t := 1) (h := 1) (off := 0) (off' := 0) (ltN rfl) qC1_fo_53_0 rfl) ?_
  refine w1 (acts_load_own (d := 29) (t := 28) (h := 1) (off := 0) (o := ⟨53, 2, true, [(.val (.int .i64 c.x) : A), .val (.int .i64 c.y)]⟩)  (x := .val (.int .i64 c.x)) (ltN rfl) qC1_ti_3 rfl) ?_
  refine w1 (acts_field (d := 30) (t := 1) (h := 1) (off := 0) (off' := 1) (ltN rfl) qC1_fo_53_1 rfl) ?_
  refine w1 (acts_load_own (d := 31) (t := 30) (h := 1) (off := 1) (o := ⟨53, 2, true, [(.val (.int .i64 c.x) : A), .val (.int .i64 c.y)]⟩)  (x := .val (.int .i64 c.y)) (ltN rfl) qC1_ti_3 rfl) ?_
  refine w1 (bn 32 (OpV.tmp 31 (.int .i64 c.y)) (OpV.const (.int .i64 1)) (r_add (c := (c.y + 1)) (w64 (by omega) (by omega)))) ?_
  refine w1 (acts_build (d := 33) (t := 53) (cells := [(.int .i64 c.x : Value), .int .i64 (c.y + 1)]) (ltN rfl) (OpVs.cons (i := 0) (OpV.tmp 29 (.int .i64 c.x)) (OpVs.cons (i := 1) (OpV.tmp 32 (.int .i64 (c.y + 1))) (OpVs.nil))) rfl) ?_
  refine w1 (acts_buildSlice' (d := 34) (h := 34) (n := 4) (s := 2) (xs := csl ([(⟨c.x, (c.y - 1)⟩ : Cel), (⟨(c.x - 1), c.y⟩ : Cel), (⟨(c.x + 1), c.y⟩ : Cel), (⟨c.x, (c.y + 1)⟩ : Cel)] : List Cel)) (ltN rfl) qC1_un_69 qC1_zi_53 (OpVs.cons (i := 0) (OpV.agg 15 [(.int .i64 c.x : Value), .int .i64 (c.y - 1)]) (OpVs.cons (i := 1) (OpV.agg 21 [(.int .i64 (c.x - 1) : Value), .int .i64 c.y]) (OpVs.cons (i := 2) (OpV.agg 27 [(.int .i64 (c.x + 1) : Value), .int .i64 c.y]) (OpVs.cons (i := 3) (OpV.agg 33 [(.int .i64 c.x : Value), .int .i64 (c.y + 1)]) (OpVs.nil))))) (by decide) (by decide) (by kernel_rfl) rfl) ?_
  refine w1 (acts_len (d := 35) (X := .sl 34 0 4) (n := 4) (iv := 4) (ltN rfl) qC1_un_69 (OpX.tmp 34 (V.b (.a (.sl 34 0 4)))) (LenOf.sl _ _ _) rfl) ?_
  refine w1 (acts_move (d := 36) (ltN rfl) (OpX.const (.int .i64 0))) ?_
  refine wpl_nil ?_
  refine wp_block' ?_
  refine wp_loop' (fun (k : Nat) => k ≤ 4) (fun (k : Nat) => [(.s 3, some (.s (V.b (.a (.sl 9 0 ((((four c).take k).filter (fun z : Cel => okc z.x z.y)).length)))))), (.s 34, some (.s (V.b (.a (.sl 34 0 4))))), (.s 35, some (.s (V.v (.int .i64 4)))), (.s 36, some (.s (V.v (.int .i64 ((k : Nat) : Int))))), (.o 9, some (.o ⟨53, 2, true, pl (csl (((four c).take k).filter (fun z : Cel => okc z.x z.y)))⟩)), (.o 34, some (.o ⟨53, 2, true, pl (csl [(⟨c.x, (c.y - 1)⟩ : Cel), (⟨(c.x - 1), c.y⟩ : Cel), (⟨(c.x + 1), c.y⟩ : Cel), (⟨c.x, (c.y + 1)⟩ : Cel)])⟩)), (.o 1, some .free), (.o 5, some .free), (.o 7, some .free), (.o 35, some .free), (.o 41, some .free), (.o 44, some .free), (.o 45, some .free)]) (fun (k : Nat) => 4 - k) ((0 : Nat)) (by exact (by omega : 0 ≤ 4)) (weak_of id [1, 5, 7, 35, 41, 44, 45] (by kernel_rfl) (wk_s (v' := V.b (.a (.sl 9 0 0))) (by kernel_rfl) (vsl (by rfl) rfl) rfl (wk_s (v' := V.b (.a (.sl 34 0 4))) (by kernel_rfl) rfl rfl (wk_s (v' := V.v (.int .i64 4)) (by kernel_rfl) rfl rfl (wk_s (v' := V.v (.int .i64 0)) (by kernel_rfl) (vint (by rfl)) rfl (wk_o (o' := ⟨53, 2, true, pl (csl [])⟩) (by kernel_rfl) (renob_eq (fun h => h) (congrArg csl (by rfl))) rfl (wk_o (o' := ⟨53, 2, true, pl (csl [(⟨c.x, (c.y - 1)⟩ : Cel), (⟨(c.x - 1), c.y⟩ : Cel), (⟨(c.x + 1), c.y⟩ : Cel), (⟨c.x, (c.y + 1)⟩ : Cel)])⟩) (by kernel_rfl) (renob_pl (fun h => h)) rfl (wk_f rfl (wk_f rfl (wk_f rfl (wk_f rfl (wk_f rfl (wk_f rfl (wk_f rfl (wk_nil))))))))))))))) ?_
  rintro k inv4
  replace inv4 : k ≤ 4 := inv4
  have inv := inv4
  show Wp _ _ _ [(.s 3, some (.s (V.b (.a (.sl 9 0 ((((four c).take k).filter (fun z : Cel => okc z.x z.y)).length)))))), (.s 34, some (.s (V.b (.a (.sl 34 0 4))))), (.s 35, some (.s (V.v (.int .i64 4)))), (.s 36, some (.s (V.v (.int .i64 ((k : Nat) : Int))))), (.o 9, some (.o ⟨53, 2, true, pl (csl (((four c).take k).filter (fun z : Cel => okc z.x z.y)))⟩)), (.o 34, some (.o ⟨53, 2, true, pl (csl [(⟨c.x, (c.y - 1)⟩ : Cel), (⟨(c.x - 1), c.y⟩ : Cel), (⟨(c.x + 1), c.y⟩ : Cel), (⟨c.x, (c.y + 1)⟩ : Cel)])⟩)), (.o 1, some .free), (.o 5, some .free), (.o 7, some .free), (.o 35, some .free), (.o 41, some .free), (.o 44, some .free), (.o 45, some .free)]
  have hfl := cfilt_len (fun z : Cel => okc z.x z.y) (four c) k
  refine wp_seq' ?_
  refine wp_region_t ?_
  refine w1 (bn 37 (OpV.tmp 36 (.int .i64 ((k : Nat) : Int))) (OpV.tmp 35 (.int .i64 4)) (r_lss (c := (decide (((k : Nat) : Int) < 4))) rfl)) ?_
  refine wpl_nil ?_
  refine wp_seq' ?_
  refine wp_if (t := 37) (decide (((k : Nat) : Int) < 4)) (by kernel_rfl) (fun c5 => ?_) (fun c5 => ?_)
  ·skip
   have c5P := of_decide_eq_true c5
   refine wp_skip' ?_
   refine wp_seq' ?_
   refine wp_block' ?_
   refine wp_seq' ?_
   refine wp_region_t ?_
   refine w1 (acts_index_sl (d := 38) (x := 34) (h := 34) (off := 0) (n := 4) (k := k) (off' := (k * 2)) (o := ⟨53, 2, true, pl (csl [(⟨c.x, (c.y - 1)⟩ : Cel), (⟨(c.x - 1), c.y⟩ : Cel), (⟨(c.x + 1), c.y⟩ : Cel), (⟨c.x, (c.y + 1)⟩ : Cel)])⟩) (ltN rfl) qC1_un_69 qC1_sz_53 (OpV.tmp 36 (.int .i64 ((k : Nat) : Int))) rfl (by omega) (by (simp; done))) ?_
   refine w1 (acts_load_owns (d := 39) (t := 38) (h := 34) (off := (k * 2)) (o := ⟨53, 2, true, pl (csl [(⟨c.x, (c.y - 1)⟩ : Cel), (⟨(c.x - 1), c.y⟩ : Cel), (⟨(c.x + 1), c.y⟩ : Cel), (⟨c.x, (c.y + 1)⟩ : Cel)])⟩)  (xs := [(.int .i64 ((gC [(⟨c.x, (c.y - 1)⟩ : Cel), (⟨(c.x - 1), c.y⟩ : Cel), (⟨(c.x + 1), c.y⟩ : Cel), (⟨c.x, (c.y + 1)⟩ : Cel)] k).x) : Value), .int .i64 ((gC [(⟨c.x, (c.y - 1)⟩ : Cel), (⟨(c.x - 1), c.y⟩ : Cel), (⟨(c.x + 1), c.y⟩ : Cel), (⟨c.x, (c.y + 1)⟩ : Cel)] k).y)].map A.val) (ltN rfl) qC1_ti_53 rfl (by decide) (pl_at (csl_at (k := k) (by (simp only [List.length_cons, List.length_nil]; omega))))) ?_
   refine w1 (acts_alloc' (d := 5) (h := 5) (cap := 1) (s := 2) (cells := [(.val (.int .i64 0) : A), .val (.int .i64 0)]) (ltN rfl) qC1_zi_53 rfl rfl (by decide)) ?_
   refine w1 (acts_store (t := 5) (h := 5) (off := 0) (o := ⟨53, 2, true, [(.val (.int .i64 0) : A), .val (.int .i64 0)]⟩) (b := .agg ([(.int .i64 ((gC [(⟨c.x, (c.y - 1)⟩ : Cel), (⟨(c.x - 1), c.y⟩ : Cel), (⟨(c.x + 1), c.y⟩ : Cel), (⟨c.x, (c.y + 1)⟩ : Cel)] k).x) : Value), .int .i64 ((gC [(⟨c.x, (c.y - 1)⟩ : Cel), (⟨(c.x - 1), c.y⟩ : Cel), (⟨(c.x + 1), c.y⟩ : Cel), (⟨c.x, (c.y + 1)⟩ : Cel)] k).y)].map A.val)) (cells := [(.val (.int .i64 ((gC [(⟨c.x, (c.y - 1)⟩ : Cel), (⟨(c.x - 1), c.y⟩ : Cel), (⟨(c.x + 1), c.y⟩ : Cel), (⟨c.x, (c.y + 1)⟩ : Cel)] k).x)) : A), .val (.int .i64 ((gC [(⟨c.x, (c.y - 1)⟩ : Cel), (⟨(c.x - 1), c.y⟩ : Cel), (⟨(c.x + 1), c.y⟩ : Cel), (⟨c.x, (c.y + 1)⟩ : Cel)] k).y))]) qC1_ti_53 (OpX.tmp 39 (V.av [(.int .i64 ((gC [(⟨c.x, (c.y - 1)⟩ : Cel), (⟨(c.x - 1), c.y⟩ : Cel), (⟨(c.x + 1), c.y⟩ : Cel), (⟨c.x, (c.y + 1)⟩ : Cel)] k).x) : Value), .int .i64 ((gC [(⟨c.x, (c.y - 1)⟩ : Cel), (⟨(c.x - 1), c.y⟩ : Cel), (⟨(c.x + 1), c.y⟩ : Cel), (⟨c.x, (c.y + 1)⟩ : Cel)] k).y)])) rfl (by decide) (by intro y hy; simp [B.cs] at hy; rcases hy with rfl | rfl <;> rfl) (Nat.le_of_ble_eq_true rfl) rfl) ?_
   refine wpl_nil ?_
   refine wp_seq' ?_
   refine wp_region_t ?_
   refine w1 (acts_load_owns (d := 40) (t := 5) (h := 5) (off := 0) (o := ⟨53, 2, true, [(.val (.int .i64 ((gC [(⟨c.x, (c.y - 1)⟩ : Cel), (⟨(c.x - 1), c.y⟩ : Cel), (⟨(c.x + 1), c.y⟩ : Cel), (⟨c.x, (c.y + 1)⟩ : Cel)] k).x)) : A), .val (.int .i64 ((gC [(⟨c.x, (c.y - 1)⟩ : Cel), (⟨(c.x - 1), c.y⟩ : Cel), (⟨(c.x + 1), c.y⟩ : Cel), (⟨c.x, (c.y + 1)⟩ : Cel)] k).y))]⟩)  (xs := [(.int .i64 ((gC [(⟨c.x, (c.y - 1)⟩ : Cel), (⟨(c.x - 1), c.y⟩ : Cel), (⟨(c.x + 1), c.y⟩ : Cel), (⟨c.x, (c.y + 1)⟩ : Cel)] k).x) : Value), .int .i64 ((gC [(⟨c.x, (c.y - 1)⟩ : Cel), (⟨(c.x - 1), c.y⟩ : Cel), (⟨(c.x + 1), c.y⟩ : Cel), (⟨c.x, (c.y + 1)⟩ : Cel)] k).y)].map A.val) (ltN rfl) qC1_ti_53 rfl (by decide) rfl) ?_
   refine w1 (acts_call1 (d := 41) (ltN rfl) (impl_CellOk_fn (gC [(⟨c.x, (c.y - 1)⟩ : Cel), (⟨(c.x - 1), c.y⟩ : Cel), (⟨(c.x + 1), c.y⟩ : Cel), (⟨c.x, (c.y + 1)⟩ : Cel)] k) ) (ArgVs.cons (ArgV.va (vs := [(.int .i64 ((gC [(⟨c.x, (c.y - 1)⟩ : Cel), (⟨(c.x - 1), c.y⟩ : Cel), (⟨(c.x + 1), c.y⟩ : Cel), (⟨c.x, (c.y + 1)⟩ : Cel)] k).x) : Value), .int .i64 ((gC [(⟨c.x, (c.y - 1)⟩ : Cel), (⟨(c.x - 1), c.y⟩ : Cel), (⟨(c.x + 1), c.y⟩ : Cel), (⟨c.x, (c.y + 1)⟩ : Cel)] k).y)]) (OpV.agg 40 [(.int .i64 ((gC [(⟨c.x, (c.y - 1)⟩ : Cel), (⟨(c.x - 1), c.y⟩ : Cel), (⟨(c.x + 1), c.y⟩ : Cel), (⟨c.x, (c.y + 1)⟩ : Cel)] k).x) : Value), .int .i64 ((gC [(⟨c.x, (c.y - 1)⟩ : Cel), (⟨(c.x - 1), c.y⟩ : Cel), (⟨(c.x + 1), c.y⟩ : Cel), (⟨c.x, (c.y + 1)⟩ : Cel)] k).y)])) (ArgVs.nil)) (ResV.val _)) ?_
   refine wpl_nil ?_
   refine wp_if (t := 41) ((okc (gC [(⟨c.x, (c.y - 1)⟩ : Cel), (⟨(c.x - 1), c.y⟩ : Cel), (⟨(c.x + 1), c.y⟩ : Cel), (⟨c.x, (c.y + 1)⟩ : Cel)] k).x (gC [(⟨c.x, (c.y - 1)⟩ : Cel), (⟨(c.x - 1), c.y⟩ : Cel), (⟨(c.x + 1), c.y⟩ : Cel), (⟨c.x, (c.y + 1)⟩ : Cel)] k).y)) (by kernel_rfl) (fun c6 => ?_) (fun c6 => ?_)
   ·skip
    have c6Q := okc_true.1 c6
    refine wp_region_t ?_
    refine w1 (mv 42 3 (V.b (.a (.sl 9 0 ((((four c).take k).filter (fun z : Cel => okc z.x z.y)).length))))) ?_
    refine w1 (acts_load_owns (d := 43) (t := 5) (h := 5) (off := 0) (o := ⟨53, 2, true, [(.val (.int .i64 ((gC [(⟨c.x, (c.y - 1)⟩ : Cel), (⟨(c.x - 1), c.y⟩ : Cel), (⟨(c.x + 1), c.y⟩ : Cel), (⟨c.x, (c.y + 1)⟩ : Cel)] k).x)) : A), .val (.int .i64 ((gC [(⟨c.x, (c.y - 1)⟩ : Cel), (⟨(c.x - 1), c.y⟩ : Cel), (⟨(c.x + 1), c.y⟩ : Cel), (⟨c.x, (c.y + 1)⟩ : Cel)] k).y))]⟩)  (xs := [(.int .i64 ((gC [(⟨c.x, (c.y - 1)⟩ : Cel), (⟨(c.x - 1), c.y⟩ : Cel), (⟨(c.x + 1), c.y⟩ : Cel), (⟨c.x, (c.y + 1)⟩ : Cel)] k).x) : Value), .int .i64 ((gC [(⟨c.x, (c.y - 1)⟩ : Cel), (⟨(c.x - 1), c.y⟩ : Cel), (⟨(c.x + 1), c.y⟩ : Cel), (⟨c.x, (c.y + 1)⟩ : Cel)] k).y)].map A.val) (ltN rfl) qC1_ti_53 rfl (by decide) rfl) ?_
    refine w1 (acts_buildSlice' (d := 44) (h := 44) (n := 1) (s := 2) (xs := csl ([(gC [(⟨c.x, (c.y - 1)⟩ : Cel), (⟨(c.x - 1), c.y⟩ : Cel), (⟨(c.x + 1), c.y⟩ : Cel), (⟨c.x, (c.y + 1)⟩ : Cel)] k)] : List Cel)) (ltN rfl) qC1_un_69 qC1_zi_53 (OpVs.cons (i := 0) (OpV.agg 43 [(.int .i64 ((gC [(⟨c.x, (c.y - 1)⟩ : Cel), (⟨(c.x - 1), c.y⟩ : Cel), (⟨(c.x + 1), c.y⟩ : Cel), (⟨c.x, (c.y + 1)⟩ : Cel)] k).x) : Value), .int .i64 ((gC [(⟨c.x, (c.y - 1)⟩ : Cel), (⟨(c.x - 1), c.y⟩ : Cel), (⟨(c.x + 1), c.y⟩ : Cel), (⟨c.x, (c.y + 1)⟩ : Cel)] k).y)]) (OpVs.nil)) (by decide) (by decide) (by kernel_rfl) rfl) ?_
    refine w1 (acts_app (d := 45) (x := 42) (h := 9) (h2 := 45) (n := ((((four c).take k).filter (fun z : Cel => okc z.x z.y)).length)) (m := 1) (nm := ((((four c).take k).filter (fun z : Cel => okc z.x z.y) ++ [(gC [(⟨c.x, (c.y - 1)⟩ : Cel), (⟨(c.x - 1), c.y⟩ : Cel), (⟨(c.x + 1), c.y⟩ : Cel), (⟨c.x, (c.y + 1)⟩ : Cel)] k)]).length)) (X := .sl 44 0 1) (xs := csl (((four c).take k).filter (fun z : Cel => okc z.x z.y))) (ys := csl [(gC [(⟨c.x, (c.y - 1)⟩ : Cel), (⟨(c.x - 1), c.y⟩ : Cel), (⟨(c.x + 1), c.y⟩ : Cel), (⟨c.x, (c.y + 1)⟩ : Cel)] k)]) (zs := csl (((four c).take k).filter (fun z : Cel => okc z.x z.y) ++ [(gC [(⟨c.x, (c.y - 1)⟩ : Cel), (⟨(c.x - 1), c.y⟩ : Cel), (⟨(c.x + 1), c.y⟩ : Cel), (⟨c.x, (c.y + 1)⟩ : Cel)] k)])) (ltN rfl) qC1_un_69 qC1_zi_53 rfl (by decide) (by decide) (by exact csl_len _) (OpX.tmp 44 (V.b (.a (.sl 44 0 1)))) (src_own (h := 44) (T := 53) (s := 2) (ex := true) (n := 1) (by exact csl_len _)) (csl_one' _) (by omega) (by exact (csl_append _ _).symm) (by (simp; done))) ?_
    refine w1 (asg 3 45 (V.b (.a (.sl 45 0 ((((four c).take k).filter (fun z : Cel => okc z.x z.y) ++ [(gC [(⟨c.x, (c.y - 1)⟩ : Cel), (⟨(c.x - 1), c.y⟩ : Cel), (⟨(c.x + 1), c.y⟩ : Cel), (⟨c.x, (c.y + 1)⟩ : Cel)] k)]).length))))) ?_
    refine wpl_nil ?_
    refine wp_region_t ?_
    refine w1 (bn 46 (OpV.tmp 36 (.int .i64 ((k : Nat) : Int))) (OpV.const (.int .i64 1)) (r_add (c := (((k : Nat) : Int) + 1)) (w64 (by omega) (by omega)))) ?_
    refine w1 (mv 36 46 (V.v (.int .i64 (((k : Nat) : Int) + 1)))) ?_
    refine wpl_nil ?_
    exact loop_back ((k + 1)) (by show _ ≤ _; omega) (by show 4 - (k + 1) < 4 - k; omega) (weak_of (subst1 [(9, 45)]) [1, 5, 7, 35, 41, 44, 45] (by kernel_rfl) (wk_s (v' := V.b (.a (.sl 45 0 ((((four c).take k).filter (fun z : Cel => okc z.x z.y) ++ [(gC [(⟨c.x, (c.y - 1)⟩ : Cel), (⟨(c.x - 1), c.y⟩ : Cel), (⟨(c.x + 1), c.y⟩ : Cel), (⟨c.x, (c.y + 1)⟩ : Cel)] k)]).length)))) (by kernel_rfl) (vsl (by (exact congrArg List.length (by first | rfl | exact cfilt_yes (l := four c) (by simp only [four_len]; omega) (by assumption) | exact cfilt_no (l := four c) (by simp only [four_len]; omega) (by assumption) | omega))) rfl) rfl (wk_s (v' := V.b (.a (.sl 34 0 4))) (by kernel_rfl) rfl rfl (wk_s (v' := V.v (.int .i64 4)) (by kernel_rfl) rfl rfl (wk_s (v' := V.v (.int .i64 (((k : Nat) : Int) + 1))) (by kernel_rfl) (vint (by rfl)) rfl (wk_o (o' := ⟨53, 2, true, pl (csl (((four c).take k).filter (fun z : Cel => okc z.x z.y) ++ [(gC [(⟨c.x, (c.y - 1)⟩ : Cel), (⟨(c.x - 1), c.y⟩ : Cel), (⟨(c.x + 1), c.y⟩ : Cel), (⟨c.x, (c.y + 1)⟩ : Cel)] k)]))⟩) (by kernel_rfl) (renob_eq (fun h => h) (congrArg csl (by exact cfilt_yes (l := four c) (by simp only [four_len]; omega) (by assumption)))) rfl (wk_o (o' := ⟨53, 2, true, pl (csl [(⟨c.x, (c.y - 1)⟩ : Cel), (⟨(c.x - 1), c.y⟩ : Cel), (⟨(c.x + 1), c.y⟩ : Cel), (⟨c.x, (c.y + 1)⟩ : Cel)])⟩) (by kernel_rfl) (renob_pl (fun h => h)) rfl (wk_f rfl (wk_f rfl (wk_f rfl (wk_f rfl (wk_f rfl (wk_f rfl (wk_f rfl (wk_nil)))))))))))))))
   ·skip
    have c6Q := okc_false.1 c6
    refine wp_skip' ?_
    refine wp_region_t ?_
    refine w1 (bn 46 (OpV.tmp 36 (.int .i64 ((k : Nat) : Int))) (OpV.const (.int .i64 1)) (r_add (c := (((k : Nat) : Int) + 1)) (w64 (by omega) (by omega)))) ?_
    refine w1 (mv 36 46 (V.v (.int .i64 (((k : Nat) : Int) + 1)))) ?_
    refine wpl_nil ?_
    exact loop_back ((k + 1)) (by show _ ≤ _; omega) (by show 4 - (k + 1) < 4 - k; omega) (weak_of id [1, 5, 7, 35, 41, 44, 45] (by kernel_rfl) (wk_s (v' := V.b (.a (.sl 9 0 ((((four c).take k).filter (fun z : Cel => okc z.x z.y)).length)))) (by kernel_rfl) (vsl (by (exact congrArg List.length (by first | rfl | exact cfilt_yes (l := four c) (by simp only [four_len]; omega) (by assumption) | exact cfilt_no (l := four c) (by simp only [four_len]; omega) (by assumption) | omega))) rfl) rfl (wk_s (v' := V.b (.a (.sl 34 0 4))) (by kernel_rfl) rfl rfl (wk_s (v' := V.v (.int .i64 4)) (by kernel_rfl) rfl rfl (wk_s (v' := V.v (.int .i64 (((k : Nat) : Int) + 1))) (by kernel_rfl) (vint (by rfl)) rfl (wk_o (o' := ⟨53, 2, true, pl (csl (((four c).take k).filter (fun z : Cel => okc z.x z.y)))⟩) (by kernel_rfl) (renob_eq (fun h => h) (congrArg csl (by exact cfilt_no (l := four c) (by simp only [four_len]; omega) (by assumption)))) rfl (wk_o (o' := ⟨53, 2, true, pl (csl [(⟨c.x, (c.y - 1)⟩ : Cel), (⟨(c.x - 1), c.y⟩ : Cel), (⟨(c.x + 1), c.y⟩ : Cel), (⟨c.x, (c.y + 1)⟩ : Cel)])⟩) (by kernel_rfl) (renob_pl (fun h => h)) rfl (wk_f rfl (wk_f rfl (wk_f rfl (wk_f rfl (wk_f rfl (wk_f rfl (wk_f rfl (wk_nil)))))))))))))))
  ·skip
   have c5P := of_decide_eq_false c5
   refine wp_exit' ?_
   refine wp_seq' ?_
   refine wp_region_t ?_
   refine w1 (mv 47 3 (V.b (.a (.sl 9 0 ((((four c).take k).filter (fun z : Cel => okc z.x z.y)).length))))) ?_
   refine w1 (asg 2 47 (V.b (.a (.sl 9 0 ((((four c).take k).filter (fun z : Cel => okc z.x z.y)).length))))) ?_
   refine wpl_nil ?_
   refine wp_ret' ?_
   exact VRes.tmp 2 (.a (.sl 9 0 ((((four c).take k).filter (fun z : Cel => okc z.x z.y)).length))) _ (by kernel_rfl) (brow_cels (h := 9) (L := (((four c).take k).filter (fun z : Cel => okc z.x z.y))) (by kernel_rfl) (by (have e : k = 4 := by omega); subst e; unfold nbs; rw [if_pos (by assumption)]; rfl) (by rfl))

set_option maxHeartbeats 4000000 in
set_option maxRecDepth 100000 in
theorem spec_NeighborsOf_fn (c : Cel) : Fn Try.prog 100 [.agg ([(.int .i64 c.x : Value), .int .i64 c.y].map A.val)] [.row 53 2 (nbs c).length (csl (nbs c))] := by
 refine fn_intro (N := 25) Try.func100 rfl (by kernel_rfl) rfl (Nat.le_of_ble_eq_true rfl) [1, 5, 7, 14, 19, 22, 23] (ret1 rfl) (fun W => ?_)
 show Wp _ _ _ [(.s 0, some (.s (V.av [(.int .i64 c.x : Value), .int .i64 c.y]))), (.o 1, some .free), (.o 5, some .free), (.o 7, some .free), (.o 14, some .free), (.o 19, some .free), (.o 22, some .free), (.o 23, some .free)]
 refine wp_seq' ?_
 refine wp_region_t ?_
 refine w1 (acts_box (d := 1) (h := 1) (b := .agg ([(.int .i64 c.x : Value), .int .i64 c.y].map A.val)) (ltN rfl) (OpX.tmp 0 (V.av [(.int .i64 c.x : Value), .int .i64 c.y])) (by intro y hy; simp [B.cs] at hy; rcases hy with rfl | rfl <;> rfl)) ?_
 refine w1 (acts_assign (d := 2) (ltN rfl) (OpX.const (.slice none 0 0))) ?_
 refine wpl_nil ?_
 refine wp_seq' ?_
 refine wp_region_t ?_
 refine w1 (acts_buildSlice0' (d := 7) (h := 7) (s := 2) (ltN rfl) qC1_un_69 qC1_zi_53) ?_
 refine w1 (asg 3 7 (V.b (.a (.sl 7 0 0)))) ?_
 refine wpl_nil ?_
 refine wp_seq' ?_
 refine wp_seq' ?_
 refine wp_region_t ?_
 refine w1 (acts_assign (d := 4) (ltN rfl) (OpX.const (.int .i64 0))) ?_
 refine wpl_nil ?_
 refine wp_block' ?_
 refine wp_loop' (fun (k : Nat) => k ≤ 64) (fun (k : Nat) => [(.s 1, some (.s (V.p 1 0))), (.s 3, some (.s (V.b (.a (.sl 7 0 ((((List.range k).filter (fun i => nbr c (cN i))).map cN).length)))))), (.s 4, some (.s (V.v (.int .i64 ((k : Nat) : Int))))), (.o 1, some (.o ⟨53, 2, true, [(.val (.int .i64 c.x) : A), .val (.int .i64 c.y)]⟩)), (.o 7, some (.o ⟨53, 2, true, pl (csl (((List.range k).filter (fun i => nbr c (cN i))).map cN))⟩)), (.o 5, some .free), (.o 14, some .free), (.o 19, some .free), (.o 22, some .free), (.o 23, some .free)]) (fun (k : Nat) => 64 - k) ((0 : Nat)) (by exact (by omega : 0 ≤ 64)) (weak_of id [5, 14, 19, 22, 23] (by kernel_rfl) (wk_s (v' := V.p 1 0) (by kernel_rfl) rfl rfl (wk_s (v' := V.b (.a (.sl 7 0 0))) (by kernel_rfl) (vsl (by rfl) rfl) rfl (wk_s (v' := V.v (.int .i64 0)) (by kernel_rfl) (vint (by rfl)) rfl (wk_o (o' := ⟨53, 2, true, [(.val (.int .i64 c.x) : A), .val (.int .i64 c.y)]⟩) (by kernel_rfl) (renob_l (fun h => h) rfl rfl) rfl (wk_o (o' := ⟨53, 2, true, pl (csl [])⟩) (by kernel_rfl) (renob_eq (fun h => h) (congrArg csl (by rfl))) rfl (wk_f rfl (wk_f rfl (wk_f rfl (wk_f rfl (wk_f rfl (wk_nil)))))))))))) ?_
 rintro k inv1
 replace inv1 : k ≤ 64 := inv1
 have inv := inv1
 show Wp _ _ _ [(.s 1, some (.s (V.p 1 0))), (.s 3, some (.s (V.b (.a (.sl 7 0 ((((List.range k).filter (fun i => nbr c (cN i))).map cN).length)))))), (.s 4, some (.s (V.v (.int .i64 ((k : Nat) : Int))))), (.o 1, some (.o ⟨53, 2, true, [(.val (.int .i64 c.x) : A), .val (.int .i64 c.y)]⟩)), (.o 7, some (.o ⟨53, 2, true, pl (csl (((List.range k).filter (fun i => nbr c (cN i))).map cN))⟩)), (.o 5, some .free), (.o 14, some .free), (.o 19, some .free), (.o 22, some .free), (.o 23, some .free)]
 have hfl := range_len (fun i => nbr c (cN i)) k
 refine wp_seq' ?_
 refine wp_seq' ?_
 refine wp_region_t ?_
 refine w1 (mv 8 4 (V.v (.int .i64 ((k : Nat) : Int)))) ?_
 refine w1 (bn 9 (OpV.tmp 8 (.int .i64 ((k : Nat) : Int))) (OpV.const (.int .i64 64)) (r_lss (c := (decide (((k : Nat) : Int) < 64))) rfl)) ?_
 refine wpl_nil ?_
 refine wp_if (t := 9) (decide (((k : Nat) : Int) < 64)) (by kernel_rfl) (fun c2 => ?_) (fun c2 => ?_)
 ·skip
  have c2P := of_decide_eq_true c2
  refine wp_skip' ?_
  refine wp_seq' ?_
  refine wp_block' ?_
  refine wp_seq' ?_
  refine wp_region_t ?_
  refine w1 (mv 13 4 (V.v (.int .i64 ((k : Nat) : Int)))) ?_
  refine w1 (acts_call2 (d := 14) (ltN rfl) (spec_CellAt_fn k (by omega)) (ArgVs.cons (ArgV.v (OpV.tmp 13 (.int .i64 ((k : Nat) : Int)))) (ArgVs.nil)) (ResV.agg [(.int .i64 ((cN k).x) : Value), .int .i64 ((cN k).y)]) (ResV.val _)) ?_
  refine w1 (mv 12 14 (V.tup [.agg ([(.int .i64 ((cN k).x) : Value), .int .i64 ((cN k).y)].map A.val), .a (.val (.bool true))])) ?_
  refine w1 (acts_extract (d := 15) (t := 12) (ix := 0) (xs := [.agg ([(.int .i64 ((cN k).x) : Value), .int .i64 ((cN k).y)].map A.val), .a (.val (.bool true))]) (X := .agg ([(.int .i64 ((cN k).x) : Value), .int .i64 ((cN k).y)].map A.val)) (ltN rfl) rfl) ?_
  refine w1 (acts_extract (d := 16) (t := 12) (ix := 1) (xs := [.agg ([(.int .i64 ((cN k).x) : Value), .int .i64 ((cN k).y)].map A.val), .a (.val (.bool true))]) (X := .a (.val (.bool true))) (ltN rfl) rfl) ?_
  refine w1 (acts_alloc' (d := 5) (h := 5) (cap := 1) (s := 2) (cells := [(.val (.int .i64 0) : A), .val (.int .i64 0)]) (ltN rfl) qC1_zi_53 rfl rfl (by decide)) ?_
  refine w1 (acts_store (t := 5) (h := 5) (off := 0) (o := ⟨53, 2, true, [(.val (.int .i64 0) : A), .val (.int .i64 0)]⟩) (b := .agg ([(.int .i64 ((cN k).x) : Value), .int .i64 ((cN k).y)].map A.val)) (cells := [(.val (.int .i64 ((cN k).x)) : A), .val (.int .i64 ((cN k).y))]) qC1_ti_53 (OpX.tmp 15 (V.av [(.int .i64 ((cN k).x) : Value), .int .i64 ((cN k).y)])) rfl (by decide) (by intro y hy; simp [B.cs] at hy; rcases hy with rfl | rfl <;> rfl) (Nat.le_of_ble_eq_true rfl) rfl) ?_
  refine w1 (asg 6 16 (V.v (.bool true))) ?_
  refine wpl_nil ?_
  refine wp_seq' ?_
  refine wp_region_t ?_
  refine w1 (acts_load_owns (d := 17) (t := 1) (h := 1) (off := 0) (o := ⟨53, 2, true, [(.val (.int .i64 c.x) : A), .val (.int .i64 c.y)]⟩)  (xs := [(.int .i64 c.x : Value), .int .i64 c.y].map A.val) (ltN rfl) qC1_ti_53 rfl (by decide) rfl) ?_
  refine w1 (acts_load_owns (d := 18) (t := 5) (h := 5) (off := 0) (o := ⟨53, 2, true, [(.val (.int .i64 ((cN k).x)) : A), .val (.int .i64 ((cN k).y))]⟩)  (xs := [(.int .i64 ((cN k).x) : Value), .int .i64 ((cN k).y)].map A.val) (ltN rfl) qC1_ti_53 rfl (by decide) rfl) ?_
  refine w1 (acts_call1 (d := 19) (ltN rfl) (spec_AreNeighbors_fn c (cN k) ) (ArgVs.cons (ArgV.va (vs := [(.int .i64 c.x : Value), .int .i64 c.y]) (OpV.agg 17 [(.int .i64 c.x : Value), .int .i64 c.y])) (ArgVs.cons (ArgV.va (vs := [(.int .i64 ((cN k).x) : Value), .int .i64 ((cN k).y)]) (OpV.agg 18 [(.int .i64 ((cN k).x) : Value), .int .i64 ((cN k).y)])) (ArgVs.nil))) (ResV.val _)) ?_
  refine wpl_nil ?_
  refine wp_if (t := 19) ((nbr c (cN k))) (by kernel_rfl) (fun c3 => ?_) (fun c3 => ?_)
  ·skip
   refine wp_region_t ?_
   refine w1 (mv 20 3 (V.b (.a (.sl 7 0 ((((List.range k).filter (fun i => nbr c (cN i))).map cN).length))))) ?_
   refine w1 (acts_load_owns (d := 21) (t := 5) (h := 5) (off := 0) (o := ⟨53, 2, true, [(.val (.int .i64 ((cN k).x)) : A), .val (.int .i64 ((cN k).y))]⟩)  (xs := [(.int .i64 ((cN k).x) : Value), .int .i64 ((cN k).y)].map A.val) (ltN rfl) qC1_ti_53 rfl (by decide) rfl) ?_
   refine w1 (acts_buildSlice' (d := 22) (h := 22) (n := 1) (s := 2) (xs := csl ([(cN k)] : List Cel)) (ltN rfl) qC1_un_69 qC1_zi_53 (OpVs.cons (i := 0) (OpV.agg 21 [(.int .i64 ((cN k).x) : Value), .int .i64 ((cN k).y)]) (OpVs.nil)) (by decide) (by decide) (by kernel_rfl) rfl) ?_
   refine w1 (acts_app (d := 23) (x := 20) (h := 7) (h2 := 23) (n := ((((List.range k).filter (fun i => nbr c (cN i))).map cN).length)) (m := 1) (nm := (((((List.range k).filter (fun i => nbr c (cN i))).map cN) ++ [(cN k)]).length)) (X := .sl 22 0 1) (xs := csl (((List.range k).filter (fun i => nbr c (cN i))).map cN)) (ys := csl [(cN k)]) (zs := csl ((((List.range k).filter (fun i => nbr c (cN i))).map cN) ++ [(cN k)])) (ltN rfl) qC1_un_69 qC1_zi_53 rfl (by decide) (by decide) (by exact csl_len _) (OpX.tmp 22 (V.b (.a (.sl 22 0 1)))) (src_own (h := 22) (T := 53) (s := 2) (ex := true) (n := 1) (by exact csl_len _)) (csl_one' _) (by omega) (by exact (csl_append _ _).symm) (by (simp; done))) ?_
   refine w1 (asg 3 23 (V.b (.a (.sl 23 0 (((((List.range k).filter (fun i => nbr c (cN i))).map cN) ++ [(cN k)]).length))))) ?_
   refine wpl_nil ?_
   refine wp_region_t ?_
   refine w1 (mv 10 4 (V.v (.int .i64 ((k : Nat) : Int)))) ?_
   refine w1 (bn 11 (OpV.tmp 10 (.int .i64 ((k : Nat) : Int))) (OpV.const (.int .i64 1)) (r_add (c := (((k : Nat) : Int) + 1)) (w64 (by omega) (by omega)))) ?_
   refine w1 (asg 4 11 (V.v (.int .i64 (((k : Nat) : Int) + 1)))) ?_
   refine wpl_nil ?_
   exact loop_back ((k + 1)) (by show _ ≤ _; omega) (by show 64 - (k + 1) < 64 - k; omega) (weak_of (subst1 [(7, 23)]) [5, 14, 19, 22, 23] (by kernel_rfl) (wk_s (v' := V.p 1 0) (by kernel_rfl) rfl rfl (wk_s (v' := V.b (.a (.sl 23 0 (((((List.range k).filter (fun i => nbr c (cN i))).map cN) ++ [(cN k)]).length)))) (by kernel_rfl) (vsl (by (exact congrArg List.length (by first | rfl | exact range_yes (p := fun i => nbr c (cN i)) (by assumption) | exact range_no (p := fun i => nbr c (cN i)) (by assumption) | omega))) rfl) rfl (wk_s (v' := V.v (.int .i64 (((k : Nat) : Int) + 1))) (by kernel_rfl) (vint (by rfl)) rfl (wk_o (o' := ⟨53, 2, true, [(.val (.int .i64 c.x) : A), .val (.int .i64 c.y)]⟩) (by kernel_rfl) (renob_l (fun h => h) rfl rfl) rfl (wk_o (o' := ⟨53, 2, true, pl (csl ((((List.range k).filter (fun i => nbr c (cN i))).map cN) ++ [(cN k)]))⟩) (by kernel_rfl) (renob_eq (fun h => h) (congrArg csl (by exact range_yes (p := fun i => nbr c (cN i)) (by assumption)))) rfl (wk_f rfl (wk_f rfl (wk_f rfl (wk_f rfl (wk_f rfl (wk_nil))))))))))))
  ·skip
   refine wp_skip' ?_
   refine wp_region_t ?_
   refine w1 (mv 10 4 (V.v (.int .i64 ((k : Nat) : Int)))) ?_
   refine w1 (bn 11 (OpV.tmp 10 (.int .i64 ((k : Nat) : Int))) (OpV.const (.int .i64 1)) (r_add (c := (((k : Nat) : Int) + 1)) (w64 (by omega) (by omega)))) ?_
   refine w1 (asg 4 11 (V.v (.int .i64 (((k : Nat) : Int) + 1)))) ?_
   refine wpl_nil ?_
   exact loop_back ((k + 1)) (by show _ ≤ _; omega) (by show 64 - (k + 1) < 64 - k; omega) (weak_of id [5, 14, 19, 22, 23] (by kernel_rfl) (wk_s (v' := V.p 1 0) (by kernel_rfl) rfl rfl (wk_s (v' := V.b (.a (.sl 7 0 ((((List.range k).filter (fun i => nbr c (cN i))).map cN).length)))) (by kernel_rfl) (vsl (by (exact congrArg List.length (by first | rfl | exact range_yes (p := fun i => nbr c (cN i)) (by assumption) | exact range_no (p := fun i => nbr c (cN i)) (by assumption) | omega))) rfl) rfl (wk_s (v' := V.v (.int .i64 (((k : Nat) : Int) + 1))) (by kernel_rfl) (vint (by rfl)) rfl (wk_o (o' := ⟨53, 2, true, [(.val (.int .i64 c.x) : A), .val (.int .i64 c.y)]⟩) (by kernel_rfl) (renob_l (fun h => h) rfl rfl) rfl (wk_o (o' := ⟨53, 2, true, pl (csl (((List.range k).filter (fun i => nbr c (cN i))).map cN))⟩) (by kernel_rfl) (renob_eq (fun h => h) (congrArg csl (by exact range_no (p := fun i => nbr c (cN i)) (by assumption)))) rfl (wk_f rfl (wk_f rfl (wk_f rfl (wk_f rfl (wk_f rfl (wk_nil))))))))))))
 ·skip
  have c2P := of_decide_eq_false c2
  refine wp_exit' ?_
  refine wp_seq' ?_
  refine wp_region_t ?_
  refine w1 (mv 24 3 (V.b (.a (.sl 7 0 ((((List.range k).filter (fun i => nbr c (cN i))).map cN).length))))) ?_
  refine w1 (asg 2 24 (V.b (.a (.sl 7 0 ((((List.range k).filter (fun i => nbr c (cN i))).map cN).length))))) ?_
  refine wpl_nil ?_
  refine wp_ret' ?_
  exact VRes.tmp 2 (.a (.sl 7 0 ((((List.range k).filter (fun i => nbr c (cN i))).map cN).length))) _ (by kernel_rfl) (brow_cels (h := 7) (L := (((List.range k).filter (fun i => nbr c (cN i))).map cN)) (by kernel_rfl) (by (have e : k = 64 := by omega); subst e; exact nbs_scan c) (by rfl))

set_option maxHeartbeats 4000000 in
set_option maxRecDepth 100000 in
theorem impl_set__has_fn (s : Nat) (c : Cel) (hs : s < 18446744073709551616) : Fn Try.prog 51 [.a (.val (.int .u64 ((s : Nat) : Int))), .agg ([(.int .i64 c.x : Value), .int .i64 c.y].map A.val)] [.val (.bool (hasS s c))] := by
 refine fn_intro (N := 15) Try.func51 rfl (by kernel_rfl) rfl (Nat.le_of_ble_eq_true rfl) [3, 6, 10] (ret1 rfl) (fun W => ?_)
 show Wp _ _ _ [(.s 0, some (.s (V.v (.int .u64 ((s : Nat) : Int))))), (.s 1, some (.s (V.av [(.int .i64 c.x : Value), .int .i64 c.y]))), (.o 3, some .free), (.o 6, some .free), (.o 10, some .free)]
 refine wp_seq' ?_
 refine wp_region_t ?_
 refine w1 (acts_box (d := 3) (h := 3) (b := .agg ([(.int .i64 c.x : Value), .int .i64 c.y].map A.val)) (ltN rfl) (OpX.tmp 1 (V.av [(.int .i64 c.x : Value), .int .i64 c.y])) (by intro y hy; simp [B.cs] at hy; rcases hy with rfl | rfl <;> rfl)) ?_
 refine w1 (acts_assign (d := 4) (ltN rfl) (OpX.const (.bool false))) ?_
 refine wpl_nil ?_
 refine wp_seq' ?_
 rcases Bool.eq_false_or_eq_true ((okc c.x c.y)) with c1 | c1
 ·skip
  have c1Q := okc_true.1 c1
  refine wp_region_t ?_
  refine w1 (acts_load_owns (d := 5) (t := 3) (h := 3) (off := 0) (o := ⟨53, 2, true, [(.val (.int .i64 c.x) : A), .val (.int .i64 c.y)]⟩)  (xs := [(.int .i64 c.x : Value), .int .i64 c.y].map A.val) (ltN rfl) qC1_ti_53 rfl (by decide) rfl) ?_
  refine w1 (acts_call1 (d := 6) (ltN rfl) (impl_CellOk_fn c ) (ArgVs.cons (ArgV.va (vs := [(.int .i64 c.x : Value), .int .i64 c.y]) (OpV.agg 5 [(.int .i64 c.x : Value), .int .i64 c.y])) (ArgVs.nil)) ((resval (congrArg Value.bool c1)))) ?_
  refine w1 (mv 7 6 (V.v (.bool true))) ?_
  refine w2 (step_on (dj := 7) rfl rfl (mv 8 0 (V.v (.int .u64 ((s : Nat) : Int))))) ?_
  refine w2 (step_on (dj := 7) rfl rfl (acts_load_owns (d := 9) (t := 3) (h := 3) (off := 0) (o := ⟨53, 2, true, [(.val (.int .i64 c.x) : A), .val (.int .i64 c.y)]⟩)  (xs := [(.int .i64 c.x : Value), .int .i64 c.y].map A.val) (ltN rfl) qC1_ti_53 rfl (by decide) rfl)) ?_
  refine w2 (step_on (dj := 7) rfl rfl (acts_call1 (d := 10) (ltN rfl) (impl_CellIndex_fn c (by omega)) (ArgVs.cons (ArgV.va (vs := [(.int .i64 c.x : Value), .int .i64 c.y]) (OpV.agg 9 [(.int .i64 c.x : Value), .int .i64 c.y])) (ArgVs.nil)) (ResV.val _))) ?_
  refine w2 (step_on (dj := 7) rfl rfl (bn 11 (OpV.tmp 8 (.int .u64 ((s : Nat) : Int))) (OpV.tmp 10 (.int .i64 (((idx c) : Nat) : Int))) (r_shr (c := (((s >>> (idx c)) : Nat) : Int)) (by omega) (shrU (m := s) (n := (idx c)) rfl rfl (by (first | omega | assumption | exact idx_lt (by assumption))) rfl)))) ?_
  refine w2 (step_on (dj := 7) rfl rfl (bn 12 (OpV.tmp 11 (.int .u64 (((s >>> (idx c)) : Nat) : Int))) (OpV.const (.int .u64 1)) (r_and (c := ((((s >>> (idx c)) &&& 1) : Nat) : Int)) (andU (m := (s >>> (idx c))) (n := 1) rfl rfl (by exact Nat.lt_of_le_of_lt (shr_le _ _) (by first | omega | assumption | (first | omega | assumption | exact idx_lt (by assumption)))) (by omega))))) ?_
  refine w2 (step_on (dj := 7) rfl rfl (bn 13 (OpV.tmp 12 (.int .u64 ((((s >>> (idx c)) &&& 1) : Nat) : Int))) (OpV.const (.int .u64 1)) (r_eql (c := (s.testBit (idx c))) (bit_one _ _)))) ?_
  refine w1 (acts_pick_t (d := 14) (ltN rfl) (OpV.tmp 7 (.bool true)) (OpX.tmp 13 (V.v (.bool (s.testBit (idx c)))))) ?_
  refine w1 (asg 4 14 (V.v (.bool (s.testBit (idx c))))) ?_
  refine wpl_nil ?_
  refine wp_ret' ?_
  exact VRes.tmp 4 (.a (.val (.bool (s.testBit (idx c))))) _ (by kernel_rfl) (bval (congrArg Value.bool (by (simp_all [hasS]; done))))
 ·skip
  have c1Q := okc_false.1 c1
  refine wp_region_t ?_
  refine w1 (acts_load_owns (d := 5) (t := 3) (h := 3) (off := 0) (o := ⟨53, 2, true, [(.val (.int .i64 c.x) : A), .val (.int .i64 c.y)]⟩)  (xs := [(.int .i64 c.x : Value), .int .i64 c.y].map A.val) (ltN rfl) qC1_ti_53 rfl (by decide) rfl) ?_
  refine w1 (acts_call1 (d := 6) (ltN rfl) (impl_CellOk_fn c ) (ArgVs.cons (ArgV.va (vs := [(.int .i64 c.x : Value), .int .i64 c.y]) (OpV.agg 5 [(.int .i64 c.x : Value), .int .i64 c.y])) (ArgVs.nil)) ((resval (congrArg Value.bool c1)))) ?_
  refine w1 (mv 7 6 (V.v (.bool false))) ?_
  refine w2 (step_off (dj := 7) (b' := false) rfl rfl (by decide) rfl (ltN rfl)) ?_
  refine w2 (step_off (dj := 7) (b' := false) rfl rfl (by decide) rfl (ltN rfl)) ?_
  refine w2 (step_off (dj := 7) (b' := false) rfl rfl (by decide) rfl (ltN rfl)) ?_
  refine w2 (step_off (dj := 7) (b' := false) rfl rfl (by decide) rfl (ltN rfl)) ?_
  refine w2 (step_off (dj := 7) (b' := false) rfl rfl (by decide) rfl (ltN rfl)) ?_
  refine w2 (step_off (dj := 7) (b' := false) rfl rfl (by decide) rfl (ltN rfl)) ?_
  refine w1 (acts_pick_f (d := 14) (ltN rfl) (OpV.tmp 7 (.bool false)) (OpX.const (.bool false))) ?_
  refine w1 (asg 4 14 (V.v (.bool false))) ?_
  refine wpl_nil ?_
  refine wp_ret' ?_
  exact VRes.tmp 4 (.a (.val (.bool false))) _ (by kernel_rfl) (bval (congrArg Value.bool (by (simp_all [hasS]; done))))

set_option maxHeartbeats 4000000 in
set_option maxRecDepth 100000 in
theorem impl_set__with_fn (s : Nat) (c : Cel) (hs : s < 18446744073709551616) (hc : okc c.x c.y = true) : Fn Try.prog 101 [.a (.val (.int .u64 ((s : Nat) : Int))), .agg ([(.int .i64 c.x : Value), .int .i64 c.y].map A.val)] [.val (.int .u64 (((addC s c) : Nat) : Int))] := by
 refine fn_intro (N := 10) Try.func101 rfl (by kernel_rfl) rfl (Nat.le_of_ble_eq_true rfl) [3, 7] (ret1 rfl) (fun W => ?_)
 show Wp _ _ _ [(.s 0, some (.s (V.v (.int .u64 ((s : Nat) : Int))))), (.s 1, some (.s (V.av [(.int .i64 c.x : Value), .int .i64 c.y]))), (.o 3, some .free), (.o 7, some .free)]
 refine wp_seq' ?_
 refine wp_region_t ?_
 refine w1 (acts_box (d := 3) (h := 3) (b := .agg ([(.int .i64 c.x : Value), .int .i64 c.y].map A.val)) (ltN rfl) (OpX.tmp 1 (V.av [(.int .i64 c.x : Value), .int .i64 c.y])) (by intro y hy; simp [B.cs] at hy; rcases hy with rfl | rfl <;> rfl)) ?_
 refine w1 (acts_assign (d := 4) (ltN rfl) (OpX.const (.int .u64 0))) ?_
 refine wpl_nil ?_
 refine wp_seq' ?_
 refine wp_region_t ?_
 refine w1 (mv 5 0 (V.v (.int .u64 ((s : Nat) : Int)))) ?_
 refine w1 (acts_load_owns (d := 6) (t := 3) (h := 3) (off := 0) (o := ⟨53, 2, true, [(.val (.int .i64 c.x) : A), .val (.int .i64 c.y)]⟩)  (xs := [(.int .i64 c.x : Value), .int .i64 c.y].map A.val) (ltN rfl) qC1_ti_53 rfl (by decide) rfl) ?_
 refine w1 (acts_call1 (d := 7) (ltN rfl) (impl_CellIndex_fn c (by omega)) (ArgVs.cons (ArgV.va (vs := [(.int .i64 c.x : Value), .int .i64 c.y]) (OpV.agg 6 [(.int .i64 c.x : Value), .int .i64 c.y])) (ArgVs.nil)) (ResV.val _)) ?_
 refine w1 (bn 8 (OpV.const (.int .u64 1)) (OpV.tmp 7 (.int .i64 (((idx c) : Nat) : Int))) (r_shl (c := (((2 ^ (idx c)) : Nat) : Int)) (by omega) (shl1U (n := (idx c)) rfl (by (first | omega | assumption | exact idx_lt (by assumption) | exact two_pow_u (idx_lt (by assumption)) | exact addC_lt (by assumption) (by assumption) | exact delC_lt (by assumption) _))))) ?_
 refine w1 (bn 9 (OpV.tmp 5 (.int .u64 ((s : Nat) : Int))) (OpV.tmp 8 (.int .u64 (((2 ^ (idx c)) : Nat) : Int))) (r_or (c := (((s ||| (2 ^ (idx c))) : Nat) : Int)) (orU (m := s) (n := (2 ^ (idx c))) rfl rfl (by omega) (by (first | omega | assumption | exact idx_lt (by assumption) | exact two_pow_u (idx_lt (by assumption)) | exact addC_lt (by assumption) (by assumption) | exact delC_lt (by assumption) _))))) ?_
 refine w1 (asg 4 9 (V.v (.int .u64 (((s ||| (2 ^ (idx c))) : Nat) : Int)))) ?_
 refine wpl_nil ?_
 refine wp_ret' ?_
 exact VRes.tmp 4 (.a (.val (.int .u64 (((s ||| (2 ^ (idx c))) : Nat) : Int)))) _ (by kernel_rfl) (bval (congrArg (Value.int .u64) (by rfl)))

set_option maxHeartbeats 4000000 in
set_option maxRecDepth 100000 in
theorem impl_set__cells_fn (s : Nat) (hs : s < 18446744073709551616) : Fn Try.prog 63 [.a (.val (.int .u64 ((s : Nat) : Int)))] [.row 53 2 (setCells s).length (csl (setCells s))] := by
 refine fn_intro (N := 21) Try.func63 rfl (by kernel_rfl) rfl (Nat.le_of_ble_eq_true rfl) [5, 16, 17, 18] (ret1 rfl) (fun W => ?_)
 show Wp _ _ _ [(.s 0, some (.s (V.v (.int .u64 ((s : Nat) : Int))))), (.o 5, some .free), (.o 16, some .free), (.o 17, some .free), (.o 18, some .free)]
 refine wp_seq' ?_
 refine wp_region_t ?_
 refine w1 (acts_assign (d := 2) (ltN rfl) (OpX.const (.slice none 0 0))) ?_
 refine wpl_nil ?_
 refine wp_seq' ?_
 refine wp_region_t ?_
 refine w1 (acts_buildSlice0' (d := 5) (h := 5) (s := 2) (ltN rfl) qC1_un_69 qC1_zi_53) ?_
 refine w1 (asg 3 5 (V.b (.a (.sl 5 0 0)))) ?_
 refine wpl_nil ?_
 refine wp_seq' ?_
 refine wp_seq' ?_
 refine wp_region_t ?_
 refine w1 (acts_move (d := 6) (ltN rfl) (OpX.const (.int .i64 0))) ?_
 refine wpl_nil ?_
 refine wp_block' ?_
 refine wp_loop' (fun (k : Nat) => k ≤ 64) (fun (k : Nat) => [(.s 0, some (.s (V.v (.int .u64 ((s : Nat) : Int))))), (.s 3, some (.s (V.b (.a (.sl 5 0 ((((List.range k).filter s.testBit).map cN).length)))))), (.s 6, some (.s (V.v (.int .i64 ((k : Nat) : Int))))), (.o 5, some (.o ⟨53, 2, true, pl (csl (((List.range k).filter s.testBit).map cN))⟩)), (.o 16, some .free), (.o 17, some .free), (.o 18, some .free)]) (fun (k : Nat) => 64 - k) ((0 : Nat)) (by exact (by omega : 0 ≤ 64)) (weak_of id [16, 17, 18] (by kernel_rfl) (wk_s (v' := V.v (.int .u64 ((s : Nat) : Int))) (by kernel_rfl) rfl rfl (wk_s (v' := V.b (.a (.sl 5 0 0))) (by kernel_rfl) (vsl (by rfl) rfl) rfl (wk_s (v' := V.v (.int .i64 0)) (by kernel_rfl) (vint (by rfl)) rfl (wk_o (o' := ⟨53, 2, true, pl (csl [])⟩) (by kernel_rfl) (renob_eq (fun h => h) (congrArg csl (by rfl))) rfl (wk_f rfl (wk_f rfl (wk_f rfl (wk_nil))))))))) ?_
 rintro k inv1
 replace inv1 : k ≤ 64 := inv1
 have inv := inv1
 show Wp _ _ _ [(.s 0, some (.s (V.v (.int .u64 ((s : Nat) : Int))))), (.s 3, some (.s (V.b (.a (.sl 5 0 ((((List.range k).filter s.testBit).map cN).length)))))), (.s 6, some (.s (V.v (.int .i64 ((k : Nat) : Int))))), (.o 5, some (.o ⟨53, 2, true, pl (csl (((List.range k).filter s.testBit).map cN))⟩)), (.o 16, some .free), (.o 17, some .free), (.o 18, some .free)]
 have hfl := range_len s.testBit k
 refine wp_seq' ?_
 refine wp_region_t ?_
 refine w1 (bn 7 (OpV.tmp 6 (.int .i64 ((k : Nat) : Int))) (OpV.const (.int .i64 64)) (r_lss (c := (decide (((k : Nat) : Int) < 64))) rfl)) ?_
 refine wpl_nil ?_
 refine wp_seq' ?_
 refine wp_if (t := 7) (decide (((k : Nat) : Int) < 64)) (by kernel_rfl) (fun c2 => ?_) (fun c2 => ?_)
 ·skip
  have c2P := of_decide_eq_true c2
  refine wp_skip' ?_
  refine wp_seq' ?_
  refine wp_block' ?_
  refine wp_seq' ?_
  refine wp_region_t ?_
  refine w1 (mv 8 6 (V.v (.int .i64 ((k : Nat) : Int)))) ?_
  refine w1 (asg 4 8 (V.v (.int .i64 ((k : Nat) : Int)))) ?_
  refine wpl_nil ?_
  refine wp_seq' ?_
  refine wp_region_t ?_
  refine w1 (mv 9 0 (V.v (.int .u64 ((s : Nat) : Int)))) ?_
  refine w1 (mv 10 4 (V.v (.int .i64 ((k : Nat) : Int)))) ?_
  refine w1 (bn 11 (OpV.tmp 9 (.int .u64 ((s : Nat) : Int))) (OpV.tmp 10 (.int .i64 ((k : Nat) : Int))) (r_shr (c := (((s >>> k) : Nat) : Int)) (by omega) (shrU (m := s) (n := k) rfl rfl (by omega) rfl))) ?_
  refine w1 (bn 12 (OpV.tmp 11 (.int .u64 (((s >>> k) : Nat) : Int))) (OpV.const (.int .u64 1)) (r_and (c := ((((s >>> k) &&& 1) : Nat) : Int)) (andU (m := (s >>> k)) (n := 1) rfl rfl (by exact Nat.lt_of_le_of_lt (shr_le _ _) (by first | omega | assumption | (first | omega | assumption))) (by omega)))) ?_
  refine w1 (bn 13 (OpV.tmp 12 (.int .u64 ((((s >>> k) &&& 1) : Nat) : Int))) (OpV.const (.int .u64 1)) (r_eql (c := (s.testBit k)) (bit_one _ _))) ?_
  refine wpl_nil ?_
  refine wp_if (t := 13) ((s.testBit k)) (by kernel_rfl) (fun c3 => ?_) (fun c3 => ?_)
  ·skip
   refine wp_region_t ?_
   refine w1 (mv 14 3 (V.b (.a (.sl 5 0 ((((List.range k).filter s.testBit).map cN).length))))) ?_
   refine w1 (mv 15 4 (V.v (.int .i64 ((k : Nat) : Int)))) ?_
   refine w1 (acts_call1 (d := 16) (ltN rfl) (impl_cellAt_fn k (by omega)) (ArgVs.cons (ArgV.v (OpV.tmp 15 (.int .i64 ((k : Nat) : Int)))) (ArgVs.nil)) (ResV.agg [(.int .i64 ((cN k).x) : Value), .int .i64 ((cN k).y)])) ?_
   refine w1 (acts_buildSlice' (d := 17) (h := 17) (n := 1) (s := 2) (xs := csl ([(cN k)] : List Cel)) (ltN rfl) qC1_un_69 qC1_zi_53 (OpVs.cons (i := 0) (OpV.agg 16 [(.int .i64 ((cN k).x) : Value), .int .i64 ((cN k).y)]) (OpVs.nil)) (by decide) (by decide) (by kernel_rfl) rfl) ?_
   refine w1 (acts_app (d := 18) (x := 14) (h := 5) (h2 := 18) (n := ((((List.range k).filter s.testBit).map cN).length)) (m := 1) (nm := (((((List.range k).filter s.testBit).map cN) ++ [(cN k)]).length)) (X := .sl 17 0 1) (xs := csl (((List.range k).filter s.testBit).map cN)) (ys := csl [(cN k)]) (zs := csl ((((List.range k).filter s.testBit).map cN) ++ [(cN k)])) (ltN rfl) qC1_un_69 qC1_zi_53 rfl (by decide) (by decide) (by exact csl_len _) (OpX.tmp 17 (V.b (.a (.sl 17 0 1)))) (src_own (h := 17) (T := 53) (s := 2) (ex := true) (n := 1) (by exact csl_len _)) (csl_one' _) (by omega) (by exact (csl_append _ _).symm) (by (simp; done))) ?_
   refine w1 (asg 3 18 (V.b (.a (.sl 18 0 (((((List.range k).filter s.testBit).map cN) ++ [(cN k)]).length))))) ?_
   refine wpl_nil ?_
   refine wp_region_t ?_
   refine w1 (bn 19 (OpV.tmp 6 (.int .i64 ((k : Nat) : Int))) (OpV.const (.int .i64 1)) (r_add (c := (((k : Nat) : Int) + 1)) (w64 (by omega) (by omega)))) ?_
   refine w1 (mv 6 19 (V.v (.int .i64 (((k : Nat) : Int) + 1)))) ?_
   refine wpl_nil ?_
   exact loop_back ((k + 1)) (by show _ ≤ _; omega) (by show 64 - (k + 1) < 64 - k; omega) (weak_of (subst1 [(5, 18)]) [16, 17, 18] (by kernel_rfl) (wk_s (v' := V.v (.int .u64 ((s : Nat) : Int))) (by kernel_rfl) rfl rfl (wk_s (v' := V.b (.a (.sl 18 0 (((((List.range k).filter s.testBit).map cN) ++ [(cN k)]).length)))) (by kernel_rfl) (vsl (by (exact congrArg List.length (by first | rfl | exact range_yes (by assumption) | exact range_no (by assumption) | omega))) rfl) rfl (wk_s (v' := V.v (.int .i64 (((k : Nat) : Int) + 1))) (by kernel_rfl) (vint (by rfl)) rfl (wk_o (o' := ⟨53, 2, true, pl (csl ((((List.range k).filter s.testBit).map cN) ++ [(cN k)]))⟩) (by kernel_rfl) (renob_eq (fun h => h) (congrArg csl (by exact range_yes (by assumption)))) rfl (wk_f rfl (wk_f rfl (wk_f rfl (wk_nil)))))))))
  ·skip
   refine wp_skip' ?_
   refine wp_region_t ?_
   refine w1 (bn 19 (OpV.tmp 6 (.int .i64 ((k : Nat) : Int))) (OpV.const (.int .i64 1)) (r_add (c := (((k : Nat) : Int) + 1)) (w64 (by omega) (by omega)))) ?_
   refine w1 (mv 6 19 (V.v (.int .i64 (((k : Nat) : Int) + 1)))) ?_
   refine wpl_nil ?_
   exact loop_back ((k + 1)) (by show _ ≤ _; omega) (by show 64 - (k + 1) < 64 - k; omega) (weak_of id [16, 17, 18] (by kernel_rfl) (wk_s (v' := V.v (.int .u64 ((s : Nat) : Int))) (by kernel_rfl) rfl rfl (wk_s (v' := V.b (.a (.sl 5 0 ((((List.range k).filter s.testBit).map cN).length)))) (by kernel_rfl) (vsl (by (exact congrArg List.length (by first | rfl | exact range_yes (by assumption) | exact range_no (by assumption) | omega))) rfl) rfl (wk_s (v' := V.v (.int .i64 (((k : Nat) : Int) + 1))) (by kernel_rfl) (vint (by rfl)) rfl (wk_o (o' := ⟨53, 2, true, pl (csl (((List.range k).filter s.testBit).map cN))⟩) (by kernel_rfl) (renob_eq (fun h => h) (congrArg csl (by exact range_no (by assumption)))) rfl (wk_f rfl (wk_f rfl (wk_f rfl (wk_nil)))))))))
 ·skip
  have c2P := of_decide_eq_false c2
  refine wp_exit' ?_
  refine wp_seq' ?_
  refine wp_region_t ?_
  refine w1 (mv 20 3 (V.b (.a (.sl 5 0 ((((List.range k).filter s.testBit).map cN).length))))) ?_
  refine w1 (asg 2 20 (V.b (.a (.sl 5 0 ((((List.range k).filter s.testBit).map cN).length))))) ?_
  refine wpl_nil ?_
  refine wp_ret' ?_
  exact VRes.tmp 2 (.a (.sl 5 0 ((((List.range k).filter s.testBit).map cN).length))) _ (by kernel_rfl) (brow_cels (h := 5) (L := (((List.range k).filter s.testBit).map cN)) (by kernel_rfl) (by (have e : k = 64 := by omega); subst e; rfl) (by rfl))

set_option maxHeartbeats 4000000 in
set_option maxRecDepth 100000 in
theorem impl_Region__set_fn (l : List Int) (ho : regOk l = true) : Fn Try.prog 46 [.agg [(.slv l.length 1 (isl l) : A)]] [.val (.int .u64 (((regSet l) : Nat) : Int))] := by
 obtain ⟨h8, hr⟩ := regOk_true ho
 refine fn_intro (N := 23) Try.func46 rfl (by kernel_rfl) rfl (Nat.le_of_ble_eq_true rfl) [1, 8] (ret1 rfl) (fun W => ?_)
 show Wp _ _ _ [(.s 0, some (.s (V.b (.agg [(.slv l.length 1 (isl l) : A)])))), (.o 1, some .free), (.o 8, some .free)]
 refine wp_seq' ?_
 refine wp_region_t ?_
 refine w1 (acts_box (d := 1) (h := 1) (b := .agg [(.slv l.length 1 (isl l) : A)]) (ltN rfl) (OpX.tmp 0 (V.b (.agg [(.slv l.length 1 (isl l) : A)]))) (by intro y hy; simp [B.cs] at hy; subst hy; rfl)) ?_
 refine w1 (acts_assign (d := 2) (ltN rfl) (OpX.const (.int .u64 0))) ?_
 refine wpl_nil ?_
 refine wp_seq' ?_
 refine wp_region_t ?_
 refine w1 (acts_assign (d := 3) (ltN rfl) (OpX.const (.int .u64 0))) ?_
 refine wpl_nil ?_
 refine wp_seq' ?_
 refine wp_seq' ?_
 refine wp_region_t ?_
 refine w1 (acts_field (d := 6) (t := 1) (h := 1) (off := 0) (off' := 0) (ltN rfl) qC1_fo_29_0 rfl) ?_
 refine w1 (acts_load_own (d := 7) (t := 6) (h := 1) (off := 0) (o := ⟨29, 1, true, [(.slv l.length 1 (isl l) : A)]⟩)  (x := .slv l.length 1 (isl l)) (ltN rfl) qC1_ti_22 rfl) ?_
 refine w1 (acts_len (d := 8) (X := .slv l.length 1 (isl l)) (n := l.length) (iv := ((l.length : Nat) : Int)) (ltN rfl) qC1_un_22 (OpX.tmp 7 (V.b (.a (.slv l.length 1 (isl l))))) (LenOf.slv _ _ _) rfl) ?_
 refine w1 (acts_move (d := 9) (ltN rfl) (OpX.const (.int .i64 0))) ?_
 refine wpl_nil ?_
 refine wp_block' ?_
 refine wp_loop' (fun (k : Nat) => k ≤ l.length) (fun (k : Nat) => [(.s 3, some (.s (V.v (.int .u64 (((rs l k) : Nat) : Int))))), (.s 7, some (.s (V.b (.a (.slv l.length 1 (isl l)))))), (.s 8, some (.s (V.v (.int .i64 ((l.length : Nat) : Int))))), (.s 9, some (.s (V.v (.int .i64 ((k : Nat) : Int))))), (.o 1, some .free), (.o 8, some .free)]) (fun (k : Nat) => l.length - k) ((0 : Nat)) (by exact (Nat.zero_le _ : 0 ≤ _)) (weak_of id [1, 8] (by kernel_rfl) (wk_s (v' := V.v (.int .u64 0)) (by kernel_rfl) (vint (by rfl)) rfl (wk_s (v' := V.b (.a (.slv l.length 1 (isl l)))) (by kernel_rfl) rfl rfl (wk_s (v' := V.v (.int .i64 ((l.length : Nat) : Int))) (by kernel_rfl) rfl rfl (wk_s (v' := V.v (.int .i64 0)) (by kernel_rfl) (vint (by rfl)) rfl (wk_f rfl (wk_f rfl (wk_nil)))))))) ?_
 rintro k inv1
 replace inv1 : k ≤ l.length := inv1
 have inv := inv1
 show Wp _ _ _ [(.s 3, some (.s (V.v (.int .u64 (((rs l k) : Nat) : Int))))), (.s 7, some (.s (V.b (.a (.slv l.length 1 (isl l)))))), (.s 8, some (.s (V.v (.int .i64 ((l.length : Nat) : Int))))), (.s 9, some (.s (V.v (.int .i64 ((k : Nat) : Int))))), (.o 1, some .free), (.o 8, some .free)]
 have hrs := rs_lt ho inv
 refine wp_seq' ?_
 refine wp_region_t ?_
 refine w1 (bn 10 (OpV.tmp 9 (.int .i64 ((k : Nat) : Int))) (OpV.tmp 8 (.int .i64 ((l.length : Nat) : Int))) (r_lss (c := (decide (((k : Nat) : Int) < ((l.length : Nat) : Int)))) rfl)) ?_
 refine wpl_nil ?_
 refine wp_seq' ?_
 refine wp_if (t := 10) (decide (((k : Nat) : Int) < ((l.length : Nat) : Int))) (by kernel_rfl) (fun c2 => ?_) (fun c2 => ?_)
 ·skip
  have c2P := of_decide_eq_true c2
  refine wp_skip' ?_
  refine wp_seq' ?_
  refine wp_block' ?_
  refine wp_seq' ?_
  refine wp_region_t ?_
  refine w1 (mv 11 9 (V.v (.int .i64 ((k : Nat) : Int)))) ?_
  refine w1 (acts_index_v (d := 12) (x := 7) (n := l.length) (s := 1) (k := k) (xs := isl l) (ltN rfl) qC1_un_22 qC1_sz_3 (OpV.tmp 9 (.int .i64 ((k : Nat) : Int))) rfl (by omega)) ?_
  refine w1 (acts_load_v (d := 13) (t := 12) (s := 1) (off := (k * 1)) (xs := isl l)  (v := .int .i64 (gI l k)) (ltN rfl) qC1_ti_3 (isl_get1 (k := k) (by omega))) ?_
  refine w1 (asg 4 11 (V.v (.int .i64 ((k : Nat) : Int)))) ?_
  refine w1 (asg 5 13 (V.v (.int .i64 (gI l k)))) ?_
  refine wpl_nil ?_
  refine wp_region_t ?_
  refine w1 (mv 14 3 (V.v (.int .u64 (((rs l k) : Nat) : Int)))) ?_
  refine w1 (mv 15 5 (V.v (.int .i64 (gI l k)))) ?_
  refine w1 (acts_conv (d := 16) (ltN rfl) (OpV.tmp 15 (.int .i64 (gI l k))) (r_conv (c := (gI l k)) qC1_un_3 qC1_un_65 (w_u64 (by (have := hr k (by omega); omega)) (by (have := hr k (by omega); omega))))) ?_
  refine w1 (mv 17 4 (V.v (.int .i64 ((k : Nat) : Int)))) ?_
  refine w1 (bn 18 (OpV.const (.int .i64 8)) (OpV.tmp 17 (.int .i64 ((k : Nat) : Int))) (r_mul (c := (8 * ((k : Nat) : Int))) (w64 (by omega) (by omega)))) ?_
  refine w1 (bn 19 (OpV.tmp 16 (.int .u64 (gI l k))) (OpV.tmp 18 (.int .i64 (8 * ((k : Nat) : Int)))) (r_shl (c := (((((gI l k).toNat) <<< (8 * k)) : Nat) : Int)) (by omega) (shlU (m := ((gI l k).toNat)) (n := (8 * k)) (Int.toNat_of_nonneg (by (have := hr k (by omega); omega))).symm (by rfl) (by omega) (by (first | omega | assumption | (have := hr k (by omega); exact shl_u (by omega) (by omega))))))) ?_
  refine w1 (bn 20 (OpV.tmp 14 (.int .u64 (((rs l k) : Nat) : Int))) (OpV.tmp 19 (.int .u64 (((((gI l k).toNat) <<< (8 * k)) : Nat) : Int))) (r_or (c := ((((rs l k) ||| (((gI l k).toNat) <<< (8 * k))) : Nat) : Int)) (orU (m := (rs l k)) (n := (((gI l k).toNat) <<< (8 * k))) rfl rfl (by omega) (by (first | omega | assumption | (have := hr k (by omega); exact shl_u (by omega) (by omega))))))) ?_
  refine w1 (asg 3 20 (V.v (.int .u64 ((((rs l k) ||| (((gI l k).toNat) <<< (8 * k))) : Nat) : Int)))) ?_
  refine wpl_nil ?_
  refine wp_region_t ?_
  refine w1 (bn 21 (OpV.tmp 9 (.int .i64 ((k : Nat) : Int))) (OpV.const (.int .i64 1)) (r_add (c := (((k : Nat) : Int) + 1)) (w64 (by omega) (by omega)))) ?_
  refine w1 (mv 9 21 (V.v (.int .i64 (((k : Nat) : Int) + 1)))) ?_
  refine wpl_nil ?_
  exact loop_back ((k + 1)) (by show _ ≤ _; omega) (by show l.length - (k + 1) < l.length - k; omega) (weak_of id [1, 8] (by kernel_rfl) (wk_s (v' := V.v (.int .u64 ((((rs l k) ||| (((gI l k).toNat) <<< (8 * k))) : Nat) : Int))) (by kernel_rfl) (vint (by rfl)) rfl (wk_s (v' := V.b (.a (.slv l.length 1 (isl l)))) (by kernel_rfl) rfl rfl (wk_s (v' := V.v (.int .i64 ((l.length : Nat) : Int))) (by kernel_rfl) rfl rfl (wk_s (v' := V.v (.int .i64 (((k : Nat) : Int) + 1))) (by kernel_rfl) (vint (by rfl)) rfl (wk_f rfl (wk_f rfl (wk_nil))))))))
 ·skip
  have c2P := of_decide_eq_false c2
  refine wp_exit' ?_
  refine wp_seq' ?_
  refine wp_region_t ?_
  refine w1 (mv 22 3 (V.v (.int .u64 (((rs l k) : Nat) : Int)))) ?_
  refine w1 (asg 2 22 (V.v (.int .u64 (((rs l k) : Nat) : Int)))) ?_
  refine wpl_nil ?_
  refine wp_ret' ?_
  exact VRes.tmp 2 (.a (.val (.int .u64 (((rs l k) : Nat) : Int)))) _ (by kernel_rfl) (bval (congrArg (Value.int .u64) (by (have e : k = l.length := by omega); subst e; rfl)))

set_option maxHeartbeats 4000000 in
set_option maxRecDepth 100000 in
theorem impl_RegionOk_fn (l : List Int) (hl : l.length ≤ 4194304) : Fn Try.prog 62 [.agg [(.slv l.length 1 (isl l) : A)]] [.val (.bool (regOk l))] := by
 refine fn_intro (N := 12) Try.func62 rfl (by kernel_rfl) rfl (Nat.le_of_ble_eq_true rfl) [1, 5, 10] (ret1 rfl) (fun W => ?_)
 show Wp _ _ _ [(.s 0, some (.s (V.b (.agg [(.slv l.length 1 (isl l) : A)])))), (.o 1, some .free), (.o 5, some .free), (.o 10, some .free)]
 refine wp_seq' ?_
 refine wp_region_t ?_
 refine w1 (acts_box (d := 1) (h := 1) (b := .agg [(.slv l.length 1 (isl l) : A)]) (ltN rfl) (OpX.tmp 0 (V.b (.agg [(.slv l.length 1 (isl l) : A)]))) (by intro y hy; simp [B.cs] at hy; subst hy; rfl)) ?_
 refine w1 (acts_assign (d := 2) (ltN rfl) (OpX.const (.bool false))) ?_
 refine wpl_nil ?_
 refine wp_seq' ?_
 rcases Bool.eq_false_or_eq_true (decide (((l.length : Nat) : Int) ≤ 8)) with c1 | c1
 ·skip
  have c1P := of_decide_eq_true c1
  refine wp_region_t ?_
  refine w1 (acts_field (d := 3) (t := 1) (h := 1) (off := 0) (off' := 0) (ltN rfl) qC1_fo_29_0 rfl) ?_
  refine w1 (acts_load_own (d := 4) (t := 3) (h := 1) (off := 0) (o := ⟨29, 1, true, [(.slv l.length 1 (isl l) : A)]⟩)  (x := .slv l.length 1 (isl l)) (ltN rfl) qC1_ti_22 rfl) ?_
  refine w1 (acts_len (d := 5) (X := .slv l.length 1 (isl l)) (n := l.length) (iv := ((l.length : Nat) : Int)) (ltN rfl) qC1_un_22 (OpX.tmp 4 (V.b (.a (.slv l.length 1 (isl l))))) (LenOf.slv _ _ _) rfl) ?_
  refine w1 (bn 6 (OpV.tmp 5 (.int .i64 ((l.length : Nat) : Int))) (OpV.const (.int .i64 8)) (r_leq (c := true) c1)) ?_
  refine w1 (mv 7 6 (V.v (.bool true))) ?_
  refine w2 (step_on (dj := 7) rfl rfl (acts_field (d := 8) (t := 1) (h := 1) (off := 0) (off' := 0) (ltN rfl) qC1_fo_29_0 rfl)) ?_
  refine w2 (step_on (dj := 7) rfl rfl (acts_load_own (d := 9) (t := 8) (h := 1) (off := 0) (o := ⟨29, 1, true, [(.slv l.length 1 (isl l) : A)]⟩)  (x := .slv l.length 1 (isl l)) (ltN rfl) qC1_ti_22 rfl)) ?_
  refine w2 (step_on (dj := 7) rfl rfl (acts_call1 (d := 10) (ltN rfl) (impl_allWithin_fn l 0 255 (by omega)) (ArgVs.cons (ArgV.slv 9 l.length 1 (isl l)) (ArgVs.cons (ArgV.v (OpV.const (.int .i64 0))) (ArgVs.cons (ArgV.v (OpV.const (.int .i64 255))) (ArgVs.nil)))) (ResV.val _))) ?_
  refine w1 (acts_pick_t (d := 11) (ltN rfl) (OpV.tmp 7 (.bool true)) (OpX.tmp 10 (V.v (.bool (allIn l 0 255))))) ?_
  refine w1 (asg 2 11 (V.v (.bool (allIn l 0 255)))) ?_
  refine wpl_nil ?_
  refine wp_ret' ?_
  exact VRes.tmp 2 (.a (.val (.bool (allIn l 0 255)))) _ (by kernel_rfl) (bval (congrArg Value.bool (by (unfold regOk; simp_all; (try intros); omega))))
 ·skip
  have c1P := of_decide_eq_false c1
  refine wp_region_t ?_
  refine w1 (acts_field (d := 3) (t := 1) (h := 1) (off := 0) (off' := 0) (ltN rfl) qC1_fo_29_0 rfl) ?_
  refine w1 (acts_load_own (d := 4) (t := 3) (h := 1) (off := 0) (o := ⟨29, 1, true, [(.slv l.length 1 (isl l) : A)]⟩)  (x := .slv l.length 1 (isl l)) (ltN rfl) qC1_ti_22 rfl) ?_
  refine w1 (acts_len (d := 5) (X := .slv l.length 1 (isl l)) (n := l.length) (iv := ((l.length : Nat) : Int)) (ltN rfl) qC1_un_22 (OpX.tmp 4 (V.b (.a (.slv l.length 1 (isl l))))) (LenOf.slv _ _ _) rfl) ?_
  refine w1 (bn 6 (OpV.tmp 5 (.int .i64 ((l.length : Nat) : Int))) (OpV.const (.int .i64 8)) (r_leq (c := false) c1)) ?_
  refine w1 (mv 7 6 (V.v (.bool false))) ?_
  refine w2 (step_off (dj := 7) (b' := false) rfl rfl (by decide) rfl (ltN rfl)) ?_
  refine w2 (step_off (dj := 7) (b' := false) rfl rfl (by decide) rfl (ltN rfl)) ?_
  refine w2 (step_off (dj := 7) (b' := false) rfl rfl (by decide) rfl (ltN rfl)) ?_
  refine w1 (acts_pick_f (d := 11) (ltN rfl) (OpV.tmp 7 (.bool false)) (OpX.const (.bool false))) ?_
  refine w1 (asg 2 11 (V.v (.bool false))) ?_
  refine wpl_nil ?_
  refine wp_ret' ?_
  exact VRes.tmp 2 (.a (.val (.bool false))) _ (by kernel_rfl) (bval (congrArg Value.bool (by (unfold regOk; simp_all; (try intros); omega))))

set_option maxHeartbeats 4000000 in
set_option maxRecDepth 100000 in
theorem spec_RegionOk_fn (l : List Int) (hl : l.length ≤ 4194304) : Fn Try.prog 57 [.agg [(.slv l.length 1 (isl l) : A)]] [.val (.bool (regOk l))] := by
 refine fn_intro (N := 22) Try.func57 rfl (by kernel_rfl) rfl (Nat.le_of_ble_eq_true rfl) [1, 7, 16, 20] (ret1 rfl) (fun W => ?_)
 show Wp _ _ _ [(.s 0, some (.s (V.b (.agg [(.slv l.length 1 (isl l) : A)])))), (.o 1, some .free), (.o 7, some .free), (.o 16, some .free), (.o 20, some .free)]
 refine wp_seq' ?_
 refine wp_region_t ?_
 refine w1 (acts_box (d := 1) (h := 1) (b := .agg [(.slv l.length 1 (isl l) : A)]) (ltN rfl) (OpX.tmp 0 (V.b (.agg [(.slv l.length 1 (isl l) : A)]))) (by intro y hy; simp [B.cs] at hy; subst hy; rfl)) ?_
 refine w1 (acts_assign (d := 2) (ltN rfl) (OpX.const (.bool false))) ?_
 refine wpl_nil ?_
 refine wp_seq' ?_
 refine wp_seq' ?_
 refine wp_region_t ?_
 refine w1 (acts_assign (d := 3) (ltN rfl) (OpX.const (.int .i64 0))) ?_
 refine wpl_nil ?_
 refine wp_block' ?_
 refine wp_loop' (fun (k : Nat) => k ≤ l.length ∧ allIn (l.take k) 0 255 = true) (fun (k : Nat) => [(.s 1, some (.s (V.p 1 0))), (.s 3, some (.s (V.v (.int .i64 ((k : Nat) : Int))))), (.o 1, some (.o ⟨29, 1, true, [(.slv l.length 1 (isl l) : A)]⟩)), (.o 7, some .free), (.o 16, some .free), (.o 20, some .free)]) (fun (k : Nat) => l.length - k) ((0 : Nat)) (by exact ⟨Nat.zero_le _, rfl⟩) (weak_of id [7, 16, 20] (by kernel_rfl) (wk_s (v' := V.p 1 0) (by kernel_rfl) rfl rfl (wk_s (v' := V.v (.int .i64 0)) (by kernel_rfl) (vint (by rfl)) rfl (wk_o (o' := ⟨29, 1, true, [(.slv l.length 1 (isl l) : A)]⟩) (by kernel_rfl) (renob_l (fun h => h) rfl rfl) rfl (wk_f rfl (wk_f rfl (wk_f rfl (wk_nil)))))))) ?_
 rintro k inv1
 replace inv1 : k ≤ l.length ∧ allIn (l.take k) 0 255 = true := inv1
 obtain ⟨inv1_0, inv1_1⟩ := inv1
 show Wp _ _ _ [(.s 1, some (.s (V.p 1 0))), (.s 3, some (.s (V.v (.int .i64 ((k : Nat) : Int))))), (.o 1, some (.o ⟨29, 1, true, [(.slv l.length 1 (isl l) : A)]⟩)), (.o 7, some .free), (.o 16, some .free), (.o 20, some .free)]
 refine wp_seq' ?_
 refine wp_seq' ?_
 refine wp_region_t ?_
 refine w1 (mv 4 3 (V.v (.int .i64 ((k : Nat) : Int)))) ?_
 refine w1 (acts_field (d := 5) (t := 1) (h := 1) (off := 0) (off' := 0) (ltN rfl) qC1_fo_29_0 rfl) ?_
 refine w1 (acts_load_own (d := 6) (t := 5) (h := 1) (off := 0) (o := ⟨29, 1, true, [(.slv l.length 1 (isl l) : A)]⟩)  (x := .slv l.length 1 (isl l)) (ltN rfl) qC1_ti_22 rfl) ?_
 refine w1 (acts_len (d := 7) (X := .slv l.length 1 (isl l)) (n := l.length) (iv := ((l.length : Nat) : Int)) (ltN rfl) qC1_un_22 (OpX.tmp 6 (V.b (.a (.slv l.length 1 (isl l))))) (LenOf.slv _ _ _) rfl) ?_
 refine w1 (bn 8 (OpV.tmp 4 (.int .i64 ((k : Nat) : Int))) (OpV.tmp 7 (.int .i64 ((l.length : Nat) : Int))) (r_lss (c := (decide (((k : Nat) : Int) < ((l.length : Nat) : Int)))) rfl)) ?_
 refine wpl_nil ?_
 refine wp_if (t := 8) (decide (((k : Nat) : Int) < ((l.length : Nat) : Int))) (by kernel_rfl) (fun c2 => ?_) (fun c2 => ?_)
 ·skip
  have c2P := of_decide_eq_true c2
  refine wp_skip' ?_
  refine wp_seq' ?_
  refine wp_block' ?_
  refine wp_seq' ?_
  refine wp_region_t ?_
  refine w1 (acts_field (d := 11) (t := 1) (h := 1) (off := 0) (off' := 0) (ltN rfl) qC1_fo_29_0 rfl) ?_
  refine w1 (acts_load_own (d := 12) (t := 11) (h := 1) (off := 0) (o := ⟨29, 1, true, [(.slv l.length 1 (isl l) : A)]⟩)  (x := .slv l.length 1 (isl l)) (ltN rfl) qC1_ti_22 rfl) ?_
  refine w1 (mv 13 3 (V.v (.int .i64 ((k : Nat) : Int)))) ?_
  refine w1 (acts_index_v (d := 14) (x := 12) (n := l.length) (s := 1) (k := k) (xs := isl l) (ltN rfl) qC1_un_22 qC1_sz_3 (OpV.tmp 13 (.int .i64 ((k : Nat) : Int))) rfl (by omega)) ?_
  refine w1 (acts_load_v (d := 15) (t := 14) (s := 1) (off := (k * 1)) (xs := isl l)  (v := .int .i64 (gI l k)) (ltN rfl) qC1_ti_3 (isl_get1 (k := k) (by omega))) ?_
  refine w1 (acts_call1 (d := 16) (ltN rfl) (spec_l01In_fn (gI l k) 0 255 ) (ArgVs.cons (ArgV.v (OpV.tmp 15 (.int .i64 (gI l k)))) (ArgVs.cons (ArgV.v (OpV.const (.int .i64 0))) (ArgVs.cons (ArgV.v (OpV.const (.int .i64 255))) (ArgVs.nil)))) (ResV.val _)) ?_
  refine w1 (acts_un (d := 17) (ltN rfl) (OpV.tmp 16 (.bool (inB (gI l k) 0 255))) (r_not (c := (!(inB (gI l k) 0 255))) rfl)) ?_
  refine wpl_nil ?_
  refine wp_if (t := 17) ((!(inB (gI l k) 0 255))) (by kernel_rfl) (fun c3 => ?_) (fun c3 => ?_)
  ·skip
   have c4 : (inB (gI l k) 0 255) = false := by simpa using c3
   have c4Q := inB_false.1 c4
   refine wp_seq' ?_
   refine wp_region_t ?_
   refine w1 (acts_assign (d := 2) (ltN rfl) (OpX.const (.bool false))) ?_
   refine wpl_nil ?_
   refine wp_ret' ?_
   exact VRes.tmp 2 (.a (.val (.bool false))) _ (by kernel_rfl) (bval (congrArg Value.bool (by exact (regOk_spec (k := k) (by omega) (by assumption)).symm)))
  ·skip
   have c5 : (inB (gI l k) 0 255) = true := by simpa using c3
   have c5Q := inB_true.1 c5
   refine wp_skip' ?_
   refine wp_region_t ?_
   refine w1 (mv 9 3 (V.v (.int .i64 ((k : Nat) : Int)))) ?_
   refine w1 (bn 10 (OpV.tmp 9 (.int .i64 ((k : Nat) : Int))) (OpV.const (.int .i64 1)) (r_add (c := (((k : Nat) : Int) + 1)) (w64 (by omega) (by omega)))) ?_
   refine w1 (asg 3 10 (V.v (.int .i64 (((k : Nat) : Int) + 1)))) ?_
   refine wpl_nil ?_
   exact loop_back ((k + 1)) (by exact ⟨by omega, allIn_snoc (by omega) (by assumption) (by assumption)⟩) (by show l.length - (k + 1) < l.length - k; omega) (weak_of id [7, 16, 20] (by kernel_rfl) (wk_s (v' := V.p 1 0) (by kernel_rfl) rfl rfl (wk_s (v' := V.v (.int .i64 (((k : Nat) : Int) + 1))) (by kernel_rfl) (vint (by rfl)) rfl (wk_o (o' := ⟨29, 1, true, [(.slv l.length 1 (isl l) : A)]⟩) (by kernel_rfl) (renob_l (fun h => h) rfl rfl) rfl (wk_f rfl (wk_f rfl (wk_f rfl (wk_nil))))))))
 ·skip
  have c2P := of_decide_eq_false c2
  refine wp_exit' ?_
  refine wp_seq' ?_
  refine wp_region_t ?_
  refine w1 (acts_field (d := 18) (t := 1) (h := 1) (off := 0) (off' := 0) (ltN rfl) qC1_fo_29_0 rfl) ?_
  refine w1 (acts_load_own (d := 19) (t := 18) (h := 1) (off := 0) (o := ⟨29, 1, true, [(.slv l.length 1 (isl l) : A)]⟩)  (x := .slv l.length 1 (isl l)) (ltN rfl) qC1_ti_22 rfl) ?_
  refine w1 (acts_len (d := 20) (X := .slv l.length 1 (isl l)) (n := l.length) (iv := ((l.length : Nat) : Int)) (ltN rfl) qC1_un_22 (OpX.tmp 19 (V.b (.a (.slv l.length 1 (isl l))))) (LenOf.slv _ _ _) rfl) ?_
  refine w1 (bn 21 (OpV.tmp 20 (.int .i64 ((l.length : Nat) : Int))) (OpV.const (.int .i64 8)) (r_leq (c := (decide (((l.length : Nat) : Int) ≤ 8))) rfl)) ?_
  refine w1 (asg 2 21 (V.v (.bool (decide (((l.length : Nat) : Int) ≤ 8))))) ?_
  refine wpl_nil ?_
  refine wp_ret' ?_
  exact VRes.tmp 2 (.a (.val (.bool (decide (((l.length : Nat) : Int) ≤ 8))))) _ (by kernel_rfl) (bval (congrArg Value.bool (by rw [regOk_spec2 (allIn_end (by omega) (by assumption))]; simp; omega)))

set_option maxHeartbeats 4000000 in
set_option maxRecDepth 100000 in
theorem spec_l03Has_fn (l : List Int) (c : Cel) (ho : regOk l = true) (hc : okc c.x c.y = true) : Fn Try.prog 74 [.agg [(.slv l.length 1 (isl l) : A)], .agg ([(.int .i64 c.x : Value), .int .i64 c.y].map A.val)] [.val (.bool (hasR l c))] := by
 obtain ⟨h8, hr⟩ := regOk_true ho
 have hq := okc_true.1 hc
 refine fn_intro (N := 24) Try.func74 rfl (by kernel_rfl) rfl (Nat.le_of_ble_eq_true rfl) [2, 3, 9] (ret1 rfl) (fun W => ?_)
 show Wp _ _ _ [(.s 0, some (.s (V.b (.agg [(.slv l.length 1 (isl l) : A)])))), (.s 1, some (.s (V.av [(.int .i64 c.x : Value), .int .i64 c.y]))), (.o 2, some .free), (.o 3, some .free), (.o 9, some .free)]
 refine wp_seq' ?_
 refine wp_region_t ?_
 refine w1 (acts_box (d := 2) (h := 2) (b := .agg [(.slv l.length 1 (isl l) : A)]) (ltN rfl) (OpX.tmp 0 (V.b (.agg [(.slv l.length 1 (isl l) : A)]))) (by intro y hy; simp [B.cs] at hy; subst hy; rfl)) ?_
 refine w1 (acts_box (d := 3) (h := 3) (b := .agg ([(.int .i64 c.x : Value), .int .i64 c.y].map A.val)) (ltN rfl) (OpX.tmp 1 (V.av [(.int .i64 c.x : Value), .int .i64 c.y])) (by intro y hy; simp [B.cs] at hy; rcases hy with rfl | rfl <;> rfl)) ?_
 refine w1 (acts_assign (d := 4) (ltN rfl) (OpX.const (.bool false))) ?_
 refine wpl_nil ?_
 refine wp_seq' ?_
 rcases Bool.eq_false_or_eq_true (decide (c.y < ((l.length : Nat) : Int))) with c1 | c1
 ·skip
  have c1P := of_decide_eq_true c1
  refine wp_drawn' (by kernel_rfl) (AllSteps.cons (step_plain rfl (acts_field (d := 5) (t := 3) (h := 3) (off := 0) (off' := 1) (ltN rfl) qC1_fo_53_1 rfl)) (AllSteps.cons (step_plain rfl (acts_load_own (d := 6) (t := 5) (h := 3) (off := 1) (o := ⟨53, 2, true, [(.val (.int .i64 c.x) : A), .val (.int .i64 c.y)]⟩)  (x := .val (.int .i64 c.y)) (ltN rfl) qC1_ti_3 rfl)) (AllSteps.cons (step_plain rfl (acts_field (d := 7) (t := 2) (h := 2) (off := 0) (off' := 0) (ltN rfl) qC1_fo_29_0 rfl)) (AllSteps.cons (step_plain rfl (acts_load_own (d := 8) (t := 7) (h := 2) (off := 0) (o := ⟨29, 1, true, [(.slv l.length 1 (isl l) : A)]⟩)  (x := .slv l.length 1 (isl l)) (ltN rfl) qC1_ti_22 rfl)) (AllSteps.cons (step_plain rfl (acts_len (d := 9) (X := .slv l.length 1 (isl l)) (n := l.length) (iv := ((l.length : Nat) : Int)) (ltN rfl) qC1_un_22 (OpX.tmp 8 (V.b (.a (.slv l.length 1 (isl l))))) (LenOf.slv _ _ _) rfl)) (AllSteps.cons (step_plain rfl (bn 10 (OpV.tmp 6 (.int .i64 c.y)) (OpV.tmp 9 (.int .i64 ((l.length : Nat) : Int))) (r_lss (c := true) c1))) (AllSteps.cons (step_plain rfl (mv 11 10 (V.v (.bool true)))) (AllSteps.cons (step_on (dj := 11) rfl rfl (acts_field (d := 12) (t := 2) (h := 2) (off := 0) (off' := 0) (ltN rfl) qC1_fo_29_0 rfl)) (AllSteps.cons (step_on (dj := 11) rfl rfl (acts_load_own (d := 13) (t := 12) (h := 2) (off := 0) (o := ⟨29, 1, true, [(.slv l.length 1 (isl l) : A)]⟩)  (x := .slv l.length 1 (isl l)) (ltN rfl) qC1_ti_22 rfl)) (AllSteps.cons (step_on (dj := 11) rfl rfl (acts_field (d := 14) (t := 3) (h := 3) (off := 0) (off' := 1) (ltN rfl) qC1_fo_53_1 rfl)) (AllSteps.cons (step_on (dj := 11) rfl rfl (acts_load_own (d := 15) (t := 14) (h := 3) (off := 1) (o := ⟨53, 2, true, [(.val (.int .i64 c.x) : A), .val (.int .i64 c.y)]⟩)  (x := .val (.int .i64 c.y)) (ltN rfl) qC1_ti_3 rfl)) (AllSteps.cons (step_on (dj := 11) rfl rfl (acts_index_v (d := 16) (x := 13) (n := l.length) (s := 1) (k := c.y.toNat) (xs := isl l) (ltN rfl) qC1_un_22 qC1_sz_3 (OpV.tmp 15 (.int .i64 c.y)) (Int.toNat_of_nonneg (by omega)).symm (by omega))) (AllSteps.cons (step_on (dj := 11) rfl rfl (acts_load_v (d := 17) (t := 16) (s := 1) (off := (c.y.toNat * 1)) (xs := isl l)  (v := .int .i64 (gI l c.y.toNat)) (ltN rfl) qC1_ti_3 (isl_get1 (k := c.y.toNat) (by omega)))) (AllSteps.cons (step_on (dj := 11) rfl rfl (acts_field (d := 18) (t := 3) (h := 3) (off := 0) (off' := 0) (ltN rfl) qC1_fo_53_0 rfl)) (AllSteps.cons (step_on (dj := 11) rfl rfl (acts_load_own (d := 19) (t := 18) (h := 3) (off := 0) (o := ⟨53, 2, true, [(.val (.int .i64 c.x) : A), .val (.int .i64 c.y)]⟩)  (x := .val (.int .i64 c.x)) (ltN rfl) qC1_ti_3 rfl)) (AllSteps.cons (step_on (dj := 11) rfl rfl (bn 20 (OpV.tmp 17 (.int .i64 (gI l c.y.toNat))) (OpV.tmp 19 (.int .i64 c.x)) (r_shr (c := (((((gI l c.y.toNat).toNat) >>> c.x.toNat) : Nat) : Int)) (by omega) (shrU (m := ((gI l c.y.toNat).toNat)) (n := c.x.toNat) (Int.toNat_of_nonneg (by (have := hr c.y.toNat (by omega); omega))).symm (Int.toNat_of_nonneg (by omega)).symm (by omega) rfl)))) (AllSteps.cons (step_on (dj := 11) rfl rfl (bn 21 (OpV.tmp 20 (.int .i64 (((((gI l c.y.toNat).toNat) >>> c.x.toNat) : Nat) : Int))) (OpV.const (.int .i64 1)) (r_and (c := ((((((gI l c.y.toNat).toNat) >>> c.x.toNat) &&& 1) : Nat) : Int)) (andI (m := (((gI l c.y.toNat).toNat) >>> c.x.toNat)) (n := 1) rfl rfl (by exact Nat.lt_of_le_of_lt (shr_le _ _) (by first | omega | assumption | (first | omega | (have := hr c.y.toNat (by omega); omega)))) (by omega))))) (AllSteps.cons (step_on (dj := 11) rfl rfl (bn 22 (OpV.tmp 21 (.int .i64 ((((((gI l c.y.toNat).toNat) >>> c.x.toNat) &&& 1) : Nat) : Int))) (OpV.const (.int .i64 1)) (r_eql (c := (((gI l c.y.toNat).toNat).testBit c.x.toNat)) (bit_one _ _)))) (AllSteps.cons (step_plain rfl (acts_pick_t (d := 23) (ltN rfl) (OpV.tmp 11 (.bool true)) (OpX.tmp 22 (V.v (.bool (((gI l c.y.toNat).toNat).testBit c.x.toNat)))))) (AllSteps.cons (step_plain rfl (asg 4 23 (V.v (.bool (((gI l c.y.toNat).toNat).testBit c.x.toNat))))) (AllSteps.nil))))))))))))))))))))) (by kernel_rfl) (by kernel_rfl) (by kernel_rfl) ?_
  refine wp_ret' ?_
  exact VRes.tmp 4 (.a (.val (.bool (((gI l c.y.toNat).toNat).testBit c.x.toNat)))) _ (by kernel_rfl) (bval (congrArg Value.bool (by (simp_all [hasR]; done))))
 ·skip
  have c1P := of_decide_eq_false c1
  refine wp_drawn' (by kernel_rfl) (AllSteps.cons (step_plain rfl (acts_field (d := 5) (t := 3) (h := 3) (off := 0) (off' := 1) (ltN rfl) qC1_fo_53_1 rfl)) (AllSteps.cons (step_plain rfl (acts_load_own (d := 6) (t := 5) (h := 3) (off := 1) (o := ⟨53, 2, true, [(.val (.int .i64 c.x) : A), .val (.int .i64 c.y)]⟩)  (x := .val (.int .i64 c.y)) (ltN rfl) qC1_ti_3 rfl)) (AllSteps.cons (step_plain rfl (acts_field (d := 7) (t := 2) (h := 2) (off := 0) (off' := 0) (ltN rfl) qC1_fo_29_0 rfl)) (AllSteps.cons (step_plain rfl (acts_load_own (d := 8) (t := 7) (h := 2) (off := 0) (o := ⟨29, 1, true, [(.slv l.length 1 (isl l) : A)]⟩)  (x := .slv l.length 1 (isl l)) (ltN rfl) qC1_ti_22 rfl)) (AllSteps.cons (step_plain rfl (acts_len (d := 9) (X := .slv l.length 1 (isl l)) (n := l.length) (iv := ((l.length : Nat) : Int)) (ltN rfl) qC1_un_22 (OpX.tmp 8 (V.b (.a (.slv l.length 1 (isl l))))) (LenOf.slv _ _ _) rfl)) (AllSteps.cons (step_plain rfl (bn 10 (OpV.tmp 6 (.int .i64 c.y)) (OpV.tmp 9 (.int .i64 ((l.length : Nat) : Int))) (r_lss (c := false) c1))) (AllSteps.cons (step_plain rfl (mv 11 10 (V.v (.bool false)))) (AllSteps.cons (step_off (dj := 11) (b' := false) rfl rfl (by decide) rfl (ltN rfl)) (AllSteps.cons (step_off (dj := 11) (b' := false) rfl rfl (by decide) rfl (ltN rfl)) (AllSteps.cons (step_off (dj := 11) (b' := false) rfl rfl (by decide) rfl (ltN rfl)) (AllSteps.cons (step_off (dj := 11) (b' := false) rfl rfl (by decide) rfl (ltN rfl)) (AllSteps.cons (step_off (dj := 11) (b' := false) rfl rfl (by decide) rfl (ltN rfl)) (AllSteps.cons (step_off (dj := 11) (b' := false) rfl rfl (by decide) rfl (ltN rfl)) (AllSteps.cons (step_off (dj := 11) (b' := false) rfl rfl (by decide) rfl (ltN rfl)) (AllSteps.cons (step_off (dj := 11) (b' := false) rfl rfl (by decide) rfl (ltN rfl)) (AllSteps.cons (step_off (dj := 11) (b' := false) rfl rfl (by decide) rfl (ltN rfl)) (AllSteps.cons (step_off (dj := 11) (b' := false) rfl rfl (by decide) rfl (ltN rfl)) (AllSteps.cons (step_off (dj := 11) (b' := false) rfl rfl (by decide) rfl (ltN rfl)) (AllSteps.cons (step_plain rfl (acts_pick_f (d := 23) (ltN rfl) (OpV.tmp 11 (.bool false)) (OpX.const (.bool false)))) (AllSteps.cons (step_plain rfl (asg 4 23 (V.v (.bool false)))) (AllSteps.nil))))))))))))))))))))) (by kernel_rfl) (by kernel_rfl) (by kernel_rfl) ?_
  refine wp_ret' ?_
  exact VRes.tmp 4 (.a (.val (.bool false))) _ (by kernel_rfl) (bval (congrArg Value.bool (by (unfold hasR; simp_all; (try intros); omega))))

set_option maxHeartbeats 4000000 in
set_option maxRecDepth 100000 in
theorem spec_HasCell_fn (l : List Int) (c : Cel) (hl : l.length ≤ 4194304) : Fn Try.prog 38 [.agg [(.slv l.length 1 (isl l) : A)], .agg ([(.int .i64 c.x : Value), .int .i64 c.y].map A.val)] [.val (.bool (hasC l c))] := by
 refine fn_intro (N := 16) Try.func38 rfl (by kernel_rfl) rfl (Nat.le_of_ble_eq_true rfl) [2, 3, 6, 9, 14] (ret1 rfl) (fun W => ?_)
 show Wp _ _ _ [(.s 0, some (.s (V.b (.agg [(.slv l.length 1 (isl l) : A)])))), (.s 1, some (.s (V.av [(.int .i64 c.x : Value), .int .i64 c.y]))), (.o 2, some .free), (.o 3, some .free), (.o 6, some .free), (.o 9, some .free), (.o 14, some .free)]
 refine wp_seq' ?_
 refine wp_region_t ?_
 refine w1 (acts_box (d := 2) (h := 2) (b := .agg [(.slv l.length 1 (isl l) : A)]) (ltN rfl) (OpX.tmp 0 (V.b (.agg [(.slv l.length 1 (isl l) : A)]))) (by intro y hy; simp [B.cs] at hy; subst hy; rfl)) ?_
 refine w1 (acts_box (d := 3) (h := 3) (b := .agg ([(.int .i64 c.x : Value), .int .i64 c.y].map A.val)) (ltN rfl) (OpX.tmp 1 (V.av [(.int .i64 c.x : Value), .int .i64 c.y])) (by intro y hy; simp [B.cs] at hy; rcases hy with rfl | rfl <;> rfl)) ?_
 refine w1 (acts_assign (d := 4) (ltN rfl) (OpX.const (.bool false))) ?_
 refine wpl_nil ?_
 refine wp_seq' ?_
 rcases Bool.eq_false_or_eq_true ((regOk l)) with c1 | c1
 ·skip
  rcases Bool.eq_false_or_eq_true ((okc c.x c.y)) with c2 | c2
  ·skip
   have c2Q := okc_true.1 c2
   refine wp_region_t ?_
   refine w1 (acts_load_owns (d := 5) (t := 2) (h := 2) (off := 0) (o := ⟨29, 1, true, [(.slv l.length 1 (isl l) : A)]⟩)  (xs := [(.slv l.length 1 (isl l) : A)]) (ltN rfl) qC1_ti_29 rfl (by decide) rfl) ?_
   refine w1 (acts_call1 (d := 6) (ltN rfl) (spec_RegionOk_fn l (by omega)) (ArgVs.cons (ArgV.regv 5 l.length 1 (isl l)) (ArgVs.nil)) ((resval (congrArg Value.bool c1)))) ?_
   refine w1 (mv 7 6 (V.v (.bool true))) ?_
   refine w2 (step_on (dj := 7) rfl rfl (acts_load_owns (d := 8) (t := 3) (h := 3) (off := 0) (o := ⟨53, 2, true, [(.val (.int .i64 c.x) : A), .val (.int .i64 c.y)]⟩)  (xs := [(.int .i64 c.x : Value), .int .i64 c.y].map A.val) (ltN rfl) qC1_ti_53 rfl (by decide) rfl)) ?_
   refine w2 (step_on (dj := 7) rfl rfl (acts_call1 (d := 9) (ltN rfl) (spec_CellOk_fn c ) (ArgVs.cons (ArgV.va (vs := [(.int .i64 c.x : Value), .int .i64 c.y]) (OpV.agg 8 [(.int .i64 c.x : Value), .int .i64 c.y])) (ArgVs.nil)) ((resval (congrArg Value.bool c2))))) ?_
   refine w1 (acts_pick_t (d := 10) (ltN rfl) (OpV.tmp 7 (.bool true)) (OpX.tmp 9 (V.v (.bool true)))) ?_
   refine w1 (mv 11 10 (V.v (.bool true))) ?_
   refine w2 (step_on (dj := 11) rfl rfl (acts_load_owns (d := 12) (t := 2) (h := 2) (off := 0) (o := ⟨29, 1, true, [(.slv l.length 1 (isl l) : A)]⟩)  (xs := [(.slv l.length 1 (isl l) : A)]) (ltN rfl) qC1_ti_29 rfl (by decide) rfl)) ?_
   refine w2 (step_on (dj := 11) rfl rfl (acts_load_owns (d := 13) (t := 3) (h := 3) (off := 0) (o := ⟨53, 2, true, [(.val (.int .i64 c.x) : A), .val (.int .i64 c.y)]⟩)  (xs := [(.int .i64 c.x : Value), .int .i64 c.y].map A.val) (ltN rfl) qC1_ti_53 rfl (by decide) rfl)) ?_
   refine w2 (step_on (dj := 11) rfl rfl (acts_call1 (d := 14) (ltN rfl) (spec_l03Has_fn l c (by omega) (by omega)) (ArgVs.cons (ArgV.regv 12 l.length 1 (isl l)) (ArgVs.cons (ArgV.va (vs := [(.int .i64 c.x : Value), .int .i64 c.y]) (OpV.agg 13 [(.int .i64 c.x : Value), .int .i64 c.y])) (ArgVs.nil))) (ResV.val _))) ?_
   refine w1 (acts_pick_t (d := 15) (ltN rfl) (OpV.tmp 11 (.bool true)) (OpX.tmp 14 (V.v (.bool (hasR l c))))) ?_
   refine w1 (asg 4 15 (V.v (.bool (hasR l c)))) ?_
   refine wpl_nil ?_
   refine wp_ret' ?_
   exact VRes.tmp 4 (.a (.val (.bool (hasR l c)))) _ (by kernel_rfl) (bval (congrArg Value.bool (by exact hasC_spec (by assumption) (by assumption))))
  ·skip
   have c2Q := okc_false.1 c2
   refine wp_region_t ?_
   refine w1 (acts_load_owns (d := 5) (t := 2) (h := 2) (off := 0) (o := ⟨29, 1, true, [(.slv l.length 1 (isl l) : A)]⟩)  (xs := [(.slv l.length 1 (isl l) : A)]) (ltN rfl) qC1_ti_29 rfl (by decide) rfl) ?_
   refine w1 (acts_call1 (d := 6) (ltN rfl) (spec_RegionOk_fn l (by omega)) (ArgVs.cons (ArgV.regv 5 l.length 1 (isl l)) (ArgVs.nil)) ((resval (congrArg Value.bool c1)))) ?_
   refine w1 (mv 7 6 (V.v (.bool true))) ?_
   refine w2 (step_on (dj := 7) rfl rfl (acts_load_owns (d := 8) (t := 3) (h := 3) (off := 0) (o := ⟨53, 2, true, [(.val (.int .i64 c.x) : A), .val (.int .i64 c.y)]⟩)  (xs := [(.int .i64 c.x : Value), .int .i64 c.y].map A.val) (ltN rfl) qC1_ti_53 rfl (by decide) rfl)) ?_
   refine w2 (step_on (dj := 7) rfl rfl (acts_call1 (d := 9) (ltN rfl) (spec_CellOk_fn c ) (ArgVs.cons (ArgV.va (vs := [(.int .i64 c.x : Value), .int .i64 c.y]) (OpV.agg 8 [(.int .i64 c.x : Value), .int .i64 c.y])) (ArgVs.nil)) ((resval (congrArg Value.bool c2))))) ?_
   refine w1 (acts_pick_t (d := 10) (ltN rfl) (OpV.tmp 7 (.bool true)) (OpX.tmp 9 (V.v (.bool false)))) ?_
   refine w1 (mv 11 10 (V.v (.bool false))) ?_
   refine w2 (step_off (dj := 11) (b' := false) rfl rfl (by decide) rfl (ltN rfl)) ?_
   refine w2 (step_off (dj := 11) (b' := false) rfl rfl (by decide) rfl (ltN rfl)) ?_
   refine w2 (step_off (dj := 11) (b' := false) rfl rfl (by decide) rfl (ltN rfl)) ?_
   refine w1 (acts_pick_f (d := 15) (ltN rfl) (OpV.tmp 11 (.bool false)) (OpX.const (.bool false))) ?_
   refine w1 (asg 4 15 (V.v (.bool false))) ?_
   refine wpl_nil ?_
   refine wp_ret' ?_
   exact VRes.tmp 4 (.a (.val (.bool false))) _ (by kernel_rfl) (bval (congrArg Value.bool (by (simp_all [hasC]; done))))
 ·skip
  refine wp_region_t ?_
  refine w1 (acts_load_owns (d := 5) (t := 2) (h := 2) (off := 0) (o := ⟨29, 1, true, [(.slv l.length 1 (isl l) : A)]⟩)  (xs := [(.slv l.length 1 (isl l) : A)]) (ltN rfl) qC1_ti_29 rfl (by decide) rfl) ?_
  refine w1 (acts_call1 (d := 6) (ltN rfl) (spec_RegionOk_fn l (by omega)) (ArgVs.cons (ArgV.regv 5 l.length 1 (isl l)) (ArgVs.nil)) ((resval (congrArg Value.bool c1)))) ?_
  refine w1 (mv 7 6 (V.v (.bool false))) ?_
  refine w2 (step_off (dj := 7) (b' := false) rfl rfl (by decide) rfl (ltN rfl)) ?_
  refine w2 (step_off (dj := 7) (b' := false) rfl rfl (by decide) rfl (ltN rfl)) ?_
  refine w1 (acts_pick_f (d := 10) (ltN rfl) (OpV.tmp 7 (.bool false)) (OpX.const (.bool false))) ?_
  refine w1 (mv 11 10 (V.v (.bool false))) ?_
  refine w2 (step_off (dj := 11) (b' := false) rfl rfl (by decide) rfl (ltN rfl)) ?_
  refine w2 (step_off (dj := 11) (b' := false) rfl rfl (by decide) rfl (ltN rfl)) ?_
  refine w2 (step_off (dj := 11) (b' := false) rfl rfl (by decide) rfl (ltN rfl)) ?_
  refine w1 (acts_pick_f (d := 15) (ltN rfl) (OpV.tmp 11 (.bool false)) (OpX.const (.bool false))) ?_
  refine w1 (asg 4 15 (V.v (.bool false))) ?_
  refine wpl_nil ?_
  refine wp_ret' ?_
  exact VRes.tmp 4 (.a (.val (.bool false))) _ (by kernel_rfl) (bval (congrArg Value.bool (by (simp_all [hasC]; done))))

set_option maxHeartbeats 4000000 in
set_option maxRecDepth 100000 in
theorem spec_CellsOf_fn (l : List Int) (hl : l.length ≤ 4194304) : Fn Try.prog 58 [.agg [(.slv l.length 1 (isl l) : A)]] [.row 53 2 (cellsOf l).length (csl (cellsOf l))] := by
 refine fn_intro (N := 29) Try.func58 rfl (by kernel_rfl) rfl (Nat.le_of_ble_eq_true rfl) [1, 5, 7, 12, 18, 23, 26, 27] (ret1 rfl) (fun W => ?_)
 show Wp _ _ _ [(.s 0, some (.s (V.b (.agg [(.slv l.length 1 (isl l) : A)])))), (.o 1, some .free), (.o 5, some .free), (.o 7, some .free), (.o 12, some .free), (.o 18, some .free), (.o 23, some .free), (.o 26, some .free), (.o 27, some .free)]
 refine wp_seq' ?_
 refine wp_region_t ?_
 refine w1 (acts_box (d := 1) (h := 1) (b := .agg [(.slv l.length 1 (isl l) : A)]) (ltN rfl) (OpX.tmp 0 (V.b (.agg [(.slv l.length 1 (isl l) : A)]))) (by intro y hy; simp [B.cs] at hy; subst hy; rfl)) ?_
 refine w1 (acts_assign (d := 2) (ltN rfl) (OpX.const (.slice none 0 0))) ?_
 refine wpl_nil ?_
 refine wp_seq' ?_
 refine wp_region_t ?_
 refine w1 (acts_buildSlice0' (d := 7) (h := 7) (s := 2) (ltN rfl) qC1_un_69 qC1_zi_53) ?_
 refine w1 (asg 3 7 (V.b (.a (.sl 7 0 0)))) ?_
 refine wpl_nil ?_
 refine wp_seq' ?_
 refine wp_seq' ?_
 refine wp_region_t ?_
 refine w1 (acts_assign (d := 4) (ltN rfl) (OpX.const (.int .i64 0))) ?_
 refine wpl_nil ?_
 refine wp_block' ?_
 refine wp_loop' (fun (k : Nat) => k ≤ 64 ∧ (k = 0 ∨ regOk l = true)) (fun (k : Nat) => [(.s 1, some (.s (V.p 1 0))), (.s 3, some (.s (V.b (.a (.sl 7 0 ((((List.range k).filter (fun i => hasR l (cN i))).map cN).length)))))), (.s 4, some (.s (V.v (.int .i64 ((k : Nat) : Int))))), (.o 1, some (.o ⟨29, 1, true, [(.slv l.length 1 (isl l) : A)]⟩)), (.o 7, some (.o ⟨53, 2, true, pl (csl (((List.range k).filter (fun i => hasR l (cN i))).map cN))⟩)), (.o 5, some .free), (.o 12, some .free), (.o 18, some .free), (.o 23, some .free), (.o 26, some .free), (.o 27, some .free)]) (fun (k : Nat) => 64 - k) ((0 : Nat)) (by exact ⟨by omega, .inl rfl⟩) (weak_of id [5, 12, 18, 23, 26, 27] (by kernel_rfl) (wk_s (v' := V.p 1 0) (by kernel_rfl) rfl rfl (wk_s (v' := V.b (.a (.sl 7 0 0))) (by kernel_rfl) (vsl (by rfl) rfl) rfl (wk_s (v' := V.v (.int .i64 0)) (by kernel_rfl) (vint (by rfl)) rfl (wk_o (o' := ⟨29, 1, true, [(.slv l.length 1 (isl l) : A)]⟩) (by kernel_rfl) (renob_l (fun h => h) rfl rfl) rfl (wk_o (o' := ⟨53, 2, true, pl (csl [])⟩) (by kernel_rfl) (renob_eq (fun h => h) (congrArg csl (by rfl))) rfl (wk_f rfl (wk_f rfl (wk_f rfl (wk_f rfl (wk_f rfl (wk_f rfl (wk_nil))))))))))))) ?_
 rintro k inv1
 replace inv1 : k ≤ 64 ∧ (k = 0 ∨ regOk l = true) := inv1
 obtain ⟨inv1_0, inv1_1⟩ := inv1
 show Wp _ _ _ [(.s 1, some (.s (V.p 1 0))), (.s 3, some (.s (V.b (.a (.sl 7 0 ((((List.range k).filter (fun i => hasR l (cN i))).map cN).length)))))), (.s 4, some (.s (V.v (.int .i64 ((k : Nat) : Int))))), (.o 1, some (.o ⟨29, 1, true, [(.slv l.length 1 (isl l) : A)]⟩)), (.o 7, some (.o ⟨53, 2, true, pl (csl (((List.range k).filter (fun i => hasR l (cN i))).map cN))⟩)), (.o 5, some .free), (.o 12, some .free), (.o 18, some .free), (.o 23, some .free), (.o 26, some .free), (.o 27, some .free)]
 have hfl := range_len (fun i => hasR l (cN i)) k
 refine wp_seq' ?_
 refine wp_seq' ?_
 rcases Bool.eq_false_or_eq_true (decide (((k : Nat) : Int) < 64)) with c2 | c2
 ·skip
  have c2P := of_decide_eq_true c2
  refine wp_region_t ?_
  refine w1 (mv 8 4 (V.v (.int .i64 ((k : Nat) : Int)))) ?_
  refine w1 (bn 9 (OpV.tmp 8 (.int .i64 ((k : Nat) : Int))) (OpV.const (.int .i64 64)) (r_lss (c := true) c2)) ?_
  refine w1 (mv 10 9 (V.v (.bool true))) ?_
  refine w2 (step_on (dj := 10) rfl rfl (acts_load_owns (d := 11) (t := 1) (h := 1) (off := 0) (o := ⟨29, 1, true, [(.slv l.length 1 (isl l) : A)]⟩)  (xs := [(.slv l.length 1 (isl l) : A)]) (ltN rfl) qC1_ti_29 rfl (by decide) rfl)) ?_
  refine w2 (step_on (dj := 10) rfl rfl (acts_call1 (d := 12) (ltN rfl) (spec_RegionOk_fn l (by omega)) (ArgVs.cons (ArgV.regv 11 l.length 1 (isl l)) (ArgVs.nil)) (ResV.val _))) ?_
  refine w1 (acts_pick_t (d := 13) (ltN rfl) (OpV.tmp 10 (.bool true)) (OpX.tmp 12 (V.v (.bool (regOk l))))) ?_
  refine wpl_nil ?_
  refine wp_if (t := 13) ((regOk l)) (by kernel_rfl) (fun c3 => ?_) (fun c3 => ?_)
  ·skip
   refine wp_skip' ?_
   refine wp_seq' ?_
   refine wp_block' ?_
   refine wp_seq' ?_
   refine wp_region_t ?_
   refine w1 (mv 17 4 (V.v (.int .i64 ((k : Nat) : Int)))) ?_
   refine w1 (acts_call2 (d := 18) (ltN rfl) (spec_CellAt_fn k (by omega)) (ArgVs.cons (ArgV.v (OpV.tmp 17 (.int .i64 ((k : Nat) : Int)))) (ArgVs.nil)) (ResV.agg [(.int .i64 ((cN k).x) : Value), .int .i64 ((cN k).y)]) (ResV.val _)) ?_
   refine w1 (mv 16 18 (V.tup [.agg ([(.int .i64 ((cN k).x) : Value), .int .i64 ((cN k).y)].map A.val), .a (.val (.bool true))])) ?_
   refine w1 (acts_extract (d := 19) (t := 16) (ix := 0) (xs := [.agg ([(.int .i64 ((cN k).x) : Value), .int .i64 ((cN k).y)].map A.val), .a (.val (.bool true))]) (X := .agg ([(.int .i64 ((cN k).x) : Value), .int .i64 ((cN k).y)].map A.val)) (ltN rfl) rfl) ?_
   refine w1 (acts_extract (d := 20) (t := 16) (ix := 1) (xs := [.agg ([(.int .i64 ((cN k).x) : Value), .int .i64 ((cN k).y)].map A.val), .a (.val (.bool true))]) (X := .a (.val (.bool true))) (ltN rfl) rfl) ?_
   refine w1 (acts_alloc' (d := 5) (h := 5) (cap := 1) (s := 2) (cells := [(.val (.int .i64 0) : A), .val (.int .i64 0)]) (ltN rfl) qC1_zi_53 rfl rfl (by decide)) ?_
   refine w1 (acts_store (t := 5) (h := 5) (off := 0) (o := ⟨53, 2, true, [(.val (.int .i64 0) : A), .val (.int .i64 0)]⟩) (b := .agg ([(.int .i64 ((cN k).x) : Value), .int .i64 ((cN k).y)].map A.val)) (cells := [(.val (.int .i64 ((cN k).x)) : A), .val (.int .i64 ((cN k).y))]) qC1_ti_53 (OpX.tmp 19 (V.av [(.int .i64 ((cN k).x) : Value), .int .i64 ((cN k).y)])) rfl (by decide) (by intro y hy; simp [B.cs] at hy; rcases hy with rfl | rfl <;> rfl) (Nat.le_of_ble_eq_true rfl) rfl) ?_
   refine w1 (asg 6 20 (V.v (.bool true))) ?_
   refine wpl_nil ?_
   refine wp_seq' ?_
   refine wp_region_t ?_
   refine w1 (acts_load_owns (d := 21) (t := 1) (h := 1) (off := 0) (o := ⟨29, 1, true, [(.slv l.length 1 (isl l) : A)]⟩)  (xs := [(.slv l.length 1 (isl l) : A)]) (ltN rfl) qC1_ti_29 rfl (by decide) rfl) ?_
   refine w1 (acts_load_owns (d := 22) (t := 5) (h := 5) (off := 0) (o := ⟨53, 2, true, [(.val (.int .i64 ((cN k).x)) : A), .val (.int .i64 ((cN k).y))]⟩)  (xs := [(.int .i64 ((cN k).x) : Value), .int .i64 ((cN k).y)].map A.val) (ltN rfl) qC1_ti_53 rfl (by decide) rfl) ?_
   refine w1 (acts_call1 (d := 23) (ltN rfl) (spec_l03Has_fn l (cN k) (by omega) (by exact cN_ok (by omega))) (ArgVs.cons (ArgV.regv 21 l.length 1 (isl l)) (ArgVs.cons (ArgV.va (vs := [(.int .i64 ((cN k).x) : Value), .int .i64 ((cN k).y)]) (OpV.agg 22 [(.int .i64 ((cN k).x) : Value), .int .i64 ((cN k).y)])) (ArgVs.nil))) (ResV.val _)) ?_
   refine wpl_nil ?_
   refine wp_if (t := 23) ((hasR l (cN k))) (by kernel_rfl) (fun c4 => ?_) (fun c4 => ?_)
   ·skip
    refine wp_region_t ?_
    refine w1 (mv 24 3 (V.b (.a (.sl 7 0 ((((List.range k).filter (fun i => hasR l (cN i))).map cN).length))))) ?_
    refine w1 (acts_load_owns (d := 25) (t := 5) (h := 5) (off := 0) (o := ⟨53, 2, true, [(.val (.int .i64 ((cN k).x)) : A), .val (.int .i64 ((cN k).y))]⟩)  (xs := [(.int .i64 ((cN k).x) : Value), .int .i64 ((cN k).y)].map A.val) (ltN rfl) qC1_ti_53 rfl (by decide) rfl) ?_
    refine w1 (acts_buildSlice' (d := 26) (h := 26) (n := 1) (s := 2) (xs := csl ([(cN k)] : List Cel)) (ltN rfl) qC1_un_69 qC1_zi_53 (OpVs.cons (i := 0) (OpV.agg 25 [(.int .i64 ((cN k).x) : Value), .int .i64 ((cN k).y)]) (OpVs.nil)) (by decide) (by decide) (by kernel_rfl) rfl) ?_
    refine w1 (acts_app (d := 27) (x := 24) (h := 7) (h2 := 27) (n := ((((List.range k).filter (fun i => hasR l (cN i))).map cN).length)) (m := 1) (nm := (((((List.range k).filter (fun i => hasR l (cN i))).map cN) ++ [(cN k)]).length)) (X := .sl 26 0 1) (xs := csl (((List.range k).filter (fun i => hasR l (cN i))).map cN)) (ys := csl [(cN k)]) (zs := csl ((((List.range k).filter (fun i => hasR l (cN i))).map cN) ++ [(cN k)])) (ltN rfl) qC1_un_69 qC1_zi_53 rfl (by decide) (by decide) (by exact csl_len _) (OpX.tmp 26 (V.b (.a (.sl 26 0 1)))) (src_own (h := 26) (T := 53) (s := 2) (ex := true) (n := 1) (by exact csl_len _)) (csl_one' _) (by omega) (by exact (csl_append _ _).symm) (by (simp; done))) ?_
    refine w1 (asg 3 27 (V.b (.a (.sl 27 0 (((((List.range k).filter (fun i => hasR l (cN i))).map cN) ++ [(cN k)]).length))))) ?_
    refine wpl_nil ?_
    refine wp_region_t ?_
    refine w1 (mv 14 4 (V.v (.int .i64 ((k : Nat) : Int)))) ?_
    refine w1 (bn 15 (OpV.tmp 14 (.int .i64 ((k : Nat) : Int))) (OpV.const (.int .i64 1)) (r_add (c := (((k : Nat) : Int) + 1)) (w64 (by omega) (by omega)))) ?_
    refine w1 (asg 4 15 (V.v (.int .i64 (((k : Nat) : Int) + 1)))) ?_
    refine wpl_nil ?_
    exact loop_back ((k + 1)) (by exact ⟨by omega, .inr (by assumption)⟩) (by show 64 - (k + 1) < 64 - k; omega) (weak_of (subst1 [(7, 27)]) [5, 12, 18, 23, 26, 27] (by kernel_rfl) (wk_s (v' := V.p 1 0) (by kernel_rfl) rfl rfl (wk_s (v' := V.b (.a (.sl 27 0 (((((List.range k).filter (fun i => hasR l (cN i))).map cN) ++ [(cN k)]).length)))) (by kernel_rfl) (vsl (by (exact congrArg List.length (by first | rfl | exact range_yes (p := fun i => hasR l (cN i)) (by assumption) | exact range_no (p := fun i => hasR l (cN i)) (by assumption) | omega))) rfl) rfl (wk_s (v' := V.v (.int .i64 (((k : Nat) : Int) + 1))) (by kernel_rfl) (vint (by rfl)) rfl (wk_o (o' := ⟨29, 1, true, [(.slv l.length 1 (isl l) : A)]⟩) (by kernel_rfl) (renob_l (fun h => h) rfl rfl) rfl (wk_o (o' := ⟨53, 2, true, pl (csl ((((List.range k).filter (fun i => hasR l (cN i))).map cN) ++ [(cN k)]))⟩) (by kernel_rfl) (renob_eq (fun h => h) (congrArg csl (by exact range_yes (p := fun i => hasR l (cN i)) (by assumption)))) rfl (wk_f rfl (wk_f rfl (wk_f rfl (wk_f rfl (wk_f rfl (wk_f rfl (wk_nil)))))))))))))
   ·skip
    refine wp_skip' ?_
    refine wp_region_t ?_
    refine w1 (mv 14 4 (V.v (.int .i64 ((k : Nat) : Int)))) ?_
    refine w1 (bn 15 (OpV.tmp 14 (.int .i64 ((k : Nat) : Int))) (OpV.const (.int .i64 1)) (r_add (c := (((k : Nat) : Int) + 1)) (w64 (by omega) (by omega)))) ?_
    refine w1 (asg 4 15 (V.v (.int .i64 (((k : Nat) : Int) + 1)))) ?_
    refine wpl_nil ?_
    exact loop_back ((k + 1)) (by exact ⟨by omega, .inr (by assumption)⟩) (by show 64 - (k + 1) < 64 - k; omega) (weak_of id [5, 12, 18, 23, 26, 27] (by kernel_rfl) (wk_s (v' := V.p 1 0) (by kernel_rfl) rfl rfl (wk_s (v' := V.b (.a (.sl 7 0 ((((List.range k).filter (fun i => hasR l (cN i))).map cN).length)))) (by kernel_rfl) (vsl (by (exact congrArg List.length (by first | rfl | exact range_yes (p := fun i => hasR l (cN i)) (by assumption) | exact range_no (p := fun i => hasR l (cN i)) (by assumption) | omega))) rfl) rfl (wk_s (v' := V.v (.int .i64 (((k : Nat) : Int) + 1))) (by kernel_rfl) (vint (by rfl)) rfl (wk_o (o' := ⟨29, 1, true, [(.slv l.length 1 (isl l) : A)]⟩) (by kernel_rfl) (renob_l (fun h => h) rfl rfl) rfl (wk_o (o' := ⟨53, 2, true, pl (csl (((List.range k).filter (fun i => hasR l (cN i))).map cN))⟩) (by kernel_rfl) (renob_eq (fun h => h) (congrArg csl (by exact range_no (p := fun i => hasR l (cN i)) (by assumption)))) rfl (wk_f rfl (wk_f rfl (wk_f rfl (wk_f rfl (wk_f rfl (wk_f rfl (wk_nil)))))))))))))
  ·skip
   refine wp_exit' ?_
   refine wp_seq' ?_
   refine wp_region_t ?_
   refine w1 (mv 28 3 (V.b (.a (.sl 7 0 ((((List.range k).filter (fun i => hasR l (cN i))).map cN).length))))) ?_
   refine w1 (asg 2 28 (V.b (.a (.sl 7 0 ((((List.range k).filter (fun i => hasR l (cN i))).map cN).length))))) ?_
   refine wpl_nil ?_
   refine wp_ret' ?_
   exact VRes.tmp 2 (.a (.sl 7 0 ((((List.range k).filter (fun i => hasR l (cN i))).map cN).length))) _ (by kernel_rfl) (brow_cels (h := 7) (L := (((List.range k).filter (fun i => hasR l (cN i))).map cN)) (by kernel_rfl) (by (have e : k = 0 := by simp_all); subst e; unfold cellsOf; simp_all) (by rfl))
 ·skip
  have c2P := of_decide_eq_false c2
  refine wp_region_t ?_
  refine w1 (mv 8 4 (V.v (.int .i64 ((k : Nat) : Int)))) ?_
  refine w1 (bn 9 (OpV.tmp 8 (.int .i64 ((k : Nat) : Int))) (OpV.const (.int .i64 64)) (r_lss (c := false) c2)) ?_
  refine w1 (mv 10 9 (V.v (.bool false))) ?_
  refine w2 (step_off (dj := 10) (b' := false) rfl rfl (by decide) rfl (ltN rfl)) ?_
  refine w2 (step_off (dj := 10) (b' := false) rfl rfl (by decide) rfl (ltN rfl)) ?_
  refine w1 (acts_pick_f (d := 13) (ltN rfl) (OpV.tmp 10 (.bool false)) (OpX.const (.bool false))) ?_
  refine wpl_nil ?_
  refine wp_if_f (t := 13) (by kernel_rfl) ?_
  refine wp_exit' ?_
  refine wp_seq' ?_
  refine wp_region_t ?_
  refine w1 (mv 28 3 (V.b (.a (.sl 7 0 ((((List.range k).filter (fun i => hasR l (cN i))).map cN).length))))) ?_
  refine w1 (asg 2 28 (V.b (.a (.sl 7 0 ((((List.range k).filter (fun i => hasR l (cN i))).map cN).length))))) ?_
  refine wpl_nil ?_
  refine wp_ret' ?_
  exact VRes.tmp 2 (.a (.sl 7 0 ((((List.range k).filter (fun i => hasR l (cN i))).map cN).length))) _ (by kernel_rfl) (brow_cels (h := 7) (L := (((List.range k).filter (fun i => hasR l (cN i))).map cN)) (by kernel_rfl) (by (have e : k = 64 := by omega); subst e; exact cellsOf_scan (by simp_all)) (by rfl))

set_option maxHeartbeats 4000000 in
set_option maxRecDepth 100000 in
theorem spec_CountCells_fn (l : List Int) (hl : l.length ≤ 4194304) : Fn Try.prog 37 [.agg [(.slv l.length 1 (isl l) : A)]] [.val (.int .i64 (((cellsOf l).length : Nat) : Int))] := by
 refine fn_intro (N := 6) Try.func37 rfl (by kernel_rfl) rfl (Nat.le_of_ble_eq_true rfl) [1, 4, 5] (ret1 rfl) (fun W => ?_)
 show Wp _ _ _ [(.s 0, some (.s (V.b (.agg [(.slv l.length 1 (isl l) : A)])))), (.o 1, some .free), (.o 4, some .free), (.o 5, some .free)]
 refine wp_seq' ?_
 refine wp_region_t ?_
 refine w1 (acts_box (d := 1) (h := 1) (b := .agg [(.slv l.length 1 (isl l) : A)]) (ltN rfl) (OpX.tmp 0 (V.b (.agg [(.slv l.length 1 (isl l) : A)]))) (by intro y hy; simp [B.cs] at hy; subst hy; rfl)) ?_
 refine w1 (acts_assign (d := 2) (ltN rfl) (OpX.const (.int .i64 0))) ?_
 refine wpl_nil ?_
 refine wp_seq' ?_
 refine wp_region_t ?_
 refine w1 (acts_load_owns (d := 3) (t := 1) (h := 1) (off := 0) (o := ⟨29, 1, true, [(.slv l.length 1 (isl l) : A)]⟩)  (xs := [(.slv l.length 1 (isl l) : A)]) (ltN rfl) qC1_ti_29 rfl (by decide) rfl) ?_
 refine w1 (acts_call1 (d := 4) (ltN rfl) (spec_CellsOf_fn l (by omega)) (ArgVs.cons (ArgV.regv 3 l.length 1 (isl l)) (ArgVs.nil)) (ResV.row 53 2 ((cellsOf l).length) (csl (cellsOf l)) 4)) ?_
 refine w1 (acts_len (d := 5) (X := .sl 4 0 ((cellsOf l).length)) (n := ((cellsOf l).length)) (iv := (((cellsOf l).length : Nat) : Int)) (ltN rfl) qC1_un_69 (OpX.tmp 4 (V.b (.a (.sl 4 0 ((cellsOf l).length))))) (LenOf.sl _ _ _) rfl) ?_
 refine w1 (asg 2 5 (V.v (.int .i64 (((cellsOf l).length : Nat) : Int)))) ?_
 refine wpl_nil ?_
 refine wp_ret' ?_
 exact VRes.tmp 2 (.a (.val (.int .i64 (((cellsOf l).length : Nat) : Int)))) _ (by kernel_rfl) (BRes.val _)
end Cl
end Go.Proofs.Ytmbodpmhokbapaa
