/- Walks over clean states, printed by wg.py. No statement is proved here. -/
import Derived.Test.YtmbodpmhokbapaaC26
import Derived.Test.YtmbodpmhokbapaaC3w
import Derived.Test.YtmbodpmhokbapaaEdge
import Derived.Test.YtmbodpmhokbapaaDoms
import Derived.Test.YtmbodpmhokbapaaCl18
namespace Go.Proofs.Ytmbodpmhokbapaa
namespace Cl
open Go.ChangeShapes Go.WideShapes Go.ChangeAt Go.RowKit

def eqD (d e : Dom) : Bool := dEq d.x d.y d.d e.x e.y e.d
theorem eqD_sw (d e : Dom) : dEq e.x e.y e.d d.x d.y d.d = eqD d e := by unfold eqD dEq; rw [decide_eq_decide]; constructor <;> (rintro ⟨a, b, c⟩; exact ⟨a.symm, b.symm, c.symm⟩)
theorem eqD_dec (d e : Dom) : eqD d e = decide (d = e) := by
  obtain ⟨x, y, b⟩ := d; obtain ⟨x', y', b'⟩ := e
  unfold eqD dEq; simp
theorem any_eqD (ds : List Dom) (d : Dom) : ds.any (eqD d) = decide (d ∈ ds) := by
  rw [Bool.eq_iff_iff, List.any_eq_true, decide_eq_true_eq]
  constructor
  · rintro ⟨e, he, h⟩; rw [eqD_dec, decide_eq_true_eq] at h; rw [h]; exact he
  · intro h; exact ⟨d, h, by rw [eqD_dec]; simp⟩
theorem has_yes {ds : List Dom} {d : Dom} {k : Nat} (hk : k < ds.length) (h : eqD d (gD ds k) = true) : decide (d ∈ ds) = true := by
  rw [← any_eqD]; exact List.any_eq_true.2 ⟨gD ds k, gD_mem hk, h⟩
theorem has_no {ds : List Dom} {d : Dom} {k : Nat} (hk : ¬ (k : Int) < (ds.length : Int)) (h : (ds.take k).any (eqD d) = false) : decide (d ∈ ds) = false := by
  rw [List.take_of_length_le (by omega), any_eqD] at h; exact h
/-- where a domino lies -/
def posM (ds : List Dom) (d : Dom) : Int := if d ∈ ds then (ds.findIdx (eqD d) : Int) else -1
theorem posM_yes {ds : List Dom} {d : Dom} {k : Nat} (hk : k < ds.length) (h1 : (ds.take k).any (eqD d) = false) (h2 : eqD d (gD ds k) = true) : (k : Int) = posM ds d := by
  unfold posM
  rw [if_pos (of_decide_eq_true (has_yes hk h2))]
  have : ds.findIdx (eqD d) = k := by
    rw [List.findIdx_eq hk]
    refine ⟨by rw [← gD_eq hk]; exact h2, fun j hj => ?_⟩
    cases h3 : eqD d ds[j]
    · rfl
    · have : (ds.take k).any (eqD d) = true := List.any_eq_true.2 ⟨ds[j], List.mem_take_iff_getElem.2 ⟨j, by omega, rfl⟩, h3⟩
      rw [this] at h1; cases h1
  rw [this]
theorem posM_no {ds : List Dom} {d : Dom} {k : Nat} (hk : ¬ (k : Int) < (ds.length : Int)) (h1 : (ds.take k).any (eqD d) = false) : (-1 : Int) = posM ds d := by
  unfold posM; rw [if_neg (of_decide_eq_false (has_no hk h1))]
theorem posM_nn (ds : List Dom) (d : Dom) : decide (0 ≤ posM ds d) = decide (d ∈ ds) := by
  unfold posM; split
  · rename_i h; simp [h]
  · rename_i h; simp [h]
/-- a domino over two cells -/
def dOv (a b : Cel) : Dom := if nbr a b then ⟨min a.x b.x, min a.y b.y, decide (a.x = b.x)⟩ else ⟨0, 0, false⟩
/-- the cells beside a side of the board's grid -/
def lfC (ax ay bx by' : Int) : Cel := ⟨leftX ax bx ay by', leftY ax bx ay by'⟩
def sdA (ax ay bx by' : Int) : Cel := if ay = by' then ⟨min ax bx, min ay by' - 1⟩ else ⟨min ax bx - 1, min ay by'⟩
def sdB (ax ay bx by' : Int) : Cel := ⟨min ax bx, min ay by'⟩
def sideB (s : Nat) (ds : List Dom) (p q : Cel) : Bool := (hasS s p || hasS s q) && !(nbr p q && decide (dOv p q ∈ ds))
theorem sideB_sw (s : Nat) (ds : List Dom) (p q : Cel) : sideB s ds p q = sideB s ds q p := by
  unfold sideB
  rw [nbr_comm q p, Bool.or_comm]
  congr 2
  cases h : nbr p q
  · rfl
  · have h2 : nbr q p = true := by rw [nbr_comm]; exact h
    have e : dOv p q = dOv q p := by
      unfold dOv; rw [if_pos h, if_pos h2]
      rw [Int.min_comm p.x, Int.min_comm p.y]
      congr 1
      rw [decide_eq_decide]; exact ⟨fun h => h.symm, fun h => h.symm⟩
    rw [e]
theorem nbr_ver {x y : Int} : nbr ⟨x, y - 1⟩ ⟨x, y⟩ = true ↔ okD ⟨x, y - 1, true⟩ = true := by
  unfold nbr okD
  rw [okd_true, Bool.and_eq_true, Bool.and_eq_true, okc_true, okc_true, decide_eq_true_eq]
  have e : iabs (x - x) + iabs (y - 1 - y) = 1 := by unfold iabs; split <;> split <;> omega
  simp only [e, if_true, and_true]
  omega
theorem nbr_hor {x y : Int} : nbr ⟨x - 1, y⟩ ⟨x, y⟩ = true ↔ okD ⟨x - 1, y, false⟩ = true := by
  unfold nbr okD
  rw [okd_true, Bool.and_eq_true, Bool.and_eq_true, okc_true, okc_true, decide_eq_true_eq]
  have e : iabs (x - 1 - x) + iabs (y - y) = 1 := by unfold iabs; split <;> split <;> omega
  simp only [e, Bool.false_eq_true, if_false, and_true]
  omega
theorem side_H {s : Nat} {ds : List Dom} (hd : ∀ d ∈ ds, okD d = true) (x y : Int) : sideB s ds ⟨x, y - 1⟩ ⟨x, y⟩ = opH s ds x y := by
  unfold sideB opH
  congr 2
  cases h : nbr ⟨x, y - 1⟩ ⟨x, y⟩
  · rw [Bool.false_and]; symm; rw [decide_eq_false_iff_not]; intro hm
    have := nbr_ver.2 (hd _ hm); rw [h] at this; cases this
  · rw [Bool.true_and]
    unfold dOv; rw [if_pos h]
    simp only
    rw [show min x x = x by omega, show min (y - 1) y = y - 1 by omega]; simp
theorem side_V {s : Nat} {ds : List Dom} (hd : ∀ d ∈ ds, okD d = true) (x y : Int) : sideB s ds ⟨x - 1, y⟩ ⟨x, y⟩ = opV s ds x y := by
  unfold sideB opV
  congr 2
  cases h : nbr ⟨x - 1, y⟩ ⟨x, y⟩
  · rw [Bool.false_and]; symm; rw [decide_eq_false_iff_not]; intro hm
    have := nbr_hor.2 (hd _ hm); rw [h] at this; cases this
  · rw [Bool.true_and]
    unfold dOv; rw [if_pos h]
    simp only
    rw [show min y y = y by omega, show min (x - 1) x = x - 1 by omega]
    have : ¬ (x - 1 = x) := by omega
    simp [this]

theorem qC27_eg_58 : Try.prog.eqGuardType Try.prog.depth 58 = false := by kernel_rfl
theorem qC27_fo_53_0 : fieldOff Try.prog 53 0 = some 0 := by kernel_rfl
theorem qC27_fo_53_1 : fieldOff Try.prog 53 1 = some 1 := by kernel_rfl
theorem qC27_sz_58 : (Try.prog.info? 58).map (·.size) = some 3 := by kernel_rfl
theorem qC27_ti_3 : TI Try.prog 3 false 1 := ⟨⟨_, Try.underlying3, rfl⟩, by kernel_rfl⟩
theorem qC27_ti_53 : TI Try.prog 53 true 2 := ⟨⟨_, Try.underlying53, rfl⟩, by kernel_rfl⟩
theorem qC27_ti_58 : TI Try.prog 58 true 3 := ⟨⟨_, Try.underlying58, rfl⟩, by kernel_rfl⟩
theorem qC27_un_31 : Try.prog.underlying 31 = some (.slice 58) := Try.underlying31
theorem qC27_zi_53 : ZI Try.prog 53 (.agg #[.int .i64 0, .int .i64 0]) 2 16 := by unfold ZI; kernel_rfl
theorem qC27_zi_58 : ZI Try.prog 58 (.agg #[.int .i64 0, .int .i64 0, .bool false]) 3 24 := by unfold ZI; kernel_rfl
set_option maxHeartbeats 4000000 in
set_option maxRecDepth 100000 in
theorem impl_hasDomino_fn (ds : List Dom) (d : Dom) (hd : ds.length ≤ 2097152) : Fn Try.prog 53 [.a (.slv ds.length 3 (dsl ds)), .agg ([(.int .i64 d.x : Value), .int .i64 d.y, .bool d.d].map A.val)] [.val (.bool (decide (d ∈ ds)))] := by
 refine fn_intro (N := 17) Try.func53 rfl (by kernel_rfl) rfl (Nat.le_of_ble_eq_true rfl) [3, 6, 8] (ret1 rfl) (fun W => ?_)
 show Wp _ _ _ [(.s 0, some (.s (V.b (.a (.slv ds.length 3 (dsl ds)))))), (.s 1, some (.s (V.av [(.int .i64 d.x : Value), .int .i64 d.y, .bool d.d]))), (.o 3, some .free), (.o 6, some .free), (.o 8, some .free)]
 refine wp_seq' ?_
 refine wp_region_t ?_
 refine w1 (acts_box (d := 3) (h := 3) (b := .agg ([(.int .i64 d.x : Value), .int .i64 d.y, .bool d.d].map A.val)) (ltN rfl) (OpX.tmp 1 (V.av [(.int .i64 d.x : Value), .int .i64 d.y, .bool d.d])) (by intro y hy; simp [B.cs] at hy; rcases hy with rfl | rfl | rfl <;> rfl)) ?_
 refine w1 (acts_assign (d := 4) (ltN rfl) (OpX.const (.bool false))) ?_
 refine wpl_nil ?_
 refine wp_seq' ?_
 refine wp_seq' ?_
 refine wp_region_t ?_
 refine w1 (mv 7 0 (V.b (.a (.slv ds.length 3 (dsl ds))))) ?_
 refine w1 (acts_len (d := 8) (X := .slv ds.length 3 (dsl ds)) (n := ds.length) (iv := ((ds.length : Nat) : Int)) (ltN rfl) qC27_un_31 (OpX.tmp 7 (V.b (.a (.slv ds.length 3 (dsl ds))))) (LenOf.slv _ _ _) rfl) ?_
 refine w1 (acts_move (d := 9) (ltN rfl) (OpX.const (.int .i64 0))) ?_
 refine wpl_nil ?_
 refine wp_block' ?_
 refine wp_loop' (fun (k : Nat) => k ≤ ds.length ∧ (ds.take k).any (eqD d) = false) (fun (k : Nat) => [(.s 3, some (.s (V.p 3 0))), (.s 7, some (.s (V.b (.a (.slv ds.length 3 (dsl ds)))))), (.s 8, some (.s (V.v (.int .i64 ((ds.length : Nat) : Int))))), (.s 9, some (.s (V.v (.int .i64 ((k : Nat) : Int))))), (.o 3, some (.o ⟨58, 3, true, [(.val (.int .i64 d.x) : A), .val (.int .i64 d.y), .val (.bool d.d)]⟩)), (.o 6, some .free), (.o 8, some .free)]) (fun (k : Nat) => ds.length - k) ((0 : Nat)) (by exact ⟨Nat.zero_le _, rfl⟩) (weak_of id [6, 8] (by kernel_rfl) (wk_s (v' := V.p 3 0) (by kernel_rfl) rfl rfl (wk_s (v' := V.b (.a (.slv ds.length 3 (dsl ds)))) (by kernel_rfl) rfl rfl (wk_s (v' := V.v (.int .i64 ((ds.length : Nat) : Int))) (by kernel_rfl) rfl rfl (wk_s (v' := V.v (.int .i64 0)) (by kernel_rfl) (vint (by rfl)) rfl (wk_o (o' := ⟨58, 3, true, [(.val (.int .i64 d.x) : A), .val (.int .i64 d.y), .val (.bool d.d)]⟩) (by kernel_rfl) (renob_l (fun h => h) rfl rfl) rfl (wk_f rfl (wk_f rfl (wk_nil))))))))) ?_
 rintro k inv1
 replace inv1 : k ≤ ds.length ∧ (ds.take k).any (eqD d) = false := inv1
 obtain ⟨inv1_0, inv1_1⟩ := inv1
 show Wp _ _ _ [(.s 3, some (.s (V.p 3 0))), (.s 7, some (.s (V.b (.a (.slv ds.length 3 (dsl ds)))))), (.s 8, some (.s (V.v (.int .i64 ((ds.length : Nat) : Int))))), (.s 9, some (.s (V.v (.int .i64 ((k : Nat) : Int))))), (.o 3, some (.o ⟨58, 3, true, [(.val (.int .i64 d.x) : A), .val (.int .i64 d.y), .val (.bool d.d)]⟩)), (.o 6, some .free), (.o 8, some .free)]
 refine wp_seq' ?_
 refine wp_region_t ?_
 refine w1 (bn 10 (OpV.tmp 9 (.int .i64 ((k : Nat) : Int))) (OpV.tmp 8 (.int .i64 ((ds.length : Nat) : Int))) (r_lss (c := (decide (((k : Nat) : Int) < ((ds.length : Nat) : Int)))) rfl)) ?_
 refine wpl_nil ?_
 refine wp_seq' ?_
 refine wp_if (t := 10) (decide (((k : Nat) : Int) < ((ds.length : Nat) : Int))) (by kernel_rfl) (fun c2 => ?_) (fun c2 => ?_)
 ·skip
  have c2P := of_decide_eq_true c2
  refine wp_skip' ?_
  refine wp_seq' ?_
  refine wp_block' ?_
  refine wp_seq' ?_
  refine wp_region_t ?_
  refine w1 (acts_index_v (d := 11) (x := 7) (n := ds.length) (s := 3) (k := k) (xs := dsl ds) (ltN rfl) qC27_un_31 qC27_sz_58 (OpV.tmp 9 (.int .i64 ((k : Nat) : Int))) rfl (by omega)) ?_
  refine w1 (acts_load_vs (d := 12) (t := 11) (s := 3) (off := (k * 3)) (xs := dsl ds)  (vs := [(.int .i64 ((gD ds k).x) : Value), .int .i64 ((gD ds k).y), .bool ((gD ds k).d)]) (ltN rfl) qC27_ti_58 rfl (dsl_at (k := k) (by omega))) ?_
  refine w1 (acts_alloc' (d := 6) (h := 6) (cap := 1) (s := 3) (cells := [(.val (.int .i64 0) : A), .val (.int .i64 0), .val (.bool false)]) (ltN rfl) qC27_zi_58 rfl rfl (by decide)) ?_
  refine w1 (acts_store (t := 6) (h := 6) (off := 0) (o := ⟨58, 3, true, [(.val (.int .i64 0) : A), .val (.int .i64 0), .val (.bool false)]⟩) (b := .agg ([(.int .i64 ((gD ds k).x) : Value), .int .i64 ((gD ds k).y), .bool ((gD ds k).d)].map A.val)) (cells := [(.val (.int .i64 ((gD ds k).x)) : A), .val (.int .i64 ((gD ds k).y)), .val (.bool ((gD ds k).d))]) qC27_ti_58 (OpX.tmp 12 (V.av [(.int .i64 ((gD ds k).x) : Value), .int .i64 ((gD ds k).y), .bool ((gD ds k).d)])) rfl (by decide) (by intro y hy; simp [B.cs] at hy; rcases hy with rfl | rfl | rfl <;> rfl) (Nat.le_of_ble_eq_true rfl) rfl) ?_
  refine wpl_nil ?_
  refine wp_seq' ?_
  refine wp_region_t ?_
  refine w1 (acts_load_owns (d := 13) (t := 3) (h := 3) (off := 0) (o := ⟨58, 3, true, [(.val (.int .i64 d.x) : A), .val (.int .i64 d.y), .val (.bool d.d)]⟩)  (xs := [(.int .i64 d.x : Value), .int .i64 d.y, .bool d.d].map A.val) (ltN rfl) qC27_ti_58 rfl (by decide) rfl) ?_
  refine w1 (acts_load_owns (d := 14) (t := 6) (h := 6) (off := 0) (o := ⟨58, 3, true, [(.val (.int .i64 ((gD ds k).x)) : A), .val (.int .i64 ((gD ds k).y)), .val (.bool ((gD ds k).d))]⟩)  (xs := [(.int .i64 ((gD ds k).x) : Value), .int .i64 ((gD ds k).y), .bool ((gD ds k).d)].map A.val) (ltN rfl) qC27_ti_58 rfl (by decide) rfl) ?_
  refine w1 (bn 15 (OpV.agg 13 [(.int .i64 d.x : Value), .int .i64 d.y, .bool d.d]) (OpV.agg 14 [(.int .i64 ((gD ds k).x) : Value), .int .i64 ((gD ds k).y), .bool ((gD ds k).d)]) (r_aggeq qC27_eg_58 (fun w => (run_eql_dom d.x d.y d.d ((gD ds k).x) ((gD ds k).y) ((gD ds k).d) w).trans (congrArg (fun z => Result.ok (Value.bool z) w) (rfl : (dEq d.x d.y d.d ((gD ds k).x) ((gD ds k).y) ((gD ds k).d)) = (dEq d.x d.y d.d ((gD ds k).x) ((gD ds k).y) ((gD ds k).d))))))) ?_
  refine wpl_nil ?_
  refine wp_if (t := 15) ((dEq d.x d.y d.d ((gD ds k).x) ((gD ds k).y) ((gD ds k).d))) (by kernel_rfl) (fun c3 => ?_) (fun c3 => ?_)
  ·skip
   refine wp_seq' ?_
   refine wp_region_t ?_
   refine w1 (acts_assign (d := 4) (ltN rfl) (OpX.const (.bool true))) ?_
   refine wpl_nil ?_
   refine wp_ret' ?_
   exact VRes.tmp 4 (.a (.val (.bool true))) _ (by kernel_rfl) (bval (congrArg Value.bool (by exact (has_yes (k := k) (by omega) (by assumption)).symm)))
  ·skip
   refine wp_skip' ?_
   refine wp_region_t ?_
   refine w1 (bn 16 (OpV.tmp 9 (.int .i64 ((k : Nat) : Int))) (OpV.const (.int .i64 1)) (r_add (c := (((k : Nat) : Int) + 1)) (w64 (by omega) (by omega)))) ?_
   refine w1 (mv 9 16 (V.v (.int .i64 (((k : Nat) : Int) + 1)))) ?_
   refine wpl_nil ?_
   exact loop_back ((k + 1)) (by refine ⟨by omega, any_snocD (by omega) (by assumption) ?_⟩; first | assumption | (rw [← eqD_sw]; assumption)) (by show ds.length - (k + 1) < ds.length - k; omega) (weak_of id [6, 8] (by kernel_rfl) (wk_s (v' := V.p 3 0) (by kernel_rfl) rfl rfl (wk_s (v' := V.b (.a (.slv ds.length 3 (dsl ds)))) (by kernel_rfl) rfl rfl (wk_s (v' := V.v (.int .i64 ((ds.length : Nat) : Int))) (by kernel_rfl) rfl rfl (wk_s (v' := V.v (.int .i64 (((k : Nat) : Int) + 1))) (by kernel_rfl) (vint (by rfl)) rfl (wk_o (o' := ⟨58, 3, true, [(.val (.int .i64 d.x) : A), .val (.int .i64 d.y), .val (.bool d.d)]⟩) (by kernel_rfl) (renob_l (fun h => h) rfl rfl) rfl (wk_f rfl (wk_f rfl (wk_nil)))))))))
 ·skip
  have c2P := of_decide_eq_false c2
  refine wp_exit' ?_
  refine wp_seq' ?_
  refine wp_region_t ?_
  refine w1 (acts_assign (d := 4) (ltN rfl) (OpX.const (.bool false))) ?_
  refine wpl_nil ?_
  refine wp_ret' ?_
  exact VRes.tmp 4 (.a (.val (.bool false))) _ (by kernel_rfl) (bval (congrArg Value.bool (by exact (has_no (by assumption) (by assumption)).symm)))

set_option maxHeartbeats 4000000 in
set_option maxRecDepth 100000 in
theorem spec_l11Has_fn (ds : List Dom) (d : Dom) (hd : ds.length ≤ 2097152) : Fn Try.prog 42 [.a (.slv ds.length 3 (dsl ds)), .agg ([(.int .i64 d.x : Value), .int .i64 d.y, .bool d.d].map A.val)] [.val (.int .i64 (posM ds d))] := by
 refine fn_intro (N := 19) Try.func42 rfl (by kernel_rfl) rfl (Nat.le_of_ble_eq_true rfl) [3, 8] (ret1 rfl) (fun W => ?_)
 show Wp _ _ _ [(.s 0, some (.s (V.b (.a (.slv ds.length 3 (dsl ds)))))), (.s 1, some (.s (V.av [(.int .i64 d.x : Value), .int .i64 d.y, .bool d.d]))), (.o 3, some .free), (.o 8, some .free)]
 refine wp_seq' ?_
 refine wp_region_t ?_
 refine w1 (acts_box (d := 3) (h := 3) (b := .agg ([(.int .i64 d.x : Value), .int .i64 d.y, .bool d.d].map A.val)) (ltN rfl) (OpX.tmp 1 (V.av [(.int .i64 d.x : Value), .int .i64 d.y, .bool d.d])) (by intro y hy; simp [B.cs] at hy; rcases hy with rfl | rfl | rfl <;> rfl)) ?_
 refine w1 (acts_assign (d := 4) (ltN rfl) (OpX.const (.int .i64 0))) ?_
 refine wpl_nil ?_
 refine wp_seq' ?_
 refine wp_seq' ?_
 refine wp_region_t ?_
 refine w1 (acts_assign (d := 5) (ltN rfl) (OpX.const (.int .i64 0))) ?_
 refine wpl_nil ?_
 refine wp_block' ?_
 refine wp_loop' (fun (k : Nat) => k ≤ ds.length ∧ (ds.take k).any (eqD d) = false) (fun (k : Nat) => [(.s 0, some (.s (V.b (.a (.slv ds.length 3 (dsl ds)))))), (.s 3, some (.s (V.p 3 0))), (.s 5, some (.s (V.v (.int .i64 ((k : Nat) : Int))))), (.o 3, some (.o ⟨58, 3, true, [(.val (.int .i64 d.x) : A), .val (.int .i64 d.y), .val (.bool d.d)]⟩)), (.o 8, some .free)]) (fun (k : Nat) => ds.length - k) ((0 : Nat)) (by exact ⟨Nat.zero_le _, rfl⟩) (weak_of id [8] (by kernel_rfl) (wk_s (v' := V.b (.a (.slv ds.length 3 (dsl ds)))) (by kernel_rfl) rfl rfl (wk_s (v' := V.p 3 0) (by kernel_rfl) rfl rfl (wk_s (v' := V.v (.int .i64 0)) (by kernel_rfl) (vint (by rfl)) rfl (wk_o (o' := ⟨58, 3, true, [(.val (.int .i64 d.x) : A), .val (.int .i64 d.y), .val (.bool d.d)]⟩) (by kernel_rfl) (renob_l (fun h => h) rfl rfl) rfl (wk_f rfl (wk_nil))))))) ?_
 rintro k inv1
 replace inv1 : k ≤ ds.length ∧ (ds.take k).any (eqD d) = false := inv1
 obtain ⟨inv1_0, inv1_1⟩ := inv1
 show Wp _ _ _ [(.s 0, some (.s (V.b (.a (.slv ds.length 3 (dsl ds)))))), (.s 3, some (.s (V.p 3 0))), (.s 5, some (.s (V.v (.int .i64 ((k : Nat) : Int))))), (.o 3, some (.o ⟨58, 3, true, [(.val (.int .i64 d.x) : A), .val (.int .i64 d.y), .val (.bool d.d)]⟩)), (.o 8, some .free)]
 refine wp_seq' ?_
 refine wp_seq' ?_
 refine wp_region_t ?_
 refine w1 (mv 6 5 (V.v (.int .i64 ((k : Nat) : Int)))) ?_
 refine w1 (mv 7 0 (V.b (.a (.slv ds.length 3 (dsl ds))))) ?_
 refine w1 (acts_len (d := 8) (X := .slv ds.length 3 (dsl ds)) (n := ds.length) (iv := ((ds.length : Nat) : Int)) (ltN rfl) qC27_un_31 (OpX.tmp 7 (V.b (.a (.slv ds.length 3 (dsl ds))))) (LenOf.slv _ _ _) rfl) ?_
 refine w1 (bn 9 (OpV.tmp 6 (.int .i64 ((k : Nat) : Int))) (OpV.tmp 8 (.int .i64 ((ds.length : Nat) : Int))) (r_lss (c := (decide (((k : Nat) : Int) < ((ds.length : Nat) : Int)))) rfl)) ?_
 refine wpl_nil ?_
 refine wp_if (t := 9) (decide (((k : Nat) : Int) < ((ds.length : Nat) : Int))) (by kernel_rfl) (fun c2 => ?_) (fun c2 => ?_)
 ·skip
  have c2P := of_decide_eq_true c2
  refine wp_skip' ?_
  refine wp_seq' ?_
  refine wp_block' ?_
  refine wp_seq' ?_
  refine wp_drawn' (by kernel_rfl) (AllSteps.cons (step_plain rfl (mv 12 0 (V.b (.a (.slv ds.length 3 (dsl ds)))))) (AllSteps.cons (step_plain rfl (mv 13 5 (V.v (.int .i64 ((k : Nat) : Int))))) (AllSteps.cons (step_plain rfl (acts_index_v (d := 14) (x := 12) (n := ds.length) (s := 3) (k := k) (xs := dsl ds) (ltN rfl) qC27_un_31 qC27_sz_58 (OpV.tmp 13 (.int .i64 ((k : Nat) : Int))) rfl (by omega))) (AllSteps.cons (step_plain rfl (acts_load_vs (d := 15) (t := 14) (s := 3) (off := (k * 3)) (xs := dsl ds)  (vs := [(.int .i64 ((gD ds k).x) : Value), .int .i64 ((gD ds k).y), .bool ((gD ds k).d)]) (ltN rfl) qC27_ti_58 rfl (dsl_at (k := k) (by omega)))) (AllSteps.cons (step_plain rfl (acts_load_owns (d := 16) (t := 3) (h := 3) (off := 0) (o := ⟨58, 3, true, [(.val (.int .i64 d.x) : A), .val (.int .i64 d.y), .val (.bool d.d)]⟩)  (xs := [(.int .i64 d.x : Value), .int .i64 d.y, .bool d.d].map A.val) (ltN rfl) qC27_ti_58 rfl (by decide) rfl)) (AllSteps.cons (step_plain rfl (bn 17 (OpV.agg 15 [(.int .i64 ((gD ds k).x) : Value), .int .i64 ((gD ds k).y), .bool ((gD ds k).d)]) (OpV.agg 16 [(.int .i64 d.x : Value), .int .i64 d.y, .bool d.d]) (r_aggeq qC27_eg_58 (fun w => (run_eql_dom ((gD ds k).x) ((gD ds k).y) ((gD ds k).d) d.x d.y d.d w).trans (congrArg (fun z => Result.ok (Value.bool z) w) (rfl : (dEq ((gD ds k).x) ((gD ds k).y) ((gD ds k).d) d.x d.y d.d) = (dEq ((gD ds k).x) ((gD ds k).y) ((gD ds k).d) d.x d.y d.d))))))) (AllSteps.nil))))))) (by kernel_rfl) (by kernel_rfl) (by kernel_rfl) ?_
  refine wp_if (t := 17) ((dEq ((gD ds k).x) ((gD ds k).y) ((gD ds k).d) d.x d.y d.d)) (by kernel_rfl) (fun c3 => ?_) (fun c3 => ?_)
  ·skip
   refine wp_seq' ?_
   refine wp_region_t ?_
   refine w1 (mv 18 5 (V.v (.int .i64 ((k : Nat) : Int)))) ?_
   refine w1 (asg 4 18 (V.v (.int .i64 ((k : Nat) : Int)))) ?_
   refine wpl_nil ?_
   refine wp_ret' ?_
   exact VRes.tmp 4 (.a (.val (.int .i64 ((k : Nat) : Int)))) _ (by kernel_rfl) (bval (congrArg (Value.int .i64) (by refine posM_yes (by omega) (by assumption) ?_; first | assumption | (rw [← eqD_sw]; assumption))))
  ·skip
   refine wp_skip' ?_
   refine wp_region_t ?_
   refine w1 (mv 10 5 (V.v (.int .i64 ((k : Nat) : Int)))) ?_
   refine w1 (bn 11 (OpV.tmp 10 (.int .i64 ((k : Nat) : Int))) (OpV.const (.int .i64 1)) (r_add (c := (((k : Nat) : Int) + 1)) (w64 (by omega) (by omega)))) ?_
   refine w1 (asg 5 11 (V.v (.int .i64 (((k : Nat) : Int) + 1)))) ?_
   refine wpl_nil ?_
   exact loop_back ((k + 1)) (by refine ⟨by omega, any_snocD (by omega) (by assumption) ?_⟩; first | assumption | (rw [← eqD_sw]; assumption)) (by show ds.length - (k + 1) < ds.length - k; omega) (weak_of id [8] (by kernel_rfl) (wk_s (v' := V.b (.a (.slv ds.length 3 (dsl ds)))) (by kernel_rfl) rfl rfl (wk_s (v' := V.p 3 0) (by kernel_rfl) rfl rfl (wk_s (v' := V.v (.int .i64 (((k : Nat) : Int) + 1))) (by kernel_rfl) (vint (by rfl)) rfl (wk_o (o' := ⟨58, 3, true, [(.val (.int .i64 d.x) : A), .val (.int .i64 d.y), .val (.bool d.d)]⟩) (by kernel_rfl) (renob_l (fun h => h) rfl rfl) rfl (wk_f rfl (wk_nil)))))))
 ·skip
  have c2P := of_decide_eq_false c2
  refine wp_exit' ?_
  refine wp_seq' ?_
  refine wp_region_t ?_
  refine w1 (acts_assign (d := 4) (ltN rfl) (OpX.const (.int .i64 (-1)))) ?_
  refine wpl_nil ?_
  refine wp_ret' ?_
  exact VRes.tmp 4 (.a (.val (.int .i64 (-1)))) _ (by kernel_rfl) (bval (congrArg (Value.int .i64) (by exact posM_no (by assumption) (by assumption))))

set_option maxHeartbeats 4000000 in
set_option maxRecDepth 100000 in
theorem impl_DominoOver_fn (a b : Cel) : Fn Try.prog 52 [.agg ([(.int .i64 a.x : Value), .int .i64 a.y].map A.val), .agg ([(.int .i64 b.x : Value), .int .i64 b.y].map A.val)] [.val (.agg ([.int .i64 (dOv a b).x, .int .i64 (dOv a b).y, .bool (dOv a b).d] : List Value).toArray), .val (.bool (nbr a b))] := by
 refine fn_intro (N := 27) Try.func52 rfl (by kernel_rfl) rfl (Nat.le_of_ble_eq_true rfl) [2, 3, 4, 8, 15, 20] (ret2 rfl rfl (by intro u hu; injection hu with hu; subst hu; rfl)) (fun W => ?_)
 show Wp _ _ _ [(.s 0, some (.s (V.av [(.int .i64 a.x : Value), .int .i64 a.y]))), (.s 1, some (.s (V.av [(.int .i64 b.x : Value), .int .i64 b.y]))), (.o 2, some .free), (.o 3, some .free), (.o 4, some .free), (.o 8, some .free), (.o 15, some .free), (.o 20, some .free)]
 refine wp_seq' ?_
 refine wp_region_t ?_
 refine w1 (acts_box (d := 2) (h := 2) (b := .agg ([(.int .i64 a.x : Value), .int .i64 a.y].map A.val)) (ltN rfl) (OpX.tmp 0 (V.av [(.int .i64 a.x : Value), .int .i64 a.y])) (by intro y hy; simp [B.cs] at hy; rcases hy with rfl | rfl <;> rfl)) ?_
 refine w1 (acts_box (d := 3) (h := 3) (b := .agg ([(.int .i64 b.x : Value), .int .i64 b.y].map A.val)) (ltN rfl) (OpX.tmp 1 (V.av [(.int .i64 b.x : Value), .int .i64 b.y])) (by intro y hy; simp [B.cs] at hy; rcases hy with rfl | rfl <;> rfl)) ?_
 refine w1 (acts_alloc' (d := 4) (h := 4) (cap := 1) (s := 3) (cells := [(.val (.int .i64 0) : A), .val (.int .i64 0), .val (.bool false)]) (ltN rfl) qC27_zi_58 rfl rfl (by decide)) ?_
 refine w1 (acts_assign (d := 5) (ltN rfl) (OpX.const (.bool false))) ?_
 refine wpl_nil ?_
 refine wp_seq' ?_
 refine wp_seq' ?_
 refine wp_region_t ?_
 refine w1 (acts_load_owns (d := 6) (t := 2) (h := 2) (off := 0) (o := ⟨53, 2, true, [(.val (.int .i64 a.x) : A), .val (.int .i64 a.y)]⟩)  (xs := [(.int .i64 a.x : Value), .int .i64 a.y].map A.val) (ltN rfl) qC27_ti_53 rfl (by decide) rfl) ?_
 refine w1 (acts_load_owns (d := 7) (t := 3) (h := 3) (off := 0) (o := ⟨53, 2, true, [(.val (.int .i64 b.x) : A), .val (.int .i64 b.y)]⟩)  (xs := [(.int .i64 b.x : Value), .int .i64 b.y].map A.val) (ltN rfl) qC27_ti_53 rfl (by decide) rfl) ?_
 refine w1 (acts_call1 (d := 8) (ltN rfl) (impl_AreNeighbors_fn a b ) (ArgVs.cons (ArgV.va (vs := [(.int .i64 a.x : Value), .int .i64 a.y]) (OpV.agg 6 [(.int .i64 a.x : Value), .int .i64 a.y])) (ArgVs.cons (ArgV.va (vs := [(.int .i64 b.x : Value), .int .i64 b.y]) (OpV.agg 7 [(.int .i64 b.x : Value), .int .i64 b.y])) (ArgVs.nil))) (ResV.val _)) ?_
 refine w1 (acts_un (d := 9) (ltN rfl) (OpV.tmp 8 (.bool (nbr a b))) (r_not (c := (!(nbr a b))) rfl)) ?_
 refine wpl_nil ?_
 refine wp_if (t := 9) ((!(nbr a b))) (by kernel_rfl) (fun c1 => ?_) (fun c1 => ?_)
 ·skip
  have c2 : (nbr a b) = false := by simpa using c1
  refine wp_seq' ?_
  refine wp_region_t ?_
  refine w1 (acts_build (d := 10) (t := 58) (cells := [(.int .i64 0 : Value), .int .i64 0, .bool false]) (ltN rfl) (OpVs.nil) rfl) ?_
  refine w1 (acts_store (t := 4) (h := 4) (off := 0) (o := ⟨58, 3, true, [(.val (.int .i64 0) : A), .val (.int .i64 0), .val (.bool false)]⟩) (b := .agg ([(.int .i64 0 : Value), .int .i64 0, .bool false].map A.val)) (cells := [(.val (.int .i64 0) : A), .val (.int .i64 0), .val (.bool false)]) qC27_ti_58 (OpX.tmp 10 (V.av [(.int .i64 0 : Value), .int .i64 0, .bool false])) rfl (by decide) (by intro y hy; simp [B.cs] at hy; rcases hy with rfl | rfl | rfl <;> rfl) (Nat.le_of_ble_eq_true rfl) rfl) ?_
  refine w1 (acts_assign (d := 5) (ltN rfl) (OpX.const (.bool false))) ?_
  refine wpl_nil ?_
  refine wp_ret' ?_
  exact ⟨VRes.cells 4 58 4 ⟨58, 3, true, [(.val (.int .i64 0) : A), .val (.int .i64 0), .val (.bool false)]⟩ _ (by kernel_rfl) (by kernel_rfl) qC27_ti_58 (Nat.le_of_ble_eq_true rfl) (bagg (vs := [(.int .i64 0 : Value), .int .i64 0, .bool false]) (by simp_all [dOv])), VRes.tmp 5 (.a (.val (.bool false))) _ (by kernel_rfl) (bval (congrArg Value.bool (by simp_all [dOv])))⟩
 ·skip
  have c3 : (nbr a b) = true := by simpa using c1
  refine wp_skip' ?_
  refine wp_seq' ?_
  refine wp_region_t ?_
  refine w1 (acts_field (d := 11) (t := 2) (h := 2) (off := 0) (off' := 0) (ltN rfl) qC27_fo_53_0 rfl) ?_
  refine w1 (acts_load_own (d := 12) (t := 11) (h := 2) (off := 0) (o := ⟨53, 2, true, [(.val (.int .i64 a.x) : A), .val (.int .i64 a.y)]⟩)  (x := .val (.int .i64 a.x)) (ltN rfl) qC27_ti_3 rfl) ?_
  refine w1 (acts_field (d := 13) (t := 3) (h := 3) (off := 0) (off' := 0) (ltN rfl) qC27_fo_53_0 rfl) ?_
  refine w1 (acts_load_own (d := 14) (t := 13) (h := 3) (off := 0) (o := ⟨53, 2, true, [(.val (.int .i64 b.x) : A), .val (.int .i64 b.y)]⟩)  (x := .val (.int .i64 b.x)) (ltN rfl) qC27_ti_3 rfl) ?_
  refine w1 (acts_min (d := 15) (c := (min a.x b.x)) (ltN rfl) (OpV.tmp 12 (.int .i64 a.x)) (OpV.tmp 14 (.int .i64 b.x)) (by omega)) ?_
  refine w1 (acts_field (d := 16) (t := 2) (h := 2) (off := 0) (off' := 1) (ltN rfl) qC27_fo_53_1 rfl) ?_
  refine w1 (acts_load_own (d := 17) (t := 16) (h := 2) (off := 1) (o := ⟨53, 2, true, [(.val (.int .i64 a.x) : A), .val (.int .i64 a.y)]⟩)  (x := .val (.int .i64 a.y)) (ltN rfl) qC27_ti_3 rfl) ?_
  refine w1 (acts_field (d := 18) (t := 3) (h := 3) (off := 0) (off' := 1) (ltN rfl) qC27_fo_53_1 rfl) ?_
  refine w1 (acts_load_own (d := 19) (t := 18) (h := 3) (off := 1) (o := ⟨53, 2, true, [(.val (.int .i64 b.x) : A), .val (.int .i64 b.y)]⟩)  (x := .val (.int .i64 b.y)) (ltN rfl) qC27_ti_3 rfl) ?_
  refine w1 (acts_min (d := 20) (c := (min a.y b.y)) (ltN rfl) (OpV.tmp 17 (.int .i64 a.y)) (OpV.tmp 19 (.int .i64 b.y)) (by omega)) ?_
  refine w1 (acts_field (d := 21) (t := 2) (h := 2) (off := 0) (off' := 0) (ltN rfl) qC27_fo_53_0 rfl) ?_
  refine w1 (acts_load_own (d := 22) (t := 21) (h := 2) (off := 0) (o := ⟨53, 2, true, [(.val (.int .i64 a.x) : A), .val (.int .i64 a.y)]⟩)  (x := .val (.int .i64 a.x)) (ltN rfl) qC27_ti_3 rfl) ?_
  refine w1 (acts_field (d := 23) (t := 3) (h := 3) (off := 0) (off' := 0) (ltN rfl) qC27_fo_53_0 rfl) ?_
  refine w1 (acts_load_own (d := 24) (t := 23) (h := 3) (off := 0) (o := ⟨53, 2, true, [(.val (.int .i64 b.x) : A), .val (.int .i64 b.y)]⟩)  (x := .val (.int .i64 b.x)) (ltN rfl) qC27_ti_3 rfl) ?_
  refine w1 (bn 25 (OpV.tmp 22 (.int .i64 a.x)) (OpV.tmp 24 (.int .i64 b.x)) (r_eql (c := (decide (a.x = b.x))) rfl)) ?_
  refine w1 (acts_build (d := 26) (t := 58) (cells := [(.int .i64 (min a.x b.x) : Value), .int .i64 (min a.y b.y), .bool (decide (a.x = b.x))]) (ltN rfl) (OpVs.cons (i := 0) (OpV.tmp 15 (.int .i64 (min a.x b.x))) (OpVs.cons (i := 1) (OpV.tmp 20 (.int .i64 (min a.y b.y))) (OpVs.cons (i := 2) (OpV.tmp 25 (.bool (decide (a.x = b.x)))) (OpVs.nil)))) rfl) ?_
  refine w1 (acts_store (t := 4) (h := 4) (off := 0) (o := ⟨58, 3, true, [(.val (.int .i64 0) : A), .val (.int .i64 0), .val (.bool false)]⟩) (b := .agg ([(.int .i64 (min a.x b.x) : Value), .int .i64 (min a.y b.y), .bool (decide (a.x = b.x))].map A.val)) (cells := [(.val (.int .i64 (min a.x b.x)) : A), .val (.int .i64 (min a.y b.y)), .val (.bool (decide (a.x = b.x)))]) qC27_ti_58 (OpX.tmp 26 (V.av [(.int .i64 (min a.x b.x) : Value), .int .i64 (min a.y b.y), .bool (decide (a.x = b.x))])) rfl (by decide) (by intro y hy; simp [B.cs] at hy; rcases hy with rfl | rfl | rfl <;> rfl) (Nat.le_of_ble_eq_true rfl) rfl) ?_
  refine w1 (acts_assign (d := 5) (ltN rfl) (OpX.const (.bool true))) ?_
  refine wpl_nil ?_
  refine wp_ret' ?_
  exact ⟨VRes.cells 4 58 4 ⟨58, 3, true, [(.val (.int .i64 (min a.x b.x)) : A), .val (.int .i64 (min a.y b.y)), .val (.bool (decide (a.x = b.x)))]⟩ _ (by kernel_rfl) (by kernel_rfl) qC27_ti_58 (Nat.le_of_ble_eq_true rfl) (bagg (vs := [(.int .i64 (min a.x b.x) : Value), .int .i64 (min a.y b.y), .bool (decide (a.x = b.x))]) (by simp_all [dOv])), VRes.tmp 5 (.a (.val (.bool true))) _ (by kernel_rfl) (bval (congrArg Value.bool (by simp_all [dOv])))⟩

set_option maxHeartbeats 4000000 in
set_option maxRecDepth 100000 in
theorem spec_DominoOver_fn (a b : Cel) : Fn Try.prog 41 [.agg ([(.int .i64 a.x : Value), .int .i64 a.y].map A.val), .agg ([(.int .i64 b.x : Value), .int .i64 b.y].map A.val)] [.val (.agg ([.int .i64 (dOv a b).x, .int .i64 (dOv a b).y, .bool (dOv a b).d] : List Value).toArray), .val (.bool (nbr a b))] := by
 refine fn_intro (N := 27) Try.func41 rfl (by kernel_rfl) rfl (Nat.le_of_ble_eq_true rfl) [2, 3, 4, 8, 15, 20] (ret2 rfl rfl (by intro u hu; injection hu with hu; subst hu; rfl)) (fun W => ?_)
 show Wp _ _ _ [(.s 0, some (.s (V.av [(.int .i64 a.x : Value), .int .i64 a.y]))), (.s 1, some (.s (V.av [(.int .i64 b.x : Value), .int .i64 b.y]))), (.o 2, some .free), (.o 3, some .free), (.o 4, some .free), (.o 8, some .free), (.o 15, some .free), (.o 20, some .free)]
 refine wp_seq' ?_
 refine wp_region_t ?_
 refine w1 (acts_box (d := 2) (h := 2) (b := .agg ([(.int .i64 a.x : Value), .int .i64 a.y].map A.val)) (ltN rfl) (OpX.tmp 0 (V.av [(.int .i64 a.x : Value), .int .i64 a.y])) (by intro y hy; simp [B.cs] at hy; rcases hy with rfl | rfl <;> rfl)) ?_
 refine w1 (acts_box (d := 3) (h := 3) (b := .agg ([(.int .i64 b.x : Value), .int .i64 b.y].map A.val)) (ltN rfl) (OpX.tmp 1 (V.av [(.int .i64 b.x : Value), .int .i64 b.y])) (by intro y hy; simp [B.cs] at hy; rcases hy with rfl | rfl <;> rfl)) ?_
 refine w1 (acts_alloc' (d := 4) (h := 4) (cap := 1) (s := 3) (cells := [(.val (.int .i64 0) : A), .val (.int .i64 0), .val (.bool false)]) (ltN rfl) qC27_zi_58 rfl rfl (by decide)) ?_
 refine w1 (acts_assign (d := 5) (ltN rfl) (OpX.const (.bool false))) ?_
 refine wpl_nil ?_
 refine wp_seq' ?_
 refine wp_seq' ?_
 refine wp_region_t ?_
 refine w1 (acts_load_owns (d := 6) (t := 2) (h := 2) (off := 0) (o := ⟨53, 2, true, [(.val (.int .i64 a.x) : A), .val (.int .i64 a.y)]⟩)  (xs := [(.int .i64 a.x : Value), .int .i64 a.y].map A.val) (ltN rfl) qC27_ti_53 rfl (by decide) rfl) ?_
 refine w1 (acts_load_owns (d := 7) (t := 3) (h := 3) (off := 0) (o := ⟨53, 2, true, [(.val (.int .i64 b.x) : A), .val (.int .i64 b.y)]⟩)  (xs := [(.int .i64 b.x : Value), .int .i64 b.y].map A.val) (ltN rfl) qC27_ti_53 rfl (by decide) rfl) ?_
 refine w1 (acts_call1 (d := 8) (ltN rfl) (spec_AreNeighbors_fn a b ) (ArgVs.cons (ArgV.va (vs := [(.int .i64 a.x : Value), .int .i64 a.y]) (OpV.agg 6 [(.int .i64 a.x : Value), .int .i64 a.y])) (ArgVs.cons (ArgV.va (vs := [(.int .i64 b.x : Value), .int .i64 b.y]) (OpV.agg 7 [(.int .i64 b.x : Value), .int .i64 b.y])) (ArgVs.nil))) (ResV.val _)) ?_
 refine w1 (acts_un (d := 9) (ltN rfl) (OpV.tmp 8 (.bool (nbr a b))) (r_not (c := (!(nbr a b))) rfl)) ?_
 refine wpl_nil ?_
 refine wp_if (t := 9) ((!(nbr a b))) (by kernel_rfl) (fun c1 => ?_) (fun c1 => ?_)
 ·skip
  have c2 : (nbr a b) = false := by simpa using c1
  refine wp_seq' ?_
  refine wp_region_t ?_
  refine w1 (acts_build (d := 10) (t := 58) (cells := [(.int .i64 0 : Value), .int .i64 0, .bool false]) (ltN rfl) (OpVs.nil) rfl) ?_
  refine w1 (acts_store (t := 4) (h := 4) (off := 0) (o := ⟨58, 3, true, [(.val (.int .i64 0) : A), .val (.int .i64 0), .val (.bool false)]⟩) (b := .agg ([(.int .i64 0 : Value), .int .i64 0, .bool false].map A.val)) (cells := [(.val (.int .i64 0) : A), .val (.int .i64 0), .val (.bool false)]) qC27_ti_58 (OpX.tmp 10 (V.av [(.int .i64 0 : Value), .int .i64 0, .bool false])) rfl (by decide) (by intro y hy; simp [B.cs] at hy; rcases hy with rfl | rfl | rfl <;> rfl) (Nat.le_of_ble_eq_true rfl) rfl) ?_
  refine w1 (acts_assign (d := 5) (ltN rfl) (OpX.const (.bool false))) ?_
  refine wpl_nil ?_
  refine wp_ret' ?_
  exact ⟨VRes.cells 4 58 4 ⟨58, 3, true, [(.val (.int .i64 0) : A), .val (.int .i64 0), .val (.bool false)]⟩ _ (by kernel_rfl) (by kernel_rfl) qC27_ti_58 (Nat.le_of_ble_eq_true rfl) (bagg (vs := [(.int .i64 0 : Value), .int .i64 0, .bool false]) (by simp_all [dOv])), VRes.tmp 5 (.a (.val (.bool false))) _ (by kernel_rfl) (bval (congrArg Value.bool (by simp_all [dOv])))⟩
 ·skip
  have c3 : (nbr a b) = true := by simpa using c1
  refine wp_skip' ?_
  refine wp_seq' ?_
  refine wp_region_t ?_
  refine w1 (acts_field (d := 11) (t := 2) (h := 2) (off := 0) (off' := 0) (ltN rfl) qC27_fo_53_0 rfl) ?_
  refine w1 (acts_load_own (d := 12) (t := 11) (h := 2) (off := 0) (o := ⟨53, 2, true, [(.val (.int .i64 a.x) : A), .val (.int .i64 a.y)]⟩)  (x := .val (.int .i64 a.x)) (ltN rfl) qC27_ti_3 rfl) ?_
  refine w1 (acts_field (d := 13) (t := 3) (h := 3) (off := 0) (off' := 0) (ltN rfl) qC27_fo_53_0 rfl) ?_
  refine w1 (acts_load_own (d := 14) (t := 13) (h := 3) (off := 0) (o := ⟨53, 2, true, [(.val (.int .i64 b.x) : A), .val (.int .i64 b.y)]⟩)  (x := .val (.int .i64 b.x)) (ltN rfl) qC27_ti_3 rfl) ?_
  refine w1 (acts_min (d := 15) (c := (min a.x b.x)) (ltN rfl) (OpV.tmp 12 (.int .i64 a.x)) (OpV.tmp 14 (.int .i64 b.x)) (by omega)) ?_
  refine w1 (acts_field (d := 16) (t := 2) (h := 2) (off := 0) (off' := 1) (ltN rfl) qC27_fo_53_1 rfl) ?_
  refine w1 (acts_load_own (d := 17) (t := 16) (h := 2) (off := 1) (o := ⟨53, 2, true, [(.val (.int .i64 a.x) : A), .val (.int .i64 a.y)]⟩)  (x := .val (.int .i64 a.y)) (ltN rfl) qC27_ti_3 rfl) ?_
  refine w1 (acts_field (d := 18) (t := 3) (h := 3) (off := 0) (off' := 1) (ltN rfl) qC27_fo_53_1 rfl) ?_
  refine w1 (acts_load_own (d := 19) (t := 18) (h := 3) (off := 1) (o := ⟨53, 2, true, [(.val (.int .i64 b.x) : A), .val (.int .i64 b.y)]⟩)  (x := .val (.int .i64 b.y)) (ltN rfl) qC27_ti_3 rfl) ?_
  refine w1 (acts_min (d := 20) (c := (min a.y b.y)) (ltN rfl) (OpV.tmp 17 (.int .i64 a.y)) (OpV.tmp 19 (.int .i64 b.y)) (by omega)) ?_
  refine w1 (acts_field (d := 21) (t := 2) (h := 2) (off := 0) (off' := 0) (ltN rfl) qC27_fo_53_0 rfl) ?_
  refine w1 (acts_load_own (d := 22) (t := 21) (h := 2) (off := 0) (o := ⟨53, 2, true, [(.val (.int .i64 a.x) : A), .val (.int .i64 a.y)]⟩)  (x := .val (.int .i64 a.x)) (ltN rfl) qC27_ti_3 rfl) ?_
  refine w1 (acts_field (d := 23) (t := 3) (h := 3) (off := 0) (off' := 0) (ltN rfl) qC27_fo_53_0 rfl) ?_
  refine w1 (acts_load_own (d := 24) (t := 23) (h := 3) (off := 0) (o := ⟨53, 2, true, [(.val (.int .i64 b.x) : A), .val (.int .i64 b.y)]⟩)  (x := .val (.int .i64 b.x)) (ltN rfl) qC27_ti_3 rfl) ?_
  refine w1 (bn 25 (OpV.tmp 22 (.int .i64 a.x)) (OpV.tmp 24 (.int .i64 b.x)) (r_eql (c := (decide (a.x = b.x))) rfl)) ?_
  refine w1 (acts_build (d := 26) (t := 58) (cells := [(.int .i64 (min a.x b.x) : Value), .int .i64 (min a.y b.y), .bool (decide (a.x = b.x))]) (ltN rfl) (OpVs.cons (i := 0) (OpV.tmp 15 (.int .i64 (min a.x b.x))) (OpVs.cons (i := 1) (OpV.tmp 20 (.int .i64 (min a.y b.y))) (OpVs.cons (i := 2) (OpV.tmp 25 (.bool (decide (a.x = b.x)))) (OpVs.nil)))) rfl) ?_
  refine w1 (acts_store (t := 4) (h := 4) (off := 0) (o := ⟨58, 3, true, [(.val (.int .i64 0) : A), .val (.int .i64 0), .val (.bool false)]⟩) (b := .agg ([(.int .i64 (min a.x b.x) : Value), .int .i64 (min a.y b.y), .bool (decide (a.x = b.x))].map A.val)) (cells := [(.val (.int .i64 (min a.x b.x)) : A), .val (.int .i64 (min a.y b.y)), .val (.bool (decide (a.x = b.x)))]) qC27_ti_58 (OpX.tmp 26 (V.av [(.int .i64 (min a.x b.x) : Value), .int .i64 (min a.y b.y), .bool (decide (a.x = b.x))])) rfl (by decide) (by intro y hy; simp [B.cs] at hy; rcases hy with rfl | rfl | rfl <;> rfl) (Nat.le_of_ble_eq_true rfl) rfl) ?_
  refine w1 (acts_assign (d := 5) (ltN rfl) (OpX.const (.bool true))) ?_
  refine wpl_nil ?_
  refine wp_ret' ?_
  exact ⟨VRes.cells 4 58 4 ⟨58, 3, true, [(.val (.int .i64 (min a.x b.x)) : A), .val (.int .i64 (min a.y b.y)), .val (.bool (decide (a.x = b.x)))]⟩ _ (by kernel_rfl) (by kernel_rfl) qC27_ti_58 (Nat.le_of_ble_eq_true rfl) (bagg (vs := [(.int .i64 (min a.x b.x) : Value), .int .i64 (min a.y b.y), .bool (decide (a.x = b.x))]) (by simp_all [dOv])), VRes.tmp 5 (.a (.val (.bool true))) _ (by kernel_rfl) (bval (congrArg Value.bool (by simp_all [dOv])))⟩

theorem impl_leftOf_fn (a b c d : Int) (g1 : -1000 ≤ a) (g2 : a ≤ 1000) (g3 : -1000 ≤ b) (g4 : b ≤ 1000) : Fn Try.prog 85 [.a (.val (.int .i64 a)), .a (.val (.int .i64 b)), .a (.val (.int .i64 c)), .a (.val (.int .i64 d))] [.val (.agg ([.int .i64 (lfC a b c d).x, .int .i64 (lfC a b c d).y] : List Value).toArray)] := by
  refine ⟨⟨_, Try.func85, by kernel_rfl, by kernel_rfl⟩, fun w args h => ?_⟩
  match args, args_iff.1 h with
  | [u0, u1, u2, u3], ⟨h0, h1, h2, h3, _⟩ =>
    obtain rfl := argB_v h0
    obtain rfl := argB_v h1
    obtain rfl := argB_v h2
    obtain rfl := argB_v h3
    refine Calls.mono (leftOf_c a b c d w g1 g2 g3 g4) ?_
    rintro e w' ⟨rfl, hb⟩
    exact ⟨_, rfl, rfl, hb⟩

set_option maxHeartbeats 4000000 in
set_option maxRecDepth 100000 in
theorem impl_besides_fn (a b c d : Int) (g1 : -1000 ≤ a) (g2 : a ≤ 1000) (g3 : -1000 ≤ b) (g4 : b ≤ 1000) (g5 : -1000 ≤ c) (g6 : c ≤ 1000) (g7 : -1000 ≤ d) (g8 : d ≤ 1000) : Fn Try.prog 50 [.a (.val (.int .i64 a)), .a (.val (.int .i64 b)), .a (.val (.int .i64 c)), .a (.val (.int .i64 d))] [.val (.agg ([.int .i64 (lfC a b c d).x, .int .i64 (lfC a b c d).y] : List Value).toArray), .val (.agg ([.int .i64 (lfC c d a b).x, .int .i64 (lfC c d a b).y] : List Value).toArray)] := by
 refine fn_intro (N := 20) Try.func50 rfl (by kernel_rfl) rfl (Nat.le_of_ble_eq_true rfl) [8, 9, 14, 19] (ret2 rfl rfl (by intro u hu; injection hu with hu; subst hu; rfl)) (fun W => ?_)
 show Wp _ _ _ [(.s 0, some (.s (V.v (.int .i64 a)))), (.s 1, some (.s (V.v (.int .i64 b)))), (.s 2, some (.s (V.v (.int .i64 c)))), (.s 3, some (.s (V.v (.int .i64 d)))), (.o 8, some .free), (.o 9, some .free), (.o 14, some .free), (.o 19, some .free)]
 refine wp_seq' ?_
 refine wp_region_t ?_
 refine w1 (acts_alloc' (d := 8) (h := 8) (cap := 1) (s := 2) (cells := [(.val (.int .i64 0) : A), .val (.int .i64 0)]) (ltN rfl) qC27_zi_53 rfl rfl (by decide)) ?_
 refine w1 (acts_alloc' (d := 9) (h := 9) (cap := 1) (s := 2) (cells := [(.val (.int .i64 0) : A), .val (.int .i64 0)]) (ltN rfl) qC27_zi_53 rfl rfl (by decide)) ?_
 refine wpl_nil ?_
 refine wp_seq' ?_
 refine wp_region_t ?_
 refine w1 (mv 10 0 (V.v (.int .i64 a))) ?_
 refine w1 (mv 11 1 (V.v (.int .i64 b))) ?_
 refine w1 (mv 12 2 (V.v (.int .i64 c))) ?_
 refine w1 (mv 13 3 (V.v (.int .i64 d))) ?_
 refine w1 (acts_call1 (d := 14) (ltN rfl) (impl_leftOf_fn a b c d (by omega) (by omega) (by omega) (by omega)) (ArgVs.cons (ArgV.v (OpV.tmp 10 (.int .i64 a))) (ArgVs.cons (ArgV.v (OpV.tmp 11 (.int .i64 b))) (ArgVs.cons (ArgV.v (OpV.tmp 12 (.int .i64 c))) (ArgVs.cons (ArgV.v (OpV.tmp 13 (.int .i64 d))) (ArgVs.nil))))) (ResV.agg [(.int .i64 ((lfC a b c d).x) : Value), .int .i64 ((lfC a b c d).y)])) ?_
 refine w1 (mv 15 2 (V.v (.int .i64 c))) ?_
 refine w1 (mv 16 3 (V.v (.int .i64 d))) ?_
 refine w1 (mv 17 0 (V.v (.int .i64 a))) ?_
 refine w1 (mv 18 1 (V.v (.int .i64 b))) ?_
 refine w1 (acts_call1 (d := 19) (ltN rfl) (impl_leftOf_fn c d a b (by omega) (by omega) (by omega) (by omega)) (ArgVs.cons (ArgV.v (OpV.tmp 15 (.int .i64 c))) (ArgVs.cons (ArgV.v (OpV.tmp 16 (.int .i64 d))) (ArgVs.cons (ArgV.v (OpV.tmp 17 (.int .i64 a))) (ArgVs.cons (ArgV.v (OpV.tmp 18 (.int .i64 b))) (ArgVs.nil))))) (ResV.agg [(.int .i64 ((lfC c d a b).x) : Value), .int .i64 ((lfC c d a b).y)])) ?_
 refine w1 (acts_store (t := 8) (h := 8) (off := 0) (o := ⟨53, 2, true, [(.val (.int .i64 0) : A), .val (.int .i64 0)]⟩) (b := .agg ([(.int .i64 ((lfC a b c d).x) : Value), .int .i64 ((lfC a b c d).y)].map A.val)) (cells := [(.val (.int .i64 ((lfC a b c d).x)) : A), .val (.int .i64 ((lfC a b c d).y))]) qC27_ti_53 (OpX.tmp 14 (V.av [(.int .i64 ((lfC a b c d).x) : Value), .int .i64 ((lfC a b c d).y)])) rfl (by decide) (by intro y hy; simp [B.cs] at hy; rcases hy with rfl | rfl <;> rfl) (Nat.le_of_ble_eq_true rfl) rfl) ?_
 refine w1 (acts_store (t := 9) (h := 9) (off := 0) (o := ⟨53, 2, true, [(.val (.int .i64 0) : A), .val (.int .i64 0)]⟩) (b := .agg ([(.int .i64 ((lfC c d a b).x) : Value), .int .i64 ((lfC c d a b).y)].map A.val)) (cells := [(.val (.int .i64 ((lfC c d a b).x)) : A), .val (.int .i64 ((lfC c d a b).y))]) qC27_ti_53 (OpX.tmp 19 (V.av [(.int .i64 ((lfC c d a b).x) : Value), .int .i64 ((lfC c d a b).y)])) rfl (by decide) (by intro y hy; simp [B.cs] at hy; rcases hy with rfl | rfl <;> rfl) (Nat.le_of_ble_eq_true rfl) rfl) ?_
 refine wpl_nil ?_
 refine wp_ret' ?_
 exact ⟨VRes.cells 8 53 8 ⟨53, 2, true, [(.val (.int .i64 ((lfC a b c d).x)) : A), .val (.int .i64 ((lfC a b c d).y))]⟩ _ (by kernel_rfl) (by kernel_rfl) qC27_ti_53 (Nat.le_of_ble_eq_true rfl) (bagg (vs := [(.int .i64 ((lfC a b c d).x) : Value), .int .i64 ((lfC a b c d).y)]) (by rfl)), VRes.cells 9 53 9 ⟨53, 2, true, [(.val (.int .i64 ((lfC c d a b).x)) : A), .val (.int .i64 ((lfC c d a b).y))]⟩ _ (by kernel_rfl) (by kernel_rfl) qC27_ti_53 (Nat.le_of_ble_eq_true rfl) (bagg (vs := [(.int .i64 ((lfC c d a b).x) : Value), .int .i64 ((lfC c d a b).y)]) (by rfl))⟩

set_option maxHeartbeats 4000000 in
set_option maxRecDepth 100000 in
theorem spec_l13Sides_fn (a b c d : Int) (g1 : -1000 ≤ a) (g2 : a ≤ 1000) (g3 : -1000 ≤ b) (g4 : b ≤ 1000) (g5 : -1000 ≤ c) (g6 : c ≤ 1000) (g7 : -1000 ≤ d) (g8 : d ≤ 1000) : Fn Try.prog 40 [.a (.val (.int .i64 a)), .a (.val (.int .i64 b)), .a (.val (.int .i64 c)), .a (.val (.int .i64 d))] [.val (.agg ([.int .i64 (sdA a b c d).x, .int .i64 (sdA a b c d).y] : List Value).toArray), .val (.agg ([.int .i64 (sdB a b c d).x, .int .i64 (sdB a b c d).y] : List Value).toArray)] := by
 refine fn_intro (N := 35) Try.func40 rfl (by kernel_rfl) rfl (Nat.le_of_ble_eq_true rfl) [8, 9, 14, 17] (ret2 rfl rfl (by intro u hu; injection hu with hu; subst hu; rfl)) (fun W => ?_)
 show Wp _ _ _ [(.s 0, some (.s (V.v (.int .i64 a)))), (.s 1, some (.s (V.v (.int .i64 b)))), (.s 2, some (.s (V.v (.int .i64 c)))), (.s 3, some (.s (V.v (.int .i64 d)))), (.o 8, some .free), (.o 9, some .free), (.o 14, some .free), (.o 17, some .free)]
 refine wp_seq' ?_
 refine wp_region_t ?_
 refine w1 (acts_alloc' (d := 8) (h := 8) (cap := 1) (s := 2) (cells := [(.val (.int .i64 0) : A), .val (.int .i64 0)]) (ltN rfl) qC27_zi_53 rfl rfl (by decide)) ?_
 refine w1 (acts_alloc' (d := 9) (h := 9) (cap := 1) (s := 2) (cells := [(.val (.int .i64 0) : A), .val (.int .i64 0)]) (ltN rfl) qC27_zi_53 rfl rfl (by decide)) ?_
 refine wpl_nil ?_
 refine wp_seq' ?_
 refine wp_region_t ?_
 refine w1 (mv 12 0 (V.v (.int .i64 a))) ?_
 refine w1 (mv 13 2 (V.v (.int .i64 c))) ?_
 refine w1 (acts_min (d := 14) (c := (min a c)) (ltN rfl) (OpV.tmp 12 (.int .i64 a)) (OpV.tmp 13 (.int .i64 c)) (by omega)) ?_
 refine w1 (asg 10 14 (V.v (.int .i64 (min a c)))) ?_
 refine wpl_nil ?_
 refine wp_seq' ?_
 refine wp_region_t ?_
 refine w1 (mv 15 1 (V.v (.int .i64 b))) ?_
 refine w1 (mv 16 3 (V.v (.int .i64 d))) ?_
 refine w1 (acts_min (d := 17) (c := (min b d)) (ltN rfl) (OpV.tmp 15 (.int .i64 b)) (OpV.tmp 16 (.int .i64 d)) (by omega)) ?_
 refine w1 (asg 11 17 (V.v (.int .i64 (min b d)))) ?_
 refine wpl_nil ?_
 refine wp_seq' ?_
 refine wp_seq' ?_
 refine wp_region_t ?_
 refine w1 (mv 18 1 (V.v (.int .i64 b))) ?_
 refine w1 (mv 19 3 (V.v (.int .i64 d))) ?_
 refine w1 (bn 20 (OpV.tmp 18 (.int .i64 b)) (OpV.tmp 19 (.int .i64 d)) (r_eql (c := (decide (b = d))) rfl)) ?_
 refine wpl_nil ?_
 refine wp_if (t := 20) (decide (b = d)) (by kernel_rfl) (fun c1 => ?_) (fun c1 => ?_)
 ·skip
  have c1P := of_decide_eq_true c1
  refine wp_seq' ?_
  refine wp_region_t ?_
  refine w1 (mv 21 10 (V.v (.int .i64 (min a c)))) ?_
  refine w1 (mv 22 11 (V.v (.int .i64 (min b d)))) ?_
  refine w1 (bn 23 (OpV.tmp 22 (.int .i64 (min b d))) (OpV.const (.int .i64 1)) (r_sub (c := ((min b d) - 1)) (w64 (by omega) (by omega)))) ?_
  refine w1 (acts_build (d := 24) (t := 53) (cells := [(.int .i64 (min a c) : Value), .int .i64 ((min b d) - 1)]) (ltN rfl) (OpVs.cons (i := 0) (OpV.tmp 21 (.int .i64 (min a c))) (OpVs.cons (i := 1) (OpV.tmp 23 (.int .i64 ((min b d) - 1))) (OpVs.nil))) rfl) ?_
  refine w1 (mv 25 10 (V.v (.int .i64 (min a c)))) ?_
  refine w1 (mv 26 11 (V.v (.int .i64 (min b d)))) ?_
  refine w1 (acts_build (d := 27) (t := 53) (cells := [(.int .i64 (min a c) : Value), .int .i64 (min b d)]) (ltN rfl) (OpVs.cons (i := 0) (OpV.tmp 25 (.int .i64 (min a c))) (OpVs.cons (i := 1) (OpV.tmp 26 (.int .i64 (min b d))) (OpVs.nil))) rfl) ?_
  refine w1 (acts_store (t := 8) (h := 8) (off := 0) (o := ⟨53, 2, true, [(.val (.int .i64 0) : A), .val (.int .i64 0)]⟩) (b := .agg ([(.int .i64 (min a c) : Value), .int .i64 ((min b d) - 1)].map A.val)) (cells := [(.val (.int .i64 (min a c)) : A), .val (.int .i64 ((min b d) - 1))]) qC27_ti_53 (OpX.tmp 24 (V.av [(.int .i64 (min a c) : Value), .int .i64 ((min b d) - 1)])) rfl (by decide) (by intro y hy; simp [B.cs] at hy; rcases hy with rfl | rfl <;> rfl) (Nat.le_of_ble_eq_true rfl) rfl) ?_
  refine w1 (acts_store (t := 9) (h := 9) (off := 0) (o := ⟨53, 2, true, [(.val (.int .i64 0) : A), .val (.int .i64 0)]⟩) (b := .agg ([(.int .i64 (min a c) : Value), .int .i64 (min b d)].map A.val)) (cells := [(.val (.int .i64 (min a c)) : A), .val (.int .i64 (min b d))]) qC27_ti_53 (OpX.tmp 27 (V.av [(.int .i64 (min a c) : Value), .int .i64 (min b d)])) rfl (by decide) (by intro y hy; simp [B.cs] at hy; rcases hy with rfl | rfl <;> rfl) (Nat.le_of_ble_eq_true rfl) rfl) ?_
  refine wpl_nil ?_
  refine wp_ret' ?_
  exact ⟨VRes.cells 8 53 8 ⟨53, 2, true, [(.val (.int .i64 (min a c)) : A), .val (.int .i64 ((min b d) - 1))]⟩ _ (by kernel_rfl) (by kernel_rfl) qC27_ti_53 (Nat.le_of_ble_eq_true rfl) (bagg (vs := [(.int .i64 (min a c) : Value), .int .i64 ((min b d) - 1)]) (by (unfold sdA; rw [if_pos (by assumption)]))), VRes.cells 9 53 9 ⟨53, 2, true, [(.val (.int .i64 (min a c)) : A), .val (.int .i64 (min b d))]⟩ _ (by kernel_rfl) (by kernel_rfl) qC27_ti_53 (Nat.le_of_ble_eq_true rfl) (bagg (vs := [(.int .i64 (min a c) : Value), .int .i64 (min b d)]) (by rfl))⟩
 ·skip
  have c1P := of_decide_eq_false c1
  refine wp_skip' ?_
  refine wp_seq' ?_
  refine wp_region_t ?_
  refine w1 (mv 28 10 (V.v (.int .i64 (min a c)))) ?_
  refine w1 (bn 29 (OpV.tmp 28 (.int .i64 (min a c))) (OpV.const (.int .i64 1)) (r_sub (c := ((min a c) - 1)) (w64 (by omega) (by omega)))) ?_
  refine w1 (mv 30 11 (V.v (.int .i64 (min b d)))) ?_
  refine w1 (acts_build (d := 31) (t := 53) (cells := [(.int .i64 ((min a c) - 1) : Value), .int .i64 (min b d)]) (ltN rfl) (OpVs.cons (i := 0) (OpV.tmp 29 (.int .i64 ((min a c) - 1))) (OpVs.cons (i := 1) (OpV.tmp 30 (.int .i64 (min b d))) (OpVs.nil))) rfl) ?_
  refine w1 (mv 32 10 (V.v (.int .i64 (min a c)))) ?_
  refine w1 (mv 33 11 (V.v (.int .i64 (min b d)))) ?_
  refine w1 (acts_build (d := 34) (t := 53) (cells := [(.int .i64 (min a c) : Value), .int .i64 (min b d)]) (ltN rfl) (OpVs.cons (i := 0) (OpV.tmp 32 (.int .i64 (min a c))) (OpVs.cons (i := 1) (OpV.tmp 33 (.int .i64 (min b d))) (OpVs.nil))) rfl) ?_
  refine w1 (acts_store (t := 8) (h := 8) (off := 0) (o := ⟨53, 2, true, [(.val (.int .i64 0) : A), .val (.int .i64 0)]⟩) (b := .agg ([(.int .i64 ((min a c) - 1) : Value), .int .i64 (min b d)].map A.val)) (cells := [(.val (.int .i64 ((min a c) - 1)) : A), .val (.int .i64 (min b d))]) qC27_ti_53 (OpX.tmp 31 (V.av [(.int .i64 ((min a c) - 1) : Value), .int .i64 (min b d)])) rfl (by decide) (by intro y hy; simp [B.cs] at hy; rcases hy with rfl | rfl <;> rfl) (Nat.le_of_ble_eq_true rfl) rfl) ?_
  refine w1 (acts_store (t := 9) (h := 9) (off := 0) (o := ⟨53, 2, true, [(.val (.int .i64 0) : A), .val (.int .i64 0)]⟩) (b := .agg ([(.int .i64 (min a c) : Value), .int .i64 (min b d)].map A.val)) (cells := [(.val (.int .i64 (min a c)) : A), .val (.int .i64 (min b d))]) qC27_ti_53 (OpX.tmp 34 (V.av [(.int .i64 (min a c) : Value), .int .i64 (min b d)])) rfl (by decide) (by intro y hy; simp [B.cs] at hy; rcases hy with rfl | rfl <;> rfl) (Nat.le_of_ble_eq_true rfl) rfl) ?_
  refine wpl_nil ?_
  refine wp_ret' ?_
  exact ⟨VRes.cells 8 53 8 ⟨53, 2, true, [(.val (.int .i64 ((min a c) - 1)) : A), .val (.int .i64 (min b d))]⟩ _ (by kernel_rfl) (by kernel_rfl) qC27_ti_53 (Nat.le_of_ble_eq_true rfl) (bagg (vs := [(.int .i64 ((min a c) - 1) : Value), .int .i64 (min b d)]) (by (unfold sdA; rw [if_neg (by assumption)]))), VRes.cells 9 53 9 ⟨53, 2, true, [(.val (.int .i64 (min a c)) : A), .val (.int .i64 (min b d))]⟩ _ (by kernel_rfl) (by kernel_rfl) qC27_ti_53 (Nat.le_of_ble_eq_true rfl) (bagg (vs := [(.int .i64 (min a c) : Value), .int .i64 (min b d)]) (by rfl))⟩

theorem impl_EdgeStep_fn (a b c d : Int) : Fn Try.prog 49 [.a (.val (.int .i64 a)), .a (.val (.int .i64 b)), .a (.val (.int .i64 c)), .a (.val (.int .i64 d))] [.val (.int .i64 (estep a b c d))] := by
  refine ⟨⟨_, Try.func49, by kernel_rfl, by kernel_rfl⟩, fun w args h => ?_⟩
  match args, args_iff.1 h with
  | [u0, u1, u2, u3], ⟨h0, h1, h2, h3, _⟩ =>
    obtain rfl := argB_v h0
    obtain rfl := argB_v h1
    obtain rfl := argB_v h2
    obtain rfl := argB_v h3
    refine Calls.mono (edgeStep_impl a b c d w) ?_
    rintro e w' ⟨rfl, hb⟩
    exact ⟨_, rfl, rfl, hb⟩

theorem spec_EdgeStep_fn (a b c d : Int) : Fn Try.prog 39 [.a (.val (.int .i64 a)), .a (.val (.int .i64 b)), .a (.val (.int .i64 c)), .a (.val (.int .i64 d))] [.val (.int .i64 (estep a b c d))] := by
  refine ⟨⟨_, Try.func39, by kernel_rfl, by kernel_rfl⟩, fun w args h => ?_⟩
  match args, args_iff.1 h with
  | [u0, u1, u2, u3], ⟨h0, h1, h2, h3, _⟩ =>
    obtain rfl := argB_v h0
    obtain rfl := argB_v h1
    obtain rfl := argB_v h2
    obtain rfl := argB_v h3
    refine Calls.mono (edgeStep_spec a b c d w) ?_
    rintro e w' ⟨rfl, hb⟩
    exact ⟨_, rfl, rfl, hb⟩
end Cl
end Go.Proofs.Ytmbodpmhokbapaa
