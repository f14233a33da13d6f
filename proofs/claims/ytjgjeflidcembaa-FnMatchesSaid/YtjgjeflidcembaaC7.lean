/- Walks over clean states, printed by wg.py. No statement is proved here. -/
import Derived.Test.YtjgjeflidcembaaC6
import Derived.Test.YtjgjeflidcembaaClB
namespace Go.Proofs.Ytjgjeflidcembaa
namespace Cl
open Go.ChangeShapes Go.WideShapes Go.ChangeAt Go.RowKit
set_option maxRecDepth 20000

def dOv (a b : Cel) : Dom := if nbr a b then ⟨min a.x b.x, min a.y b.y, decide (a.x = b.x)⟩ else ⟨0, 0, false⟩
def matT (jo : List Int) (k : Nat) : List Dom := ((List.range k).filter (fun i => decide (0 ≤ gI jo i))).map (fun i => dOv (cN i) (cN (gI jo i).toNat))
theorem matT_yes {jo : List Int} {k : Nat} (h : 0 ≤ gI jo k) : matT jo (k+1) = matT jo k ++ [dOv (cN k) (cN (gI jo k).toNat)] := by
  unfold matT; rw [List.range_succ, List.filter_append, List.map_append]; simp [h]
theorem matT_no {jo : List Int} {k : Nat} (h : ¬ 0 ≤ gI jo k) : matT jo (k+1) = matT jo k := by
  unfold matT; rw [List.range_succ, List.filter_append, List.map_append]; simp [h]
theorem matT_len (jo : List Int) (k : Nat) : (matT jo k).length ≤ k := by
  unfold matT; rw [List.length_map]; exact Nat.le_trans (List.length_filter_le _ _) (by simp)
structure WG (st : Nat × List Cel) : Prop where
  lt : st.1 < 18446744073709551616
  pc : st.2.length = popc st.1
  ok : ∀ c ∈ st.2, okc c.x c.y = true
theorem WG.len {st : Nat × List Cel} (h : WG st) : st.2.length ≤ 64 := by rw [h.pc]; exact popc_le _
theorem WG.at {st : Nat × List Cel} (h : WG st) {k : Nat} (hk : k < st.2.length) : okc (gC st.2 k).x (gC st.2 k).y = true := h.ok _ (gC_mem hk)
theorem WG.push {st : Nat × List Cel} (h : WG st) {c : Cel} (hc : okc c.x c.y = true) (hn : st.1.testBit (idx c) = false) : WG (addC st.1 c, st.2 ++ [c]) := by
  refine ⟨addC_lt h.lt hc, ?_, fun d hd => ?_⟩
  · simp only [List.length_append, List.length_singleton]; rw [h.pc, popc_add hc hn]
  · simp only [List.mem_append, List.mem_singleton] at hd
    rcases hd with hd | rfl
    · exact h.ok d hd
    · exact hc
theorem qC7_bs_37 : ∀ (a b : Int) (c : Bool), Try.prog.built 37 [(0, .int .i64 a), (1, .int .i64 b), (2, .bool c)] = some ([.int .i64 a, .int .i64 b, .bool c] : List Value).toArray := fun _ _ _ => rfl
theorem qC7_fo_46_0 : fieldOff Try.prog 46 0 = some 0 := by kernel_rfl
theorem qC7_fo_46_1 : fieldOff Try.prog 46 1 = some 1 := by kernel_rfl
theorem qC7_ti_3 : TI Try.prog 3 false 1 := ⟨⟨_, Try.underlying3, rfl⟩, by kernel_rfl⟩
theorem qC7_ti_37 : TI Try.prog 37 true 3 := ⟨⟨_, Try.underlying37, rfl⟩, by kernel_rfl⟩
theorem qC7_ti_46 : TI Try.prog 46 true 2 := ⟨⟨_, Try.underlying46, rfl⟩, by kernel_rfl⟩
theorem qC7_zi_37 : ZI Try.prog 37 (.agg #[.int .i64 0, .int .i64 0, .bool false]) 3 24 := by unfold ZI; kernel_rfl
set_option maxHeartbeats 4000000 in
set_option maxRecDepth 100000 in
theorem impl_DominoOver_fn (a b : Cel) : Fn Try.prog 68 [.agg ([vI a.x, vI a.y].map A.val), .agg ([vI b.x, vI b.y].map A.val)] [.val (.agg ([.int .i64 (dOv a b).x, .int .i64 (dOv a b).y, .bool (dOv a b).d] : List Value).toArray), .val (.bool (nbr a b))] := by
 refine fn_intro (N := 27) Try.func68 rfl (by kernel_rfl) rfl (Nat.le_of_ble_eq_true rfl) [2, 3, 4, 8, 15, 20] (ret2 rfl rfl (by intro u hu; injection hu with hu; subst hu; rfl)) (fun W => ?_)
 show Wp _ _ _ [kV 0 (V.av [vI a.x, vI a.y]), kV 1 (V.av [vI b.x, vI b.y]), kF 2, kF 3, kF 4, kF 8, kF 15, kF 20]
 refine sq (rg ?_)
 refine z ?_ (h := fun ν => acts_box (h := 2) ν xt (by exact ob1 rfl))
 refine z ?_ (h := fun ν => acts_box (h := 3) ν xt (by exact ob1 rfl))
 refine z ?_ (h := fun ν => acts_alloc' (h := 4) (cap := 1) (s := 3) (cells := [aI 0, aI 0, aB false]) ν qC7_zi_37 rfl rfl (by decide))
 refine zk (nl (sq (sq (rg ?_))))
 refine z ?_ (h := fun ν => acts_load_owns (xs := [vI a.x, vI a.y].map A.val) ν qC7_ti_46 rfl (by decide) rfl)
 refine z ?_ (h := fun ν => acts_load_owns (xs := [vI b.x, vI b.y].map A.val) ν qC7_ti_46 rfl (by decide) rfl)
 refine z ?_ (h := fun ν => acts_call1 ν (impl_AreNeighbors_fn a b ) (ac (ArgV.va va) (ac (ArgV.va va) an)) rv)
 refine z ?_ (h := fun ν => acts_un ν vt (r_not rfl))
 refine nl ?_
 refine wi (b := (!(nbr a b))) (fun c1 => ?_) (fun c1 => ?_)
 ·skip
  have c2 : (nbr a b) = false := by first | (rw [← Bool.not_eq_true']; exact c1) | simpa using c1
  refine sq (rg ?_)
  refine z ?_ (h := fun ν => acts_build (cells := [vI 0, vI 0, .bool false]) ν OpVs.nil rfl)
  refine z ?_ (h := fun _ => acts_store (cells := [aI 0, aI 0, aB false]) qC7_ti_37 xt (by exact rfl) (by decide) (by exact ob1 rfl) (by exact Nat.le_of_ble_eq_true rfl) (by exact rfl))
  refine zk (nl (wp_ret' ?_))
  exact ⟨VRes.cells 4 37 4 ⟨37, 3, true, [aI 0, aI 0, aB false]⟩ _ (by kernel_rfl) (by kernel_rfl) qC7_ti_37 (Nat.le_of_ble_eq_true rfl) (bagg (vs := [vI 0, vI 0, .bool false]) (by simp_all [dOv])), VRes.tmp _ _ _ (by exact rfl) (bval (congrArg Value.bool (by simp_all [dOv])))⟩
 ·skip
  have c3 : (nbr a b) = true := by first | (rw [← Bool.not_eq_false']; exact c1) | simpa using c1
  refine sk (sq (rg ?_))
  refine z ?_ (h := fun ν => acts_field (off' := 0) ν qC7_fo_46_0 rfl)
  refine z ?_ (h := fun ν => acts_load_own (x := .val (.int .i64 a.x)) ν qC7_ti_3 (by exact rfl))
  refine z ?_ (h := fun ν => acts_field (off' := 0) ν qC7_fo_46_0 rfl)
  refine z ?_ (h := fun ν => acts_load_own (x := .val (.int .i64 b.x)) ν qC7_ti_3 (by exact rfl))
  refine z ?_ (h := fun ν => acts_min (c := (min a.x b.x)) ν vt vt (by omega))
  refine z ?_ (h := fun ν => acts_field (off' := 1) ν qC7_fo_46_1 rfl)
  refine z ?_ (h := fun ν => acts_load_own (x := .val (.int .i64 a.y)) ν qC7_ti_3 (by exact rfl))
  refine z ?_ (h := fun ν => acts_field (off' := 1) ν qC7_fo_46_1 rfl)
  refine z ?_ (h := fun ν => acts_load_own (x := .val (.int .i64 b.y)) ν qC7_ti_3 (by exact rfl))
  refine z ?_ (h := fun ν => acts_min (c := (min a.y b.y)) ν vt vt (by omega))
  refine z ?_ (h := fun ν => acts_field (off' := 0) ν qC7_fo_46_0 rfl)
  refine z ?_ (h := fun ν => acts_load_own (x := .val (.int .i64 a.x)) ν qC7_ti_3 (by exact rfl))
  refine z ?_ (h := fun ν => acts_field (off' := 0) ν qC7_fo_46_0 rfl)
  refine z ?_ (h := fun ν => acts_load_own (x := .val (.int .i64 b.x)) ν qC7_ti_3 (by exact rfl))
  refine z ?_ (h := fun ν => acts_bin ν vt vt (r_eql rfl))
  refine z ?_ (h := fun ν => bD ν qC7_bs_37 vt vt vt)
  refine z ?_ (h := fun _ => acts_store (cells := [aI (min a.x b.x), aI (min a.y b.y), aB (decide (a.x = b.x))]) qC7_ti_37 xt (by exact rfl) (by decide) (by exact ob1 rfl) (by exact Nat.le_of_ble_eq_true rfl) (by exact rfl))
  refine zk (nl (wp_ret' ?_))
  exact ⟨VRes.cells 4 37 4 ⟨37, 3, true, [aI (min a.x b.x), aI (min a.y b.y), aB (decide (a.x = b.x))]⟩ _ (by kernel_rfl) (by kernel_rfl) qC7_ti_37 (Nat.le_of_ble_eq_true rfl) (bagg (vs := [vI (min a.x b.x), vI (min a.y b.y), .bool (decide (a.x = b.x))]) (by simp_all [dOv])), VRes.tmp _ _ _ (by exact rfl) (bval (congrArg Value.bool (by simp_all [dOv])))⟩

end Cl
end Go.Proofs.Ytjgjeflidcembaa
