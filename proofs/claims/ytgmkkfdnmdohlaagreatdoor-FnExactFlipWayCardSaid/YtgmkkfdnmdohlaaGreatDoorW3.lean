/- Walks over clean states, printed by wg.py. No statement is proved here. -/
import Derived.Test.YtgmkkfdnmdohlaaGreatDoorW1
import Derived.Test.YtgmkkfdnmdohlaaGreatDoorC1
import Derived.Test.YtgmkkfdnmdohlaaGreatDoorClB
set_option linter.unusedSimpArgs false
set_option linter.unusedVariables false
namespace Go.Proofs.YtgmkkfdnmdohlaaGreatDoor
namespace Cl
open Go.ChangeShapes Go.WideShapes Go.ChangeAt Go.RowKit
set_option maxRecDepth 20000

def genK {α : Type} (f : Nat → α) (l : List α) (k : Nat) : List α := (List.range k).map f ++ l.drop k
theorem genK_len {α : Type} {f : Nat → α} {l : List α} {k : Nat} (h : k ≤ l.length) : (genK f l k).length = l.length := by unfold genK; rw [List.length_append, List.length_map, List.length_range, List.length_drop]; omega
theorem genK_zero {α : Type} (f : Nat → α) (l : List α) : genK f l 0 = l := by simp [genK]
theorem genK_end {α : Type} {f : Nat → α} {l : List α} {k : Nat} (h : ¬ k < l.length) (h2 : k ≤ l.length) : genK f l k = (List.range l.length).map f := by
  unfold genK; rw [List.drop_of_length_le (by omega), show k = l.length by omega, List.append_nil]
theorem genK_set {α : Type} {f : Nat → α} {l : List α} {k : Nat} (h : k < l.length) {x : α} (hx : x = f k) : (genK f l k).set k x = genK f l (k + 1) := by
  subst hx
  unfold genK
  rw [List.set_append_right _ _ (by simp), List.length_map, List.length_range, Nat.sub_self, List.drop_eq_getElem_cons h, List.range_succ, List.map_append, List.append_assoc]; rfl
def cntF (v : Int) : Nat → Int := fun i => v + (i : Int)
def cntI (v : Int) (n : Nat) : List Int := (List.range n).map (cntF v)
theorem qW3_fo_24_0 : fieldOff Tryz.prog 24 0 = some 0 := by kernel_rfl
theorem qW3_fo_29_0 : fieldOff Tryz.prog 29 0 = some 0 := by kernel_rfl
theorem qW3_sz_3 : (Tryz.prog.info? 3).map (·.size) = some 1 := by kernel_rfl
theorem qW3_ti_22 : TI Tryz.prog 22 false 1 := ⟨⟨_, Tryz.underlying22, rfl⟩, by kernel_rfl⟩
theorem qW3_ti_29 : TI Tryz.prog 29 true 1 := ⟨⟨_, Tryz.underlying29, rfl⟩, by kernel_rfl⟩
theorem qW3_ti_3 : TI Tryz.prog 3 false 1 := ⟨⟨_, Tryz.underlying3, rfl⟩, by kernel_rfl⟩
theorem qW3_un_22 : Tryz.prog.underlying 22 = some (.slice 3) := Tryz.underlying22
theorem qW3_zi_29 : ZI Tryz.prog 29 (.agg #[.slice none 0 0]) 1 24 := by unfold ZI; kernel_rfl
set_option maxHeartbeats 4000000 in
set_option maxRecDepth 100000 in
theorem laws_szRegion_fn (l : List Int) (v : Int) (hl : l.length ≤ 9223372036854775807) (hz : 0 ≤ v ∧ v ≤ 1048576) : Fn Tryz.prog 6 [.agg [(.slv l.length 1 (isl l) : A)], .a (.val (.int .i64 v))] [.val (.int .i64 (szS v l.length))] := by
 have hsc := szS_cases v l.length
 refine fn_intro (N := 12) Tryz.func6 rfl (by kernel_rfl) rfl (Nat.le_of_ble_eq_true rfl) [2, 8] (ret1 rfl) (fun W => ?_)
 show Wp _ _ _ [kV 0 (V.b (.agg [(.slv l.length 1 (isl l) : A)])), kI 1 v, kF 2, kF 8]
 refine sq (rg ?_)
 refine z ?_ (h := fun ν => acts_box (h := 2) ν xt (by exact ob1 rfl))
 refine zk (nl (sq (rg ?_)))
 refine z ?_ (h := fun ν => acts_field (off' := 0) ν qW3_fo_24_0 rfl)
 refine z ?_ (h := fun ν => acts_load_own (x := .slv l.length 1 (isl l)) ν qW3_ti_22 (by exact rfl))
 refine zm ?_
 refine z ?_ (h := fun ν => acts_call1 ν (laws_szIntS_fn l v (by omega) (by omega)) (ac (ArgV.slv _ _ _ _) (ac (ArgV.v vt) an)) rv)
 refine za (nl (sq (sq (rg (zm ?_)))))
 refine z ?_ (h := fun ν => acts_bin ν vt vc (r_lss rfl))
 refine nl ?_
 refine wi (fun c1 => ?_) (fun c1 => ?_)
 ·skip
  have c1P := of_decide_eq_true c1
  refine sq (rg (zk (nl (wp_ret' ?_))))
  exact VRes.tmp _ _ _ (by exact rfl) (bval (congrArg (Value.int .i64) (by omega)))
 ·skip
  have c1P := of_decide_eq_false c1
  refine sk (sq (rg (zm (za (nl (wp_ret' ?_))))))
  exact VRes.tmp _ _ _ (by exact rfl) (BRes.val _)

set_option maxHeartbeats 4000000 in
set_option maxRecDepth 100000 in
theorem laws_toRegion_fn (l : List Int) (hl : l.length ≤ 4194304) : Fn Tryz.prog 9 [.agg [(.slv l.length 1 (isl l) : A)]] [.reg 3 1 l.length (isl l)] := by
 refine fn_intro (N := 9) Tryz.func9 rfl (by kernel_rfl) rfl (Nat.le_of_ble_eq_true rfl) [1, 2, 3, 6] (ret1 rfl) (fun W => ?_)
 show Wp _ _ _ [kV 0 (V.b (.agg [(.slv l.length 1 (isl l) : A)])), kF 1, kF 2, kF 3, kF 6]
 refine sq (rg ?_)
 refine z ?_ (h := fun ν => acts_box (h := 1) ν xt (by exact ob1 rfl))
 refine z ?_ (h := fun ν => acts_alloc' (h := 2) (cap := 1) (s := 1) (cells := [(.val (.slice none 0 0) : A)]) ν qW3_zi_29 rfl rfl (by decide))
 refine nl (sq (rg ?_))
 refine z ?_ (h := fun ν => acts_alloc' (h := 3) (cap := 1) (s := 1) (cells := [(.val (.slice none 0 0) : A)]) ν qW3_zi_29 rfl rfl (by decide))
 refine nl (sq (rg ?_))
 refine z ?_ (h := fun ν => acts_field (off' := 0) ν qW3_fo_24_0 rfl)
 refine z ?_ (h := fun ν => acts_load_own (x := .slv l.length 1 (isl l)) ν qW3_ti_22 (by exact rfl))
 refine z ?_ (h := fun ν => acts_call1 ν (laws_toIntS_fn l (by omega)) (ac (ArgV.slv _ _ _ _) an) (ResV.row _ _ _ _ 6))
 refine z ?_ (h := fun ν => acts_field (off' := 0) ν qW3_fo_29_0 rfl)
 refine z ?_ (h := fun _ => acts_store (cells := [(.sl 6 0 l.length : A)]) qW3_ti_22 xt (by exact rfl) (by decide) (by exact ob1 rfl) (by exact Nat.le_of_ble_eq_true rfl) (by exact rfl))
 refine nl (sq (rg ?_))
 refine z ?_ (h := fun ν => acts_load_owns (xs := [(.sl 6 0 l.length : A)]) ν qW3_ti_29 rfl (by decide) rfl)
 refine z ?_ (h := fun _ => acts_store (cells := [(.sl 6 0 l.length : A)]) qW3_ti_29 xt (by exact rfl) (by decide) (by exact ob1 rfl) (by exact Nat.le_of_ble_eq_true rfl) (by exact rfl))
 refine nl (wp_ret' ?_)
 exact VRes.cells 2 29 2 ⟨29, 1, true, [(.sl 6 0 l.length : A)]⟩ _ (by kernel_rfl) (by kernel_rfl) qW3_ti_29 (Nat.le_of_ble_eq_true rfl) (breg (h := 6) (L := l) (by kernel_rfl) (by rfl) (by rfl))

set_option maxHeartbeats 4000000 in
set_option maxRecDepth 100000 in
theorem laws_eqRegion_fn (a b : List Int) (ha : a.length ≤ 4194304) (hb : b.length ≤ 4194304) : Fn Tryz.prog 12 [.agg [(.slv a.length 1 (isl a) : A)], .agg [(.slv b.length 1 (isl b) : A)]] [.val (.bool (decide (a = b)))] := by
 refine fn_intro (N := 11) Tryz.func12 rfl (by kernel_rfl) rfl (Nat.le_of_ble_eq_true rfl) [2, 3, 9] (ret1 rfl) (fun W => ?_)
 show Wp _ _ _ [kV 0 (V.b (.agg [(.slv a.length 1 (isl a) : A)])), kV 1 (V.b (.agg [(.slv b.length 1 (isl b) : A)])), kF 2, kF 3, kF 9]
 refine sq (rg ?_)
 refine z ?_ (h := fun ν => acts_box (h := 2) ν xt (by exact ob1 rfl))
 refine z ?_ (h := fun ν => acts_box (h := 3) ν xt (by exact ob1 rfl))
 refine zk (nl (sq (sq (rg ?_))))
 refine z ?_ (h := fun ν => acts_field (off' := 0) ν qW3_fo_29_0 rfl)
 refine z ?_ (h := fun ν => acts_load_own (x := .slv a.length 1 (isl a)) ν qW3_ti_22 (by exact rfl))
 refine z ?_ (h := fun ν => acts_field (off' := 0) ν qW3_fo_29_0 rfl)
 refine z ?_ (h := fun ν => acts_load_own (x := .slv b.length 1 (isl b)) ν qW3_ti_22 (by exact rfl))
 refine z ?_ (h := fun ν => acts_call1 ν (laws_eqIntS_fn a b (by omega) (by omega)) (ac (ArgV.slv _ _ _ _) (ac (ArgV.slv _ _ _ _) an)) rv)
 refine z ?_ (h := fun ν => acts_un ν vt (r_not rfl))
 refine nl ?_
 refine wi (b := (!(decide (a = b)))) (fun c1 => ?_) (fun c1 => ?_)
 ·skip
  have c2 : decide (a = b) = false := by first | (rw [← Bool.not_eq_true']; exact c1) | simpa using c1
  have c2P := of_decide_eq_false c2
  refine sq (rg (zk (nl (wp_ret' ?_))))
  exact VRes.tmp _ _ _ (by exact rfl) (bval (congrArg Value.bool (by (simp_all; done))))
 ·skip
  have c3 : decide (a = b) = true := by first | (rw [← Bool.not_eq_false']; exact c1) | simpa using c1
  have c3P := of_decide_eq_true c3
  refine sk (sq (rg (zk (nl (wp_ret' ?_)))))
  exact VRes.tmp _ _ _ (by exact rfl) (bval (congrArg Value.bool (by (simp_all; done))))

set_option maxHeartbeats 4000000 in
set_option maxRecDepth 100000 in
theorem laws_markIntS_fn (l : List Int) (v : Int) (hl : l.length ≤ 4194304) (hv : 0 ≤ v ∧ v ≤ 4194304) : FnO Tryz.prog 48 [.a (.sl 1 0 l.length), .a (.val (.int .i64 v))] [(.o 1, some (.o ⟨3, 1, true, pl (isl l)⟩))] (V.v (.int .i64 (v + (l.length : Int)))) [(.o 1, some (.o ⟨3, 1, true, pl (isl (cntI v l.length))⟩))] [1] := by
 refine fn_introO (N := 19) Tryz.func48 rfl (by kernel_rfl) rfl (Nat.le_of_ble_eq_true rfl) rfl rfl (by kernel_rfl) (by kernel_rfl) ⟨oc_pl (fun _ => rfl), trivial⟩ [8] (retO1 rfl) (fun W own kp im0 => ?_)
 show Wp _ _ _ [kS 0 1 0 l.length, kI 1 v, kO 1 3 1 true (pl (isl l)), kF 8]
 refine sq (rg (zk (nl (sq (sq (rg (zk (nl (bkk ?_)))))))))
 refine wp_loop' (fun (k : Nat) => k ≤ l.length) (fun (k : Nat) => [kS 0 1 0 l.length, kI 1 (v + (k : Int)), kI 5 ((k : Nat) : Int), kO 1 3 1 true (pl (isl (genK (cntF v) l k))), kF 8]) (fun (k : Nat) => l.length - k) ((0 : Nat)) (by exact (Nat.zero_le _ : 0 ≤ _)) (wkf id (wS <| wE (e := (vint (by omega))) <| wE (e := (vint (by rfl))) <| wO (e := renob_eq (fun h => h) (congrArg isl (by rfl))) <| wF <| wN)) ?_
 rintro k inv1
 replace inv1 : k ≤ l.length := inv1
 have invk := inv1
 have hgl := genK_len (f := cntF v) invk
 refine sq (sq (rg (zm (zm ?_))))
 refine z ?_ (h := fun ν => lnS ν qW3_un_22)
 refine z ?_ (h := fun ν => acts_bin ν vt vt (r_lss rfl))
 refine nl ?_
 refine wi (fun c2 => ?_) (fun c2 => ?_)
 ·skip
  have c2P := of_decide_eq_true c2
  refine sk (sq (bkk (sq (rg (zm (zm (zm ?_)))))))
  refine z ?_ (h := fun ν => ix0 ν qW3_un_22 qW3_sz_3 vt (hlt := (by omega)))
  refine z ?_ (h := fun _ => sI qW3_ti_3 xt (by omega))
  refine nl (rg (zm ?_))
  refine z ?_ (h := fun ν => acts_bin ν vt vc (rA (by omega) (by omega)))
  refine za (nl (rg (zm ?_)))
  refine z ?_ (h := fun ν => acts_bin ν vt vc (rA (by omega) (by omega)))
  refine za (nl ?_)
  exact loop_back ((k + 1)) (by show _ ≤ _; omega) (by show l.length - (k + 1) < l.length - k; omega) (wkf id (wS <| wE (e := (vint (by omega))) <| wE (e := (vint (by rfl))) <| wO (e := renob_eq (fun h => h) (congrArg isl (by exact Eq.symm (genK_set (by omega) rfl)))) <| wF <| wN))
 ·skip
  have c2P := of_decide_eq_false c2
  refine wp_exit' (sq (rg (zm (za (nl (wp_ret' ?_))))))
  exact ⟨_, weak_id, ⟨obj_eq (c := pl (isl (genK (cntF v) l k))) (by kernel_rfl) (congrArg (fun z => pl (isl z)) (by exact genK_end (f := cntF v) (l := l) (k := k) (by omega) (by omega))), trivial⟩, vo_eq 4 (.a (.val (.int .i64 (v + (k : Int))))) (.a (.val (.int .i64 (v + (l.length : Int))))) (by kernel_rfl) (congrArg (fun z : Int => B.a (.val (.int .i64 z))) (by omega))⟩

set_option maxHeartbeats 4000000 in
set_option maxRecDepth 100000 in
theorem laws_markRegion_fn (l : List Int) (v : Int) (hl : l.length ≤ 4194304) (hv : 0 ≤ v ∧ v ≤ 4194304) : FnO Tryz.prog 17 [.agg [(.sl 1 0 l.length : A)], .a (.val (.int .i64 v))] [(.o 1, some (.o ⟨3, 1, true, pl (isl l)⟩))] (V.v (.int .i64 (v + (l.length : Int)))) [(.o 1, some (.o ⟨3, 1, true, pl (isl (cntI v l.length))⟩))] [1] := by
 refine fn_introO (N := 10) Tryz.func17 rfl (by kernel_rfl) rfl (Nat.le_of_ble_eq_true rfl) rfl rfl (by kernel_rfl) (by kernel_rfl) ⟨oc_pl (fun _ => rfl), trivial⟩ [2, 8] (retO1 rfl) (fun W own kp im0 => ?_)
 show Wp _ _ _ [kV 0 (V.b (.agg [(.sl 1 0 l.length : A)])), kI 1 v, kO 1 3 1 true (pl (isl l)), kF 2, kF 8]
 refine sq (rg ?_)
 refine z ?_ (h := fun ν => acts_box (h := 2) ν xt (by exact ob1 rfl))
 refine zk (nl (sq (rg ?_)))
 refine z ?_ (h := fun ν => acts_field (off' := 0) ν qW3_fo_29_0 rfl)
 refine z ?_ (h := fun ν => acts_load_own (x := .sl 1 0 l.length) ν qW3_ti_22 (by exact rfl))
 refine zm ?_
 refine z ?_ (h := fun ν => acts_callO (d := 8) (f := 48) (os := [(.o 1, some (.o ⟨3, 1, true, pl (isl l)⟩))]) (os' := [(.o 1, some (.o ⟨3, 1, true, pl (isl (cntI v l.length))⟩))]) (r := V.v (.int .i64 (v + (l.length : Int)))) (bs := [.a (.sl 1 0 l.length), .a (.val (.int .i64 v))]) (keep := [1]) (new := []) (dead := []) ν ((laws_markIntS_fn l v (by omega) (by omega))) (by kernel_rfl) ⟨oc_pl (fun _ => rfl), trivial⟩ (by kernel_rfl) (ArgOs.cons (ArgO.slot 6 (.a (.sl 1 0 l.length))) (ArgOs.cons ((ArgO.v vt)) (ArgOs.nil))))
 refine za (nl (sq (rg (zm (za (nl (wp_ret' ?_)))))))
 exact ⟨_, weak_id, ⟨by kernel_rfl, trivial⟩, VO.tmp 4 (.a (.val (.int .i64 (v + (l.length : Int))))) (by kernel_rfl)⟩
end Cl
end Go.Proofs.YtgmkkfdnmdohlaaGreatDoor
