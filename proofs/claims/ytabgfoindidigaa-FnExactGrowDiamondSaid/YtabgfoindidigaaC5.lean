/- Walks over clean states, printed by wg.py. No statement is proved here. -/
import Derived.Test.YtabgfoindidigaaC3
import Derived.Test.YtabgfoindidigaaSortS
import Derived.Test.YtabgfoindidigaaSet
namespace Go.Proofs.Ytabgfoindidigaa
namespace Cl
open Go.ChangeShapes Go.WideShapes Go.ChangeAt Go.RowKit

def eqs (d e : Dom) : Bool := dEq d.x d.y d.d e.x e.y e.d
theorem eqs_sw (d e : Dom) : dEq e.x e.y e.d d.x d.y d.d = eqs d e := by unfold eqs dEq; rw [decide_eq_decide]; constructor <;> (rintro ⟨a, b, c⟩; exact ⟨a.symm, b.symm, c.symm⟩)
def hasE (ds : List Dom) (d : Dom) : Bool := ds.any (eqs d)
theorem any_atD {p : Dom → Bool} {l : List Dom} {k : Nat} (h : k < l.length) (h2 : p (gD l k) = true) : l.any p = true := List.any_eq_true.2 ⟨gD l k, gD_mem h, h2⟩
theorem any_endD {p : Dom → Bool} {l : List Dom} {k : Nat} (h : ¬ (k : Int) < (l.length : Int)) (h1 : (l.take k).any p = false) : l.any p = false := by rwa [List.take_of_length_le (by omega)] at h1
def posD (p : Dom → Bool) (ds : List Dom) : Int := if ds.any p then (ds.findIdx p : Int) else -1
theorem posD_yes {p : Dom → Bool} {ds : List Dom} {k : Nat} (hk : k < ds.length) (h1 : (ds.take k).any p = false) (h2 : p (gD ds k) = true) : (k : Int) = posD p ds := by
  unfold posD
  rw [if_pos (List.any_eq_true.2 ⟨_, gD_mem hk, h2⟩)]
  have : ds.findIdx p = k := by
    rw [List.findIdx_eq hk]
    refine ⟨by rw [← gD_eq hk]; exact h2, fun j hj => ?_⟩
    rw [List.any_eq_false] at h1
    have := h1 (ds[j]'(by omega)) (List.mem_take_iff_getElem.2 ⟨j, by omega, rfl⟩)
    simpa using this
  rw [this]
theorem posD_no {p : Dom → Bool} {ds : List Dom} {k : Nat} (hk : ¬ (k : Int) < (ds.length : Int)) (h1 : (ds.take k).any p = false) : (-1 : Int) = posD p ds := by
  rw [List.take_of_length_le (by omega)] at h1
  unfold posD; rw [h1]; rfl
theorem posD_ge (p : Dom → Bool) (ds : List Dom) : decide (0 ≤ posD p ds) = ds.any p := by
  unfold posD; cases ds.any p <;> simp
theorem posD_bd (p : Dom → Bool) (ds : List Dom) : -1 ≤ posD p ds ∧ posD p ds ≤ ds.length := by
  unfold posD; split
  · have := List.findIdx_le_length (p := p) (xs := ds); omega
  · omega
def bk (n : Int) (d : Dom) : Bool := decide ((d.x + d.y + n) % 2 = 1)
def byI (n : Int) (d : Dom) : Int := if bk n d then -1 else 1
def dxI (n : Int) (d : Dom) : Int := if d.d then byI n d else 0
def dyI (n : Int) (d : Dom) : Int := if d.d then 0 else byI n d
theorem byI_bd (n : Int) (d : Dom) : byI n d = 1 ∨ byI n d = -1 := by unfold byI; split <;> simp
theorem dxy_bd (n : Int) (d : Dom) : (-1 ≤ dxI n d ∧ dxI n d ≤ 1) ∧ (-1 ≤ dyI n d ∧ dyI n d ≤ 1) ∧ dxI n d + dyI n d = byI n d := by
  have := byI_bd n d; unfold dxI dyI; split <;> omega
def oth (n : Int) (d : Dom) : Dom := ⟨d.x + dxI n d, d.y + dyI n d, d.d⟩
theorem by_oth (n : Int) (d : Dom) : byI n (oth n d) = -(byI n d) := by
  unfold byI bk oth
  have h := byI_bd n d
  have e : d.x + dxI n d + (d.y + dyI n d) + n = d.x + d.y + n + byI n d := by unfold dxI dyI; split <;> omega
  dsimp only
  rw [e]
  by_cases h1 : (d.x + d.y + n) % 2 = 1
  · have h2 : byI n d = -1 := by unfold byI bk; simp [h1]
    rw [h2]; simp [h1]; omega
  · have h2 : byI n d = 1 := by unfold byI bk; simp [h1]
    rw [h2]; simp [h1]; omega
theorem dx_oth (n : Int) (d : Dom) : dxI n (oth n d) = -(dxI n d) := by
  have e : (oth n d).d = d.d := rfl
  unfold dxI; rw [by_oth, e]; cases d.d <;> simp
theorem dy_oth (n : Int) (d : Dom) : dyI n (oth n d) = -(dyI n d) := by
  have e : (oth n d).d = d.d := rfl
  unfold dyI; rw [by_oth, e]; cases d.d <;> simp
def crs (n : Int) (ds : List Dom) (d : Dom) : Bool := hasE ds (oth n d)
def mv (n : Int) (d : Dom) : Dom := ⟨d.x + dxI n d + 1, d.y + dyI n d + 1, d.d⟩
def groT (n : Int) (ds : List Dom) (k : Nat) : List Dom := ((ds.take k).filter (fun d => !crs n ds d)).map (mv n)
theorem groT_yes {n : Int} {ds : List Dom} {k : Nat} (h : k < ds.length) (hc : crs n ds (gD ds k) = false) : groT n ds (k+1) = groT n ds k ++ [mv n (gD ds k)] := by
  unfold groT; rw [List.take_succ_eq_append_getElem h, List.filter_append, List.map_append, ← gD_eq h]; simp [hc]
theorem groT_e {n : Int} {ds : List Dom} {k : Nat} (h : k < ds.length) (hc : crs n ds (gD ds k) = false) {x y : Int} {b : Bool} (hx : x = (gD ds k).x + dxI n (gD ds k) + 1) (hy : y = (gD ds k).y + dyI n (gD ds k) + 1) (hb : b = (gD ds k).d) : groT n ds (k+1) = groT n ds k ++ [⟨x, y, b⟩] := by
  subst hx; subst hy; subst hb; exact groT_yes h hc
theorem groT_no {n : Int} {ds : List Dom} {k : Nat} (h : k < ds.length) (hc : crs n ds (gD ds k) = true) : groT n ds (k+1) = groT n ds k := by
  unfold groT; rw [List.take_succ_eq_append_getElem h, List.filter_append, List.map_append, ← gD_eq h]; simp [hc]
theorem groT_len (n : Int) (ds : List Dom) (k : Nat) : (groT n ds k).length ≤ k := by
  unfold groT; rw [List.length_map]
  exact Nat.le_trans (List.length_filter_le _ _) (by simp; omega)
def groOk (n : Int) (ds : List Dom) : Bool := inB n 1 3 && isTil (diaRows n) ds
def gro (n : Int) (ds : List Dom) : List Dom := if groOk n ds then sortD (groT n ds ds.length) else []
theorem gro_end {n : Int} {ds : List Dom} {k : Nat} (hk : ¬ (k : Int) < (ds.length : Int)) (hk2 : k ≤ ds.length) (h : groOk n ds = true) : sortD (groT n ds k) = gro n ds := by
  obtain rfl : k = ds.length := by omega
  unfold gro; rw [if_pos h]
theorem gro_no {n : Int} {ds : List Dom} (h : groOk n ds = false) : [] = gro n ds := by unfold gro; rw [h]; rfl
theorem sortD_len' (l : List Dom) : (sortD l).length ≤ l.length := sortBy_len l
theorem gro_len (n : Int) (ds : List Dom) : (gro n ds).length ≤ ds.length := by
  unfold gro; split
  · exact Nat.le_trans (sortD_len' _) (groT_len _ _ _)
  · simp
theorem groOk_dom {n : Int} {ds : List Dom} (h : groOk n ds = true) : (1 ≤ n ∧ n ≤ 3) ∧ ∀ k, k < ds.length → okD (gD ds k) = true := by
  unfold groOk isTil at h; simp only [Bool.and_eq_true] at h
  exact ⟨inB_true.1 h.1, fun k hk => isPar_ok h.2.1 hk⟩
theorem groOk_of {n : Int} {ds : List Dom} (h1 : inB n 1 3 = true) (h2 : isTil (diaRows n) ds = true) : groOk n ds = true := by unfold groOk; rw [h1, h2]; rfl
theorem groOk_a {n : Int} {ds : List Dom} (h1 : inB n 1 3 = false) : groOk n ds = false := by unfold groOk; rw [h1]; rfl
theorem groOk_b {n : Int} {ds : List Dom} (h1 : isTil (diaRows n) ds = false) : groOk n ds = false := by unfold groOk; rw [h1]; simp

theorem qC5_eg_32 : Try.prog.eqGuardType Try.prog.depth 32 = false := by kernel_rfl
theorem qC5_fo_32_0 : fieldOff Try.prog 32 0 = some 0 := by kernel_rfl
theorem qC5_fo_32_1 : fieldOff Try.prog 32 1 = some 1 := by kernel_rfl
theorem qC5_fo_32_2 : fieldOff Try.prog 32 2 = some 2 := by kernel_rfl
theorem qC5_sz_32 : (Try.prog.info? 32).map (·.size) = some 3 := by kernel_rfl
theorem qC5_ti_3 : TI Try.prog 3 false 1 := ⟨⟨_, Try.underlying3, rfl⟩, by kernel_rfl⟩
theorem qC5_ti_32 : TI Try.prog 32 true 3 := ⟨⟨_, Try.underlying32, rfl⟩, by kernel_rfl⟩
theorem qC5_ti_4 : TI Try.prog 4 false 1 := ⟨⟨_, Try.underlying4, rfl⟩, by kernel_rfl⟩
theorem qC5_un_42 : Try.prog.underlying 42 = some (.slice 32) := Try.underlying42
theorem qC5_zi_32 : ZI Try.prog 32 (.agg #[.int .i64 0, .int .i64 0, .bool false]) 3 24 := by unfold ZI; kernel_rfl
theorem impl_SortDominoes_fn (l : List Dom) (hl : l.length ≤ 4194304) : Fn Try.prog 71 [.a (.slv l.length 3 (dsl l))] [.row 32 3 (sortD l).length (dsl (sortD l))] := by
  refine ⟨⟨_, Try.func71, by kernel_rfl, by kernel_rfl⟩, fun w args h => ?_⟩
  match args, args_iff.1 h with
  | [u0], ⟨h0, _⟩ =>
    obtain ⟨A0, c0, rfl, hc0, hr0⟩ := argB_slv h0
    refine Calls.mono (sortDominoes_impl l A0 l.length c0 w hr0 hl) ?_
    rintro e w' ⟨v, rfl, ho, hb⟩
    exact ⟨_, rfl, ho, hb⟩

theorem spec_SortDominoes_fn (l : List Dom) (hl : l.length ≤ 4194304) : Fn Try.prog 65 [.a (.slv l.length 3 (dsl l))] [.row 32 3 (sortD l).length (dsl (sortD l))] := by
  refine ⟨⟨_, Try.func65, by kernel_rfl, by kernel_rfl⟩, fun w args h => ?_⟩
  match args, args_iff.1 h with
  | [u0], ⟨h0, _⟩ =>
    obtain ⟨A0, c0, rfl, hc0, hr0⟩ := argB_slv h0
    refine Calls.mono (sortDominoes_spec l A0 l.length c0 w hr0 hl) ?_
    rintro e w' ⟨v, rfl, ho, hb⟩
    exact ⟨_, rfl, ho, hb⟩

theorem impl_DiamondRegion_fn (n : Int) : Fn Try.prog 68 [.a (.val (.int .i64 n))] [.reg 3 1 (diaRows n).length (isl (diaRows n))] := by
  refine ⟨⟨_, Try.func68, by kernel_rfl, by kernel_rfl⟩, fun w args h => ?_⟩
  match args, args_iff.1 h with
  | [u0], ⟨h0, _⟩ =>
    obtain rfl := argB_v h0
    refine Calls.mono (diamond_impl n w) ?_
    rintro e w' ⟨v, rfl, ho, hb⟩
    exact ⟨_, rfl, ⟨v, rfl, ho⟩, hb⟩

theorem spec_DiamondRegion_fn (n : Int) : Fn Try.prog 62 [.a (.val (.int .i64 n))] [.reg 3 1 (diaRows n).length (isl (diaRows n))] := by
  refine ⟨⟨_, Try.func62, by kernel_rfl, by kernel_rfl⟩, fun w args h => ?_⟩
  match args, args_iff.1 h with
  | [u0], ⟨h0, _⟩ =>
    obtain rfl := argB_v h0
    refine Calls.mono (diamond_spec n w) ?_
    rintro e w' ⟨v, rfl, ho, hb⟩
    exact ⟨_, rfl, ⟨v, rfl, ho⟩, hb⟩

set_option maxHeartbeats 4000000 in
set_option maxRecDepth 100000 in
theorem impl_hasDomino_fn (ds : List Dom) (d : Dom) (hd : ds.length ≤ 1048576) : Fn Try.prog 70 [.a (.slv ds.length 3 (dsl ds)), .agg ([(.int .i64 d.x : Value), .int .i64 d.y, .bool d.d].map A.val)] [.val (.bool (hasE ds d))] := by
  refine fn_intro (N := 17) Try.func70 rfl (by kernel_rfl) rfl (Nat.le_of_ble_eq_true rfl) [3, 6, 8] (ret1 rfl) (fun W => ?_)
  show Wp _ _ _ [(.s 0, some (.s (V.b (.a (.slv ds.length 3 (dsl ds)))))), (.s 1, some (.s (V.av [(.int .i64 d.x : Value), .int .i64 d.y, .bool d.d]))), (.o 3, some .free), (.o 6, some .free), (.o 8, some .free)]
  refine wp_seq' ?_
  refine wp_region_t ?_
  refine wpc (step_plain rfl (acts_box (d := 3) (h := 3) (b := .agg ([(.int .i64 d.x : Value), .int .i64 d.y, .bool d.d].map A.val)) (ltN rfl) (OpX.tmp 1 (V.av [(.int .i64 d.x : Value), .int .i64 d.y, .bool d.d])) (by intro y hy; simp [B.cs] at hy; rcases hy with rfl | rfl | rfl <;> rfl))) (by kernel_rfl) ?_
  refine wpc (step_plain rfl (acts_assign (d := 4) (ltN rfl) (OpX.const (.bool false)))) (by kernel_rfl) ?_
  refine wpl_nil ?_
  refine wp_seq' ?_
  refine wp_seq' ?_
  refine wp_region_t ?_
  refine wpc (step_plain rfl (acts_move (d := 7) (ltN rfl) (OpX.tmp 0 (V.b (.a (.slv ds.length 3 (dsl ds))))))) (by kernel_rfl) ?_
  refine wpc (step_plain rfl (acts_len (d := 8) (X := .slv ds.length 3 (dsl ds)) (n := ds.length) (iv := ((ds.length : Nat) : Int)) (ltN rfl) qC5_un_42 (OpX.tmp 7 (V.b (.a (.slv ds.length 3 (dsl ds))))) (LenOf.slv _ _ _) rfl)) (by kernel_rfl) ?_
  refine wpc (step_plain rfl (acts_move (d := 9) (ltN rfl) (OpX.const (.int .i64 0)))) (by kernel_rfl) ?_
  refine wpl_nil ?_
  refine wp_block' ?_
  refine wp_loop' (fun (k : Nat) => k ≤ ds.length ∧ (ds.take k).any (eqs d) = false) (fun (k : Nat) => [(.s 3, some (.s (V.p 3 0))), (.s 7, some (.s (V.b (.a (.slv ds.length 3 (dsl ds)))))), (.s 8, some (.s (V.v (.int .i64 ((ds.length : Nat) : Int))))), (.s 9, some (.s (V.v (.int .i64 ((k : Nat) : Int))))), (.o 3, some (.o ⟨32, 3, true, [(.val (.int .i64 d.x) : A), .val (.int .i64 d.y), .val (.bool d.d)]⟩)), (.o 6, some .free), (.o 8, some .free)]) (fun (k : Nat) => ds.length - k) ((0 : Nat)) (by exact ⟨Nat.zero_le _, rfl⟩) (weak_of id [6, 8] (by kernel_rfl) (wk_s (v' := V.p 3 0) (by kernel_rfl) rfl rfl (wk_s (v' := V.b (.a (.slv ds.length 3 (dsl ds)))) (by kernel_rfl) rfl rfl (wk_s (v' := V.v (.int .i64 ((ds.length : Nat) : Int))) (by kernel_rfl) rfl rfl (wk_s (v' := V.v (.int .i64 0)) (by kernel_rfl) (vint (by first | rfl | omega | (simp; done) | (simp; omega))) rfl (wk_o (o' := ⟨32, 3, true, [(.val (.int .i64 d.x) : A), .val (.int .i64 d.y), .val (.bool d.d)]⟩) (by kernel_rfl) (renob_l (fun h => h) rfl rfl) rfl (wk_f rfl (wk_f rfl (wk_nil))))))))) ?_
  rintro k inv1
  replace inv1 : k ≤ ds.length ∧ (ds.take k).any (eqs d) = false := inv1
  obtain ⟨inv1_0, inv1_1⟩ := inv1
  show Wp _ _ _ [(.s 3, some (.s (V.p 3 0))), (.s 7, some (.s (V.b (.a (.slv ds.length 3 (dsl ds)))))), (.s 8, some (.s (V.v (.int .i64 ((ds.length : Nat) : Int))))), (.s 9, some (.s (V.v (.int .i64 ((k : Nat) : Int))))), (.o 3, some (.o ⟨32, 3, true, [(.val (.int .i64 d.x) : A), .val (.int .i64 d.y), .val (.bool d.d)]⟩)), (.o 6, some .free), (.o 8, some .free)]
  refine wp_seq' ?_
  refine wp_region_t ?_
  refine wpc (step_plain rfl (acts_bin (d := 10) (ltN rfl) (OpV.tmp 9 (.int .i64 ((k : Nat) : Int))) (OpV.tmp 8 (.int .i64 ((ds.length : Nat) : Int))) (r_lss (c := (decide (((k : Nat) : Int) < ((ds.length : Nat) : Int)))) rfl))) (by kernel_rfl) ?_
  refine wpl_nil ?_
  refine wp_seq' ?_
  refine wp_if (t := 10) (decide (((k : Nat) : Int) < ((ds.length : Nat) : Int))) (by kernel_rfl) (fun c2 => ?_) (fun c2 => ?_)
  · skip
    have c2P := of_decide_eq_true c2
    refine wp_skip' ?_
    refine wp_seq' ?_
    refine wp_block' ?_
    refine wp_seq' ?_
    refine wp_region_t ?_
    refine wpc (step_plain rfl (acts_index_v (d := 11) (x := 7) (n := ds.length) (s := 3) (k := k) (xs := dsl ds) (ltN rfl) qC5_un_42 qC5_sz_32 (OpV.tmp 9 (.int .i64 ((k : Nat) : Int))) rfl (by omega))) (by kernel_rfl) ?_
    refine wpc (step_plain rfl (acts_load_vs (d := 12) (t := 11) (s := 3) (off := (k * 3)) (xs := dsl ds)  (vs := [(.int .i64 ((gD ds k).x) : Value), .int .i64 ((gD ds k).y), .bool ((gD ds k).d)]) (ltN rfl) qC5_ti_32 rfl (dsl_at (k := k) (by omega)))) (by kernel_rfl) ?_
    refine wpc (step_plain rfl (acts_alloc' (d := 6) (h := 6) (cap := 1) (s := 3) (cells := [(.val (.int .i64 0) : A), .val (.int .i64 0), .val (.bool false)]) (ltN rfl) qC5_zi_32 rfl rfl (by decide))) (by kernel_rfl) ?_
    refine wpc (step_plain rfl (acts_store (t := 6) (h := 6) (off := 0) (o := ⟨32, 3, true, [(.val (.int .i64 0) : A), .val (.int .i64 0), .val (.bool false)]⟩) (b := .agg ([(.int .i64 ((gD ds k).x) : Value), .int .i64 ((gD ds k).y), .bool ((gD ds k).d)].map A.val)) (cells := [(.val (.int .i64 ((gD ds k).x)) : A), .val (.int .i64 ((gD ds k).y)), .val (.bool ((gD ds k).d))]) qC5_ti_32 (OpX.tmp 12 (V.av [(.int .i64 ((gD ds k).x) : Value), .int .i64 ((gD ds k).y), .bool ((gD ds k).d)])) rfl (by decide) (by intro y hy; simp [B.cs] at hy; rcases hy with rfl | rfl | rfl <;> rfl) (Nat.le_of_ble_eq_true rfl) rfl)) (by kernel_rfl) ?_
    refine wpl_nil ?_
    refine wp_seq' ?_
    refine wp_region_t ?_
    refine wpc (step_plain rfl (acts_load_owns (d := 13) (t := 3) (h := 3) (off := 0) (o := ⟨32, 3, true, [(.val (.int .i64 d.x) : A), .val (.int .i64 d.y), .val (.bool d.d)]⟩)  (xs := [(.int .i64 d.x : Value), .int .i64 d.y, .bool d.d].map A.val) (ltN rfl) qC5_ti_32 rfl (by decide) rfl)) (by kernel_rfl) ?_
    refine wpc (step_plain rfl (acts_load_owns (d := 14) (t := 6) (h := 6) (off := 0) (o := ⟨32, 3, true, [(.val (.int .i64 ((gD ds k).x)) : A), .val (.int .i64 ((gD ds k).y)), .val (.bool ((gD ds k).d))]⟩)  (xs := [(.int .i64 ((gD ds k).x) : Value), .int .i64 ((gD ds k).y), .bool ((gD ds k).d)].map A.val) (ltN rfl) qC5_ti_32 rfl (by decide) rfl)) (by kernel_rfl) ?_
    refine wpc (step_plain rfl (acts_bin (d := 15) (ltN rfl) (OpV.agg 13 [(.int .i64 d.x : Value), .int .i64 d.y, .bool d.d]) (OpV.agg 14 [(.int .i64 ((gD ds k).x) : Value), .int .i64 ((gD ds k).y), .bool ((gD ds k).d)]) (r_aggeq qC5_eg_32 (fun w => (run_eql_dom d.x d.y d.d ((gD ds k).x) ((gD ds k).y) ((gD ds k).d) w).trans (congrArg (fun z => Result.ok (Value.bool z) w) (rfl : (dEq d.x d.y d.d ((gD ds k).x) ((gD ds k).y) ((gD ds k).d)) = (dEq d.x d.y d.d ((gD ds k).x) ((gD ds k).y) ((gD ds k).d)))))))) (by kernel_rfl) ?_
    refine wpl_nil ?_
    refine wp_if (t := 15) ((dEq d.x d.y d.d ((gD ds k).x) ((gD ds k).y) ((gD ds k).d))) (by kernel_rfl) (fun c3 => ?_) (fun c3 => ?_)
    · skip
      refine wp_seq' ?_
      refine wp_region_t ?_
      refine wpc (step_plain rfl (acts_assign (d := 4) (ltN rfl) (OpX.const (.bool true)))) (by kernel_rfl) ?_
      refine wpl_nil ?_
      refine wp_ret' ?_
      exact VRes.tmp 4 (.a (.val (.bool true))) _ (by kernel_rfl) (bval (congrArg Value.bool (by unfold hasE; rw [any_atD (k := k) (p := eqs d) (by omega) (by first | assumption | (rw [← eqs_sw]; assumption))])))
    · skip
      refine wp_skip' ?_
      refine wp_region_t ?_
      refine wpc (step_plain rfl (acts_bin (d := 16) (ltN rfl) (OpV.tmp 9 (.int .i64 ((k : Nat) : Int))) (OpV.const (.int .i64 1)) (r_add (c := (((k : Nat) : Int) + 1)) (w64 (by omega) (by omega))))) (by kernel_rfl) ?_
      refine wpc (step_plain rfl (acts_move (d := 9) (ltN rfl) (OpX.tmp 16 (V.v (.int .i64 (((k : Nat) : Int) + 1)))))) (by kernel_rfl) ?_
      refine wpl_nil ?_
      exact loop_back ((k + 1)) (by refine ⟨by omega, any_snocD (by omega) (by assumption) ?_⟩; first | assumption | (rw [← eqs_sw]; assumption)) (by show ds.length - (k + 1) < ds.length - k; omega) (weak_of id [6, 8] (by kernel_rfl) (wk_s (v' := V.p 3 0) (by kernel_rfl) rfl rfl (wk_s (v' := V.b (.a (.slv ds.length 3 (dsl ds)))) (by kernel_rfl) rfl rfl (wk_s (v' := V.v (.int .i64 ((ds.length : Nat) : Int))) (by kernel_rfl) rfl rfl (wk_s (v' := V.v (.int .i64 (((k : Nat) : Int) + 1))) (by kernel_rfl) (vint (by first | rfl | omega | (simp; done) | (simp; omega))) rfl (wk_o (o' := ⟨32, 3, true, [(.val (.int .i64 d.x) : A), .val (.int .i64 d.y), .val (.bool d.d)]⟩) (by kernel_rfl) (renob_l (fun h => h) rfl rfl) rfl (wk_f rfl (wk_f rfl (wk_nil)))))))))
  · skip
    have c2P := of_decide_eq_false c2
    refine wp_exit' ?_
    refine wp_seq' ?_
    refine wp_region_t ?_
    refine wpc (step_plain rfl (acts_assign (d := 4) (ltN rfl) (OpX.const (.bool false)))) (by kernel_rfl) ?_
    refine wpl_nil ?_
    refine wp_ret' ?_
    exact VRes.tmp 4 (.a (.val (.bool false))) _ (by kernel_rfl) (bval (congrArg Value.bool (by unfold hasE; rw [any_endD (k := k) (by assumption) (by assumption)])))

set_option maxHeartbeats 4000000 in
set_option maxRecDepth 100000 in
theorem spec_l11Has_fn (ds : List Dom) (d : Dom) (hd : ds.length ≤ 1048576) : Fn Try.prog 90 [.a (.slv ds.length 3 (dsl ds)), .agg ([(.int .i64 d.x : Value), .int .i64 d.y, .bool d.d].map A.val)] [.val (.int .i64 (posD (eqs d) ds))] := by
  refine fn_intro (N := 19) Try.func90 rfl (by kernel_rfl) rfl (Nat.le_of_ble_eq_true rfl) [3, 8] (ret1 rfl) (fun W => ?_)
  show Wp _ _ _ [(.s 0, some (.s (V.b (.a (.slv ds.length 3 (dsl ds)))))), (.s 1, some (.s (V.av [(.int .i64 d.x : Value), .int .i64 d.y, .bool d.d]))), (.o 3, some .free), (.o 8, some .free)]
  refine wp_seq' ?_
  refine wp_region_t ?_
  refine wpc (step_plain rfl (acts_box (d := 3) (h := 3) (b := .agg ([(.int .i64 d.x : Value), .int .i64 d.y, .bool d.d].map A.val)) (ltN rfl) (OpX.tmp 1 (V.av [(.int .i64 d.x : Value), .int .i64 d.y, .bool d.d])) (by intro y hy; simp [B.cs] at hy; rcases hy with rfl | rfl | rfl <;> rfl))) (by kernel_rfl) ?_
  refine wpc (step_plain rfl (acts_assign (d := 4) (ltN rfl) (OpX.const (.int .i64 0)))) (by kernel_rfl) ?_
  refine wpl_nil ?_
  refine wp_seq' ?_
  refine wp_seq' ?_
  refine wp_region_t ?_
  refine wpc (step_plain rfl (acts_assign (d := 5) (ltN rfl) (OpX.const (.int .i64 0)))) (by kernel_rfl) ?_
  refine wpl_nil ?_
  refine wp_block' ?_
  refine wp_loop' (fun (k : Nat) => k ≤ ds.length ∧ (ds.take k).any (eqs d) = false) (fun (k : Nat) => [(.s 0, some (.s (V.b (.a (.slv ds.length 3 (dsl ds)))))), (.s 3, some (.s (V.p 3 0))), (.s 5, some (.s (V.v (.int .i64 ((k : Nat) : Int))))), (.o 3, some (.o ⟨32, 3, true, [(.val (.int .i64 d.x) : A), .val (.int .i64 d.y), .val (.bool d.d)]⟩)), (.o 8, some .free)]) (fun (k : Nat) => ds.length - k) ((0 : Nat)) (by exact ⟨Nat.zero_le _, rfl⟩) (weak_of id [8] (by kernel_rfl) (wk_s (v' := V.b (.a (.slv ds.length 3 (dsl ds)))) (by kernel_rfl) rfl rfl (wk_s (v' := V.p 3 0) (by kernel_rfl) rfl rfl (wk_s (v' := V.v (.int .i64 0)) (by kernel_rfl) (vint (by first | rfl | omega | (simp; done) | (simp; omega))) rfl (wk_o (o' := ⟨32, 3, true, [(.val (.int .i64 d.x) : A), .val (.int .i64 d.y), .val (.bool d.d)]⟩) (by kernel_rfl) (renob_l (fun h => h) rfl rfl) rfl (wk_f rfl (wk_nil))))))) ?_
  rintro k inv1
  replace inv1 : k ≤ ds.length ∧ (ds.take k).any (eqs d) = false := inv1
  obtain ⟨inv1_0, inv1_1⟩ := inv1
  show Wp _ _ _ [(.s 0, some (.s (V.b (.a (.slv ds.length 3 (dsl ds)))))), (.s 3, some (.s (V.p 3 0))), (.s 5, some (.s (V.v (.int .i64 ((k : Nat) : Int))))), (.o 3, some (.o ⟨32, 3, true, [(.val (.int .i64 d.x) : A), .val (.int .i64 d.y), .val (.bool d.d)]⟩)), (.o 8, some .free)]
  refine wp_seq' ?_
  refine wp_seq' ?_
  refine wp_region_t ?_
  refine wpc (step_plain rfl (acts_move (d := 6) (ltN rfl) (OpX.tmp 5 (V.v (.int .i64 ((k : Nat) : Int)))))) (by kernel_rfl) ?_
  refine wpc (step_plain rfl (acts_move (d := 7) (ltN rfl) (OpX.tmp 0 (V.b (.a (.slv ds.length 3 (dsl ds))))))) (by kernel_rfl) ?_
  refine wpc (step_plain rfl (acts_len (d := 8) (X := .slv ds.length 3 (dsl ds)) (n := ds.length) (iv := ((ds.length : Nat) : Int)) (ltN rfl) qC5_un_42 (OpX.tmp 7 (V.b (.a (.slv ds.length 3 (dsl ds))))) (LenOf.slv _ _ _) rfl)) (by kernel_rfl) ?_
  refine wpc (step_plain rfl (acts_bin (d := 9) (ltN rfl) (OpV.tmp 6 (.int .i64 ((k : Nat) : Int))) (OpV.tmp 8 (.int .i64 ((ds.length : Nat) : Int))) (r_lss (c := (decide (((k : Nat) : Int) < ((ds.length : Nat) : Int)))) rfl))) (by kernel_rfl) ?_
  refine wpl_nil ?_
  refine wp_if (t := 9) (decide (((k : Nat) : Int) < ((ds.length : Nat) : Int))) (by kernel_rfl) (fun c2 => ?_) (fun c2 => ?_)
  · skip
    have c2P := of_decide_eq_true c2
    refine wp_skip' ?_
    refine wp_seq' ?_
    refine wp_block' ?_
    refine wp_seq' ?_
    refine wp_drawn' (by kernel_rfl) (AllSteps.cons (step_plain rfl (acts_move (d := 12) (ltN rfl) (OpX.tmp 0 (V.b (.a (.slv ds.length 3 (dsl ds))))))) (AllSteps.cons (step_plain rfl (acts_move (d := 13) (ltN rfl) (OpX.tmp 5 (V.v (.int .i64 ((k : Nat) : Int)))))) (AllSteps.cons (step_plain rfl (acts_index_v (d := 14) (x := 12) (n := ds.length) (s := 3) (k := k) (xs := dsl ds) (ltN rfl) qC5_un_42 qC5_sz_32 (OpV.tmp 13 (.int .i64 ((k : Nat) : Int))) rfl (by omega))) (AllSteps.cons (step_plain rfl (acts_load_vs (d := 15) (t := 14) (s := 3) (off := (k * 3)) (xs := dsl ds)  (vs := [(.int .i64 ((gD ds k).x) : Value), .int .i64 ((gD ds k).y), .bool ((gD ds k).d)]) (ltN rfl) qC5_ti_32 rfl (dsl_at (k := k) (by omega)))) (AllSteps.cons (step_plain rfl (acts_load_owns (d := 16) (t := 3) (h := 3) (off := 0) (o := ⟨32, 3, true, [(.val (.int .i64 d.x) : A), .val (.int .i64 d.y), .val (.bool d.d)]⟩)  (xs := [(.int .i64 d.x : Value), .int .i64 d.y, .bool d.d].map A.val) (ltN rfl) qC5_ti_32 rfl (by decide) rfl)) (AllSteps.cons (step_plain rfl (acts_bin (d := 17) (ltN rfl) (OpV.agg 15 [(.int .i64 ((gD ds k).x) : Value), .int .i64 ((gD ds k).y), .bool ((gD ds k).d)]) (OpV.agg 16 [(.int .i64 d.x : Value), .int .i64 d.y, .bool d.d]) (r_aggeq qC5_eg_32 (fun w => (run_eql_dom ((gD ds k).x) ((gD ds k).y) ((gD ds k).d) d.x d.y d.d w).trans (congrArg (fun z => Result.ok (Value.bool z) w) (rfl : (dEq ((gD ds k).x) ((gD ds k).y) ((gD ds k).d) d.x d.y d.d) = (dEq ((gD ds k).x) ((gD ds k).y) ((gD ds k).d) d.x d.y d.d))))))) (AllSteps.nil))))))) (by kernel_rfl) (by kernel_rfl) (by kernel_rfl) ?_
    refine wp_if (t := 17) ((dEq ((gD ds k).x) ((gD ds k).y) ((gD ds k).d) d.x d.y d.d)) (by kernel_rfl) (fun c3 => ?_) (fun c3 => ?_)
    · skip
      refine wp_seq' ?_
      refine wp_region_t ?_
      refine wpc (step_plain rfl (acts_move (d := 18) (ltN rfl) (OpX.tmp 5 (V.v (.int .i64 ((k : Nat) : Int)))))) (by kernel_rfl) ?_
      refine wpc (step_plain rfl (acts_assign (d := 4) (ltN rfl) (OpX.tmp 18 (V.v (.int .i64 ((k : Nat) : Int)))))) (by kernel_rfl) ?_
      refine wpl_nil ?_
      refine wp_ret' ?_
      exact VRes.tmp 4 (.a (.val (.int .i64 ((k : Nat) : Int)))) _ (by kernel_rfl) (bval (congrArg (Value.int .i64) (by refine posD_yes (by omega) (by assumption) ?_; first | assumption | (rw [← eqs_sw]; assumption))))
    · skip
      refine wp_skip' ?_
      refine wp_region_t ?_
      refine wpc (step_plain rfl (acts_move (d := 10) (ltN rfl) (OpX.tmp 5 (V.v (.int .i64 ((k : Nat) : Int)))))) (by kernel_rfl) ?_
      refine wpc (step_plain rfl (acts_bin (d := 11) (ltN rfl) (OpV.tmp 10 (.int .i64 ((k : Nat) : Int))) (OpV.const (.int .i64 1)) (r_add (c := (((k : Nat) : Int) + 1)) (w64 (by omega) (by omega))))) (by kernel_rfl) ?_
      refine wpc (step_plain rfl (acts_assign (d := 5) (ltN rfl) (OpX.tmp 11 (V.v (.int .i64 (((k : Nat) : Int) + 1)))))) (by kernel_rfl) ?_
      refine wpl_nil ?_
      exact loop_back ((k + 1)) (by refine ⟨by omega, any_snocD (by omega) (by assumption) ?_⟩; first | assumption | (rw [← eqs_sw]; assumption)) (by show ds.length - (k + 1) < ds.length - k; omega) (weak_of id [8] (by kernel_rfl) (wk_s (v' := V.b (.a (.slv ds.length 3 (dsl ds)))) (by kernel_rfl) rfl rfl (wk_s (v' := V.p 3 0) (by kernel_rfl) rfl rfl (wk_s (v' := V.v (.int .i64 (((k : Nat) : Int) + 1))) (by kernel_rfl) (vint (by first | rfl | omega | (simp; done) | (simp; omega))) rfl (wk_o (o' := ⟨32, 3, true, [(.val (.int .i64 d.x) : A), .val (.int .i64 d.y), .val (.bool d.d)]⟩) (by kernel_rfl) (renob_l (fun h => h) rfl rfl) rfl (wk_f rfl (wk_nil)))))))
  · skip
    have c2P := of_decide_eq_false c2
    refine wp_exit' ?_
    refine wp_seq' ?_
    refine wp_region_t ?_
    refine wpc (step_plain rfl (acts_assign (d := 4) (ltN rfl) (OpX.const (.int .i64 (-1))))) (by kernel_rfl) ?_
    refine wpl_nil ?_
    refine wp_ret' ?_
    exact VRes.tmp 4 (.a (.val (.int .i64 (-1)))) _ (by kernel_rfl) (bval (congrArg (Value.int .i64) (by exact posD_no (by assumption) (by assumption))))

set_option maxHeartbeats 4000000 in
set_option maxRecDepth 100000 in
theorem impl_moves_fn (n : Int) (d : Dom) (hx : -1 ≤ d.x ∧ d.x ≤ 8) (hy : -1 ≤ d.y ∧ d.y ≤ 8) (hn : 1 ≤ n ∧ n ≤ 3) (hs : 0 ≤ d.x + d.y + n) : Fn Try.prog 69 [.a (.val (.int .i64 n)), .agg ([(.int .i64 d.x : Value), .int .i64 d.y, .bool d.d].map A.val)] [.val (.int .i64 (dxI n d)), .val (.int .i64 (dyI n d))] := by
  refine fn_intro (N := 20) Try.func69 rfl (by kernel_rfl) rfl (Nat.le_of_ble_eq_true rfl) [3] (ret2 rfl rfl (by intro u hu; injection hu with hu; subst hu; rfl)) (fun W => ?_)
  show Wp _ _ _ [(.s 0, some (.s (V.v (.int .i64 n)))), (.s 1, some (.s (V.av [(.int .i64 d.x : Value), .int .i64 d.y, .bool d.d]))), (.o 3, some .free)]
  refine wp_seq' ?_
  refine wp_region_t ?_
  refine wpc (step_plain rfl (acts_box (d := 3) (h := 3) (b := .agg ([(.int .i64 d.x : Value), .int .i64 d.y, .bool d.d].map A.val)) (ltN rfl) (OpX.tmp 1 (V.av [(.int .i64 d.x : Value), .int .i64 d.y, .bool d.d])) (by intro y hy; simp [B.cs] at hy; rcases hy with rfl | rfl | rfl <;> rfl))) (by kernel_rfl) ?_
  refine wpc (step_plain rfl (acts_assign (d := 4) (ltN rfl) (OpX.const (.int .i64 0)))) (by kernel_rfl) ?_
  refine wpc (step_plain rfl (acts_assign (d := 5) (ltN rfl) (OpX.const (.int .i64 0)))) (by kernel_rfl) ?_
  refine wpl_nil ?_
  refine wp_seq' ?_
  refine wp_region_t ?_
  refine wpc (step_plain rfl (acts_assign (d := 6) (ltN rfl) (OpX.const (.int .i64 1)))) (by kernel_rfl) ?_
  refine wpl_nil ?_
  refine wp_seq' ?_
  refine wp_seq' ?_
  refine wp_region_t ?_
  refine wpc (step_plain rfl (acts_field (d := 7) (t := 3) (h := 3) (off := 0) (off' := 0) (ltN rfl) qC5_fo_32_0 rfl)) (by kernel_rfl) ?_
  refine wpc (step_plain rfl (acts_load_own (d := 8) (t := 7) (h := 3) (off := 0) (o := ⟨32, 3, true, [(.val (.int .i64 d.x) : A), .val (.int .i64 d.y), .val (.bool d.d)]⟩)  (x := .val (.int .i64 d.x)) (ltN rfl) qC5_ti_3 rfl)) (by kernel_rfl) ?_
  refine wpc (step_plain rfl (acts_field (d := 9) (t := 3) (h := 3) (off := 0) (off' := 1) (ltN rfl) qC5_fo_32_1 rfl)) (by kernel_rfl) ?_
  refine wpc (step_plain rfl (acts_load_own (d := 10) (t := 9) (h := 3) (off := 1) (o := ⟨32, 3, true, [(.val (.int .i64 d.x) : A), .val (.int .i64 d.y), .val (.bool d.d)]⟩)  (x := .val (.int .i64 d.y)) (ltN rfl) qC5_ti_3 rfl)) (by kernel_rfl) ?_
  refine wpc (step_plain rfl (acts_bin (d := 11) (ltN rfl) (OpV.tmp 8 (.int .i64 d.x)) (OpV.tmp 10 (.int .i64 d.y)) (r_add (c := (d.x + d.y)) (w64 (by omega) (by omega))))) (by kernel_rfl) ?_
  refine wpc (step_plain rfl (acts_move (d := 12) (ltN rfl) (OpX.tmp 0 (V.v (.int .i64 n))))) (by kernel_rfl) ?_
  refine wpc (step_plain rfl (acts_bin (d := 13) (ltN rfl) (OpV.tmp 11 (.int .i64 (d.x + d.y))) (OpV.tmp 12 (.int .i64 n)) (r_add (c := ((d.x + d.y) + n)) (w64 (by omega) (by omega))))) (by kernel_rfl) ?_
  refine wpc (step_plain rfl (acts_bin (d := 14) (ltN rfl) (OpV.tmp 13 (.int .i64 ((d.x + d.y) + n))) (OpV.const (.int .i64 2)) (r_rem (c := (((d.x + d.y) + n) % 2)) (by omega) (remI (by omega))))) (by kernel_rfl) ?_
  refine wpc (step_plain rfl (acts_bin (d := 15) (ltN rfl) (OpV.tmp 14 (.int .i64 (((d.x + d.y) + n) % 2))) (OpV.const (.int .i64 1)) (r_eql (c := (decide ((((d.x + d.y) + n) % 2) = 1))) rfl))) (by kernel_rfl) ?_
  refine wpl_nil ?_
  refine wp_if (t := 15) (decide ((((d.x + d.y) + n) % 2) = 1)) (by kernel_rfl) (fun c1 => ?_) (fun c1 => ?_)
  · skip
    have c1P := of_decide_eq_true c1
    refine wp_region_t ?_
    refine wpc (step_plain rfl (acts_assign (d := 6) (ltN rfl) (OpX.const (.int .i64 (-1))))) (by kernel_rfl) ?_
    refine wpl_nil ?_
    refine wp_seq' ?_
    refine wp_seq' ?_
    refine wp_region_t ?_
    refine wpc (step_plain rfl (acts_field (d := 16) (t := 3) (h := 3) (off := 0) (off' := 2) (ltN rfl) qC5_fo_32_2 rfl)) (by kernel_rfl) ?_
    refine wpc (step_plain rfl (acts_load_own (d := 17) (t := 16) (h := 3) (off := 2) (o := ⟨32, 3, true, [(.val (.int .i64 d.x) : A), .val (.int .i64 d.y), .val (.bool d.d)]⟩)  (x := .val (.bool d.d)) (ltN rfl) qC5_ti_4 rfl)) (by kernel_rfl) ?_
    refine wpl_nil ?_
    refine wp_if (t := 17) (d.d) (by kernel_rfl) (fun c2 => ?_) (fun c2 => ?_)
    · skip
      refine wp_seq' ?_
      refine wp_region_t ?_
      refine wpc (step_plain rfl (acts_move (d := 18) (ltN rfl) (OpX.tmp 6 (V.v (.int .i64 (-1)))))) (by kernel_rfl) ?_
      refine wpc (step_plain rfl (acts_assign (d := 4) (ltN rfl) (OpX.tmp 18 (V.v (.int .i64 (-1)))))) (by kernel_rfl) ?_
      refine wpc (step_plain rfl (acts_assign (d := 5) (ltN rfl) (OpX.const (.int .i64 0)))) (by kernel_rfl) ?_
      refine wpl_nil ?_
      refine wp_ret' ?_
      exact ⟨VRes.tmp 4 (.a (.val (.int .i64 (-1)))) _ (by kernel_rfl) (bval (congrArg (Value.int .i64) (by simp_all [dxI, dyI, byI, bk]))), VRes.tmp 5 (.a (.val (.int .i64 0))) _ (by kernel_rfl) (bval (congrArg (Value.int .i64) (by simp_all [dxI, dyI, byI, bk])))⟩
    · skip
      refine wp_skip' ?_
      refine wp_seq' ?_
      refine wp_region_t ?_
      refine wpc (step_plain rfl (acts_move (d := 19) (ltN rfl) (OpX.tmp 6 (V.v (.int .i64 (-1)))))) (by kernel_rfl) ?_
      refine wpc (step_plain rfl (acts_assign (d := 4) (ltN rfl) (OpX.const (.int .i64 0)))) (by kernel_rfl) ?_
      refine wpc (step_plain rfl (acts_assign (d := 5) (ltN rfl) (OpX.tmp 19 (V.v (.int .i64 (-1)))))) (by kernel_rfl) ?_
      refine wpl_nil ?_
      refine wp_ret' ?_
      exact ⟨VRes.tmp 4 (.a (.val (.int .i64 0))) _ (by kernel_rfl) (bval (congrArg (Value.int .i64) (by simp_all [dxI, dyI, byI, bk]))), VRes.tmp 5 (.a (.val (.int .i64 (-1)))) _ (by kernel_rfl) (bval (congrArg (Value.int .i64) (by simp_all [dxI, dyI, byI, bk])))⟩
  · skip
    have c1P := of_decide_eq_false c1
    refine wp_skip' ?_
    refine wp_seq' ?_
    refine wp_seq' ?_
    refine wp_region_t ?_
    refine wpc (step_plain rfl (acts_field (d := 16) (t := 3) (h := 3) (off := 0) (off' := 2) (ltN rfl) qC5_fo_32_2 rfl)) (by kernel_rfl) ?_
    refine wpc (step_plain rfl (acts_load_own (d := 17) (t := 16) (h := 3) (off := 2) (o := ⟨32, 3, true, [(.val (.int .i64 d.x) : A), .val (.int .i64 d.y), .val (.bool d.d)]⟩)  (x := .val (.bool d.d)) (ltN rfl) qC5_ti_4 rfl)) (by kernel_rfl) ?_
    refine wpl_nil ?_
    refine wp_if (t := 17) (d.d) (by kernel_rfl) (fun c3 => ?_) (fun c3 => ?_)
    · skip
      refine wp_seq' ?_
      refine wp_region_t ?_
      refine wpc (step_plain rfl (acts_move (d := 18) (ltN rfl) (OpX.tmp 6 (V.v (.int .i64 1))))) (by kernel_rfl) ?_
      refine wpc (step_plain rfl (acts_assign (d := 4) (ltN rfl) (OpX.tmp 18 (V.v (.int .i64 1))))) (by kernel_rfl) ?_
      refine wpc (step_plain rfl (acts_assign (d := 5) (ltN rfl) (OpX.const (.int .i64 0)))) (by kernel_rfl) ?_
      refine wpl_nil ?_
      refine wp_ret' ?_
      exact ⟨VRes.tmp 4 (.a (.val (.int .i64 1))) _ (by kernel_rfl) (bval (congrArg (Value.int .i64) (by simp_all [dxI, dyI, byI, bk]))), VRes.tmp 5 (.a (.val (.int .i64 0))) _ (by kernel_rfl) (bval (congrArg (Value.int .i64) (by simp_all [dxI, dyI, byI, bk])))⟩
    · skip
      refine wp_skip' ?_
      refine wp_seq' ?_
      refine wp_region_t ?_
      refine wpc (step_plain rfl (acts_move (d := 19) (ltN rfl) (OpX.tmp 6 (V.v (.int .i64 1))))) (by kernel_rfl) ?_
      refine wpc (step_plain rfl (acts_assign (d := 4) (ltN rfl) (OpX.const (.int .i64 0)))) (by kernel_rfl) ?_
      refine wpc (step_plain rfl (acts_assign (d := 5) (ltN rfl) (OpX.tmp 19 (V.v (.int .i64 1))))) (by kernel_rfl) ?_
      refine wpl_nil ?_
      refine wp_ret' ?_
      exact ⟨VRes.tmp 4 (.a (.val (.int .i64 0))) _ (by kernel_rfl) (bval (congrArg (Value.int .i64) (by simp_all [dxI, dyI, byI, bk]))), VRes.tmp 5 (.a (.val (.int .i64 1))) _ (by kernel_rfl) (bval (congrArg (Value.int .i64) (by simp_all [dxI, dyI, byI, bk])))⟩

set_option maxHeartbeats 4000000 in
set_option maxRecDepth 100000 in
theorem spec_l17Back_fn (n : Int) (d : Dom) (hx : -1 ≤ d.x ∧ d.x ≤ 8) (hy : -1 ≤ d.y ∧ d.y ≤ 8) (hn : 1 ≤ n ∧ n ≤ 3) (hs : 0 ≤ d.x + d.y + n) : Fn Try.prog 64 [.a (.val (.int .i64 n)), .agg ([(.int .i64 d.x : Value), .int .i64 d.y, .bool d.d].map A.val)] [.val (.bool (bk n d))] := by
  refine fn_intro (N := 14) Try.func64 rfl (by kernel_rfl) rfl (Nat.le_of_ble_eq_true rfl) [3] (ret1 rfl) (fun W => ?_)
  show Wp _ _ _ [(.s 0, some (.s (V.v (.int .i64 n)))), (.s 1, some (.s (V.av [(.int .i64 d.x : Value), .int .i64 d.y, .bool d.d]))), (.o 3, some .free)]
  refine wp_seq' ?_
  refine wp_region_t ?_
  refine wpc (step_plain rfl (acts_box (d := 3) (h := 3) (b := .agg ([(.int .i64 d.x : Value), .int .i64 d.y, .bool d.d].map A.val)) (ltN rfl) (OpX.tmp 1 (V.av [(.int .i64 d.x : Value), .int .i64 d.y, .bool d.d])) (by intro y hy; simp [B.cs] at hy; rcases hy with rfl | rfl | rfl <;> rfl))) (by kernel_rfl) ?_
  refine wpc (step_plain rfl (acts_assign (d := 4) (ltN rfl) (OpX.const (.bool false)))) (by kernel_rfl) ?_
  refine wpl_nil ?_
  refine wp_seq' ?_
  refine wp_region_t ?_
  refine wpc (step_plain rfl (acts_field (d := 5) (t := 3) (h := 3) (off := 0) (off' := 0) (ltN rfl) qC5_fo_32_0 rfl)) (by kernel_rfl) ?_
  refine wpc (step_plain rfl (acts_load_own (d := 6) (t := 5) (h := 3) (off := 0) (o := ⟨32, 3, true, [(.val (.int .i64 d.x) : A), .val (.int .i64 d.y), .val (.bool d.d)]⟩)  (x := .val (.int .i64 d.x)) (ltN rfl) qC5_ti_3 rfl)) (by kernel_rfl) ?_
  refine wpc (step_plain rfl (acts_field (d := 7) (t := 3) (h := 3) (off := 0) (off' := 1) (ltN rfl) qC5_fo_32_1 rfl)) (by kernel_rfl) ?_
  refine wpc (step_plain rfl (acts_load_own (d := 8) (t := 7) (h := 3) (off := 1) (o := ⟨32, 3, true, [(.val (.int .i64 d.x) : A), .val (.int .i64 d.y), .val (.bool d.d)]⟩)  (x := .val (.int .i64 d.y)) (ltN rfl) qC5_ti_3 rfl)) (by kernel_rfl) ?_
  refine wpc (step_plain rfl (acts_bin (d := 9) (ltN rfl) (OpV.tmp 6 (.int .i64 d.x)) (OpV.tmp 8 (.int .i64 d.y)) (r_add (c := (d.x + d.y)) (w64 (by omega) (by omega))))) (by kernel_rfl) ?_
  refine wpc (step_plain rfl (acts_move (d := 10) (ltN rfl) (OpX.tmp 0 (V.v (.int .i64 n))))) (by kernel_rfl) ?_
  refine wpc (step_plain rfl (acts_bin (d := 11) (ltN rfl) (OpV.tmp 9 (.int .i64 (d.x + d.y))) (OpV.tmp 10 (.int .i64 n)) (r_add (c := ((d.x + d.y) + n)) (w64 (by omega) (by omega))))) (by kernel_rfl) ?_
  refine wpc (step_plain rfl (acts_bin (d := 12) (ltN rfl) (OpV.tmp 11 (.int .i64 ((d.x + d.y) + n))) (OpV.const (.int .i64 2)) (r_rem (c := (((d.x + d.y) + n) % 2)) (by omega) (remI (by omega))))) (by kernel_rfl) ?_
  refine wpc (step_plain rfl (acts_bin (d := 13) (ltN rfl) (OpV.tmp 12 (.int .i64 (((d.x + d.y) + n) % 2))) (OpV.const (.int .i64 1)) (r_eql (c := (decide ((((d.x + d.y) + n) % 2) = 1))) rfl))) (by kernel_rfl) ?_
  refine wpc (step_plain rfl (acts_assign (d := 4) (ltN rfl) (OpX.tmp 13 (V.v (.bool (decide ((((d.x + d.y) + n) % 2) = 1))))))) (by kernel_rfl) ?_
  refine wpl_nil ?_
  refine wp_ret' ?_
  exact VRes.tmp 4 (.a (.val (.bool (decide ((((d.x + d.y) + n) % 2) = 1))))) _ (by kernel_rfl) (bval (congrArg Value.bool (by rfl)))

set_option maxHeartbeats 4000000 in
set_option maxRecDepth 100000 in
theorem spec_l17Crosses_fn (n : Int) (ds : List Dom) (d : Dom) (hx : -1 ≤ d.x ∧ d.x ≤ 8) (hy : -1 ≤ d.y ∧ d.y ≤ 8) (hn : 1 ≤ n ∧ n ≤ 3) (hs : 0 ≤ d.x + d.y + n) (hd : ds.length ≤ 1048576) : Fn Try.prog 63 [.a (.val (.int .i64 n)), .a (.slv ds.length 3 (dsl ds)), .agg ([(.int .i64 d.x : Value), .int .i64 d.y, .bool d.d].map A.val)] [.val (.bool (crs n ds d))] := by
  refine fn_intro (N := 50) Try.func63 rfl (by kernel_rfl) rfl (Nat.le_of_ble_eq_true rfl) [5, 9, 19, 28, 39, 48] (ret1 rfl) (fun W => ?_)
  show Wp _ _ _ [(.s 0, some (.s (V.v (.int .i64 n)))), (.s 1, some (.s (V.b (.a (.slv ds.length 3 (dsl ds)))))), (.s 2, some (.s (V.av [(.int .i64 d.x : Value), .int .i64 d.y, .bool d.d]))), (.o 5, some .free), (.o 9, some .free), (.o 19, some .free), (.o 28, some .free), (.o 39, some .free), (.o 48, some .free)]
  refine wp_seq' ?_
  refine wp_region_t ?_
  refine wpc (step_plain rfl (acts_box (d := 5) (h := 5) (b := .agg ([(.int .i64 d.x : Value), .int .i64 d.y, .bool d.d].map A.val)) (ltN rfl) (OpX.tmp 2 (V.av [(.int .i64 d.x : Value), .int .i64 d.y, .bool d.d])) (by intro y hy; simp [B.cs] at hy; rcases hy with rfl | rfl | rfl <;> rfl))) (by kernel_rfl) ?_
  refine wpc (step_plain rfl (acts_assign (d := 6) (ltN rfl) (OpX.const (.bool false)))) (by kernel_rfl) ?_
  refine wpl_nil ?_
  refine wp_seq' ?_
  refine wp_seq' ?_
  refine wp_region_t ?_
  refine wpc (step_plain rfl (acts_move (d := 7) (ltN rfl) (OpX.tmp 0 (V.v (.int .i64 n))))) (by kernel_rfl) ?_
  refine wpc (step_plain rfl (acts_load_owns (d := 8) (t := 5) (h := 5) (off := 0) (o := ⟨32, 3, true, [(.val (.int .i64 d.x) : A), .val (.int .i64 d.y), .val (.bool d.d)]⟩)  (xs := [(.int .i64 d.x : Value), .int .i64 d.y, .bool d.d].map A.val) (ltN rfl) qC5_ti_32 rfl (by decide) rfl)) (by kernel_rfl) ?_
  refine wpc (step_plain rfl (acts_call1 (d := 9) (ltN rfl) (spec_l17Back_fn n d (by omega) (by omega) (by omega) (by omega)) (ArgVs.cons (ArgV.v (OpV.tmp 7 (.int .i64 n))) (ArgVs.cons (ArgV.va (vs := [(.int .i64 d.x : Value), .int .i64 d.y, .bool d.d]) (OpV.agg 8 [(.int .i64 d.x : Value), .int .i64 d.y, .bool d.d])) (ArgVs.nil))) (ResV.val _))) (by kernel_rfl) ?_
  refine wpl_nil ?_
  refine wp_if (t := 9) ((bk n d)) (by kernel_rfl) (fun c1 => ?_) (fun c1 => ?_)
  · skip
    refine wp_seq' ?_
    refine wp_seq' ?_
    refine wp_region_t ?_
    refine wpc (step_plain rfl (acts_field (d := 10) (t := 5) (h := 5) (off := 0) (off' := 2) (ltN rfl) qC5_fo_32_2 rfl)) (by kernel_rfl) ?_
    refine wpc (step_plain rfl (acts_load_own (d := 11) (t := 10) (h := 5) (off := 2) (o := ⟨32, 3, true, [(.val (.int .i64 d.x) : A), .val (.int .i64 d.y), .val (.bool d.d)]⟩)  (x := .val (.bool d.d)) (ltN rfl) qC5_ti_4 rfl)) (by kernel_rfl) ?_
    refine wpl_nil ?_
    refine wp_if (t := 11) (d.d) (by kernel_rfl) (fun c2 => ?_) (fun c2 => ?_)
    · skip
      refine wp_seq' ?_
      refine wp_region_t ?_
      refine wpc (step_plain rfl (acts_move (d := 12) (ltN rfl) (OpX.tmp 1 (V.b (.a (.slv ds.length 3 (dsl ds))))))) (by kernel_rfl) ?_
      refine wpc (step_plain rfl (acts_field (d := 13) (t := 5) (h := 5) (off := 0) (off' := 0) (ltN rfl) qC5_fo_32_0 rfl)) (by kernel_rfl) ?_
      refine wpc (step_plain rfl (acts_load_own (d := 14) (t := 13) (h := 5) (off := 0) (o := ⟨32, 3, true, [(.val (.int .i64 d.x) : A), .val (.int .i64 d.y), .val (.bool d.d)]⟩)  (x := .val (.int .i64 d.x)) (ltN rfl) qC5_ti_3 rfl)) (by kernel_rfl) ?_
      refine wpc (step_plain rfl (acts_bin (d := 15) (ltN rfl) (OpV.tmp 14 (.int .i64 d.x)) (OpV.const (.int .i64 1)) (r_sub (c := (d.x - 1)) (w64 (by omega) (by omega))))) (by kernel_rfl) ?_
      refine wpc (step_plain rfl (acts_field (d := 16) (t := 5) (h := 5) (off := 0) (off' := 1) (ltN rfl) qC5_fo_32_1 rfl)) (by kernel_rfl) ?_
      refine wpc (step_plain rfl (acts_load_own (d := 17) (t := 16) (h := 5) (off := 1) (o := ⟨32, 3, true, [(.val (.int .i64 d.x) : A), .val (.int .i64 d.y), .val (.bool d.d)]⟩)  (x := .val (.int .i64 d.y)) (ltN rfl) qC5_ti_3 rfl)) (by kernel_rfl) ?_
      refine wpc (step_plain rfl (acts_build (d := 18) (t := 32) (cells := [(.int .i64 (d.x - 1) : Value), .int .i64 d.y, .bool true]) (ltN rfl) (OpVs.cons (i := 0) (OpV.tmp 15 (.int .i64 (d.x - 1))) (OpVs.cons (i := 1) (OpV.tmp 17 (.int .i64 d.y)) (OpVs.cons (i := 2) (OpV.const (.bool true)) (OpVs.nil)))) rfl)) (by kernel_rfl) ?_
      refine wpc (step_plain rfl (acts_call1 (d := 19) (ltN rfl) (spec_l11Has_fn ds (⟨(d.x - 1), d.y, true⟩ : Dom) (by omega)) (ArgVs.cons (ArgV.slv 12 ds.length 3 (dsl ds)) (ArgVs.cons (ArgV.va (vs := [(.int .i64 (d.x - 1) : Value), .int .i64 d.y, .bool true]) (OpV.agg 18 [(.int .i64 (d.x - 1) : Value), .int .i64 d.y, .bool true])) (ArgVs.nil))) (ResV.val _))) (by kernel_rfl) ?_
      refine wpc (step_plain rfl (acts_bin (d := 20) (ltN rfl) (OpV.tmp 19 (.int .i64 (posD (eqs (⟨(d.x - 1), d.y, true⟩ : Dom)) ds))) (OpV.const (.int .i64 0)) (r_geq (c := (decide (0 ≤ (posD (eqs (⟨(d.x - 1), d.y, true⟩ : Dom)) ds)))) rfl))) (by kernel_rfl) ?_
      refine wpc (step_plain rfl (acts_assign (d := 6) (ltN rfl) (OpX.tmp 20 (V.v (.bool (decide (0 ≤ (posD (eqs (⟨(d.x - 1), d.y, true⟩ : Dom)) ds)))))))) (by kernel_rfl) ?_
      refine wpl_nil ?_
      refine wp_ret' ?_
      exact VRes.tmp 6 (.a (.val (.bool (decide (0 ≤ (posD (eqs (⟨(d.x - 1), d.y, true⟩ : Dom)) ds)))))) _ (by kernel_rfl) (bval (congrArg Value.bool (by simp_all [crs, posD_ge, oth, hasE, dxI, dyI, byI, Int.sub_eq_add_neg])))
    · skip
      refine wp_skip' ?_
      refine wp_seq' ?_
      refine wp_region_t ?_
      refine wpc (step_plain rfl (acts_move (d := 21) (ltN rfl) (OpX.tmp 1 (V.b (.a (.slv ds.length 3 (dsl ds))))))) (by kernel_rfl) ?_
      refine wpc (step_plain rfl (acts_field (d := 22) (t := 5) (h := 5) (off := 0) (off' := 0) (ltN rfl) qC5_fo_32_0 rfl)) (by kernel_rfl) ?_
      refine wpc (step_plain rfl (acts_load_own (d := 23) (t := 22) (h := 5) (off := 0) (o := ⟨32, 3, true, [(.val (.int .i64 d.x) : A), .val (.int .i64 d.y), .val (.bool d.d)]⟩)  (x := .val (.int .i64 d.x)) (ltN rfl) qC5_ti_3 rfl)) (by kernel_rfl) ?_
      refine wpc (step_plain rfl (acts_field (d := 24) (t := 5) (h := 5) (off := 0) (off' := 1) (ltN rfl) qC5_fo_32_1 rfl)) (by kernel_rfl) ?_
      refine wpc (step_plain rfl (acts_load_own (d := 25) (t := 24) (h := 5) (off := 1) (o := ⟨32, 3, true, [(.val (.int .i64 d.x) : A), .val (.int .i64 d.y), .val (.bool d.d)]⟩)  (x := .val (.int .i64 d.y)) (ltN rfl) qC5_ti_3 rfl)) (by kernel_rfl) ?_
      refine wpc (step_plain rfl (acts_bin (d := 26) (ltN rfl) (OpV.tmp 25 (.int .i64 d.y)) (OpV.const (.int .i64 1)) (r_sub (c := (d.y - 1)) (w64 (by omega) (by omega))))) (by kernel_rfl) ?_
      refine wpc (step_plain rfl (acts_build (d := 27) (t := 32) (cells := [(.int .i64 d.x : Value), .int .i64 (d.y - 1), .bool false]) (ltN rfl) (OpVs.cons (i := 0) (OpV.tmp 23 (.int .i64 d.x)) (OpVs.cons (i := 1) (OpV.tmp 26 (.int .i64 (d.y - 1))) (OpVs.nil))) rfl)) (by kernel_rfl) ?_
      refine wpc (step_plain rfl (acts_call1 (d := 28) (ltN rfl) (spec_l11Has_fn ds (⟨d.x, (d.y - 1), false⟩ : Dom) (by omega)) (ArgVs.cons (ArgV.slv 21 ds.length 3 (dsl ds)) (ArgVs.cons (ArgV.va (vs := [(.int .i64 d.x : Value), .int .i64 (d.y - 1), .bool false]) (OpV.agg 27 [(.int .i64 d.x : Value), .int .i64 (d.y - 1), .bool false])) (ArgVs.nil))) (ResV.val _))) (by kernel_rfl) ?_
      refine wpc (step_plain rfl (acts_bin (d := 29) (ltN rfl) (OpV.tmp 28 (.int .i64 (posD (eqs (⟨d.x, (d.y - 1), false⟩ : Dom)) ds))) (OpV.const (.int .i64 0)) (r_geq (c := (decide (0 ≤ (posD (eqs (⟨d.x, (d.y - 1), false⟩ : Dom)) ds)))) rfl))) (by kernel_rfl) ?_
      refine wpc (step_plain rfl (acts_assign (d := 6) (ltN rfl) (OpX.tmp 29 (V.v (.bool (decide (0 ≤ (posD (eqs (⟨d.x, (d.y - 1), false⟩ : Dom)) ds)))))))) (by kernel_rfl) ?_
      refine wpl_nil ?_
      refine wp_ret' ?_
      exact VRes.tmp 6 (.a (.val (.bool (decide (0 ≤ (posD (eqs (⟨d.x, (d.y - 1), false⟩ : Dom)) ds)))))) _ (by kernel_rfl) (bval (congrArg Value.bool (by simp_all [crs, posD_ge, oth, hasE, dxI, dyI, byI, Int.sub_eq_add_neg])))
  · skip
    refine wp_skip' ?_
    refine wp_seq' ?_
    refine wp_seq' ?_
    refine wp_region_t ?_
    refine wpc (step_plain rfl (acts_field (d := 30) (t := 5) (h := 5) (off := 0) (off' := 2) (ltN rfl) qC5_fo_32_2 rfl)) (by kernel_rfl) ?_
    refine wpc (step_plain rfl (acts_load_own (d := 31) (t := 30) (h := 5) (off := 2) (o := ⟨32, 3, true, [(.val (.int .i64 d.x) : A), .val (.int .i64 d.y), .val (.bool d.d)]⟩)  (x := .val (.bool d.d)) (ltN rfl) qC5_ti_4 rfl)) (by kernel_rfl) ?_
    refine wpl_nil ?_
    refine wp_if (t := 31) (d.d) (by kernel_rfl) (fun c3 => ?_) (fun c3 => ?_)
    · skip
      refine wp_seq' ?_
      refine wp_region_t ?_
      refine wpc (step_plain rfl (acts_move (d := 32) (ltN rfl) (OpX.tmp 1 (V.b (.a (.slv ds.length 3 (dsl ds))))))) (by kernel_rfl) ?_
      refine wpc (step_plain rfl (acts_field (d := 33) (t := 5) (h := 5) (off := 0) (off' := 0) (ltN rfl) qC5_fo_32_0 rfl)) (by kernel_rfl) ?_
      refine wpc (step_plain rfl (acts_load_own (d := 34) (t := 33) (h := 5) (off := 0) (o := ⟨32, 3, true, [(.val (.int .i64 d.x) : A), .val (.int .i64 d.y), .val (.bool d.d)]⟩)  (x := .val (.int .i64 d.x)) (ltN rfl) qC5_ti_3 rfl)) (by kernel_rfl) ?_
      refine wpc (step_plain rfl (acts_bin (d := 35) (ltN rfl) (OpV.tmp 34 (.int .i64 d.x)) (OpV.const (.int .i64 1)) (r_add (c := (d.x + 1)) (w64 (by omega) (by omega))))) (by kernel_rfl) ?_
      refine wpc (step_plain rfl (acts_field (d := 36) (t := 5) (h := 5) (off := 0) (off' := 1) (ltN rfl) qC5_fo_32_1 rfl)) (by kernel_rfl) ?_
      refine wpc (step_plain rfl (acts_load_own (d := 37) (t := 36) (h := 5) (off := 1) (o := ⟨32, 3, true, [(.val (.int .i64 d.x) : A), .val (.int .i64 d.y), .val (.bool d.d)]⟩)  (x := .val (.int .i64 d.y)) (ltN rfl) qC5_ti_3 rfl)) (by kernel_rfl) ?_
      refine wpc (step_plain rfl (acts_build (d := 38) (t := 32) (cells := [(.int .i64 (d.x + 1) : Value), .int .i64 d.y, .bool true]) (ltN rfl) (OpVs.cons (i := 0) (OpV.tmp 35 (.int .i64 (d.x + 1))) (OpVs.cons (i := 1) (OpV.tmp 37 (.int .i64 d.y)) (OpVs.cons (i := 2) (OpV.const (.bool true)) (OpVs.nil)))) rfl)) (by kernel_rfl) ?_
      refine wpc (step_plain rfl (acts_call1 (d := 39) (ltN rfl) (spec_l11Has_fn ds (⟨(d.x + 1), d.y, true⟩ : Dom) (by omega)) (ArgVs.cons (ArgV.slv 32 ds.length 3 (dsl ds)) (ArgVs.cons (ArgV.va (vs := [(.int .i64 (d.x + 1) : Value), .int .i64 d.y, .bool true]) (OpV.agg 38 [(.int .i64 (d.x + 1) : Value), .int .i64 d.y, .bool true])) (ArgVs.nil))) (ResV.val _))) (by kernel_rfl) ?_
      refine wpc (step_plain rfl (acts_bin (d := 40) (ltN rfl) (OpV.tmp 39 (.int .i64 (posD (eqs (⟨(d.x + 1), d.y, true⟩ : Dom)) ds))) (OpV.const (.int .i64 0)) (r_geq (c := (decide (0 ≤ (posD (eqs (⟨(d.x + 1), d.y, true⟩ : Dom)) ds)))) rfl))) (by kernel_rfl) ?_
      refine wpc (step_plain rfl (acts_assign (d := 6) (ltN rfl) (OpX.tmp 40 (V.v (.bool (decide (0 ≤ (posD (eqs (⟨(d.x + 1), d.y, true⟩ : Dom)) ds)))))))) (by kernel_rfl) ?_
      refine wpl_nil ?_
      refine wp_ret' ?_
      exact VRes.tmp 6 (.a (.val (.bool (decide (0 ≤ (posD (eqs (⟨(d.x + 1), d.y, true⟩ : Dom)) ds)))))) _ (by kernel_rfl) (bval (congrArg Value.bool (by simp_all [crs, posD_ge, oth, hasE, dxI, dyI, byI, Int.sub_eq_add_neg])))
    · skip
      refine wp_skip' ?_
      refine wp_seq' ?_
      refine wp_region_t ?_
      refine wpc (step_plain rfl (acts_move (d := 41) (ltN rfl) (OpX.tmp 1 (V.b (.a (.slv ds.length 3 (dsl ds))))))) (by kernel_rfl) ?_
      refine wpc (step_plain rfl (acts_field (d := 42) (t := 5) (h := 5) (off := 0) (off' := 0) (ltN rfl) qC5_fo_32_0 rfl)) (by kernel_rfl) ?_
      refine wpc (step_plain rfl (acts_load_own (d := 43) (t := 42) (h := 5) (off := 0) (o := ⟨32, 3, true, [(.val (.int .i64 d.x) : A), .val (.int .i64 d.y), .val (.bool d.d)]⟩)  (x := .val (.int .i64 d.x)) (ltN rfl) qC5_ti_3 rfl)) (by kernel_rfl) ?_
      refine wpc (step_plain rfl (acts_field (d := 44) (t := 5) (h := 5) (off := 0) (off' := 1) (ltN rfl) qC5_fo_32_1 rfl)) (by kernel_rfl) ?_
      refine wpc (step_plain rfl (acts_load_own (d := 45) (t := 44) (h := 5) (off := 1) (o := ⟨32, 3, true, [(.val (.int .i64 d.x) : A), .val (.int .i64 d.y), .val (.bool d.d)]⟩)  (x := .val (.int .i64 d.y)) (ltN rfl) qC5_ti_3 rfl)) (by kernel_rfl) ?_
      refine wpc (step_plain rfl (acts_bin (d := 46) (ltN rfl) (OpV.tmp 45 (.int .i64 d.y)) (OpV.const (.int .i64 1)) (r_add (c := (d.y + 1)) (w64 (by omega) (by omega))))) (by kernel_rfl) ?_
      refine wpc (step_plain rfl (acts_build (d := 47) (t := 32) (cells := [(.int .i64 d.x : Value), .int .i64 (d.y + 1), .bool false]) (ltN rfl) (OpVs.cons (i := 0) (OpV.tmp 43 (.int .i64 d.x)) (OpVs.cons (i := 1) (OpV.tmp 46 (.int .i64 (d.y + 1))) (OpVs.nil))) rfl)) (by kernel_rfl) ?_
      refine wpc (step_plain rfl (acts_call1 (d := 48) (ltN rfl) (spec_l11Has_fn ds (⟨d.x, (d.y + 1), false⟩ : Dom) (by omega)) (ArgVs.cons (ArgV.slv 41 ds.length 3 (dsl ds)) (ArgVs.cons (ArgV.va (vs := [(.int .i64 d.x : Value), .int .i64 (d.y + 1), .bool false]) (OpV.agg 47 [(.int .i64 d.x : Value), .int .i64 (d.y + 1), .bool false])) (ArgVs.nil))) (ResV.val _))) (by kernel_rfl) ?_
      refine wpc (step_plain rfl (acts_bin (d := 49) (ltN rfl) (OpV.tmp 48 (.int .i64 (posD (eqs (⟨d.x, (d.y + 1), false⟩ : Dom)) ds))) (OpV.const (.int .i64 0)) (r_geq (c := (decide (0 ≤ (posD (eqs (⟨d.x, (d.y + 1), false⟩ : Dom)) ds)))) rfl))) (by kernel_rfl) ?_
      refine wpc (step_plain rfl (acts_assign (d := 6) (ltN rfl) (OpX.tmp 49 (V.v (.bool (decide (0 ≤ (posD (eqs (⟨d.x, (d.y + 1), false⟩ : Dom)) ds)))))))) (by kernel_rfl) ?_
      refine wpl_nil ?_
      refine wp_ret' ?_
      exact VRes.tmp 6 (.a (.val (.bool (decide (0 ≤ (posD (eqs (⟨d.x, (d.y + 1), false⟩ : Dom)) ds)))))) _ (by kernel_rfl) (bval (congrArg Value.bool (by simp_all [crs, posD_ge, oth, hasE, dxI, dyI, byI, Int.sub_eq_add_neg])))

set_option maxHeartbeats 4000000 in
set_option maxRecDepth 100000 in
theorem impl_GrowDiamond_fn (n : Int) (ds : List Dom) (hd : ds.length ≤ 1048576) : Fn Try.prog 31 [.a (.val (.int .i64 n)), .a (.slv ds.length 3 (dsl ds))] [.row 32 3 (gro n ds).length (dsl (gro n ds)), .val (.bool (groOk n ds))] := by
  refine fn_intro (N := 84) Try.func31 rfl (by kernel_rfl) rfl (Nat.le_of_ble_eq_true rfl) [8, 11, 15, 19, 21, 24, 26, 34, 51, 56, 79, 80, 83] (ret2 rfl rfl (by intro u hu; injection hu with hu; subst hu; rfl)) (fun W => ?_)
  show Wp _ _ _ [(.s 0, some (.s (V.v (.int .i64 n)))), (.s 1, some (.s (V.b (.a (.slv ds.length 3 (dsl ds)))))), (.o 8, some .free), (.o 11, some .free), (.o 15, some .free), (.o 19, some .free), (.o 21, some .free), (.o 24, some .free), (.o 26, some .free), (.o 34, some .free), (.o 51, some .free), (.o 56, some .free), (.o 79, some .free), (.o 80, some .free), (.o 83, some .free)]
  refine wp_seq' ?_
  refine wp_region_t ?_
  refine wpc (step_plain rfl (acts_assign (d := 4) (ltN rfl) (OpX.const (.slice none 0 0)))) (by kernel_rfl) ?_
  refine wpc (step_plain rfl (acts_assign (d := 5) (ltN rfl) (OpX.const (.bool false)))) (by kernel_rfl) ?_
  refine wpl_nil ?_
  refine wp_seq' ?_
  refine wp_seq' ?_
  rcases Bool.eq_false_or_eq_true ((inB n 1 3)) with c1 | c1
  · skip
    have c1Q := inB_true.1 c1
    refine wp_region_t ?_
    refine wpc (step_plain rfl (acts_move (d := 14) (ltN rfl) (OpX.tmp 0 (V.v (.int .i64 n))))) (by kernel_rfl) ?_
    refine wpc (step_plain rfl (acts_call1 (d := 15) (ltN rfl) (impl_within_fn n 1 3 ) (ArgVs.cons (ArgV.v (OpV.tmp 14 (.int .i64 n))) (ArgVs.cons (ArgV.v (OpV.const (.int .i64 1))) (ArgVs.cons (ArgV.v (OpV.const (.int .i64 3))) (ArgVs.nil)))) ((resval (congrArg Value.bool c1))))) (by kernel_rfl) ?_
    refine wpc (step_plain rfl (acts_un (d := 16) (ltN rfl) (OpV.tmp 15 (.bool true)) (r_not (c := false) rfl))) (by kernel_rfl) ?_
    refine wpc (step_plain rfl (acts_move (d := 17) (ltN rfl) (OpX.tmp 16 (V.v (.bool false))))) (by kernel_rfl) ?_
    refine wpc (step_on (dj := 17) rfl rfl (acts_move (d := 18) (ltN rfl) (OpX.tmp 0 (V.v (.int .i64 n))))) (by kernel_rfl) ?_
    refine wpc (step_on (dj := 17) rfl rfl (acts_call1 (d := 19) (ltN rfl) (impl_DiamondRegion_fn n ) (ArgVs.cons (ArgV.v (OpV.tmp 18 (.int .i64 n))) (ArgVs.nil)) (ResV.reg 3 1 ((diaRows n).length) (isl (diaRows n)) 19))) (by kernel_rfl) ?_
    refine wpc (step_on (dj := 17) rfl rfl (acts_move (d := 20) (ltN rfl) (OpX.tmp 1 (V.b (.a (.slv ds.length 3 (dsl ds))))))) (by kernel_rfl) ?_
    refine wpc (step_on (dj := 17) rfl rfl (acts_call1 (d := 21) (ltN rfl) (impl_IsTiling_fn (diaRows n) ds (by first | omega | assumption | (have q1 := okD_bd (hok k (by omega)); have q2 := dxy_bd n (gD ds k); have q3 := byI_bd n (gD ds k); (try unfold oth); (try dsimp only); omega) | (have q := groT_len n ds k; omega) | (have := posD_bd (p := eqs (oth n (gD ds k))) ds; omega) | (have := diaRows_len n; omega)) (by first | omega | assumption | (have q1 := okD_bd (hok k (by omega)); have q2 := dxy_bd n (gD ds k); have q3 := byI_bd n (gD ds k); (try unfold oth); (try dsimp only); omega) | (have q := groT_len n ds k; omega) | (have := posD_bd (p := eqs (oth n (gD ds k))) ds; omega) | (have := diaRows_len n; omega))) (ArgVs.cons (ArgV.reg (xs := isl (diaRows n)) 19 19 ((diaRows n).length) (s := 1) (T := 3) (ex := true) (by simp [isl]) (by first | exact List.take_of_length_le (by simp [isl]) | (simp [isl]; done))) (ArgVs.cons (ArgV.slv 20 ds.length 3 (dsl ds)) (ArgVs.nil))) (ResV.val _))) (by kernel_rfl) ?_
    refine wpc (step_on (dj := 17) rfl rfl (acts_un (d := 22) (ltN rfl) (OpV.tmp 21 (.bool (isTil (diaRows n) ds))) (r_not (c := (!(isTil (diaRows n) ds))) rfl))) (by kernel_rfl) ?_
    refine wpc (step_plain rfl (acts_pick_f (d := 23) (ltN rfl) (OpV.tmp 17 (.bool false)) (OpX.tmp 22 (V.v (.bool (!(isTil (diaRows n) ds))))))) (by kernel_rfl) ?_
    refine wpl_nil ?_
    refine wp_if (t := 23) ((!(isTil (diaRows n) ds))) (by kernel_rfl) (fun c2 => ?_) (fun c2 => ?_)
    · skip
      have c3 : (isTil (diaRows n) ds) = false := by simpa using c2
      refine wp_seq' ?_
      refine wp_region_t ?_
      refine wpc (step_plain rfl (acts_assign (d := 4) (ltN rfl) (OpX.const (.slice none 0 0)))) (by kernel_rfl) ?_
      refine wpc (step_plain rfl (acts_assign (d := 5) (ltN rfl) (OpX.const (.bool false)))) (by kernel_rfl) ?_
      refine wpl_nil ?_
      refine wp_ret' ?_
      exact ⟨VRes.tmp 4 (.a (.val (.slice none 0 0))) _ (by kernel_rfl) (bnil_doms (L := (gro n ds)) (by first | (refine gro_no (groOk_a ?_); assumption) | (refine gro_no (groOk_b ?_); assumption) | (refine (gro_no (groOk_a ?_)).symm; assumption) | (refine (gro_no (groOk_b ?_)).symm; assumption) | (refine (groOk_a ?_).symm; assumption) | (refine (groOk_b ?_).symm; assumption) | (refine groOk_a ?_; assumption) | (refine groOk_b ?_; assumption) | (refine gro_end ?_ ?_ ?_ <;> first | assumption | exact groOk_of (by assumption) (by assumption)) | exact (groOk_of (by assumption) (by assumption)).symm)), VRes.tmp 5 (.a (.val (.bool false))) _ (by kernel_rfl) (bval (congrArg Value.bool (by first | (refine gro_no (groOk_a ?_); assumption) | (refine gro_no (groOk_b ?_); assumption) | (refine (gro_no (groOk_a ?_)).symm; assumption) | (refine (gro_no (groOk_b ?_)).symm; assumption) | (refine (groOk_a ?_).symm; assumption) | (refine (groOk_b ?_).symm; assumption) | (refine groOk_a ?_; assumption) | (refine groOk_b ?_; assumption) | (refine gro_end ?_ ?_ ?_ <;> first | assumption | exact groOk_of (by assumption) (by assumption)) | exact (groOk_of (by assumption) (by assumption)).symm)))⟩
    · skip
      have c4 : (isTil (diaRows n) ds) = true := by simpa using c2
      refine wp_skip' ?_
      refine wp_seq' ?_
      refine wp_region_t ?_
      refine wpc (step_plain rfl (acts_buildSlice0' (d := 24) (h := 24) (s := 3) (ltN rfl) qC5_un_42 qC5_zi_32)) (by kernel_rfl) ?_
      refine wpc (step_plain rfl (acts_assign (d := 6) (ltN rfl) (OpX.tmp 24 (V.b (.a (.sl 24 0 0)))))) (by kernel_rfl) ?_
      refine wpl_nil ?_
      refine wp_seq' ?_
      refine wp_seq' ?_
      refine wp_region_t ?_
      refine wpc (step_plain rfl (acts_move (d := 25) (ltN rfl) (OpX.tmp 1 (V.b (.a (.slv ds.length 3 (dsl ds))))))) (by kernel_rfl) ?_
      refine wpc (step_plain rfl (acts_len (d := 26) (X := .slv ds.length 3 (dsl ds)) (n := ds.length) (iv := ((ds.length : Nat) : Int)) (ltN rfl) qC5_un_42 (OpX.tmp 25 (V.b (.a (.slv ds.length 3 (dsl ds))))) (LenOf.slv _ _ _) rfl)) (by kernel_rfl) ?_
      refine wpc (step_plain rfl (acts_move (d := 27) (ltN rfl) (OpX.const (.int .i64 0)))) (by kernel_rfl) ?_
      refine wpl_nil ?_
      refine wp_block' ?_
      refine wp_loop' (fun (k : Nat) => k ≤ ds.length) (fun (k : Nat) => [(.s 0, some (.s (V.v (.int .i64 n)))), (.s 1, some (.s (V.b (.a (.slv ds.length 3 (dsl ds)))))), (.s 4, some (.s (V.v (.slice none 0 0)))), (.s 5, some (.s (V.v (.bool false)))), (.s 6, some (.s (V.b (.a (.sl 24 0 ((groT n ds k).length)))))), (.s 25, some (.s (V.b (.a (.slv ds.length 3 (dsl ds)))))), (.s 26, some (.s (V.v (.int .i64 ((ds.length : Nat) : Int))))), (.s 27, some (.s (V.v (.int .i64 ((k : Nat) : Int))))), (.o 24, some (.o ⟨32, 3, true, pl (dsl (groT n ds k))⟩)), (.o 8, some .free), (.o 11, some .free), (.o 15, some .free), (.o 19, some .free), (.o 21, some .free), (.o 26, some .free), (.o 34, some .free), (.o 51, some .free), (.o 56, some .free), (.o 79, some .free), (.o 80, some .free), (.o 83, some .free)]) (fun (k : Nat) => ds.length - k) ((0 : Nat)) (by exact (Nat.zero_le _ : 0 ≤ _)) (weak_of id [8, 11, 15, 19, 21, 26, 34, 51, 56, 79, 80, 83] (by kernel_rfl) (wk_s (v' := V.v (.int .i64 n)) (by kernel_rfl) rfl rfl (wk_s (v' := V.b (.a (.slv ds.length 3 (dsl ds)))) (by kernel_rfl) rfl rfl (wk_s (v' := V.v (.slice none 0 0)) (by kernel_rfl) rfl rfl (wk_s (v' := V.v (.bool false)) (by kernel_rfl) rfl rfl (wk_s (v' := V.b (.a (.sl 24 0 0))) (by kernel_rfl) (vsl (by first | rfl | (simp; done) | (simp; omega) | omega | (exact congrArg List.length (by first | rfl | exact groT_yes (by omega) (by unfold crs oth; assumption) | exact groT_no (by omega) (by unfold crs oth; assumption) | exact absurd (dx_oth n (gD ds k)) (by assumption) | exact absurd (dy_oth n (gD ds k)) (by assumption) | omega))) rfl) rfl (wk_s (v' := V.b (.a (.slv ds.length 3 (dsl ds)))) (by kernel_rfl) rfl rfl (wk_s (v' := V.v (.int .i64 ((ds.length : Nat) : Int))) (by kernel_rfl) rfl rfl (wk_s (v' := V.v (.int .i64 0)) (by kernel_rfl) (vint (by first | rfl | exact groT_yes (by omega) (by unfold crs oth; assumption) | exact groT_no (by omega) (by unfold crs oth; assumption) | exact absurd (dx_oth n (gD ds k)) (by assumption) | exact absurd (dy_oth n (gD ds k)) (by assumption) | omega)) rfl (wk_o (o' := ⟨32, 3, true, pl (dsl [])⟩) (by kernel_rfl) (renob_eq (fun h => h) (congrArg dsl (by first | rfl | exact groT_yes (by omega) (by unfold crs oth; assumption) | exact groT_no (by omega) (by unfold crs oth; assumption) | exact absurd (dx_oth n (gD ds k)) (by assumption) | exact absurd (dy_oth n (gD ds k)) (by assumption) | omega))) rfl (wk_f rfl (wk_f rfl (wk_f rfl (wk_f rfl (wk_f rfl (wk_f rfl (wk_f rfl (wk_f rfl (wk_f rfl (wk_f rfl (wk_f rfl (wk_f rfl (wk_nil))))))))))))))))))))))) ?_
      rintro k inv5
      replace inv5 : k ≤ ds.length := inv5
      have inv := inv5
      show Wp _ _ _ [(.s 0, some (.s (V.v (.int .i64 n)))), (.s 1, some (.s (V.b (.a (.slv ds.length 3 (dsl ds)))))), (.s 4, some (.s (V.v (.slice none 0 0)))), (.s 5, some (.s (V.v (.bool false)))), (.s 6, some (.s (V.b (.a (.sl 24 0 ((groT n ds k).length)))))), (.s 25, some (.s (V.b (.a (.slv ds.length 3 (dsl ds)))))), (.s 26, some (.s (V.v (.int .i64 ((ds.length : Nat) : Int))))), (.s 27, some (.s (V.v (.int .i64 ((k : Nat) : Int))))), (.o 24, some (.o ⟨32, 3, true, pl (dsl (groT n ds k))⟩)), (.o 8, some .free), (.o 11, some .free), (.o 15, some .free), (.o 19, some .free), (.o 21, some .free), (.o 26, some .free), (.o 34, some .free), (.o 51, some .free), (.o 56, some .free), (.o 79, some .free), (.o 80, some .free), (.o 83, some .free)]
      have hgo := groOk_of (n := n) (ds := ds) (by assumption) (by assumption)
      obtain ⟨hn, hok⟩ := groOk_dom hgo
      have hlt := groT_len n ds k
      refine wp_seq' ?_
      refine wp_region_t ?_
      refine wpc (step_plain rfl (acts_bin (d := 28) (ltN rfl) (OpV.tmp 27 (.int .i64 ((k : Nat) : Int))) (OpV.tmp 26 (.int .i64 ((ds.length : Nat) : Int))) (r_lss (c := (decide (((k : Nat) : Int) < ((ds.length : Nat) : Int)))) rfl))) (by kernel_rfl) ?_
      refine wpl_nil ?_
      refine wp_seq' ?_
      refine wp_if (t := 28) (decide (((k : Nat) : Int) < ((ds.length : Nat) : Int))) (by kernel_rfl) (fun c6 => ?_) (fun c6 => ?_)
      · skip
        have c6P := of_decide_eq_true c6
        refine wp_skip' ?_
        refine wp_seq' ?_
        refine wp_block' ?_
        refine wp_seq' ?_
        refine wp_region_t ?_
        refine wpc (step_plain rfl (acts_index_v (d := 29) (x := 25) (n := ds.length) (s := 3) (k := k) (xs := dsl ds) (ltN rfl) qC5_un_42 qC5_sz_32 (OpV.tmp 27 (.int .i64 ((k : Nat) : Int))) rfl (by first | omega | assumption | (have q1 := okD_bd (hok k (by omega)); have q2 := dxy_bd n (gD ds k); have q3 := byI_bd n (gD ds k); (try unfold oth); (try dsimp only); omega) | (have q := groT_len n ds k; omega) | (have := posD_bd (p := eqs (oth n (gD ds k))) ds; omega) | (have := diaRows_len n; omega)))) (by kernel_rfl) ?_
        refine wpc (step_plain rfl (acts_load_vs (d := 30) (t := 29) (s := 3) (off := (k * 3)) (xs := dsl ds)  (vs := [(.int .i64 ((gD ds k).x) : Value), .int .i64 ((gD ds k).y), .bool ((gD ds k).d)]) (ltN rfl) qC5_ti_32 rfl (dsl_at (k := k) (by first | omega | assumption | (have q1 := okD_bd (hok k (by omega)); have q2 := dxy_bd n (gD ds k); have q3 := byI_bd n (gD ds k); (try unfold oth); (try dsimp only); omega) | (have q := groT_len n ds k; omega) | (have := posD_bd (p := eqs (oth n (gD ds k))) ds; omega) | (have := diaRows_len n; omega))))) (by kernel_rfl) ?_
        refine wpc (step_plain rfl (acts_alloc' (d := 8) (h := 8) (cap := 1) (s := 3) (cells := [(.val (.int .i64 0) : A), .val (.int .i64 0), .val (.bool false)]) (ltN rfl) qC5_zi_32 rfl rfl (by decide))) (by kernel_rfl) ?_
        refine wpc (step_plain rfl (acts_store (t := 8) (h := 8) (off := 0) (o := ⟨32, 3, true, [(.val (.int .i64 0) : A), .val (.int .i64 0), .val (.bool false)]⟩) (b := .agg ([(.int .i64 ((gD ds k).x) : Value), .int .i64 ((gD ds k).y), .bool ((gD ds k).d)].map A.val)) (cells := [(.val (.int .i64 ((gD ds k).x)) : A), .val (.int .i64 ((gD ds k).y)), .val (.bool ((gD ds k).d))]) qC5_ti_32 (OpX.tmp 30 (V.av [(.int .i64 ((gD ds k).x) : Value), .int .i64 ((gD ds k).y), .bool ((gD ds k).d)])) rfl (by decide) (by intro y hy; simp [B.cs] at hy; rcases hy with rfl | rfl | rfl <;> rfl) (Nat.le_of_ble_eq_true rfl) rfl)) (by kernel_rfl) ?_
        refine wpl_nil ?_
        refine wp_seq' ?_
        refine wp_region_t ?_
        refine wpc (step_plain rfl (acts_move (d := 32) (ltN rfl) (OpX.tmp 0 (V.v (.int .i64 n))))) (by kernel_rfl) ?_
        refine wpc (step_plain rfl (acts_load_owns (d := 33) (t := 8) (h := 8) (off := 0) (o := ⟨32, 3, true, [(.val (.int .i64 ((gD ds k).x)) : A), .val (.int .i64 ((gD ds k).y)), .val (.bool ((gD ds k).d))]⟩)  (xs := [(.int .i64 ((gD ds k).x) : Value), .int .i64 ((gD ds k).y), .bool ((gD ds k).d)].map A.val) (ltN rfl) qC5_ti_32 rfl (by decide) rfl)) (by kernel_rfl) ?_
        refine wpc (step_plain rfl (acts_call2 (d := 34) (ltN rfl) (impl_moves_fn n (gD ds k) (by first | omega | assumption | (have q1 := okD_bd (hok k (by omega)); have q2 := dxy_bd n (gD ds k); have q3 := byI_bd n (gD ds k); (try unfold oth); (try dsimp only); omega) | (have q := groT_len n ds k; omega) | (have := posD_bd (p := eqs (oth n (gD ds k))) ds; omega) | (have := diaRows_len n; omega)) (by first | omega | assumption | (have q1 := okD_bd (hok k (by omega)); have q2 := dxy_bd n (gD ds k); have q3 := byI_bd n (gD ds k); (try unfold oth); (try dsimp only); omega) | (have q := groT_len n ds k; omega) | (have := posD_bd (p := eqs (oth n (gD ds k))) ds; omega) | (have := diaRows_len n; omega)) (by first | omega | assumption | (have q1 := okD_bd (hok k (by omega)); have q2 := dxy_bd n (gD ds k); have q3 := byI_bd n (gD ds k); (try unfold oth); (try dsimp only); omega) | (have q := groT_len n ds k; omega) | (have := posD_bd (p := eqs (oth n (gD ds k))) ds; omega) | (have := diaRows_len n; omega)) (by first | omega | assumption | (have q1 := okD_bd (hok k (by omega)); have q2 := dxy_bd n (gD ds k); have q3 := byI_bd n (gD ds k); (try unfold oth); (try dsimp only); omega) | (have q := groT_len n ds k; omega) | (have := posD_bd (p := eqs (oth n (gD ds k))) ds; omega) | (have := diaRows_len n; omega))) (ArgVs.cons (ArgV.v (OpV.tmp 32 (.int .i64 n))) (ArgVs.cons (ArgV.va (vs := [(.int .i64 ((gD ds k).x) : Value), .int .i64 ((gD ds k).y), .bool ((gD ds k).d)]) (OpV.agg 33 [(.int .i64 ((gD ds k).x) : Value), .int .i64 ((gD ds k).y), .bool ((gD ds k).d)])) (ArgVs.nil))) (ResV.val _) (ResV.val _))) (by kernel_rfl) ?_
        refine wpc (step_plain rfl (acts_move (d := 31) (ltN rfl) (OpX.tmp 34 (V.tup [.a (.val (.int .i64 (dxI n (gD ds k)))), .a (.val (.int .i64 (dyI n (gD ds k))))])))) (by kernel_rfl) ?_
        refine wpc (step_plain rfl (acts_extract (d := 35) (t := 31) (ix := 0) (xs := [.a (.val (.int .i64 (dxI n (gD ds k)))), .a (.val (.int .i64 (dyI n (gD ds k))))]) (X := .a (.val (.int .i64 (dxI n (gD ds k))))) (ltN rfl) rfl)) (by kernel_rfl) ?_
        refine wpc (step_plain rfl (acts_extract (d := 36) (t := 31) (ix := 1) (xs := [.a (.val (.int .i64 (dxI n (gD ds k)))), .a (.val (.int .i64 (dyI n (gD ds k))))]) (X := .a (.val (.int .i64 (dyI n (gD ds k))))) (ltN rfl) rfl)) (by kernel_rfl) ?_
        refine wpc (step_plain rfl (acts_assign (d := 9) (ltN rfl) (OpX.tmp 35 (V.v (.int .i64 (dxI n (gD ds k))))))) (by kernel_rfl) ?_
        refine wpc (step_plain rfl (acts_assign (d := 10) (ltN rfl) (OpX.tmp 36 (V.v (.int .i64 (dyI n (gD ds k))))))) (by kernel_rfl) ?_
        refine wpl_nil ?_
        refine wp_seq' ?_
        refine wp_region_t ?_
        refine wpc (step_plain rfl (acts_field (d := 37) (t := 8) (h := 8) (off := 0) (off' := 0) (ltN rfl) qC5_fo_32_0 rfl)) (by kernel_rfl) ?_
        refine wpc (step_plain rfl (acts_load_own (d := 38) (t := 37) (h := 8) (off := 0) (o := ⟨32, 3, true, [(.val (.int .i64 ((gD ds k).x)) : A), .val (.int .i64 ((gD ds k).y)), .val (.bool ((gD ds k).d))]⟩)  (x := .val (.int .i64 ((gD ds k).x))) (ltN rfl) qC5_ti_3 rfl)) (by kernel_rfl) ?_
        refine wpc (step_plain rfl (acts_move (d := 39) (ltN rfl) (OpX.tmp 9 (V.v (.int .i64 (dxI n (gD ds k))))))) (by kernel_rfl) ?_
        refine wpc (step_plain rfl (acts_bin (d := 40) (ltN rfl) (OpV.tmp 38 (.int .i64 ((gD ds k).x))) (OpV.tmp 39 (.int .i64 (dxI n (gD ds k)))) (r_add (c := ((gD ds k).x + (dxI n (gD ds k)))) (w64 (by first | omega | assumption | (have q1 := okD_bd (hok k (by omega)); have q2 := dxy_bd n (gD ds k); have q3 := byI_bd n (gD ds k); (try unfold oth); (try dsimp only); omega) | (have q := groT_len n ds k; omega) | (have := posD_bd (p := eqs (oth n (gD ds k))) ds; omega) | (have := diaRows_len n; omega)) (by first | omega | assumption | (have q1 := okD_bd (hok k (by omega)); have q2 := dxy_bd n (gD ds k); have q3 := byI_bd n (gD ds k); (try unfold oth); (try dsimp only); omega) | (have q := groT_len n ds k; omega) | (have := posD_bd (p := eqs (oth n (gD ds k))) ds; omega) | (have := diaRows_len n; omega)))))) (by kernel_rfl) ?_
        refine wpc (step_plain rfl (acts_field (d := 41) (t := 8) (h := 8) (off := 0) (off' := 1) (ltN rfl) qC5_fo_32_1 rfl)) (by kernel_rfl) ?_
        refine wpc (step_plain rfl (acts_load_own (d := 42) (t := 41) (h := 8) (off := 1) (o := ⟨32, 3, true, [(.val (.int .i64 ((gD ds k).x)) : A), .val (.int .i64 ((gD ds k).y)), .val (.bool ((gD ds k).d))]⟩)  (x := .val (.int .i64 ((gD ds k).y))) (ltN rfl) qC5_ti_3 rfl)) (by kernel_rfl) ?_
        refine wpc (step_plain rfl (acts_move (d := 43) (ltN rfl) (OpX.tmp 10 (V.v (.int .i64 (dyI n (gD ds k))))))) (by kernel_rfl) ?_
        refine wpc (step_plain rfl (acts_bin (d := 44) (ltN rfl) (OpV.tmp 42 (.int .i64 ((gD ds k).y))) (OpV.tmp 43 (.int .i64 (dyI n (gD ds k)))) (r_add (c := ((gD ds k).y + (dyI n (gD ds k)))) (w64 (by first | omega | assumption | (have q1 := okD_bd (hok k (by omega)); have q2 := dxy_bd n (gD ds k); have q3 := byI_bd n (gD ds k); (try unfold oth); (try dsimp only); omega) | (have q := groT_len n ds k; omega) | (have := posD_bd (p := eqs (oth n (gD ds k))) ds; omega) | (have := diaRows_len n; omega)) (by first | omega | assumption | (have q1 := okD_bd (hok k (by omega)); have q2 := dxy_bd n (gD ds k); have q3 := byI_bd n (gD ds k); (try unfold oth); (try dsimp only); omega) | (have q := groT_len n ds k; omega) | (have := posD_bd (p := eqs (oth n (gD ds k))) ds; omega) | (have := diaRows_len n; omega)))))) (by kernel_rfl) ?_
        refine wpc (step_plain rfl (acts_field (d := 45) (t := 8) (h := 8) (off := 0) (off' := 2) (ltN rfl) qC5_fo_32_2 rfl)) (by kernel_rfl) ?_
        refine wpc (step_plain rfl (acts_load_own (d := 46) (t := 45) (h := 8) (off := 2) (o := ⟨32, 3, true, [(.val (.int .i64 ((gD ds k).x)) : A), .val (.int .i64 ((gD ds k).y)), .val (.bool ((gD ds k).d))]⟩)  (x := .val (.bool ((gD ds k).d))) (ltN rfl) qC5_ti_4 rfl)) (by kernel_rfl) ?_
        refine wpc (step_plain rfl (acts_build (d := 47) (t := 32) (cells := [(.int .i64 ((gD ds k).x + (dxI n (gD ds k))) : Value), .int .i64 ((gD ds k).y + (dyI n (gD ds k))), .bool ((gD ds k).d)]) (ltN rfl) (OpVs.cons (i := 0) (OpV.tmp 40 (.int .i64 ((gD ds k).x + (dxI n (gD ds k))))) (OpVs.cons (i := 1) (OpV.tmp 44 (.int .i64 ((gD ds k).y + (dyI n (gD ds k))))) (OpVs.cons (i := 2) (OpV.tmp 46 (.bool ((gD ds k).d))) (OpVs.nil)))) rfl)) (by kernel_rfl) ?_
        refine wpc (step_plain rfl (acts_alloc' (d := 11) (h := 11) (cap := 1) (s := 3) (cells := [(.val (.int .i64 0) : A), .val (.int .i64 0), .val (.bool false)]) (ltN rfl) qC5_zi_32 rfl rfl (by decide))) (by kernel_rfl) ?_
        refine wpc (step_plain rfl (acts_store (t := 11) (h := 11) (off := 0) (o := ⟨32, 3, true, [(.val (.int .i64 0) : A), .val (.int .i64 0), .val (.bool false)]⟩) (b := .agg ([(.int .i64 ((gD ds k).x + (dxI n (gD ds k))) : Value), .int .i64 ((gD ds k).y + (dyI n (gD ds k))), .bool ((gD ds k).d)].map A.val)) (cells := [(.val (.int .i64 ((gD ds k).x + (dxI n (gD ds k)))) : A), .val (.int .i64 ((gD ds k).y + (dyI n (gD ds k)))), .val (.bool ((gD ds k).d))]) qC5_ti_32 (OpX.tmp 47 (V.av [(.int .i64 ((gD ds k).x + (dxI n (gD ds k))) : Value), .int .i64 ((gD ds k).y + (dyI n (gD ds k))), .bool ((gD ds k).d)])) rfl (by decide) (by intro y hy; simp [B.cs] at hy; rcases hy with rfl | rfl | rfl <;> rfl) (Nat.le_of_ble_eq_true rfl) rfl)) (by kernel_rfl) ?_
        refine wpl_nil ?_
        refine wp_seq' ?_
        refine wp_seq' ?_
        refine wp_region_t ?_
        refine wpc (step_plain rfl (acts_move (d := 49) (ltN rfl) (OpX.tmp 0 (V.v (.int .i64 n))))) (by kernel_rfl) ?_
        refine wpc (step_plain rfl (acts_load_owns (d := 50) (t := 11) (h := 11) (off := 0) (o := ⟨32, 3, true, [(.val (.int .i64 ((gD ds k).x + (dxI n (gD ds k)))) : A), .val (.int .i64 ((gD ds k).y + (dyI n (gD ds k)))), .val (.bool ((gD ds k).d))]⟩)  (xs := [(.int .i64 ((gD ds k).x + (dxI n (gD ds k))) : Value), .int .i64 ((gD ds k).y + (dyI n (gD ds k))), .bool ((gD ds k).d)].map A.val) (ltN rfl) qC5_ti_32 rfl (by decide) rfl)) (by kernel_rfl) ?_
        refine wpc (step_plain rfl (acts_call2 (d := 51) (ltN rfl) (impl_moves_fn n (⟨((gD ds k).x + (dxI n (gD ds k))), ((gD ds k).y + (dyI n (gD ds k))), (gD ds k).d⟩ : Dom) (by first | omega | assumption | (have q1 := okD_bd (hok k (by omega)); have q2 := dxy_bd n (gD ds k); have q3 := byI_bd n (gD ds k); (try unfold oth); (try dsimp only); omega) | (have q := groT_len n ds k; omega) | (have := posD_bd (p := eqs (oth n (gD ds k))) ds; omega) | (have := diaRows_len n; omega)) (by first | omega | assumption | (have q1 := okD_bd (hok k (by omega)); have q2 := dxy_bd n (gD ds k); have q3 := byI_bd n (gD ds k); (try unfold oth); (try dsimp only); omega) | (have q := groT_len n ds k; omega) | (have := posD_bd (p := eqs (oth n (gD ds k))) ds; omega) | (have := diaRows_len n; omega)) (by first | omega | assumption | (have q1 := okD_bd (hok k (by omega)); have q2 := dxy_bd n (gD ds k); have q3 := byI_bd n (gD ds k); (try unfold oth); (try dsimp only); omega) | (have q := groT_len n ds k; omega) | (have := posD_bd (p := eqs (oth n (gD ds k))) ds; omega) | (have := diaRows_len n; omega)) (by first | omega | assumption | (have q1 := okD_bd (hok k (by omega)); have q2 := dxy_bd n (gD ds k); have q3 := byI_bd n (gD ds k); (try unfold oth); (try dsimp only); omega) | (have q := groT_len n ds k; omega) | (have := posD_bd (p := eqs (oth n (gD ds k))) ds; omega) | (have := diaRows_len n; omega))) (ArgVs.cons (ArgV.v (OpV.tmp 49 (.int .i64 n))) (ArgVs.cons (ArgV.va (vs := [(.int .i64 ((gD ds k).x + (dxI n (gD ds k))) : Value), .int .i64 ((gD ds k).y + (dyI n (gD ds k))), .bool ((gD ds k).d)]) (OpV.agg 50 [(.int .i64 ((gD ds k).x + (dxI n (gD ds k))) : Value), .int .i64 ((gD ds k).y + (dyI n (gD ds k))), .bool ((gD ds k).d)])) (ArgVs.nil))) (ResV.val _) (ResV.val _))) (by kernel_rfl) ?_
        refine wpc (step_plain rfl (acts_move (d := 48) (ltN rfl) (OpX.tmp 51 (V.tup [.a (.val (.int .i64 (dxI n (⟨((gD ds k).x + (dxI n (gD ds k))), ((gD ds k).y + (dyI n (gD ds k))), (gD ds k).d⟩ : Dom)))), .a (.val (.int .i64 (dyI n (⟨((gD ds k).x + (dxI n (gD ds k))), ((gD ds k).y + (dyI n (gD ds k))), (gD ds k).d⟩ : Dom))))])))) (by kernel_rfl) ?_
        refine wpc (step_plain rfl (acts_extract (d := 52) (t := 48) (ix := 0) (xs := [.a (.val (.int .i64 (dxI n (⟨((gD ds k).x + (dxI n (gD ds k))), ((gD ds k).y + (dyI n (gD ds k))), (gD ds k).d⟩ : Dom)))), .a (.val (.int .i64 (dyI n (⟨((gD ds k).x + (dxI n (gD ds k))), ((gD ds k).y + (dyI n (gD ds k))), (gD ds k).d⟩ : Dom))))]) (X := .a (.val (.int .i64 (dxI n (⟨((gD ds k).x + (dxI n (gD ds k))), ((gD ds k).y + (dyI n (gD ds k))), (gD ds k).d⟩ : Dom))))) (ltN rfl) rfl)) (by kernel_rfl) ?_
        refine wpc (step_plain rfl (acts_extract (d := 53) (t := 48) (ix := 1) (xs := [.a (.val (.int .i64 (dxI n (⟨((gD ds k).x + (dxI n (gD ds k))), ((gD ds k).y + (dyI n (gD ds k))), (gD ds k).d⟩ : Dom)))), .a (.val (.int .i64 (dyI n (⟨((gD ds k).x + (dxI n (gD ds k))), ((gD ds k).y + (dyI n (gD ds k))), (gD ds k).d⟩ : Dom))))]) (X := .a (.val (.int .i64 (dyI n (⟨((gD ds k).x + (dxI n (gD ds k))), ((gD ds k).y + (dyI n (gD ds k))), (gD ds k).d⟩ : Dom))))) (ltN rfl) rfl)) (by kernel_rfl) ?_
        refine wpc (step_plain rfl (acts_assign (d := 12) (ltN rfl) (OpX.tmp 52 (V.v (.int .i64 (dxI n (⟨((gD ds k).x + (dxI n (gD ds k))), ((gD ds k).y + (dyI n (gD ds k))), (gD ds k).d⟩ : Dom))))))) (by kernel_rfl) ?_
        refine wpc (step_plain rfl (acts_assign (d := 13) (ltN rfl) (OpX.tmp 53 (V.v (.int .i64 (dyI n (⟨((gD ds k).x + (dxI n (gD ds k))), ((gD ds k).y + (dyI n (gD ds k))), (gD ds k).d⟩ : Dom))))))) (by kernel_rfl) ?_
        refine wpl_nil ?_
        refine wp_seq' ?_
        rcases Bool.eq_false_or_eq_true ((hasE ds (⟨((gD ds k).x + (dxI n (gD ds k))), ((gD ds k).y + (dyI n (gD ds k))), (gD ds k).d⟩ : Dom))) with c7 | c7
        · skip
          rcases Bool.eq_false_or_eq_true (decide ((dxI n (⟨((gD ds k).x + (dxI n (gD ds k))), ((gD ds k).y + (dyI n (gD ds k))), (gD ds k).d⟩ : Dom)) = (-(dxI n (gD ds k))))) with c8 | c8
          · skip
            have c8P := of_decide_eq_true c8
            refine wp_region_t ?_
            refine wpc (step_plain rfl (acts_move (d := 54) (ltN rfl) (OpX.tmp 1 (V.b (.a (.slv ds.length 3 (dsl ds))))))) (by kernel_rfl) ?_
            refine wpc (step_plain rfl (acts_load_owns (d := 55) (t := 11) (h := 11) (off := 0) (o := ⟨32, 3, true, [(.val (.int .i64 ((gD ds k).x + (dxI n (gD ds k)))) : A), .val (.int .i64 ((gD ds k).y + (dyI n (gD ds k)))), .val (.bool ((gD ds k).d))]⟩)  (xs := [(.int .i64 ((gD ds k).x + (dxI n (gD ds k))) : Value), .int .i64 ((gD ds k).y + (dyI n (gD ds k))), .bool ((gD ds k).d)].map A.val) (ltN rfl) qC5_ti_32 rfl (by decide) rfl)) (by kernel_rfl) ?_
            refine wpc (step_plain rfl (acts_call1 (d := 56) (ltN rfl) (impl_hasDomino_fn ds (⟨((gD ds k).x + (dxI n (gD ds k))), ((gD ds k).y + (dyI n (gD ds k))), (gD ds k).d⟩ : Dom) (by first | omega | assumption | (have q1 := okD_bd (hok k (by omega)); have q2 := dxy_bd n (gD ds k); have q3 := byI_bd n (gD ds k); (try unfold oth); (try dsimp only); omega) | (have q := groT_len n ds k; omega) | (have := posD_bd (p := eqs (oth n (gD ds k))) ds; omega) | (have := diaRows_len n; omega))) (ArgVs.cons (ArgV.slv 54 ds.length 3 (dsl ds)) (ArgVs.cons (ArgV.va (vs := [(.int .i64 ((gD ds k).x + (dxI n (gD ds k))) : Value), .int .i64 ((gD ds k).y + (dyI n (gD ds k))), .bool ((gD ds k).d)]) (OpV.agg 55 [(.int .i64 ((gD ds k).x + (dxI n (gD ds k))) : Value), .int .i64 ((gD ds k).y + (dyI n (gD ds k))), .bool ((gD ds k).d)])) (ArgVs.nil))) ((resval (congrArg Value.bool c7))))) (by kernel_rfl) ?_
            refine wpc (step_plain rfl (acts_move (d := 57) (ltN rfl) (OpX.tmp 56 (V.v (.bool true))))) (by kernel_rfl) ?_
            refine wpc (step_on (dj := 57) rfl rfl (acts_move (d := 58) (ltN rfl) (OpX.tmp 12 (V.v (.int .i64 (dxI n (⟨((gD ds k).x + (dxI n (gD ds k))), ((gD ds k).y + (dyI n (gD ds k))), (gD ds k).d⟩ : Dom))))))) (by kernel_rfl) ?_
            refine wpc (step_on (dj := 57) rfl rfl (acts_move (d := 59) (ltN rfl) (OpX.tmp 9 (V.v (.int .i64 (dxI n (gD ds k))))))) (by kernel_rfl) ?_
            refine wpc (step_on (dj := 57) rfl rfl (acts_un (d := 60) (ltN rfl) (OpV.tmp 59 (.int .i64 (dxI n (gD ds k)))) (r_neg (c := (-(dxI n (gD ds k)))) (w64 (by first | omega | assumption | (have q1 := okD_bd (hok k (by omega)); have q2 := dxy_bd n (gD ds k); have q3 := byI_bd n (gD ds k); (try unfold oth); (try dsimp only); omega) | (have q := groT_len n ds k; omega) | (have := posD_bd (p := eqs (oth n (gD ds k))) ds; omega) | (have := diaRows_len n; omega)) (by first | omega | assumption | (have q1 := okD_bd (hok k (by omega)); have q2 := dxy_bd n (gD ds k); have q3 := byI_bd n (gD ds k); (try unfold oth); (try dsimp only); omega) | (have q := groT_len n ds k; omega) | (have := posD_bd (p := eqs (oth n (gD ds k))) ds; omega) | (have := diaRows_len n; omega)))))) (by kernel_rfl) ?_
            refine wpc (step_on (dj := 57) rfl rfl (acts_bin (d := 61) (ltN rfl) (OpV.tmp 58 (.int .i64 (dxI n (⟨((gD ds k).x + (dxI n (gD ds k))), ((gD ds k).y + (dyI n (gD ds k))), (gD ds k).d⟩ : Dom)))) (OpV.tmp 60 (.int .i64 (-(dxI n (gD ds k))))) (r_eql (c := true) c8))) (by kernel_rfl) ?_
            refine wpc (step_plain rfl (acts_pick_t (d := 62) (ltN rfl) (OpV.tmp 57 (.bool true)) (OpX.tmp 61 (V.v (.bool true))))) (by kernel_rfl) ?_
            refine wpc (step_plain rfl (acts_move (d := 63) (ltN rfl) (OpX.tmp 62 (V.v (.bool true))))) (by kernel_rfl) ?_
            refine wpc (step_on (dj := 63) rfl rfl (acts_move (d := 64) (ltN rfl) (OpX.tmp 13 (V.v (.int .i64 (dyI n (⟨((gD ds k).x + (dxI n (gD ds k))), ((gD ds k).y + (dyI n (gD ds k))), (gD ds k).d⟩ : Dom))))))) (by kernel_rfl) ?_
            refine wpc (step_on (dj := 63) rfl rfl (acts_move (d := 65) (ltN rfl) (OpX.tmp 10 (V.v (.int .i64 (dyI n (gD ds k))))))) (by kernel_rfl) ?_
            refine wpc (step_on (dj := 63) rfl rfl (acts_un (d := 66) (ltN rfl) (OpV.tmp 65 (.int .i64 (dyI n (gD ds k)))) (r_neg (c := (-(dyI n (gD ds k)))) (w64 (by first | omega | assumption | (have q1 := okD_bd (hok k (by omega)); have q2 := dxy_bd n (gD ds k); have q3 := byI_bd n (gD ds k); (try unfold oth); (try dsimp only); omega) | (have q := groT_len n ds k; omega) | (have := posD_bd (p := eqs (oth n (gD ds k))) ds; omega) | (have := diaRows_len n; omega)) (by first | omega | assumption | (have q1 := okD_bd (hok k (by omega)); have q2 := dxy_bd n (gD ds k); have q3 := byI_bd n (gD ds k); (try unfold oth); (try dsimp only); omega) | (have q := groT_len n ds k; omega) | (have := posD_bd (p := eqs (oth n (gD ds k))) ds; omega) | (have := diaRows_len n; omega)))))) (by kernel_rfl) ?_
            refine wpc (step_on (dj := 63) rfl rfl (acts_bin (d := 67) (ltN rfl) (OpV.tmp 64 (.int .i64 (dyI n (⟨((gD ds k).x + (dxI n (gD ds k))), ((gD ds k).y + (dyI n (gD ds k))), (gD ds k).d⟩ : Dom)))) (OpV.tmp 66 (.int .i64 (-(dyI n (gD ds k))))) (r_eql (c := (decide ((dyI n (⟨((gD ds k).x + (dxI n (gD ds k))), ((gD ds k).y + (dyI n (gD ds k))), (gD ds k).d⟩ : Dom)) = (-(dyI n (gD ds k)))))) rfl))) (by kernel_rfl) ?_
            refine wpc (step_plain rfl (acts_pick_t (d := 68) (ltN rfl) (OpV.tmp 63 (.bool true)) (OpX.tmp 67 (V.v (.bool (decide ((dyI n (⟨((gD ds k).x + (dxI n (gD ds k))), ((gD ds k).y + (dyI n (gD ds k))), (gD ds k).d⟩ : Dom)) = (-(dyI n (gD ds k)))))))))) (by kernel_rfl) ?_
            refine wpl_nil ?_
            refine wp_if (t := 68) (decide ((dyI n (⟨((gD ds k).x + (dxI n (gD ds k))), ((gD ds k).y + (dyI n (gD ds k))), (gD ds k).d⟩ : Dom)) = (-(dyI n (gD ds k))))) (by kernel_rfl) (fun c9 => ?_) (fun c9 => ?_)
            · skip
              have c9P := of_decide_eq_true c9
              refine wp_exit' ?_
              refine wp_region_t ?_
              refine wpc (step_plain rfl (acts_bin (d := 81) (ltN rfl) (OpV.tmp 27 (.int .i64 ((k : Nat) : Int))) (OpV.const (.int .i64 1)) (r_add (c := (((k : Nat) : Int) + 1)) (w64 (by first | omega | assumption | (have q1 := okD_bd (hok k (by omega)); have q2 := dxy_bd n (gD ds k); have q3 := byI_bd n (gD ds k); (try unfold oth); (try dsimp only); omega) | (have q := groT_len n ds k; omega) | (have := posD_bd (p := eqs (oth n (gD ds k))) ds; omega) | (have := diaRows_len n; omega)) (by first | omega | assumption | (have q1 := okD_bd (hok k (by omega)); have q2 := dxy_bd n (gD ds k); have q3 := byI_bd n (gD ds k); (try unfold oth); (try dsimp only); omega) | (have q := groT_len n ds k; omega) | (have := posD_bd (p := eqs (oth n (gD ds k))) ds; omega) | (have := diaRows_len n; omega)))))) (by kernel_rfl) ?_
              refine wpc (step_plain rfl (acts_move (d := 27) (ltN rfl) (OpX.tmp 81 (V.v (.int .i64 (((k : Nat) : Int) + 1)))))) (by kernel_rfl) ?_
              refine wpl_nil ?_
              exact loop_back ((k + 1)) (by show _ ≤ _; omega) (by show ds.length - (k + 1) < ds.length - k; omega) (weak_of id [8, 11, 15, 19, 21, 26, 34, 51, 56, 79, 80, 83] (by kernel_rfl) (wk_s (v' := V.v (.int .i64 n)) (by kernel_rfl) rfl rfl (wk_s (v' := V.b (.a (.slv ds.length 3 (dsl ds)))) (by kernel_rfl) rfl rfl (wk_s (v' := V.v (.slice none 0 0)) (by kernel_rfl) rfl rfl (wk_s (v' := V.v (.bool false)) (by kernel_rfl) rfl rfl (wk_s (v' := V.b (.a (.sl 24 0 ((groT n ds k).length)))) (by kernel_rfl) (vsl (by first | rfl | (simp; done) | (simp; omega) | omega | (exact congrArg List.length (by first | rfl | exact groT_yes (by omega) (by unfold crs oth; assumption) | exact groT_no (by omega) (by unfold crs oth; assumption) | exact absurd (dx_oth n (gD ds k)) (by assumption) | exact absurd (dy_oth n (gD ds k)) (by assumption) | omega))) rfl) rfl (wk_s (v' := V.b (.a (.slv ds.length 3 (dsl ds)))) (by kernel_rfl) rfl rfl (wk_s (v' := V.v (.int .i64 ((ds.length : Nat) : Int))) (by kernel_rfl) rfl rfl (wk_s (v' := V.v (.int .i64 (((k : Nat) : Int) + 1))) (by kernel_rfl) (vint (by first | rfl | exact groT_yes (by omega) (by unfold crs oth; assumption) | exact groT_no (by omega) (by unfold crs oth; assumption) | exact absurd (dx_oth n (gD ds k)) (by assumption) | exact absurd (dy_oth n (gD ds k)) (by assumption) | omega)) rfl (wk_o (o' := ⟨32, 3, true, pl (dsl (groT n ds k))⟩) (by kernel_rfl) (renob_eq (fun h => h) (congrArg dsl (by first | rfl | exact groT_yes (by omega) (by unfold crs oth; assumption) | exact groT_no (by omega) (by unfold crs oth; assumption) | exact absurd (dx_oth n (gD ds k)) (by assumption) | exact absurd (dy_oth n (gD ds k)) (by assumption) | omega))) rfl (wk_f rfl (wk_f rfl (wk_f rfl (wk_f rfl (wk_f rfl (wk_f rfl (wk_f rfl (wk_f rfl (wk_f rfl (wk_f rfl (wk_f rfl (wk_f rfl (wk_nil)))))))))))))))))))))))
            · skip
              have c9P := of_decide_eq_false c9
              refine wp_skip' ?_
              refine wp_region_t ?_
              refine wpc (step_plain rfl (acts_move (d := 69) (ltN rfl) (OpX.tmp 6 (V.b (.a (.sl 24 0 ((groT n ds k).length))))))) (by kernel_rfl) ?_
              refine wpc (step_plain rfl (acts_field (d := 70) (t := 11) (h := 11) (off := 0) (off' := 0) (ltN rfl) qC5_fo_32_0 rfl)) (by kernel_rfl) ?_
              refine wpc (step_plain rfl (acts_load_own (d := 71) (t := 70) (h := 11) (off := 0) (o := ⟨32, 3, true, [(.val (.int .i64 ((gD ds k).x + (dxI n (gD ds k)))) : A), .val (.int .i64 ((gD ds k).y + (dyI n (gD ds k)))), .val (.bool ((gD ds k).d))]⟩)  (x := .val (.int .i64 ((gD ds k).x + (dxI n (gD ds k))))) (ltN rfl) qC5_ti_3 rfl)) (by kernel_rfl) ?_
              refine wpc (step_plain rfl (acts_bin (d := 72) (ltN rfl) (OpV.tmp 71 (.int .i64 ((gD ds k).x + (dxI n (gD ds k))))) (OpV.const (.int .i64 1)) (r_add (c := (((gD ds k).x + (dxI n (gD ds k))) + 1)) (w64 (by first | omega | assumption | (have q1 := okD_bd (hok k (by omega)); have q2 := dxy_bd n (gD ds k); have q3 := byI_bd n (gD ds k); (try unfold oth); (try dsimp only); omega) | (have q := groT_len n ds k; omega) | (have := posD_bd (p := eqs (oth n (gD ds k))) ds; omega) | (have := diaRows_len n; omega)) (by first | omega | assumption | (have q1 := okD_bd (hok k (by omega)); have q2 := dxy_bd n (gD ds k); have q3 := byI_bd n (gD ds k); (try unfold oth); (try dsimp only); omega) | (have q := groT_len n ds k; omega) | (have := posD_bd (p := eqs (oth n (gD ds k))) ds; omega) | (have := diaRows_len n; omega)))))) (by kernel_rfl) ?_
              refine wpc (step_plain rfl (acts_field (d := 73) (t := 11) (h := 11) (off := 0) (off' := 1) (ltN rfl) qC5_fo_32_1 rfl)) (by kernel_rfl) ?_
              refine wpc (step_plain rfl (acts_load_own (d := 74) (t := 73) (h := 11) (off := 1) (o := ⟨32, 3, true, [(.val (.int .i64 ((gD ds k).x + (dxI n (gD ds k)))) : A), .val (.int .i64 ((gD ds k).y + (dyI n (gD ds k)))), .val (.bool ((gD ds k).d))]⟩)  (x := .val (.int .i64 ((gD ds k).y + (dyI n (gD ds k))))) (ltN rfl) qC5_ti_3 rfl)) (by kernel_rfl) ?_
              refine wpc (step_plain rfl (acts_bin (d := 75) (ltN rfl) (OpV.tmp 74 (.int .i64 ((gD ds k).y + (dyI n (gD ds k))))) (OpV.const (.int .i64 1)) (r_add (c := (((gD ds k).y + (dyI n (gD ds k))) + 1)) (w64 (by first | omega | assumption | (have q1 := okD_bd (hok k (by omega)); have q2 := dxy_bd n (gD ds k); have q3 := byI_bd n (gD ds k); (try unfold oth); (try dsimp only); omega) | (have q := groT_len n ds k; omega) | (have := posD_bd (p := eqs (oth n (gD ds k))) ds; omega) | (have := diaRows_len n; omega)) (by first | omega | assumption | (have q1 := okD_bd (hok k (by omega)); have q2 := dxy_bd n (gD ds k); have q3 := byI_bd n (gD ds k); (try unfold oth); (try dsimp only); omega) | (have q := groT_len n ds k; omega) | (have := posD_bd (p := eqs (oth n (gD ds k))) ds; omega) | (have := diaRows_len n; omega)))))) (by kernel_rfl) ?_
              refine wpc (step_plain rfl (acts_field (d := 76) (t := 8) (h := 8) (off := 0) (off' := 2) (ltN rfl) qC5_fo_32_2 rfl)) (by kernel_rfl) ?_
              refine wpc (step_plain rfl (acts_load_own (d := 77) (t := 76) (h := 8) (off := 2) (o := ⟨32, 3, true, [(.val (.int .i64 ((gD ds k).x)) : A), .val (.int .i64 ((gD ds k).y)), .val (.bool ((gD ds k).d))]⟩)  (x := .val (.bool ((gD ds k).d))) (ltN rfl) qC5_ti_4 rfl)) (by kernel_rfl) ?_
              refine wpc (step_plain rfl (acts_build (d := 78) (t := 32) (cells := [(.int .i64 (((gD ds k).x + (dxI n (gD ds k))) + 1) : Value), .int .i64 (((gD ds k).y + (dyI n (gD ds k))) + 1), .bool ((gD ds k).d)]) (ltN rfl) (OpVs.cons (i := 0) (OpV.tmp 72 (.int .i64 (((gD ds k).x + (dxI n (gD ds k))) + 1))) (OpVs.cons (i := 1) (OpV.tmp 75 (.int .i64 (((gD ds k).y + (dyI n (gD ds k))) + 1))) (OpVs.cons (i := 2) (OpV.tmp 77 (.bool ((gD ds k).d))) (OpVs.nil)))) rfl)) (by kernel_rfl) ?_
              refine wpc (step_plain rfl (acts_buildSlice' (d := 79) (h := 79) (n := 1) (s := 3) (xs := dsl ([(⟨(((gD ds k).x + (dxI n (gD ds k))) + 1), (((gD ds k).y + (dyI n (gD ds k))) + 1), (gD ds k).d⟩ : Dom)] : List Dom)) (ltN rfl) qC5_un_42 qC5_zi_32 (OpVs.cons (i := 0) (OpV.agg 78 [(.int .i64 (((gD ds k).x + (dxI n (gD ds k))) + 1) : Value), .int .i64 (((gD ds k).y + (dyI n (gD ds k))) + 1), .bool ((gD ds k).d)]) (OpVs.nil)) (by decide) (by decide) (by kernel_rfl) rfl)) (by kernel_rfl) ?_
              refine wpc (step_plain rfl (acts_app (d := 80) (x := 69) (h := 24) (h2 := 80) (n := ((groT n ds k).length)) (m := 1) (nm := (((groT n ds k) ++ [(⟨(((gD ds k).x + (dxI n (gD ds k))) + 1), (((gD ds k).y + (dyI n (gD ds k))) + 1), (gD ds k).d⟩ : Dom)]).length)) (X := .sl 79 0 1) (xs := dsl (groT n ds k)) (ys := dsl [(⟨(((gD ds k).x + (dxI n (gD ds k))) + 1), (((gD ds k).y + (dyI n (gD ds k))) + 1), (gD ds k).d⟩ : Dom)]) (zs := dsl ((groT n ds k) ++ [(⟨(((gD ds k).x + (dxI n (gD ds k))) + 1), (((gD ds k).y + (dyI n (gD ds k))) + 1), (gD ds k).d⟩ : Dom)])) (ltN rfl) qC5_un_42 qC5_zi_32 rfl (by decide) (by decide) (by first | exact dsl_len _ | (simp [isl_len, bsl_len, dsl_len, csl_len]; done) | (simp [isl_len, bsl_len, dsl_len, csl_len]; omega)) (OpX.tmp 79 (V.b (.a (.sl 79 0 1)))) (src_own (h := 79) (T := 32) (s := 3) (ex := true) (n := 1) (by first | exact dsl_len _ | (simp [isl_len, bsl_len, dsl_len, csl_len]; done) | (simp [isl_len, bsl_len, dsl_len, csl_len]; omega))) (dsl_one' _) (by first | omega | (simp; omega) | (simp at *; omega)) (by first | exact (dsl_append _ _).symm | rfl | simp [dsl_append]) (by first | rfl | (simp; done) | (simp; omega) | omega))) (by kernel_rfl) ?_
              refine wpc (step_plain rfl (acts_assign (d := 6) (ltN rfl) (OpX.tmp 80 (V.b (.a (.sl 80 0 (((groT n ds k) ++ [(⟨(((gD ds k).x + (dxI n (gD ds k))) + 1), (((gD ds k).y + (dyI n (gD ds k))) + 1), (gD ds k).d⟩ : Dom)]).length))))))) (by kernel_rfl) ?_
              refine wpl_nil ?_
              refine wp_region_t ?_
              refine wpc (step_plain rfl (acts_bin (d := 81) (ltN rfl) (OpV.tmp 27 (.int .i64 ((k : Nat) : Int))) (OpV.const (.int .i64 1)) (r_add (c := (((k : Nat) : Int) + 1)) (w64 (by first | omega | assumption | (have q1 := okD_bd (hok k (by omega)); have q2 := dxy_bd n (gD ds k); have q3 := byI_bd n (gD ds k); (try unfold oth); (try dsimp only); omega) | (have q := groT_len n ds k; omega) | (have := posD_bd (p := eqs (oth n (gD ds k))) ds; omega) | (have := diaRows_len n; omega)) (by first | omega | assumption | (have q1 := okD_bd (hok k (by omega)); have q2 := dxy_bd n (gD ds k); have q3 := byI_bd n (gD ds k); (try unfold oth); (try dsimp only); omega) | (have q := groT_len n ds k; omega) | (have := posD_bd (p := eqs (oth n (gD ds k))) ds; omega) | (have := diaRows_len n; omega)))))) (by kernel_rfl) ?_
              refine wpc (step_plain rfl (acts_move (d := 27) (ltN rfl) (OpX.tmp 81 (V.v (.int .i64 (((k : Nat) : Int) + 1)))))) (by kernel_rfl) ?_
              refine wpl_nil ?_
              exact loop_back ((k + 1)) (by show _ ≤ _; omega) (by show ds.length - (k + 1) < ds.length - k; omega) (weak_of (subst1 [(24, 80)]) [8, 11, 15, 19, 21, 26, 34, 51, 56, 79, 80, 83] (by kernel_rfl) (wk_s (v' := V.v (.int .i64 n)) (by kernel_rfl) rfl rfl (wk_s (v' := V.b (.a (.slv ds.length 3 (dsl ds)))) (by kernel_rfl) rfl rfl (wk_s (v' := V.v (.slice none 0 0)) (by kernel_rfl) rfl rfl (wk_s (v' := V.v (.bool false)) (by kernel_rfl) rfl rfl (wk_s (v' := V.b (.a (.sl 80 0 (((groT n ds k) ++ [(⟨(((gD ds k).x + (dxI n (gD ds k))) + 1), (((gD ds k).y + (dyI n (gD ds k))) + 1), (gD ds k).d⟩ : Dom)]).length)))) (by kernel_rfl) (vsl (by first | rfl | (simp; done) | (simp; omega) | omega | (exact congrArg List.length (by first | rfl | exact groT_yes (by omega) (by unfold crs oth; assumption) | exact groT_no (by omega) (by unfold crs oth; assumption) | exact absurd (dx_oth n (gD ds k)) (by assumption) | exact absurd (dy_oth n (gD ds k)) (by assumption) | omega))) rfl) rfl (wk_s (v' := V.b (.a (.slv ds.length 3 (dsl ds)))) (by kernel_rfl) rfl rfl (wk_s (v' := V.v (.int .i64 ((ds.length : Nat) : Int))) (by kernel_rfl) rfl rfl (wk_s (v' := V.v (.int .i64 (((k : Nat) : Int) + 1))) (by kernel_rfl) (vint (by first | rfl | exact groT_yes (by omega) (by unfold crs oth; assumption) | exact groT_no (by omega) (by unfold crs oth; assumption) | exact absurd (dx_oth n (gD ds k)) (by assumption) | exact absurd (dy_oth n (gD ds k)) (by assumption) | omega)) rfl (wk_o (o' := ⟨32, 3, true, pl (dsl ((groT n ds k) ++ [(⟨(((gD ds k).x + (dxI n (gD ds k))) + 1), (((gD ds k).y + (dyI n (gD ds k))) + 1), (gD ds k).d⟩ : Dom)]))⟩) (by kernel_rfl) (renob_eq (fun h => h) (congrArg dsl (by first | rfl | exact groT_yes (by omega) (by unfold crs oth; assumption) | exact groT_no (by omega) (by unfold crs oth; assumption) | exact absurd (dx_oth n (gD ds k)) (by assumption) | exact absurd (dy_oth n (gD ds k)) (by assumption) | omega))) rfl (wk_f rfl (wk_f rfl (wk_f rfl (wk_f rfl (wk_f rfl (wk_f rfl (wk_f rfl (wk_f rfl (wk_f rfl (wk_f rfl (wk_f rfl (wk_f rfl (wk_nil)))))))))))))))))))))))
          · skip
            have c8P := of_decide_eq_false c8
            refine wp_region_t ?_
            refine wpc (step_plain rfl (acts_move (d := 54) (ltN rfl) (OpX.tmp 1 (V.b (.a (.slv ds.length 3 (dsl ds))))))) (by kernel_rfl) ?_
            refine wpc (step_plain rfl (acts_load_owns (d := 55) (t := 11) (h := 11) (off := 0) (o := ⟨32, 3, true, [(.val (.int .i64 ((gD ds k).x + (dxI n (gD ds k)))) : A), .val (.int .i64 ((gD ds k).y + (dyI n (gD ds k)))), .val (.bool ((gD ds k).d))]⟩)  (xs := [(.int .i64 ((gD ds k).x + (dxI n (gD ds k))) : Value), .int .i64 ((gD ds k).y + (dyI n (gD ds k))), .bool ((gD ds k).d)].map A.val) (ltN rfl) qC5_ti_32 rfl (by decide) rfl)) (by kernel_rfl) ?_
            refine wpc (step_plain rfl (acts_call1 (d := 56) (ltN rfl) (impl_hasDomino_fn ds (⟨((gD ds k).x + (dxI n (gD ds k))), ((gD ds k).y + (dyI n (gD ds k))), (gD ds k).d⟩ : Dom) (by first | omega | assumption | (have q1 := okD_bd (hok k (by omega)); have q2 := dxy_bd n (gD ds k); have q3 := byI_bd n (gD ds k); (try unfold oth); (try dsimp only); omega) | (have q := groT_len n ds k; omega) | (have := posD_bd (p := eqs (oth n (gD ds k))) ds; omega) | (have := diaRows_len n; omega))) (ArgVs.cons (ArgV.slv 54 ds.length 3 (dsl ds)) (ArgVs.cons (ArgV.va (vs := [(.int .i64 ((gD ds k).x + (dxI n (gD ds k))) : Value), .int .i64 ((gD ds k).y + (dyI n (gD ds k))), .bool ((gD ds k).d)]) (OpV.agg 55 [(.int .i64 ((gD ds k).x + (dxI n (gD ds k))) : Value), .int .i64 ((gD ds k).y + (dyI n (gD ds k))), .bool ((gD ds k).d)])) (ArgVs.nil))) ((resval (congrArg Value.bool c7))))) (by kernel_rfl) ?_
            refine wpc (step_plain rfl (acts_move (d := 57) (ltN rfl) (OpX.tmp 56 (V.v (.bool true))))) (by kernel_rfl) ?_
            refine wpc (step_on (dj := 57) rfl rfl (acts_move (d := 58) (ltN rfl) (OpX.tmp 12 (V.v (.int .i64 (dxI n (⟨((gD ds k).x + (dxI n (gD ds k))), ((gD ds k).y + (dyI n (gD ds k))), (gD ds k).d⟩ : Dom))))))) (by kernel_rfl) ?_
            refine wpc (step_on (dj := 57) rfl rfl (acts_move (d := 59) (ltN rfl) (OpX.tmp 9 (V.v (.int .i64 (dxI n (gD ds k))))))) (by kernel_rfl) ?_
            refine wpc (step_on (dj := 57) rfl rfl (acts_un (d := 60) (ltN rfl) (OpV.tmp 59 (.int .i64 (dxI n (gD ds k)))) (r_neg (c := (-(dxI n (gD ds k)))) (w64 (by first | omega | assumption | (have q1 := okD_bd (hok k (by omega)); have q2 := dxy_bd n (gD ds k); have q3 := byI_bd n (gD ds k); (try unfold oth); (try dsimp only); omega) | (have q := groT_len n ds k; omega) | (have := posD_bd (p := eqs (oth n (gD ds k))) ds; omega) | (have := diaRows_len n; omega)) (by first | omega | assumption | (have q1 := okD_bd (hok k (by omega)); have q2 := dxy_bd n (gD ds k); have q3 := byI_bd n (gD ds k); (try unfold oth); (try dsimp only); omega) | (have q := groT_len n ds k; omega) | (have := posD_bd (p := eqs (oth n (gD ds k))) ds; omega) | (have := diaRows_len n; omega)))))) (by kernel_rfl) ?_
            refine wpc (step_on (dj := 57) rfl rfl (acts_bin (d := 61) (ltN rfl) (OpV.tmp 58 (.int .i64 (dxI n (⟨((gD ds k).x + (dxI n (gD ds k))), ((gD ds k).y + (dyI n (gD ds k))), (gD ds k).d⟩ : Dom)))) (OpV.tmp 60 (.int .i64 (-(dxI n (gD ds k))))) (r_eql (c := false) c8))) (by kernel_rfl) ?_
            refine wpc (step_plain rfl (acts_pick_t (d := 62) (ltN rfl) (OpV.tmp 57 (.bool true)) (OpX.tmp 61 (V.v (.bool false))))) (by kernel_rfl) ?_
            refine wpc (step_plain rfl (acts_move (d := 63) (ltN rfl) (OpX.tmp 62 (V.v (.bool false))))) (by kernel_rfl) ?_
            refine wpc (step_off (dj := 63) (b' := false) rfl rfl (by decide) rfl (ltN rfl)) (by kernel_rfl) ?_
            refine wpc (step_off (dj := 63) (b' := false) rfl rfl (by decide) rfl (ltN rfl)) (by kernel_rfl) ?_
            refine wpc (step_off (dj := 63) (b' := false) rfl rfl (by decide) rfl (ltN rfl)) (by kernel_rfl) ?_
            refine wpc (step_off (dj := 63) (b' := false) rfl rfl (by decide) rfl (ltN rfl)) (by kernel_rfl) ?_
            refine wpc (step_plain rfl (acts_pick_f (d := 68) (ltN rfl) (OpV.tmp 63 (.bool false)) (OpX.const (.bool false)))) (by kernel_rfl) ?_
            refine wpl_nil ?_
            refine wp_if_f (t := 68) (by kernel_rfl) ?_
            refine wp_skip' ?_
            refine wp_region_t ?_
            refine wpc (step_plain rfl (acts_move (d := 69) (ltN rfl) (OpX.tmp 6 (V.b (.a (.sl 24 0 ((groT n ds k).length))))))) (by kernel_rfl) ?_
            refine wpc (step_plain rfl (acts_field (d := 70) (t := 11) (h := 11) (off := 0) (off' := 0) (ltN rfl) qC5_fo_32_0 rfl)) (by kernel_rfl) ?_
            refine wpc (step_plain rfl (acts_load_own (d := 71) (t := 70) (h := 11) (off := 0) (o := ⟨32, 3, true, [(.val (.int .i64 ((gD ds k).x + (dxI n (gD ds k)))) : A), .val (.int .i64 ((gD ds k).y + (dyI n (gD ds k)))), .val (.bool ((gD ds k).d))]⟩)  (x := .val (.int .i64 ((gD ds k).x + (dxI n (gD ds k))))) (ltN rfl) qC5_ti_3 rfl)) (by kernel_rfl) ?_
            refine wpc (step_plain rfl (acts_bin (d := 72) (ltN rfl) (OpV.tmp 71 (.int .i64 ((gD ds k).x + (dxI n (gD ds k))))) (OpV.const (.int .i64 1)) (r_add (c := (((gD ds k).x + (dxI n (gD ds k))) + 1)) (w64 (by first | omega | assumption | (have q1 := okD_bd (hok k (by omega)); have q2 := dxy_bd n (gD ds k); have q3 := byI_bd n (gD ds k); (try unfold oth); (try dsimp only); omega) | (have q := groT_len n ds k; omega) | (have := posD_bd (p := eqs (oth n (gD ds k))) ds; omega) | (have := diaRows_len n; omega)) (by first | omega | assumption | (have q1 := okD_bd (hok k (by omega)); have q2 := dxy_bd n (gD ds k); have q3 := byI_bd n (gD ds k); (try unfold oth); (try dsimp only); omega) | (have q := groT_len n ds k; omega) | (have := posD_bd (p := eqs (oth n (gD ds k))) ds; omega) | (have := diaRows_len n; omega)))))) (by kernel_rfl) ?_
            refine wpc (step_plain rfl (acts_field (d := 73) (t := 11) (h := 11) (off := 0) (off' := 1) (ltN rfl) qC5_fo_32_1 rfl)) (by kernel_rfl) ?_
            refine wpc (step_plain rfl (acts_load_own (d := 74) (t := 73) (h := 11) (off := 1) (o := ⟨32, 3, true, [(.val (.int .i64 ((gD ds k).x + (dxI n (gD ds k)))) : A), .val (.int .i64 ((gD ds k).y + (dyI n (gD ds k)))), .val (.bool ((gD ds k).d))]⟩)  (x := .val (.int .i64 ((gD ds k).y + (dyI n (gD ds k))))) (ltN rfl) qC5_ti_3 rfl)) (by kernel_rfl) ?_
            refine wpc (step_plain rfl (acts_bin (d := 75) (ltN rfl) (OpV.tmp 74 (.int .i64 ((gD ds k).y + (dyI n (gD ds k))))) (OpV.const (.int .i64 1)) (r_add (c := (((gD ds k).y + (dyI n (gD ds k))) + 1)) (w64 (by first | omega | assumption | (have q1 := okD_bd (hok k (by omega)); have q2 := dxy_bd n (gD ds k); have q3 := byI_bd n (gD ds k); (try unfold oth); (try dsimp only); omega) | (have q := groT_len n ds k; omega) | (have := posD_bd (p := eqs (oth n (gD ds k))) ds; omega) | (have := diaRows_len n; omega)) (by first | omega | assumption | (have q1 := okD_bd (hok k (by omega)); have q2 := dxy_bd n (gD ds k); have q3 := byI_bd n (gD ds k); (try unfold oth); (try dsimp only); omega) | (have q := groT_len n ds k; omega) | (have := posD_bd (p := eqs (oth n (gD ds k))) ds; omega) | (have := diaRows_len n; omega)))))) (by kernel_rfl) ?_
            refine wpc (step_plain rfl (acts_field (d := 76) (t := 8) (h := 8) (off := 0) (off' := 2) (ltN rfl) qC5_fo_32_2 rfl)) (by kernel_rfl) ?_
            refine wpc (step_plain rfl (acts_load_own (d := 77) (t := 76) (h := 8) (off := 2) (o := ⟨32, 3, true, [(.val (.int .i64 ((gD ds k).x)) : A), .val (.int .i64 ((gD ds k).y)), .val (.bool ((gD ds k).d))]⟩)  (x := .val (.bool ((gD ds k).d))) (ltN rfl) qC5_ti_4 rfl)) (by kernel_rfl) ?_
            refine wpc (step_plain rfl (acts_build (d := 78) (t := 32) (cells := [(.int .i64 (((gD ds k).x + (dxI n (gD ds k))) + 1) : Value), .int .i64 (((gD ds k).y + (dyI n (gD ds k))) + 1), .bool ((gD ds k).d)]) (ltN rfl) (OpVs.cons (i := 0) (OpV.tmp 72 (.int .i64 (((gD ds k).x + (dxI n (gD ds k))) + 1))) (OpVs.cons (i := 1) (OpV.tmp 75 (.int .i64 (((gD ds k).y + (dyI n (gD ds k))) + 1))) (OpVs.cons (i := 2) (OpV.tmp 77 (.bool ((gD ds k).d))) (OpVs.nil)))) rfl)) (by kernel_rfl) ?_
            refine wpc (step_plain rfl (acts_buildSlice' (d := 79) (h := 79) (n := 1) (s := 3) (xs := dsl ([(⟨(((gD ds k).x + (dxI n (gD ds k))) + 1), (((gD ds k).y + (dyI n (gD ds k))) + 1), (gD ds k).d⟩ : Dom)] : List Dom)) (ltN rfl) qC5_un_42 qC5_zi_32 (OpVs.cons (i := 0) (OpV.agg 78 [(.int .i64 (((gD ds k).x + (dxI n (gD ds k))) + 1) : Value), .int .i64 (((gD ds k).y + (dyI n (gD ds k))) + 1), .bool ((gD ds k).d)]) (OpVs.nil)) (by decide) (by decide) (by kernel_rfl) rfl)) (by kernel_rfl) ?_
            refine wpc (step_plain rfl (acts_app (d := 80) (x := 69) (h := 24) (h2 := 80) (n := ((groT n ds k).length)) (m := 1) (nm := (((groT n ds k) ++ [(⟨(((gD ds k).x + (dxI n (gD ds k))) + 1), (((gD ds k).y + (dyI n (gD ds k))) + 1), (gD ds k).d⟩ : Dom)]).length)) (X := .sl 79 0 1) (xs := dsl (groT n ds k)) (ys := dsl [(⟨(((gD ds k).x + (dxI n (gD ds k))) + 1), (((gD ds k).y + (dyI n (gD ds k))) + 1), (gD ds k).d⟩ : Dom)]) (zs := dsl ((groT n ds k) ++ [(⟨(((gD ds k).x + (dxI n (gD ds k))) + 1), (((gD ds k).y + (dyI n (gD ds k))) + 1), (gD ds k).d⟩ : Dom)])) (ltN rfl) qC5_un_42 qC5_zi_32 rfl (by decide) (by decide) (by first | exact dsl_len _ | (simp [isl_len, bsl_len, dsl_len, csl_len]; done) | (simp [isl_len, bsl_len, dsl_len, csl_len]; omega)) (OpX.tmp 79 (V.b (.a (.sl 79 0 1)))) (src_own (h := 79) (T := 32) (s := 3) (ex := true) (n := 1) (by first | exact dsl_len _ | (simp [isl_len, bsl_len, dsl_len, csl_len]; done) | (simp [isl_len, bsl_len, dsl_len, csl_len]; omega))) (dsl_one' _) (by first | omega | (simp; omega) | (simp at *; omega)) (by first | exact (dsl_append _ _).symm | rfl | simp [dsl_append]) (by first | rfl | (simp; done) | (simp; omega) | omega))) (by kernel_rfl) ?_
            refine wpc (step_plain rfl (acts_assign (d := 6) (ltN rfl) (OpX.tmp 80 (V.b (.a (.sl 80 0 (((groT n ds k) ++ [(⟨(((gD ds k).x + (dxI n (gD ds k))) + 1), (((gD ds k).y + (dyI n (gD ds k))) + 1), (gD ds k).d⟩ : Dom)]).length))))))) (by kernel_rfl) ?_
            refine wpl_nil ?_
            refine wp_region_t ?_
            refine wpc (step_plain rfl (acts_bin (d := 81) (ltN rfl) (OpV.tmp 27 (.int .i64 ((k : Nat) : Int))) (OpV.const (.int .i64 1)) (r_add (c := (((k : Nat) : Int) + 1)) (w64 (by first | omega | assumption | (have q1 := okD_bd (hok k (by omega)); have q2 := dxy_bd n (gD ds k); have q3 := byI_bd n (gD ds k); (try unfold oth); (try dsimp only); omega) | (have q := groT_len n ds k; omega) | (have := posD_bd (p := eqs (oth n (gD ds k))) ds; omega) | (have := diaRows_len n; omega)) (by first | omega | assumption | (have q1 := okD_bd (hok k (by omega)); have q2 := dxy_bd n (gD ds k); have q3 := byI_bd n (gD ds k); (try unfold oth); (try dsimp only); omega) | (have q := groT_len n ds k; omega) | (have := posD_bd (p := eqs (oth n (gD ds k))) ds; omega) | (have := diaRows_len n; omega)))))) (by kernel_rfl) ?_
            refine wpc (step_plain rfl (acts_move (d := 27) (ltN rfl) (OpX.tmp 81 (V.v (.int .i64 (((k : Nat) : Int) + 1)))))) (by kernel_rfl) ?_
            refine wpl_nil ?_
            exact loop_back ((k + 1)) (by show _ ≤ _; omega) (by show ds.length - (k + 1) < ds.length - k; omega) (weak_of (subst1 [(24, 80)]) [8, 11, 15, 19, 21, 26, 34, 51, 56, 79, 80, 83] (by kernel_rfl) (wk_s (v' := V.v (.int .i64 n)) (by kernel_rfl) rfl rfl (wk_s (v' := V.b (.a (.slv ds.length 3 (dsl ds)))) (by kernel_rfl) rfl rfl (wk_s (v' := V.v (.slice none 0 0)) (by kernel_rfl) rfl rfl (wk_s (v' := V.v (.bool false)) (by kernel_rfl) rfl rfl (wk_s (v' := V.b (.a (.sl 80 0 (((groT n ds k) ++ [(⟨(((gD ds k).x + (dxI n (gD ds k))) + 1), (((gD ds k).y + (dyI n (gD ds k))) + 1), (gD ds k).d⟩ : Dom)]).length)))) (by kernel_rfl) (vsl (by first | rfl | (simp; done) | (simp; omega) | omega | (exact congrArg List.length (by first | rfl | exact groT_yes (by omega) (by unfold crs oth; assumption) | exact groT_no (by omega) (by unfold crs oth; assumption) | exact absurd (dx_oth n (gD ds k)) (by assumption) | exact absurd (dy_oth n (gD ds k)) (by assumption) | omega))) rfl) rfl (wk_s (v' := V.b (.a (.slv ds.length 3 (dsl ds)))) (by kernel_rfl) rfl rfl (wk_s (v' := V.v (.int .i64 ((ds.length : Nat) : Int))) (by kernel_rfl) rfl rfl (wk_s (v' := V.v (.int .i64 (((k : Nat) : Int) + 1))) (by kernel_rfl) (vint (by first | rfl | exact groT_yes (by omega) (by unfold crs oth; assumption) | exact groT_no (by omega) (by unfold crs oth; assumption) | exact absurd (dx_oth n (gD ds k)) (by assumption) | exact absurd (dy_oth n (gD ds k)) (by assumption) | omega)) rfl (wk_o (o' := ⟨32, 3, true, pl (dsl ((groT n ds k) ++ [(⟨(((gD ds k).x + (dxI n (gD ds k))) + 1), (((gD ds k).y + (dyI n (gD ds k))) + 1), (gD ds k).d⟩ : Dom)]))⟩) (by kernel_rfl) (renob_eq (fun h => h) (congrArg dsl (by first | rfl | exact groT_yes (by omega) (by unfold crs oth; assumption) | exact groT_no (by omega) (by unfold crs oth; assumption) | exact absurd (dx_oth n (gD ds k)) (by assumption) | exact absurd (dy_oth n (gD ds k)) (by assumption) | omega))) rfl (wk_f rfl (wk_f rfl (wk_f rfl (wk_f rfl (wk_f rfl (wk_f rfl (wk_f rfl (wk_f rfl (wk_f rfl (wk_f rfl (wk_f rfl (wk_f rfl (wk_nil)))))))))))))))))))))))
        · skip
          refine wp_region_t ?_
          refine wpc (step_plain rfl (acts_move (d := 54) (ltN rfl) (OpX.tmp 1 (V.b (.a (.slv ds.length 3 (dsl ds))))))) (by kernel_rfl) ?_
          refine wpc (step_plain rfl (acts_load_owns (d := 55) (t := 11) (h := 11) (off := 0) (o := ⟨32, 3, true, [(.val (.int .i64 ((gD ds k).x + (dxI n (gD ds k)))) : A), .val (.int .i64 ((gD ds k).y + (dyI n (gD ds k)))), .val (.bool ((gD ds k).d))]⟩)  (xs := [(.int .i64 ((gD ds k).x + (dxI n (gD ds k))) : Value), .int .i64 ((gD ds k).y + (dyI n (gD ds k))), .bool ((gD ds k).d)].map A.val) (ltN rfl) qC5_ti_32 rfl (by decide) rfl)) (by kernel_rfl) ?_
          refine wpc (step_plain rfl (acts_call1 (d := 56) (ltN rfl) (impl_hasDomino_fn ds (⟨((gD ds k).x + (dxI n (gD ds k))), ((gD ds k).y + (dyI n (gD ds k))), (gD ds k).d⟩ : Dom) (by first | omega | assumption | (have q1 := okD_bd (hok k (by omega)); have q2 := dxy_bd n (gD ds k); have q3 := byI_bd n (gD ds k); (try unfold oth); (try dsimp only); omega) | (have q := groT_len n ds k; omega) | (have := posD_bd (p := eqs (oth n (gD ds k))) ds; omega) | (have := diaRows_len n; omega))) (ArgVs.cons (ArgV.slv 54 ds.length 3 (dsl ds)) (ArgVs.cons (ArgV.va (vs := [(.int .i64 ((gD ds k).x + (dxI n (gD ds k))) : Value), .int .i64 ((gD ds k).y + (dyI n (gD ds k))), .bool ((gD ds k).d)]) (OpV.agg 55 [(.int .i64 ((gD ds k).x + (dxI n (gD ds k))) : Value), .int .i64 ((gD ds k).y + (dyI n (gD ds k))), .bool ((gD ds k).d)])) (ArgVs.nil))) ((resval (congrArg Value.bool c7))))) (by kernel_rfl) ?_
          refine wpc (step_plain rfl (acts_move (d := 57) (ltN rfl) (OpX.tmp 56 (V.v (.bool false))))) (by kernel_rfl) ?_
          refine wpc (step_off (dj := 57) (b' := false) rfl rfl (by decide) rfl (ltN rfl)) (by kernel_rfl) ?_
          refine wpc (step_off (dj := 57) (b' := false) rfl rfl (by decide) rfl (ltN rfl)) (by kernel_rfl) ?_
          refine wpc (step_off (dj := 57) (b' := false) rfl rfl (by decide) rfl (ltN rfl)) (by kernel_rfl) ?_
          refine wpc (step_off (dj := 57) (b' := false) rfl rfl (by decide) rfl (ltN rfl)) (by kernel_rfl) ?_
          refine wpc (step_plain rfl (acts_pick_f (d := 62) (ltN rfl) (OpV.tmp 57 (.bool false)) (OpX.const (.bool false)))) (by kernel_rfl) ?_
          refine wpc (step_plain rfl (acts_move (d := 63) (ltN rfl) (OpX.tmp 62 (V.v (.bool false))))) (by kernel_rfl) ?_
          refine wpc (step_off (dj := 63) (b' := false) rfl rfl (by decide) rfl (ltN rfl)) (by kernel_rfl) ?_
          refine wpc (step_off (dj := 63) (b' := false) rfl rfl (by decide) rfl (ltN rfl)) (by kernel_rfl) ?_
          refine wpc (step_off (dj := 63) (b' := false) rfl rfl (by decide) rfl (ltN rfl)) (by kernel_rfl) ?_
          refine wpc (step_off (dj := 63) (b' := false) rfl rfl (by decide) rfl (ltN rfl)) (by kernel_rfl) ?_
          refine wpc (step_plain rfl (acts_pick_f (d := 68) (ltN rfl) (OpV.tmp 63 (.bool false)) (OpX.const (.bool false)))) (by kernel_rfl) ?_
          refine wpl_nil ?_
          refine wp_if_f (t := 68) (by kernel_rfl) ?_
          refine wp_skip' ?_
          refine wp_region_t ?_
          refine wpc (step_plain rfl (acts_move (d := 69) (ltN rfl) (OpX.tmp 6 (V.b (.a (.sl 24 0 ((groT n ds k).length))))))) (by kernel_rfl) ?_
          refine wpc (step_plain rfl (acts_field (d := 70) (t := 11) (h := 11) (off := 0) (off' := 0) (ltN rfl) qC5_fo_32_0 rfl)) (by kernel_rfl) ?_
          refine wpc (step_plain rfl (acts_load_own (d := 71) (t := 70) (h := 11) (off := 0) (o := ⟨32, 3, true, [(.val (.int .i64 ((gD ds k).x + (dxI n (gD ds k)))) : A), .val (.int .i64 ((gD ds k).y + (dyI n (gD ds k)))), .val (.bool ((gD ds k).d))]⟩)  (x := .val (.int .i64 ((gD ds k).x + (dxI n (gD ds k))))) (ltN rfl) qC5_ti_3 rfl)) (by kernel_rfl) ?_
          refine wpc (step_plain rfl (acts_bin (d := 72) (ltN rfl) (OpV.tmp 71 (.int .i64 ((gD ds k).x + (dxI n (gD ds k))))) (OpV.const (.int .i64 1)) (r_add (c := (((gD ds k).x + (dxI n (gD ds k))) + 1)) (w64 (by first | omega | assumption | (have q1 := okD_bd (hok k (by omega)); have q2 := dxy_bd n (gD ds k); have q3 := byI_bd n (gD ds k); (try unfold oth); (try dsimp only); omega) | (have q := groT_len n ds k; omega) | (have := posD_bd (p := eqs (oth n (gD ds k))) ds; omega) | (have := diaRows_len n; omega)) (by first | omega | assumption | (have q1 := okD_bd (hok k (by omega)); have q2 := dxy_bd n (gD ds k); have q3 := byI_bd n (gD ds k); (try unfold oth); (try dsimp only); omega) | (have q := groT_len n ds k; omega) | (have := posD_bd (p := eqs (oth n (gD ds k))) ds; omega) | (have := diaRows_len n; omega)))))) (by kernel_rfl) ?_
          refine wpc (step_plain rfl (acts_field (d := 73) (t := 11) (h := 11) (off := 0) (off' := 1) (ltN rfl) qC5_fo_32_1 rfl)) (by kernel_rfl) ?_
          refine wpc (step_plain rfl (acts_load_own (d := 74) (t := 73) (h := 11) (off := 1) (o := ⟨32, 3, true, [(.val (.int .i64 ((gD ds k).x + (dxI n (gD ds k)))) : A), .val (.int .i64 ((gD ds k).y + (dyI n (gD ds k)))), .val (.bool ((gD ds k).d))]⟩)  (x := .val (.int .i64 ((gD ds k).y + (dyI n (gD ds k))))) (ltN rfl) qC5_ti_3 rfl)) (by kernel_rfl) ?_
          refine wpc (step_plain rfl (acts_bin (d := 75) (ltN rfl) (OpV.tmp 74 (.int .i64 ((gD ds k).y + (dyI n (gD ds k))))) (OpV.const (.int .i64 1)) (r_add (c := (((gD ds k).y + (dyI n (gD ds k))) + 1)) (w64 (by first | omega | assumption | (have q1 := okD_bd (hok k (by omega)); have q2 := dxy_bd n (gD ds k); have q3 := byI_bd n (gD ds k); (try unfold oth); (try dsimp only); omega) | (have q := groT_len n ds k; omega) | (have := posD_bd (p := eqs (oth n (gD ds k))) ds; omega) | (have := diaRows_len n; omega)) (by first | omega | assumption | (have q1 := okD_bd (hok k (by omega)); have q2 := dxy_bd n (gD ds k); have q3 := byI_bd n (gD ds k); (try unfold oth); (try dsimp only); omega) | (have q := groT_len n ds k; omega) | (have := posD_bd (p := eqs (oth n (gD ds k))) ds; omega) | (have := diaRows_len n; omega)))))) (by kernel_rfl) ?_
          refine wpc (step_plain rfl (acts_field (d := 76) (t := 8) (h := 8) (off := 0) (off' := 2) (ltN rfl) qC5_fo_32_2 rfl)) (by kernel_rfl) ?_
          refine wpc (step_plain rfl (acts_load_own (d := 77) (t := 76) (h := 8) (off := 2) (o := ⟨32, 3, true, [(.val (.int .i64 ((gD ds k).x)) : A), .val (.int .i64 ((gD ds k).y)), .val (.bool ((gD ds k).d))]⟩)  (x := .val (.bool ((gD ds k).d))) (ltN rfl) qC5_ti_4 rfl)) (by kernel_rfl) ?_
          refine wpc (step_plain rfl (acts_build (d := 78) (t := 32) (cells := [(.int .i64 (((gD ds k).x + (dxI n (gD ds k))) + 1) : Value), .int .i64 (((gD ds k).y + (dyI n (gD ds k))) + 1), .bool ((gD ds k).d)]) (ltN rfl) (OpVs.cons (i := 0) (OpV.tmp 72 (.int .i64 (((gD ds k).x + (dxI n (gD ds k))) + 1))) (OpVs.cons (i := 1) (OpV.tmp 75 (.int .i64 (((gD ds k).y + (dyI n (gD ds k))) + 1))) (OpVs.cons (i := 2) (OpV.tmp 77 (.bool ((gD ds k).d))) (OpVs.nil)))) rfl)) (by kernel_rfl) ?_
          refine wpc (step_plain rfl (acts_buildSlice' (d := 79) (h := 79) (n := 1) (s := 3) (xs := dsl ([(⟨(((gD ds k).x + (dxI n (gD ds k))) + 1), (((gD ds k).y + (dyI n (gD ds k))) + 1), (gD ds k).d⟩ : Dom)] : List Dom)) (ltN rfl) qC5_un_42 qC5_zi_32 (OpVs.cons (i := 0) (OpV.agg 78 [(.int .i64 (((gD ds k).x + (dxI n (gD ds k))) + 1) : Value), .int .i64 (((gD ds k).y + (dyI n (gD ds k))) + 1), .bool ((gD ds k).d)]) (OpVs.nil)) (by decide) (by decide) (by kernel_rfl) rfl)) (by kernel_rfl) ?_
          refine wpc (step_plain rfl (acts_app (d := 80) (x := 69) (h := 24) (h2 := 80) (n := ((groT n ds k).length)) (m := 1) (nm := (((groT n ds k) ++ [(⟨(((gD ds k).x + (dxI n (gD ds k))) + 1), (((gD ds k).y + (dyI n (gD ds k))) + 1), (gD ds k).d⟩ : Dom)]).length)) (X := .sl 79 0 1) (xs := dsl (groT n ds k)) (ys := dsl [(⟨(((gD ds k).x + (dxI n (gD ds k))) + 1), (((gD ds k).y + (dyI n (gD ds k))) + 1), (gD ds k).d⟩ : Dom)]) (zs := dsl ((groT n ds k) ++ [(⟨(((gD ds k).x + (dxI n (gD ds k))) + 1), (((gD ds k).y + (dyI n (gD ds k))) + 1), (gD ds k).d⟩ : Dom)])) (ltN rfl) qC5_un_42 qC5_zi_32 rfl (by decide) (by decide) (by first | exact dsl_len _ | (simp [isl_len, bsl_len, dsl_len, csl_len]; done) | (simp [isl_len, bsl_len, dsl_len, csl_len]; omega)) (OpX.tmp 79 (V.b (.a (.sl 79 0 1)))) (src_own (h := 79) (T := 32) (s := 3) (ex := true) (n := 1) (by first | exact dsl_len _ | (simp [isl_len, bsl_len, dsl_len, csl_len]; done) | (simp [isl_len, bsl_len, dsl_len, csl_len]; omega))) (dsl_one' _) (by first | omega | (simp; omega) | (simp at *; omega)) (by first | exact (dsl_append _ _).symm | rfl | simp [dsl_append]) (by first | rfl | (simp; done) | (simp; omega) | omega))) (by kernel_rfl) ?_
          refine wpc (step_plain rfl (acts_assign (d := 6) (ltN rfl) (OpX.tmp 80 (V.b (.a (.sl 80 0 (((groT n ds k) ++ [(⟨(((gD ds k).x + (dxI n (gD ds k))) + 1), (((gD ds k).y + (dyI n (gD ds k))) + 1), (gD ds k).d⟩ : Dom)]).length))))))) (by kernel_rfl) ?_
          refine wpl_nil ?_
          refine wp_region_t ?_
          refine wpc (step_plain rfl (acts_bin (d := 81) (ltN rfl) (OpV.tmp 27 (.int .i64 ((k : Nat) : Int))) (OpV.const (.int .i64 1)) (r_add (c := (((k : Nat) : Int) + 1)) (w64 (by first | omega | assumption | (have q1 := okD_bd (hok k (by omega)); have q2 := dxy_bd n (gD ds k); have q3 := byI_bd n (gD ds k); (try unfold oth); (try dsimp only); omega) | (have q := groT_len n ds k; omega) | (have := posD_bd (p := eqs (oth n (gD ds k))) ds; omega) | (have := diaRows_len n; omega)) (by first | omega | assumption | (have q1 := okD_bd (hok k (by omega)); have q2 := dxy_bd n (gD ds k); have q3 := byI_bd n (gD ds k); (try unfold oth); (try dsimp only); omega) | (have q := groT_len n ds k; omega) | (have := posD_bd (p := eqs (oth n (gD ds k))) ds; omega) | (have := diaRows_len n; omega)))))) (by kernel_rfl) ?_
          refine wpc (step_plain rfl (acts_move (d := 27) (ltN rfl) (OpX.tmp 81 (V.v (.int .i64 (((k : Nat) : Int) + 1)))))) (by kernel_rfl) ?_
          refine wpl_nil ?_
          exact loop_back ((k + 1)) (by show _ ≤ _; omega) (by show ds.length - (k + 1) < ds.length - k; omega) (weak_of (subst1 [(24, 80)]) [8, 11, 15, 19, 21, 26, 34, 51, 56, 79, 80, 83] (by kernel_rfl) (wk_s (v' := V.v (.int .i64 n)) (by kernel_rfl) rfl rfl (wk_s (v' := V.b (.a (.slv ds.length 3 (dsl ds)))) (by kernel_rfl) rfl rfl (wk_s (v' := V.v (.slice none 0 0)) (by kernel_rfl) rfl rfl (wk_s (v' := V.v (.bool false)) (by kernel_rfl) rfl rfl (wk_s (v' := V.b (.a (.sl 80 0 (((groT n ds k) ++ [(⟨(((gD ds k).x + (dxI n (gD ds k))) + 1), (((gD ds k).y + (dyI n (gD ds k))) + 1), (gD ds k).d⟩ : Dom)]).length)))) (by kernel_rfl) (vsl (by first | rfl | (simp; done) | (simp; omega) | omega | (exact congrArg List.length (by first | rfl | exact groT_yes (by omega) (by unfold crs oth; assumption) | exact groT_no (by omega) (by unfold crs oth; assumption) | exact absurd (dx_oth n (gD ds k)) (by assumption) | exact absurd (dy_oth n (gD ds k)) (by assumption) | omega))) rfl) rfl (wk_s (v' := V.b (.a (.slv ds.length 3 (dsl ds)))) (by kernel_rfl) rfl rfl (wk_s (v' := V.v (.int .i64 ((ds.length : Nat) : Int))) (by kernel_rfl) rfl rfl (wk_s (v' := V.v (.int .i64 (((k : Nat) : Int) + 1))) (by kernel_rfl) (vint (by first | rfl | exact groT_yes (by omega) (by unfold crs oth; assumption) | exact groT_no (by omega) (by unfold crs oth; assumption) | exact absurd (dx_oth n (gD ds k)) (by assumption) | exact absurd (dy_oth n (gD ds k)) (by assumption) | omega)) rfl (wk_o (o' := ⟨32, 3, true, pl (dsl ((groT n ds k) ++ [(⟨(((gD ds k).x + (dxI n (gD ds k))) + 1), (((gD ds k).y + (dyI n (gD ds k))) + 1), (gD ds k).d⟩ : Dom)]))⟩) (by kernel_rfl) (renob_eq (fun h => h) (congrArg dsl (by first | rfl | exact groT_yes (by omega) (by unfold crs oth; assumption) | exact groT_no (by omega) (by unfold crs oth; assumption) | exact absurd (dx_oth n (gD ds k)) (by assumption) | exact absurd (dy_oth n (gD ds k)) (by assumption) | omega))) rfl (wk_f rfl (wk_f rfl (wk_f rfl (wk_f rfl (wk_f rfl (wk_f rfl (wk_f rfl (wk_f rfl (wk_f rfl (wk_f rfl (wk_f rfl (wk_f rfl (wk_nil)))))))))))))))))))))))
      · skip
        have c6P := of_decide_eq_false c6
        refine wp_exit' ?_
        refine wp_seq' ?_
        refine wp_region_t ?_
        refine wpc (step_plain rfl (acts_move (d := 82) (ltN rfl) (OpX.tmp 6 (V.b (.a (.sl 24 0 ((groT n ds k).length))))))) (by kernel_rfl) ?_
        refine wpc (step_plain rfl (acts_call1 (d := 83) (ltN rfl) (impl_SortDominoes_fn (groT n ds k) (by first | omega | assumption | (have q1 := okD_bd (hok k (by omega)); have q2 := dxy_bd n (gD ds k); have q3 := byI_bd n (gD ds k); (try unfold oth); (try dsimp only); omega) | (have q := groT_len n ds k; omega) | (have := posD_bd (p := eqs (oth n (gD ds k))) ds; omega) | (have := diaRows_len n; omega))) (ArgVs.cons (argv_own (t := 82) (h := 24) (n := ((groT n ds k).length)) (T := 32) (s := 3) (ex := true) (xs := dsl (groT n ds k)) (by first | exact dsl_len _ | (simp [isl_len, bsl_len, dsl_len, csl_len]; done) | (simp [isl_len, bsl_len, dsl_len, csl_len]; omega))) (ArgVs.nil)) (ResV.row 32 3 ((sortD (groT n ds k)).length) (dsl (sortD (groT n ds k))) 83))) (by kernel_rfl) ?_
        refine wpc (step_plain rfl (acts_assign (d := 4) (ltN rfl) (OpX.tmp 83 (V.b (.a (.sl 83 0 ((sortD (groT n ds k)).length))))))) (by kernel_rfl) ?_
        refine wpc (step_plain rfl (acts_assign (d := 5) (ltN rfl) (OpX.const (.bool true)))) (by kernel_rfl) ?_
        refine wpl_nil ?_
        refine wp_ret' ?_
        exact ⟨VRes.tmp 4 (.a (.sl 83 0 ((sortD (groT n ds k)).length))) _ (by kernel_rfl) (brow_doms (h := 83) (L := (sortD (groT n ds k))) (by kernel_rfl) (by first | (refine gro_no (groOk_a ?_); assumption) | (refine gro_no (groOk_b ?_); assumption) | (refine (gro_no (groOk_a ?_)).symm; assumption) | (refine (gro_no (groOk_b ?_)).symm; assumption) | (refine (groOk_a ?_).symm; assumption) | (refine (groOk_b ?_).symm; assumption) | (refine groOk_a ?_; assumption) | (refine groOk_b ?_; assumption) | (refine gro_end ?_ ?_ ?_ <;> first | assumption | exact groOk_of (by assumption) (by assumption)) | exact (groOk_of (by assumption) (by assumption)).symm) (by first | rfl | (simp; done) | (simp; omega))), VRes.tmp 5 (.a (.val (.bool true))) _ (by kernel_rfl) (bval (congrArg Value.bool (by first | (refine gro_no (groOk_a ?_); assumption) | (refine gro_no (groOk_b ?_); assumption) | (refine (gro_no (groOk_a ?_)).symm; assumption) | (refine (gro_no (groOk_b ?_)).symm; assumption) | (refine (groOk_a ?_).symm; assumption) | (refine (groOk_b ?_).symm; assumption) | (refine groOk_a ?_; assumption) | (refine groOk_b ?_; assumption) | (refine gro_end ?_ ?_ ?_ <;> first | assumption | exact groOk_of (by assumption) (by assumption)) | exact (groOk_of (by assumption) (by assumption)).symm)))⟩
  · skip
    have c1Q := inB_false.1 c1
    refine wp_region_t ?_
    refine wpc (step_plain rfl (acts_move (d := 14) (ltN rfl) (OpX.tmp 0 (V.v (.int .i64 n))))) (by kernel_rfl) ?_
    refine wpc (step_plain rfl (acts_call1 (d := 15) (ltN rfl) (impl_within_fn n 1 3 ) (ArgVs.cons (ArgV.v (OpV.tmp 14 (.int .i64 n))) (ArgVs.cons (ArgV.v (OpV.const (.int .i64 1))) (ArgVs.cons (ArgV.v (OpV.const (.int .i64 3))) (ArgVs.nil)))) ((resval (congrArg Value.bool c1))))) (by kernel_rfl) ?_
    refine wpc (step_plain rfl (acts_un (d := 16) (ltN rfl) (OpV.tmp 15 (.bool false)) (r_not (c := true) rfl))) (by kernel_rfl) ?_
    refine wpc (step_plain rfl (acts_move (d := 17) (ltN rfl) (OpX.tmp 16 (V.v (.bool true))))) (by kernel_rfl) ?_
    refine wpc (step_off (dj := 17) (b' := true) rfl rfl (by decide) rfl (ltN rfl)) (by kernel_rfl) ?_
    refine wpc (step_off (dj := 17) (b' := true) rfl rfl (by decide) rfl (ltN rfl)) (by kernel_rfl) ?_
    refine wpc (step_off (dj := 17) (b' := true) rfl rfl (by decide) rfl (ltN rfl)) (by kernel_rfl) ?_
    refine wpc (step_off (dj := 17) (b' := true) rfl rfl (by decide) rfl (ltN rfl)) (by kernel_rfl) ?_
    refine wpc (step_off (dj := 17) (b' := true) rfl rfl (by decide) rfl (ltN rfl)) (by kernel_rfl) ?_
    refine wpc (step_plain rfl (acts_pick_t (d := 23) (ltN rfl) (OpV.tmp 17 (.bool true)) (OpX.const (.bool true)))) (by kernel_rfl) ?_
    refine wpl_nil ?_
    refine wp_if_t (t := 23) (by kernel_rfl) ?_
    refine wp_seq' ?_
    refine wp_region_t ?_
    refine wpc (step_plain rfl (acts_assign (d := 4) (ltN rfl) (OpX.const (.slice none 0 0)))) (by kernel_rfl) ?_
    refine wpc (step_plain rfl (acts_assign (d := 5) (ltN rfl) (OpX.const (.bool false)))) (by kernel_rfl) ?_
    refine wpl_nil ?_
    refine wp_ret' ?_
    exact ⟨VRes.tmp 4 (.a (.val (.slice none 0 0))) _ (by kernel_rfl) (bnil_doms (L := (gro n ds)) (by first | (refine gro_no (groOk_a ?_); assumption) | (refine gro_no (groOk_b ?_); assumption) | (refine (gro_no (groOk_a ?_)).symm; assumption) | (refine (gro_no (groOk_b ?_)).symm; assumption) | (refine (groOk_a ?_).symm; assumption) | (refine (groOk_b ?_).symm; assumption) | (refine groOk_a ?_; assumption) | (refine groOk_b ?_; assumption) | (refine gro_end ?_ ?_ ?_ <;> first | assumption | exact groOk_of (by assumption) (by assumption)) | exact (groOk_of (by assumption) (by assumption)).symm)), VRes.tmp 5 (.a (.val (.bool false))) _ (by kernel_rfl) (bval (congrArg Value.bool (by first | (refine gro_no (groOk_a ?_); assumption) | (refine gro_no (groOk_b ?_); assumption) | (refine (gro_no (groOk_a ?_)).symm; assumption) | (refine (gro_no (groOk_b ?_)).symm; assumption) | (refine (groOk_a ?_).symm; assumption) | (refine (groOk_b ?_).symm; assumption) | (refine groOk_a ?_; assumption) | (refine groOk_b ?_; assumption) | (refine gro_end ?_ ?_ ?_ <;> first | assumption | exact groOk_of (by assumption) (by assumption)) | exact (groOk_of (by assumption) (by assumption)).symm)))⟩

set_option maxHeartbeats 4000000 in
set_option maxRecDepth 100000 in
theorem spec_GrowDiamond_fn (n : Int) (ds : List Dom) (hd : ds.length ≤ 1048576) : Fn Try.prog 29 [.a (.val (.int .i64 n)), .a (.slv ds.length 3 (dsl ds))] [.row 32 3 (gro n ds).length (dsl (gro n ds)), .val (.bool (groOk n ds))] := by
  refine fn_intro (N := 65) Try.func29 rfl (by kernel_rfl) rfl (Nat.le_of_ble_eq_true rfl) [8, 10, 12, 16, 18, 24, 35, 38, 61, 62, 64] (ret2 rfl rfl (by intro u hu; injection hu with hu; subst hu; rfl)) (fun W => ?_)
  show Wp _ _ _ [(.s 0, some (.s (V.v (.int .i64 n)))), (.s 1, some (.s (V.b (.a (.slv ds.length 3 (dsl ds)))))), (.o 8, some .free), (.o 10, some .free), (.o 12, some .free), (.o 16, some .free), (.o 18, some .free), (.o 24, some .free), (.o 35, some .free), (.o 38, some .free), (.o 61, some .free), (.o 62, some .free), (.o 64, some .free)]
  refine wp_seq' ?_
  refine wp_region_t ?_
  refine wpc (step_plain rfl (acts_assign (d := 4) (ltN rfl) (OpX.const (.slice none 0 0)))) (by kernel_rfl) ?_
  refine wpc (step_plain rfl (acts_assign (d := 5) (ltN rfl) (OpX.const (.bool false)))) (by kernel_rfl) ?_
  refine wpl_nil ?_
  refine wp_seq' ?_
  refine wp_region_t ?_
  refine wpc (step_plain rfl (acts_buildSlice0' (d := 10) (h := 10) (s := 3) (ltN rfl) qC5_un_42 qC5_zi_32)) (by kernel_rfl) ?_
  refine wpc (step_plain rfl (acts_assign (d := 6) (ltN rfl) (OpX.tmp 10 (V.b (.a (.sl 10 0 0)))))) (by kernel_rfl) ?_
  refine wpl_nil ?_
  refine wp_seq' ?_
  refine wp_seq' ?_
  rcases Bool.eq_false_or_eq_true ((inB n 1 3)) with c1 | c1
  · skip
    have c1Q := inB_true.1 c1
    refine wp_region_t ?_
    refine wpc (step_plain rfl (acts_move (d := 11) (ltN rfl) (OpX.tmp 0 (V.v (.int .i64 n))))) (by kernel_rfl) ?_
    refine wpc (step_plain rfl (acts_call1 (d := 12) (ltN rfl) (spec_l01In_fn n 1 3 ) (ArgVs.cons (ArgV.v (OpV.tmp 11 (.int .i64 n))) (ArgVs.cons (ArgV.v (OpV.const (.int .i64 1))) (ArgVs.cons (ArgV.v (OpV.const (.int .i64 3))) (ArgVs.nil)))) ((resval (congrArg Value.bool c1))))) (by kernel_rfl) ?_
    refine wpc (step_plain rfl (acts_un (d := 13) (ltN rfl) (OpV.tmp 12 (.bool true)) (r_not (c := false) rfl))) (by kernel_rfl) ?_
    refine wpc (step_plain rfl (acts_move (d := 14) (ltN rfl) (OpX.tmp 13 (V.v (.bool false))))) (by kernel_rfl) ?_
    refine wpc (step_on (dj := 14) rfl rfl (acts_move (d := 15) (ltN rfl) (OpX.tmp 0 (V.v (.int .i64 n))))) (by kernel_rfl) ?_
    refine wpc (step_on (dj := 14) rfl rfl (acts_call1 (d := 16) (ltN rfl) (spec_DiamondRegion_fn n ) (ArgVs.cons (ArgV.v (OpV.tmp 15 (.int .i64 n))) (ArgVs.nil)) (ResV.reg 3 1 ((diaRows n).length) (isl (diaRows n)) 16))) (by kernel_rfl) ?_
    refine wpc (step_on (dj := 14) rfl rfl (acts_move (d := 17) (ltN rfl) (OpX.tmp 1 (V.b (.a (.slv ds.length 3 (dsl ds))))))) (by kernel_rfl) ?_
    refine wpc (step_on (dj := 14) rfl rfl (acts_call1 (d := 18) (ltN rfl) (spec_IsTiling_fn (diaRows n) ds (by first | omega | assumption | (have q1 := okD_bd (hok k (by omega)); have q2 := dxy_bd n (gD ds k); have q3 := byI_bd n (gD ds k); (try unfold oth); (try dsimp only); omega) | (have q := groT_len n ds k; omega) | (have := posD_bd (p := eqs (oth n (gD ds k))) ds; omega) | (have := diaRows_len n; omega)) (by first | omega | assumption | (have q1 := okD_bd (hok k (by omega)); have q2 := dxy_bd n (gD ds k); have q3 := byI_bd n (gD ds k); (try unfold oth); (try dsimp only); omega) | (have q := groT_len n ds k; omega) | (have := posD_bd (p := eqs (oth n (gD ds k))) ds; omega) | (have := diaRows_len n; omega))) (ArgVs.cons (ArgV.reg (xs := isl (diaRows n)) 16 16 ((diaRows n).length) (s := 1) (T := 3) (ex := true) (by simp [isl]) (by first | exact List.take_of_length_le (by simp [isl]) | (simp [isl]; done))) (ArgVs.cons (ArgV.slv 17 ds.length 3 (dsl ds)) (ArgVs.nil))) (ResV.val _))) (by kernel_rfl) ?_
    refine wpc (step_on (dj := 14) rfl rfl (acts_un (d := 19) (ltN rfl) (OpV.tmp 18 (.bool (isTil (diaRows n) ds))) (r_not (c := (!(isTil (diaRows n) ds))) rfl))) (by kernel_rfl) ?_
    refine wpc (step_plain rfl (acts_pick_f (d := 20) (ltN rfl) (OpV.tmp 14 (.bool false)) (OpX.tmp 19 (V.v (.bool (!(isTil (diaRows n) ds))))))) (by kernel_rfl) ?_
    refine wpl_nil ?_
    refine wp_if (t := 20) ((!(isTil (diaRows n) ds))) (by kernel_rfl) (fun c2 => ?_) (fun c2 => ?_)
    · skip
      have c3 : (isTil (diaRows n) ds) = false := by simpa using c2
      refine wp_seq' ?_
      refine wp_region_t ?_
      refine wpc (step_plain rfl (acts_move (d := 21) (ltN rfl) (OpX.tmp 6 (V.b (.a (.sl 10 0 0)))))) (by kernel_rfl) ?_
      refine wpc (step_plain rfl (acts_assign (d := 4) (ltN rfl) (OpX.tmp 21 (V.b (.a (.sl 10 0 0)))))) (by kernel_rfl) ?_
      refine wpc (step_plain rfl (acts_assign (d := 5) (ltN rfl) (OpX.const (.bool false)))) (by kernel_rfl) ?_
      refine wpl_nil ?_
      refine wp_ret' ?_
      exact ⟨VRes.tmp 4 (.a (.sl 10 0 0)) _ (by kernel_rfl) (brow_doms (h := 10) (L := []) (by kernel_rfl) (by first | (refine gro_no (groOk_a ?_); assumption) | (refine gro_no (groOk_b ?_); assumption) | (refine (gro_no (groOk_a ?_)).symm; assumption) | (refine (gro_no (groOk_b ?_)).symm; assumption) | (refine (groOk_a ?_).symm; assumption) | (refine (groOk_b ?_).symm; assumption) | (refine groOk_a ?_; assumption) | (refine groOk_b ?_; assumption) | (refine gro_end ?_ ?_ ?_ <;> first | assumption | exact groOk_of (by assumption) (by assumption)) | exact (groOk_of (by assumption) (by assumption)).symm) (by first | rfl | (simp; done) | (simp; omega))), VRes.tmp 5 (.a (.val (.bool false))) _ (by kernel_rfl) (bval (congrArg Value.bool (by first | (refine gro_no (groOk_a ?_); assumption) | (refine gro_no (groOk_b ?_); assumption) | (refine (gro_no (groOk_a ?_)).symm; assumption) | (refine (gro_no (groOk_b ?_)).symm; assumption) | (refine (groOk_a ?_).symm; assumption) | (refine (groOk_b ?_).symm; assumption) | (refine groOk_a ?_; assumption) | (refine groOk_b ?_; assumption) | (refine gro_end ?_ ?_ ?_ <;> first | assumption | exact groOk_of (by assumption) (by assumption)) | exact (groOk_of (by assumption) (by assumption)).symm)))⟩
    · skip
      have c4 : (isTil (diaRows n) ds) = true := by simpa using c2
      refine wp_skip' ?_
      refine wp_seq' ?_
      refine wp_seq' ?_
      refine wp_region_t ?_
      refine wpc (step_plain rfl (acts_assign (d := 7) (ltN rfl) (OpX.const (.int .i64 0)))) (by kernel_rfl) ?_
      refine wpl_nil ?_
      refine wp_block' ?_
      refine wp_loop' (fun (k : Nat) => k ≤ ds.length) (fun (k : Nat) => [(.s 0, some (.s (V.v (.int .i64 n)))), (.s 1, some (.s (V.b (.a (.slv ds.length 3 (dsl ds)))))), (.s 4, some (.s (V.v (.slice none 0 0)))), (.s 5, some (.s (V.v (.bool false)))), (.s 6, some (.s (V.b (.a (.sl 10 0 ((groT n ds k).length)))))), (.s 7, some (.s (V.v (.int .i64 ((k : Nat) : Int))))), (.o 10, some (.o ⟨32, 3, true, pl (dsl (groT n ds k))⟩)), (.o 8, some .free), (.o 12, some .free), (.o 16, some .free), (.o 18, some .free), (.o 24, some .free), (.o 35, some .free), (.o 38, some .free), (.o 61, some .free), (.o 62, some .free), (.o 64, some .free)]) (fun (k : Nat) => ds.length - k) ((0 : Nat)) (by exact (Nat.zero_le _ : 0 ≤ _)) (weak_of id [8, 12, 16, 18, 24, 35, 38, 61, 62, 64] (by kernel_rfl) (wk_s (v' := V.v (.int .i64 n)) (by kernel_rfl) rfl rfl (wk_s (v' := V.b (.a (.slv ds.length 3 (dsl ds)))) (by kernel_rfl) rfl rfl (wk_s (v' := V.v (.slice none 0 0)) (by kernel_rfl) rfl rfl (wk_s (v' := V.v (.bool false)) (by kernel_rfl) rfl rfl (wk_s (v' := V.b (.a (.sl 10 0 0))) (by kernel_rfl) (vsl (by first | rfl | (simp; done) | (simp; omega) | omega | (exact congrArg List.length (by first | rfl | exact groT_yes (by omega) (by assumption) | (refine groT_e (by omega) (by assumption) ?_ ?_ ?_ <;> first | rfl | (unfold dxI byI; simp_all; done) | (unfold dxI byI; simp_all; omega) | (unfold dyI byI; simp_all; done) | (unfold dyI byI; simp_all; omega)) | exact groT_no (by omega) (by assumption) | omega))) rfl) rfl (wk_s (v' := V.v (.int .i64 0)) (by kernel_rfl) (vint (by first | rfl | exact groT_yes (by omega) (by assumption) | (refine groT_e (by omega) (by assumption) ?_ ?_ ?_ <;> first | rfl | (unfold dxI byI; simp_all; done) | (unfold dxI byI; simp_all; omega) | (unfold dyI byI; simp_all; done) | (unfold dyI byI; simp_all; omega)) | exact groT_no (by omega) (by assumption) | omega)) rfl (wk_o (o' := ⟨32, 3, true, pl (dsl [])⟩) (by kernel_rfl) (renob_eq (fun h => h) (congrArg dsl (by first | rfl | exact groT_yes (by omega) (by assumption) | (refine groT_e (by omega) (by assumption) ?_ ?_ ?_ <;> first | rfl | (unfold dxI byI; simp_all; done) | (unfold dxI byI; simp_all; omega) | (unfold dyI byI; simp_all; done) | (unfold dyI byI; simp_all; omega)) | exact groT_no (by omega) (by assumption) | omega))) rfl (wk_f rfl (wk_f rfl (wk_f rfl (wk_f rfl (wk_f rfl (wk_f rfl (wk_f rfl (wk_f rfl (wk_f rfl (wk_f rfl (wk_nil))))))))))))))))))) ?_
      rintro k inv5
      replace inv5 : k ≤ ds.length := inv5
      have inv := inv5
      show Wp _ _ _ [(.s 0, some (.s (V.v (.int .i64 n)))), (.s 1, some (.s (V.b (.a (.slv ds.length 3 (dsl ds)))))), (.s 4, some (.s (V.v (.slice none 0 0)))), (.s 5, some (.s (V.v (.bool false)))), (.s 6, some (.s (V.b (.a (.sl 10 0 ((groT n ds k).length)))))), (.s 7, some (.s (V.v (.int .i64 ((k : Nat) : Int))))), (.o 10, some (.o ⟨32, 3, true, pl (dsl (groT n ds k))⟩)), (.o 8, some .free), (.o 12, some .free), (.o 16, some .free), (.o 18, some .free), (.o 24, some .free), (.o 35, some .free), (.o 38, some .free), (.o 61, some .free), (.o 62, some .free), (.o 64, some .free)]
      have hgo := groOk_of (n := n) (ds := ds) (by assumption) (by assumption)
      obtain ⟨hn, hok⟩ := groOk_dom hgo
      have hlt := groT_len n ds k
      refine wp_seq' ?_
      refine wp_seq' ?_
      refine wp_region_t ?_
      refine wpc (step_plain rfl (acts_move (d := 22) (ltN rfl) (OpX.tmp 7 (V.v (.int .i64 ((k : Nat) : Int)))))) (by kernel_rfl) ?_
      refine wpc (step_plain rfl (acts_move (d := 23) (ltN rfl) (OpX.tmp 1 (V.b (.a (.slv ds.length 3 (dsl ds))))))) (by kernel_rfl) ?_
      refine wpc (step_plain rfl (acts_len (d := 24) (X := .slv ds.length 3 (dsl ds)) (n := ds.length) (iv := ((ds.length : Nat) : Int)) (ltN rfl) qC5_un_42 (OpX.tmp 23 (V.b (.a (.slv ds.length 3 (dsl ds))))) (LenOf.slv _ _ _) rfl)) (by kernel_rfl) ?_
      refine wpc (step_plain rfl (acts_bin (d := 25) (ltN rfl) (OpV.tmp 22 (.int .i64 ((k : Nat) : Int))) (OpV.tmp 24 (.int .i64 ((ds.length : Nat) : Int))) (r_lss (c := (decide (((k : Nat) : Int) < ((ds.length : Nat) : Int)))) rfl))) (by kernel_rfl) ?_
      refine wpl_nil ?_
      refine wp_if (t := 25) (decide (((k : Nat) : Int) < ((ds.length : Nat) : Int))) (by kernel_rfl) (fun c6 => ?_) (fun c6 => ?_)
      · skip
        have c6P := of_decide_eq_true c6
        refine wp_skip' ?_
        refine wp_seq' ?_
        refine wp_block' ?_
        refine wp_seq' ?_
        refine wp_region_t ?_
        refine wpc (step_plain rfl (acts_move (d := 28) (ltN rfl) (OpX.tmp 1 (V.b (.a (.slv ds.length 3 (dsl ds))))))) (by kernel_rfl) ?_
        refine wpc (step_plain rfl (acts_move (d := 29) (ltN rfl) (OpX.tmp 7 (V.v (.int .i64 ((k : Nat) : Int)))))) (by kernel_rfl) ?_
        refine wpc (step_plain rfl (acts_index_v (d := 30) (x := 28) (n := ds.length) (s := 3) (k := k) (xs := dsl ds) (ltN rfl) qC5_un_42 qC5_sz_32 (OpV.tmp 29 (.int .i64 ((k : Nat) : Int))) rfl (by first | omega | assumption | (have q1 := okD_bd (hok k (by omega)); have q2 := dxy_bd n (gD ds k); have q3 := byI_bd n (gD ds k); (try unfold oth); (try dsimp only); omega) | (have q := groT_len n ds k; omega) | (have := posD_bd (p := eqs (oth n (gD ds k))) ds; omega) | (have := diaRows_len n; omega)))) (by kernel_rfl) ?_
        refine wpc (step_plain rfl (acts_load_vs (d := 31) (t := 30) (s := 3) (off := (k * 3)) (xs := dsl ds)  (vs := [(.int .i64 ((gD ds k).x) : Value), .int .i64 ((gD ds k).y), .bool ((gD ds k).d)]) (ltN rfl) qC5_ti_32 rfl (dsl_at (k := k) (by first | omega | assumption | (have q1 := okD_bd (hok k (by omega)); have q2 := dxy_bd n (gD ds k); have q3 := byI_bd n (gD ds k); (try unfold oth); (try dsimp only); omega) | (have q := groT_len n ds k; omega) | (have := posD_bd (p := eqs (oth n (gD ds k))) ds; omega) | (have := diaRows_len n; omega))))) (by kernel_rfl) ?_
        refine wpc (step_plain rfl (acts_alloc' (d := 8) (h := 8) (cap := 1) (s := 3) (cells := [(.val (.int .i64 0) : A), .val (.int .i64 0), .val (.bool false)]) (ltN rfl) qC5_zi_32 rfl rfl (by decide))) (by kernel_rfl) ?_
        refine wpc (step_plain rfl (acts_store (t := 8) (h := 8) (off := 0) (o := ⟨32, 3, true, [(.val (.int .i64 0) : A), .val (.int .i64 0), .val (.bool false)]⟩) (b := .agg ([(.int .i64 ((gD ds k).x) : Value), .int .i64 ((gD ds k).y), .bool ((gD ds k).d)].map A.val)) (cells := [(.val (.int .i64 ((gD ds k).x)) : A), .val (.int .i64 ((gD ds k).y)), .val (.bool ((gD ds k).d))]) qC5_ti_32 (OpX.tmp 31 (V.av [(.int .i64 ((gD ds k).x) : Value), .int .i64 ((gD ds k).y), .bool ((gD ds k).d)])) rfl (by decide) (by intro y hy; simp [B.cs] at hy; rcases hy with rfl | rfl | rfl <;> rfl) (Nat.le_of_ble_eq_true rfl) rfl)) (by kernel_rfl) ?_
        refine wpl_nil ?_
        refine wp_seq' ?_
        refine wp_seq' ?_
        refine wp_region_t ?_
        refine wpc (step_plain rfl (acts_move (d := 32) (ltN rfl) (OpX.tmp 0 (V.v (.int .i64 n))))) (by kernel_rfl) ?_
        refine wpc (step_plain rfl (acts_move (d := 33) (ltN rfl) (OpX.tmp 1 (V.b (.a (.slv ds.length 3 (dsl ds))))))) (by kernel_rfl) ?_
        refine wpc (step_plain rfl (acts_load_owns (d := 34) (t := 8) (h := 8) (off := 0) (o := ⟨32, 3, true, [(.val (.int .i64 ((gD ds k).x)) : A), .val (.int .i64 ((gD ds k).y)), .val (.bool ((gD ds k).d))]⟩)  (xs := [(.int .i64 ((gD ds k).x) : Value), .int .i64 ((gD ds k).y), .bool ((gD ds k).d)].map A.val) (ltN rfl) qC5_ti_32 rfl (by decide) rfl)) (by kernel_rfl) ?_
        refine wpc (step_plain rfl (acts_call1 (d := 35) (ltN rfl) (spec_l17Crosses_fn n ds (gD ds k) (by first | omega | assumption | (have q1 := okD_bd (hok k (by omega)); have q2 := dxy_bd n (gD ds k); have q3 := byI_bd n (gD ds k); (try unfold oth); (try dsimp only); omega) | (have q := groT_len n ds k; omega) | (have := posD_bd (p := eqs (oth n (gD ds k))) ds; omega) | (have := diaRows_len n; omega)) (by first | omega | assumption | (have q1 := okD_bd (hok k (by omega)); have q2 := dxy_bd n (gD ds k); have q3 := byI_bd n (gD ds k); (try unfold oth); (try dsimp only); omega) | (have q := groT_len n ds k; omega) | (have := posD_bd (p := eqs (oth n (gD ds k))) ds; omega) | (have := diaRows_len n; omega)) (by first | omega | assumption | (have q1 := okD_bd (hok k (by omega)); have q2 := dxy_bd n (gD ds k); have q3 := byI_bd n (gD ds k); (try unfold oth); (try dsimp only); omega) | (have q := groT_len n ds k; omega) | (have := posD_bd (p := eqs (oth n (gD ds k))) ds; omega) | (have := diaRows_len n; omega)) (by first | omega | assumption | (have q1 := okD_bd (hok k (by omega)); have q2 := dxy_bd n (gD ds k); have q3 := byI_bd n (gD ds k); (try unfold oth); (try dsimp only); omega) | (have q := groT_len n ds k; omega) | (have := posD_bd (p := eqs (oth n (gD ds k))) ds; omega) | (have := diaRows_len n; omega)) (by first | omega | assumption | (have q1 := okD_bd (hok k (by omega)); have q2 := dxy_bd n (gD ds k); have q3 := byI_bd n (gD ds k); (try unfold oth); (try dsimp only); omega) | (have q := groT_len n ds k; omega) | (have := posD_bd (p := eqs (oth n (gD ds k))) ds; omega) | (have := diaRows_len n; omega))) (ArgVs.cons (ArgV.v (OpV.tmp 32 (.int .i64 n))) (ArgVs.cons (ArgV.slv 33 ds.length 3 (dsl ds)) (ArgVs.cons (ArgV.va (vs := [(.int .i64 ((gD ds k).x) : Value), .int .i64 ((gD ds k).y), .bool ((gD ds k).d)]) (OpV.agg 34 [(.int .i64 ((gD ds k).x) : Value), .int .i64 ((gD ds k).y), .bool ((gD ds k).d)])) (ArgVs.nil)))) (ResV.val _))) (by kernel_rfl) ?_
        refine wpl_nil ?_
        refine wp_if (t := 35) ((crs n ds (gD ds k))) (by kernel_rfl) (fun c7 => ?_) (fun c7 => ?_)
        · skip
          refine wp_exit' ?_
          refine wp_region_t ?_
          refine wpc (step_plain rfl (acts_move (d := 26) (ltN rfl) (OpX.tmp 7 (V.v (.int .i64 ((k : Nat) : Int)))))) (by kernel_rfl) ?_
          refine wpc (step_plain rfl (acts_bin (d := 27) (ltN rfl) (OpV.tmp 26 (.int .i64 ((k : Nat) : Int))) (OpV.const (.int .i64 1)) (r_add (c := (((k : Nat) : Int) + 1)) (w64 (by first | omega | assumption | (have q1 := okD_bd (hok k (by omega)); have q2 := dxy_bd n (gD ds k); have q3 := byI_bd n (gD ds k); (try unfold oth); (try dsimp only); omega) | (have q := groT_len n ds k; omega) | (have := posD_bd (p := eqs (oth n (gD ds k))) ds; omega) | (have := diaRows_len n; omega)) (by first | omega | assumption | (have q1 := okD_bd (hok k (by omega)); have q2 := dxy_bd n (gD ds k); have q3 := byI_bd n (gD ds k); (try unfold oth); (try dsimp only); omega) | (have q := groT_len n ds k; omega) | (have := posD_bd (p := eqs (oth n (gD ds k))) ds; omega) | (have := diaRows_len n; omega)))))) (by kernel_rfl) ?_
          refine wpc (step_plain rfl (acts_assign (d := 7) (ltN rfl) (OpX.tmp 27 (V.v (.int .i64 (((k : Nat) : Int) + 1)))))) (by kernel_rfl) ?_
          refine wpl_nil ?_
          exact loop_back ((k + 1)) (by show _ ≤ _; omega) (by show ds.length - (k + 1) < ds.length - k; omega) (weak_of id [8, 12, 16, 18, 24, 35, 38, 61, 62, 64] (by kernel_rfl) (wk_s (v' := V.v (.int .i64 n)) (by kernel_rfl) rfl rfl (wk_s (v' := V.b (.a (.slv ds.length 3 (dsl ds)))) (by kernel_rfl) rfl rfl (wk_s (v' := V.v (.slice none 0 0)) (by kernel_rfl) rfl rfl (wk_s (v' := V.v (.bool false)) (by kernel_rfl) rfl rfl (wk_s (v' := V.b (.a (.sl 10 0 ((groT n ds k).length)))) (by kernel_rfl) (vsl (by first | rfl | (simp; done) | (simp; omega) | omega | (exact congrArg List.length (by first | rfl | exact groT_yes (by omega) (by assumption) | (refine groT_e (by omega) (by assumption) ?_ ?_ ?_ <;> first | rfl | (unfold dxI byI; simp_all; done) | (unfold dxI byI; simp_all; omega) | (unfold dyI byI; simp_all; done) | (unfold dyI byI; simp_all; omega)) | exact groT_no (by omega) (by assumption) | omega))) rfl) rfl (wk_s (v' := V.v (.int .i64 (((k : Nat) : Int) + 1))) (by kernel_rfl) (vint (by first | rfl | exact groT_yes (by omega) (by assumption) | (refine groT_e (by omega) (by assumption) ?_ ?_ ?_ <;> first | rfl | (unfold dxI byI; simp_all; done) | (unfold dxI byI; simp_all; omega) | (unfold dyI byI; simp_all; done) | (unfold dyI byI; simp_all; omega)) | exact groT_no (by omega) (by assumption) | omega)) rfl (wk_o (o' := ⟨32, 3, true, pl (dsl (groT n ds k))⟩) (by kernel_rfl) (renob_eq (fun h => h) (congrArg dsl (by first | rfl | exact groT_yes (by omega) (by assumption) | (refine groT_e (by omega) (by assumption) ?_ ?_ ?_ <;> first | rfl | (unfold dxI byI; simp_all; done) | (unfold dxI byI; simp_all; omega) | (unfold dyI byI; simp_all; done) | (unfold dyI byI; simp_all; omega)) | exact groT_no (by omega) (by assumption) | omega))) rfl (wk_f rfl (wk_f rfl (wk_f rfl (wk_f rfl (wk_f rfl (wk_f rfl (wk_f rfl (wk_f rfl (wk_f rfl (wk_f rfl (wk_nil)))))))))))))))))))
        · skip
          refine wp_skip' ?_
          refine wp_seq' ?_
          refine wp_region_t ?_
          refine wpc (step_plain rfl (acts_assign (d := 9) (ltN rfl) (OpX.const (.int .i64 1)))) (by kernel_rfl) ?_
          refine wpl_nil ?_
          refine wp_seq' ?_
          refine wp_seq' ?_
          refine wp_region_t ?_
          refine wpc (step_plain rfl (acts_move (d := 36) (ltN rfl) (OpX.tmp 0 (V.v (.int .i64 n))))) (by kernel_rfl) ?_
          refine wpc (step_plain rfl (acts_load_owns (d := 37) (t := 8) (h := 8) (off := 0) (o := ⟨32, 3, true, [(.val (.int .i64 ((gD ds k).x)) : A), .val (.int .i64 ((gD ds k).y)), .val (.bool ((gD ds k).d))]⟩)  (xs := [(.int .i64 ((gD ds k).x) : Value), .int .i64 ((gD ds k).y), .bool ((gD ds k).d)].map A.val) (ltN rfl) qC5_ti_32 rfl (by decide) rfl)) (by kernel_rfl) ?_
          refine wpc (step_plain rfl (acts_call1 (d := 38) (ltN rfl) (spec_l17Back_fn n (gD ds k) (by first | omega | assumption | (have q1 := okD_bd (hok k (by omega)); have q2 := dxy_bd n (gD ds k); have q3 := byI_bd n (gD ds k); (try unfold oth); (try dsimp only); omega) | (have q := groT_len n ds k; omega) | (have := posD_bd (p := eqs (oth n (gD ds k))) ds; omega) | (have := diaRows_len n; omega)) (by first | omega | assumption | (have q1 := okD_bd (hok k (by omega)); have q2 := dxy_bd n (gD ds k); have q3 := byI_bd n (gD ds k); (try unfold oth); (try dsimp only); omega) | (have q := groT_len n ds k; omega) | (have := posD_bd (p := eqs (oth n (gD ds k))) ds; omega) | (have := diaRows_len n; omega)) (by first | omega | assumption | (have q1 := okD_bd (hok k (by omega)); have q2 := dxy_bd n (gD ds k); have q3 := byI_bd n (gD ds k); (try unfold oth); (try dsimp only); omega) | (have q := groT_len n ds k; omega) | (have := posD_bd (p := eqs (oth n (gD ds k))) ds; omega) | (have := diaRows_len n; omega)) (by first | omega | assumption | (have q1 := okD_bd (hok k (by omega)); have q2 := dxy_bd n (gD ds k); have q3 := byI_bd n (gD ds k); (try unfold oth); (try dsimp only); omega) | (have q := groT_len n ds k; omega) | (have := posD_bd (p := eqs (oth n (gD ds k))) ds; omega) | (have := diaRows_len n; omega))) (ArgVs.cons (ArgV.v (OpV.tmp 36 (.int .i64 n))) (ArgVs.cons (ArgV.va (vs := [(.int .i64 ((gD ds k).x) : Value), .int .i64 ((gD ds k).y), .bool ((gD ds k).d)]) (OpV.agg 37 [(.int .i64 ((gD ds k).x) : Value), .int .i64 ((gD ds k).y), .bool ((gD ds k).d)])) (ArgVs.nil))) (ResV.val _))) (by kernel_rfl) ?_
          refine wpl_nil ?_
          refine wp_if (t := 38) ((bk n (gD ds k))) (by kernel_rfl) (fun c8 => ?_) (fun c8 => ?_)
          · skip
            refine wp_region_t ?_
            refine wpc (step_plain rfl (acts_assign (d := 9) (ltN rfl) (OpX.const (.int .i64 (-1))))) (by kernel_rfl) ?_
            refine wpl_nil ?_
            refine wp_seq' ?_
            refine wp_seq' ?_
            refine wp_region_t ?_
            refine wpc (step_plain rfl (acts_field (d := 39) (t := 8) (h := 8) (off := 0) (off' := 2) (ltN rfl) qC5_fo_32_2 rfl)) (by kernel_rfl) ?_
            refine wpc (step_plain rfl (acts_load_own (d := 40) (t := 39) (h := 8) (off := 2) (o := ⟨32, 3, true, [(.val (.int .i64 ((gD ds k).x)) : A), .val (.int .i64 ((gD ds k).y)), .val (.bool ((gD ds k).d))]⟩)  (x := .val (.bool ((gD ds k).d))) (ltN rfl) qC5_ti_4 rfl)) (by kernel_rfl) ?_
            refine wpl_nil ?_
            refine wp_if (t := 40) ((gD ds k).d) (by kernel_rfl) (fun c9 => ?_) (fun c9 => ?_)
            · skip
              refine wp_region_t ?_
              refine wpc (step_plain rfl (acts_field (d := 41) (t := 8) (h := 8) (off := 0) (off' := 0) (ltN rfl) qC5_fo_32_0 rfl)) (by kernel_rfl) ?_
              refine wpc (step_plain rfl (acts_load_own (d := 42) (t := 41) (h := 8) (off := 0) (o := ⟨32, 3, true, [(.val (.int .i64 ((gD ds k).x)) : A), .val (.int .i64 ((gD ds k).y)), .val (.bool ((gD ds k).d))]⟩)  (x := .val (.int .i64 ((gD ds k).x))) (ltN rfl) qC5_ti_3 rfl)) (by kernel_rfl) ?_
              refine wpc (step_plain rfl (acts_move (d := 43) (ltN rfl) (OpX.tmp 9 (V.v (.int .i64 (-1)))))) (by kernel_rfl) ?_
              refine wpc (step_plain rfl (acts_bin (d := 44) (ltN rfl) (OpV.tmp 42 (.int .i64 ((gD ds k).x))) (OpV.tmp 43 (.int .i64 (-1))) (r_add (c := ((gD ds k).x + (-1))) (w64 (by first | omega | assumption | (have q1 := okD_bd (hok k (by omega)); have q2 := dxy_bd n (gD ds k); have q3 := byI_bd n (gD ds k); (try unfold oth); (try dsimp only); omega) | (have q := groT_len n ds k; omega) | (have := posD_bd (p := eqs (oth n (gD ds k))) ds; omega) | (have := diaRows_len n; omega)) (by first | omega | assumption | (have q1 := okD_bd (hok k (by omega)); have q2 := dxy_bd n (gD ds k); have q3 := byI_bd n (gD ds k); (try unfold oth); (try dsimp only); omega) | (have q := groT_len n ds k; omega) | (have := posD_bd (p := eqs (oth n (gD ds k))) ds; omega) | (have := diaRows_len n; omega)))))) (by kernel_rfl) ?_
              refine wpc (step_plain rfl (acts_field (d := 45) (t := 8) (h := 8) (off := 0) (off' := 0) (ltN rfl) qC5_fo_32_0 rfl)) (by kernel_rfl) ?_
              refine wpc (step_plain rfl (acts_store (t := 45) (h := 8) (off := 0) (o := ⟨32, 3, true, [(.val (.int .i64 ((gD ds k).x)) : A), .val (.int .i64 ((gD ds k).y)), .val (.bool ((gD ds k).d))]⟩) (b := .a (.val (.int .i64 ((gD ds k).x + (-1))))) (cells := [(.val (.int .i64 ((gD ds k).x + (-1))) : A), .val (.int .i64 ((gD ds k).y)), .val (.bool ((gD ds k).d))]) qC5_ti_3 (OpX.tmp 44 (V.v (.int .i64 ((gD ds k).x + (-1))))) rfl (by decide) (by intro y hy; simp [B.cs] at hy; subst hy; rfl) (Nat.le_of_ble_eq_true rfl) rfl)) (by kernel_rfl) ?_
              refine wpl_nil ?_
              refine wp_seq' ?_
              refine wp_region_t ?_
              refine wpc (step_plain rfl (acts_field (d := 51) (t := 8) (h := 8) (off := 0) (off' := 0) (ltN rfl) qC5_fo_32_0 rfl)) (by kernel_rfl) ?_
              refine wpc (step_plain rfl (acts_load_own (d := 52) (t := 51) (h := 8) (off := 0) (o := ⟨32, 3, true, [(.val (.int .i64 ((gD ds k).x + (-1))) : A), .val (.int .i64 ((gD ds k).y)), .val (.bool ((gD ds k).d))]⟩)  (x := .val (.int .i64 ((gD ds k).x + (-1)))) (ltN rfl) qC5_ti_3 rfl)) (by kernel_rfl) ?_
              refine wpc (step_plain rfl (acts_bin (d := 53) (ltN rfl) (OpV.tmp 52 (.int .i64 ((gD ds k).x + (-1)))) (OpV.const (.int .i64 1)) (r_add (c := (((gD ds k).x + (-1)) + 1)) (w64 (by first | omega | assumption | (have q1 := okD_bd (hok k (by omega)); have q2 := dxy_bd n (gD ds k); have q3 := byI_bd n (gD ds k); (try unfold oth); (try dsimp only); omega) | (have q := groT_len n ds k; omega) | (have := posD_bd (p := eqs (oth n (gD ds k))) ds; omega) | (have := diaRows_len n; omega)) (by first | omega | assumption | (have q1 := okD_bd (hok k (by omega)); have q2 := dxy_bd n (gD ds k); have q3 := byI_bd n (gD ds k); (try unfold oth); (try dsimp only); omega) | (have q := groT_len n ds k; omega) | (have := posD_bd (p := eqs (oth n (gD ds k))) ds; omega) | (have := diaRows_len n; omega)))))) (by kernel_rfl) ?_
              refine wpc (step_plain rfl (acts_field (d := 54) (t := 8) (h := 8) (off := 0) (off' := 0) (ltN rfl) qC5_fo_32_0 rfl)) (by kernel_rfl) ?_
              refine wpc (step_plain rfl (acts_store (t := 54) (h := 8) (off := 0) (o := ⟨32, 3, true, [(.val (.int .i64 ((gD ds k).x + (-1))) : A), .val (.int .i64 ((gD ds k).y)), .val (.bool ((gD ds k).d))]⟩) (b := .a (.val (.int .i64 (((gD ds k).x + (-1)) + 1)))) (cells := [(.val (.int .i64 (((gD ds k).x + (-1)) + 1)) : A), .val (.int .i64 ((gD ds k).y)), .val (.bool ((gD ds k).d))]) qC5_ti_3 (OpX.tmp 53 (V.v (.int .i64 (((gD ds k).x + (-1)) + 1)))) rfl (by decide) (by intro y hy; simp [B.cs] at hy; subst hy; rfl) (Nat.le_of_ble_eq_true rfl) rfl)) (by kernel_rfl) ?_
              refine wpl_nil ?_
              refine wp_seq' ?_
              refine wp_region_t ?_
              refine wpc (step_plain rfl (acts_field (d := 55) (t := 8) (h := 8) (off := 0) (off' := 1) (ltN rfl) qC5_fo_32_1 rfl)) (by kernel_rfl) ?_
              refine wpc (step_plain rfl (acts_load_own (d := 56) (t := 55) (h := 8) (off := 1) (o := ⟨32, 3, true, [(.val (.int .i64 (((gD ds k).x + (-1)) + 1)) : A), .val (.int .i64 ((gD ds k).y)), .val (.bool ((gD ds k).d))]⟩)  (x := .val (.int .i64 ((gD ds k).y))) (ltN rfl) qC5_ti_3 rfl)) (by kernel_rfl) ?_
              refine wpc (step_plain rfl (acts_bin (d := 57) (ltN rfl) (OpV.tmp 56 (.int .i64 ((gD ds k).y))) (OpV.const (.int .i64 1)) (r_add (c := ((gD ds k).y + 1)) (w64 (by first | omega | assumption | (have q1 := okD_bd (hok k (by omega)); have q2 := dxy_bd n (gD ds k); have q3 := byI_bd n (gD ds k); (try unfold oth); (try dsimp only); omega) | (have q := groT_len n ds k; omega) | (have := posD_bd (p := eqs (oth n (gD ds k))) ds; omega) | (have := diaRows_len n; omega)) (by first | omega | assumption | (have q1 := okD_bd (hok k (by omega)); have q2 := dxy_bd n (gD ds k); have q3 := byI_bd n (gD ds k); (try unfold oth); (try dsimp only); omega) | (have q := groT_len n ds k; omega) | (have := posD_bd (p := eqs (oth n (gD ds k))) ds; omega) | (have := diaRows_len n; omega)))))) (by kernel_rfl) ?_
              refine wpc (step_plain rfl (acts_field (d := 58) (t := 8) (h := 8) (off := 0) (off' := 1) (ltN rfl) qC5_fo_32_1 rfl)) (by kernel_rfl) ?_
              refine wpc (step_plain rfl (acts_store (t := 58) (h := 8) (off := 1) (o := ⟨32, 3, true, [(.val (.int .i64 (((gD ds k).x + (-1)) + 1)) : A), .val (.int .i64 ((gD ds k).y)), .val (.bool ((gD ds k).d))]⟩) (b := .a (.val (.int .i64 ((gD ds k).y + 1)))) (cells := [(.val (.int .i64 (((gD ds k).x + (-1)) + 1)) : A), .val (.int .i64 ((gD ds k).y + 1)), .val (.bool ((gD ds k).d))]) qC5_ti_3 (OpX.tmp 57 (V.v (.int .i64 ((gD ds k).y + 1)))) rfl (by decide) (by intro y hy; simp [B.cs] at hy; subst hy; rfl) (Nat.le_of_ble_eq_true rfl) rfl)) (by kernel_rfl) ?_
              refine wpl_nil ?_
              refine wp_region_t ?_
              refine wpc (step_plain rfl (acts_move (d := 59) (ltN rfl) (OpX.tmp 6 (V.b (.a (.sl 10 0 ((groT n ds k).length))))))) (by kernel_rfl) ?_
              refine wpc (step_plain rfl (acts_load_owns (d := 60) (t := 8) (h := 8) (off := 0) (o := ⟨32, 3, true, [(.val (.int .i64 (((gD ds k).x + (-1)) + 1)) : A), .val (.int .i64 ((gD ds k).y + 1)), .val (.bool ((gD ds k).d))]⟩)  (xs := [(.int .i64 (((gD ds k).x + (-1)) + 1) : Value), .int .i64 ((gD ds k).y + 1), .bool ((gD ds k).d)].map A.val) (ltN rfl) qC5_ti_32 rfl (by decide) rfl)) (by kernel_rfl) ?_
              refine wpc (step_plain rfl (acts_buildSlice' (d := 61) (h := 61) (n := 1) (s := 3) (xs := dsl ([(⟨(((gD ds k).x + (-1)) + 1), ((gD ds k).y + 1), (gD ds k).d⟩ : Dom)] : List Dom)) (ltN rfl) qC5_un_42 qC5_zi_32 (OpVs.cons (i := 0) (OpV.agg 60 [(.int .i64 (((gD ds k).x + (-1)) + 1) : Value), .int .i64 ((gD ds k).y + 1), .bool ((gD ds k).d)]) (OpVs.nil)) (by decide) (by decide) (by kernel_rfl) rfl)) (by kernel_rfl) ?_
              refine wpc (step_plain rfl (acts_app (d := 62) (x := 59) (h := 10) (h2 := 62) (n := ((groT n ds k).length)) (m := 1) (nm := (((groT n ds k) ++ [(⟨(((gD ds k).x + (-1)) + 1), ((gD ds k).y + 1), (gD ds k).d⟩ : Dom)]).length)) (X := .sl 61 0 1) (xs := dsl (groT n ds k)) (ys := dsl [(⟨(((gD ds k).x + (-1)) + 1), ((gD ds k).y + 1), (gD ds k).d⟩ : Dom)]) (zs := dsl ((groT n ds k) ++ [(⟨(((gD ds k).x + (-1)) + 1), ((gD ds k).y + 1), (gD ds k).d⟩ : Dom)])) (ltN rfl) qC5_un_42 qC5_zi_32 rfl (by decide) (by decide) (by first | exact dsl_len _ | (simp [isl_len, bsl_len, dsl_len, csl_len]; done) | (simp [isl_len, bsl_len, dsl_len, csl_len]; omega)) (OpX.tmp 61 (V.b (.a (.sl 61 0 1)))) (src_own (h := 61) (T := 32) (s := 3) (ex := true) (n := 1) (by first | exact dsl_len _ | (simp [isl_len, bsl_len, dsl_len, csl_len]; done) | (simp [isl_len, bsl_len, dsl_len, csl_len]; omega))) (dsl_one' _) (by first | omega | (simp; omega) | (simp at *; omega)) (by first | exact (dsl_append _ _).symm | rfl | simp [dsl_append]) (by first | rfl | (simp; done) | (simp; omega) | omega))) (by kernel_rfl) ?_
              refine wpc (step_plain rfl (acts_assign (d := 6) (ltN rfl) (OpX.tmp 62 (V.b (.a (.sl 62 0 (((groT n ds k) ++ [(⟨(((gD ds k).x + (-1)) + 1), ((gD ds k).y + 1), (gD ds k).d⟩ : Dom)]).length))))))) (by kernel_rfl) ?_
              refine wpl_nil ?_
              refine wp_region_t ?_
              refine wpc (step_plain rfl (acts_move (d := 26) (ltN rfl) (OpX.tmp 7 (V.v (.int .i64 ((k : Nat) : Int)))))) (by kernel_rfl) ?_
              refine wpc (step_plain rfl (acts_bin (d := 27) (ltN rfl) (OpV.tmp 26 (.int .i64 ((k : Nat) : Int))) (OpV.const (.int .i64 1)) (r_add (c := (((k : Nat) : Int) + 1)) (w64 (by first | omega | assumption | (have q1 := okD_bd (hok k (by omega)); have q2 := dxy_bd n (gD ds k); have q3 := byI_bd n (gD ds k); (try unfold oth); (try dsimp only); omega) | (have q := groT_len n ds k; omega) | (have := posD_bd (p := eqs (oth n (gD ds k))) ds; omega) | (have := diaRows_len n; omega)) (by first | omega | assumption | (have q1 := okD_bd (hok k (by omega)); have q2 := dxy_bd n (gD ds k); have q3 := byI_bd n (gD ds k); (try unfold oth); (try dsimp only); omega) | (have q := groT_len n ds k; omega) | (have := posD_bd (p := eqs (oth n (gD ds k))) ds; omega) | (have := diaRows_len n; omega)))))) (by kernel_rfl) ?_
              refine wpc (step_plain rfl (acts_assign (d := 7) (ltN rfl) (OpX.tmp 27 (V.v (.int .i64 (((k : Nat) : Int) + 1)))))) (by kernel_rfl) ?_
              refine wpl_nil ?_
              exact loop_back ((k + 1)) (by show _ ≤ _; omega) (by show ds.length - (k + 1) < ds.length - k; omega) (weak_of (subst1 [(10, 62)]) [8, 12, 16, 18, 24, 35, 38, 61, 62, 64] (by kernel_rfl) (wk_s (v' := V.v (.int .i64 n)) (by kernel_rfl) rfl rfl (wk_s (v' := V.b (.a (.slv ds.length 3 (dsl ds)))) (by kernel_rfl) rfl rfl (wk_s (v' := V.v (.slice none 0 0)) (by kernel_rfl) rfl rfl (wk_s (v' := V.v (.bool false)) (by kernel_rfl) rfl rfl (wk_s (v' := V.b (.a (.sl 62 0 (((groT n ds k) ++ [(⟨(((gD ds k).x + (-1)) + 1), ((gD ds k).y + 1), (gD ds k).d⟩ : Dom)]).length)))) (by kernel_rfl) (vsl (by first | rfl | (simp; done) | (simp; omega) | omega | (exact congrArg List.length (by first | rfl | exact groT_yes (by omega) (by assumption) | (refine groT_e (by omega) (by assumption) ?_ ?_ ?_ <;> first | rfl | (unfold dxI byI; simp_all; done) | (unfold dxI byI; simp_all; omega) | (unfold dyI byI; simp_all; done) | (unfold dyI byI; simp_all; omega)) | exact groT_no (by omega) (by assumption) | omega))) rfl) rfl (wk_s (v' := V.v (.int .i64 (((k : Nat) : Int) + 1))) (by kernel_rfl) (vint (by first | rfl | exact groT_yes (by omega) (by assumption) | (refine groT_e (by omega) (by assumption) ?_ ?_ ?_ <;> first | rfl | (unfold dxI byI; simp_all; done) | (unfold dxI byI; simp_all; omega) | (unfold dyI byI; simp_all; done) | (unfold dyI byI; simp_all; omega)) | exact groT_no (by omega) (by assumption) | omega)) rfl (wk_o (o' := ⟨32, 3, true, pl (dsl ((groT n ds k) ++ [(⟨(((gD ds k).x + (-1)) + 1), ((gD ds k).y + 1), (gD ds k).d⟩ : Dom)]))⟩) (by kernel_rfl) (renob_eq (fun h => h) (congrArg dsl (by first | rfl | exact groT_yes (by omega) (by assumption) | (refine groT_e (by omega) (by assumption) ?_ ?_ ?_ <;> first | rfl | (unfold dxI byI; simp_all; done) | (unfold dxI byI; simp_all; omega) | (unfold dyI byI; simp_all; done) | (unfold dyI byI; simp_all; omega)) | exact groT_no (by omega) (by assumption) | omega))) rfl (wk_f rfl (wk_f rfl (wk_f rfl (wk_f rfl (wk_f rfl (wk_f rfl (wk_f rfl (wk_f rfl (wk_f rfl (wk_f rfl (wk_nil)))))))))))))))))))
            · skip
              refine wp_region_t ?_
              refine wpc (step_plain rfl (acts_field (d := 46) (t := 8) (h := 8) (off := 0) (off' := 1) (ltN rfl) qC5_fo_32_1 rfl)) (by kernel_rfl) ?_
              refine wpc (step_plain rfl (acts_load_own (d := 47) (t := 46) (h := 8) (off := 1) (o := ⟨32, 3, true, [(.val (.int .i64 ((gD ds k).x)) : A), .val (.int .i64 ((gD ds k).y)), .val (.bool ((gD ds k).d))]⟩)  (x := .val (.int .i64 ((gD ds k).y))) (ltN rfl) qC5_ti_3 rfl)) (by kernel_rfl) ?_
              refine wpc (step_plain rfl (acts_move (d := 48) (ltN rfl) (OpX.tmp 9 (V.v (.int .i64 (-1)))))) (by kernel_rfl) ?_
              refine wpc (step_plain rfl (acts_bin (d := 49) (ltN rfl) (OpV.tmp 47 (.int .i64 ((gD ds k).y))) (OpV.tmp 48 (.int .i64 (-1))) (r_add (c := ((gD ds k).y + (-1))) (w64 (by first | omega | assumption | (have q1 := okD_bd (hok k (by omega)); have q2 := dxy_bd n (gD ds k); have q3 := byI_bd n (gD ds k); (try unfold oth); (try dsimp only); omega) | (have q := groT_len n ds k; omega) | (have := posD_bd (p := eqs (oth n (gD ds k))) ds; omega) | (have := diaRows_len n; omega)) (by first | omega | assumption | (have q1 := okD_bd (hok k (by omega)); have q2 := dxy_bd n (gD ds k); have q3 := byI_bd n (gD ds k); (try unfold oth); (try dsimp only); omega) | (have q := groT_len n ds k; omega) | (have := posD_bd (p := eqs (oth n (gD ds k))) ds; omega) | (have := diaRows_len n; omega)))))) (by kernel_rfl) ?_
              refine wpc (step_plain rfl (acts_field (d := 50) (t := 8) (h := 8) (off := 0) (off' := 1) (ltN rfl) qC5_fo_32_1 rfl)) (by kernel_rfl) ?_
              refine wpc (step_plain rfl (acts_store (t := 50) (h := 8) (off := 1) (o := ⟨32, 3, true, [(.val (.int .i64 ((gD ds k).x)) : A), .val (.int .i64 ((gD ds k).y)), .val (.bool ((gD ds k).d))]⟩) (b := .a (.val (.int .i64 ((gD ds k).y + (-1))))) (cells := [(.val (.int .i64 ((gD ds k).x)) : A), .val (.int .i64 ((gD ds k).y + (-1))), .val (.bool ((gD ds k).d))]) qC5_ti_3 (OpX.tmp 49 (V.v (.int .i64 ((gD ds k).y + (-1))))) rfl (by decide) (by intro y hy; simp [B.cs] at hy; subst hy; rfl) (Nat.le_of_ble_eq_true rfl) rfl)) (by kernel_rfl) ?_
              refine wpl_nil ?_
              refine wp_seq' ?_
              refine wp_region_t ?_
              refine wpc (step_plain rfl (acts_field (d := 51) (t := 8) (h := 8) (off := 0) (off' := 0) (ltN rfl) qC5_fo_32_0 rfl)) (by kernel_rfl) ?_
              refine wpc (step_plain rfl (acts_load_own (d := 52) (t := 51) (h := 8) (off := 0) (o := ⟨32, 3, true, [(.val (.int .i64 ((gD ds k).x)) : A), .val (.int .i64 ((gD ds k).y + (-1))), .val (.bool ((gD ds k).d))]⟩)  (x := .val (.int .i64 ((gD ds k).x))) (ltN rfl) qC5_ti_3 rfl)) (by kernel_rfl) ?_
              refine wpc (step_plain rfl (acts_bin (d := 53) (ltN rfl) (OpV.tmp 52 (.int .i64 ((gD ds k).x))) (OpV.const (.int .i64 1)) (r_add (c := ((gD ds k).x + 1)) (w64 (by first | omega | assumption | (have q1 := okD_bd (hok k (by omega)); have q2 := dxy_bd n (gD ds k); have q3 := byI_bd n (gD ds k); (try unfold oth); (try dsimp only); omega) | (have q := groT_len n ds k; omega) | (have := posD_bd (p := eqs (oth n (gD ds k))) ds; omega) | (have := diaRows_len n; omega)) (by first | omega | assumption | (have q1 := okD_bd (hok k (by omega)); have q2 := dxy_bd n (gD ds k); have q3 := byI_bd n (gD ds k); (try unfold oth); (try dsimp only); omega) | (have q := groT_len n ds k; omega) | (have := posD_bd (p := eqs (oth n (gD ds k))) ds; omega) | (have := diaRows_len n; omega)))))) (by kernel_rfl) ?_
              refine wpc (step_plain rfl (acts_field (d := 54) (t := 8) (h := 8) (off := 0) (off' := 0) (ltN rfl) qC5_fo_32_0 rfl)) (by kernel_rfl) ?_
              refine wpc (step_plain rfl (acts_store (t := 54) (h := 8) (off := 0) (o := ⟨32, 3, true, [(.val (.int .i64 ((gD ds k).x)) : A), .val (.int .i64 ((gD ds k).y + (-1))), .val (.bool ((gD ds k).d))]⟩) (b := .a (.val (.int .i64 ((gD ds k).x + 1)))) (cells := [(.val (.int .i64 ((gD ds k).x + 1)) : A), .val (.int .i64 ((gD ds k).y + (-1))), .val (.bool ((gD ds k).d))]) qC5_ti_3 (OpX.tmp 53 (V.v (.int .i64 ((gD ds k).x + 1)))) rfl (by decide) (by intro y hy; simp [B.cs] at hy; subst hy; rfl) (Nat.le_of_ble_eq_true rfl) rfl)) (by kernel_rfl) ?_
              refine wpl_nil ?_
              refine wp_seq' ?_
              refine wp_region_t ?_
              refine wpc (step_plain rfl (acts_field (d := 55) (t := 8) (h := 8) (off := 0) (off' := 1) (ltN rfl) qC5_fo_32_1 rfl)) (by kernel_rfl) ?_
              refine wpc (step_plain rfl (acts_load_own (d := 56) (t := 55) (h := 8) (off := 1) (o := ⟨32, 3, true, [(.val (.int .i64 ((gD ds k).x + 1)) : A), .val (.int .i64 ((gD ds k).y + (-1))), .val (.bool ((gD ds k).d))]⟩)  (x := .val (.int .i64 ((gD ds k).y + (-1)))) (ltN rfl) qC5_ti_3 rfl)) (by kernel_rfl) ?_
              refine wpc (step_plain rfl (acts_bin (d := 57) (ltN rfl) (OpV.tmp 56 (.int .i64 ((gD ds k).y + (-1)))) (OpV.const (.int .i64 1)) (r_add (c := (((gD ds k).y + (-1)) + 1)) (w64 (by first | omega | assumption | (have q1 := okD_bd (hok k (by omega)); have q2 := dxy_bd n (gD ds k); have q3 := byI_bd n (gD ds k); (try unfold oth); (try dsimp only); omega) | (have q := groT_len n ds k; omega) | (have := posD_bd (p := eqs (oth n (gD ds k))) ds; omega) | (have := diaRows_len n; omega)) (by first | omega | assumption | (have q1 := okD_bd (hok k (by omega)); have q2 := dxy_bd n (gD ds k); have q3 := byI_bd n (gD ds k); (try unfold oth); (try dsimp only); omega) | (have q := groT_len n ds k; omega) | (have := posD_bd (p := eqs (oth n (gD ds k))) ds; omega) | (have := diaRows_len n; omega)))))) (by kernel_rfl) ?_
              refine wpc (step_plain rfl (acts_field (d := 58) (t := 8) (h := 8) (off := 0) (off' := 1) (ltN rfl) qC5_fo_32_1 rfl)) (by kernel_rfl) ?_
              refine wpc (step_plain rfl (acts_store (t := 58) (h := 8) (off := 1) (o := ⟨32, 3, true, [(.val (.int .i64 ((gD ds k).x + 1)) : A), .val (.int .i64 ((gD ds k).y + (-1))), .val (.bool ((gD ds k).d))]⟩) (b := .a (.val (.int .i64 (((gD ds k).y + (-1)) + 1)))) (cells := [(.val (.int .i64 ((gD ds k).x + 1)) : A), .val (.int .i64 (((gD ds k).y + (-1)) + 1)), .val (.bool ((gD ds k).d))]) qC5_ti_3 (OpX.tmp 57 (V.v (.int .i64 (((gD ds k).y + (-1)) + 1)))) rfl (by decide) (by intro y hy; simp [B.cs] at hy; subst hy; rfl) (Nat.le_of_ble_eq_true rfl) rfl)) (by kernel_rfl) ?_
              refine wpl_nil ?_
              refine wp_region_t ?_
              refine wpc (step_plain rfl (acts_move (d := 59) (ltN rfl) (OpX.tmp 6 (V.b (.a (.sl 10 0 ((groT n ds k).length))))))) (by kernel_rfl) ?_
              refine wpc (step_plain rfl (acts_load_owns (d := 60) (t := 8) (h := 8) (off := 0) (o := ⟨32, 3, true, [(.val (.int .i64 ((gD ds k).x + 1)) : A), .val (.int .i64 (((gD ds k).y + (-1)) + 1)), .val (.bool ((gD ds k).d))]⟩)  (xs := [(.int .i64 ((gD ds k).x + 1) : Value), .int .i64 (((gD ds k).y + (-1)) + 1), .bool ((gD ds k).d)].map A.val) (ltN rfl) qC5_ti_32 rfl (by decide) rfl)) (by kernel_rfl) ?_
              refine wpc (step_plain rfl (acts_buildSlice' (d := 61) (h := 61) (n := 1) (s := 3) (xs := dsl ([(⟨((gD ds k).x + 1), (((gD ds k).y + (-1)) + 1), (gD ds k).d⟩ : Dom)] : List Dom)) (ltN rfl) qC5_un_42 qC5_zi_32 (OpVs.cons (i := 0) (OpV.agg 60 [(.int .i64 ((gD ds k).x + 1) : Value), .int .i64 (((gD ds k).y + (-1)) + 1), .bool ((gD ds k).d)]) (OpVs.nil)) (by decide) (by decide) (by kernel_rfl) rfl)) (by kernel_rfl) ?_
              refine wpc (step_plain rfl (acts_app (d := 62) (x := 59) (h := 10) (h2 := 62) (n := ((groT n ds k).length)) (m := 1) (nm := (((groT n ds k) ++ [(⟨((gD ds k).x + 1), (((gD ds k).y + (-1)) + 1), (gD ds k).d⟩ : Dom)]).length)) (X := .sl 61 0 1) (xs := dsl (groT n ds k)) (ys := dsl [(⟨((gD ds k).x + 1), (((gD ds k).y + (-1)) + 1), (gD ds k).d⟩ : Dom)]) (zs := dsl ((groT n ds k) ++ [(⟨((gD ds k).x + 1), (((gD ds k).y + (-1)) + 1), (gD ds k).d⟩ : Dom)])) (ltN rfl) qC5_un_42 qC5_zi_32 rfl (by decide) (by decide) (by first | exact dsl_len _ | (simp [isl_len, bsl_len, dsl_len, csl_len]; done) | (simp [isl_len, bsl_len, dsl_len, csl_len]; omega)) (OpX.tmp 61 (V.b (.a (.sl 61 0 1)))) (src_own (h := 61) (T := 32) (s := 3) (ex := true) (n := 1) (by first | exact dsl_len _ | (simp [isl_len, bsl_len, dsl_len, csl_len]; done) | (simp [isl_len, bsl_len, dsl_len, csl_len]; omega))) (dsl_one' _) (by first | omega | (simp; omega) | (simp at *; omega)) (by first | exact (dsl_append _ _).symm | rfl | simp [dsl_append]) (by first | rfl | (simp; done) | (simp; omega) | omega))) (by kernel_rfl) ?_
              refine wpc (step_plain rfl (acts_assign (d := 6) (ltN rfl) (OpX.tmp 62 (V.b (.a (.sl 62 0 (((groT n ds k) ++ [(⟨((gD ds k).x + 1), (((gD ds k).y + (-1)) + 1), (gD ds k).d⟩ : Dom)]).length))))))) (by kernel_rfl) ?_
              refine wpl_nil ?_
              refine wp_region_t ?_
              refine wpc (step_plain rfl (acts_move (d := 26) (ltN rfl) (OpX.tmp 7 (V.v (.int .i64 ((k : Nat) : Int)))))) (by kernel_rfl) ?_
              refine wpc (step_plain rfl (acts_bin (d := 27) (ltN rfl) (OpV.tmp 26 (.int .i64 ((k : Nat) : Int))) (OpV.const (.int .i64 1)) (r_add (c := (((k : Nat) : Int) + 1)) (w64 (by first | omega | assumption | (have q1 := okD_bd (hok k (by omega)); have q2 := dxy_bd n (gD ds k); have q3 := byI_bd n (gD ds k); (try unfold oth); (try dsimp only); omega) | (have q := groT_len n ds k; omega) | (have := posD_bd (p := eqs (oth n (gD ds k))) ds; omega) | (have := diaRows_len n; omega)) (by first | omega | assumption | (have q1 := okD_bd (hok k (by omega)); have q2 := dxy_bd n (gD ds k); have q3 := byI_bd n (gD ds k); (try unfold oth); (try dsimp only); omega) | (have q := groT_len n ds k; omega) | (have := posD_bd (p := eqs (oth n (gD ds k))) ds; omega) | (have := diaRows_len n; omega)))))) (by kernel_rfl) ?_
              refine wpc (step_plain rfl (acts_assign (d := 7) (ltN rfl) (OpX.tmp 27 (V.v (.int .i64 (((k : Nat) : Int) + 1)))))) (by kernel_rfl) ?_
              refine wpl_nil ?_
              exact loop_back ((k + 1)) (by show _ ≤ _; omega) (by show ds.length - (k + 1) < ds.length - k; omega) (weak_of (subst1 [(10, 62)]) [8, 12, 16, 18, 24, 35, 38, 61, 62, 64] (by kernel_rfl) (wk_s (v' := V.v (.int .i64 n)) (by kernel_rfl) rfl rfl (wk_s (v' := V.b (.a (.slv ds.length 3 (dsl ds)))) (by kernel_rfl) rfl rfl (wk_s (v' := V.v (.slice none 0 0)) (by kernel_rfl) rfl rfl (wk_s (v' := V.v (.bool false)) (by kernel_rfl) rfl rfl (wk_s (v' := V.b (.a (.sl 62 0 (((groT n ds k) ++ [(⟨((gD ds k).x + 1), (((gD ds k).y + (-1)) + 1), (gD ds k).d⟩ : Dom)]).length)))) (by kernel_rfl) (vsl (by first | rfl | (simp; done) | (simp; omega) | omega | (exact congrArg List.length (by first | rfl | exact groT_yes (by omega) (by assumption) | (refine groT_e (by omega) (by assumption) ?_ ?_ ?_ <;> first | rfl | (unfold dxI byI; simp_all; done) | (unfold dxI byI; simp_all; omega) | (unfold dyI byI; simp_all; done) | (unfold dyI byI; simp_all; omega)) | exact groT_no (by omega) (by assumption) | omega))) rfl) rfl (wk_s (v' := V.v (.int .i64 (((k : Nat) : Int) + 1))) (by kernel_rfl) (vint (by first | rfl | exact groT_yes (by omega) (by assumption) | (refine groT_e (by omega) (by assumption) ?_ ?_ ?_ <;> first | rfl | (unfold dxI byI; simp_all; done) | (unfold dxI byI; simp_all; omega) | (unfold dyI byI; simp_all; done) | (unfold dyI byI; simp_all; omega)) | exact groT_no (by omega) (by assumption) | omega)) rfl (wk_o (o' := ⟨32, 3, true, pl (dsl ((groT n ds k) ++ [(⟨((gD ds k).x + 1), (((gD ds k).y + (-1)) + 1), (gD ds k).d⟩ : Dom)]))⟩) (by kernel_rfl) (renob_eq (fun h => h) (congrArg dsl (by first | rfl | exact groT_yes (by omega) (by assumption) | (refine groT_e (by omega) (by assumption) ?_ ?_ ?_ <;> first | rfl | (unfold dxI byI; simp_all; done) | (unfold dxI byI; simp_all; omega) | (unfold dyI byI; simp_all; done) | (unfold dyI byI; simp_all; omega)) | exact groT_no (by omega) (by assumption) | omega))) rfl (wk_f rfl (wk_f rfl (wk_f rfl (wk_f rfl (wk_f rfl (wk_f rfl (wk_f rfl (wk_f rfl (wk_f rfl (wk_f rfl (wk_nil)))))))))))))))))))
          · skip
            refine wp_skip' ?_
            refine wp_seq' ?_
            refine wp_seq' ?_
            refine wp_region_t ?_
            refine wpc (step_plain rfl (acts_field (d := 39) (t := 8) (h := 8) (off := 0) (off' := 2) (ltN rfl) qC5_fo_32_2 rfl)) (by kernel_rfl) ?_
            refine wpc (step_plain rfl (acts_load_own (d := 40) (t := 39) (h := 8) (off := 2) (o := ⟨32, 3, true, [(.val (.int .i64 ((gD ds k).x)) : A), .val (.int .i64 ((gD ds k).y)), .val (.bool ((gD ds k).d))]⟩)  (x := .val (.bool ((gD ds k).d))) (ltN rfl) qC5_ti_4 rfl)) (by kernel_rfl) ?_
            refine wpl_nil ?_
            refine wp_if (t := 40) ((gD ds k).d) (by kernel_rfl) (fun c10 => ?_) (fun c10 => ?_)
            · skip
              refine wp_region_t ?_
              refine wpc (step_plain rfl (acts_field (d := 41) (t := 8) (h := 8) (off := 0) (off' := 0) (ltN rfl) qC5_fo_32_0 rfl)) (by kernel_rfl) ?_
              refine wpc (step_plain rfl (acts_load_own (d := 42) (t := 41) (h := 8) (off := 0) (o := ⟨32, 3, true, [(.val (.int .i64 ((gD ds k).x)) : A), .val (.int .i64 ((gD ds k).y)), .val (.bool ((gD ds k).d))]⟩)  (x := .val (.int .i64 ((gD ds k).x))) (ltN rfl) qC5_ti_3 rfl)) (by kernel_rfl) ?_
              refine wpc (step_plain rfl (acts_move (d := 43) (ltN rfl) (OpX.tmp 9 (V.v (.int .i64 1))))) (by kernel_rfl) ?_
              refine wpc (step_plain rfl (acts_bin (d := 44) (ltN rfl) (OpV.tmp 42 (.int .i64 ((gD ds k).x))) (OpV.tmp 43 (.int .i64 1)) (r_add (c := ((gD ds k).x + 1)) (w64 (by first | omega | assumption | (have q1 := okD_bd (hok k (by omega)); have q2 := dxy_bd n (gD ds k); have q3 := byI_bd n (gD ds k); (try unfold oth); (try dsimp only); omega) | (have q := groT_len n ds k; omega) | (have := posD_bd (p := eqs (oth n (gD ds k))) ds; omega) | (have := diaRows_len n; omega)) (by first | omega | assumption | (have q1 := okD_bd (hok k (by omega)); have q2 := dxy_bd n (gD ds k); have q3 := byI_bd n (gD ds k); (try unfold oth); (try dsimp only); omega) | (have q := groT_len n ds k; omega) | (have := posD_bd (p := eqs (oth n (gD ds k))) ds; omega) | (have := diaRows_len n; omega)))))) (by kernel_rfl) ?_
              refine wpc (step_plain rfl (acts_field (d := 45) (t := 8) (h := 8) (off := 0) (off' := 0) (ltN rfl) qC5_fo_32_0 rfl)) (by kernel_rfl) ?_
              refine wpc (step_plain rfl (acts_store (t := 45) (h := 8) (off := 0) (o := ⟨32, 3, true, [(.val (.int .i64 ((gD ds k).x)) : A), .val (.int .i64 ((gD ds k).y)), .val (.bool ((gD ds k).d))]⟩) (b := .a (.val (.int .i64 ((gD ds k).x + 1)))) (cells := [(.val (.int .i64 ((gD ds k).x + 1)) : A), .val (.int .i64 ((gD ds k).y)), .val (.bool ((gD ds k).d))]) qC5_ti_3 (OpX.tmp 44 (V.v (.int .i64 ((gD ds k).x + 1)))) rfl (by decide) (by intro y hy; simp [B.cs] at hy; subst hy; rfl) (Nat.le_of_ble_eq_true rfl) rfl)) (by kernel_rfl) ?_
              refine wpl_nil ?_
              refine wp_seq' ?_
              refine wp_region_t ?_
              refine wpc (step_plain rfl (acts_field (d := 51) (t := 8) (h := 8) (off := 0) (off' := 0) (ltN rfl) qC5_fo_32_0 rfl)) (by kernel_rfl) ?_
              refine wpc (step_plain rfl (acts_load_own (d := 52) (t := 51) (h := 8) (off := 0) (o := ⟨32, 3, true, [(.val (.int .i64 ((gD ds k).x + 1)) : A), .val (.int .i64 ((gD ds k).y)), .val (.bool ((gD ds k).d))]⟩)  (x := .val (.int .i64 ((gD ds k).x + 1))) (ltN rfl) qC5_ti_3 rfl)) (by kernel_rfl) ?_
              refine wpc (step_plain rfl (acts_bin (d := 53) (ltN rfl) (OpV.tmp 52 (.int .i64 ((gD ds k).x + 1))) (OpV.const (.int .i64 1)) (r_add (c := (((gD ds k).x + 1) + 1)) (w64 (by first | omega | assumption | (have q1 := okD_bd (hok k (by omega)); have q2 := dxy_bd n (gD ds k); have q3 := byI_bd n (gD ds k); (try unfold oth); (try dsimp only); omega) | (have q := groT_len n ds k; omega) | (have := posD_bd (p := eqs (oth n (gD ds k))) ds; omega) | (have := diaRows_len n; omega)) (by first | omega | assumption | (have q1 := okD_bd (hok k (by omega)); have q2 := dxy_bd n (gD ds k); have q3 := byI_bd n (gD ds k); (try unfold oth); (try dsimp only); omega) | (have q := groT_len n ds k; omega) | (have := posD_bd (p := eqs (oth n (gD ds k))) ds; omega) | (have := diaRows_len n; omega)))))) (by kernel_rfl) ?_
              refine wpc (step_plain rfl (acts_field (d := 54) (t := 8) (h := 8) (off := 0) (off' := 0) (ltN rfl) qC5_fo_32_0 rfl)) (by kernel_rfl) ?_
              refine wpc (step_plain rfl (acts_store (t := 54) (h := 8) (off := 0) (o := ⟨32, 3, true, [(.val (.int .i64 ((gD ds k).x + 1)) : A), .val (.int .i64 ((gD ds k).y)), .val (.bool ((gD ds k).d))]⟩) (b := .a (.val (.int .i64 (((gD ds k).x + 1) + 1)))) (cells := [(.val (.int .i64 (((gD ds k).x + 1) + 1)) : A), .val (.int .i64 ((gD ds k).y)), .val (.bool ((gD ds k).d))]) qC5_ti_3 (OpX.tmp 53 (V.v (.int .i64 (((gD ds k).x + 1) + 1)))) rfl (by decide) (by intro y hy; simp [B.cs] at hy; subst hy; rfl) (Nat.le_of_ble_eq_true rfl) rfl)) (by kernel_rfl) ?_
              refine wpl_nil ?_
              refine wp_seq' ?_
              refine wp_region_t ?_
              refine wpc (step_plain rfl (acts_field (d := 55) (t := 8) (h := 8) (off := 0) (off' := 1) (ltN rfl) qC5_fo_32_1 rfl)) (by kernel_rfl) ?_
              refine wpc (step_plain rfl (acts_load_own (d := 56) (t := 55) (h := 8) (off := 1) (o := ⟨32, 3, true, [(.val (.int .i64 (((gD ds k).x + 1) + 1)) : A), .val (.int .i64 ((gD ds k).y)), .val (.bool ((gD ds k).d))]⟩)  (x := .val (.int .i64 ((gD ds k).y))) (ltN rfl) qC5_ti_3 rfl)) (by kernel_rfl) ?_
              refine wpc (step_plain rfl (acts_bin (d := 57) (ltN rfl) (OpV.tmp 56 (.int .i64 ((gD ds k).y))) (OpV.const (.int .i64 1)) (r_add (c := ((gD ds k).y + 1)) (w64 (by first | omega | assumption | (have q1 := okD_bd (hok k (by omega)); have q2 := dxy_bd n (gD ds k); have q3 := byI_bd n (gD ds k); (try unfold oth); (try dsimp only); omega) | (have q := groT_len n ds k; omega) | (have := posD_bd (p := eqs (oth n (gD ds k))) ds; omega) | (have := diaRows_len n; omega)) (by first | omega | assumption | (have q1 := okD_bd (hok k (by omega)); have q2 := dxy_bd n (gD ds k); have q3 := byI_bd n (gD ds k); (try unfold oth); (try dsimp only); omega) | (have q := groT_len n ds k; omega) | (have := posD_bd (p := eqs (oth n (gD ds k))) ds; omega) | (have := diaRows_len n; omega)))))) (by kernel_rfl) ?_
              refine wpc (step_plain rfl (acts_field (d := 58) (t := 8) (h := 8) (off := 0) (off' := 1) (ltN rfl) qC5_fo_32_1 rfl)) (by kernel_rfl) ?_
              refine wpc (step_plain rfl (acts_store (t := 58) (h := 8) (off := 1) (o := ⟨32, 3, true, [(.val (.int .i64 (((gD ds k).x + 1) + 1)) : A), .val (.int .i64 ((gD ds k).y)), .val (.bool ((gD ds k).d))]⟩) (b := .a (.val (.int .i64 ((gD ds k).y + 1)))) (cells := [(.val (.int .i64 (((gD ds k).x + 1) + 1)) : A), .val (.int .i64 ((gD ds k).y + 1)), .val (.bool ((gD ds k).d))]) qC5_ti_3 (OpX.tmp 57 (V.v (.int .i64 ((gD ds k).y + 1)))) rfl (by decide) (by intro y hy; simp [B.cs] at hy; subst hy; rfl) (Nat.le_of_ble_eq_true rfl) rfl)) (by kernel_rfl) ?_
              refine wpl_nil ?_
              refine wp_region_t ?_
              refine wpc (step_plain rfl (acts_move (d := 59) (ltN rfl) (OpX.tmp 6 (V.b (.a (.sl 10 0 ((groT n ds k).length))))))) (by kernel_rfl) ?_
              refine wpc (step_plain rfl (acts_load_owns (d := 60) (t := 8) (h := 8) (off := 0) (o := ⟨32, 3, true, [(.val (.int .i64 (((gD ds k).x + 1) + 1)) : A), .val (.int .i64 ((gD ds k).y + 1)), .val (.bool ((gD ds k).d))]⟩)  (xs := [(.int .i64 (((gD ds k).x + 1) + 1) : Value), .int .i64 ((gD ds k).y + 1), .bool ((gD ds k).d)].map A.val) (ltN rfl) qC5_ti_32 rfl (by decide) rfl)) (by kernel_rfl) ?_
              refine wpc (step_plain rfl (acts_buildSlice' (d := 61) (h := 61) (n := 1) (s := 3) (xs := dsl ([(⟨(((gD ds k).x + 1) + 1), ((gD ds k).y + 1), (gD ds k).d⟩ : Dom)] : List Dom)) (ltN rfl) qC5_un_42 qC5_zi_32 (OpVs.cons (i := 0) (OpV.agg 60 [(.int .i64 (((gD ds k).x + 1) + 1) : Value), .int .i64 ((gD ds k).y + 1), .bool ((gD ds k).d)]) (OpVs.nil)) (by decide) (by decide) (by kernel_rfl) rfl)) (by kernel_rfl) ?_
              refine wpc (step_plain rfl (acts_app (d := 62) (x := 59) (h := 10) (h2 := 62) (n := ((groT n ds k).length)) (m := 1) (nm := (((groT n ds k) ++ [(⟨(((gD ds k).x + 1) + 1), ((gD ds k).y + 1), (gD ds k).d⟩ : Dom)]).length)) (X := .sl 61 0 1) (xs := dsl (groT n ds k)) (ys := dsl [(⟨(((gD ds k).x + 1) + 1), ((gD ds k).y + 1), (gD ds k).d⟩ : Dom)]) (zs := dsl ((groT n ds k) ++ [(⟨(((gD ds k).x + 1) + 1), ((gD ds k).y + 1), (gD ds k).d⟩ : Dom)])) (ltN rfl) qC5_un_42 qC5_zi_32 rfl (by decide) (by decide) (by first | exact dsl_len _ | (simp [isl_len, bsl_len, dsl_len, csl_len]; done) | (simp [isl_len, bsl_len, dsl_len, csl_len]; omega)) (OpX.tmp 61 (V.b (.a (.sl 61 0 1)))) (src_own (h := 61) (T := 32) (s := 3) (ex := true) (n := 1) (by first | exact dsl_len _ | (simp [isl_len, bsl_len, dsl_len, csl_len]; done) | (simp [isl_len, bsl_len, dsl_len, csl_len]; omega))) (dsl_one' _) (by first | omega | (simp; omega) | (simp at *; omega)) (by first | exact (dsl_append _ _).symm | rfl | simp [dsl_append]) (by first | rfl | (simp; done) | (simp; omega) | omega))) (by kernel_rfl) ?_
              refine wpc (step_plain rfl (acts_assign (d := 6) (ltN rfl) (OpX.tmp 62 (V.b (.a (.sl 62 0 (((groT n ds k) ++ [(⟨(((gD ds k).x + 1) + 1), ((gD ds k).y + 1), (gD ds k).d⟩ : Dom)]).length))))))) (by kernel_rfl) ?_
              refine wpl_nil ?_
              refine wp_region_t ?_
              refine wpc (step_plain rfl (acts_move (d := 26) (ltN rfl) (OpX.tmp 7 (V.v (.int .i64 ((k : Nat) : Int)))))) (by kernel_rfl) ?_
              refine wpc (step_plain rfl (acts_bin (d := 27) (ltN rfl) (OpV.tmp 26 (.int .i64 ((k : Nat) : Int))) (OpV.const (.int .i64 1)) (r_add (c := (((k : Nat) : Int) + 1)) (w64 (by first | omega | assumption | (have q1 := okD_bd (hok k (by omega)); have q2 := dxy_bd n (gD ds k); have q3 := byI_bd n (gD ds k); (try unfold oth); (try dsimp only); omega) | (have q := groT_len n ds k; omega) | (have := posD_bd (p := eqs (oth n (gD ds k))) ds; omega) | (have := diaRows_len n; omega)) (by first | omega | assumption | (have q1 := okD_bd (hok k (by omega)); have q2 := dxy_bd n (gD ds k); have q3 := byI_bd n (gD ds k); (try unfold oth); (try dsimp only); omega) | (have q := groT_len n ds k; omega) | (have := posD_bd (p := eqs (oth n (gD ds k))) ds; omega) | (have := diaRows_len n; omega)))))) (by kernel_rfl) ?_
              refine wpc (step_plain rfl (acts_assign (d := 7) (ltN rfl) (OpX.tmp 27 (V.v (.int .i64 (((k : Nat) : Int) + 1)))))) (by kernel_rfl) ?_
              refine wpl_nil ?_
              exact loop_back ((k + 1)) (by show _ ≤ _; omega) (by show ds.length - (k + 1) < ds.length - k; omega) (weak_of (subst1 [(10, 62)]) [8, 12, 16, 18, 24, 35, 38, 61, 62, 64] (by kernel_rfl) (wk_s (v' := V.v (.int .i64 n)) (by kernel_rfl) rfl rfl (wk_s (v' := V.b (.a (.slv ds.length 3 (dsl ds)))) (by kernel_rfl) rfl rfl (wk_s (v' := V.v (.slice none 0 0)) (by kernel_rfl) rfl rfl (wk_s (v' := V.v (.bool false)) (by kernel_rfl) rfl rfl (wk_s (v' := V.b (.a (.sl 62 0 (((groT n ds k) ++ [(⟨(((gD ds k).x + 1) + 1), ((gD ds k).y + 1), (gD ds k).d⟩ : Dom)]).length)))) (by kernel_rfl) (vsl (by first | rfl | (simp; done) | (simp; omega) | omega | (exact congrArg List.length (by first | rfl | exact groT_yes (by omega) (by assumption) | (refine groT_e (by omega) (by assumption) ?_ ?_ ?_ <;> first | rfl | (unfold dxI byI; simp_all; done) | (unfold dxI byI; simp_all; omega) | (unfold dyI byI; simp_all; done) | (unfold dyI byI; simp_all; omega)) | exact groT_no (by omega) (by assumption) | omega))) rfl) rfl (wk_s (v' := V.v (.int .i64 (((k : Nat) : Int) + 1))) (by kernel_rfl) (vint (by first | rfl | exact groT_yes (by omega) (by assumption) | (refine groT_e (by omega) (by assumption) ?_ ?_ ?_ <;> first | rfl | (unfold dxI byI; simp_all; done) | (unfold dxI byI; simp_all; omega) | (unfold dyI byI; simp_all; done) | (unfold dyI byI; simp_all; omega)) | exact groT_no (by omega) (by assumption) | omega)) rfl (wk_o (o' := ⟨32, 3, true, pl (dsl ((groT n ds k) ++ [(⟨(((gD ds k).x + 1) + 1), ((gD ds k).y + 1), (gD ds k).d⟩ : Dom)]))⟩) (by kernel_rfl) (renob_eq (fun h => h) (congrArg dsl (by first | rfl | exact groT_yes (by omega) (by assumption) | (refine groT_e (by omega) (by assumption) ?_ ?_ ?_ <;> first | rfl | (unfold dxI byI; simp_all; done) | (unfold dxI byI; simp_all; omega) | (unfold dyI byI; simp_all; done) | (unfold dyI byI; simp_all; omega)) | exact groT_no (by omega) (by assumption) | omega))) rfl (wk_f rfl (wk_f rfl (wk_f rfl (wk_f rfl (wk_f rfl (wk_f rfl (wk_f rfl (wk_f rfl (wk_f rfl (wk_f rfl (wk_nil)))))))))))))))))))
            · skip
              refine wp_region_t ?_
              refine wpc (step_plain rfl (acts_field (d := 46) (t := 8) (h := 8) (off := 0) (off' := 1) (ltN rfl) qC5_fo_32_1 rfl)) (by kernel_rfl) ?_
              refine wpc (step_plain rfl (acts_load_own (d := 47) (t := 46) (h := 8) (off := 1) (o := ⟨32, 3, true, [(.val (.int .i64 ((gD ds k).x)) : A), .val (.int .i64 ((gD ds k).y)), .val (.bool ((gD ds k).d))]⟩)  (x := .val (.int .i64 ((gD ds k).y))) (ltN rfl) qC5_ti_3 rfl)) (by kernel_rfl) ?_
              refine wpc (step_plain rfl (acts_move (d := 48) (ltN rfl) (OpX.tmp 9 (V.v (.int .i64 1))))) (by kernel_rfl) ?_
              refine wpc (step_plain rfl (acts_bin (d := 49) (ltN rfl) (OpV.tmp 47 (.int .i64 ((gD ds k).y))) (OpV.tmp 48 (.int .i64 1)) (r_add (c := ((gD ds k).y + 1)) (w64 (by first | omega | assumption | (have q1 := okD_bd (hok k (by omega)); have q2 := dxy_bd n (gD ds k); have q3 := byI_bd n (gD ds k); (try unfold oth); (try dsimp only); omega) | (have q := groT_len n ds k; omega) | (have := posD_bd (p := eqs (oth n (gD ds k))) ds; omega) | (have := diaRows_len n; omega)) (by first | omega | assumption | (have q1 := okD_bd (hok k (by omega)); have q2 := dxy_bd n (gD ds k); have q3 := byI_bd n (gD ds k); (try unfold oth); (try dsimp only); omega) | (have q := groT_len n ds k; omega) | (have := posD_bd (p := eqs (oth n (gD ds k))) ds; omega) | (have := diaRows_len n; omega)))))) (by kernel_rfl) ?_
              refine wpc (step_plain rfl (acts_field (d := 50) (t := 8) (h := 8) (off := 0) (off' := 1) (ltN rfl) qC5_fo_32_1 rfl)) (by kernel_rfl) ?_
              refine wpc (step_plain rfl (acts_store (t := 50) (h := 8) (off := 1) (o := ⟨32, 3, true, [(.val (.int .i64 ((gD ds k).x)) : A), .val (.int .i64 ((gD ds k).y)), .val (.bool ((gD ds k).d))]⟩) (b := .a (.val (.int .i64 ((gD ds k).y + 1)))) (cells := [(.val (.int .i64 ((gD ds k).x)) : A), .val (.int .i64 ((gD ds k).y + 1)), .val (.bool ((gD ds k).d))]) qC5_ti_3 (OpX.tmp 49 (V.v (.int .i64 ((gD ds k).y + 1)))) rfl (by decide) (by intro y hy; simp [B.cs] at hy; subst hy; rfl) (Nat.le_of_ble_eq_true rfl) rfl)) (by kernel_rfl) ?_
              refine wpl_nil ?_
              refine wp_seq' ?_
              refine wp_region_t ?_
              refine wpc (step_plain rfl (acts_field (d := 51) (t := 8) (h := 8) (off := 0) (off' := 0) (ltN rfl) qC5_fo_32_0 rfl)) (by kernel_rfl) ?_
              refine wpc (step_plain rfl (acts_load_own (d := 52) (t := 51) (h := 8) (off := 0) (o := ⟨32, 3, true, [(.val (.int .i64 ((gD ds k).x)) : A), .val (.int .i64 ((gD ds k).y + 1)), .val (.bool ((gD ds k).d))]⟩)  (x := .val (.int .i64 ((gD ds k).x))) (ltN rfl) qC5_ti_3 rfl)) (by kernel_rfl) ?_
              refine wpc (step_plain rfl (acts_bin (d := 53) (ltN rfl) (OpV.tmp 52 (.int .i64 ((gD ds k).x))) (OpV.const (.int .i64 1)) (r_add (c := ((gD ds k).x + 1)) (w64 (by first | omega | assumption | (have q1 := okD_bd (hok k (by omega)); have q2 := dxy_bd n (gD ds k); have q3 := byI_bd n (gD ds k); (try unfold oth); (try dsimp only); omega) | (have q := groT_len n ds k; omega) | (have := posD_bd (p := eqs (oth n (gD ds k))) ds; omega) | (have := diaRows_len n; omega)) (by first | omega | assumption | (have q1 := okD_bd (hok k (by omega)); have q2 := dxy_bd n (gD ds k); have q3 := byI_bd n (gD ds k); (try unfold oth); (try dsimp only); omega) | (have q := groT_len n ds k; omega) | (have := posD_bd (p := eqs (oth n (gD ds k))) ds; omega) | (have := diaRows_len n; omega)))))) (by kernel_rfl) ?_
              refine wpc (step_plain rfl (acts_field (d := 54) (t := 8) (h := 8) (off := 0) (off' := 0) (ltN rfl) qC5_fo_32_0 rfl)) (by kernel_rfl) ?_
              refine wpc (step_plain rfl (acts_store (t := 54) (h := 8) (off := 0) (o := ⟨32, 3, true, [(.val (.int .i64 ((gD ds k).x)) : A), .val (.int .i64 ((gD ds k).y + 1)), .val (.bool ((gD ds k).d))]⟩) (b := .a (.val (.int .i64 ((gD ds k).x + 1)))) (cells := [(.val (.int .i64 ((gD ds k).x + 1)) : A), .val (.int .i64 ((gD ds k).y + 1)), .val (.bool ((gD ds k).d))]) qC5_ti_3 (OpX.tmp 53 (V.v (.int .i64 ((gD ds k).x + 1)))) rfl (by decide) (by intro y hy; simp [B.cs] at hy; subst hy; rfl) (Nat.le_of_ble_eq_true rfl) rfl)) (by kernel_rfl) ?_
              refine wpl_nil ?_
              refine wp_seq' ?_
              refine wp_region_t ?_
              refine wpc (step_plain rfl (acts_field (d := 55) (t := 8) (h := 8) (off := 0) (off' := 1) (ltN rfl) qC5_fo_32_1 rfl)) (by kernel_rfl) ?_
              refine wpc (step_plain rfl (acts_load_own (d := 56) (t := 55) (h := 8) (off := 1) (o := ⟨32, 3, true, [(.val (.int .i64 ((gD ds k).x + 1)) : A), .val (.int .i64 ((gD ds k).y + 1)), .val (.bool ((gD ds k).d))]⟩)  (x := .val (.int .i64 ((gD ds k).y + 1))) (ltN rfl) qC5_ti_3 rfl)) (by kernel_rfl) ?_
              refine wpc (step_plain rfl (acts_bin (d := 57) (ltN rfl) (OpV.tmp 56 (.int .i64 ((gD ds k).y + 1))) (OpV.const (.int .i64 1)) (r_add (c := (((gD ds k).y + 1) + 1)) (w64 (by first | omega | assumption | (have q1 := okD_bd (hok k (by omega)); have q2 := dxy_bd n (gD ds k); have q3 := byI_bd n (gD ds k); (try unfold oth); (try dsimp only); omega) | (have q := groT_len n ds k; omega) | (have := posD_bd (p := eqs (oth n (gD ds k))) ds; omega) | (have := diaRows_len n; omega)) (by first | omega | assumption | (have q1 := okD_bd (hok k (by omega)); have q2 := dxy_bd n (gD ds k); have q3 := byI_bd n (gD ds k); (try unfold oth); (try dsimp only); omega) | (have q := groT_len n ds k; omega) | (have := posD_bd (p := eqs (oth n (gD ds k))) ds; omega) | (have := diaRows_len n; omega)))))) (by kernel_rfl) ?_
              refine wpc (step_plain rfl (acts_field (d := 58) (t := 8) (h := 8) (off := 0) (off' := 1) (ltN rfl) qC5_fo_32_1 rfl)) (by kernel_rfl) ?_
              refine wpc (step_plain rfl (acts_store (t := 58) (h := 8) (off := 1) (o := ⟨32, 3, true, [(.val (.int .i64 ((gD ds k).x + 1)) : A), .val (.int .i64 ((gD ds k).y + 1)), .val (.bool ((gD ds k).d))]⟩) (b := .a (.val (.int .i64 (((gD ds k).y + 1) + 1)))) (cells := [(.val (.int .i64 ((gD ds k).x + 1)) : A), .val (.int .i64 (((gD ds k).y + 1) + 1)), .val (.bool ((gD ds k).d))]) qC5_ti_3 (OpX.tmp 57 (V.v (.int .i64 (((gD ds k).y + 1) + 1)))) rfl (by decide) (by intro y hy; simp [B.cs] at hy; subst hy; rfl) (Nat.le_of_ble_eq_true rfl) rfl)) (by kernel_rfl) ?_
              refine wpl_nil ?_
              refine wp_region_t ?_
              refine wpc (step_plain rfl (acts_move (d := 59) (ltN rfl) (OpX.tmp 6 (V.b (.a (.sl 10 0 ((groT n ds k).length))))))) (by kernel_rfl) ?_
              refine wpc (step_plain rfl (acts_load_owns (d := 60) (t := 8) (h := 8) (off := 0) (o := ⟨32, 3, true, [(.val (.int .i64 ((gD ds k).x + 1)) : A), .val (.int .i64 (((gD ds k).y + 1) + 1)), .val (.bool ((gD ds k).d))]⟩)  (xs := [(.int .i64 ((gD ds k).x + 1) : Value), .int .i64 (((gD ds k).y + 1) + 1), .bool ((gD ds k).d)].map A.val) (ltN rfl) qC5_ti_32 rfl (by decide) rfl)) (by kernel_rfl) ?_
              refine wpc (step_plain rfl (acts_buildSlice' (d := 61) (h := 61) (n := 1) (s := 3) (xs := dsl ([(⟨((gD ds k).x + 1), (((gD ds k).y + 1) + 1), (gD ds k).d⟩ : Dom)] : List Dom)) (ltN rfl) qC5_un_42 qC5_zi_32 (OpVs.cons (i := 0) (OpV.agg 60 [(.int .i64 ((gD ds k).x + 1) : Value), .int .i64 (((gD ds k).y + 1) + 1), .bool ((gD ds k).d)]) (OpVs.nil)) (by decide) (by decide) (by kernel_rfl) rfl)) (by kernel_rfl) ?_
              refine wpc (step_plain rfl (acts_app (d := 62) (x := 59) (h := 10) (h2 := 62) (n := ((groT n ds k).length)) (m := 1) (nm := (((groT n ds k) ++ [(⟨((gD ds k).x + 1), (((gD ds k).y + 1) + 1), (gD ds k).d⟩ : Dom)]).length)) (X := .sl 61 0 1) (xs := dsl (groT n ds k)) (ys := dsl [(⟨((gD ds k).x + 1), (((gD ds k).y + 1) + 1), (gD ds k).d⟩ : Dom)]) (zs := dsl ((groT n ds k) ++ [(⟨((gD ds k).x + 1), (((gD ds k).y + 1) + 1), (gD ds k).d⟩ : Dom)])) (ltN rfl) qC5_un_42 qC5_zi_32 rfl (by decide) (by decide) (by first | exact dsl_len _ | (simp [isl_len, bsl_len, dsl_len, csl_len]; done) | (simp [isl_len, bsl_len, dsl_len, csl_len]; omega)) (OpX.tmp 61 (V.b (.a (.sl 61 0 1)))) (src_own (h := 61) (T := 32) (s := 3) (ex := true) (n := 1) (by first | exact dsl_len _ | (simp [isl_len, bsl_len, dsl_len, csl_len]; done) | (simp [isl_len, bsl_len, dsl_len, csl_len]; omega))) (dsl_one' _) (by first | omega | (simp; omega) | (simp at *; omega)) (by first | exact (dsl_append _ _).symm | rfl | simp [dsl_append]) (by first | rfl | (simp; done) | (simp; omega) | omega))) (by kernel_rfl) ?_
              refine wpc (step_plain rfl (acts_assign (d := 6) (ltN rfl) (OpX.tmp 62 (V.b (.a (.sl 62 0 (((groT n ds k) ++ [(⟨((gD ds k).x + 1), (((gD ds k).y + 1) + 1), (gD ds k).d⟩ : Dom)]).length))))))) (by kernel_rfl) ?_
              refine wpl_nil ?_
              refine wp_region_t ?_
              refine wpc (step_plain rfl (acts_move (d := 26) (ltN rfl) (OpX.tmp 7 (V.v (.int .i64 ((k : Nat) : Int)))))) (by kernel_rfl) ?_
              refine wpc (step_plain rfl (acts_bin (d := 27) (ltN rfl) (OpV.tmp 26 (.int .i64 ((k : Nat) : Int))) (OpV.const (.int .i64 1)) (r_add (c := (((k : Nat) : Int) + 1)) (w64 (by first | omega | assumption | (have q1 := okD_bd (hok k (by omega)); have q2 := dxy_bd n (gD ds k); have q3 := byI_bd n (gD ds k); (try unfold oth); (try dsimp only); omega) | (have q := groT_len n ds k; omega) | (have := posD_bd (p := eqs (oth n (gD ds k))) ds; omega) | (have := diaRows_len n; omega)) (by first | omega | assumption | (have q1 := okD_bd (hok k (by omega)); have q2 := dxy_bd n (gD ds k); have q3 := byI_bd n (gD ds k); (try unfold oth); (try dsimp only); omega) | (have q := groT_len n ds k; omega) | (have := posD_bd (p := eqs (oth n (gD ds k))) ds; omega) | (have := diaRows_len n; omega)))))) (by kernel_rfl) ?_
              refine wpc (step_plain rfl (acts_assign (d := 7) (ltN rfl) (OpX.tmp 27 (V.v (.int .i64 (((k : Nat) : Int) + 1)))))) (by kernel_rfl) ?_
              refine wpl_nil ?_
              exact loop_back ((k + 1)) (by show _ ≤ _; omega) (by show ds.length - (k + 1) < ds.length - k; omega) (weak_of (subst1 [(10, 62)]) [8, 12, 16, 18, 24, 35, 38, 61, 62, 64] (by kernel_rfl) (wk_s (v' := V.v (.int .i64 n)) (by kernel_rfl) rfl rfl (wk_s (v' := V.b (.a (.slv ds.length 3 (dsl ds)))) (by kernel_rfl) rfl rfl (wk_s (v' := V.v (.slice none 0 0)) (by kernel_rfl) rfl rfl (wk_s (v' := V.v (.bool false)) (by kernel_rfl) rfl rfl (wk_s (v' := V.b (.a (.sl 62 0 (((groT n ds k) ++ [(⟨((gD ds k).x + 1), (((gD ds k).y + 1) + 1), (gD ds k).d⟩ : Dom)]).length)))) (by kernel_rfl) (vsl (by first | rfl | (simp; done) | (simp; omega) | omega | (exact congrArg List.length (by first | rfl | exact groT_yes (by omega) (by assumption) | (refine groT_e (by omega) (by assumption) ?_ ?_ ?_ <;> first | rfl | (unfold dxI byI; simp_all; done) | (unfold dxI byI; simp_all; omega) | (unfold dyI byI; simp_all; done) | (unfold dyI byI; simp_all; omega)) | exact groT_no (by omega) (by assumption) | omega))) rfl) rfl (wk_s (v' := V.v (.int .i64 (((k : Nat) : Int) + 1))) (by kernel_rfl) (vint (by first | rfl | exact groT_yes (by omega) (by assumption) | (refine groT_e (by omega) (by assumption) ?_ ?_ ?_ <;> first | rfl | (unfold dxI byI; simp_all; done) | (unfold dxI byI; simp_all; omega) | (unfold dyI byI; simp_all; done) | (unfold dyI byI; simp_all; omega)) | exact groT_no (by omega) (by assumption) | omega)) rfl (wk_o (o' := ⟨32, 3, true, pl (dsl ((groT n ds k) ++ [(⟨((gD ds k).x + 1), (((gD ds k).y + 1) + 1), (gD ds k).d⟩ : Dom)]))⟩) (by kernel_rfl) (renob_eq (fun h => h) (congrArg dsl (by first | rfl | exact groT_yes (by omega) (by assumption) | (refine groT_e (by omega) (by assumption) ?_ ?_ ?_ <;> first | rfl | (unfold dxI byI; simp_all; done) | (unfold dxI byI; simp_all; omega) | (unfold dyI byI; simp_all; done) | (unfold dyI byI; simp_all; omega)) | exact groT_no (by omega) (by assumption) | omega))) rfl (wk_f rfl (wk_f rfl (wk_f rfl (wk_f rfl (wk_f rfl (wk_f rfl (wk_f rfl (wk_f rfl (wk_f rfl (wk_f rfl (wk_nil)))))))))))))))))))
      · skip
        have c6P := of_decide_eq_false c6
        refine wp_exit' ?_
        refine wp_seq' ?_
        refine wp_region_t ?_
        refine wpc (step_plain rfl (acts_move (d := 63) (ltN rfl) (OpX.tmp 6 (V.b (.a (.sl 10 0 ((groT n ds k).length))))))) (by kernel_rfl) ?_
        refine wpc (step_plain rfl (acts_call1 (d := 64) (ltN rfl) (spec_SortDominoes_fn (groT n ds k) (by first | omega | assumption | (have q1 := okD_bd (hok k (by omega)); have q2 := dxy_bd n (gD ds k); have q3 := byI_bd n (gD ds k); (try unfold oth); (try dsimp only); omega) | (have q := groT_len n ds k; omega) | (have := posD_bd (p := eqs (oth n (gD ds k))) ds; omega) | (have := diaRows_len n; omega))) (ArgVs.cons (argv_own (t := 63) (h := 10) (n := ((groT n ds k).length)) (T := 32) (s := 3) (ex := true) (xs := dsl (groT n ds k)) (by first | exact dsl_len _ | (simp [isl_len, bsl_len, dsl_len, csl_len]; done) | (simp [isl_len, bsl_len, dsl_len, csl_len]; omega))) (ArgVs.nil)) (ResV.row 32 3 ((sortD (groT n ds k)).length) (dsl (sortD (groT n ds k))) 64))) (by kernel_rfl) ?_
        refine wpc (step_plain rfl (acts_assign (d := 4) (ltN rfl) (OpX.tmp 64 (V.b (.a (.sl 64 0 ((sortD (groT n ds k)).length))))))) (by kernel_rfl) ?_
        refine wpc (step_plain rfl (acts_assign (d := 5) (ltN rfl) (OpX.const (.bool true)))) (by kernel_rfl) ?_
        refine wpl_nil ?_
        refine wp_ret' ?_
        exact ⟨VRes.tmp 4 (.a (.sl 64 0 ((sortD (groT n ds k)).length))) _ (by kernel_rfl) (brow_doms (h := 64) (L := (sortD (groT n ds k))) (by kernel_rfl) (by first | (refine gro_no (groOk_a ?_); assumption) | (refine gro_no (groOk_b ?_); assumption) | (refine (gro_no (groOk_a ?_)).symm; assumption) | (refine (gro_no (groOk_b ?_)).symm; assumption) | (refine (groOk_a ?_).symm; assumption) | (refine (groOk_b ?_).symm; assumption) | (refine groOk_a ?_; assumption) | (refine groOk_b ?_; assumption) | (refine gro_end ?_ ?_ ?_ <;> first | assumption | exact groOk_of (by assumption) (by assumption)) | exact (groOk_of (by assumption) (by assumption)).symm) (by first | rfl | (simp; done) | (simp; omega))), VRes.tmp 5 (.a (.val (.bool true))) _ (by kernel_rfl) (bval (congrArg Value.bool (by first | (refine gro_no (groOk_a ?_); assumption) | (refine gro_no (groOk_b ?_); assumption) | (refine (gro_no (groOk_a ?_)).symm; assumption) | (refine (gro_no (groOk_b ?_)).symm; assumption) | (refine (groOk_a ?_).symm; assumption) | (refine (groOk_b ?_).symm; assumption) | (refine groOk_a ?_; assumption) | (refine groOk_b ?_; assumption) | (refine gro_end ?_ ?_ ?_ <;> first | assumption | exact groOk_of (by assumption) (by assumption)) | exact (groOk_of (by assumption) (by assumption)).symm)))⟩
  · skip
    have c1Q := inB_false.1 c1
    refine wp_region_t ?_
    refine wpc (step_plain rfl (acts_move (d := 11) (ltN rfl) (OpX.tmp 0 (V.v (.int .i64 n))))) (by kernel_rfl) ?_
    refine wpc (step_plain rfl (acts_call1 (d := 12) (ltN rfl) (spec_l01In_fn n 1 3 ) (ArgVs.cons (ArgV.v (OpV.tmp 11 (.int .i64 n))) (ArgVs.cons (ArgV.v (OpV.const (.int .i64 1))) (ArgVs.cons (ArgV.v (OpV.const (.int .i64 3))) (ArgVs.nil)))) ((resval (congrArg Value.bool c1))))) (by kernel_rfl) ?_
    refine wpc (step_plain rfl (acts_un (d := 13) (ltN rfl) (OpV.tmp 12 (.bool false)) (r_not (c := true) rfl))) (by kernel_rfl) ?_
    refine wpc (step_plain rfl (acts_move (d := 14) (ltN rfl) (OpX.tmp 13 (V.v (.bool true))))) (by kernel_rfl) ?_
    refine wpc (step_off (dj := 14) (b' := true) rfl rfl (by decide) rfl (ltN rfl)) (by kernel_rfl) ?_
    refine wpc (step_off (dj := 14) (b' := true) rfl rfl (by decide) rfl (ltN rfl)) (by kernel_rfl) ?_
    refine wpc (step_off (dj := 14) (b' := true) rfl rfl (by decide) rfl (ltN rfl)) (by kernel_rfl) ?_
    refine wpc (step_off (dj := 14) (b' := true) rfl rfl (by decide) rfl (ltN rfl)) (by kernel_rfl) ?_
    refine wpc (step_off (dj := 14) (b' := true) rfl rfl (by decide) rfl (ltN rfl)) (by kernel_rfl) ?_
    refine wpc (step_plain rfl (acts_pick_t (d := 20) (ltN rfl) (OpV.tmp 14 (.bool true)) (OpX.const (.bool true)))) (by kernel_rfl) ?_
    refine wpl_nil ?_
    refine wp_if_t (t := 20) (by kernel_rfl) ?_
    refine wp_seq' ?_
    refine wp_region_t ?_
    refine wpc (step_plain rfl (acts_move (d := 21) (ltN rfl) (OpX.tmp 6 (V.b (.a (.sl 10 0 0)))))) (by kernel_rfl) ?_
    refine wpc (step_plain rfl (acts_assign (d := 4) (ltN rfl) (OpX.tmp 21 (V.b (.a (.sl 10 0 0)))))) (by kernel_rfl) ?_
    refine wpc (step_plain rfl (acts_assign (d := 5) (ltN rfl) (OpX.const (.bool false)))) (by kernel_rfl) ?_
    refine wpl_nil ?_
    refine wp_ret' ?_
    exact ⟨VRes.tmp 4 (.a (.sl 10 0 0)) _ (by kernel_rfl) (brow_doms (h := 10) (L := []) (by kernel_rfl) (by first | (refine gro_no (groOk_a ?_); assumption) | (refine gro_no (groOk_b ?_); assumption) | (refine (gro_no (groOk_a ?_)).symm; assumption) | (refine (gro_no (groOk_b ?_)).symm; assumption) | (refine (groOk_a ?_).symm; assumption) | (refine (groOk_b ?_).symm; assumption) | (refine groOk_a ?_; assumption) | (refine groOk_b ?_; assumption) | (refine gro_end ?_ ?_ ?_ <;> first | assumption | exact groOk_of (by assumption) (by assumption)) | exact (groOk_of (by assumption) (by assumption)).symm) (by first | rfl | (simp; done) | (simp; omega))), VRes.tmp 5 (.a (.val (.bool false))) _ (by kernel_rfl) (bval (congrArg Value.bool (by first | (refine gro_no (groOk_a ?_); assumption) | (refine gro_no (groOk_b ?_); assumption) | (refine (gro_no (groOk_a ?_)).symm; assumption) | (refine (gro_no (groOk_b ?_)).symm; assumption) | (refine (groOk_a ?_).symm; assumption) | (refine (groOk_b ?_).symm; assumption) | (refine groOk_a ?_; assumption) | (refine groOk_b ?_; assumption) | (refine gro_end ?_ ?_ ?_ <;> first | assumption | exact groOk_of (by assumption) (by assumption)) | exact (groOk_of (by assumption) (by assumption)).symm)))⟩
end Cl
end Go.Proofs.Ytabgfoindidigaa
