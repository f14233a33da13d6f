/- Walks over clean states, printed by wg.py. No statement is proved here. -/
import Derived.Test.YtabgfoindidigaaC11
import Derived.Test.YtabgfoindidigaaC12
import Derived.Test.YtabgfoindidigaaC3w
namespace Go.Proofs.Ytabgfoindidigaa
namespace Cl
open Go.ChangeShapes Go.WideShapes Go.ChangeAt Go.RowKit

theorem cntR_yes {l : List Int} (h : regOk l = true) : cntR l = cnt (regSet l) := by unfold cntR; rw [if_pos h]
theorem cntR_no {l : List Int} (h : regOk l = false) : cntR l = 0 := by unfold cntR; rw [h]; rfl
theorem cntW_yes {l : List Int} {d : Dom} (h : regOk l = true) (h2 : fitD (regSet l) d = true) : cntW l d = cnt (andn (regSet l) (domS d)) := by unfold cntW; rw [h, h2]; rfl
theorem cntW_no1 {l : List Int} {d : Dom} (h : regOk l = false) : cntW l d = 0 := by unfold cntW; rw [h]; rfl
theorem cntW_no2 {l : List Int} {d : Dom} (h : okD d = false) : cntW l d = 0 := by unfold cntW fitD; rw [h]; simp
theorem cntW_no3 {l : List Int} {d : Dom} (h : ¬ regSet l &&& domS d = domS d) : cntW l d = 0 := by unfold cntW fitD; simp [h]
theorem cntW_no4 {l : List Int} {d : Dom} (h : hasC l (ca d) = false ∨ hasC l (cb d) = false) : cntW l d = 0 := by
  unfold cntW
  rw [if_neg]
  rw [Bool.and_eq_true]
  rintro ⟨h1, h2⟩
  obtain ⟨h3, h4, h5⟩ := fit_ok h2
  unfold hasC at h
  rw [h1, h4, h5, ok_ca h3, ok_cb h3] at h
  simp at h
theorem fit_hasC {l : List Int} {d : Dom} (ho : okD d = true) (h1 : hasC l (ca d) = true) (h2 : hasC l (cb d) = true) : regOk l = true ∧ fitD (regSet l) d = true := by
  have hr := hasC_reg h1
  unfold hasC at h1 h2
  simp only [Bool.and_eq_true] at h1 h2
  refine ⟨hr, ?_⟩
  unfold fitD; rw [fit_bits, ho, h1.2.2, h2.2.2]; rfl
theorem nat_ne {a b : Nat} (h : ((a : Nat) : Int) ≠ (b : Int)) : ¬ a = b := fun e => h (by rw [e])
theorem nat_eq {a b : Nat} (h : ¬ ((a : Nat) : Int) ≠ (b : Int)) : a = b := by omega
def gD0 : Int := 0
def padP (l : List Int) (p : Nat) : List Int := l ++ List.replicate p 0
theorem pad_add (l : List Int) (p : Nat) : padP l p ++ [0] = padP l (p + 1) := by unfold padP; rw [List.append_assoc, List.replicate_succ']
theorem pad_zero (l : List Int) : l = padP l 0 := by unfold padP; simp
theorem pad_len (l : List Int) (p : Nat) : (padP l p).length = l.length + p := by unfold padP; simp
theorem pad_end {l : List Int} {p : Nat} (h8 : l.length + p ≤ 8) (h : ¬ ((((padP l p).length : Nat) : Int) < 8)) : padP l p = padR l := by
  have : p = 8 - l.length := by rw [pad_len] at h; omega
  subst this; rfl
theorem gI_padp {l : List Int} (p k : Nat) : gI (padP l p) k = gI l k := by
  unfold gI padP
  rw [List.getD_eq_getElem?_getD, List.getD_eq_getElem?_getD, List.getElem?_append]
  split
  · rfl
  · rename_i h
    rw [List.getElem?_replicate, List.getElem?_eq_none (by omega)]
    split <;> rfl
theorem or_bd {a x : Nat} (ha : a < 256) (hx : x < 8) : (a ||| 2 ^ x) < 256 := or_lt ha hx
theorem pow_or (a x : Nat) : 2 ^ x ≤ a ||| 2 ^ x := Nat.right_le_or
theorem delL_end {l : List Int} {p : Nat} {c : Cel} (ho : regOk l = true) (hc : okc c.x c.y = true) (h8 : l.length + p ≤ 8) (h : ¬ ((((padP l p).length : Nat) : Int) < 8)) :
    ((padP l p).set c.y.toNat (((gI (padP l p) c.y.toNat).toNat ||| 2 ^ c.x.toNat : Nat) : Int)).set c.y.toNat (gI ((padP l p).set c.y.toNat (((gI (padP l p) c.y.toNat).toNat ||| 2 ^ c.x.toNat : Nat) : Int)) c.y.toNat - ((2 ^ c.x.toNat : Nat) : Int)) = delL l c := by
  have hq := okc_true.1 hc
  rw [pad_end h8 h, gI_set (by rw [padR_len (regOk_true ho).1]; omega), if_pos rfl, List.set_set]
  rfl
theorem gcd_step (x y : Nat) : Nat.gcd y (x % y) = Nat.gcd x y := by
  rw [Nat.gcd_comm y (x % y), ← Nat.gcd_rec y x, Nat.gcd_comm]

theorem qC13_fo_30_0 : fieldOff Try.prog 30 0 = some 0 := by kernel_rfl
theorem qC13_fo_39_0 : fieldOff Try.prog 39 0 = some 0 := by kernel_rfl
theorem qC13_fo_39_1 : fieldOff Try.prog 39 1 = some 1 := by kernel_rfl
theorem qC13_sz_3 : (Try.prog.info? 3).map (·.size) = some 1 := by kernel_rfl
theorem qC13_ti_22 : TI Try.prog 22 false 1 := ⟨⟨_, Try.underlying22, rfl⟩, by kernel_rfl⟩
theorem qC13_ti_3 : TI Try.prog 3 false 1 := ⟨⟨_, Try.underlying3, rfl⟩, by kernel_rfl⟩
theorem qC13_ti_30 : TI Try.prog 30 true 1 := ⟨⟨_, Try.underlying30, rfl⟩, by kernel_rfl⟩
theorem qC13_ti_32 : TI Try.prog 32 true 3 := ⟨⟨_, Try.underlying32, rfl⟩, by kernel_rfl⟩
theorem qC13_ti_39 : TI Try.prog 39 true 2 := ⟨⟨_, Try.underlying39, rfl⟩, by kernel_rfl⟩
theorem qC13_un_22 : Try.prog.underlying 22 = some (.slice 3) := Try.underlying22
theorem qC13_zi_3 : ZI Try.prog 3 (.int .i64 0) 1 8 := by unfold ZI; kernel_rfl
theorem qC13_zi_30 : ZI Try.prog 30 (.agg #[.slice none 0 0]) 1 24 := by unfold ZI; kernel_rfl
theorem qC13_zi_39 : ZI Try.prog 39 (.agg #[.int .i64 0, .int .i64 0]) 2 16 := by unfold ZI; kernel_rfl
set_option maxHeartbeats 4000000 in
set_option maxRecDepth 100000 in
theorem spec_l03Copy_fn (l : List Int) (hl : l.length ≤ 1048576) : Fn Try.prog 84 [.agg [(.slv l.length 1 (isl l) : A)]] [.reg 3 1 l.length (isl l)] := by
  refine fn_intro (N := 8) Try.func84 rfl (by kernel_rfl) rfl (Nat.le_of_ble_eq_true rfl) [1, 2, 3, 6] (ret1 rfl) (fun W => ?_)
  show Wp _ _ _ [(.s 0, some (.s (V.b (.agg [(.slv l.length 1 (isl l) : A)])))), (.o 1, some .free), (.o 2, some .free), (.o 3, some .free), (.o 6, some .free)]
  refine wp_seq' ?_
  refine wp_region_t ?_
  refine wpc (step_plain rfl (acts_box (d := 1) (h := 1) (b := .agg [(.slv l.length 1 (isl l) : A)]) (ltN rfl) (OpX.tmp 0 (V.b (.agg [(.slv l.length 1 (isl l) : A)]))) (by intro y hy; simp [B.cs] at hy; subst hy; rfl))) (by kernel_rfl) ?_
  refine wpc (step_plain rfl (acts_alloc' (d := 2) (h := 2) (cap := 1) (s := 1) (cells := [(.val (.slice none 0 0) : A)]) (ltN rfl) qC13_zi_30 rfl rfl (by decide))) (by kernel_rfl) ?_
  refine wpl_nil ?_
  refine wp_seq' ?_
  refine wp_region_t ?_
  refine wpc (step_plain rfl (acts_buildSlice0' (d := 3) (h := 3) (s := 1) (ltN rfl) qC13_un_22 qC13_zi_3)) (by kernel_rfl) ?_
  refine wpc (step_plain rfl (acts_field (d := 4) (t := 1) (h := 1) (off := 0) (off' := 0) (ltN rfl) qC13_fo_30_0 rfl)) (by kernel_rfl) ?_
  refine wpc (step_plain rfl (acts_load_own (d := 5) (t := 4) (h := 1) (off := 0) (o := ⟨30, 1, true, [(.slv l.length 1 (isl l) : A)]⟩)  (x := .slv l.length 1 (isl l)) (ltN rfl) qC13_ti_22 rfl)) (by kernel_rfl) ?_
  refine wpc (step_plain rfl (acts_app (d := 6) (x := 3) (h := 3) (h2 := 6) (n := 0) (m := l.length) (nm := l.length) (X := .slv l.length 1 (isl l)) (xs := isl []) (ys := isl l) (zs := isl l) (ltN rfl) qC13_un_22 qC13_zi_3 rfl (by decide) (by decide) (by exact isl_len _) (OpX.tmp 5 (V.b (.a (.slv l.length 1 (isl l))))) (Src.slv _ _ _) (isl_one' _) (by omega) (by exact (isl_append _ _).symm) (by (simp; done)))) (by kernel_rfl) ?_
  refine wpc (step_plain rfl (acts_build1 (d := 7) (x := 6) (X := .sl 6 0 l.length) (ltN rfl) ⟨6, 0, l.length, .inl rfl⟩ (fun _ _ _ => by kernel_rfl))) (by kernel_rfl) ?_
  refine wpc (step_plain rfl (acts_store (t := 2) (h := 2) (off := 0) (o := ⟨30, 1, true, [(.val (.slice none 0 0) : A)]⟩) (b := .agg [(.sl 6 0 l.length : A)]) (cells := [(.sl 6 0 l.length : A)]) qC13_ti_30 (OpX.tmp 7 (V.b (.agg [(.sl 6 0 l.length : A)]))) rfl (by decide) (by intro y hy; simp [B.cs] at hy; subst hy; rfl) (Nat.le_of_ble_eq_true rfl) rfl)) (by kernel_rfl) ?_
  refine wpl_nil ?_
  refine wp_ret' ?_
  exact VRes.cells 2 30 2 ⟨30, 1, true, [(.sl 6 0 l.length : A)]⟩ _ (by kernel_rfl) (by kernel_rfl) qC13_ti_30 (Nat.le_of_ble_eq_true rfl) (breg (h := 6) (L := l) (by kernel_rfl) (by rfl) (by rfl))

set_option maxHeartbeats 4000000 in
set_option maxRecDepth 100000 in
theorem spec_WithCell_fn (l : List Int) (c : Cel) (ho : regOk l = true) (hc : okc c.x c.y = true) : Fn Try.prog 54 [.agg [(.slv l.length 1 (isl l) : A)], .agg ([(.int .i64 c.x : Value), .int .i64 c.y].map A.val), .a (.val (.bool false))] [.reg 3 1 (delL l c).length (isl (delL l c)), .val (.bool true)] := by
  have h8 := (regOk_true ho).1
  have hq := okc_true.1 hc
  have hgb := gI_bd ho c.y.toNat
  have hpx : 2 ^ c.x.toNat < 256 := Nat.pow_lt_pow_right (m := c.x.toNat) (n := 8) (by decide) (by omega)
  have hp0 : (0 : Int) ≤ ((2 ^ c.x.toNat : Nat) : Int) := Int.natCast_nonneg _
  refine fn_intro (N := 62) Try.func54 rfl (by kernel_rfl) rfl (Nat.le_of_ble_eq_true rfl) [3, 4, 6, 8, 10, 12, 16, 22, 26, 27] (ret2 rfl rfl (by intro u hu; injection hu with hu; subst hu; rfl)) (fun W => ?_)
  show Wp _ _ _ [(.s 0, some (.s (V.b (.agg [(.slv l.length 1 (isl l) : A)])))), (.s 1, some (.s (V.av [(.int .i64 c.x : Value), .int .i64 c.y]))), (.s 2, some (.s (V.v (.bool false)))), (.o 3, some .free), (.o 4, some .free), (.o 6, some .free), (.o 8, some .free), (.o 10, some .free), (.o 12, some .free), (.o 16, some .free), (.o 22, some .free), (.o 26, some .free), (.o 27, some .free)]
  refine wp_seq' ?_
  refine wp_region_t ?_
  refine wpc (step_plain rfl (acts_box (d := 3) (h := 3) (b := .agg [(.slv l.length 1 (isl l) : A)]) (ltN rfl) (OpX.tmp 0 (V.b (.agg [(.slv l.length 1 (isl l) : A)]))) (by intro y hy; simp [B.cs] at hy; subst hy; rfl))) (by kernel_rfl) ?_
  refine wpc (step_plain rfl (acts_box (d := 4) (h := 4) (b := .agg ([(.int .i64 c.x : Value), .int .i64 c.y].map A.val)) (ltN rfl) (OpX.tmp 1 (V.av [(.int .i64 c.x : Value), .int .i64 c.y])) (by intro y hy; simp [B.cs] at hy; rcases hy with rfl | rfl <;> rfl))) (by kernel_rfl) ?_
  refine wpc (step_plain rfl (acts_alloc' (d := 6) (h := 6) (cap := 1) (s := 1) (cells := [(.val (.slice none 0 0) : A)]) (ltN rfl) qC13_zi_30 rfl rfl (by decide))) (by kernel_rfl) ?_
  refine wpc (step_plain rfl (acts_assign (d := 7) (ltN rfl) (OpX.const (.bool false)))) (by kernel_rfl) ?_
  refine wpl_nil ?_
  refine wp_seq' ?_
  refine wp_region_t ?_
  refine wpc (step_plain rfl (acts_load_owns (d := 9) (t := 3) (h := 3) (off := 0) (o := ⟨30, 1, true, [(.slv l.length 1 (isl l) : A)]⟩)  (xs := [(.slv l.length 1 (isl l) : A)]) (ltN rfl) qC13_ti_30 rfl (by decide) rfl)) (by kernel_rfl) ?_
  refine wpc (step_plain rfl (acts_call1 (d := 10) (ltN rfl) (spec_l03Copy_fn l (by omega)) (ArgVs.cons (ArgV.regv 9 l.length 1 (isl l)) (ArgVs.nil)) (ResV.reg 3 1 l.length (isl l) 10))) (by kernel_rfl) ?_
  refine wpc (step_plain rfl (acts_alloc' (d := 8) (h := 8) (cap := 1) (s := 1) (cells := [(.val (.slice none 0 0) : A)]) (ltN rfl) qC13_zi_30 rfl rfl (by decide))) (by kernel_rfl) ?_
  refine wpc (step_plain rfl (acts_store (t := 8) (h := 8) (off := 0) (o := ⟨30, 1, true, [(.val (.slice none 0 0) : A)]⟩) (b := .agg [(.sl 10 0 l.length : A)]) (cells := [(.sl 10 0 l.length : A)]) qC13_ti_30 (OpX.tmp 10 (V.b (.agg [(.sl 10 0 l.length : A)]))) rfl (by decide) (by intro y hy; simp [B.cs] at hy; subst hy; rfl) (Nat.le_of_ble_eq_true rfl) rfl)) (by kernel_rfl) ?_
  refine wpl_nil ?_
  refine wp_seq' ?_
  refine wp_seq' ?_
  refine wp_region_t ?_
  refine wpc (step_plain rfl (acts_load_owns (d := 11) (t := 3) (h := 3) (off := 0) (o := ⟨30, 1, true, [(.slv l.length 1 (isl l) : A)]⟩)  (xs := [(.slv l.length 1 (isl l) : A)]) (ltN rfl) qC13_ti_30 rfl (by decide) rfl)) (by kernel_rfl) ?_
  refine wpc (step_plain rfl (acts_call1 (d := 12) (ltN rfl) (spec_RegionOk_fn l (by omega)) (ArgVs.cons (ArgV.regv 11 l.length 1 (isl l)) (ArgVs.nil)) ((resval (congrArg Value.bool ho))))) (by kernel_rfl) ?_
  refine wpc (step_plain rfl (acts_un (d := 13) (ltN rfl) (OpV.tmp 12 (.bool true)) (r_not (c := false) rfl))) (by kernel_rfl) ?_
  refine wpc (step_plain rfl (acts_move (d := 14) (ltN rfl) (OpX.tmp 13 (V.v (.bool false))))) (by kernel_rfl) ?_
  refine wpc (step_on (dj := 14) rfl rfl (acts_load_owns (d := 15) (t := 4) (h := 4) (off := 0) (o := ⟨39, 2, true, [(.val (.int .i64 c.x) : A), .val (.int .i64 c.y)]⟩)  (xs := [(.int .i64 c.x : Value), .int .i64 c.y].map A.val) (ltN rfl) qC13_ti_39 rfl (by decide) rfl)) (by kernel_rfl) ?_
  refine wpc (step_on (dj := 14) rfl rfl (acts_call1 (d := 16) (ltN rfl) (spec_CellOk_fn c ) (ArgVs.cons (ArgV.va (vs := [(.int .i64 c.x : Value), .int .i64 c.y]) (OpV.agg 15 [(.int .i64 c.x : Value), .int .i64 c.y])) (ArgVs.nil)) ((resval (congrArg Value.bool hc))))) (by kernel_rfl) ?_
  refine wpc (step_on (dj := 14) rfl rfl (acts_un (d := 17) (ltN rfl) (OpV.tmp 16 (.bool true)) (r_not (c := false) rfl))) (by kernel_rfl) ?_
  refine wpc (step_plain rfl (acts_pick_f (d := 18) (ltN rfl) (OpV.tmp 14 (.bool false)) (OpX.tmp 17 (V.v (.bool false))))) (by kernel_rfl) ?_
  refine wpl_nil ?_
  refine wp_if_f (t := 18) (by kernel_rfl) ?_
  refine wp_skip' ?_
  refine wp_seq' ?_
  refine wp_block' ?_
  refine wp_loop' (fun (p : Nat) => l.length + p ≤ 8) (fun (p : Nat) => [(.s 2, some (.s (V.v (.bool false)))), (.s 4, some (.s (V.p 4 0))), (.s 6, some (.s (V.p 6 0))), (.s 8, some (.s (V.p 8 0))), (.o 4, some (.o ⟨39, 2, true, [(.val (.int .i64 c.x) : A), .val (.int .i64 c.y)]⟩)), (.o 6, some (.o ⟨30, 1, true, [(.val (.slice none 0 0) : A)]⟩)), (.o 8, some (.o ⟨30, 1, true, [(.sl 10 0 ((padP l p).length) : A)]⟩)), (.o 10, some (.o ⟨3, 1, true, pl (isl (padP l p))⟩)), (.o 3, some .free), (.o 12, some .free), (.o 16, some .free), (.o 22, some .free), (.o 26, some .free), (.o 27, some .free)]) (fun (p : Nat) => 8 - p) ((0 : Nat)) (by show _ ≤ _; omega) (weak_of id [3, 12, 16, 22, 26, 27] (by kernel_rfl) (wk_s (v' := V.v (.bool false)) (by kernel_rfl) rfl rfl (wk_s (v' := V.p 4 0) (by kernel_rfl) rfl rfl (wk_s (v' := V.p 6 0) (by kernel_rfl) rfl rfl (wk_s (v' := V.p 8 0) (by kernel_rfl) rfl rfl (wk_o (o' := ⟨39, 2, true, [(.val (.int .i64 c.x) : A), .val (.int .i64 c.y)]⟩) (by kernel_rfl) (renob_l (fun h => h) rfl rfl) rfl (wk_o (o' := ⟨30, 1, true, [(.val (.slice none 0 0) : A)]⟩) (by kernel_rfl) (renob_l (fun h => h) rfl rfl) rfl (wk_o (o' := ⟨30, 1, true, [(.sl 10 0 l.length : A)]⟩) (by kernel_rfl) (renob_l (fun h => h) (congrArg (fun z : Nat => [A.sl 10 0 z]) (by (exact congrArg List.length (by first | rfl | exact pad_zero l | exact (pad_zero l).symm | exact pad_add l p | exact (pad_add l p).symm | (simp; done) | (simp; omega) | omega)))) rfl) rfl (wk_o (o' := ⟨3, 1, true, pl (isl l)⟩) (by kernel_rfl) (renob_eq (fun h => h) (congrArg isl (by exact (pad_zero l).symm))) rfl (wk_f rfl (wk_f rfl (wk_f rfl (wk_f rfl (wk_f rfl (wk_f rfl (wk_nil)))))))))))))))) ?_
  rintro p inv1
  replace inv1 : l.length + p ≤ 8 := inv1
  have inv := inv1
  show Wp _ _ _ [(.s 2, some (.s (V.v (.bool false)))), (.s 4, some (.s (V.p 4 0))), (.s 6, some (.s (V.p 6 0))), (.s 8, some (.s (V.p 8 0))), (.o 4, some (.o ⟨39, 2, true, [(.val (.int .i64 c.x) : A), .val (.int .i64 c.y)]⟩)), (.o 6, some (.o ⟨30, 1, true, [(.val (.slice none 0 0) : A)]⟩)), (.o 8, some (.o ⟨30, 1, true, [(.sl 10 0 ((padP l p).length) : A)]⟩)), (.o 10, some (.o ⟨3, 1, true, pl (isl (padP l p))⟩)), (.o 3, some .free), (.o 12, some .free), (.o 16, some .free), (.o 22, some .free), (.o 26, some .free), (.o 27, some .free)]
  have hpl := pad_len l p
  refine wp_seq' ?_
  refine wp_seq' ?_
  refine wp_region_t ?_
  refine wpc (step_plain rfl (acts_field (d := 20) (t := 8) (h := 8) (off := 0) (off' := 0) (ltN rfl) qC13_fo_30_0 rfl)) (by kernel_rfl) ?_
  refine wpc (step_plain rfl (acts_load_own (d := 21) (t := 20) (h := 8) (off := 0) (o := ⟨30, 1, true, [(.sl 10 0 ((padP l p).length) : A)]⟩)  (x := .sl 10 0 ((padP l p).length)) (ltN rfl) qC13_ti_22 rfl)) (by kernel_rfl) ?_
  refine wpc (step_plain rfl (acts_len (d := 22) (X := .sl 10 0 ((padP l p).length)) (n := ((padP l p).length)) (iv := (((padP l p).length : Nat) : Int)) (ltN rfl) qC13_un_22 (OpX.tmp 21 (V.b (.a (.sl 10 0 ((padP l p).length))))) (LenOf.sl _ _ _) rfl)) (by kernel_rfl) ?_
  refine wpc (step_plain rfl (acts_bin (d := 23) (ltN rfl) (OpV.tmp 22 (.int .i64 (((padP l p).length : Nat) : Int))) (OpV.const (.int .i64 8)) (r_lss (c := (decide ((((padP l p).length : Nat) : Int) < 8))) rfl))) (by kernel_rfl) ?_
  refine wpl_nil ?_
  refine wp_if (t := 23) (decide ((((padP l p).length : Nat) : Int) < 8)) (by kernel_rfl) (fun c2 => ?_) (fun c2 => ?_)
  · skip
    have c2P := of_decide_eq_true c2
    refine wp_skip' ?_
    refine wp_block' ?_
    refine wp_region_t ?_
    refine wpc (step_plain rfl (acts_field (d := 24) (t := 8) (h := 8) (off := 0) (off' := 0) (ltN rfl) qC13_fo_30_0 rfl)) (by kernel_rfl) ?_
    refine wpc (step_plain rfl (acts_load_own (d := 25) (t := 24) (h := 8) (off := 0) (o := ⟨30, 1, true, [(.sl 10 0 ((padP l p).length) : A)]⟩)  (x := .sl 10 0 ((padP l p).length)) (ltN rfl) qC13_ti_22 rfl)) (by kernel_rfl) ?_
    refine wpc (step_plain rfl (acts_buildSlice' (d := 26) (h := 26) (n := 1) (s := 1) (xs := isl ([0] : List Int)) (ltN rfl) qC13_un_22 qC13_zi_3 (OpVs.cons (i := 0) (OpV.const (.int .i64 0)) (OpVs.nil)) (by decide) (by decide) (by kernel_rfl) rfl)) (by kernel_rfl) ?_
    refine wpc (step_plain rfl (acts_app (d := 27) (x := 25) (h := 10) (h2 := 27) (n := ((padP l p).length)) (m := 1) (nm := (((padP l p) ++ [0]).length)) (X := .sl 26 0 1) (xs := isl (padP l p)) (ys := isl [0]) (zs := isl ((padP l p) ++ [0])) (ltN rfl) qC13_un_22 qC13_zi_3 rfl (by decide) (by decide) (by exact isl_len _) (OpX.tmp 26 (V.b (.a (.sl 26 0 1)))) (src_own (h := 26) (T := 3) (s := 1) (ex := true) (n := 1) (by exact isl_len _)) (isl_one' _) (by omega) (by exact (isl_append _ _).symm) (by (simp; done)))) (by kernel_rfl) ?_
    refine wpc (step_plain rfl (acts_field (d := 28) (t := 8) (h := 8) (off := 0) (off' := 0) (ltN rfl) qC13_fo_30_0 rfl)) (by kernel_rfl) ?_
    refine wpc (step_plain rfl (acts_store (t := 28) (h := 8) (off := 0) (o := ⟨30, 1, true, [(.sl 10 0 ((padP l p).length) : A)]⟩) (b := .a (.sl 27 0 (((padP l p) ++ [0]).length))) (cells := [(.sl 27 0 (((padP l p) ++ [0]).length) : A)]) qC13_ti_22 (OpX.tmp 27 (V.b (.a (.sl 27 0 (((padP l p) ++ [0]).length))))) rfl (by decide) (by intro y hy; simp [B.cs] at hy; subst hy; rfl) (Nat.le_of_ble_eq_true rfl) rfl)) (by kernel_rfl) ?_
    refine wpl_nil ?_
    exact Exists.intro ((p + 1)) (And.intro (by show _ ≤ _; omega) (And.intro (by show 8 - (p + 1) < 8 - p; omega) (weak_of (subst1 [(10, 27)]) [3, 12, 16, 22, 26, 27] (by kernel_rfl) (wk_s (v' := V.v (.bool false)) (by kernel_rfl) rfl rfl (wk_s (v' := V.p 4 0) (by kernel_rfl) rfl rfl (wk_s (v' := V.p 6 0) (by kernel_rfl) rfl rfl (wk_s (v' := V.p 8 0) (by kernel_rfl) rfl rfl (wk_o (o' := ⟨39, 2, true, [(.val (.int .i64 c.x) : A), .val (.int .i64 c.y)]⟩) (by kernel_rfl) (renob_l (fun h => h) rfl rfl) rfl (wk_o (o' := ⟨30, 1, true, [(.val (.slice none 0 0) : A)]⟩) (by kernel_rfl) (renob_l (fun h => h) rfl rfl) rfl (wk_o (o' := ⟨30, 1, true, [(.sl 27 0 (((padP l p) ++ [0]).length) : A)]⟩) (by kernel_rfl) (renob_l (fun h => h) (congrArg (fun z : Nat => [A.sl 27 0 z]) (by (exact congrArg List.length (by first | rfl | exact pad_zero l | exact (pad_zero l).symm | exact pad_add l p | exact (pad_add l p).symm | (simp; done) | (simp; omega) | omega)))) rfl) rfl (wk_o (o' := ⟨3, 1, true, pl (isl ((padP l p) ++ [0]))⟩) (by kernel_rfl) (renob_eq (fun h => h) (congrArg isl (by exact (pad_add l p).symm))) rfl (wk_f rfl (wk_f rfl (wk_f rfl (wk_f rfl (wk_f rfl (wk_f rfl (wk_nil))))))))))))))))))
  · skip
    have c2P := of_decide_eq_false c2
    refine wp_exit' ?_
    refine wp_seq' ?_
    refine wp_drawn' (by kernel_rfl) (AllSteps.cons (step_plain rfl (acts_field (d := 29) (t := 8) (h := 8) (off := 0) (off' := 0) (ltN rfl) qC13_fo_30_0 rfl)) (AllSteps.cons (step_plain rfl (acts_load_own (d := 30) (t := 29) (h := 8) (off := 0) (o := ⟨30, 1, true, [(.sl 10 0 ((padP l p).length) : A)]⟩)  (x := .sl 10 0 ((padP l p).length)) (ltN rfl) qC13_ti_22 rfl)) (AllSteps.cons (step_plain rfl (acts_field (d := 31) (t := 4) (h := 4) (off := 0) (off' := 1) (ltN rfl) qC13_fo_39_1 rfl)) (AllSteps.cons (step_plain rfl (acts_load_own (d := 32) (t := 31) (h := 4) (off := 1) (o := ⟨39, 2, true, [(.val (.int .i64 c.x) : A), .val (.int .i64 c.y)]⟩)  (x := .val (.int .i64 c.y)) (ltN rfl) qC13_ti_3 rfl)) (AllSteps.cons (step_plain rfl (acts_field (d := 33) (t := 8) (h := 8) (off := 0) (off' := 0) (ltN rfl) qC13_fo_30_0 rfl)) (AllSteps.cons (step_plain rfl (acts_load_own (d := 34) (t := 33) (h := 8) (off := 0) (o := ⟨30, 1, true, [(.sl 10 0 ((padP l p).length) : A)]⟩)  (x := .sl 10 0 ((padP l p).length)) (ltN rfl) qC13_ti_22 rfl)) (AllSteps.cons (step_plain rfl (acts_field (d := 35) (t := 4) (h := 4) (off := 0) (off' := 1) (ltN rfl) qC13_fo_39_1 rfl)) (AllSteps.cons (step_plain rfl (acts_load_own (d := 36) (t := 35) (h := 4) (off := 1) (o := ⟨39, 2, true, [(.val (.int .i64 c.x) : A), .val (.int .i64 c.y)]⟩)  (x := .val (.int .i64 c.y)) (ltN rfl) qC13_ti_3 rfl)) (AllSteps.cons (step_plain rfl (acts_index_sl (d := 37) (x := 34) (h := 10) (off := 0) (n := ((padP l p).length)) (k := c.y.toNat) (off' := (c.y.toNat * 1)) (o := ⟨3, 1, true, pl (isl (padP l p))⟩) (ltN rfl) qC13_un_22 qC13_sz_3 (OpV.tmp 36 (.int .i64 c.y)) (Int.toNat_of_nonneg (by omega)).symm (by omega) (by (simp; done)))) (AllSteps.cons (step_plain rfl (acts_load_own (d := 38) (t := 37) (h := 10) (off := (c.y.toNat * 1)) (o := ⟨3, 1, true, pl (isl (padP l p))⟩)  (x := .val (.int .i64 (gI (padP l p) c.y.toNat))) (ltN rfl) qC13_ti_3 (pl_get (isl_get1 (k := c.y.toNat) (by omega))))) (AllSteps.cons (step_plain rfl (acts_field (d := 39) (t := 4) (h := 4) (off := 0) (off' := 0) (ltN rfl) qC13_fo_39_0 rfl)) (AllSteps.cons (step_plain rfl (acts_load_own (d := 40) (t := 39) (h := 4) (off := 0) (o := ⟨39, 2, true, [(.val (.int .i64 c.x) : A), .val (.int .i64 c.y)]⟩)  (x := .val (.int .i64 c.x)) (ltN rfl) qC13_ti_3 rfl)) (AllSteps.cons (step_plain rfl (acts_bin (d := 41) (ltN rfl) (OpV.const (.int .i64 1)) (OpV.tmp 40 (.int .i64 c.x)) (r_shl (c := (((2 ^ c.x.toNat) : Nat) : Int)) (by omega) (shl1I (n := c.x.toNat) (Int.toNat_of_nonneg (by omega)).symm (by omega))))) (AllSteps.cons (step_plain rfl (acts_bin (d := 42) (ltN rfl) (OpV.tmp 38 (.int .i64 (gI (padP l p) c.y.toNat))) (OpV.tmp 41 (.int .i64 (((2 ^ c.x.toNat) : Nat) : Int))) (r_or (c := (((((gI (padP l p) c.y.toNat).toNat) ||| (2 ^ c.x.toNat)) : Nat) : Int)) (orI (m := ((gI (padP l p) c.y.toNat).toNat)) (n := (2 ^ c.x.toNat)) (Int.toNat_of_nonneg (by (rw [gI_padp]; omega))).symm rfl (by (first | omega | assumption | (rw [gI_padp]; omega) | (simp only [List.length_set, pad_len]; omega) | (simp only [pad_len]; omega) | (rw [pad_len]; omega) | (rw [gI_set (by rw [pad_len]; omega), if_pos rfl]; have q1 := pow_or (gI (padP l p) c.y.toNat).toNat c.x.toNat; have q2 := or_bd (a := (gI (padP l p) c.y.toNat).toNat) (x := c.x.toNat) (by rw [gI_padp]; omega) (by omega); omega))) (by omega))))) (AllSteps.cons (step_plain rfl (acts_index_sl (d := 43) (x := 30) (h := 10) (off := 0) (n := ((padP l p).length)) (k := c.y.toNat) (off' := (c.y.toNat * 1)) (o := ⟨3, 1, true, pl (isl (padP l p))⟩) (ltN rfl) qC13_un_22 qC13_sz_3 (OpV.tmp 32 (.int .i64 c.y)) (Int.toNat_of_nonneg (by omega)).symm (by omega) (by (simp; done)))) (AllSteps.cons (step_plain rfl (acts_store (t := 43) (h := 10) (off := (c.y.toNat * 1)) (o := ⟨3, 1, true, pl (isl (padP l p))⟩) (b := .a (.val (.int .i64 (((((gI (padP l p) c.y.toNat).toNat) ||| (2 ^ c.x.toNat)) : Nat) : Int)))) (cells := pl (isl ((padP l p).set c.y.toNat (((((gI (padP l p) c.y.toNat).toNat) ||| (2 ^ c.x.toNat)) : Nat) : Int)))) qC13_ti_3 (OpX.tmp 42 (V.v (.int .i64 (((((gI (padP l p) c.y.toNat).toNat) ||| (2 ^ c.x.toNat)) : Nat) : Int)))) rfl (by decide) (by intro y hy; simp [B.cs] at hy; subst hy; rfl) (by simp only [pl_len, isl_len]; first | omega | assumption | (rw [gI_padp]; omega) | (simp only [List.length_set, pad_len]; omega) | (simp only [pad_len]; omega) | (rw [pad_len]; omega) | (rw [gI_set (by rw [pad_len]; omega), if_pos rfl]; have q1 := pow_or (gI (padP l p) c.y.toNat).toNat c.x.toNat; have q2 := or_bd (a := (gI (padP l p) c.y.toNat).toNat) (x := c.x.toNat) (by rw [gI_padp]; omega) (by omega); omega)) (isl_put (k := c.y.toNat) (by omega)))) (AllSteps.nil))))))))))))))))) (by kernel_rfl) (by kernel_rfl) (by kernel_rfl) ?_
    refine wp_seq' ?_
    refine wp_seq' ?_
    refine wp_region_t ?_
    refine wpc (step_plain rfl (acts_move (d := 44) (ltN rfl) (OpX.tmp 2 (V.v (.bool false))))) (by kernel_rfl) ?_
    refine wpc (step_plain rfl (acts_un (d := 45) (ltN rfl) (OpV.tmp 44 (.bool false)) (r_not (c := true) rfl))) (by kernel_rfl) ?_
    refine wpl_nil ?_
    refine wp_if_t (t := 45) (by kernel_rfl) ?_
    refine wp_drawn' (by kernel_rfl) (AllSteps.cons (step_plain rfl (acts_field (d := 46) (t := 8) (h := 8) (off := 0) (off' := 0) (ltN rfl) qC13_fo_30_0 rfl)) (AllSteps.cons (step_plain rfl (acts_load_own (d := 47) (t := 46) (h := 8) (off := 0) (o := ⟨30, 1, true, [(.sl 10 0 ((padP l p).length) : A)]⟩)  (x := .sl 10 0 ((padP l p).length)) (ltN rfl) qC13_ti_22 rfl)) (AllSteps.cons (step_plain rfl (acts_field (d := 48) (t := 4) (h := 4) (off := 0) (off' := 1) (ltN rfl) qC13_fo_39_1 rfl)) (AllSteps.cons (step_plain rfl (acts_load_own (d := 49) (t := 48) (h := 4) (off := 1) (o := ⟨39, 2, true, [(.val (.int .i64 c.x) : A), .val (.int .i64 c.y)]⟩)  (x := .val (.int .i64 c.y)) (ltN rfl) qC13_ti_3 rfl)) (AllSteps.cons (step_plain rfl (acts_field (d := 50) (t := 8) (h := 8) (off := 0) (off' := 0) (ltN rfl) qC13_fo_30_0 rfl)) (AllSteps.cons (step_plain rfl (acts_load_own (d := 51) (t := 50) (h := 8) (off := 0) (o := ⟨30, 1, true, [(.sl 10 0 ((padP l p).length) : A)]⟩)  (x := .sl 10 0 ((padP l p).length)) (ltN rfl) qC13_ti_22 rfl)) (AllSteps.cons (step_plain rfl (acts_field (d := 52) (t := 4) (h := 4) (off := 0) (off' := 1) (ltN rfl) qC13_fo_39_1 rfl)) (AllSteps.cons (step_plain rfl (acts_load_own (d := 53) (t := 52) (h := 4) (off := 1) (o := ⟨39, 2, true, [(.val (.int .i64 c.x) : A), .val (.int .i64 c.y)]⟩)  (x := .val (.int .i64 c.y)) (ltN rfl) qC13_ti_3 rfl)) (AllSteps.cons (step_plain rfl (acts_index_sl (d := 54) (x := 51) (h := 10) (off := 0) (n := ((padP l p).length)) (k := c.y.toNat) (off' := (c.y.toNat * 1)) (o := ⟨3, 1, true, pl (isl ((padP l p).set c.y.toNat (((((gI (padP l p) c.y.toNat).toNat) ||| (2 ^ c.x.toNat)) : Nat) : Int)))⟩) (ltN rfl) qC13_un_22 qC13_sz_3 (OpV.tmp 53 (.int .i64 c.y)) (Int.toNat_of_nonneg (by omega)).symm (by omega) (by (simp; done)))) (AllSteps.cons (step_plain rfl (acts_load_own (d := 55) (t := 54) (h := 10) (off := (c.y.toNat * 1)) (o := ⟨3, 1, true, pl (isl ((padP l p).set c.y.toNat (((((gI (padP l p) c.y.toNat).toNat) ||| (2 ^ c.x.toNat)) : Nat) : Int)))⟩)  (x := .val (.int .i64 (gI ((padP l p).set c.y.toNat (((((gI (padP l p) c.y.toNat).toNat) ||| (2 ^ c.x.toNat)) : Nat) : Int)) c.y.toNat))) (ltN rfl) qC13_ti_3 (pl_get (isl_get1 (k := c.y.toNat) (by (simp only [List.length_set, pad_len]; omega)))))) (AllSteps.cons (step_plain rfl (acts_field (d := 56) (t := 4) (h := 4) (off := 0) (off' := 0) (ltN rfl) qC13_fo_39_0 rfl)) (AllSteps.cons (step_plain rfl (acts_load_own (d := 57) (t := 56) (h := 4) (off := 0) (o := ⟨39, 2, true, [(.val (.int .i64 c.x) : A), .val (.int .i64 c.y)]⟩)  (x := .val (.int .i64 c.x)) (ltN rfl) qC13_ti_3 rfl)) (AllSteps.cons (step_plain rfl (acts_bin (d := 58) (ltN rfl) (OpV.const (.int .i64 1)) (OpV.tmp 57 (.int .i64 c.x)) (r_shl (c := (((2 ^ c.x.toNat) : Nat) : Int)) (by omega) (shl1I (n := c.x.toNat) (Int.toNat_of_nonneg (by omega)).symm (by omega))))) (AllSteps.cons (step_plain rfl (acts_bin (d := 59) (ltN rfl) (OpV.tmp 55 (.int .i64 (gI ((padP l p).set c.y.toNat (((((gI (padP l p) c.y.toNat).toNat) ||| (2 ^ c.x.toNat)) : Nat) : Int)) c.y.toNat))) (OpV.tmp 58 (.int .i64 (((2 ^ c.x.toNat) : Nat) : Int))) (r_sub (c := ((gI ((padP l p).set c.y.toNat (((((gI (padP l p) c.y.toNat).toNat) ||| (2 ^ c.x.toNat)) : Nat) : Int)) c.y.toNat) - (((2 ^ c.x.toNat) : Nat) : Int))) (w64 (by (rw [gI_set (by rw [pad_len]; omega), if_pos rfl]; have q1 := pow_or (gI (padP l p) c.y.toNat).toNat c.x.toNat; have q2 := or_bd (a := (gI (padP l p) c.y.toNat).toNat) (x := c.x.toNat) (by rw [gI_padp]; omega) (by omega); omega)) (by (rw [gI_set (by rw [pad_len]; omega), if_pos rfl]; have q1 := pow_or (gI (padP l p) c.y.toNat).toNat c.x.toNat; have q2 := or_bd (a := (gI (padP l p) c.y.toNat).toNat) (x := c.x.toNat) (by rw [gI_padp]; omega) (by omega); omega)))))) (AllSteps.cons (step_plain rfl (acts_index_sl (d := 60) (x := 47) (h := 10) (off := 0) (n := ((padP l p).length)) (k := c.y.toNat) (off' := (c.y.toNat * 1)) (o := ⟨3, 1, true, pl (isl ((padP l p).set c.y.toNat (((((gI (padP l p) c.y.toNat).toNat) ||| (2 ^ c.x.toNat)) : Nat) : Int)))⟩) (ltN rfl) qC13_un_22 qC13_sz_3 (OpV.tmp 49 (.int .i64 c.y)) (Int.toNat_of_nonneg (by omega)).symm (by omega) (by (simp; done)))) (AllSteps.cons (step_plain rfl (acts_store (t := 60) (h := 10) (off := (c.y.toNat * 1)) (o := ⟨3, 1, true, pl (isl ((padP l p).set c.y.toNat (((((gI (padP l p) c.y.toNat).toNat) ||| (2 ^ c.x.toNat)) : Nat) : Int)))⟩) (b := .a (.val (.int .i64 ((gI ((padP l p).set c.y.toNat (((((gI (padP l p) c.y.toNat).toNat) ||| (2 ^ c.x.toNat)) : Nat) : Int)) c.y.toNat) - (((2 ^ c.x.toNat) : Nat) : Int))))) (cells := pl (isl (((padP l p).set c.y.toNat (((((gI (padP l p) c.y.toNat).toNat) ||| (2 ^ c.x.toNat)) : Nat) : Int)).set c.y.toNat ((gI ((padP l p).set c.y.toNat (((((gI (padP l p) c.y.toNat).toNat) ||| (2 ^ c.x.toNat)) : Nat) : Int)) c.y.toNat) - (((2 ^ c.x.toNat) : Nat) : Int))))) qC13_ti_3 (OpX.tmp 59 (V.v (.int .i64 ((gI ((padP l p).set c.y.toNat (((((gI (padP l p) c.y.toNat).toNat) ||| (2 ^ c.x.toNat)) : Nat) : Int)) c.y.toNat) - (((2 ^ c.x.toNat) : Nat) : Int))))) rfl (by decide) (by intro y hy; simp [B.cs] at hy; subst hy; rfl) (by simp only [pl_len, isl_len]; first | omega | assumption | (rw [gI_padp]; omega) | (simp only [List.length_set, pad_len]; omega) | (simp only [pad_len]; omega) | (rw [pad_len]; omega) | (rw [gI_set (by rw [pad_len]; omega), if_pos rfl]; have q1 := pow_or (gI (padP l p) c.y.toNat).toNat c.x.toNat; have q2 := or_bd (a := (gI (padP l p) c.y.toNat).toNat) (x := c.x.toNat) (by rw [gI_padp]; omega) (by omega); omega)) (isl_put (k := c.y.toNat) (by (simp only [List.length_set, pad_len]; omega))))) (AllSteps.nil))))))))))))))))) (by kernel_rfl) (by kernel_rfl) (by kernel_rfl) ?_
    refine wp_seq' ?_
    refine wp_region_t ?_
    refine wpc (step_plain rfl (acts_load_owns (d := 61) (t := 8) (h := 8) (off := 0) (o := ⟨30, 1, true, [(.sl 10 0 ((padP l p).length) : A)]⟩)  (xs := [(.sl 10 0 ((padP l p).length) : A)]) (ltN rfl) qC13_ti_30 rfl (by decide) rfl)) (by kernel_rfl) ?_
    refine wpc (step_plain rfl (acts_store (t := 6) (h := 6) (off := 0) (o := ⟨30, 1, true, [(.val (.slice none 0 0) : A)]⟩) (b := .agg [(.sl 10 0 ((padP l p).length) : A)]) (cells := [(.sl 10 0 ((padP l p).length) : A)]) qC13_ti_30 (OpX.tmp 61 (V.b (.agg [(.sl 10 0 ((padP l p).length) : A)]))) rfl (by decide) (by intro y hy; simp [B.cs] at hy; subst hy; rfl) (Nat.le_of_ble_eq_true rfl) rfl)) (by kernel_rfl) ?_
    refine wpc (step_plain rfl (acts_assign (d := 7) (ltN rfl) (OpX.const (.bool true)))) (by kernel_rfl) ?_
    refine wpl_nil ?_
    refine wp_ret' ?_
    exact ⟨VRes.cells 6 30 6 ⟨30, 1, true, [(.sl 10 0 ((padP l p).length) : A)]⟩ _ (by kernel_rfl) (by kernel_rfl) qC13_ti_30 (Nat.le_of_ble_eq_true rfl) (breg (h := 10) (L := (((padP l p).set c.y.toNat (((((gI (padP l p) c.y.toNat).toNat) ||| (2 ^ c.x.toNat)) : Nat) : Int)).set c.y.toNat ((gI ((padP l p).set c.y.toNat (((((gI (padP l p) c.y.toNat).toNat) ||| (2 ^ c.x.toNat)) : Nat) : Int)) c.y.toNat) - (((2 ^ c.x.toNat) : Nat) : Int)))) (by kernel_rfl) (by exact delL_end ho hc (by omega) (by assumption)) (by (simp; done))), VRes.tmp 7 (.a (.val (.bool true))) _ (by kernel_rfl) (BRes.val _)⟩

set_option maxHeartbeats 4000000 in
set_option maxRecDepth 100000 in
theorem impl_CountTilings_fn (l : List Int) (hl : l.length ≤ 4194304) : Fn Try.prog 38 [.agg [(.slv l.length 1 (isl l) : A)]] [.val (.int .i64 (((cntR l) : Nat) : Int))] := by
  refine fn_intro (N := 9) Try.func38 rfl (by kernel_rfl) rfl (Nat.le_of_ble_eq_true rfl) [1, 4, 7, 8] (ret1 rfl) (fun W => ?_)
  show Wp _ _ _ [(.s 0, some (.s (V.b (.agg [(.slv l.length 1 (isl l) : A)])))), (.o 1, some .free), (.o 4, some .free), (.o 7, some .free), (.o 8, some .free)]
  refine wp_seq' ?_
  refine wp_region_t ?_
  refine wpc (step_plain rfl (acts_box (d := 1) (h := 1) (b := .agg [(.slv l.length 1 (isl l) : A)]) (ltN rfl) (OpX.tmp 0 (V.b (.agg [(.slv l.length 1 (isl l) : A)]))) (by intro y hy; simp [B.cs] at hy; subst hy; rfl))) (by kernel_rfl) ?_
  refine wpc (step_plain rfl (acts_assign (d := 2) (ltN rfl) (OpX.const (.int .i64 0)))) (by kernel_rfl) ?_
  refine wpl_nil ?_
  refine wp_seq' ?_
  refine wp_seq' ?_
  refine wp_region_t ?_
  refine wpc (step_plain rfl (acts_load_owns (d := 3) (t := 1) (h := 1) (off := 0) (o := ⟨30, 1, true, [(.slv l.length 1 (isl l) : A)]⟩)  (xs := [(.slv l.length 1 (isl l) : A)]) (ltN rfl) qC13_ti_30 rfl (by decide) rfl)) (by kernel_rfl) ?_
  refine wpc (step_plain rfl (acts_call1 (d := 4) (ltN rfl) (impl_RegionOk_fn l (by omega)) (ArgVs.cons (ArgV.regv 3 l.length 1 (isl l)) (ArgVs.nil)) (ResV.val _))) (by kernel_rfl) ?_
  refine wpc (step_plain rfl (acts_un (d := 5) (ltN rfl) (OpV.tmp 4 (.bool (regOk l))) (r_not (c := (!(regOk l))) rfl))) (by kernel_rfl) ?_
  refine wpl_nil ?_
  refine wp_if (t := 5) ((!(regOk l))) (by kernel_rfl) (fun c1 => ?_) (fun c1 => ?_)
  · skip
    have c2 : (regOk l) = false := by simpa using c1
    refine wp_seq' ?_
    refine wp_region_t ?_
    refine wpc (step_plain rfl (acts_assign (d := 2) (ltN rfl) (OpX.const (.int .i64 0)))) (by kernel_rfl) ?_
    refine wpl_nil ?_
    refine wp_ret' ?_
    exact VRes.tmp 2 (.a (.val (.int .i64 0))) _ (by kernel_rfl) (bval (congrArg (Value.int .i64) (by (rw [cntR_no (by assumption)]; rfl))))
  · skip
    have c3 : (regOk l) = true := by simpa using c1
    refine wp_skip' ?_
    refine wp_seq' ?_
    refine wp_region_t ?_
    refine wpc (step_plain rfl (acts_load_owns (d := 6) (t := 1) (h := 1) (off := 0) (o := ⟨30, 1, true, [(.slv l.length 1 (isl l) : A)]⟩)  (xs := [(.slv l.length 1 (isl l) : A)]) (ltN rfl) qC13_ti_30 rfl (by decide) rfl)) (by kernel_rfl) ?_
    refine wpc (step_plain rfl (acts_call1 (d := 7) (ltN rfl) (impl_Region__set_fn l (by omega)) (ArgVs.cons (ArgV.regv 6 l.length 1 (isl l)) (ArgVs.nil)) (ResV.val _))) (by kernel_rfl) ?_
    refine wpc (step_plain rfl (acts_call1 (d := 8) (ltN rfl) (impl_set__count_fn (regSet l) (by exact regSet_lt (by assumption))) (ArgVs.cons (ArgV.v (OpV.tmp 7 (.int .u64 (((regSet l) : Nat) : Int)))) (ArgVs.nil)) (ResV.val _))) (by kernel_rfl) ?_
    refine wpc (step_plain rfl (acts_assign (d := 2) (ltN rfl) (OpX.tmp 8 (V.v (.int .i64 (((cnt (regSet l)) : Nat) : Int)))))) (by kernel_rfl) ?_
    refine wpl_nil ?_
    refine wp_ret' ?_
    exact VRes.tmp 2 (.a (.val (.int .i64 (((cnt (regSet l)) : Nat) : Int)))) _ (by kernel_rfl) (bval (congrArg (Value.int .i64) (by rw [cntR_yes (by assumption)])))

set_option maxHeartbeats 4000000 in
set_option maxRecDepth 100000 in
theorem spec_CountTilings_fn (l : List Int) (hl : l.length ≤ 4194304) : Fn Try.prog 34 [.agg [(.slv l.length 1 (isl l) : A)]] [.val (.int .i64 (((cntR l) : Nat) : Int))] := by
  refine fn_intro (N := 8) Try.func34 rfl (by kernel_rfl) rfl (Nat.le_of_ble_eq_true rfl) [1, 4, 7] (ret1 rfl) (fun W => ?_)
  show Wp _ _ _ [(.s 0, some (.s (V.b (.agg [(.slv l.length 1 (isl l) : A)])))), (.o 1, some .free), (.o 4, some .free), (.o 7, some .free)]
  refine wp_seq' ?_
  refine wp_region_t ?_
  refine wpc (step_plain rfl (acts_box (d := 1) (h := 1) (b := .agg [(.slv l.length 1 (isl l) : A)]) (ltN rfl) (OpX.tmp 0 (V.b (.agg [(.slv l.length 1 (isl l) : A)]))) (by intro y hy; simp [B.cs] at hy; subst hy; rfl))) (by kernel_rfl) ?_
  refine wpc (step_plain rfl (acts_assign (d := 2) (ltN rfl) (OpX.const (.int .i64 0)))) (by kernel_rfl) ?_
  refine wpl_nil ?_
  refine wp_seq' ?_
  refine wp_seq' ?_
  refine wp_region_t ?_
  refine wpc (step_plain rfl (acts_load_owns (d := 3) (t := 1) (h := 1) (off := 0) (o := ⟨30, 1, true, [(.slv l.length 1 (isl l) : A)]⟩)  (xs := [(.slv l.length 1 (isl l) : A)]) (ltN rfl) qC13_ti_30 rfl (by decide) rfl)) (by kernel_rfl) ?_
  refine wpc (step_plain rfl (acts_call1 (d := 4) (ltN rfl) (spec_RegionOk_fn l (by omega)) (ArgVs.cons (ArgV.regv 3 l.length 1 (isl l)) (ArgVs.nil)) (ResV.val _))) (by kernel_rfl) ?_
  refine wpc (step_plain rfl (acts_un (d := 5) (ltN rfl) (OpV.tmp 4 (.bool (regOk l))) (r_not (c := (!(regOk l))) rfl))) (by kernel_rfl) ?_
  refine wpl_nil ?_
  refine wp_if (t := 5) ((!(regOk l))) (by kernel_rfl) (fun c1 => ?_) (fun c1 => ?_)
  · skip
    have c2 : (regOk l) = false := by simpa using c1
    refine wp_seq' ?_
    refine wp_region_t ?_
    refine wpc (step_plain rfl (acts_assign (d := 2) (ltN rfl) (OpX.const (.int .i64 0)))) (by kernel_rfl) ?_
    refine wpl_nil ?_
    refine wp_ret' ?_
    exact VRes.tmp 2 (.a (.val (.int .i64 0))) _ (by kernel_rfl) (bval (congrArg (Value.int .i64) (by (rw [cntR_no (by assumption)]; rfl))))
  · skip
    have c3 : (regOk l) = true := by simpa using c1
    refine wp_skip' ?_
    refine wp_seq' ?_
    refine wp_region_t ?_
    refine wpc (step_plain rfl (acts_load_owns (d := 6) (t := 1) (h := 1) (off := 0) (o := ⟨30, 1, true, [(.slv l.length 1 (isl l) : A)]⟩)  (xs := [(.slv l.length 1 (isl l) : A)]) (ltN rfl) qC13_ti_30 rfl (by decide) rfl)) (by kernel_rfl) ?_
    refine wpc (step_plain rfl (acts_call1 (d := 7) (ltN rfl) (spec_l07Count_fn l (by omega)) (ArgVs.cons (ArgV.regv 6 l.length 1 (isl l)) (ArgVs.nil)) (ResV.val _))) (by kernel_rfl) ?_
    refine wpc (step_plain rfl (acts_assign (d := 2) (ltN rfl) (OpX.tmp 7 (V.v (.int .i64 (((cnt (regSet l)) : Nat) : Int)))))) (by kernel_rfl) ?_
    refine wpl_nil ?_
    refine wp_ret' ?_
    exact VRes.tmp 2 (.a (.val (.int .i64 (((cnt (regSet l)) : Nat) : Int)))) _ (by kernel_rfl) (bval (congrArg (Value.int .i64) (by rw [cntR_yes (by assumption)])))

set_option maxHeartbeats 4000000 in
set_option maxRecDepth 100000 in
theorem impl_IsTileable_fn (l : List Int) (hl : l.length ≤ 4194304) : Fn Try.prog 55 [.agg [(.slv l.length 1 (isl l) : A)]] [.val (.bool (decide (0 < cntR l)))] := by
  refine fn_intro (N := 6) Try.func55 rfl (by kernel_rfl) rfl (Nat.le_of_ble_eq_true rfl) [1, 4] (ret1 rfl) (fun W => ?_)
  show Wp _ _ _ [(.s 0, some (.s (V.b (.agg [(.slv l.length 1 (isl l) : A)])))), (.o 1, some .free), (.o 4, some .free)]
  refine wp_seq' ?_
  refine wp_region_t ?_
  refine wpc (step_plain rfl (acts_box (d := 1) (h := 1) (b := .agg [(.slv l.length 1 (isl l) : A)]) (ltN rfl) (OpX.tmp 0 (V.b (.agg [(.slv l.length 1 (isl l) : A)]))) (by intro y hy; simp [B.cs] at hy; subst hy; rfl))) (by kernel_rfl) ?_
  refine wpc (step_plain rfl (acts_assign (d := 2) (ltN rfl) (OpX.const (.bool false)))) (by kernel_rfl) ?_
  refine wpl_nil ?_
  refine wp_seq' ?_
  refine wp_region_t ?_
  refine wpc (step_plain rfl (acts_load_owns (d := 3) (t := 1) (h := 1) (off := 0) (o := ⟨30, 1, true, [(.slv l.length 1 (isl l) : A)]⟩)  (xs := [(.slv l.length 1 (isl l) : A)]) (ltN rfl) qC13_ti_30 rfl (by decide) rfl)) (by kernel_rfl) ?_
  refine wpc (step_plain rfl (acts_call1 (d := 4) (ltN rfl) (impl_CountTilings_fn l (by omega)) (ArgVs.cons (ArgV.regv 3 l.length 1 (isl l)) (ArgVs.nil)) (ResV.val _))) (by kernel_rfl) ?_
  refine wpc (step_plain rfl (acts_bin (d := 5) (ltN rfl) (OpV.tmp 4 (.int .i64 (((cntR l) : Nat) : Int))) (OpV.const (.int .i64 0)) (r_gtr (c := (decide (0 < (((cntR l) : Nat) : Int)))) rfl))) (by kernel_rfl) ?_
  refine wpc (step_plain rfl (acts_assign (d := 2) (ltN rfl) (OpX.tmp 5 (V.v (.bool (decide (0 < (((cntR l) : Nat) : Int)))))))) (by kernel_rfl) ?_
  refine wpl_nil ?_
  refine wp_ret' ?_
  exact VRes.tmp 2 (.a (.val (.bool (decide (0 < (((cntR l) : Nat) : Int)))))) _ (by kernel_rfl) (bval (congrArg Value.bool (by simp)))

set_option maxHeartbeats 4000000 in
set_option maxRecDepth 100000 in
theorem impl_CountWith_fn (l : List Int) (d : Dom) (hl : l.length ≤ 4194304) : Fn Try.prog 37 [.agg [(.slv l.length 1 (isl l) : A)], .agg ([(.int .i64 d.x : Value), .int .i64 d.y, .bool d.d].map A.val)] [.val (.int .i64 (((cntW l d) : Nat) : Int))] := by
  refine fn_intro (N := 29) Try.func37 rfl (by kernel_rfl) rfl (Nat.le_of_ble_eq_true rfl) [2, 3, 6, 10, 15, 17, 20, 24, 26, 28] (ret1 rfl) (fun W => ?_)
  show Wp _ _ _ [(.s 0, some (.s (V.b (.agg [(.slv l.length 1 (isl l) : A)])))), (.s 1, some (.s (V.av [(.int .i64 d.x : Value), .int .i64 d.y, .bool d.d]))), (.o 2, some .free), (.o 3, some .free), (.o 6, some .free), (.o 10, some .free), (.o 15, some .free), (.o 17, some .free), (.o 20, some .free), (.o 24, some .free), (.o 26, some .free), (.o 28, some .free)]
  refine wp_seq' ?_
  refine wp_region_t ?_
  refine wpc (step_plain rfl (acts_box (d := 2) (h := 2) (b := .agg [(.slv l.length 1 (isl l) : A)]) (ltN rfl) (OpX.tmp 0 (V.b (.agg [(.slv l.length 1 (isl l) : A)]))) (by intro y hy; simp [B.cs] at hy; subst hy; rfl))) (by kernel_rfl) ?_
  refine wpc (step_plain rfl (acts_box (d := 3) (h := 3) (b := .agg ([(.int .i64 d.x : Value), .int .i64 d.y, .bool d.d].map A.val)) (ltN rfl) (OpX.tmp 1 (V.av [(.int .i64 d.x : Value), .int .i64 d.y, .bool d.d])) (by intro y hy; simp [B.cs] at hy; rcases hy with rfl | rfl | rfl <;> rfl))) (by kernel_rfl) ?_
  refine wpc (step_plain rfl (acts_assign (d := 4) (ltN rfl) (OpX.const (.int .i64 0)))) (by kernel_rfl) ?_
  refine wpl_nil ?_
  refine wp_seq' ?_
  refine wp_seq' ?_
  rcases Bool.eq_false_or_eq_true ((regOk l)) with c1 | c1
  · skip
    rcases Bool.eq_false_or_eq_true ((okD d)) with c2 | c2
    · skip
      refine wp_drawn' (by kernel_rfl) (AllSteps.cons (step_plain rfl (acts_load_owns (d := 5) (t := 2) (h := 2) (off := 0) (o := ⟨30, 1, true, [(.slv l.length 1 (isl l) : A)]⟩)  (xs := [(.slv l.length 1 (isl l) : A)]) (ltN rfl) qC13_ti_30 rfl (by decide) rfl)) (AllSteps.cons (step_plain rfl (acts_call1 (d := 6) (ltN rfl) (impl_RegionOk_fn l (by omega)) (ArgVs.cons (ArgV.regv 5 l.length 1 (isl l)) (ArgVs.nil)) ((resval (congrArg Value.bool c1))))) (AllSteps.cons (step_plain rfl (acts_un (d := 7) (ltN rfl) (OpV.tmp 6 (.bool true)) (r_not (c := false) rfl))) (AllSteps.cons (step_plain rfl (acts_move (d := 8) (ltN rfl) (OpX.tmp 7 (V.v (.bool false))))) (AllSteps.cons (step_on (dj := 8) rfl rfl (acts_load_owns (d := 9) (t := 3) (h := 3) (off := 0) (o := ⟨32, 3, true, [(.val (.int .i64 d.x) : A), .val (.int .i64 d.y), .val (.bool d.d)]⟩)  (xs := [(.int .i64 d.x : Value), .int .i64 d.y, .bool d.d].map A.val) (ltN rfl) qC13_ti_32 rfl (by decide) rfl)) (AllSteps.cons (step_on (dj := 8) rfl rfl (acts_call1 (d := 10) (ltN rfl) (impl_DominoOk_fn d ) (ArgVs.cons (ArgV.va (vs := [(.int .i64 d.x : Value), .int .i64 d.y, .bool d.d]) (OpV.agg 9 [(.int .i64 d.x : Value), .int .i64 d.y, .bool d.d])) (ArgVs.nil)) ((resval (congrArg Value.bool c2))))) (AllSteps.cons (step_on (dj := 8) rfl rfl (acts_un (d := 11) (ltN rfl) (OpV.tmp 10 (.bool true)) (r_not (c := false) rfl))) (AllSteps.cons (step_plain rfl (acts_pick_f (d := 12) (ltN rfl) (OpV.tmp 8 (.bool false)) (OpX.tmp 11 (V.v (.bool false))))) (AllSteps.cons (step_plain rfl (acts_move (d := 13) (ltN rfl) (OpX.tmp 12 (V.v (.bool false))))) (AllSteps.cons (step_on (dj := 13) rfl rfl (acts_load_owns (d := 14) (t := 2) (h := 2) (off := 0) (o := ⟨30, 1, true, [(.slv l.length 1 (isl l) : A)]⟩)  (xs := [(.slv l.length 1 (isl l) : A)]) (ltN rfl) qC13_ti_30 rfl (by decide) rfl)) (AllSteps.cons (step_on (dj := 13) rfl rfl (acts_call1 (d := 15) (ltN rfl) (impl_Region__set_fn l (by omega)) (ArgVs.cons (ArgV.regv 14 l.length 1 (isl l)) (ArgVs.nil)) (ResV.val _))) (AllSteps.cons (step_on (dj := 13) rfl rfl (acts_load_owns (d := 16) (t := 3) (h := 3) (off := 0) (o := ⟨32, 3, true, [(.val (.int .i64 d.x) : A), .val (.int .i64 d.y), .val (.bool d.d)]⟩)  (xs := [(.int .i64 d.x : Value), .int .i64 d.y, .bool d.d].map A.val) (ltN rfl) qC13_ti_32 rfl (by decide) rfl)) (AllSteps.cons (step_on (dj := 13) rfl rfl (acts_call1 (d := 17) (ltN rfl) (impl_Domino__set_fn d (by omega)) (ArgVs.cons (ArgV.va (vs := [(.int .i64 d.x : Value), .int .i64 d.y, .bool d.d]) (OpV.agg 16 [(.int .i64 d.x : Value), .int .i64 d.y, .bool d.d])) (ArgVs.nil)) (ResV.val _))) (AllSteps.cons (step_on (dj := 13) rfl rfl (acts_bin (d := 18) (ltN rfl) (OpV.tmp 15 (.int .u64 (((regSet l) : Nat) : Int))) (OpV.tmp 17 (.int .u64 (((domS d) : Nat) : Int))) (r_and (c := ((((regSet l) &&& (domS d)) : Nat) : Int)) (andU (m := (regSet l)) (n := (domS d)) rfl rfl (by (first | omega | assumption | exact regSet_lt (by assumption) | exact domS_lt (by assumption) | exact andn_lt (regSet_lt (by assumption)))) (by (first | omega | assumption | exact regSet_lt (by assumption) | exact domS_lt (by assumption) | exact andn_lt (regSet_lt (by assumption)))))))) (AllSteps.cons (step_on (dj := 13) rfl rfl (acts_load_owns (d := 19) (t := 3) (h := 3) (off := 0) (o := ⟨32, 3, true, [(.val (.int .i64 d.x) : A), .val (.int .i64 d.y), .val (.bool d.d)]⟩)  (xs := [(.int .i64 d.x : Value), .int .i64 d.y, .bool d.d].map A.val) (ltN rfl) qC13_ti_32 rfl (by decide) rfl)) (AllSteps.cons (step_on (dj := 13) rfl rfl (acts_call1 (d := 20) (ltN rfl) (impl_Domino__set_fn d (by omega)) (ArgVs.cons (ArgV.va (vs := [(.int .i64 d.x : Value), .int .i64 d.y, .bool d.d]) (OpV.agg 19 [(.int .i64 d.x : Value), .int .i64 d.y, .bool d.d])) (ArgVs.nil)) (ResV.val _))) (AllSteps.cons (step_on (dj := 13) rfl rfl (acts_bin (d := 21) (ltN rfl) (OpV.tmp 18 (.int .u64 ((((regSet l) &&& (domS d)) : Nat) : Int))) (OpV.tmp 20 (.int .u64 (((domS d) : Nat) : Int))) (r_neq (c := (decide (((((regSet l) &&& (domS d)) : Nat) : Int) ≠ (((domS d) : Nat) : Int)))) rfl))) (AllSteps.cons (step_plain rfl (acts_pick_f (d := 22) (ltN rfl) (OpV.tmp 13 (.bool false)) (OpX.tmp 21 (V.v (.bool (decide (((((regSet l) &&& (domS d)) : Nat) : Int) ≠ (((domS d) : Nat) : Int)))))))) (AllSteps.nil))))))))))))))))))) (by kernel_rfl) (by kernel_rfl) (by kernel_rfl) ?_
      refine wp_if (t := 22) (decide (((((regSet l) &&& (domS d)) : Nat) : Int) ≠ (((domS d) : Nat) : Int))) (by kernel_rfl) (fun c3 => ?_) (fun c3 => ?_)
      · skip
        have c3P := of_decide_eq_true c3
        refine wp_seq' ?_
        refine wp_region_t ?_
        refine wpc (step_plain rfl (acts_assign (d := 4) (ltN rfl) (OpX.const (.int .i64 0)))) (by kernel_rfl) ?_
        refine wpl_nil ?_
        refine wp_ret' ?_
        exact VRes.tmp 4 (.a (.val (.int .i64 0))) _ (by kernel_rfl) (bval (congrArg (Value.int .i64) (by (rw [cntW_no3 (nat_ne (by assumption))]; rfl))))
      · skip
        have c3P := of_decide_eq_false c3
        refine wp_skip' ?_
        refine wp_seq' ?_
        refine wp_drawn' (by kernel_rfl) (AllSteps.cons (step_plain rfl (acts_load_owns (d := 23) (t := 2) (h := 2) (off := 0) (o := ⟨30, 1, true, [(.slv l.length 1 (isl l) : A)]⟩)  (xs := [(.slv l.length 1 (isl l) : A)]) (ltN rfl) qC13_ti_30 rfl (by decide) rfl)) (AllSteps.cons (step_plain rfl (acts_call1 (d := 24) (ltN rfl) (impl_Region__set_fn l (by omega)) (ArgVs.cons (ArgV.regv 23 l.length 1 (isl l)) (ArgVs.nil)) (ResV.val _))) (AllSteps.cons (step_plain rfl (acts_load_owns (d := 25) (t := 3) (h := 3) (off := 0) (o := ⟨32, 3, true, [(.val (.int .i64 d.x) : A), .val (.int .i64 d.y), .val (.bool d.d)]⟩)  (xs := [(.int .i64 d.x : Value), .int .i64 d.y, .bool d.d].map A.val) (ltN rfl) qC13_ti_32 rfl (by decide) rfl)) (AllSteps.cons (step_plain rfl (acts_call1 (d := 26) (ltN rfl) (impl_Domino__set_fn d (by omega)) (ArgVs.cons (ArgV.va (vs := [(.int .i64 d.x : Value), .int .i64 d.y, .bool d.d]) (OpV.agg 25 [(.int .i64 d.x : Value), .int .i64 d.y, .bool d.d])) (ArgVs.nil)) (ResV.val _))) (AllSteps.cons (step_plain rfl (acts_bin (d := 27) (ltN rfl) (OpV.tmp 24 (.int .u64 (((regSet l) : Nat) : Int))) (OpV.tmp 26 (.int .u64 (((domS d) : Nat) : Int))) (r_andNot (c := (((andn (regSet l) (domS d)) : Nat) : Int)) (andnU (m := (regSet l)) (n := (domS d)) rfl rfl (by (first | omega | assumption | exact regSet_lt (by assumption) | exact domS_lt (by assumption) | exact andn_lt (regSet_lt (by assumption)))) (by (first | omega | assumption | exact regSet_lt (by assumption) | exact domS_lt (by assumption) | exact andn_lt (regSet_lt (by assumption)))))))) (AllSteps.cons (step_plain rfl (acts_call1 (d := 28) (ltN rfl) (impl_set__count_fn (andn (regSet l) (domS d)) (by exact andn_lt (regSet_lt (by assumption)))) (ArgVs.cons (ArgV.v (OpV.tmp 27 (.int .u64 (((andn (regSet l) (domS d)) : Nat) : Int)))) (ArgVs.nil)) (ResV.val _))) (AllSteps.cons (step_plain rfl (acts_assign (d := 4) (ltN rfl) (OpX.tmp 28 (V.v (.int .i64 (((cnt (andn (regSet l) (domS d))) : Nat) : Int)))))) (AllSteps.nil)))))))) (by kernel_rfl) (by kernel_rfl) (by kernel_rfl) ?_
        refine wp_ret' ?_
        exact VRes.tmp 4 (.a (.val (.int .i64 (((cnt (andn (regSet l) (domS d))) : Nat) : Int)))) _ (by kernel_rfl) (bval (congrArg (Value.int .i64) (by (rw [cntW_yes (by assumption) (by unfold fitD; rw [show okD d = true by assumption, decide_eq_true (nat_eq (by assumption))]; rfl)]))))
    · skip
      refine wp_drawn' (by kernel_rfl) (AllSteps.cons (step_plain rfl (acts_load_owns (d := 5) (t := 2) (h := 2) (off := 0) (o := ⟨30, 1, true, [(.slv l.length 1 (isl l) : A)]⟩)  (xs := [(.slv l.length 1 (isl l) : A)]) (ltN rfl) qC13_ti_30 rfl (by decide) rfl)) (AllSteps.cons (step_plain rfl (acts_call1 (d := 6) (ltN rfl) (impl_RegionOk_fn l (by omega)) (ArgVs.cons (ArgV.regv 5 l.length 1 (isl l)) (ArgVs.nil)) ((resval (congrArg Value.bool c1))))) (AllSteps.cons (step_plain rfl (acts_un (d := 7) (ltN rfl) (OpV.tmp 6 (.bool true)) (r_not (c := false) rfl))) (AllSteps.cons (step_plain rfl (acts_move (d := 8) (ltN rfl) (OpX.tmp 7 (V.v (.bool false))))) (AllSteps.cons (step_on (dj := 8) rfl rfl (acts_load_owns (d := 9) (t := 3) (h := 3) (off := 0) (o := ⟨32, 3, true, [(.val (.int .i64 d.x) : A), .val (.int .i64 d.y), .val (.bool d.d)]⟩)  (xs := [(.int .i64 d.x : Value), .int .i64 d.y, .bool d.d].map A.val) (ltN rfl) qC13_ti_32 rfl (by decide) rfl)) (AllSteps.cons (step_on (dj := 8) rfl rfl (acts_call1 (d := 10) (ltN rfl) (impl_DominoOk_fn d ) (ArgVs.cons (ArgV.va (vs := [(.int .i64 d.x : Value), .int .i64 d.y, .bool d.d]) (OpV.agg 9 [(.int .i64 d.x : Value), .int .i64 d.y, .bool d.d])) (ArgVs.nil)) ((resval (congrArg Value.bool c2))))) (AllSteps.cons (step_on (dj := 8) rfl rfl (acts_un (d := 11) (ltN rfl) (OpV.tmp 10 (.bool false)) (r_not (c := true) rfl))) (AllSteps.cons (step_plain rfl (acts_pick_f (d := 12) (ltN rfl) (OpV.tmp 8 (.bool false)) (OpX.tmp 11 (V.v (.bool true))))) (AllSteps.cons (step_plain rfl (acts_move (d := 13) (ltN rfl) (OpX.tmp 12 (V.v (.bool true))))) (AllSteps.cons (step_off (dj := 13) (b' := true) rfl rfl (by decide) rfl (ltN rfl)) (AllSteps.cons (step_off (dj := 13) (b' := true) rfl rfl (by decide) rfl (ltN rfl)) (AllSteps.cons (step_off (dj := 13) (b' := true) rfl rfl (by decide) rfl (ltN rfl)) (AllSteps.cons (step_off (dj := 13) (b' := true) rfl rfl (by decide) rfl (ltN rfl)) (AllSteps.cons (step_off (dj := 13) (b' := true) rfl rfl (by decide) rfl (ltN rfl)) (AllSteps.cons (step_off (dj := 13) (b' := true) rfl rfl (by decide) rfl (ltN rfl)) (AllSteps.cons (step_off (dj := 13) (b' := true) rfl rfl (by decide) rfl (ltN rfl)) (AllSteps.cons (step_off (dj := 13) (b' := true) rfl rfl (by decide) rfl (ltN rfl)) (AllSteps.cons (step_plain rfl (acts_pick_t (d := 22) (ltN rfl) (OpV.tmp 13 (.bool true)) (OpX.const (.bool true)))) (AllSteps.nil))))))))))))))))))) (by kernel_rfl) (by kernel_rfl) (by kernel_rfl) ?_
      refine wp_if_t (t := 22) (by kernel_rfl) ?_
      refine wp_seq' ?_
      refine wp_region_t ?_
      refine wpc (step_plain rfl (acts_assign (d := 4) (ltN rfl) (OpX.const (.int .i64 0)))) (by kernel_rfl) ?_
      refine wpl_nil ?_
      refine wp_ret' ?_
      exact VRes.tmp 4 (.a (.val (.int .i64 0))) _ (by kernel_rfl) (bval (congrArg (Value.int .i64) (by (rw [cntW_no2 (by assumption)]; rfl))))
  · skip
    refine wp_drawn' (by kernel_rfl) (AllSteps.cons (step_plain rfl (acts_load_owns (d := 5) (t := 2) (h := 2) (off := 0) (o := ⟨30, 1, true, [(.slv l.length 1 (isl l) : A)]⟩)  (xs := [(.slv l.length 1 (isl l) : A)]) (ltN rfl) qC13_ti_30 rfl (by decide) rfl)) (AllSteps.cons (step_plain rfl (acts_call1 (d := 6) (ltN rfl) (impl_RegionOk_fn l (by omega)) (ArgVs.cons (ArgV.regv 5 l.length 1 (isl l)) (ArgVs.nil)) ((resval (congrArg Value.bool c1))))) (AllSteps.cons (step_plain rfl (acts_un (d := 7) (ltN rfl) (OpV.tmp 6 (.bool false)) (r_not (c := true) rfl))) (AllSteps.cons (step_plain rfl (acts_move (d := 8) (ltN rfl) (OpX.tmp 7 (V.v (.bool true))))) (AllSteps.cons (step_off (dj := 8) (b' := true) rfl rfl (by decide) rfl (ltN rfl)) (AllSteps.cons (step_off (dj := 8) (b' := true) rfl rfl (by decide) rfl (ltN rfl)) (AllSteps.cons (step_off (dj := 8) (b' := true) rfl rfl (by decide) rfl (ltN rfl)) (AllSteps.cons (step_plain rfl (acts_pick_t (d := 12) (ltN rfl) (OpV.tmp 8 (.bool true)) (OpX.const (.bool true)))) (AllSteps.cons (step_plain rfl (acts_move (d := 13) (ltN rfl) (OpX.tmp 12 (V.v (.bool true))))) (AllSteps.cons (step_off (dj := 13) (b' := true) rfl rfl (by decide) rfl (ltN rfl)) (AllSteps.cons (step_off (dj := 13) (b' := true) rfl rfl (by decide) rfl (ltN rfl)) (AllSteps.cons (step_off (dj := 13) (b' := true) rfl rfl (by decide) rfl (ltN rfl)) (AllSteps.cons (step_off (dj := 13) (b' := true) rfl rfl (by decide) rfl (ltN rfl)) (AllSteps.cons (step_off (dj := 13) (b' := true) rfl rfl (by decide) rfl (ltN rfl)) (AllSteps.cons (step_off (dj := 13) (b' := true) rfl rfl (by decide) rfl (ltN rfl)) (AllSteps.cons (step_off (dj := 13) (b' := true) rfl rfl (by decide) rfl (ltN rfl)) (AllSteps.cons (step_off (dj := 13) (b' := true) rfl rfl (by decide) rfl (ltN rfl)) (AllSteps.cons (step_plain rfl (acts_pick_t (d := 22) (ltN rfl) (OpV.tmp 13 (.bool true)) (OpX.const (.bool true)))) (AllSteps.nil))))))))))))))))))) (by kernel_rfl) (by kernel_rfl) (by kernel_rfl) ?_
    refine wp_if_t (t := 22) (by kernel_rfl) ?_
    refine wp_seq' ?_
    refine wp_region_t ?_
    refine wpc (step_plain rfl (acts_assign (d := 4) (ltN rfl) (OpX.const (.int .i64 0)))) (by kernel_rfl) ?_
    refine wpl_nil ?_
    refine wp_ret' ?_
    exact VRes.tmp 4 (.a (.val (.int .i64 0))) _ (by kernel_rfl) (bval (congrArg (Value.int .i64) (by (rw [cntW_no1 (by assumption)]; rfl))))

set_option maxHeartbeats 4000000 in
set_option maxRecDepth 100000 in
theorem spec_CountWith_fn (l : List Int) (d : Dom) (hl : l.length ≤ 4194304) : Fn Try.prog 33 [.agg [(.slv l.length 1 (isl l) : A)], .agg ([(.int .i64 d.x : Value), .int .i64 d.y, .bool d.d].map A.val)] [.val (.int .i64 (((cntW l d) : Nat) : Int))] := by
  refine fn_intro (N := 43) Try.func33 rfl (by kernel_rfl) rfl (Nat.le_of_ble_eq_true rfl) [2, 3, 5, 6, 7, 9, 12, 16, 21, 26, 32, 38, 42] (ret1 rfl) (fun W => ?_)
  show Wp _ _ _ [(.s 0, some (.s (V.b (.agg [(.slv l.length 1 (isl l) : A)])))), (.s 1, some (.s (V.av [(.int .i64 d.x : Value), .int .i64 d.y, .bool d.d]))), (.o 2, some .free), (.o 3, some .free), (.o 5, some .free), (.o 6, some .free), (.o 7, some .free), (.o 9, some .free), (.o 12, some .free), (.o 16, some .free), (.o 21, some .free), (.o 26, some .free), (.o 32, some .free), (.o 38, some .free), (.o 42, some .free)]
  refine wp_seq' ?_
  refine wp_region_t ?_
  refine wpc (step_plain rfl (acts_box (d := 2) (h := 2) (b := .agg [(.slv l.length 1 (isl l) : A)]) (ltN rfl) (OpX.tmp 0 (V.b (.agg [(.slv l.length 1 (isl l) : A)]))) (by intro y hy; simp [B.cs] at hy; subst hy; rfl))) (by kernel_rfl) ?_
  refine wpc (step_plain rfl (acts_box (d := 3) (h := 3) (b := .agg ([(.int .i64 d.x : Value), .int .i64 d.y, .bool d.d].map A.val)) (ltN rfl) (OpX.tmp 1 (V.av [(.int .i64 d.x : Value), .int .i64 d.y, .bool d.d])) (by intro y hy; simp [B.cs] at hy; rcases hy with rfl | rfl | rfl <;> rfl))) (by kernel_rfl) ?_
  refine wpc (step_plain rfl (acts_assign (d := 4) (ltN rfl) (OpX.const (.int .i64 0)))) (by kernel_rfl) ?_
  refine wpl_nil ?_
  refine wp_seq' ?_
  refine wp_seq' ?_
  refine wp_region_t ?_
  refine wpc (step_plain rfl (acts_load_owns (d := 11) (t := 3) (h := 3) (off := 0) (o := ⟨32, 3, true, [(.val (.int .i64 d.x) : A), .val (.int .i64 d.y), .val (.bool d.d)]⟩)  (xs := [(.int .i64 d.x : Value), .int .i64 d.y, .bool d.d].map A.val) (ltN rfl) qC13_ti_32 rfl (by decide) rfl)) (by kernel_rfl) ?_
  refine wpc (step_plain rfl (acts_call1 (d := 12) (ltN rfl) (spec_DominoOk_fn d ) (ArgVs.cons (ArgV.va (vs := [(.int .i64 d.x : Value), .int .i64 d.y, .bool d.d]) (OpV.agg 11 [(.int .i64 d.x : Value), .int .i64 d.y, .bool d.d])) (ArgVs.nil)) (ResV.val _))) (by kernel_rfl) ?_
  refine wpc (step_plain rfl (acts_un (d := 13) (ltN rfl) (OpV.tmp 12 (.bool (okD d))) (r_not (c := (!(okD d))) rfl))) (by kernel_rfl) ?_
  refine wpl_nil ?_
  refine wp_if (t := 13) ((!(okD d))) (by kernel_rfl) (fun c1 => ?_) (fun c1 => ?_)
  · skip
    have c2 : (okD d) = false := by simpa using c1
    refine wp_seq' ?_
    refine wp_region_t ?_
    refine wpc (step_plain rfl (acts_assign (d := 4) (ltN rfl) (OpX.const (.int .i64 0)))) (by kernel_rfl) ?_
    refine wpl_nil ?_
    refine wp_ret' ?_
    exact VRes.tmp 4 (.a (.val (.int .i64 0))) _ (by kernel_rfl) (bval (congrArg (Value.int .i64) (by (rw [cntW_no2 (by assumption)]; rfl))))
  · skip
    have c3 : (okD d) = true := by simpa using c1
    refine wp_skip' ?_
    refine wp_seq' ?_
    refine wp_region_t ?_
    refine wpc (step_plain rfl (acts_load_owns (d := 15) (t := 3) (h := 3) (off := 0) (o := ⟨32, 3, true, [(.val (.int .i64 d.x) : A), .val (.int .i64 d.y), .val (.bool d.d)]⟩)  (xs := [(.int .i64 d.x : Value), .int .i64 d.y, .bool d.d].map A.val) (ltN rfl) qC13_ti_32 rfl (by decide) rfl)) (by kernel_rfl) ?_
    refine wpc (step_plain rfl (acts_call2 (d := 16) (ltN rfl) (spec_CellsUnder_fn d (by omega)) (ArgVs.cons (ArgV.va (vs := [(.int .i64 d.x : Value), .int .i64 d.y, .bool d.d]) (OpV.agg 15 [(.int .i64 d.x : Value), .int .i64 d.y, .bool d.d])) (ArgVs.nil)) (ResV.agg [(.int .i64 ((ca d).x) : Value), .int .i64 ((ca d).y)]) (ResV.agg [(.int .i64 ((cb d).x) : Value), .int .i64 ((cb d).y)]))) (by kernel_rfl) ?_
    refine wpc (step_plain rfl (acts_move (d := 14) (ltN rfl) (OpX.tmp 16 (V.tup [.agg ([(.int .i64 ((ca d).x) : Value), .int .i64 ((ca d).y)].map A.val), .agg ([(.int .i64 ((cb d).x) : Value), .int .i64 ((cb d).y)].map A.val)])))) (by kernel_rfl) ?_
    refine wpc (step_plain rfl (acts_extract (d := 17) (t := 14) (ix := 0) (xs := [.agg ([(.int .i64 ((ca d).x) : Value), .int .i64 ((ca d).y)].map A.val), .agg ([(.int .i64 ((cb d).x) : Value), .int .i64 ((cb d).y)].map A.val)]) (X := .agg ([(.int .i64 ((ca d).x) : Value), .int .i64 ((ca d).y)].map A.val)) (ltN rfl) rfl)) (by kernel_rfl) ?_
    refine wpc (step_plain rfl (acts_extract (d := 18) (t := 14) (ix := 1) (xs := [.agg ([(.int .i64 ((ca d).x) : Value), .int .i64 ((ca d).y)].map A.val), .agg ([(.int .i64 ((cb d).x) : Value), .int .i64 ((cb d).y)].map A.val)]) (X := .agg ([(.int .i64 ((cb d).x) : Value), .int .i64 ((cb d).y)].map A.val)) (ltN rfl) rfl)) (by kernel_rfl) ?_
    refine wpc (step_plain rfl (acts_alloc' (d := 5) (h := 5) (cap := 1) (s := 2) (cells := [(.val (.int .i64 0) : A), .val (.int .i64 0)]) (ltN rfl) qC13_zi_39 rfl rfl (by decide))) (by kernel_rfl) ?_
    refine wpc (step_plain rfl (acts_alloc' (d := 6) (h := 6) (cap := 1) (s := 2) (cells := [(.val (.int .i64 0) : A), .val (.int .i64 0)]) (ltN rfl) qC13_zi_39 rfl rfl (by decide))) (by kernel_rfl) ?_
    refine wpc (step_plain rfl (acts_store (t := 5) (h := 5) (off := 0) (o := ⟨39, 2, true, [(.val (.int .i64 0) : A), .val (.int .i64 0)]⟩) (b := .agg ([(.int .i64 ((ca d).x) : Value), .int .i64 ((ca d).y)].map A.val)) (cells := [(.val (.int .i64 ((ca d).x)) : A), .val (.int .i64 ((ca d).y))]) qC13_ti_39 (OpX.tmp 17 (V.av [(.int .i64 ((ca d).x) : Value), .int .i64 ((ca d).y)])) rfl (by decide) (by intro y hy; simp [B.cs] at hy; rcases hy with rfl | rfl <;> rfl) (Nat.le_of_ble_eq_true rfl) rfl)) (by kernel_rfl) ?_
    refine wpc (step_plain rfl (acts_store (t := 6) (h := 6) (off := 0) (o := ⟨39, 2, true, [(.val (.int .i64 0) : A), .val (.int .i64 0)]⟩) (b := .agg ([(.int .i64 ((cb d).x) : Value), .int .i64 ((cb d).y)].map A.val)) (cells := [(.val (.int .i64 ((cb d).x)) : A), .val (.int .i64 ((cb d).y))]) qC13_ti_39 (OpX.tmp 18 (V.av [(.int .i64 ((cb d).x) : Value), .int .i64 ((cb d).y)])) rfl (by decide) (by intro y hy; simp [B.cs] at hy; rcases hy with rfl | rfl <;> rfl) (Nat.le_of_ble_eq_true rfl) rfl)) (by kernel_rfl) ?_
    refine wpl_nil ?_
    refine wp_seq' ?_
    refine wp_seq' ?_
    rcases Bool.eq_false_or_eq_true ((hasC l (ca d))) with c4 | c4
    · skip
      refine wp_region_t ?_
      refine wpc (step_plain rfl (acts_load_owns (d := 19) (t := 2) (h := 2) (off := 0) (o := ⟨30, 1, true, [(.slv l.length 1 (isl l) : A)]⟩)  (xs := [(.slv l.length 1 (isl l) : A)]) (ltN rfl) qC13_ti_30 rfl (by decide) rfl)) (by kernel_rfl) ?_
      refine wpc (step_plain rfl (acts_load_owns (d := 20) (t := 5) (h := 5) (off := 0) (o := ⟨39, 2, true, [(.val (.int .i64 ((ca d).x)) : A), .val (.int .i64 ((ca d).y))]⟩)  (xs := [(.int .i64 ((ca d).x) : Value), .int .i64 ((ca d).y)].map A.val) (ltN rfl) qC13_ti_39 rfl (by decide) rfl)) (by kernel_rfl) ?_
      refine wpc (step_plain rfl (acts_call1 (d := 21) (ltN rfl) (spec_HasCell_fn l (ca d) (by omega)) (ArgVs.cons (ArgV.regv 19 l.length 1 (isl l)) (ArgVs.cons (ArgV.va (vs := [(.int .i64 ((ca d).x) : Value), .int .i64 ((ca d).y)]) (OpV.agg 20 [(.int .i64 ((ca d).x) : Value), .int .i64 ((ca d).y)])) (ArgVs.nil))) ((resval (congrArg Value.bool c4))))) (by kernel_rfl) ?_
      refine wpc (step_plain rfl (acts_un (d := 22) (ltN rfl) (OpV.tmp 21 (.bool true)) (r_not (c := false) rfl))) (by kernel_rfl) ?_
      refine wpc (step_plain rfl (acts_move (d := 23) (ltN rfl) (OpX.tmp 22 (V.v (.bool false))))) (by kernel_rfl) ?_
      refine wpc (step_on (dj := 23) rfl rfl (acts_load_owns (d := 24) (t := 2) (h := 2) (off := 0) (o := ⟨30, 1, true, [(.slv l.length 1 (isl l) : A)]⟩)  (xs := [(.slv l.length 1 (isl l) : A)]) (ltN rfl) qC13_ti_30 rfl (by decide) rfl)) (by kernel_rfl) ?_
      refine wpc (step_on (dj := 23) rfl rfl (acts_load_owns (d := 25) (t := 6) (h := 6) (off := 0) (o := ⟨39, 2, true, [(.val (.int .i64 ((cb d).x)) : A), .val (.int .i64 ((cb d).y))]⟩)  (xs := [(.int .i64 ((cb d).x) : Value), .int .i64 ((cb d).y)].map A.val) (ltN rfl) qC13_ti_39 rfl (by decide) rfl)) (by kernel_rfl) ?_
      refine wpc (step_on (dj := 23) rfl rfl (acts_call1 (d := 26) (ltN rfl) (spec_HasCell_fn l (cb d) (by omega)) (ArgVs.cons (ArgV.regv 24 l.length 1 (isl l)) (ArgVs.cons (ArgV.va (vs := [(.int .i64 ((cb d).x) : Value), .int .i64 ((cb d).y)]) (OpV.agg 25 [(.int .i64 ((cb d).x) : Value), .int .i64 ((cb d).y)])) (ArgVs.nil))) (ResV.val _))) (by kernel_rfl) ?_
      refine wpc (step_on (dj := 23) rfl rfl (acts_un (d := 27) (ltN rfl) (OpV.tmp 26 (.bool (hasC l (cb d)))) (r_not (c := (!(hasC l (cb d)))) rfl))) (by kernel_rfl) ?_
      refine wpc (step_plain rfl (acts_pick_f (d := 28) (ltN rfl) (OpV.tmp 23 (.bool false)) (OpX.tmp 27 (V.v (.bool (!(hasC l (cb d)))))))) (by kernel_rfl) ?_
      refine wpl_nil ?_
      refine wp_if (t := 28) ((!(hasC l (cb d)))) (by kernel_rfl) (fun c5 => ?_) (fun c5 => ?_)
      · skip
        have c6 : (hasC l (cb d)) = false := by simpa using c5
        refine wp_seq' ?_
        refine wp_region_t ?_
        refine wpc (step_plain rfl (acts_assign (d := 4) (ltN rfl) (OpX.const (.int .i64 0)))) (by kernel_rfl) ?_
        refine wpl_nil ?_
        refine wp_ret' ?_
        exact VRes.tmp 4 (.a (.val (.int .i64 0))) _ (by kernel_rfl) (bval (congrArg (Value.int .i64) (by (rw [cntW_no4 (by first | exact .inl (by assumption) | exact .inr (by assumption))]; rfl))))
      · skip
        have c7 : (hasC l (cb d)) = true := by simpa using c5
        refine wp_skip' ?_
        refine wp_seq' ?_
        refine wp_region_t ?_
        refine wpc (step_plain rfl (acts_load_owns (d := 30) (t := 2) (h := 2) (off := 0) (o := ⟨30, 1, true, [(.slv l.length 1 (isl l) : A)]⟩)  (xs := [(.slv l.length 1 (isl l) : A)]) (ltN rfl) qC13_ti_30 rfl (by decide) rfl)) (by kernel_rfl) ?_
        refine wpc (step_plain rfl (acts_load_owns (d := 31) (t := 5) (h := 5) (off := 0) (o := ⟨39, 2, true, [(.val (.int .i64 ((ca d).x)) : A), .val (.int .i64 ((ca d).y))]⟩)  (xs := [(.int .i64 ((ca d).x) : Value), .int .i64 ((ca d).y)].map A.val) (ltN rfl) qC13_ti_39 rfl (by decide) rfl)) (by kernel_rfl) ?_
        refine wpc (step_plain rfl (acts_call2 (d := 32) (ltN rfl) (spec_WithCell_fn l (ca d) (by exact hasC_reg (by assumption)) (by exact ok_ca (by assumption))) (ArgVs.cons (ArgV.regv 30 l.length 1 (isl l)) (ArgVs.cons (ArgV.va (vs := [(.int .i64 ((ca d).x) : Value), .int .i64 ((ca d).y)]) (OpV.agg 31 [(.int .i64 ((ca d).x) : Value), .int .i64 ((ca d).y)])) (ArgVs.cons (ArgV.v (OpV.const (.bool false))) (ArgVs.nil)))) (ResV.reg 3 1 ((delL l (ca d)).length) (isl (delL l (ca d))) 32) (ResV.val _))) (by kernel_rfl) ?_
        refine wpc (step_plain rfl (acts_move (d := 29) (ltN rfl) (OpX.tmp 32 (V.tup [.agg [(.sl 32 0 ((delL l (ca d)).length) : A)], .a (.val (.bool true))])))) (by kernel_rfl) ?_
        refine wpc (step_plain rfl (acts_extract (d := 33) (t := 29) (ix := 0) (xs := [.agg [(.sl 32 0 ((delL l (ca d)).length) : A)], .a (.val (.bool true))]) (X := .agg [(.sl 32 0 ((delL l (ca d)).length) : A)]) (ltN rfl) rfl)) (by kernel_rfl) ?_
        refine wpc (step_plain rfl (acts_extract (d := 34) (t := 29) (ix := 1) (xs := [.agg [(.sl 32 0 ((delL l (ca d)).length) : A)], .a (.val (.bool true))]) (X := .a (.val (.bool true))) (ltN rfl) rfl)) (by kernel_rfl) ?_
        refine wpc (step_plain rfl (acts_alloc' (d := 7) (h := 7) (cap := 1) (s := 1) (cells := [(.val (.slice none 0 0) : A)]) (ltN rfl) qC13_zi_30 rfl rfl (by decide))) (by kernel_rfl) ?_
        refine wpc (step_plain rfl (acts_store (t := 7) (h := 7) (off := 0) (o := ⟨30, 1, true, [(.val (.slice none 0 0) : A)]⟩) (b := .agg [(.sl 32 0 ((delL l (ca d)).length) : A)]) (cells := [(.sl 32 0 ((delL l (ca d)).length) : A)]) qC13_ti_30 (OpX.tmp 33 (V.b (.agg [(.sl 32 0 ((delL l (ca d)).length) : A)]))) rfl (by decide) (by intro y hy; simp [B.cs] at hy; subst hy; rfl) (Nat.le_of_ble_eq_true rfl) rfl)) (by kernel_rfl) ?_
        refine wpc (step_plain rfl (acts_assign (d := 8) (ltN rfl) (OpX.tmp 34 (V.v (.bool true))))) (by kernel_rfl) ?_
        refine wpl_nil ?_
        refine wp_seq' ?_
        refine wp_region_t ?_
        refine wpc (step_plain rfl (acts_load_owns (d := 36) (t := 7) (h := 7) (off := 0) (o := ⟨30, 1, true, [(.sl 32 0 ((delL l (ca d)).length) : A)]⟩)  (xs := [(.sl 32 0 ((delL l (ca d)).length) : A)]) (ltN rfl) qC13_ti_30 rfl (by decide) rfl)) (by kernel_rfl) ?_
        refine wpc (step_plain rfl (acts_load_owns (d := 37) (t := 6) (h := 6) (off := 0) (o := ⟨39, 2, true, [(.val (.int .i64 ((cb d).x)) : A), .val (.int .i64 ((cb d).y))]⟩)  (xs := [(.int .i64 ((cb d).x) : Value), .int .i64 ((cb d).y)].map A.val) (ltN rfl) qC13_ti_39 rfl (by decide) rfl)) (by kernel_rfl) ?_
        refine wpc (step_plain rfl (acts_call2 (d := 38) (ltN rfl) (spec_WithCell_fn (delL l (ca d)) (cb d) (by exact delL_ok (hasC_reg (l := l) (c := ca d) (by assumption)) (ok_ca (by assumption))) (by exact ok_cb (by assumption))) (ArgVs.cons (ArgV.reg (xs := isl (delL l (ca d))) 36 32 ((delL l (ca d)).length) (s := 1) (T := 3) (ex := true) (by simp [isl]) (by exact List.take_of_length_le (by simp [isl]))) (ArgVs.cons (ArgV.va (vs := [(.int .i64 ((cb d).x) : Value), .int .i64 ((cb d).y)]) (OpV.agg 37 [(.int .i64 ((cb d).x) : Value), .int .i64 ((cb d).y)])) (ArgVs.cons (ArgV.v (OpV.const (.bool false))) (ArgVs.nil)))) (ResV.reg 3 1 ((delL (delL l (ca d)) (cb d)).length) (isl (delL (delL l (ca d)) (cb d))) 38) (ResV.val _))) (by kernel_rfl) ?_
        refine wpc (step_plain rfl (acts_move (d := 35) (ltN rfl) (OpX.tmp 38 (V.tup [.agg [(.sl 38 0 ((delL (delL l (ca d)) (cb d)).length) : A)], .a (.val (.bool true))])))) (by kernel_rfl) ?_
        refine wpc (step_plain rfl (acts_extract (d := 39) (t := 35) (ix := 0) (xs := [.agg [(.sl 38 0 ((delL (delL l (ca d)) (cb d)).length) : A)], .a (.val (.bool true))]) (X := .agg [(.sl 38 0 ((delL (delL l (ca d)) (cb d)).length) : A)]) (ltN rfl) rfl)) (by kernel_rfl) ?_
        refine wpc (step_plain rfl (acts_extract (d := 40) (t := 35) (ix := 1) (xs := [.agg [(.sl 38 0 ((delL (delL l (ca d)) (cb d)).length) : A)], .a (.val (.bool true))]) (X := .a (.val (.bool true))) (ltN rfl) rfl)) (by kernel_rfl) ?_
        refine wpc (step_plain rfl (acts_alloc' (d := 9) (h := 9) (cap := 1) (s := 1) (cells := [(.val (.slice none 0 0) : A)]) (ltN rfl) qC13_zi_30 rfl rfl (by decide))) (by kernel_rfl) ?_
        refine wpc (step_plain rfl (acts_store (t := 9) (h := 9) (off := 0) (o := ⟨30, 1, true, [(.val (.slice none 0 0) : A)]⟩) (b := .agg [(.sl 38 0 ((delL (delL l (ca d)) (cb d)).length) : A)]) (cells := [(.sl 38 0 ((delL (delL l (ca d)) (cb d)).length) : A)]) qC13_ti_30 (OpX.tmp 39 (V.b (.agg [(.sl 38 0 ((delL (delL l (ca d)) (cb d)).length) : A)]))) rfl (by decide) (by intro y hy; simp [B.cs] at hy; subst hy; rfl) (Nat.le_of_ble_eq_true rfl) rfl)) (by kernel_rfl) ?_
        refine wpc (step_plain rfl (acts_assign (d := 10) (ltN rfl) (OpX.tmp 40 (V.v (.bool true))))) (by kernel_rfl) ?_
        refine wpl_nil ?_
        refine wp_seq' ?_
        refine wp_region_t ?_
        refine wpc (step_plain rfl (acts_load_owns (d := 41) (t := 9) (h := 9) (off := 0) (o := ⟨30, 1, true, [(.sl 38 0 ((delL (delL l (ca d)) (cb d)).length) : A)]⟩)  (xs := [(.sl 38 0 ((delL (delL l (ca d)) (cb d)).length) : A)]) (ltN rfl) qC13_ti_30 rfl (by decide) rfl)) (by kernel_rfl) ?_
        refine wpc (step_plain rfl (acts_call1 (d := 42) (ltN rfl) (spec_l07Count_fn (delL (delL l (ca d)) (cb d)) (by exact delL_ok (delL_ok (hasC_reg (l := l) (c := ca d) (by assumption)) (ok_ca (by assumption))) (ok_cb (by assumption)))) (ArgVs.cons (ArgV.reg (xs := isl (delL (delL l (ca d)) (cb d))) 41 38 ((delL (delL l (ca d)) (cb d)).length) (s := 1) (T := 3) (ex := true) (by simp [isl]) (by exact List.take_of_length_le (by simp [isl]))) (ArgVs.nil)) (ResV.val _))) (by kernel_rfl) ?_
        refine wpc (step_plain rfl (acts_assign (d := 4) (ltN rfl) (OpX.tmp 42 (V.v (.int .i64 (((cnt (regSet (delL (delL l (ca d)) (cb d)))) : Nat) : Int)))))) (by kernel_rfl) ?_
        refine wpl_nil ?_
        refine wp_ret' ?_
        exact VRes.tmp 4 (.a (.val (.int .i64 (((cnt (regSet (delL (delL l (ca d)) (cb d)))) : Nat) : Int)))) _ (by kernel_rfl) (bval (congrArg (Value.int .i64) (by (obtain ⟨q1, q2⟩ := fit_hasC (by assumption) (by assumption) (by assumption); rw [cntW_yes q1 q2, delL_set (delL_ok q1 (ok_ca (by assumption))) (ok_cb (by assumption)), delL_set q1 (ok_ca (by assumption)), delC_two]))))
    · skip
      refine wp_region_t ?_
      refine wpc (step_plain rfl (acts_load_owns (d := 19) (t := 2) (h := 2) (off := 0) (o := ⟨30, 1, true, [(.slv l.length 1 (isl l) : A)]⟩)  (xs := [(.slv l.length 1 (isl l) : A)]) (ltN rfl) qC13_ti_30 rfl (by decide) rfl)) (by kernel_rfl) ?_
      refine wpc (step_plain rfl (acts_load_owns (d := 20) (t := 5) (h := 5) (off := 0) (o := ⟨39, 2, true, [(.val (.int .i64 ((ca d).x)) : A), .val (.int .i64 ((ca d).y))]⟩)  (xs := [(.int .i64 ((ca d).x) : Value), .int .i64 ((ca d).y)].map A.val) (ltN rfl) qC13_ti_39 rfl (by decide) rfl)) (by kernel_rfl) ?_
      refine wpc (step_plain rfl (acts_call1 (d := 21) (ltN rfl) (spec_HasCell_fn l (ca d) (by omega)) (ArgVs.cons (ArgV.regv 19 l.length 1 (isl l)) (ArgVs.cons (ArgV.va (vs := [(.int .i64 ((ca d).x) : Value), .int .i64 ((ca d).y)]) (OpV.agg 20 [(.int .i64 ((ca d).x) : Value), .int .i64 ((ca d).y)])) (ArgVs.nil))) ((resval (congrArg Value.bool c4))))) (by kernel_rfl) ?_
      refine wpc (step_plain rfl (acts_un (d := 22) (ltN rfl) (OpV.tmp 21 (.bool false)) (r_not (c := true) rfl))) (by kernel_rfl) ?_
      refine wpc (step_plain rfl (acts_move (d := 23) (ltN rfl) (OpX.tmp 22 (V.v (.bool true))))) (by kernel_rfl) ?_
      refine wpc (step_off (dj := 23) (b' := true) rfl rfl (by decide) rfl (ltN rfl)) (by kernel_rfl) ?_
      refine wpc (step_off (dj := 23) (b' := true) rfl rfl (by decide) rfl (ltN rfl)) (by kernel_rfl) ?_
      refine wpc (step_off (dj := 23) (b' := true) rfl rfl (by decide) rfl (ltN rfl)) (by kernel_rfl) ?_
      refine wpc (step_off (dj := 23) (b' := true) rfl rfl (by decide) rfl (ltN rfl)) (by kernel_rfl) ?_
      refine wpc (step_plain rfl (acts_pick_t (d := 28) (ltN rfl) (OpV.tmp 23 (.bool true)) (OpX.const (.bool true)))) (by kernel_rfl) ?_
      refine wpl_nil ?_
      refine wp_if_t (t := 28) (by kernel_rfl) ?_
      refine wp_seq' ?_
      refine wp_region_t ?_
      refine wpc (step_plain rfl (acts_assign (d := 4) (ltN rfl) (OpX.const (.int .i64 0)))) (by kernel_rfl) ?_
      refine wpl_nil ?_
      refine wp_ret' ?_
      exact VRes.tmp 4 (.a (.val (.int .i64 0))) _ (by kernel_rfl) (bval (congrArg (Value.int .i64) (by (rw [cntW_no4 (by first | exact .inl (by assumption) | exact .inr (by assumption))]; rfl))))

set_option maxHeartbeats 4000000 in
set_option maxRecDepth 100000 in
theorem impl_gcd_fn (a b : Nat) (ha : a ≤ 68719476736) (hb : b ≤ 68719476736) : Fn Try.prog 39 [.a (.val (.int .i64 ((a : Nat) : Int))), .a (.val (.int .i64 ((b : Nat) : Int)))] [.val (.int .i64 (((Nat.gcd a b) : Nat) : Int))] := by
  refine fn_intro (N := 12) Try.func39 rfl (by kernel_rfl) rfl (Nat.le_of_ble_eq_true rfl) [] (ret1 rfl) (fun W => ?_)
  show Wp _ _ _ [(.s 0, some (.s (V.v (.int .i64 ((a : Nat) : Int))))), (.s 1, some (.s (V.v (.int .i64 ((b : Nat) : Int)))))]
  refine wp_seq' ?_
  refine wp_region_t ?_
  refine wpc (step_plain rfl (acts_assign (d := 4) (ltN rfl) (OpX.const (.int .i64 0)))) (by kernel_rfl) ?_
  refine wpl_nil ?_
  refine wp_seq' ?_
  refine wp_block' ?_
  refine wp_loop' (fun (x : Nat × Nat) => match x with | (x, y) => x ≤ 68719476736 ∧ y ≤ 68719476736 ∧ Nat.gcd x y = Nat.gcd a b) (fun (x : Nat × Nat) => match x with | (x, y) => [(.s 0, some (.s (V.v (.int .i64 ((x : Nat) : Int))))), (.s 1, some (.s (V.v (.int .i64 ((y : Nat) : Int)))))]) (fun (x : Nat × Nat) => match x with | (x, y) => y) ((a : Nat), (b : Nat)) (by exact ⟨ha, hb, rfl⟩) (weak_of id [] (by kernel_rfl) (wk_s (v' := V.v (.int .i64 ((a : Nat) : Int))) (by kernel_rfl) rfl rfl (wk_s (v' := V.v (.int .i64 ((b : Nat) : Int))) (by kernel_rfl) rfl rfl (wk_nil)))) ?_
  rintro ⟨x, y⟩ inv1
  replace inv1 : x ≤ 68719476736 ∧ y ≤ 68719476736 ∧ Nat.gcd x y = Nat.gcd a b := inv1
  obtain ⟨inv1_0, inv1_1, inv1_2⟩ := inv1
  show Wp _ _ _ [(.s 0, some (.s (V.v (.int .i64 ((x : Nat) : Int))))), (.s 1, some (.s (V.v (.int .i64 ((y : Nat) : Int)))))]
  refine wp_seq' ?_
  refine wp_seq' ?_
  refine wp_region_t ?_
  refine wpc (step_plain rfl (acts_move (d := 5) (ltN rfl) (OpX.tmp 1 (V.v (.int .i64 ((y : Nat) : Int)))))) (by kernel_rfl) ?_
  refine wpc (step_plain rfl (acts_bin (d := 6) (ltN rfl) (OpV.tmp 5 (.int .i64 ((y : Nat) : Int))) (OpV.const (.int .i64 0)) (r_neq (c := (decide (((y : Nat) : Int) ≠ 0))) rfl))) (by kernel_rfl) ?_
  refine wpl_nil ?_
  refine wp_if (t := 6) (decide (((y : Nat) : Int) ≠ 0)) (by kernel_rfl) (fun c2 => ?_) (fun c2 => ?_)
  · skip
    have c2P := of_decide_eq_true c2
    refine wp_skip' ?_
    refine wp_block' ?_
    refine wp_drawn' (by kernel_rfl) (AllSteps.cons (step_plain rfl (acts_move (d := 7) (ltN rfl) (OpX.tmp 1 (V.v (.int .i64 ((y : Nat) : Int)))))) (AllSteps.cons (step_plain rfl (acts_move (d := 8) (ltN rfl) (OpX.tmp 0 (V.v (.int .i64 ((x : Nat) : Int)))))) (AllSteps.cons (step_plain rfl (acts_move (d := 9) (ltN rfl) (OpX.tmp 1 (V.v (.int .i64 ((y : Nat) : Int)))))) (AllSteps.cons (step_plain rfl (acts_bin (d := 10) (ltN rfl) (OpV.tmp 8 (.int .i64 ((x : Nat) : Int))) (OpV.tmp 9 (.int .i64 ((y : Nat) : Int))) (r_rem (c := ((x % y : Nat) : Int)) (by omega) (remN rfl)))) (AllSteps.cons (step_plain rfl (acts_assign (d := 0) (ltN rfl) (OpX.tmp 7 (V.v (.int .i64 ((y : Nat) : Int)))))) (AllSteps.cons (step_plain rfl (acts_assign (d := 1) (ltN rfl) (OpX.tmp 10 (V.v (.int .i64 ((x % y : Nat) : Int)))))) (AllSteps.nil))))))) (by kernel_rfl) (by kernel_rfl) (by kernel_rfl) ?_
    exact Exists.intro (y, (x % y)) (And.intro (by refine ⟨by assumption, ?_, ?_⟩ <;> first | (have := Nat.mod_lt x (show 0 < y by omega); omega) | (rw [gcd_step]; assumption)) (And.intro (by show x % y < y; exact Nat.mod_lt _ (by omega)) (weak_of id [] (by kernel_rfl) (wk_s (v' := V.v (.int .i64 ((y : Nat) : Int))) (by kernel_rfl) rfl rfl (wk_s (v' := V.v (.int .i64 ((x % y : Nat) : Int))) (by kernel_rfl) (vint (by rfl)) rfl (wk_nil))))))
  · skip
    have c2P := of_decide_eq_false c2
    refine wp_exit' ?_
    refine wp_seq' ?_
    refine wp_region_t ?_
    refine wpc (step_plain rfl (acts_move (d := 11) (ltN rfl) (OpX.tmp 0 (V.v (.int .i64 ((x : Nat) : Int)))))) (by kernel_rfl) ?_
    refine wpc (step_plain rfl (acts_assign (d := 4) (ltN rfl) (OpX.tmp 11 (V.v (.int .i64 ((x : Nat) : Int)))))) (by kernel_rfl) ?_
    refine wpl_nil ?_
    refine wp_ret' ?_
    exact VRes.tmp 4 (.a (.val (.int .i64 ((x : Nat) : Int)))) _ (by kernel_rfl) (bval (congrArg (Value.int .i64) (by (have e : y = 0 := by omega); subst e; rw [Nat.gcd_zero_right] at *; simp_all)))

set_option maxHeartbeats 4000000 in
set_option maxRecDepth 100000 in
theorem spec_l15Gcd_fn (a b : Nat) (ha : a ≤ 68719476736) (hb : b ≤ 68719476736) : Fn Try.prog 35 [.a (.val (.int .i64 ((a : Nat) : Int))), .a (.val (.int .i64 ((b : Nat) : Int)))] [.val (.int .i64 (((Nat.gcd a b) : Nat) : Int))] := by
  refine fn_intro (N := 12) Try.func35 rfl (by kernel_rfl) rfl (Nat.le_of_ble_eq_true rfl) [] (ret1 rfl) (fun W => ?_)
  show Wp _ _ _ [(.s 0, some (.s (V.v (.int .i64 ((a : Nat) : Int))))), (.s 1, some (.s (V.v (.int .i64 ((b : Nat) : Int)))))]
  refine wp_seq' ?_
  refine wp_region_t ?_
  refine wpc (step_plain rfl (acts_assign (d := 4) (ltN rfl) (OpX.const (.int .i64 0)))) (by kernel_rfl) ?_
  refine wpl_nil ?_
  refine wp_seq' ?_
  refine wp_block' ?_
  refine wp_loop' (fun (x : Nat × Nat) => match x with | (x, y) => x ≤ 68719476736 ∧ y ≤ 68719476736 ∧ Nat.gcd x y = Nat.gcd a b) (fun (x : Nat × Nat) => match x with | (x, y) => [(.s 0, some (.s (V.v (.int .i64 ((x : Nat) : Int))))), (.s 1, some (.s (V.v (.int .i64 ((y : Nat) : Int)))))]) (fun (x : Nat × Nat) => match x with | (x, y) => y) ((a : Nat), (b : Nat)) (by exact ⟨ha, hb, rfl⟩) (weak_of id [] (by kernel_rfl) (wk_s (v' := V.v (.int .i64 ((a : Nat) : Int))) (by kernel_rfl) rfl rfl (wk_s (v' := V.v (.int .i64 ((b : Nat) : Int))) (by kernel_rfl) rfl rfl (wk_nil)))) ?_
  rintro ⟨x, y⟩ inv1
  replace inv1 : x ≤ 68719476736 ∧ y ≤ 68719476736 ∧ Nat.gcd x y = Nat.gcd a b := inv1
  obtain ⟨inv1_0, inv1_1, inv1_2⟩ := inv1
  show Wp _ _ _ [(.s 0, some (.s (V.v (.int .i64 ((x : Nat) : Int))))), (.s 1, some (.s (V.v (.int .i64 ((y : Nat) : Int)))))]
  refine wp_seq' ?_
  refine wp_seq' ?_
  refine wp_region_t ?_
  refine wpc (step_plain rfl (acts_move (d := 5) (ltN rfl) (OpX.tmp 1 (V.v (.int .i64 ((y : Nat) : Int)))))) (by kernel_rfl) ?_
  refine wpc (step_plain rfl (acts_bin (d := 6) (ltN rfl) (OpV.tmp 5 (.int .i64 ((y : Nat) : Int))) (OpV.const (.int .i64 0)) (r_gtr (c := (decide (0 < ((y : Nat) : Int)))) rfl))) (by kernel_rfl) ?_
  refine wpl_nil ?_
  refine wp_if (t := 6) (decide (0 < ((y : Nat) : Int))) (by kernel_rfl) (fun c2 => ?_) (fun c2 => ?_)
  · skip
    have c2P := of_decide_eq_true c2
    refine wp_skip' ?_
    refine wp_block' ?_
    refine wp_drawn' (by kernel_rfl) (AllSteps.cons (step_plain rfl (acts_move (d := 7) (ltN rfl) (OpX.tmp 1 (V.v (.int .i64 ((y : Nat) : Int)))))) (AllSteps.cons (step_plain rfl (acts_move (d := 8) (ltN rfl) (OpX.tmp 0 (V.v (.int .i64 ((x : Nat) : Int)))))) (AllSteps.cons (step_plain rfl (acts_move (d := 9) (ltN rfl) (OpX.tmp 1 (V.v (.int .i64 ((y : Nat) : Int)))))) (AllSteps.cons (step_plain rfl (acts_bin (d := 10) (ltN rfl) (OpV.tmp 8 (.int .i64 ((x : Nat) : Int))) (OpV.tmp 9 (.int .i64 ((y : Nat) : Int))) (r_rem (c := ((x % y : Nat) : Int)) (by omega) (remN rfl)))) (AllSteps.cons (step_plain rfl (acts_assign (d := 0) (ltN rfl) (OpX.tmp 7 (V.v (.int .i64 ((y : Nat) : Int)))))) (AllSteps.cons (step_plain rfl (acts_assign (d := 1) (ltN rfl) (OpX.tmp 10 (V.v (.int .i64 ((x % y : Nat) : Int)))))) (AllSteps.nil))))))) (by kernel_rfl) (by kernel_rfl) (by kernel_rfl) ?_
    exact Exists.intro (y, (x % y)) (And.intro (by refine ⟨by assumption, ?_, ?_⟩ <;> first | (have := Nat.mod_lt x (show 0 < y by omega); omega) | (rw [gcd_step]; assumption)) (And.intro (by show x % y < y; exact Nat.mod_lt _ (by omega)) (weak_of id [] (by kernel_rfl) (wk_s (v' := V.v (.int .i64 ((y : Nat) : Int))) (by kernel_rfl) rfl rfl (wk_s (v' := V.v (.int .i64 ((x % y : Nat) : Int))) (by kernel_rfl) (vint (by rfl)) rfl (wk_nil))))))
  · skip
    have c2P := of_decide_eq_false c2
    refine wp_exit' ?_
    refine wp_seq' ?_
    refine wp_region_t ?_
    refine wpc (step_plain rfl (acts_move (d := 11) (ltN rfl) (OpX.tmp 0 (V.v (.int .i64 ((x : Nat) : Int)))))) (by kernel_rfl) ?_
    refine wpc (step_plain rfl (acts_assign (d := 4) (ltN rfl) (OpX.tmp 11 (V.v (.int .i64 ((x : Nat) : Int)))))) (by kernel_rfl) ?_
    refine wpl_nil ?_
    refine wp_ret' ?_
    exact VRes.tmp 4 (.a (.val (.int .i64 ((x : Nat) : Int)))) _ (by kernel_rfl) (bval (congrArg (Value.int .i64) (by (have e : y = 0 := by omega); subst e; rw [Nat.gcd_zero_right] at *; simp_all)))
end Cl
end Go.Proofs.Ytabgfoindidigaa
