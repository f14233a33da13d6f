/- Walks over clean states, printed by wg.py. No statement is proved here. -/
import Derived.Test.YtabgfoindidigaaC14
import Derived.Test.YtabgfoindidigaaCl18
namespace Go.Proofs.Ytabgfoindidigaa
namespace Cl
open Go.ChangeShapes Go.WideShapes Go.ChangeAt Go.RowKit

def ftR (l : List Int) : List Dom := if cntR l = 0 then [] else ftl 33 (regSet l)
theorem ftR_no {l : List Int} (h : cntR l = 0) : ftR l = [] := by unfold ftR; rw [if_pos h]
structure FT (l : List Int) (s : Nat) (o : List Dom) (n : Nat) : Prop where
  lt : s < 18446744073709551616
  pos : 0 < cnt s
  pc : popc s < 2 * n
  ln : o.length + n = 33
  eq : o ++ ftl n s = ftl 33 (regSet l)
theorem cntR_reg {l : List Int} (h : ¬ cntR l = 0) : regOk l = true := by
  unfold cntR at h
  split at h
  · assumption
  · exact absurd rfl h
theorem popc_len {s : Nat} (hs : s < 18446744073709551616) : (setCells s).length = popc s := by unfold setCells popc; simp
theorem FT.zero {l : List Int} (h : ¬ cntR l = 0) : FT l (regSet l) [] 33 := by
  have hr := cntR_reg h
  have hs := regSet_lt hr
  refine ⟨hs, ?_, ?_, rfl, rfl⟩
  · unfold cntR at h; rw [if_pos hr] at h; omega
  · have := popc_le (regSet l); omega
theorem FT.next {l : List Int} {s : Nat} {o : List Dom} {n : Nat} (h : FT l s o n) (h0 : s ≠ 0) {d : Dom} (hp : pick s = d) : 0 < n ∧ FT l (andn s (domS d)) (o ++ [d]) (n - 1) := by
  subst hp
  obtain ⟨h1, h2⟩ := pick_ok h.lt h0 h.pos
  have hpc := popc_sub h1
  have h3 := h.pc
  have h4 := h.ln
  obtain ⟨m, rfl⟩ : ∃ m, n = m + 1 := ⟨n - 1, by omega⟩
  refine ⟨by omega, andn_lt h.lt, h2, by rw [Nat.add_sub_cancel]; omega, by rw [Nat.add_sub_cancel, List.length_append, List.length_singleton]; omega, ?_⟩
  rw [Nat.add_sub_cancel, ← h.eq, List.append_assoc]
  congr 1
  show [pick s] ++ ftl m _ = ftl (m + 1) s
  rw [ftl, if_neg h0]; rfl
theorem FT.done {l : List Int} {s : Nat} {o : List Dom} {n : Nat} (hc : ¬ cntR l = 0) (h : FT l s o n) (h0 : s = 0) : o = ftR l := by
  unfold ftR; rw [if_neg hc, ← h.eq, h0]
  cases n with
  | zero => unfold ftl; simp
  | succ n => unfold ftl; rw [if_pos rfl]; simp
theorem ftl_len : ∀ n s, (ftl n s).length ≤ n := by
  intro n
  induction n with
  | zero => intro s; simp [ftl]
  | succ n ih =>
    intro s
    rw [ftl]; split
    · simp
    · rw [List.length_cons]; have := ih (andn s (domS (pick s))); omega
theorem ftR_len (l : List Int) : (ftR l).length ≤ 33 := by
  unfold ftR; split
  · simp
  · exact ftl_len _ _
theorem pick_1 {s : Nat} (h : okD (dmn (firstI s) false) = false) : pick s = dmn (firstI s) true := by unfold pick fitD; rw [h]; rfl
theorem pick_2 {s : Nat} (h : ((s &&& domS (dmn (firstI s) false) : Nat) : Int) ≠ (domS (dmn (firstI s) false) : Int)) : pick s = dmn (firstI s) true := by
  unfold pick fitD; rw [if_neg]; simp only [Bool.and_eq_true, decide_eq_true_eq]; rintro ⟨⟨_, h1⟩, _⟩; exact nat_ne h h1
theorem pick_3 {s : Nat} (h : ((cnt (andn s (domS (dmn (firstI s) false))) : Nat) : Int) = 0) : pick s = dmn (firstI s) true := by
  unfold pick; rw [if_neg]; simp only [Bool.and_eq_true, Bool.not_eq_true', decide_eq_false_iff_not]; rintro ⟨_, h1⟩; omega
theorem pick_4 {s : Nat} (h1 : okD (dmn (firstI s) false) = true) (h2 : ¬ ((s &&& domS (dmn (firstI s) false) : Nat) : Int) ≠ (domS (dmn (firstI s) false) : Int)) (h3 : ¬ ((cnt (andn s (domS (dmn (firstI s) false))) : Nat) : Int) = 0) : pick s = dmn (firstI s) false := by
  unfold pick fitD; rw [if_pos]; simp only [Bool.and_eq_true, Bool.not_eq_true', decide_eq_false_iff_not, decide_eq_true_eq]; exact ⟨⟨h1, nat_eq h2⟩, by omega⟩
theorem pick_okd {l : List Int} {s : Nat} {o : List Dom} {n : Nat} (h : FT l s o n) (h0 : s ≠ 0) {d : Dom} (hp : pick s = d) : okD d = true := by
  subst hp; exact (fit_ok (pick_ok h.lt h0 h.pos).1).1
theorem first_go {s k : Nat} (hs : s < 18446744073709551616) (h0 : s ≠ 0) (hk : k ≤ firstI s) (hb : s.testBit k = false) : k + 1 ≤ firstI s := by
  rcases Nat.lt_or_ge k (firstI s) with h | h
  · exact h
  · have e : k = firstI s := by omega
    rw [e, (firstI_lt hs h0).2] at hb; cases hb
theorem first_end {s k : Nat} (hk : k ≤ firstI s) (hb : s.testBit k = true) : k = firstI s := by
  rcases Nat.lt_or_ge k (firstI s) with h | h
  · rw [firstI_min h] at hb; cases hb
  · omega
theorem cells_first {l : List Int} (ho : regOk l = true) (h0 : regSet l ≠ 0) : gC (cellsOf l) 0 = cN (firstI (regSet l)) ∧ 0 < (cellsOf l).length := by
  have hlt := regSet_lt ho
  have hf := firstI_lt hlt h0
  have hm : cN (firstI (regSet l)) ∈ setCells (regSet l) := set_mem.2 (by unfold hasS; rw [cN_ok hf.1, idx_cN hf.1, hf.2]; rfl)
  have hpos := List.length_pos_of_mem hm
  unfold cellsOf; rw [if_pos ho]
  refine ⟨?_, hpos⟩
  have h1 := set_mem.1 (gC_mem hpos)
  obtain ⟨j, hj, e⟩ := List.getElem_of_mem hm
  rw [← gC_eq hj] at e
  have hi : idx (gC (setCells (regSet l)) 0) = firstI (regSet l) := by
    rcases Nat.eq_zero_or_pos j with rfl | hp
    · rw [e, idx_cN hf.1]
    · have := setCells_lt (s := regSet l) hp hj
      rw [e, idx_cN hf.1] at this
      have hb := firstI_min (s := regSet l) this
      unfold hasS at h1; rw [hb] at h1; simp at h1
  have h2 := hasS_ok h1
  rw [← idx_inj h2 (cN_ok hf.1) (by rw [hi, idx_cN hf.1])]
theorem cells_none {l : List Int} (ho : regOk l = true) : (cellsOf l).length = popc (regSet l) := by unfold cellsOf; rw [if_pos ho]; exact popc_len (regSet_lt ho)
theorem popc_nz {s : Nat} (hs : s < 18446744073709551616) (h : popc s = 0) : s = 0 := by
  rcases Nat.eq_zero_or_pos s with h0 | h0
  · exact h0
  · have hf := firstI_lt hs (by omega)
    have hm : cN (firstI s) ∈ setCells s := set_mem.2 (by unfold hasS; rw [cN_ok hf.1, idx_cN hf.1, hf.2]; rfl)
    have := List.length_pos_of_mem hm
    rw [popc_len hs] at this; omega
/-- the reference's first tiling -/
structure FR (l R : List Int) (o : List Dom) (n : Nat) : Prop where
  ok : regOk R = true
  ft : FT l (regSet R) o n
theorem FR.zero {l : List Int} (h : ¬ cntR l = 0) : FR l l [] 33 := ⟨cntR_reg h, FT.zero h⟩
theorem FR.len {l R : List Int} {o : List Dom} {n : Nat} (h : FR l R o n) : R.length ≤ 8 ∧ o.length ≤ 33 := ⟨(regOk_true h.ok).1, by have := h.ft.ln; omega⟩
theorem FR.more {l R : List Int} {o : List Dom} {n : Nat} (h : FR l R o n) (hc : (((cellsOf R).length : Nat) : Int) > 0) : regSet R ≠ 0 := by
  intro e; rw [cells_none h.ok, e] at hc; simp [popc] at hc
theorem FR.end {l R : List Int} {o : List Dom} {n : Nat} (h : FR l R o n) (hc : ¬ (((cellsOf R).length : Nat) : Int) > 0) : regSet R = 0 := by
  rw [cells_none h.ok] at hc; exact popc_nz (regSet_lt h.ok) (by omega)
theorem cw_pick1 {R : List Int} (h : ((cntW R (dmn (firstI (regSet R)) false) : Nat) : Int) = 0) (ho : regOk R = true) : pick (regSet R) = dmn (firstI (regSet R)) true := by
  unfold pick; rw [if_neg]
  simp only [Bool.and_eq_true, Bool.not_eq_true', decide_eq_false_iff_not]
  rintro ⟨h1, h2⟩
  rw [cntW_yes ho h1] at h; omega
theorem cw_pick2 {R : List Int} (h : ¬ ((cntW R (dmn (firstI (regSet R)) false) : Nat) : Int) = 0) : pick (regSet R) = dmn (firstI (regSet R)) false := by
  have hp : 0 < cntW R (dmn (firstI (regSet R)) false) := by omega
  obtain ⟨h1, h2⟩ := cw_has hp
  rw [cntW_yes h1 h2] at hp
  unfold pick; rw [if_pos]
  simp only [Bool.and_eq_true, Bool.not_eq_true', decide_eq_false_iff_not]
  exact ⟨h2, by omega⟩
theorem FR.next {l R : List Int} {o : List Dom} {n : Nat} (h : FR l R o n) (h0 : regSet R ≠ 0) {d : Dom} (hp : pick (regSet R) = d) : 0 < n ∧ FR l (delL (delL R (ca d)) (cb d)) (o ++ [d]) (n - 1) := by
  have hd : okD d = true := pick_okd h.ft h0 hp
  have k1 := delL_ok h.ok (ok_ca hd)
  have k2 := delL_ok k1 (ok_cb hd)
  have := h.ft.next h0 hp
  refine ⟨this.1, k2, ?_⟩
  rw [delL_set k1 (ok_cb hd), delL_set h.ok (ok_ca hd), delC_two]
  exact this.2
theorem gcd_q {a b : Nat} (h : a ≠ 0) : 0 < Nat.gcd a b ∧ 0 < Nat.gcd b a := ⟨Nat.gcd_pos_of_pos_left _ (by omega), Nat.gcd_pos_of_pos_right _ (by omega)⟩
def shA (l : List Int) (d : Dom) : Nat := if cntW l d = 0 then 0 else cntW l d / Nat.gcd (cntW l d) (cntR l)
def shB (l : List Int) (d : Dom) : Nat := if cntW l d = 0 then 1 else cntR l / Nat.gcd (cntW l d) (cntR l)
theorem gcd_bd {a b : Nat} (h : a ≠ 0) (ha : a ≤ 68719476736) : Nat.gcd a b ≤ 68719476736 ∧ Nat.gcd b a ≤ 68719476736 := ⟨Nat.le_trans (Nat.gcd_le_left _ (by omega)) ha, Nat.le_trans (Nat.gcd_le_right _ (by omega)) ha⟩

theorem qC16_fo_32_2 : fieldOff Try.prog 32 2 = some 2 := by kernel_rfl
theorem qC16_fo_39_0 : fieldOff Try.prog 39 0 = some 0 := by kernel_rfl
theorem qC16_fo_39_1 : fieldOff Try.prog 39 1 = some 1 := by kernel_rfl
theorem qC16_sz_39 : (Try.prog.info? 39).map (·.size) = some 2 := by kernel_rfl
theorem qC16_ti_3 : TI Try.prog 3 false 1 := ⟨⟨_, Try.underlying3, rfl⟩, by kernel_rfl⟩
theorem qC16_ti_30 : TI Try.prog 30 true 1 := ⟨⟨_, Try.underlying30, rfl⟩, by kernel_rfl⟩
theorem qC16_ti_32 : TI Try.prog 32 true 3 := ⟨⟨_, Try.underlying32, rfl⟩, by kernel_rfl⟩
theorem qC16_ti_39 : TI Try.prog 39 true 2 := ⟨⟨_, Try.underlying39, rfl⟩, by kernel_rfl⟩
theorem qC16_ti_4 : TI Try.prog 4 false 1 := ⟨⟨_, Try.underlying4, rfl⟩, by kernel_rfl⟩
theorem qC16_un_42 : Try.prog.underlying 42 = some (.slice 32) := Try.underlying42
theorem qC16_un_71 : Try.prog.underlying 71 = some (.slice 39) := Try.underlying71
theorem qC16_zi_30 : ZI Try.prog 30 (.agg #[.slice none 0 0]) 1 24 := by unfold ZI; kernel_rfl
theorem qC16_zi_32 : ZI Try.prog 32 (.agg #[.int .i64 0, .int .i64 0, .bool false]) 3 24 := by unfold ZI; kernel_rfl
theorem qC16_zi_39 : ZI Try.prog 39 (.agg #[.int .i64 0, .int .i64 0]) 2 16 := by unfold ZI; kernel_rfl
set_option maxHeartbeats 4000000 in
set_option maxRecDepth 100000 in
theorem impl_set__firstCell_fn (s : Nat) (hs : s < 18446744073709551616) (h0 : s ≠ 0) : Fn Try.prog 57 [.a (.val (.int .u64 ((s : Nat) : Int)))] [.val (.agg ([.int .i64 (cN (firstI s)).x, .int .i64 (cN (firstI s)).y] : List Value).toArray)] := by
  have hf := (firstI_lt hs h0).1
  refine fn_intro (N := 13) Try.func57 rfl (by kernel_rfl) rfl (Nat.le_of_ble_eq_true rfl) [2, 12] (ret1 rfl) (fun W => ?_)
  show Wp _ _ _ [(.s 0, some (.s (V.v (.int .u64 ((s : Nat) : Int))))), (.o 2, some .free), (.o 12, some .free)]
  refine wp_seq' ?_
  refine wp_region_t ?_
  refine wpc (step_plain rfl (acts_alloc' (d := 2) (h := 2) (cap := 1) (s := 2) (cells := [(.val (.int .i64 0) : A), .val (.int .i64 0)]) (ltN rfl) qC16_zi_39 rfl rfl (by decide))) (by kernel_rfl) ?_
  refine wpl_nil ?_
  refine wp_seq' ?_
  refine wp_region_t ?_
  refine wpc (step_plain rfl (acts_assign (d := 3) (ltN rfl) (OpX.const (.int .i64 0)))) (by kernel_rfl) ?_
  refine wpl_nil ?_
  refine wp_seq' ?_
  refine wp_block' ?_
  refine wp_loop' (fun (k : Nat) => k ≤ firstI s) (fun (k : Nat) => [(.s 0, some (.s (V.v (.int .u64 ((s : Nat) : Int))))), (.s 2, some (.s (V.p 2 0))), (.s 3, some (.s (V.v (.int .i64 ((k : Nat) : Int))))), (.o 2, some (.o ⟨39, 2, true, [(.val (.int .i64 0) : A), .val (.int .i64 0)]⟩)), (.o 12, some .free)]) (fun (k : Nat) => 64 - k) ((0 : Nat)) (by exact (Nat.zero_le _ : 0 ≤ _)) (weak_of id [12] (by kernel_rfl) (wk_s (v' := V.v (.int .u64 ((s : Nat) : Int))) (by kernel_rfl) rfl rfl (wk_s (v' := V.p 2 0) (by kernel_rfl) rfl rfl (wk_s (v' := V.v (.int .i64 0)) (by kernel_rfl) (vint (by rfl)) rfl (wk_o (o' := ⟨39, 2, true, [(.val (.int .i64 0) : A), .val (.int .i64 0)]⟩) (by kernel_rfl) (renob_l (fun h => h) rfl rfl) rfl (wk_f rfl (wk_nil))))))) ?_
  rintro k inv1
  replace inv1 : k ≤ firstI s := inv1
  have inv := inv1
  show Wp _ _ _ [(.s 0, some (.s (V.v (.int .u64 ((s : Nat) : Int))))), (.s 2, some (.s (V.p 2 0))), (.s 3, some (.s (V.v (.int .i64 ((k : Nat) : Int))))), (.o 2, some (.o ⟨39, 2, true, [(.val (.int .i64 0) : A), .val (.int .i64 0)]⟩)), (.o 12, some .free)]
  refine wp_seq' ?_
  refine wp_seq' ?_
  refine wp_region_t ?_
  refine wpc (step_plain rfl (acts_move (d := 4) (ltN rfl) (OpX.tmp 0 (V.v (.int .u64 ((s : Nat) : Int)))))) (by kernel_rfl) ?_
  refine wpc (step_plain rfl (acts_move (d := 5) (ltN rfl) (OpX.tmp 3 (V.v (.int .i64 ((k : Nat) : Int)))))) (by kernel_rfl) ?_
  refine wpc (step_plain rfl (acts_bin (d := 6) (ltN rfl) (OpV.tmp 4 (.int .u64 ((s : Nat) : Int))) (OpV.tmp 5 (.int .i64 ((k : Nat) : Int))) (r_shr (c := (((s >>> k) : Nat) : Int)) (by omega) (shrU (m := s) (n := k) rfl rfl (by omega) rfl)))) (by kernel_rfl) ?_
  refine wpc (step_plain rfl (acts_bin (d := 7) (ltN rfl) (OpV.tmp 6 (.int .u64 (((s >>> k) : Nat) : Int))) (OpV.const (.int .u64 1)) (r_and (c := ((((s >>> k) &&& 1) : Nat) : Int)) (andU (m := (s >>> k)) (n := 1) rfl rfl (by exact Nat.lt_of_le_of_lt (shr_le _ _) (by first | omega | assumption | (first | omega | assumption))) (by omega))))) (by kernel_rfl) ?_
  refine wpc (step_plain rfl (acts_bin (d := 8) (ltN rfl) (OpV.tmp 7 (.int .u64 ((((s >>> k) &&& 1) : Nat) : Int))) (OpV.const (.int .u64 0)) (r_eql (c := (!(s.testBit k))) (bit_zero _ _)))) (by kernel_rfl) ?_
  refine wpl_nil ?_
  refine wp_if (t := 8) ((!(s.testBit k))) (by kernel_rfl) (fun c2 => ?_) (fun c2 => ?_)
  · skip
    have c3 : (s.testBit k) = false := by simpa using c2
    refine wp_skip' ?_
    refine wp_block' ?_
    refine wp_region_t ?_
    refine wpc (step_plain rfl (acts_move (d := 9) (ltN rfl) (OpX.tmp 3 (V.v (.int .i64 ((k : Nat) : Int)))))) (by kernel_rfl) ?_
    refine wpc (step_plain rfl (acts_bin (d := 10) (ltN rfl) (OpV.tmp 9 (.int .i64 ((k : Nat) : Int))) (OpV.const (.int .i64 1)) (r_add (c := (((k : Nat) : Int) + 1)) (w64 (by omega) (by omega))))) (by kernel_rfl) ?_
    refine wpc (step_plain rfl (acts_assign (d := 3) (ltN rfl) (OpX.tmp 10 (V.v (.int .i64 (((k : Nat) : Int) + 1)))))) (by kernel_rfl) ?_
    refine wpl_nil ?_
    exact Exists.intro ((k + 1)) (And.intro (by show _ ≤ _; first | exact first_go hs h0 inv (by assumption) | exact first_go hs h0 inv (by simp_all)) (And.intro (by show 64 - (k + 1) < 64 - k; omega) (weak_of id [12] (by kernel_rfl) (wk_s (v' := V.v (.int .u64 ((s : Nat) : Int))) (by kernel_rfl) rfl rfl (wk_s (v' := V.p 2 0) (by kernel_rfl) rfl rfl (wk_s (v' := V.v (.int .i64 (((k : Nat) : Int) + 1))) (by kernel_rfl) (vint (by rfl)) rfl (wk_o (o' := ⟨39, 2, true, [(.val (.int .i64 0) : A), .val (.int .i64 0)]⟩) (by kernel_rfl) (renob_l (fun h => h) rfl rfl) rfl (wk_f rfl (wk_nil)))))))))
  · skip
    have c4 : (s.testBit k) = true := by simpa using c2
    refine wp_exit' ?_
    refine wp_seq' ?_
    refine wp_region_t ?_
    refine wpc (step_plain rfl (acts_move (d := 11) (ltN rfl) (OpX.tmp 3 (V.v (.int .i64 ((k : Nat) : Int)))))) (by kernel_rfl) ?_
    refine wpc (step_plain rfl (acts_call1 (d := 12) (ltN rfl) (impl_cellAt_fn k (by omega)) (ArgVs.cons (ArgV.v (OpV.tmp 11 (.int .i64 ((k : Nat) : Int)))) (ArgVs.nil)) (ResV.agg [(.int .i64 ((cN k).x) : Value), .int .i64 ((cN k).y)]))) (by kernel_rfl) ?_
    refine wpc (step_plain rfl (acts_store (t := 2) (h := 2) (off := 0) (o := ⟨39, 2, true, [(.val (.int .i64 0) : A), .val (.int .i64 0)]⟩) (b := .agg ([(.int .i64 ((cN k).x) : Value), .int .i64 ((cN k).y)].map A.val)) (cells := [(.val (.int .i64 ((cN k).x)) : A), .val (.int .i64 ((cN k).y))]) qC16_ti_39 (OpX.tmp 12 (V.av [(.int .i64 ((cN k).x) : Value), .int .i64 ((cN k).y)])) rfl (by decide) (by intro y hy; simp [B.cs] at hy; rcases hy with rfl | rfl <;> rfl) (Nat.le_of_ble_eq_true rfl) rfl)) (by kernel_rfl) ?_
    refine wpl_nil ?_
    refine wp_ret' ?_
    exact VRes.cells 2 39 2 ⟨39, 2, true, [(.val (.int .i64 ((cN k).x)) : A), .val (.int .i64 ((cN k).y))]⟩ _ (by kernel_rfl) (by kernel_rfl) qC16_ti_39 (Nat.le_of_ble_eq_true rfl) (bagg (vs := [(.int .i64 ((cN k).x) : Value), .int .i64 ((cN k).y)]) (by ((have e : k = firstI s := by first | exact first_end inv (by assumption) | exact first_end inv (by simp_all)); subst e; rfl)))

set_option maxHeartbeats 4000000 in
set_option maxRecDepth 100000 in
theorem impl_FirstTiling_fn (l : List Int) (hl : l.length ≤ 4194304) : Fn Try.prog 27 [.agg [(.slv l.length 1 (isl l) : A)]] [.row 32 3 (ftR l).length (dsl (ftR l)), .val (.bool (decide (0 < cntR l)))] := by
  refine fn_intro (N := 53) Try.func27 rfl (by kernel_rfl) rfl (Nat.le_of_ble_eq_true rfl) [1, 6, 7, 9, 11, 13, 17, 24, 29, 32, 38, 40, 46, 47, 50] (ret2 rfl rfl (by intro u hu; injection hu with hu; subst hu; rfl)) (fun W => ?_)
  show Wp _ _ _ [(.s 0, some (.s (V.b (.agg [(.slv l.length 1 (isl l) : A)])))), (.o 1, some .free), (.o 6, some .free), (.o 7, some .free), (.o 9, some .free), (.o 11, some .free), (.o 13, some .free), (.o 17, some .free), (.o 24, some .free), (.o 29, some .free), (.o 32, some .free), (.o 38, some .free), (.o 40, some .free), (.o 46, some .free), (.o 47, some .free), (.o 50, some .free)]
  refine wp_seq' ?_
  refine wp_region_t ?_
  refine wpc (step_plain rfl (acts_box (d := 1) (h := 1) (b := .agg [(.slv l.length 1 (isl l) : A)]) (ltN rfl) (OpX.tmp 0 (V.b (.agg [(.slv l.length 1 (isl l) : A)]))) (by intro y hy; simp [B.cs] at hy; subst hy; rfl))) (by kernel_rfl) ?_
  refine wpc (step_plain rfl (acts_assign (d := 2) (ltN rfl) (OpX.const (.slice none 0 0)))) (by kernel_rfl) ?_
  refine wpc (step_plain rfl (acts_assign (d := 3) (ltN rfl) (OpX.const (.bool false)))) (by kernel_rfl) ?_
  refine wpl_nil ?_
  refine wp_seq' ?_
  refine wp_seq' ?_
  refine wp_region_t ?_
  refine wpc (step_plain rfl (acts_load_owns (d := 8) (t := 1) (h := 1) (off := 0) (o := ⟨30, 1, true, [(.slv l.length 1 (isl l) : A)]⟩)  (xs := [(.slv l.length 1 (isl l) : A)]) (ltN rfl) qC16_ti_30 rfl (by decide) rfl)) (by kernel_rfl) ?_
  refine wpc (step_plain rfl (acts_call1 (d := 9) (ltN rfl) (impl_IsTileable_fn l (by omega)) (ArgVs.cons (ArgV.regv 8 l.length 1 (isl l)) (ArgVs.nil)) (ResV.val _))) (by kernel_rfl) ?_
  refine wpc (step_plain rfl (acts_un (d := 10) (ltN rfl) (OpV.tmp 9 (.bool (decide (0 < cntR l)))) (r_not (c := (!(decide (0 < cntR l)))) rfl))) (by kernel_rfl) ?_
  refine wpl_nil ?_
  refine wp_if (t := 10) ((!(decide (0 < cntR l)))) (by kernel_rfl) (fun c1 => ?_) (fun c1 => ?_)
  · skip
    have c2 : decide (0 < cntR l) = false := by simpa using c1
    have c2P := of_decide_eq_false c2
    have hc0 : cntR l = 0 := by have := of_decide_eq_false c2; omega
    refine wp_seq' ?_
    refine wp_region_t ?_
    refine wpc (step_plain rfl (acts_assign (d := 2) (ltN rfl) (OpX.const (.slice none 0 0)))) (by kernel_rfl) ?_
    refine wpc (step_plain rfl (acts_assign (d := 3) (ltN rfl) (OpX.const (.bool false)))) (by kernel_rfl) ?_
    refine wpl_nil ?_
    refine wp_ret' ?_
    exact ⟨VRes.tmp 2 (.a (.val (.slice none 0 0))) _ (by kernel_rfl) (bnil_doms (L := (ftR l)) (by exact ftR_no hc0)), VRes.tmp 3 (.a (.val (.bool false))) _ (by kernel_rfl) (bval (congrArg Value.bool (by simp; omega)))⟩
  · skip
    have c3 : decide (0 < cntR l) = true := by simpa using c1
    have c3P := of_decide_eq_true c3
    have hc0 : ¬ cntR l = 0 := by have := of_decide_eq_true c3; omega
    refine wp_skip' ?_
    refine wp_seq' ?_
    refine wp_region_t ?_
    refine wpc (step_plain rfl (acts_buildSlice0' (d := 11) (h := 11) (s := 3) (ltN rfl) qC16_un_42 qC16_zi_32)) (by kernel_rfl) ?_
    refine wpc (step_plain rfl (acts_assign (d := 4) (ltN rfl) (OpX.tmp 11 (V.b (.a (.sl 11 0 0)))))) (by kernel_rfl) ?_
    refine wpl_nil ?_
    refine wp_seq' ?_
    refine wp_seq' ?_
    refine wp_region_t ?_
    refine wpc (step_plain rfl (acts_load_owns (d := 12) (t := 1) (h := 1) (off := 0) (o := ⟨30, 1, true, [(.slv l.length 1 (isl l) : A)]⟩)  (xs := [(.slv l.length 1 (isl l) : A)]) (ltN rfl) qC16_ti_30 rfl (by decide) rfl)) (by kernel_rfl) ?_
    refine wpc (step_plain rfl (acts_call1 (d := 13) (ltN rfl) (impl_Region__set_fn l (by exact cntR_reg (by omega))) (ArgVs.cons (ArgV.regv 12 l.length 1 (isl l)) (ArgVs.nil)) (ResV.val _))) (by kernel_rfl) ?_
    refine wpc (step_plain rfl (acts_assign (d := 5) (ltN rfl) (OpX.tmp 13 (V.v (.int .u64 (((regSet l) : Nat) : Int)))))) (by kernel_rfl) ?_
    refine wpl_nil ?_
    refine wp_block' ?_
    refine wp_loop' (fun (x : Nat × Nat × (List Dom)) => match x with | (s, n, o) => FT l s o n) (fun (x : Nat × Nat × (List Dom)) => match x with | (s, n, o) => [(.s 4, some (.s (V.b (.a (.sl 11 0 o.length))))), (.s 5, some (.s (V.v (.int .u64 ((s : Nat) : Int))))), (.o 11, some (.o ⟨32, 3, true, pl (dsl o)⟩)), (.o 1, some .free), (.o 6, some .free), (.o 7, some .free), (.o 9, some .free), (.o 13, some .free), (.o 17, some .free), (.o 24, some .free), (.o 29, some .free), (.o 32, some .free), (.o 38, some .free), (.o 40, some .free), (.o 46, some .free), (.o 47, some .free), (.o 50, some .free)]) (fun (x : Nat × Nat × (List Dom)) => match x with | (s, n, o) => n) (((regSet l) : Nat), (33 : Nat), ([] : List Dom)) (by exact FT.zero hc0) (weak_of id [1, 6, 7, 9, 13, 17, 24, 29, 32, 38, 40, 46, 47, 50] (by kernel_rfl) (wk_s (v' := V.b (.a (.sl 11 0 0))) (by kernel_rfl) (vsl (by rfl) rfl) rfl (wk_s (v' := V.v (.int .u64 (((regSet l) : Nat) : Int))) (by kernel_rfl) rfl rfl (wk_o (o' := ⟨32, 3, true, pl (dsl [])⟩) (by kernel_rfl) (renob_pl (fun h => h)) rfl (wk_f rfl (wk_f rfl (wk_f rfl (wk_f rfl (wk_f rfl (wk_f rfl (wk_f rfl (wk_f rfl (wk_f rfl (wk_f rfl (wk_f rfl (wk_f rfl (wk_f rfl (wk_f rfl (wk_nil))))))))))))))))))) ?_
    rintro ⟨s, n, o⟩ inv4
    replace inv4 : FT l s o n := inv4
    have hFT := inv4
    show Wp _ _ _ [(.s 4, some (.s (V.b (.a (.sl 11 0 o.length))))), (.s 5, some (.s (V.v (.int .u64 ((s : Nat) : Int))))), (.o 11, some (.o ⟨32, 3, true, pl (dsl o)⟩)), (.o 1, some .free), (.o 6, some .free), (.o 7, some .free), (.o 9, some .free), (.o 13, some .free), (.o 17, some .free), (.o 24, some .free), (.o 29, some .free), (.o 32, some .free), (.o 38, some .free), (.o 40, some .free), (.o 46, some .free), (.o 47, some .free), (.o 50, some .free)]
    have hs := hFT.lt
    have hol := hFT.ln
    refine wp_seq' ?_
    refine wp_seq' ?_
    refine wp_region_t ?_
    refine wpc (step_plain rfl (acts_move (d := 14) (ltN rfl) (OpX.tmp 5 (V.v (.int .u64 ((s : Nat) : Int)))))) (by kernel_rfl) ?_
    refine wpc (step_plain rfl (acts_bin (d := 15) (ltN rfl) (OpV.tmp 14 (.int .u64 ((s : Nat) : Int))) (OpV.const (.int .u64 0)) (r_neq (c := (decide (((s : Nat) : Int) ≠ 0))) rfl))) (by kernel_rfl) ?_
    refine wpl_nil ?_
    refine wp_if (t := 15) (decide (((s : Nat) : Int) ≠ 0)) (by kernel_rfl) (fun c5 => ?_) (fun c5 => ?_)
    · skip
      have c5P := of_decide_eq_true c5
      have h0 : s ≠ 0 := by have := of_decide_eq_true c5; omega
      refine wp_skip' ?_
      refine wp_block' ?_
      refine wp_seq' ?_
      refine wp_region_t ?_
      refine wpc (step_plain rfl (acts_move (d := 16) (ltN rfl) (OpX.tmp 5 (V.v (.int .u64 ((s : Nat) : Int)))))) (by kernel_rfl) ?_
      refine wpc (step_plain rfl (acts_call1 (d := 17) (ltN rfl) (impl_set__firstCell_fn s (by omega) (by omega)) (ArgVs.cons (ArgV.v (OpV.tmp 16 (.int .u64 ((s : Nat) : Int)))) (ArgVs.nil)) (ResV.agg [(.int .i64 ((cN (firstI s)).x) : Value), .int .i64 ((cN (firstI s)).y)]))) (by kernel_rfl) ?_
      refine wpc (step_plain rfl (acts_alloc' (d := 6) (h := 6) (cap := 1) (s := 2) (cells := [(.val (.int .i64 0) : A), .val (.int .i64 0)]) (ltN rfl) qC16_zi_39 rfl rfl (by decide))) (by kernel_rfl) ?_
      refine wpc (step_plain rfl (acts_store (t := 6) (h := 6) (off := 0) (o := ⟨39, 2, true, [(.val (.int .i64 0) : A), .val (.int .i64 0)]⟩) (b := .agg ([(.int .i64 ((cN (firstI s)).x) : Value), .int .i64 ((cN (firstI s)).y)].map A.val)) (cells := [(.val (.int .i64 ((cN (firstI s)).x)) : A), .val (.int .i64 ((cN (firstI s)).y))]) qC16_ti_39 (OpX.tmp 17 (V.av [(.int .i64 ((cN (firstI s)).x) : Value), .int .i64 ((cN (firstI s)).y)])) rfl (by decide) (by intro y hy; simp [B.cs] at hy; rcases hy with rfl | rfl <;> rfl) (Nat.le_of_ble_eq_true rfl) rfl)) (by kernel_rfl) ?_
      refine wpl_nil ?_
      refine wp_seq' ?_
      refine wp_region_t ?_
      refine wpc (step_plain rfl (acts_field (d := 18) (t := 6) (h := 6) (off := 0) (off' := 0) (ltN rfl) qC16_fo_39_0 rfl)) (by kernel_rfl) ?_
      refine wpc (step_plain rfl (acts_load_own (d := 19) (t := 18) (h := 6) (off := 0) (o := ⟨39, 2, true, [(.val (.int .i64 ((cN (firstI s)).x)) : A), .val (.int .i64 ((cN (firstI s)).y))]⟩)  (x := .val (.int .i64 ((cN (firstI s)).x))) (ltN rfl) qC16_ti_3 rfl)) (by kernel_rfl) ?_
      refine wpc (step_plain rfl (acts_field (d := 20) (t := 6) (h := 6) (off := 0) (off' := 1) (ltN rfl) qC16_fo_39_1 rfl)) (by kernel_rfl) ?_
      refine wpc (step_plain rfl (acts_load_own (d := 21) (t := 20) (h := 6) (off := 1) (o := ⟨39, 2, true, [(.val (.int .i64 ((cN (firstI s)).x)) : A), .val (.int .i64 ((cN (firstI s)).y))]⟩)  (x := .val (.int .i64 ((cN (firstI s)).y))) (ltN rfl) qC16_ti_3 rfl)) (by kernel_rfl) ?_
      refine wpc (step_plain rfl (acts_build (d := 22) (t := 32) (cells := [(.int .i64 ((cN (firstI s)).x) : Value), .int .i64 ((cN (firstI s)).y), .bool false]) (ltN rfl) (OpVs.cons (i := 0) (OpV.tmp 19 (.int .i64 ((cN (firstI s)).x))) (OpVs.cons (i := 1) (OpV.tmp 21 (.int .i64 ((cN (firstI s)).y))) (OpVs.cons (i := 2) (OpV.const (.bool false)) (OpVs.nil)))) rfl)) (by kernel_rfl) ?_
      refine wpc (step_plain rfl (acts_alloc' (d := 7) (h := 7) (cap := 1) (s := 3) (cells := [(.val (.int .i64 0) : A), .val (.int .i64 0), .val (.bool false)]) (ltN rfl) qC16_zi_32 rfl rfl (by decide))) (by kernel_rfl) ?_
      refine wpc (step_plain rfl (acts_store (t := 7) (h := 7) (off := 0) (o := ⟨32, 3, true, [(.val (.int .i64 0) : A), .val (.int .i64 0), .val (.bool false)]⟩) (b := .agg ([(.int .i64 ((cN (firstI s)).x) : Value), .int .i64 ((cN (firstI s)).y), .bool false].map A.val)) (cells := [(.val (.int .i64 ((cN (firstI s)).x)) : A), .val (.int .i64 ((cN (firstI s)).y)), .val (.bool false)]) qC16_ti_32 (OpX.tmp 22 (V.av [(.int .i64 ((cN (firstI s)).x) : Value), .int .i64 ((cN (firstI s)).y), .bool false])) rfl (by decide) (by intro y hy; simp [B.cs] at hy; rcases hy with rfl | rfl | rfl <;> rfl) (Nat.le_of_ble_eq_true rfl) rfl)) (by kernel_rfl) ?_
      refine wpl_nil ?_
      refine wp_seq' ?_
      refine wp_seq' ?_
      rcases Bool.eq_false_or_eq_true ((okD (⟨(cN (firstI s)).x, (cN (firstI s)).y, false⟩ : Dom))) with c6 | c6
      · skip
        rcases Bool.eq_false_or_eq_true (decide ((((s &&& (domS (⟨(cN (firstI s)).x, (cN (firstI s)).y, false⟩ : Dom))) : Nat) : Int) ≠ (((domS (⟨(cN (firstI s)).x, (cN (firstI s)).y, false⟩ : Dom)) : Nat) : Int))) with c7 | c7
        · skip
          have c7P := of_decide_eq_true c7
          have hpk : pick s = ⟨(cN (firstI s)).x, (cN (firstI s)).y, true⟩ := pick_2 (of_decide_eq_true c7)
          have hkd : okD (⟨(cN (firstI s)).x, (cN (firstI s)).y, true⟩ : Dom) = true := pick_okd hFT h0 hpk
          refine wp_drawn' (by kernel_rfl) (AllSteps.cons (step_plain rfl (acts_load_owns (d := 23) (t := 7) (h := 7) (off := 0) (o := ⟨32, 3, true, [(.val (.int .i64 ((cN (firstI s)).x)) : A), .val (.int .i64 ((cN (firstI s)).y)), .val (.bool false)]⟩)  (xs := [(.int .i64 ((cN (firstI s)).x) : Value), .int .i64 ((cN (firstI s)).y), .bool false].map A.val) (ltN rfl) qC16_ti_32 rfl (by decide) rfl)) (AllSteps.cons (step_plain rfl (acts_call1 (d := 24) (ltN rfl) (impl_DominoOk_fn (⟨(cN (firstI s)).x, (cN (firstI s)).y, false⟩ : Dom) ) (ArgVs.cons (ArgV.va (vs := [(.int .i64 ((cN (firstI s)).x) : Value), .int .i64 ((cN (firstI s)).y), .bool false]) (OpV.agg 23 [(.int .i64 ((cN (firstI s)).x) : Value), .int .i64 ((cN (firstI s)).y), .bool false])) (ArgVs.nil)) ((resval (congrArg Value.bool c6))))) (AllSteps.cons (step_plain rfl (acts_un (d := 25) (ltN rfl) (OpV.tmp 24 (.bool true)) (r_not (c := false) rfl))) (AllSteps.cons (step_plain rfl (acts_move (d := 26) (ltN rfl) (OpX.tmp 25 (V.v (.bool false))))) (AllSteps.cons (step_on (dj := 26) rfl rfl (acts_move (d := 27) (ltN rfl) (OpX.tmp 5 (V.v (.int .u64 ((s : Nat) : Int)))))) (AllSteps.cons (step_on (dj := 26) rfl rfl (acts_load_owns (d := 28) (t := 7) (h := 7) (off := 0) (o := ⟨32, 3, true, [(.val (.int .i64 ((cN (firstI s)).x)) : A), .val (.int .i64 ((cN (firstI s)).y)), .val (.bool false)]⟩)  (xs := [(.int .i64 ((cN (firstI s)).x) : Value), .int .i64 ((cN (firstI s)).y), .bool false].map A.val) (ltN rfl) qC16_ti_32 rfl (by decide) rfl)) (AllSteps.cons (step_on (dj := 26) rfl rfl (acts_call1 (d := 29) (ltN rfl) (impl_Domino__set_fn (⟨(cN (firstI s)).x, (cN (firstI s)).y, false⟩ : Dom) (by omega)) (ArgVs.cons (ArgV.va (vs := [(.int .i64 ((cN (firstI s)).x) : Value), .int .i64 ((cN (firstI s)).y), .bool false]) (OpV.agg 28 [(.int .i64 ((cN (firstI s)).x) : Value), .int .i64 ((cN (firstI s)).y), .bool false])) (ArgVs.nil)) (ResV.val _))) (AllSteps.cons (step_on (dj := 26) rfl rfl (acts_bin (d := 30) (ltN rfl) (OpV.tmp 27 (.int .u64 ((s : Nat) : Int))) (OpV.tmp 29 (.int .u64 (((domS (⟨(cN (firstI s)).x, (cN (firstI s)).y, false⟩ : Dom)) : Nat) : Int))) (r_and (c := (((s &&& (domS (⟨(cN (firstI s)).x, (cN (firstI s)).y, false⟩ : Dom))) : Nat) : Int)) (andU (m := s) (n := (domS (⟨(cN (firstI s)).x, (cN (firstI s)).y, false⟩ : Dom))) rfl rfl (by omega) (by (first | omega | assumption | exact cntR_reg (by omega) | exact domS_lt (by assumption) | exact andn_lt (by assumption))))))) (AllSteps.cons (step_on (dj := 26) rfl rfl (acts_load_owns (d := 31) (t := 7) (h := 7) (off := 0) (o := ⟨32, 3, true, [(.val (.int .i64 ((cN (firstI s)).x)) : A), .val (.int .i64 ((cN (firstI s)).y)), .val (.bool false)]⟩)  (xs := [(.int .i64 ((cN (firstI s)).x) : Value), .int .i64 ((cN (firstI s)).y), .bool false].map A.val) (ltN rfl) qC16_ti_32 rfl (by decide) rfl)) (AllSteps.cons (step_on (dj := 26) rfl rfl (acts_call1 (d := 32) (ltN rfl) (impl_Domino__set_fn (⟨(cN (firstI s)).x, (cN (firstI s)).y, false⟩ : Dom) (by omega)) (ArgVs.cons (ArgV.va (vs := [(.int .i64 ((cN (firstI s)).x) : Value), .int .i64 ((cN (firstI s)).y), .bool false]) (OpV.agg 31 [(.int .i64 ((cN (firstI s)).x) : Value), .int .i64 ((cN (firstI s)).y), .bool false])) (ArgVs.nil)) (ResV.val _))) (AllSteps.cons (step_on (dj := 26) rfl rfl (acts_bin (d := 33) (ltN rfl) (OpV.tmp 30 (.int .u64 (((s &&& (domS (⟨(cN (firstI s)).x, (cN (firstI s)).y, false⟩ : Dom))) : Nat) : Int))) (OpV.tmp 32 (.int .u64 (((domS (⟨(cN (firstI s)).x, (cN (firstI s)).y, false⟩ : Dom)) : Nat) : Int))) (r_neq (c := true) c7))) (AllSteps.cons (step_plain rfl (acts_pick_f (d := 34) (ltN rfl) (OpV.tmp 26 (.bool false)) (OpX.tmp 33 (V.v (.bool true))))) (AllSteps.cons (step_plain rfl (acts_move (d := 35) (ltN rfl) (OpX.tmp 34 (V.v (.bool true))))) (AllSteps.cons (step_off (dj := 35) (b' := true) rfl rfl (by decide) rfl (ltN rfl)) (AllSteps.cons (step_off (dj := 35) (b' := true) rfl rfl (by decide) rfl (ltN rfl)) (AllSteps.cons (step_off (dj := 35) (b' := true) rfl rfl (by decide) rfl (ltN rfl)) (AllSteps.cons (step_off (dj := 35) (b' := true) rfl rfl (by decide) rfl (ltN rfl)) (AllSteps.cons (step_off (dj := 35) (b' := true) rfl rfl (by decide) rfl (ltN rfl)) (AllSteps.cons (step_off (dj := 35) (b' := true) rfl rfl (by decide) rfl (ltN rfl)) (AllSteps.cons (step_plain rfl (acts_pick_t (d := 42) (ltN rfl) (OpV.tmp 35 (.bool true)) (OpX.const (.bool true)))) (AllSteps.nil))))))))))))))))))))) (by kernel_rfl) (by kernel_rfl) (by kernel_rfl) ?_
          refine wp_if_t (t := 42) (by kernel_rfl) ?_
          refine wp_region_t ?_
          refine wpc (step_plain rfl (acts_field (d := 43) (t := 7) (h := 7) (off := 0) (off' := 2) (ltN rfl) qC16_fo_32_2 rfl)) (by kernel_rfl) ?_
          refine wpc (step_plain rfl (acts_store (t := 43) (h := 7) (off := 2) (o := ⟨32, 3, true, [(.val (.int .i64 ((cN (firstI s)).x)) : A), .val (.int .i64 ((cN (firstI s)).y)), .val (.bool false)]⟩) (b := .a (.val (.bool true))) (cells := [(.val (.int .i64 ((cN (firstI s)).x)) : A), .val (.int .i64 ((cN (firstI s)).y)), .val (.bool true)]) qC16_ti_4 (OpX.const (.bool true)) rfl (by decide) (by intro y hy; simp [B.cs] at hy; subst hy; rfl) (Nat.le_of_ble_eq_true rfl) rfl)) (by kernel_rfl) ?_
          refine wpl_nil ?_
          refine wp_seq' ?_
          refine wp_region_t ?_
          refine wpc (step_plain rfl (acts_move (d := 44) (ltN rfl) (OpX.tmp 4 (V.b (.a (.sl 11 0 o.length)))))) (by kernel_rfl) ?_
          refine wpc (step_plain rfl (acts_load_owns (d := 45) (t := 7) (h := 7) (off := 0) (o := ⟨32, 3, true, [(.val (.int .i64 ((cN (firstI s)).x)) : A), .val (.int .i64 ((cN (firstI s)).y)), .val (.bool true)]⟩)  (xs := [(.int .i64 ((cN (firstI s)).x) : Value), .int .i64 ((cN (firstI s)).y), .bool true].map A.val) (ltN rfl) qC16_ti_32 rfl (by decide) rfl)) (by kernel_rfl) ?_
          refine wpc (step_plain rfl (acts_buildSlice' (d := 46) (h := 46) (n := 1) (s := 3) (xs := dsl ([(⟨(cN (firstI s)).x, (cN (firstI s)).y, true⟩ : Dom)] : List Dom)) (ltN rfl) qC16_un_42 qC16_zi_32 (OpVs.cons (i := 0) (OpV.agg 45 [(.int .i64 ((cN (firstI s)).x) : Value), .int .i64 ((cN (firstI s)).y), .bool true]) (OpVs.nil)) (by decide) (by decide) (by kernel_rfl) rfl)) (by kernel_rfl) ?_
          refine wpc (step_plain rfl (acts_app (d := 47) (x := 44) (h := 11) (h2 := 47) (n := o.length) (m := 1) (nm := ((o ++ [(⟨(cN (firstI s)).x, (cN (firstI s)).y, true⟩ : Dom)]).length)) (X := .sl 46 0 1) (xs := dsl o) (ys := dsl [(⟨(cN (firstI s)).x, (cN (firstI s)).y, true⟩ : Dom)]) (zs := dsl (o ++ [(⟨(cN (firstI s)).x, (cN (firstI s)).y, true⟩ : Dom)])) (ltN rfl) qC16_un_42 qC16_zi_32 rfl (by decide) (by decide) (by exact dsl_len _) (OpX.tmp 46 (V.b (.a (.sl 46 0 1)))) (src_own (h := 46) (T := 32) (s := 3) (ex := true) (n := 1) (by exact dsl_len _)) (dsl_one' _) (by omega) (by exact (dsl_append _ _).symm) (by (simp; done)))) (by kernel_rfl) ?_
          refine wpc (step_plain rfl (acts_assign (d := 4) (ltN rfl) (OpX.tmp 47 (V.b (.a (.sl 47 0 ((o ++ [(⟨(cN (firstI s)).x, (cN (firstI s)).y, true⟩ : Dom)]).length))))))) (by kernel_rfl) ?_
          refine wpl_nil ?_
          refine wp_region_t ?_
          refine wpc (step_plain rfl (acts_move (d := 48) (ltN rfl) (OpX.tmp 5 (V.v (.int .u64 ((s : Nat) : Int)))))) (by kernel_rfl) ?_
          refine wpc (step_plain rfl (acts_load_owns (d := 49) (t := 7) (h := 7) (off := 0) (o := ⟨32, 3, true, [(.val (.int .i64 ((cN (firstI s)).x)) : A), .val (.int .i64 ((cN (firstI s)).y)), .val (.bool true)]⟩)  (xs := [(.int .i64 ((cN (firstI s)).x) : Value), .int .i64 ((cN (firstI s)).y), .bool true].map A.val) (ltN rfl) qC16_ti_32 rfl (by decide) rfl)) (by kernel_rfl) ?_
          refine wpc (step_plain rfl (acts_call1 (d := 50) (ltN rfl) (impl_Domino__set_fn (⟨(cN (firstI s)).x, (cN (firstI s)).y, true⟩ : Dom) (by omega)) (ArgVs.cons (ArgV.va (vs := [(.int .i64 ((cN (firstI s)).x) : Value), .int .i64 ((cN (firstI s)).y), .bool true]) (OpV.agg 49 [(.int .i64 ((cN (firstI s)).x) : Value), .int .i64 ((cN (firstI s)).y), .bool true])) (ArgVs.nil)) (ResV.val _))) (by kernel_rfl) ?_
          refine wpc (step_plain rfl (acts_bin (d := 51) (ltN rfl) (OpV.tmp 48 (.int .u64 ((s : Nat) : Int))) (OpV.tmp 50 (.int .u64 (((domS (⟨(cN (firstI s)).x, (cN (firstI s)).y, true⟩ : Dom)) : Nat) : Int))) (r_andNot (c := (((andn s (domS (⟨(cN (firstI s)).x, (cN (firstI s)).y, true⟩ : Dom))) : Nat) : Int)) (andnU (m := s) (n := (domS (⟨(cN (firstI s)).x, (cN (firstI s)).y, true⟩ : Dom))) rfl rfl (by omega) (by (first | omega | assumption | exact cntR_reg (by omega) | exact domS_lt (by assumption) | exact andn_lt (by assumption))))))) (by kernel_rfl) ?_
          refine wpc (step_plain rfl (acts_assign (d := 5) (ltN rfl) (OpX.tmp 51 (V.v (.int .u64 (((andn s (domS (⟨(cN (firstI s)).x, (cN (firstI s)).y, true⟩ : Dom))) : Nat) : Int)))))) (by kernel_rfl) ?_
          refine wpl_nil ?_
          exact Exists.intro ((andn s (domS (⟨(cN (firstI s)).x, (cN (firstI s)).y, true⟩ : Dom))), (n - 1), (o ++ [(⟨(cN (firstI s)).x, (cN (firstI s)).y, true⟩ : Dom)])) (And.intro (by exact (hFT.next h0 hpk).2) (And.intro (by show n - 1 < n; have := (hFT.next h0 hpk).1; omega) (weak_of (subst1 [(11, 47)]) [1, 6, 7, 9, 13, 17, 24, 29, 32, 38, 40, 46, 47, 50] (by kernel_rfl) (wk_s (v' := V.b (.a (.sl 47 0 ((o ++ [(⟨(cN (firstI s)).x, (cN (firstI s)).y, true⟩ : Dom)]).length)))) (by kernel_rfl) rfl rfl (wk_s (v' := V.v (.int .u64 (((andn s (domS (⟨(cN (firstI s)).x, (cN (firstI s)).y, true⟩ : Dom))) : Nat) : Int))) (by kernel_rfl) rfl rfl (wk_o (o' := ⟨32, 3, true, pl (dsl (o ++ [(⟨(cN (firstI s)).x, (cN (firstI s)).y, true⟩ : Dom)]))⟩) (by kernel_rfl) (renob_pl (fun h => h)) rfl (wk_f rfl (wk_f rfl (wk_f rfl (wk_f rfl (wk_f rfl (wk_f rfl (wk_f rfl (wk_f rfl (wk_f rfl (wk_f rfl (wk_f rfl (wk_f rfl (wk_f rfl (wk_f rfl (wk_nil)))))))))))))))))))))
        · skip
          have c7P := of_decide_eq_false c7
          refine wp_drawn' (by kernel_rfl) (AllSteps.cons (step_plain rfl (acts_load_owns (d := 23) (t := 7) (h := 7) (off := 0) (o := ⟨32, 3, true, [(.val (.int .i64 ((cN (firstI s)).x)) : A), .val (.int .i64 ((cN (firstI s)).y)), .val (.bool false)]⟩)  (xs := [(.int .i64 ((cN (firstI s)).x) : Value), .int .i64 ((cN (firstI s)).y), .bool false].map A.val) (ltN rfl) qC16_ti_32 rfl (by decide) rfl)) (AllSteps.cons (step_plain rfl (acts_call1 (d := 24) (ltN rfl) (impl_DominoOk_fn (⟨(cN (firstI s)).x, (cN (firstI s)).y, false⟩ : Dom) ) (ArgVs.cons (ArgV.va (vs := [(.int .i64 ((cN (firstI s)).x) : Value), .int .i64 ((cN (firstI s)).y), .bool false]) (OpV.agg 23 [(.int .i64 ((cN (firstI s)).x) : Value), .int .i64 ((cN (firstI s)).y), .bool false])) (ArgVs.nil)) ((resval (congrArg Value.bool c6))))) (AllSteps.cons (step_plain rfl (acts_un (d := 25) (ltN rfl) (OpV.tmp 24 (.bool true)) (r_not (c := false) rfl))) (AllSteps.cons (step_plain rfl (acts_move (d := 26) (ltN rfl) (OpX.tmp 25 (V.v (.bool false))))) (AllSteps.cons (step_on (dj := 26) rfl rfl (acts_move (d := 27) (ltN rfl) (OpX.tmp 5 (V.v (.int .u64 ((s : Nat) : Int)))))) (AllSteps.cons (step_on (dj := 26) rfl rfl (acts_load_owns (d := 28) (t := 7) (h := 7) (off := 0) (o := ⟨32, 3, true, [(.val (.int .i64 ((cN (firstI s)).x)) : A), .val (.int .i64 ((cN (firstI s)).y)), .val (.bool false)]⟩)  (xs := [(.int .i64 ((cN (firstI s)).x) : Value), .int .i64 ((cN (firstI s)).y), .bool false].map A.val) (ltN rfl) qC16_ti_32 rfl (by decide) rfl)) (AllSteps.cons (step_on (dj := 26) rfl rfl (acts_call1 (d := 29) (ltN rfl) (impl_Domino__set_fn (⟨(cN (firstI s)).x, (cN (firstI s)).y, false⟩ : Dom) (by omega)) (ArgVs.cons (ArgV.va (vs := [(.int .i64 ((cN (firstI s)).x) : Value), .int .i64 ((cN (firstI s)).y), .bool false]) (OpV.agg 28 [(.int .i64 ((cN (firstI s)).x) : Value), .int .i64 ((cN (firstI s)).y), .bool false])) (ArgVs.nil)) (ResV.val _))) (AllSteps.cons (step_on (dj := 26) rfl rfl (acts_bin (d := 30) (ltN rfl) (OpV.tmp 27 (.int .u64 ((s : Nat) : Int))) (OpV.tmp 29 (.int .u64 (((domS (⟨(cN (firstI s)).x, (cN (firstI s)).y, false⟩ : Dom)) : Nat) : Int))) (r_and (c := (((s &&& (domS (⟨(cN (firstI s)).x, (cN (firstI s)).y, false⟩ : Dom))) : Nat) : Int)) (andU (m := s) (n := (domS (⟨(cN (firstI s)).x, (cN (firstI s)).y, false⟩ : Dom))) rfl rfl (by omega) (by (first | omega | assumption | exact cntR_reg (by omega) | exact domS_lt (by assumption) | exact andn_lt (by assumption))))))) (AllSteps.cons (step_on (dj := 26) rfl rfl (acts_load_owns (d := 31) (t := 7) (h := 7) (off := 0) (o := ⟨32, 3, true, [(.val (.int .i64 ((cN (firstI s)).x)) : A), .val (.int .i64 ((cN (firstI s)).y)), .val (.bool false)]⟩)  (xs := [(.int .i64 ((cN (firstI s)).x) : Value), .int .i64 ((cN (firstI s)).y), .bool false].map A.val) (ltN rfl) qC16_ti_32 rfl (by decide) rfl)) (AllSteps.cons (step_on (dj := 26) rfl rfl (acts_call1 (d := 32) (ltN rfl) (impl_Domino__set_fn (⟨(cN (firstI s)).x, (cN (firstI s)).y, false⟩ : Dom) (by omega)) (ArgVs.cons (ArgV.va (vs := [(.int .i64 ((cN (firstI s)).x) : Value), .int .i64 ((cN (firstI s)).y), .bool false]) (OpV.agg 31 [(.int .i64 ((cN (firstI s)).x) : Value), .int .i64 ((cN (firstI s)).y), .bool false])) (ArgVs.nil)) (ResV.val _))) (AllSteps.cons (step_on (dj := 26) rfl rfl (acts_bin (d := 33) (ltN rfl) (OpV.tmp 30 (.int .u64 (((s &&& (domS (⟨(cN (firstI s)).x, (cN (firstI s)).y, false⟩ : Dom))) : Nat) : Int))) (OpV.tmp 32 (.int .u64 (((domS (⟨(cN (firstI s)).x, (cN (firstI s)).y, false⟩ : Dom)) : Nat) : Int))) (r_neq (c := false) c7))) (AllSteps.cons (step_plain rfl (acts_pick_f (d := 34) (ltN rfl) (OpV.tmp 26 (.bool false)) (OpX.tmp 33 (V.v (.bool false))))) (AllSteps.cons (step_plain rfl (acts_move (d := 35) (ltN rfl) (OpX.tmp 34 (V.v (.bool false))))) (AllSteps.cons (step_on (dj := 35) rfl rfl (acts_move (d := 36) (ltN rfl) (OpX.tmp 5 (V.v (.int .u64 ((s : Nat) : Int)))))) (AllSteps.cons (step_on (dj := 35) rfl rfl (acts_load_owns (d := 37) (t := 7) (h := 7) (off := 0) (o := ⟨32, 3, true, [(.val (.int .i64 ((cN (firstI s)).x)) : A), .val (.int .i64 ((cN (firstI s)).y)), .val (.bool false)]⟩)  (xs := [(.int .i64 ((cN (firstI s)).x) : Value), .int .i64 ((cN (firstI s)).y), .bool false].map A.val) (ltN rfl) qC16_ti_32 rfl (by decide) rfl)) (AllSteps.cons (step_on (dj := 35) rfl rfl (acts_call1 (d := 38) (ltN rfl) (impl_Domino__set_fn (⟨(cN (firstI s)).x, (cN (firstI s)).y, false⟩ : Dom) (by omega)) (ArgVs.cons (ArgV.va (vs := [(.int .i64 ((cN (firstI s)).x) : Value), .int .i64 ((cN (firstI s)).y), .bool false]) (OpV.agg 37 [(.int .i64 ((cN (firstI s)).x) : Value), .int .i64 ((cN (firstI s)).y), .bool false])) (ArgVs.nil)) (ResV.val _))) (AllSteps.cons (step_on (dj := 35) rfl rfl (acts_bin (d := 39) (ltN rfl) (OpV.tmp 36 (.int .u64 ((s : Nat) : Int))) (OpV.tmp 38 (.int .u64 (((domS (⟨(cN (firstI s)).x, (cN (firstI s)).y, false⟩ : Dom)) : Nat) : Int))) (r_andNot (c := (((andn s (domS (⟨(cN (firstI s)).x, (cN (firstI s)).y, false⟩ : Dom))) : Nat) : Int)) (andnU (m := s) (n := (domS (⟨(cN (firstI s)).x, (cN (firstI s)).y, false⟩ : Dom))) rfl rfl (by omega) (by (first | omega | assumption | exact cntR_reg (by omega) | exact domS_lt (by assumption) | exact andn_lt (by assumption))))))) (AllSteps.cons (step_on (dj := 35) rfl rfl (acts_call1 (d := 40) (ltN rfl) (impl_set__count_fn (andn s (domS (⟨(cN (firstI s)).x, (cN (firstI s)).y, false⟩ : Dom))) (by exact andn_lt (by assumption))) (ArgVs.cons (ArgV.v (OpV.tmp 39 (.int .u64 (((andn s (domS (⟨(cN (firstI s)).x, (cN (firstI s)).y, false⟩ : Dom))) : Nat) : Int)))) (ArgVs.nil)) (ResV.val _))) (AllSteps.cons (step_on (dj := 35) rfl rfl (acts_bin (d := 41) (ltN rfl) (OpV.tmp 40 (.int .i64 (((cnt (andn s (domS (⟨(cN (firstI s)).x, (cN (firstI s)).y, false⟩ : Dom)))) : Nat) : Int))) (OpV.const (.int .i64 0)) (r_eql (c := (decide ((((cnt (andn s (domS (⟨(cN (firstI s)).x, (cN (firstI s)).y, false⟩ : Dom)))) : Nat) : Int) = 0))) rfl))) (AllSteps.cons (step_plain rfl (acts_pick_f (d := 42) (ltN rfl) (OpV.tmp 35 (.bool false)) (OpX.tmp 41 (V.v (.bool (decide ((((cnt (andn s (domS (⟨(cN (firstI s)).x, (cN (firstI s)).y, false⟩ : Dom)))) : Nat) : Int) = 0))))))) (AllSteps.nil))))))))))))))))))))) (by kernel_rfl) (by kernel_rfl) (by kernel_rfl) ?_
          refine wp_if (t := 42) (decide ((((cnt (andn s (domS (⟨(cN (firstI s)).x, (cN (firstI s)).y, false⟩ : Dom)))) : Nat) : Int) = 0)) (by kernel_rfl) (fun c8 => ?_) (fun c8 => ?_)
          · skip
            have c8P := of_decide_eq_true c8
            have hpk : pick s = ⟨(cN (firstI s)).x, (cN (firstI s)).y, true⟩ := pick_3 (of_decide_eq_true c8)
            have hkd : okD (⟨(cN (firstI s)).x, (cN (firstI s)).y, true⟩ : Dom) = true := pick_okd hFT h0 hpk
            refine wp_region_t ?_
            refine wpc (step_plain rfl (acts_field (d := 43) (t := 7) (h := 7) (off := 0) (off' := 2) (ltN rfl) qC16_fo_32_2 rfl)) (by kernel_rfl) ?_
            refine wpc (step_plain rfl (acts_store (t := 43) (h := 7) (off := 2) (o := ⟨32, 3, true, [(.val (.int .i64 ((cN (firstI s)).x)) : A), .val (.int .i64 ((cN (firstI s)).y)), .val (.bool false)]⟩) (b := .a (.val (.bool true))) (cells := [(.val (.int .i64 ((cN (firstI s)).x)) : A), .val (.int .i64 ((cN (firstI s)).y)), .val (.bool true)]) qC16_ti_4 (OpX.const (.bool true)) rfl (by decide) (by intro y hy; simp [B.cs] at hy; subst hy; rfl) (Nat.le_of_ble_eq_true rfl) rfl)) (by kernel_rfl) ?_
            refine wpl_nil ?_
            refine wp_seq' ?_
            refine wp_region_t ?_
            refine wpc (step_plain rfl (acts_move (d := 44) (ltN rfl) (OpX.tmp 4 (V.b (.a (.sl 11 0 o.length)))))) (by kernel_rfl) ?_
            refine wpc (step_plain rfl (acts_load_owns (d := 45) (t := 7) (h := 7) (off := 0) (o := ⟨32, 3, true, [(.val (.int .i64 ((cN (firstI s)).x)) : A), .val (.int .i64 ((cN (firstI s)).y)), .val (.bool true)]⟩)  (xs := [(.int .i64 ((cN (firstI s)).x) : Value), .int .i64 ((cN (firstI s)).y), .bool true].map A.val) (ltN rfl) qC16_ti_32 rfl (by decide) rfl)) (by kernel_rfl) ?_
            refine wpc (step_plain rfl (acts_buildSlice' (d := 46) (h := 46) (n := 1) (s := 3) (xs := dsl ([(⟨(cN (firstI s)).x, (cN (firstI s)).y, true⟩ : Dom)] : List Dom)) (ltN rfl) qC16_un_42 qC16_zi_32 (OpVs.cons (i := 0) (OpV.agg 45 [(.int .i64 ((cN (firstI s)).x) : Value), .int .i64 ((cN (firstI s)).y), .bool true]) (OpVs.nil)) (by decide) (by decide) (by kernel_rfl) rfl)) (by kernel_rfl) ?_
            refine wpc (step_plain rfl (acts_app (d := 47) (x := 44) (h := 11) (h2 := 47) (n := o.length) (m := 1) (nm := ((o ++ [(⟨(cN (firstI s)).x, (cN (firstI s)).y, true⟩ : Dom)]).length)) (X := .sl 46 0 1) (xs := dsl o) (ys := dsl [(⟨(cN (firstI s)).x, (cN (firstI s)).y, true⟩ : Dom)]) (zs := dsl (o ++ [(⟨(cN (firstI s)).x, (cN (firstI s)).y, true⟩ : Dom)])) (ltN rfl) qC16_un_42 qC16_zi_32 rfl (by decide) (by decide) (by exact dsl_len _) (OpX.tmp 46 (V.b (.a (.sl 46 0 1)))) (src_own (h := 46) (T := 32) (s := 3) (ex := true) (n := 1) (by exact dsl_len _)) (dsl_one' _) (by omega) (by exact (dsl_append _ _).symm) (by (simp; done)))) (by kernel_rfl) ?_
            refine wpc (step_plain rfl (acts_assign (d := 4) (ltN rfl) (OpX.tmp 47 (V.b (.a (.sl 47 0 ((o ++ [(⟨(cN (firstI s)).x, (cN (firstI s)).y, true⟩ : Dom)]).length))))))) (by kernel_rfl) ?_
            refine wpl_nil ?_
            refine wp_region_t ?_
            refine wpc (step_plain rfl (acts_move (d := 48) (ltN rfl) (OpX.tmp 5 (V.v (.int .u64 ((s : Nat) : Int)))))) (by kernel_rfl) ?_
            refine wpc (step_plain rfl (acts_load_owns (d := 49) (t := 7) (h := 7) (off := 0) (o := ⟨32, 3, true, [(.val (.int .i64 ((cN (firstI s)).x)) : A), .val (.int .i64 ((cN (firstI s)).y)), .val (.bool true)]⟩)  (xs := [(.int .i64 ((cN (firstI s)).x) : Value), .int .i64 ((cN (firstI s)).y), .bool true].map A.val) (ltN rfl) qC16_ti_32 rfl (by decide) rfl)) (by kernel_rfl) ?_
            refine wpc (step_plain rfl (acts_call1 (d := 50) (ltN rfl) (impl_Domino__set_fn (⟨(cN (firstI s)).x, (cN (firstI s)).y, true⟩ : Dom) (by omega)) (ArgVs.cons (ArgV.va (vs := [(.int .i64 ((cN (firstI s)).x) : Value), .int .i64 ((cN (firstI s)).y), .bool true]) (OpV.agg 49 [(.int .i64 ((cN (firstI s)).x) : Value), .int .i64 ((cN (firstI s)).y), .bool true])) (ArgVs.nil)) (ResV.val _))) (by kernel_rfl) ?_
            refine wpc (step_plain rfl (acts_bin (d := 51) (ltN rfl) (OpV.tmp 48 (.int .u64 ((s : Nat) : Int))) (OpV.tmp 50 (.int .u64 (((domS (⟨(cN (firstI s)).x, (cN (firstI s)).y, true⟩ : Dom)) : Nat) : Int))) (r_andNot (c := (((andn s (domS (⟨(cN (firstI s)).x, (cN (firstI s)).y, true⟩ : Dom))) : Nat) : Int)) (andnU (m := s) (n := (domS (⟨(cN (firstI s)).x, (cN (firstI s)).y, true⟩ : Dom))) rfl rfl (by omega) (by (first | omega | assumption | exact cntR_reg (by omega) | exact domS_lt (by assumption) | exact andn_lt (by assumption))))))) (by kernel_rfl) ?_
            refine wpc (step_plain rfl (acts_assign (d := 5) (ltN rfl) (OpX.tmp 51 (V.v (.int .u64 (((andn s (domS (⟨(cN (firstI s)).x, (cN (firstI s)).y, true⟩ : Dom))) : Nat) : Int)))))) (by kernel_rfl) ?_
            refine wpl_nil ?_
            exact Exists.intro ((andn s (domS (⟨(cN (firstI s)).x, (cN (firstI s)).y, true⟩ : Dom))), (n - 1), (o ++ [(⟨(cN (firstI s)).x, (cN (firstI s)).y, true⟩ : Dom)])) (And.intro (by exact (hFT.next h0 hpk).2) (And.intro (by show n - 1 < n; have := (hFT.next h0 hpk).1; omega) (weak_of (subst1 [(11, 47)]) [1, 6, 7, 9, 13, 17, 24, 29, 32, 38, 40, 46, 47, 50] (by kernel_rfl) (wk_s (v' := V.b (.a (.sl 47 0 ((o ++ [(⟨(cN (firstI s)).x, (cN (firstI s)).y, true⟩ : Dom)]).length)))) (by kernel_rfl) rfl rfl (wk_s (v' := V.v (.int .u64 (((andn s (domS (⟨(cN (firstI s)).x, (cN (firstI s)).y, true⟩ : Dom))) : Nat) : Int))) (by kernel_rfl) rfl rfl (wk_o (o' := ⟨32, 3, true, pl (dsl (o ++ [(⟨(cN (firstI s)).x, (cN (firstI s)).y, true⟩ : Dom)]))⟩) (by kernel_rfl) (renob_pl (fun h => h)) rfl (wk_f rfl (wk_f rfl (wk_f rfl (wk_f rfl (wk_f rfl (wk_f rfl (wk_f rfl (wk_f rfl (wk_f rfl (wk_f rfl (wk_f rfl (wk_f rfl (wk_f rfl (wk_f rfl (wk_nil)))))))))))))))))))))
          · skip
            have c8P := of_decide_eq_false c8
            have hpk : pick s = ⟨(cN (firstI s)).x, (cN (firstI s)).y, false⟩ := pick_4 (by assumption) (of_decide_eq_false (by assumption)) (of_decide_eq_false c8)
            refine wp_skip' ?_
            refine wp_seq' ?_
            refine wp_region_t ?_
            refine wpc (step_plain rfl (acts_move (d := 44) (ltN rfl) (OpX.tmp 4 (V.b (.a (.sl 11 0 o.length)))))) (by kernel_rfl) ?_
            refine wpc (step_plain rfl (acts_load_owns (d := 45) (t := 7) (h := 7) (off := 0) (o := ⟨32, 3, true, [(.val (.int .i64 ((cN (firstI s)).x)) : A), .val (.int .i64 ((cN (firstI s)).y)), .val (.bool false)]⟩)  (xs := [(.int .i64 ((cN (firstI s)).x) : Value), .int .i64 ((cN (firstI s)).y), .bool false].map A.val) (ltN rfl) qC16_ti_32 rfl (by decide) rfl)) (by kernel_rfl) ?_
            refine wpc (step_plain rfl (acts_buildSlice' (d := 46) (h := 46) (n := 1) (s := 3) (xs := dsl ([(⟨(cN (firstI s)).x, (cN (firstI s)).y, false⟩ : Dom)] : List Dom)) (ltN rfl) qC16_un_42 qC16_zi_32 (OpVs.cons (i := 0) (OpV.agg 45 [(.int .i64 ((cN (firstI s)).x) : Value), .int .i64 ((cN (firstI s)).y), .bool false]) (OpVs.nil)) (by decide) (by decide) (by kernel_rfl) rfl)) (by kernel_rfl) ?_
            refine wpc (step_plain rfl (acts_app (d := 47) (x := 44) (h := 11) (h2 := 47) (n := o.length) (m := 1) (nm := ((o ++ [(⟨(cN (firstI s)).x, (cN (firstI s)).y, false⟩ : Dom)]).length)) (X := .sl 46 0 1) (xs := dsl o) (ys := dsl [(⟨(cN (firstI s)).x, (cN (firstI s)).y, false⟩ : Dom)]) (zs := dsl (o ++ [(⟨(cN (firstI s)).x, (cN (firstI s)).y, false⟩ : Dom)])) (ltN rfl) qC16_un_42 qC16_zi_32 rfl (by decide) (by decide) (by exact dsl_len _) (OpX.tmp 46 (V.b (.a (.sl 46 0 1)))) (src_own (h := 46) (T := 32) (s := 3) (ex := true) (n := 1) (by exact dsl_len _)) (dsl_one' _) (by omega) (by exact (dsl_append _ _).symm) (by (simp; done)))) (by kernel_rfl) ?_
            refine wpc (step_plain rfl (acts_assign (d := 4) (ltN rfl) (OpX.tmp 47 (V.b (.a (.sl 47 0 ((o ++ [(⟨(cN (firstI s)).x, (cN (firstI s)).y, false⟩ : Dom)]).length))))))) (by kernel_rfl) ?_
            refine wpl_nil ?_
            refine wp_region_t ?_
            refine wpc (step_plain rfl (acts_move (d := 48) (ltN rfl) (OpX.tmp 5 (V.v (.int .u64 ((s : Nat) : Int)))))) (by kernel_rfl) ?_
            refine wpc (step_plain rfl (acts_load_owns (d := 49) (t := 7) (h := 7) (off := 0) (o := ⟨32, 3, true, [(.val (.int .i64 ((cN (firstI s)).x)) : A), .val (.int .i64 ((cN (firstI s)).y)), .val (.bool false)]⟩)  (xs := [(.int .i64 ((cN (firstI s)).x) : Value), .int .i64 ((cN (firstI s)).y), .bool false].map A.val) (ltN rfl) qC16_ti_32 rfl (by decide) rfl)) (by kernel_rfl) ?_
            refine wpc (step_plain rfl (acts_call1 (d := 50) (ltN rfl) (impl_Domino__set_fn (⟨(cN (firstI s)).x, (cN (firstI s)).y, false⟩ : Dom) (by omega)) (ArgVs.cons (ArgV.va (vs := [(.int .i64 ((cN (firstI s)).x) : Value), .int .i64 ((cN (firstI s)).y), .bool false]) (OpV.agg 49 [(.int .i64 ((cN (firstI s)).x) : Value), .int .i64 ((cN (firstI s)).y), .bool false])) (ArgVs.nil)) (ResV.val _))) (by kernel_rfl) ?_
            refine wpc (step_plain rfl (acts_bin (d := 51) (ltN rfl) (OpV.tmp 48 (.int .u64 ((s : Nat) : Int))) (OpV.tmp 50 (.int .u64 (((domS (⟨(cN (firstI s)).x, (cN (firstI s)).y, false⟩ : Dom)) : Nat) : Int))) (r_andNot (c := (((andn s (domS (⟨(cN (firstI s)).x, (cN (firstI s)).y, false⟩ : Dom))) : Nat) : Int)) (andnU (m := s) (n := (domS (⟨(cN (firstI s)).x, (cN (firstI s)).y, false⟩ : Dom))) rfl rfl (by omega) (by (first | omega | assumption | exact cntR_reg (by omega) | exact domS_lt (by assumption) | exact andn_lt (by assumption))))))) (by kernel_rfl) ?_
            refine wpc (step_plain rfl (acts_assign (d := 5) (ltN rfl) (OpX.tmp 51 (V.v (.int .u64 (((andn s (domS (⟨(cN (firstI s)).x, (cN (firstI s)).y, false⟩ : Dom))) : Nat) : Int)))))) (by kernel_rfl) ?_
            refine wpl_nil ?_
            exact Exists.intro ((andn s (domS (⟨(cN (firstI s)).x, (cN (firstI s)).y, false⟩ : Dom))), (n - 1), (o ++ [(⟨(cN (firstI s)).x, (cN (firstI s)).y, false⟩ : Dom)])) (And.intro (by exact (hFT.next h0 hpk).2) (And.intro (by show n - 1 < n; have := (hFT.next h0 hpk).1; omega) (weak_of (subst1 [(11, 47)]) [1, 6, 7, 9, 13, 17, 24, 29, 32, 38, 40, 46, 47, 50] (by kernel_rfl) (wk_s (v' := V.b (.a (.sl 47 0 ((o ++ [(⟨(cN (firstI s)).x, (cN (firstI s)).y, false⟩ : Dom)]).length)))) (by kernel_rfl) rfl rfl (wk_s (v' := V.v (.int .u64 (((andn s (domS (⟨(cN (firstI s)).x, (cN (firstI s)).y, false⟩ : Dom))) : Nat) : Int))) (by kernel_rfl) rfl rfl (wk_o (o' := ⟨32, 3, true, pl (dsl (o ++ [(⟨(cN (firstI s)).x, (cN (firstI s)).y, false⟩ : Dom)]))⟩) (by kernel_rfl) (renob_pl (fun h => h)) rfl (wk_f rfl (wk_f rfl (wk_f rfl (wk_f rfl (wk_f rfl (wk_f rfl (wk_f rfl (wk_f rfl (wk_f rfl (wk_f rfl (wk_f rfl (wk_f rfl (wk_f rfl (wk_f rfl (wk_nil)))))))))))))))))))))
      · skip
        have hpk : pick s = ⟨(cN (firstI s)).x, (cN (firstI s)).y, true⟩ := pick_1 c6
        have hkd : okD (⟨(cN (firstI s)).x, (cN (firstI s)).y, true⟩ : Dom) = true := pick_okd hFT h0 hpk
        refine wp_drawn' (by kernel_rfl) (AllSteps.cons (step_plain rfl (acts_load_owns (d := 23) (t := 7) (h := 7) (off := 0) (o := ⟨32, 3, true, [(.val (.int .i64 ((cN (firstI s)).x)) : A), .val (.int .i64 ((cN (firstI s)).y)), .val (.bool false)]⟩)  (xs := [(.int .i64 ((cN (firstI s)).x) : Value), .int .i64 ((cN (firstI s)).y), .bool false].map A.val) (ltN rfl) qC16_ti_32 rfl (by decide) rfl)) (AllSteps.cons (step_plain rfl (acts_call1 (d := 24) (ltN rfl) (impl_DominoOk_fn (⟨(cN (firstI s)).x, (cN (firstI s)).y, false⟩ : Dom) ) (ArgVs.cons (ArgV.va (vs := [(.int .i64 ((cN (firstI s)).x) : Value), .int .i64 ((cN (firstI s)).y), .bool false]) (OpV.agg 23 [(.int .i64 ((cN (firstI s)).x) : Value), .int .i64 ((cN (firstI s)).y), .bool false])) (ArgVs.nil)) ((resval (congrArg Value.bool c6))))) (AllSteps.cons (step_plain rfl (acts_un (d := 25) (ltN rfl) (OpV.tmp 24 (.bool false)) (r_not (c := true) rfl))) (AllSteps.cons (step_plain rfl (acts_move (d := 26) (ltN rfl) (OpX.tmp 25 (V.v (.bool true))))) (AllSteps.cons (step_off (dj := 26) (b' := true) rfl rfl (by decide) rfl (ltN rfl)) (AllSteps.cons (step_off (dj := 26) (b' := true) rfl rfl (by decide) rfl (ltN rfl)) (AllSteps.cons (step_off (dj := 26) (b' := true) rfl rfl (by decide) rfl (ltN rfl)) (AllSteps.cons (step_off (dj := 26) (b' := true) rfl rfl (by decide) rfl (ltN rfl)) (AllSteps.cons (step_off (dj := 26) (b' := true) rfl rfl (by decide) rfl (ltN rfl)) (AllSteps.cons (step_off (dj := 26) (b' := true) rfl rfl (by decide) rfl (ltN rfl)) (AllSteps.cons (step_off (dj := 26) (b' := true) rfl rfl (by decide) rfl (ltN rfl)) (AllSteps.cons (step_plain rfl (acts_pick_t (d := 34) (ltN rfl) (OpV.tmp 26 (.bool true)) (OpX.const (.bool true)))) (AllSteps.cons (step_plain rfl (acts_move (d := 35) (ltN rfl) (OpX.tmp 34 (V.v (.bool true))))) (AllSteps.cons (step_off (dj := 35) (b' := true) rfl rfl (by decide) rfl (ltN rfl)) (AllSteps.cons (step_off (dj := 35) (b' := true) rfl rfl (by decide) rfl (ltN rfl)) (AllSteps.cons (step_off (dj := 35) (b' := true) rfl rfl (by decide) rfl (ltN rfl)) (AllSteps.cons (step_off (dj := 35) (b' := true) rfl rfl (by decide) rfl (ltN rfl)) (AllSteps.cons (step_off (dj := 35) (b' := true) rfl rfl (by decide) rfl (ltN rfl)) (AllSteps.cons (step_off (dj := 35) (b' := true) rfl rfl (by decide) rfl (ltN rfl)) (AllSteps.cons (step_plain rfl (acts_pick_t (d := 42) (ltN rfl) (OpV.tmp 35 (.bool true)) (OpX.const (.bool true)))) (AllSteps.nil))))))))))))))))))))) (by kernel_rfl) (by kernel_rfl) (by kernel_rfl) ?_
        refine wp_if_t (t := 42) (by kernel_rfl) ?_
        refine wp_region_t ?_
        refine wpc (step_plain rfl (acts_field (d := 43) (t := 7) (h := 7) (off := 0) (off' := 2) (ltN rfl) qC16_fo_32_2 rfl)) (by kernel_rfl) ?_
        refine wpc (step_plain rfl (acts_store (t := 43) (h := 7) (off := 2) (o := ⟨32, 3, true, [(.val (.int .i64 ((cN (firstI s)).x)) : A), .val (.int .i64 ((cN (firstI s)).y)), .val (.bool false)]⟩) (b := .a (.val (.bool true))) (cells := [(.val (.int .i64 ((cN (firstI s)).x)) : A), .val (.int .i64 ((cN (firstI s)).y)), .val (.bool true)]) qC16_ti_4 (OpX.const (.bool true)) rfl (by decide) (by intro y hy; simp [B.cs] at hy; subst hy; rfl) (Nat.le_of_ble_eq_true rfl) rfl)) (by kernel_rfl) ?_
        refine wpl_nil ?_
        refine wp_seq' ?_
        refine wp_region_t ?_
        refine wpc (step_plain rfl (acts_move (d := 44) (ltN rfl) (OpX.tmp 4 (V.b (.a (.sl 11 0 o.length)))))) (by kernel_rfl) ?_
        refine wpc (step_plain rfl (acts_load_owns (d := 45) (t := 7) (h := 7) (off := 0) (o := ⟨32, 3, true, [(.val (.int .i64 ((cN (firstI s)).x)) : A), .val (.int .i64 ((cN (firstI s)).y)), .val (.bool true)]⟩)  (xs := [(.int .i64 ((cN (firstI s)).x) : Value), .int .i64 ((cN (firstI s)).y), .bool true].map A.val) (ltN rfl) qC16_ti_32 rfl (by decide) rfl)) (by kernel_rfl) ?_
        refine wpc (step_plain rfl (acts_buildSlice' (d := 46) (h := 46) (n := 1) (s := 3) (xs := dsl ([(⟨(cN (firstI s)).x, (cN (firstI s)).y, true⟩ : Dom)] : List Dom)) (ltN rfl) qC16_un_42 qC16_zi_32 (OpVs.cons (i := 0) (OpV.agg 45 [(.int .i64 ((cN (firstI s)).x) : Value), .int .i64 ((cN (firstI s)).y), .bool true]) (OpVs.nil)) (by decide) (by decide) (by kernel_rfl) rfl)) (by kernel_rfl) ?_
        refine wpc (step_plain rfl (acts_app (d := 47) (x := 44) (h := 11) (h2 := 47) (n := o.length) (m := 1) (nm := ((o ++ [(⟨(cN (firstI s)).x, (cN (firstI s)).y, true⟩ : Dom)]).length)) (X := .sl 46 0 1) (xs := dsl o) (ys := dsl [(⟨(cN (firstI s)).x, (cN (firstI s)).y, true⟩ : Dom)]) (zs := dsl (o ++ [(⟨(cN (firstI s)).x, (cN (firstI s)).y, true⟩ : Dom)])) (ltN rfl) qC16_un_42 qC16_zi_32 rfl (by decide) (by decide) (by exact dsl_len _) (OpX.tmp 46 (V.b (.a (.sl 46 0 1)))) (src_own (h := 46) (T := 32) (s := 3) (ex := true) (n := 1) (by exact dsl_len _)) (dsl_one' _) (by omega) (by exact (dsl_append _ _).symm) (by (simp; done)))) (by kernel_rfl) ?_
        refine wpc (step_plain rfl (acts_assign (d := 4) (ltN rfl) (OpX.tmp 47 (V.b (.a (.sl 47 0 ((o ++ [(⟨(cN (firstI s)).x, (cN (firstI s)).y, true⟩ : Dom)]).length))))))) (by kernel_rfl) ?_
        refine wpl_nil ?_
        refine wp_region_t ?_
        refine wpc (step_plain rfl (acts_move (d := 48) (ltN rfl) (OpX.tmp 5 (V.v (.int .u64 ((s : Nat) : Int)))))) (by kernel_rfl) ?_
        refine wpc (step_plain rfl (acts_load_owns (d := 49) (t := 7) (h := 7) (off := 0) (o := ⟨32, 3, true, [(.val (.int .i64 ((cN (firstI s)).x)) : A), .val (.int .i64 ((cN (firstI s)).y)), .val (.bool true)]⟩)  (xs := [(.int .i64 ((cN (firstI s)).x) : Value), .int .i64 ((cN (firstI s)).y), .bool true].map A.val) (ltN rfl) qC16_ti_32 rfl (by decide) rfl)) (by kernel_rfl) ?_
        refine wpc (step_plain rfl (acts_call1 (d := 50) (ltN rfl) (impl_Domino__set_fn (⟨(cN (firstI s)).x, (cN (firstI s)).y, true⟩ : Dom) (by omega)) (ArgVs.cons (ArgV.va (vs := [(.int .i64 ((cN (firstI s)).x) : Value), .int .i64 ((cN (firstI s)).y), .bool true]) (OpV.agg 49 [(.int .i64 ((cN (firstI s)).x) : Value), .int .i64 ((cN (firstI s)).y), .bool true])) (ArgVs.nil)) (ResV.val _))) (by kernel_rfl) ?_
        refine wpc (step_plain rfl (acts_bin (d := 51) (ltN rfl) (OpV.tmp 48 (.int .u64 ((s : Nat) : Int))) (OpV.tmp 50 (.int .u64 (((domS (⟨(cN (firstI s)).x, (cN (firstI s)).y, true⟩ : Dom)) : Nat) : Int))) (r_andNot (c := (((andn s (domS (⟨(cN (firstI s)).x, (cN (firstI s)).y, true⟩ : Dom))) : Nat) : Int)) (andnU (m := s) (n := (domS (⟨(cN (firstI s)).x, (cN (firstI s)).y, true⟩ : Dom))) rfl rfl (by omega) (by (first | omega | assumption | exact cntR_reg (by omega) | exact domS_lt (by assumption) | exact andn_lt (by assumption))))))) (by kernel_rfl) ?_
        refine wpc (step_plain rfl (acts_assign (d := 5) (ltN rfl) (OpX.tmp 51 (V.v (.int .u64 (((andn s (domS (⟨(cN (firstI s)).x, (cN (firstI s)).y, true⟩ : Dom))) : Nat) : Int)))))) (by kernel_rfl) ?_
        refine wpl_nil ?_
        exact Exists.intro ((andn s (domS (⟨(cN (firstI s)).x, (cN (firstI s)).y, true⟩ : Dom))), (n - 1), (o ++ [(⟨(cN (firstI s)).x, (cN (firstI s)).y, true⟩ : Dom)])) (And.intro (by exact (hFT.next h0 hpk).2) (And.intro (by show n - 1 < n; have := (hFT.next h0 hpk).1; omega) (weak_of (subst1 [(11, 47)]) [1, 6, 7, 9, 13, 17, 24, 29, 32, 38, 40, 46, 47, 50] (by kernel_rfl) (wk_s (v' := V.b (.a (.sl 47 0 ((o ++ [(⟨(cN (firstI s)).x, (cN (firstI s)).y, true⟩ : Dom)]).length)))) (by kernel_rfl) rfl rfl (wk_s (v' := V.v (.int .u64 (((andn s (domS (⟨(cN (firstI s)).x, (cN (firstI s)).y, true⟩ : Dom))) : Nat) : Int))) (by kernel_rfl) rfl rfl (wk_o (o' := ⟨32, 3, true, pl (dsl (o ++ [(⟨(cN (firstI s)).x, (cN (firstI s)).y, true⟩ : Dom)]))⟩) (by kernel_rfl) (renob_pl (fun h => h)) rfl (wk_f rfl (wk_f rfl (wk_f rfl (wk_f rfl (wk_f rfl (wk_f rfl (wk_f rfl (wk_f rfl (wk_f rfl (wk_f rfl (wk_f rfl (wk_f rfl (wk_f rfl (wk_f rfl (wk_nil)))))))))))))))))))))
    · skip
      have c5P := of_decide_eq_false c5
      have h0 : s = 0 := by have := of_decide_eq_false c5; omega
      refine wp_exit' ?_
      refine wp_seq' ?_
      refine wp_region_t ?_
      refine wpc (step_plain rfl (acts_move (d := 52) (ltN rfl) (OpX.tmp 4 (V.b (.a (.sl 11 0 o.length)))))) (by kernel_rfl) ?_
      refine wpc (step_plain rfl (acts_assign (d := 2) (ltN rfl) (OpX.tmp 52 (V.b (.a (.sl 11 0 o.length)))))) (by kernel_rfl) ?_
      refine wpc (step_plain rfl (acts_assign (d := 3) (ltN rfl) (OpX.const (.bool true)))) (by kernel_rfl) ?_
      refine wpl_nil ?_
      refine wp_ret' ?_
      exact ⟨VRes.tmp 2 (.a (.sl 11 0 o.length)) _ (by kernel_rfl) (brow_doms (h := 11) (L := o) (by kernel_rfl) (by exact hFT.done hc0 h0) (by rfl)), VRes.tmp 3 (.a (.val (.bool true))) _ (by kernel_rfl) (bval (congrArg Value.bool (by simp; omega)))⟩

set_option maxHeartbeats 4000000 in
set_option maxRecDepth 100000 in
theorem spec_FirstTiling_fn (l : List Int) (hl : l.length ≤ 4194304) : Fn Try.prog 26 [.agg [(.slv l.length 1 (isl l) : A)]] [.row 32 3 (ftR l).length (dsl (ftR l)), .val (.bool (decide (0 < cntR l)))] := by
  refine fn_intro (N := 55) Try.func26 rfl (by kernel_rfl) rfl (Nat.le_of_ble_eq_true rfl) [1, 5, 6, 7, 8, 9, 10, 12, 17, 20, 30, 35, 41, 47, 52, 53] (ret2 rfl rfl (by intro u hu; injection hu with hu; subst hu; rfl)) (fun W => ?_)
  show Wp _ _ _ [(.s 0, some (.s (V.b (.agg [(.slv l.length 1 (isl l) : A)])))), (.o 1, some .free), (.o 5, some .free), (.o 6, some .free), (.o 7, some .free), (.o 8, some .free), (.o 9, some .free), (.o 10, some .free), (.o 12, some .free), (.o 17, some .free), (.o 20, some .free), (.o 30, some .free), (.o 35, some .free), (.o 41, some .free), (.o 47, some .free), (.o 52, some .free), (.o 53, some .free)]
  refine wp_seq' ?_
  refine wp_region_t ?_
  refine wpc (step_plain rfl (acts_box (d := 1) (h := 1) (b := .agg [(.slv l.length 1 (isl l) : A)]) (ltN rfl) (OpX.tmp 0 (V.b (.agg [(.slv l.length 1 (isl l) : A)]))) (by intro y hy; simp [B.cs] at hy; subst hy; rfl))) (by kernel_rfl) ?_
  refine wpc (step_plain rfl (acts_assign (d := 2) (ltN rfl) (OpX.const (.slice none 0 0)))) (by kernel_rfl) ?_
  refine wpc (step_plain rfl (acts_assign (d := 3) (ltN rfl) (OpX.const (.bool false)))) (by kernel_rfl) ?_
  refine wpl_nil ?_
  refine wp_seq' ?_
  refine wp_region_t ?_
  refine wpc (step_plain rfl (acts_buildSlice0' (d := 10) (h := 10) (s := 3) (ltN rfl) qC16_un_42 qC16_zi_32)) (by kernel_rfl) ?_
  refine wpc (step_plain rfl (acts_assign (d := 4) (ltN rfl) (OpX.tmp 10 (V.b (.a (.sl 10 0 0)))))) (by kernel_rfl) ?_
  refine wpl_nil ?_
  refine wp_seq' ?_
  refine wp_seq' ?_
  refine wp_region_t ?_
  refine wpc (step_plain rfl (acts_load_owns (d := 11) (t := 1) (h := 1) (off := 0) (o := ⟨30, 1, true, [(.slv l.length 1 (isl l) : A)]⟩)  (xs := [(.slv l.length 1 (isl l) : A)]) (ltN rfl) qC16_ti_30 rfl (by decide) rfl)) (by kernel_rfl) ?_
  refine wpc (step_plain rfl (acts_call1 (d := 12) (ltN rfl) (spec_CountTilings_fn l (by omega)) (ArgVs.cons (ArgV.regv 11 l.length 1 (isl l)) (ArgVs.nil)) (ResV.val _))) (by kernel_rfl) ?_
  refine wpc (step_plain rfl (acts_bin (d := 13) (ltN rfl) (OpV.tmp 12 (.int .i64 (((cntR l) : Nat) : Int))) (OpV.const (.int .i64 0)) (r_eql (c := (decide ((((cntR l) : Nat) : Int) = 0))) rfl))) (by kernel_rfl) ?_
  refine wpl_nil ?_
  refine wp_if (t := 13) (decide ((((cntR l) : Nat) : Int) = 0)) (by kernel_rfl) (fun c1 => ?_) (fun c1 => ?_)
  · skip
    have c1P := of_decide_eq_true c1
    have hc0 : cntR l = 0 := by have := of_decide_eq_true c1; omega
    refine wp_seq' ?_
    refine wp_region_t ?_
    refine wpc (step_plain rfl (acts_move (d := 14) (ltN rfl) (OpX.tmp 4 (V.b (.a (.sl 10 0 0)))))) (by kernel_rfl) ?_
    refine wpc (step_plain rfl (acts_assign (d := 2) (ltN rfl) (OpX.tmp 14 (V.b (.a (.sl 10 0 0)))))) (by kernel_rfl) ?_
    refine wpc (step_plain rfl (acts_assign (d := 3) (ltN rfl) (OpX.const (.bool false)))) (by kernel_rfl) ?_
    refine wpl_nil ?_
    refine wp_ret' ?_
    exact ⟨VRes.tmp 2 (.a (.sl 10 0 0)) _ (by kernel_rfl) (brow_doms (h := 10) (L := []) (by kernel_rfl) (by exact (ftR_no hc0).symm) (by rfl)), VRes.tmp 3 (.a (.val (.bool false))) _ (by kernel_rfl) (bval (congrArg Value.bool (by simp; omega)))⟩
  · skip
    have c1P := of_decide_eq_false c1
    have hc0 : ¬ cntR l = 0 := by have := of_decide_eq_false c1; omega
    refine wp_skip' ?_
    refine wp_seq' ?_
    refine wp_region_t ?_
    refine wpc (step_plain rfl (acts_load_owns (d := 15) (t := 1) (h := 1) (off := 0) (o := ⟨30, 1, true, [(.slv l.length 1 (isl l) : A)]⟩)  (xs := [(.slv l.length 1 (isl l) : A)]) (ltN rfl) qC16_ti_30 rfl (by decide) rfl)) (by kernel_rfl) ?_
    refine wpc (step_plain rfl (acts_alloc' (d := 5) (h := 5) (cap := 1) (s := 1) (cells := [(.val (.slice none 0 0) : A)]) (ltN rfl) qC16_zi_30 rfl rfl (by decide))) (by kernel_rfl) ?_
    refine wpc (step_plain rfl (acts_store (t := 5) (h := 5) (off := 0) (o := ⟨30, 1, true, [(.val (.slice none 0 0) : A)]⟩) (b := .agg [(.slv l.length 1 (isl l) : A)]) (cells := [(.slv l.length 1 (isl l) : A)]) qC16_ti_30 (OpX.tmp 15 (V.b (.agg [(.slv l.length 1 (isl l) : A)]))) rfl (by decide) (by intro y hy; simp [B.cs] at hy; subst hy; rfl) (Nat.le_of_ble_eq_true rfl) rfl)) (by kernel_rfl) ?_
    refine wpl_nil ?_
    refine wp_seq' ?_
    refine wp_block' ?_
    refine wp_loop' (fun (x : (List Int) × (List Dom) × Nat) => match x with | (R, o, n) => FR l R o n) (fun (x : (List Int) × (List Dom) × Nat) => match x with | (R, o, n) => [(.s 4, some (.s (V.b (.a (.sl 10 0 o.length))))), (.s 5, some (.s (V.p 5 0))), (.o 5, some (.o ⟨30, 1, true, [(.slv R.length 1 (isl R) : A)]⟩)), (.o 10, some (.o ⟨32, 3, true, pl (dsl o)⟩)), (.o 1, some .free), (.o 6, some .free), (.o 7, some .free), (.o 8, some .free), (.o 9, some .free), (.o 12, some .free), (.o 17, some .free), (.o 20, some .free), (.o 30, some .free), (.o 35, some .free), (.o 41, some .free), (.o 47, some .free), (.o 52, some .free), (.o 53, some .free)]) (fun (x : (List Int) × (List Dom) × Nat) => match x with | (R, o, n) => n) ((l : List Int), ([] : List Dom), (33 : Nat)) (by exact FR.zero hc0) (weak_of id [1, 6, 7, 8, 9, 12, 17, 20, 30, 35, 41, 47, 52, 53] (by kernel_rfl) (wk_s (v' := V.b (.a (.sl 10 0 0))) (by kernel_rfl) (vsl (by rfl) rfl) rfl (wk_s (v' := V.p 5 0) (by kernel_rfl) rfl rfl (wk_o (o' := ⟨30, 1, true, [(.slv l.length 1 (isl l) : A)]⟩) (by kernel_rfl) (renob_l (fun h => h) rfl rfl) rfl (wk_o (o' := ⟨32, 3, true, pl (dsl [])⟩) (by kernel_rfl) (renob_pl (fun h => h)) rfl (wk_f rfl (wk_f rfl (wk_f rfl (wk_f rfl (wk_f rfl (wk_f rfl (wk_f rfl (wk_f rfl (wk_f rfl (wk_f rfl (wk_f rfl (wk_f rfl (wk_f rfl (wk_f rfl (wk_nil)))))))))))))))))))) ?_
    rintro ⟨R, o, n⟩ inv2
    replace inv2 : FR l R o n := inv2
    have hFR := inv2
    show Wp _ _ _ [(.s 4, some (.s (V.b (.a (.sl 10 0 o.length))))), (.s 5, some (.s (V.p 5 0))), (.o 5, some (.o ⟨30, 1, true, [(.slv R.length 1 (isl R) : A)]⟩)), (.o 10, some (.o ⟨32, 3, true, pl (dsl o)⟩)), (.o 1, some .free), (.o 6, some .free), (.o 7, some .free), (.o 8, some .free), (.o 9, some .free), (.o 12, some .free), (.o 17, some .free), (.o 20, some .free), (.o 30, some .free), (.o 35, some .free), (.o 41, some .free), (.o 47, some .free), (.o 52, some .free), (.o 53, some .free)]
    have hln := hFR.len
    refine wp_seq' ?_
    refine wp_seq' ?_
    refine wp_region_t ?_
    refine wpc (step_plain rfl (acts_load_owns (d := 16) (t := 5) (h := 5) (off := 0) (o := ⟨30, 1, true, [(.slv R.length 1 (isl R) : A)]⟩)  (xs := [(.slv R.length 1 (isl R) : A)]) (ltN rfl) qC16_ti_30 rfl (by decide) rfl)) (by kernel_rfl) ?_
    refine wpc (step_plain rfl (acts_call1 (d := 17) (ltN rfl) (spec_CountCells_fn R (by omega)) (ArgVs.cons (ArgV.regv 16 R.length 1 (isl R)) (ArgVs.nil)) (ResV.val _))) (by kernel_rfl) ?_
    refine wpc (step_plain rfl (acts_bin (d := 18) (ltN rfl) (OpV.tmp 17 (.int .i64 (((cellsOf R).length : Nat) : Int))) (OpV.const (.int .i64 0)) (r_gtr (c := (decide (0 < (((cellsOf R).length : Nat) : Int)))) rfl))) (by kernel_rfl) ?_
    refine wpl_nil ?_
    refine wp_if (t := 18) (decide (0 < (((cellsOf R).length : Nat) : Int))) (by kernel_rfl) (fun c3 => ?_) (fun c3 => ?_)
    · skip
      have c3P := of_decide_eq_true c3
      have h0 : regSet R ≠ 0 := hFR.more (of_decide_eq_true c3)
      have hcf := cells_first hFR.ok h0
      refine wp_skip' ?_
      refine wp_block' ?_
      refine wp_seq' ?_
      refine wp_region_t ?_
      refine wpc (step_plain rfl (acts_load_owns (d := 19) (t := 5) (h := 5) (off := 0) (o := ⟨30, 1, true, [(.slv R.length 1 (isl R) : A)]⟩)  (xs := [(.slv R.length 1 (isl R) : A)]) (ltN rfl) qC16_ti_30 rfl (by decide) rfl)) (by kernel_rfl) ?_
      refine wpc (step_plain rfl (acts_call1 (d := 20) (ltN rfl) (spec_CellsOf_fn R (by omega)) (ArgVs.cons (ArgV.regv 19 R.length 1 (isl R)) (ArgVs.nil)) (ResV.row 39 2 ((cellsOf R).length) (csl (cellsOf R)) 20))) (by kernel_rfl) ?_
      refine wpc (step_plain rfl (acts_index_sl (d := 21) (x := 20) (h := 20) (off := 0) (n := ((cellsOf R).length)) (k := 0) (off' := (0 * 2)) (o := ⟨39, 2, true, pl (csl (cellsOf R))⟩) (ltN rfl) qC16_un_71 qC16_sz_39 (OpV.const (.int .i64 0)) rfl (by omega) (by (simp; done)))) (by kernel_rfl) ?_
      refine wpc (step_plain rfl (acts_load_owns (d := 22) (t := 21) (h := 20) (off := (0 * 2)) (o := ⟨39, 2, true, pl (csl (cellsOf R))⟩)  (xs := [(.int .i64 ((gC (cellsOf R) 0).x) : Value), .int .i64 ((gC (cellsOf R) 0).y)].map A.val) (ltN rfl) qC16_ti_39 rfl (by decide) (pl_at (csl_at (k := 0) (by omega))))) (by kernel_rfl) ?_
      refine wpc (step_plain rfl (acts_alloc' (d := 6) (h := 6) (cap := 1) (s := 2) (cells := [(.val (.int .i64 0) : A), .val (.int .i64 0)]) (ltN rfl) qC16_zi_39 rfl rfl (by decide))) (by kernel_rfl) ?_
      refine wpc (step_plain rfl (acts_store (t := 6) (h := 6) (off := 0) (o := ⟨39, 2, true, [(.val (.int .i64 0) : A), .val (.int .i64 0)]⟩) (b := .agg ([(.int .i64 ((gC (cellsOf R) 0).x) : Value), .int .i64 ((gC (cellsOf R) 0).y)].map A.val)) (cells := [(.val (.int .i64 ((gC (cellsOf R) 0).x)) : A), .val (.int .i64 ((gC (cellsOf R) 0).y))]) qC16_ti_39 (OpX.tmp 22 (V.av [(.int .i64 ((gC (cellsOf R) 0).x) : Value), .int .i64 ((gC (cellsOf R) 0).y)])) rfl (by decide) (by intro y hy; simp [B.cs] at hy; rcases hy with rfl | rfl <;> rfl) (Nat.le_of_ble_eq_true rfl) rfl)) (by kernel_rfl) ?_
      refine wpl_nil ?_
      refine wp_seq' ?_
      refine wp_region_t ?_
      refine wpc (step_plain rfl (acts_field (d := 23) (t := 6) (h := 6) (off := 0) (off' := 0) (ltN rfl) qC16_fo_39_0 rfl)) (by kernel_rfl) ?_
      refine wpc (step_plain rfl (acts_load_own (d := 24) (t := 23) (h := 6) (off := 0) (o := ⟨39, 2, true, [(.val (.int .i64 ((gC (cellsOf R) 0).x)) : A), .val (.int .i64 ((gC (cellsOf R) 0).y))]⟩)  (x := .val (.int .i64 ((gC (cellsOf R) 0).x))) (ltN rfl) qC16_ti_3 rfl)) (by kernel_rfl) ?_
      refine wpc (step_plain rfl (acts_field (d := 25) (t := 6) (h := 6) (off := 0) (off' := 1) (ltN rfl) qC16_fo_39_1 rfl)) (by kernel_rfl) ?_
      refine wpc (step_plain rfl (acts_load_own (d := 26) (t := 25) (h := 6) (off := 1) (o := ⟨39, 2, true, [(.val (.int .i64 ((gC (cellsOf R) 0).x)) : A), .val (.int .i64 ((gC (cellsOf R) 0).y))]⟩)  (x := .val (.int .i64 ((gC (cellsOf R) 0).y))) (ltN rfl) qC16_ti_3 rfl)) (by kernel_rfl) ?_
      refine wpc (step_plain rfl (acts_build (d := 27) (t := 32) (cells := [(.int .i64 ((gC (cellsOf R) 0).x) : Value), .int .i64 ((gC (cellsOf R) 0).y), .bool false]) (ltN rfl) (OpVs.cons (i := 0) (OpV.tmp 24 (.int .i64 ((gC (cellsOf R) 0).x))) (OpVs.cons (i := 1) (OpV.tmp 26 (.int .i64 ((gC (cellsOf R) 0).y))) (OpVs.nil))) rfl)) (by kernel_rfl) ?_
      refine wpc (step_plain rfl (acts_alloc' (d := 7) (h := 7) (cap := 1) (s := 3) (cells := [(.val (.int .i64 0) : A), .val (.int .i64 0), .val (.bool false)]) (ltN rfl) qC16_zi_32 rfl rfl (by decide))) (by kernel_rfl) ?_
      refine wpc (step_plain rfl (acts_store (t := 7) (h := 7) (off := 0) (o := ⟨32, 3, true, [(.val (.int .i64 0) : A), .val (.int .i64 0), .val (.bool false)]⟩) (b := .agg ([(.int .i64 ((gC (cellsOf R) 0).x) : Value), .int .i64 ((gC (cellsOf R) 0).y), .bool false].map A.val)) (cells := [(.val (.int .i64 ((gC (cellsOf R) 0).x)) : A), .val (.int .i64 ((gC (cellsOf R) 0).y)), .val (.bool false)]) qC16_ti_32 (OpX.tmp 27 (V.av [(.int .i64 ((gC (cellsOf R) 0).x) : Value), .int .i64 ((gC (cellsOf R) 0).y), .bool false])) rfl (by decide) (by intro y hy; simp [B.cs] at hy; rcases hy with rfl | rfl | rfl <;> rfl) (Nat.le_of_ble_eq_true rfl) rfl)) (by kernel_rfl) ?_
      refine wpl_nil ?_
      refine wp_seq' ?_
      refine wp_seq' ?_
      refine wp_region_t ?_
      refine wpc (step_plain rfl (acts_load_owns (d := 28) (t := 5) (h := 5) (off := 0) (o := ⟨30, 1, true, [(.slv R.length 1 (isl R) : A)]⟩)  (xs := [(.slv R.length 1 (isl R) : A)]) (ltN rfl) qC16_ti_30 rfl (by decide) rfl)) (by kernel_rfl) ?_
      refine wpc (step_plain rfl (acts_load_owns (d := 29) (t := 7) (h := 7) (off := 0) (o := ⟨32, 3, true, [(.val (.int .i64 ((gC (cellsOf R) 0).x)) : A), .val (.int .i64 ((gC (cellsOf R) 0).y)), .val (.bool false)]⟩)  (xs := [(.int .i64 ((gC (cellsOf R) 0).x) : Value), .int .i64 ((gC (cellsOf R) 0).y), .bool false].map A.val) (ltN rfl) qC16_ti_32 rfl (by decide) rfl)) (by kernel_rfl) ?_
      refine wpc (step_plain rfl (acts_call1 (d := 30) (ltN rfl) (spec_CountWith_fn R (⟨(gC (cellsOf R) 0).x, (gC (cellsOf R) 0).y, false⟩ : Dom) (by omega)) (ArgVs.cons (ArgV.regv 28 R.length 1 (isl R)) (ArgVs.cons (ArgV.va (vs := [(.int .i64 ((gC (cellsOf R) 0).x) : Value), .int .i64 ((gC (cellsOf R) 0).y), .bool false]) (OpV.agg 29 [(.int .i64 ((gC (cellsOf R) 0).x) : Value), .int .i64 ((gC (cellsOf R) 0).y), .bool false])) (ArgVs.nil))) (ResV.val _))) (by kernel_rfl) ?_
      refine wpc (step_plain rfl (acts_bin (d := 31) (ltN rfl) (OpV.tmp 30 (.int .i64 (((cntW R (⟨(gC (cellsOf R) 0).x, (gC (cellsOf R) 0).y, false⟩ : Dom)) : Nat) : Int))) (OpV.const (.int .i64 0)) (r_eql (c := (decide ((((cntW R (⟨(gC (cellsOf R) 0).x, (gC (cellsOf R) 0).y, false⟩ : Dom)) : Nat) : Int) = 0))) rfl))) (by kernel_rfl) ?_
      refine wpl_nil ?_
      refine wp_if (t := 31) (decide ((((cntW R (⟨(gC (cellsOf R) 0).x, (gC (cellsOf R) 0).y, false⟩ : Dom)) : Nat) : Int) = 0)) (by kernel_rfl) (fun c4 => ?_) (fun c4 => ?_)
      · skip
        have c4P := of_decide_eq_true c4
        have hpk : pick (regSet R) = (⟨(gC (cellsOf R) 0).x, (gC (cellsOf R) 0).y, true⟩ : Dom) := by
          have q := of_decide_eq_true c4
          rw [hcf.1] at q ⊢
          exact cw_pick1 q hFR.ok
        have hkd := pick_okd hFR.ft h0 hpk
        refine wp_region_t ?_
        refine wpc (step_plain rfl (acts_field (d := 32) (t := 7) (h := 7) (off := 0) (off' := 2) (ltN rfl) qC16_fo_32_2 rfl)) (by kernel_rfl) ?_
        refine wpc (step_plain rfl (acts_store (t := 32) (h := 7) (off := 2) (o := ⟨32, 3, true, [(.val (.int .i64 ((gC (cellsOf R) 0).x)) : A), .val (.int .i64 ((gC (cellsOf R) 0).y)), .val (.bool false)]⟩) (b := .a (.val (.bool true))) (cells := [(.val (.int .i64 ((gC (cellsOf R) 0).x)) : A), .val (.int .i64 ((gC (cellsOf R) 0).y)), .val (.bool true)]) qC16_ti_4 (OpX.const (.bool true)) rfl (by decide) (by intro y hy; simp [B.cs] at hy; subst hy; rfl) (Nat.le_of_ble_eq_true rfl) rfl)) (by kernel_rfl) ?_
        refine wpl_nil ?_
        refine wp_seq' ?_
        refine wp_region_t ?_
        refine wpc (step_plain rfl (acts_load_owns (d := 34) (t := 7) (h := 7) (off := 0) (o := ⟨32, 3, true, [(.val (.int .i64 ((gC (cellsOf R) 0).x)) : A), .val (.int .i64 ((gC (cellsOf R) 0).y)), .val (.bool true)]⟩)  (xs := [(.int .i64 ((gC (cellsOf R) 0).x) : Value), .int .i64 ((gC (cellsOf R) 0).y), .bool true].map A.val) (ltN rfl) qC16_ti_32 rfl (by decide) rfl)) (by kernel_rfl) ?_
        refine wpc (step_plain rfl (acts_call2 (d := 35) (ltN rfl) (spec_CellsUnder_fn (⟨(gC (cellsOf R) 0).x, (gC (cellsOf R) 0).y, true⟩ : Dom) (by omega)) (ArgVs.cons (ArgV.va (vs := [(.int .i64 ((gC (cellsOf R) 0).x) : Value), .int .i64 ((gC (cellsOf R) 0).y), .bool true]) (OpV.agg 34 [(.int .i64 ((gC (cellsOf R) 0).x) : Value), .int .i64 ((gC (cellsOf R) 0).y), .bool true])) (ArgVs.nil)) (ResV.agg [(.int .i64 ((ca (⟨(gC (cellsOf R) 0).x, (gC (cellsOf R) 0).y, true⟩ : Dom)).x) : Value), .int .i64 ((ca (⟨(gC (cellsOf R) 0).x, (gC (cellsOf R) 0).y, true⟩ : Dom)).y)]) (ResV.agg [(.int .i64 ((cb (⟨(gC (cellsOf R) 0).x, (gC (cellsOf R) 0).y, true⟩ : Dom)).x) : Value), .int .i64 ((cb (⟨(gC (cellsOf R) 0).x, (gC (cellsOf R) 0).y, true⟩ : Dom)).y)]))) (by kernel_rfl) ?_
        refine wpc (step_plain rfl (acts_move (d := 33) (ltN rfl) (OpX.tmp 35 (V.tup [.agg ([(.int .i64 ((ca (⟨(gC (cellsOf R) 0).x, (gC (cellsOf R) 0).y, true⟩ : Dom)).x) : Value), .int .i64 ((ca (⟨(gC (cellsOf R) 0).x, (gC (cellsOf R) 0).y, true⟩ : Dom)).y)].map A.val), .agg ([(.int .i64 ((cb (⟨(gC (cellsOf R) 0).x, (gC (cellsOf R) 0).y, true⟩ : Dom)).x) : Value), .int .i64 ((cb (⟨(gC (cellsOf R) 0).x, (gC (cellsOf R) 0).y, true⟩ : Dom)).y)].map A.val)])))) (by kernel_rfl) ?_
        refine wpc (step_plain rfl (acts_extract (d := 36) (t := 33) (ix := 0) (xs := [.agg ([(.int .i64 ((ca (⟨(gC (cellsOf R) 0).x, (gC (cellsOf R) 0).y, true⟩ : Dom)).x) : Value), .int .i64 ((ca (⟨(gC (cellsOf R) 0).x, (gC (cellsOf R) 0).y, true⟩ : Dom)).y)].map A.val), .agg ([(.int .i64 ((cb (⟨(gC (cellsOf R) 0).x, (gC (cellsOf R) 0).y, true⟩ : Dom)).x) : Value), .int .i64 ((cb (⟨(gC (cellsOf R) 0).x, (gC (cellsOf R) 0).y, true⟩ : Dom)).y)].map A.val)]) (X := .agg ([(.int .i64 ((ca (⟨(gC (cellsOf R) 0).x, (gC (cellsOf R) 0).y, true⟩ : Dom)).x) : Value), .int .i64 ((ca (⟨(gC (cellsOf R) 0).x, (gC (cellsOf R) 0).y, true⟩ : Dom)).y)].map A.val)) (ltN rfl) rfl)) (by kernel_rfl) ?_
        refine wpc (step_plain rfl (acts_extract (d := 37) (t := 33) (ix := 1) (xs := [.agg ([(.int .i64 ((ca (⟨(gC (cellsOf R) 0).x, (gC (cellsOf R) 0).y, true⟩ : Dom)).x) : Value), .int .i64 ((ca (⟨(gC (cellsOf R) 0).x, (gC (cellsOf R) 0).y, true⟩ : Dom)).y)].map A.val), .agg ([(.int .i64 ((cb (⟨(gC (cellsOf R) 0).x, (gC (cellsOf R) 0).y, true⟩ : Dom)).x) : Value), .int .i64 ((cb (⟨(gC (cellsOf R) 0).x, (gC (cellsOf R) 0).y, true⟩ : Dom)).y)].map A.val)]) (X := .agg ([(.int .i64 ((cb (⟨(gC (cellsOf R) 0).x, (gC (cellsOf R) 0).y, true⟩ : Dom)).x) : Value), .int .i64 ((cb (⟨(gC (cellsOf R) 0).x, (gC (cellsOf R) 0).y, true⟩ : Dom)).y)].map A.val)) (ltN rfl) rfl)) (by kernel_rfl) ?_
        refine wpc (step_plain rfl (acts_alloc' (d := 8) (h := 8) (cap := 1) (s := 2) (cells := [(.val (.int .i64 0) : A), .val (.int .i64 0)]) (ltN rfl) qC16_zi_39 rfl rfl (by decide))) (by kernel_rfl) ?_
        refine wpc (step_plain rfl (acts_alloc' (d := 9) (h := 9) (cap := 1) (s := 2) (cells := [(.val (.int .i64 0) : A), .val (.int .i64 0)]) (ltN rfl) qC16_zi_39 rfl rfl (by decide))) (by kernel_rfl) ?_
        refine wpc (step_plain rfl (acts_store (t := 8) (h := 8) (off := 0) (o := ⟨39, 2, true, [(.val (.int .i64 0) : A), .val (.int .i64 0)]⟩) (b := .agg ([(.int .i64 ((ca (⟨(gC (cellsOf R) 0).x, (gC (cellsOf R) 0).y, true⟩ : Dom)).x) : Value), .int .i64 ((ca (⟨(gC (cellsOf R) 0).x, (gC (cellsOf R) 0).y, true⟩ : Dom)).y)].map A.val)) (cells := [(.val (.int .i64 ((ca (⟨(gC (cellsOf R) 0).x, (gC (cellsOf R) 0).y, true⟩ : Dom)).x)) : A), .val (.int .i64 ((ca (⟨(gC (cellsOf R) 0).x, (gC (cellsOf R) 0).y, true⟩ : Dom)).y))]) qC16_ti_39 (OpX.tmp 36 (V.av [(.int .i64 ((ca (⟨(gC (cellsOf R) 0).x, (gC (cellsOf R) 0).y, true⟩ : Dom)).x) : Value), .int .i64 ((ca (⟨(gC (cellsOf R) 0).x, (gC (cellsOf R) 0).y, true⟩ : Dom)).y)])) rfl (by decide) (by intro y hy; simp [B.cs] at hy; rcases hy with rfl | rfl <;> rfl) (Nat.le_of_ble_eq_true rfl) rfl)) (by kernel_rfl) ?_
        refine wpc (step_plain rfl (acts_store (t := 9) (h := 9) (off := 0) (o := ⟨39, 2, true, [(.val (.int .i64 0) : A), .val (.int .i64 0)]⟩) (b := .agg ([(.int .i64 ((cb (⟨(gC (cellsOf R) 0).x, (gC (cellsOf R) 0).y, true⟩ : Dom)).x) : Value), .int .i64 ((cb (⟨(gC (cellsOf R) 0).x, (gC (cellsOf R) 0).y, true⟩ : Dom)).y)].map A.val)) (cells := [(.val (.int .i64 ((cb (⟨(gC (cellsOf R) 0).x, (gC (cellsOf R) 0).y, true⟩ : Dom)).x)) : A), .val (.int .i64 ((cb (⟨(gC (cellsOf R) 0).x, (gC (cellsOf R) 0).y, true⟩ : Dom)).y))]) qC16_ti_39 (OpX.tmp 37 (V.av [(.int .i64 ((cb (⟨(gC (cellsOf R) 0).x, (gC (cellsOf R) 0).y, true⟩ : Dom)).x) : Value), .int .i64 ((cb (⟨(gC (cellsOf R) 0).x, (gC (cellsOf R) 0).y, true⟩ : Dom)).y)])) rfl (by decide) (by intro y hy; simp [B.cs] at hy; rcases hy with rfl | rfl <;> rfl) (Nat.le_of_ble_eq_true rfl) rfl)) (by kernel_rfl) ?_
        refine wpl_nil ?_
        refine wp_seq' ?_
        refine wp_region_t ?_
        refine wpc (step_plain rfl (acts_load_owns (d := 39) (t := 5) (h := 5) (off := 0) (o := ⟨30, 1, true, [(.slv R.length 1 (isl R) : A)]⟩)  (xs := [(.slv R.length 1 (isl R) : A)]) (ltN rfl) qC16_ti_30 rfl (by decide) rfl)) (by kernel_rfl) ?_
        refine wpc (step_plain rfl (acts_load_owns (d := 40) (t := 8) (h := 8) (off := 0) (o := ⟨39, 2, true, [(.val (.int .i64 ((ca (⟨(gC (cellsOf R) 0).x, (gC (cellsOf R) 0).y, true⟩ : Dom)).x)) : A), .val (.int .i64 ((ca (⟨(gC (cellsOf R) 0).x, (gC (cellsOf R) 0).y, true⟩ : Dom)).y))]⟩)  (xs := [(.int .i64 ((ca (⟨(gC (cellsOf R) 0).x, (gC (cellsOf R) 0).y, true⟩ : Dom)).x) : Value), .int .i64 ((ca (⟨(gC (cellsOf R) 0).x, (gC (cellsOf R) 0).y, true⟩ : Dom)).y)].map A.val) (ltN rfl) qC16_ti_39 rfl (by decide) rfl)) (by kernel_rfl) ?_
        refine wpc (step_plain rfl (acts_call2 (d := 41) (ltN rfl) (spec_WithCell_fn R (ca (⟨(gC (cellsOf R) 0).x, (gC (cellsOf R) 0).y, true⟩ : Dom)) (by exact hFR.ok) (by exact ok_ca (by assumption))) (ArgVs.cons (ArgV.regv 39 R.length 1 (isl R)) (ArgVs.cons (ArgV.va (vs := [(.int .i64 ((ca (⟨(gC (cellsOf R) 0).x, (gC (cellsOf R) 0).y, true⟩ : Dom)).x) : Value), .int .i64 ((ca (⟨(gC (cellsOf R) 0).x, (gC (cellsOf R) 0).y, true⟩ : Dom)).y)]) (OpV.agg 40 [(.int .i64 ((ca (⟨(gC (cellsOf R) 0).x, (gC (cellsOf R) 0).y, true⟩ : Dom)).x) : Value), .int .i64 ((ca (⟨(gC (cellsOf R) 0).x, (gC (cellsOf R) 0).y, true⟩ : Dom)).y)])) (ArgVs.cons (ArgV.v (OpV.const (.bool false))) (ArgVs.nil)))) (ResV.reg 3 1 ((delL R (ca (⟨(gC (cellsOf R) 0).x, (gC (cellsOf R) 0).y, true⟩ : Dom))).length) (isl (delL R (ca (⟨(gC (cellsOf R) 0).x, (gC (cellsOf R) 0).y, true⟩ : Dom)))) 41) (ResV.val _))) (by kernel_rfl) ?_
        refine wpc (step_plain rfl (acts_move (d := 38) (ltN rfl) (OpX.tmp 41 (V.tup [.agg [(.sl 41 0 ((delL R (ca (⟨(gC (cellsOf R) 0).x, (gC (cellsOf R) 0).y, true⟩ : Dom))).length) : A)], .a (.val (.bool true))])))) (by kernel_rfl) ?_
        refine wpc (step_plain rfl (acts_extract (d := 42) (t := 38) (ix := 0) (xs := [.agg [(.sl 41 0 ((delL R (ca (⟨(gC (cellsOf R) 0).x, (gC (cellsOf R) 0).y, true⟩ : Dom))).length) : A)], .a (.val (.bool true))]) (X := .agg [(.sl 41 0 ((delL R (ca (⟨(gC (cellsOf R) 0).x, (gC (cellsOf R) 0).y, true⟩ : Dom))).length) : A)]) (ltN rfl) rfl)) (by kernel_rfl) ?_
        refine wpc (step_plain rfl (acts_extract (d := 43) (t := 38) (ix := 1) (xs := [.agg [(.sl 41 0 ((delL R (ca (⟨(gC (cellsOf R) 0).x, (gC (cellsOf R) 0).y, true⟩ : Dom))).length) : A)], .a (.val (.bool true))]) (X := .a (.val (.bool true))) (ltN rfl) rfl)) (by kernel_rfl) ?_
        refine wpc (step_plain rfl (acts_store (t := 5) (h := 5) (off := 0) (o := ⟨30, 1, true, [(.slv R.length 1 (isl R) : A)]⟩) (b := .agg [(.sl 41 0 ((delL R (ca (⟨(gC (cellsOf R) 0).x, (gC (cellsOf R) 0).y, true⟩ : Dom))).length) : A)]) (cells := [(.sl 41 0 ((delL R (ca (⟨(gC (cellsOf R) 0).x, (gC (cellsOf R) 0).y, true⟩ : Dom))).length) : A)]) qC16_ti_30 (OpX.tmp 42 (V.b (.agg [(.sl 41 0 ((delL R (ca (⟨(gC (cellsOf R) 0).x, (gC (cellsOf R) 0).y, true⟩ : Dom))).length) : A)]))) rfl (by decide) (by intro y hy; simp [B.cs] at hy; subst hy; rfl) (Nat.le_of_ble_eq_true rfl) rfl)) (by kernel_rfl) ?_
        refine wpl_nil ?_
        refine wp_seq' ?_
        refine wp_weak (weak_freeze_osl (j := 5) (To := 30) (so := 1) (exo := true) (h := 41) (T := 3) (s := 1) (ex := true) (off := 0) (n := ((delL R (ca (⟨(gC (cellsOf R) 0).x, (gC (cellsOf R) 0).y, true⟩ : Dom))).length)) (xs := isl (delL R (ca (⟨(gC (cellsOf R) 0).x, (gC (cellsOf R) 0).y, true⟩ : Dom)))) (ys := isl (delL R (ca (⟨(gC (cellsOf R) 0).x, (gC (cellsOf R) 0).y, true⟩ : Dom)))) rfl (by kernel_rfl) (by kernel_rfl) (by simp only [isl_len]; first | omega | (simp; done) | (first | omega | assumption | exact hFR.ok | exact ok_ca (by assumption) | exact ok_cb (by assumption) | exact delL_ok hFR.ok (ok_ca (by assumption)) | (have := (regOk_true (delL_ok hFR.ok (ok_ca (by assumption)))).1; omega))) (by decide) ((by simp only [Nat.zero_mul, List.drop_zero]; exact List.take_of_length_le (by rw [isl_len]; simp)))) ?_
        refine wp_region_t ?_
        refine wpc (step_plain rfl (acts_load_owns (d := 45) (t := 5) (h := 5) (off := 0) (o := ⟨30, 1, true, [(.slv ((delL R (ca (⟨(gC (cellsOf R) 0).x, (gC (cellsOf R) 0).y, true⟩ : Dom))).length) 1 (isl (delL R (ca (⟨(gC (cellsOf R) 0).x, (gC (cellsOf R) 0).y, true⟩ : Dom)))) : A)]⟩)  (xs := [(.slv ((delL R (ca (⟨(gC (cellsOf R) 0).x, (gC (cellsOf R) 0).y, true⟩ : Dom))).length) 1 (isl (delL R (ca (⟨(gC (cellsOf R) 0).x, (gC (cellsOf R) 0).y, true⟩ : Dom)))) : A)]) (ltN rfl) qC16_ti_30 rfl (by decide) rfl)) (by kernel_rfl) ?_
        refine wpc (step_plain rfl (acts_load_owns (d := 46) (t := 9) (h := 9) (off := 0) (o := ⟨39, 2, true, [(.val (.int .i64 ((cb (⟨(gC (cellsOf R) 0).x, (gC (cellsOf R) 0).y, true⟩ : Dom)).x)) : A), .val (.int .i64 ((cb (⟨(gC (cellsOf R) 0).x, (gC (cellsOf R) 0).y, true⟩ : Dom)).y))]⟩)  (xs := [(.int .i64 ((cb (⟨(gC (cellsOf R) 0).x, (gC (cellsOf R) 0).y, true⟩ : Dom)).x) : Value), .int .i64 ((cb (⟨(gC (cellsOf R) 0).x, (gC (cellsOf R) 0).y, true⟩ : Dom)).y)].map A.val) (ltN rfl) qC16_ti_39 rfl (by decide) rfl)) (by kernel_rfl) ?_
        refine wpc (step_plain rfl (acts_call2 (d := 47) (ltN rfl) (spec_WithCell_fn (delL R (ca (⟨(gC (cellsOf R) 0).x, (gC (cellsOf R) 0).y, true⟩ : Dom))) (cb (⟨(gC (cellsOf R) 0).x, (gC (cellsOf R) 0).y, true⟩ : Dom)) (by exact delL_ok hFR.ok (ok_ca (by assumption))) (by exact ok_cb (by assumption))) (ArgVs.cons (ArgV.regv 45 ((delL R (ca (⟨(gC (cellsOf R) 0).x, (gC (cellsOf R) 0).y, true⟩ : Dom))).length) 1 (isl (delL R (ca (⟨(gC (cellsOf R) 0).x, (gC (cellsOf R) 0).y, true⟩ : Dom))))) (ArgVs.cons (ArgV.va (vs := [(.int .i64 ((cb (⟨(gC (cellsOf R) 0).x, (gC (cellsOf R) 0).y, true⟩ : Dom)).x) : Value), .int .i64 ((cb (⟨(gC (cellsOf R) 0).x, (gC (cellsOf R) 0).y, true⟩ : Dom)).y)]) (OpV.agg 46 [(.int .i64 ((cb (⟨(gC (cellsOf R) 0).x, (gC (cellsOf R) 0).y, true⟩ : Dom)).x) : Value), .int .i64 ((cb (⟨(gC (cellsOf R) 0).x, (gC (cellsOf R) 0).y, true⟩ : Dom)).y)])) (ArgVs.cons (ArgV.v (OpV.const (.bool false))) (ArgVs.nil)))) (ResV.reg 3 1 ((delL (delL R (ca (⟨(gC (cellsOf R) 0).x, (gC (cellsOf R) 0).y, true⟩ : Dom))) (cb (⟨(gC (cellsOf R) 0).x, (gC (cellsOf R) 0).y, true⟩ : Dom))).length) (isl (delL (delL R (ca (⟨(gC (cellsOf R) 0).x, (gC (cellsOf R) 0).y, true⟩ : Dom))) (cb (⟨(gC (cellsOf R) 0).x, (gC (cellsOf R) 0).y, true⟩ : Dom)))) 47) (ResV.val _))) (by kernel_rfl) ?_
        refine wpc (step_plain rfl (acts_move (d := 44) (ltN rfl) (OpX.tmp 47 (V.tup [.agg [(.sl 47 0 ((delL (delL R (ca (⟨(gC (cellsOf R) 0).x, (gC (cellsOf R) 0).y, true⟩ : Dom))) (cb (⟨(gC (cellsOf R) 0).x, (gC (cellsOf R) 0).y, true⟩ : Dom))).length) : A)], .a (.val (.bool true))])))) (by kernel_rfl) ?_
        refine wpc (step_plain rfl (acts_extract (d := 48) (t := 44) (ix := 0) (xs := [.agg [(.sl 47 0 ((delL (delL R (ca (⟨(gC (cellsOf R) 0).x, (gC (cellsOf R) 0).y, true⟩ : Dom))) (cb (⟨(gC (cellsOf R) 0).x, (gC (cellsOf R) 0).y, true⟩ : Dom))).length) : A)], .a (.val (.bool true))]) (X := .agg [(.sl 47 0 ((delL (delL R (ca (⟨(gC (cellsOf R) 0).x, (gC (cellsOf R) 0).y, true⟩ : Dom))) (cb (⟨(gC (cellsOf R) 0).x, (gC (cellsOf R) 0).y, true⟩ : Dom))).length) : A)]) (ltN rfl) rfl)) (by kernel_rfl) ?_
        refine wpc (step_plain rfl (acts_extract (d := 49) (t := 44) (ix := 1) (xs := [.agg [(.sl 47 0 ((delL (delL R (ca (⟨(gC (cellsOf R) 0).x, (gC (cellsOf R) 0).y, true⟩ : Dom))) (cb (⟨(gC (cellsOf R) 0).x, (gC (cellsOf R) 0).y, true⟩ : Dom))).length) : A)], .a (.val (.bool true))]) (X := .a (.val (.bool true))) (ltN rfl) rfl)) (by kernel_rfl) ?_
        refine wpc (step_plain rfl (acts_store (t := 5) (h := 5) (off := 0) (o := ⟨30, 1, true, [(.slv ((delL R (ca (⟨(gC (cellsOf R) 0).x, (gC (cellsOf R) 0).y, true⟩ : Dom))).length) 1 (isl (delL R (ca (⟨(gC (cellsOf R) 0).x, (gC (cellsOf R) 0).y, true⟩ : Dom)))) : A)]⟩) (b := .agg [(.sl 47 0 ((delL (delL R (ca (⟨(gC (cellsOf R) 0).x, (gC (cellsOf R) 0).y, true⟩ : Dom))) (cb (⟨(gC (cellsOf R) 0).x, (gC (cellsOf R) 0).y, true⟩ : Dom))).length) : A)]) (cells := [(.sl 47 0 ((delL (delL R (ca (⟨(gC (cellsOf R) 0).x, (gC (cellsOf R) 0).y, true⟩ : Dom))) (cb (⟨(gC (cellsOf R) 0).x, (gC (cellsOf R) 0).y, true⟩ : Dom))).length) : A)]) qC16_ti_30 (OpX.tmp 48 (V.b (.agg [(.sl 47 0 ((delL (delL R (ca (⟨(gC (cellsOf R) 0).x, (gC (cellsOf R) 0).y, true⟩ : Dom))) (cb (⟨(gC (cellsOf R) 0).x, (gC (cellsOf R) 0).y, true⟩ : Dom))).length) : A)]))) rfl (by decide) (by intro y hy; simp [B.cs] at hy; subst hy; rfl) (Nat.le_of_ble_eq_true rfl) rfl)) (by kernel_rfl) ?_
        refine wpl_nil ?_
        refine wp_weak (weak_freeze_osl (j := 5) (To := 30) (so := 1) (exo := true) (h := 47) (T := 3) (s := 1) (ex := true) (off := 0) (n := ((delL (delL R (ca (⟨(gC (cellsOf R) 0).x, (gC (cellsOf R) 0).y, true⟩ : Dom))) (cb (⟨(gC (cellsOf R) 0).x, (gC (cellsOf R) 0).y, true⟩ : Dom))).length)) (xs := isl (delL (delL R (ca (⟨(gC (cellsOf R) 0).x, (gC (cellsOf R) 0).y, true⟩ : Dom))) (cb (⟨(gC (cellsOf R) 0).x, (gC (cellsOf R) 0).y, true⟩ : Dom)))) (ys := isl (delL (delL R (ca (⟨(gC (cellsOf R) 0).x, (gC (cellsOf R) 0).y, true⟩ : Dom))) (cb (⟨(gC (cellsOf R) 0).x, (gC (cellsOf R) 0).y, true⟩ : Dom)))) rfl (by kernel_rfl) (by kernel_rfl) (by simp only [isl_len]; first | omega | (simp; done) | (first | omega | assumption | exact hFR.ok | exact ok_ca (by assumption) | exact ok_cb (by assumption) | exact delL_ok hFR.ok (ok_ca (by assumption)) | (have := (regOk_true (delL_ok hFR.ok (ok_ca (by assumption)))).1; omega))) (by decide) ((by simp only [Nat.zero_mul, List.drop_zero]; exact List.take_of_length_le (by rw [isl_len]; simp)))) ?_
        refine wp_region_t ?_
        refine wpc (step_plain rfl (acts_move (d := 50) (ltN rfl) (OpX.tmp 4 (V.b (.a (.sl 10 0 o.length)))))) (by kernel_rfl) ?_
        refine wpc (step_plain rfl (acts_load_owns (d := 51) (t := 7) (h := 7) (off := 0) (o := ⟨32, 3, true, [(.val (.int .i64 ((gC (cellsOf R) 0).x)) : A), .val (.int .i64 ((gC (cellsOf R) 0).y)), .val (.bool true)]⟩)  (xs := [(.int .i64 ((gC (cellsOf R) 0).x) : Value), .int .i64 ((gC (cellsOf R) 0).y), .bool true].map A.val) (ltN rfl) qC16_ti_32 rfl (by decide) rfl)) (by kernel_rfl) ?_
        refine wpc (step_plain rfl (acts_buildSlice' (d := 52) (h := 52) (n := 1) (s := 3) (xs := dsl ([(⟨(gC (cellsOf R) 0).x, (gC (cellsOf R) 0).y, true⟩ : Dom)] : List Dom)) (ltN rfl) qC16_un_42 qC16_zi_32 (OpVs.cons (i := 0) (OpV.agg 51 [(.int .i64 ((gC (cellsOf R) 0).x) : Value), .int .i64 ((gC (cellsOf R) 0).y), .bool true]) (OpVs.nil)) (by decide) (by decide) (by kernel_rfl) rfl)) (by kernel_rfl) ?_
        refine wpc (step_plain rfl (acts_app (d := 53) (x := 50) (h := 10) (h2 := 53) (n := o.length) (m := 1) (nm := ((o ++ [(⟨(gC (cellsOf R) 0).x, (gC (cellsOf R) 0).y, true⟩ : Dom)]).length)) (X := .sl 52 0 1) (xs := dsl o) (ys := dsl [(⟨(gC (cellsOf R) 0).x, (gC (cellsOf R) 0).y, true⟩ : Dom)]) (zs := dsl (o ++ [(⟨(gC (cellsOf R) 0).x, (gC (cellsOf R) 0).y, true⟩ : Dom)])) (ltN rfl) qC16_un_42 qC16_zi_32 rfl (by decide) (by decide) (by exact dsl_len _) (OpX.tmp 52 (V.b (.a (.sl 52 0 1)))) (src_own (h := 52) (T := 32) (s := 3) (ex := true) (n := 1) (by exact dsl_len _)) (dsl_one' _) (by omega) (by exact (dsl_append _ _).symm) (by (simp; done)))) (by kernel_rfl) ?_
        refine wpc (step_plain rfl (acts_assign (d := 4) (ltN rfl) (OpX.tmp 53 (V.b (.a (.sl 53 0 ((o ++ [(⟨(gC (cellsOf R) 0).x, (gC (cellsOf R) 0).y, true⟩ : Dom)]).length))))))) (by kernel_rfl) ?_
        refine wpl_nil ?_
        exact Exists.intro ((delL (delL R (ca (⟨(gC (cellsOf R) 0).x, (gC (cellsOf R) 0).y, true⟩ : Dom))) (cb (⟨(gC (cellsOf R) 0).x, (gC (cellsOf R) 0).y, true⟩ : Dom))), (o ++ [(⟨(gC (cellsOf R) 0).x, (gC (cellsOf R) 0).y, true⟩ : Dom)]), (n - 1)) (And.intro (by exact (hFR.next h0 hpk).2) (And.intro (by show n - 1 < n; have := (hFR.next h0 hpk).1; omega) (weak_of (subst1 [(10, 53)]) [1, 6, 7, 8, 9, 12, 17, 20, 30, 35, 41, 47, 52, 53] (by kernel_rfl) (wk_s (v' := V.b (.a (.sl 53 0 ((o ++ [(⟨(gC (cellsOf R) 0).x, (gC (cellsOf R) 0).y, true⟩ : Dom)]).length)))) (by kernel_rfl) rfl rfl (wk_s (v' := V.p 5 0) (by kernel_rfl) rfl rfl (wk_o (o' := ⟨30, 1, true, [(.slv ((delL (delL R (ca (⟨(gC (cellsOf R) 0).x, (gC (cellsOf R) 0).y, true⟩ : Dom))) (cb (⟨(gC (cellsOf R) 0).x, (gC (cellsOf R) 0).y, true⟩ : Dom))).length) 1 (isl (delL (delL R (ca (⟨(gC (cellsOf R) 0).x, (gC (cellsOf R) 0).y, true⟩ : Dom))) (cb (⟨(gC (cellsOf R) 0).x, (gC (cellsOf R) 0).y, true⟩ : Dom)))) : A)]⟩) (by kernel_rfl) (renob_l (fun h => h) rfl rfl) rfl (wk_o (o' := ⟨32, 3, true, pl (dsl (o ++ [(⟨(gC (cellsOf R) 0).x, (gC (cellsOf R) 0).y, true⟩ : Dom)]))⟩) (by kernel_rfl) (renob_pl (fun h => h)) rfl (wk_f rfl (wk_f rfl (wk_f rfl (wk_f rfl (wk_f rfl (wk_f rfl (wk_f rfl (wk_f rfl (wk_f rfl (wk_f rfl (wk_f rfl (wk_f rfl (wk_f rfl (wk_f rfl (wk_nil))))))))))))))))))))))
      · skip
        have c4P := of_decide_eq_false c4
        have hpk : pick (regSet R) = (⟨(gC (cellsOf R) 0).x, (gC (cellsOf R) 0).y, false⟩ : Dom) := by
          have q := of_decide_eq_false c4
          rw [hcf.1] at q ⊢
          exact cw_pick2 q
        have hkd := pick_okd hFR.ft h0 hpk
        refine wp_skip' ?_
        refine wp_seq' ?_
        refine wp_region_t ?_
        refine wpc (step_plain rfl (acts_load_owns (d := 34) (t := 7) (h := 7) (off := 0) (o := ⟨32, 3, true, [(.val (.int .i64 ((gC (cellsOf R) 0).x)) : A), .val (.int .i64 ((gC (cellsOf R) 0).y)), .val (.bool false)]⟩)  (xs := [(.int .i64 ((gC (cellsOf R) 0).x) : Value), .int .i64 ((gC (cellsOf R) 0).y), .bool false].map A.val) (ltN rfl) qC16_ti_32 rfl (by decide) rfl)) (by kernel_rfl) ?_
        refine wpc (step_plain rfl (acts_call2 (d := 35) (ltN rfl) (spec_CellsUnder_fn (⟨(gC (cellsOf R) 0).x, (gC (cellsOf R) 0).y, false⟩ : Dom) (by omega)) (ArgVs.cons (ArgV.va (vs := [(.int .i64 ((gC (cellsOf R) 0).x) : Value), .int .i64 ((gC (cellsOf R) 0).y), .bool false]) (OpV.agg 34 [(.int .i64 ((gC (cellsOf R) 0).x) : Value), .int .i64 ((gC (cellsOf R) 0).y), .bool false])) (ArgVs.nil)) (ResV.agg [(.int .i64 ((ca (⟨(gC (cellsOf R) 0).x, (gC (cellsOf R) 0).y, false⟩ : Dom)).x) : Value), .int .i64 ((ca (⟨(gC (cellsOf R) 0).x, (gC (cellsOf R) 0).y, false⟩ : Dom)).y)]) (ResV.agg [(.int .i64 ((cb (⟨(gC (cellsOf R) 0).x, (gC (cellsOf R) 0).y, false⟩ : Dom)).x) : Value), .int .i64 ((cb (⟨(gC (cellsOf R) 0).x, (gC (cellsOf R) 0).y, false⟩ : Dom)).y)]))) (by kernel_rfl) ?_
        refine wpc (step_plain rfl (acts_move (d := 33) (ltN rfl) (OpX.tmp 35 (V.tup [.agg ([(.int .i64 ((ca (⟨(gC (cellsOf R) 0).x, (gC (cellsOf R) 0).y, false⟩ : Dom)).x) : Value), .int .i64 ((ca (⟨(gC (cellsOf R) 0).x, (gC (cellsOf R) 0).y, false⟩ : Dom)).y)].map A.val), .agg ([(.int .i64 ((cb (⟨(gC (cellsOf R) 0).x, (gC (cellsOf R) 0).y, false⟩ : Dom)).x) : Value), .int .i64 ((cb (⟨(gC (cellsOf R) 0).x, (gC (cellsOf R) 0).y, false⟩ : Dom)).y)].map A.val)])))) (by kernel_rfl) ?_
        refine wpc (step_plain rfl (acts_extract (d := 36) (t := 33) (ix := 0) (xs := [.agg ([(.int .i64 ((ca (⟨(gC (cellsOf R) 0).x, (gC (cellsOf R) 0).y, false⟩ : Dom)).x) : Value), .int .i64 ((ca (⟨(gC (cellsOf R) 0).x, (gC (cellsOf R) 0).y, false⟩ : Dom)).y)].map A.val), .agg ([(.int .i64 ((cb (⟨(gC (cellsOf R) 0).x, (gC (cellsOf R) 0).y, false⟩ : Dom)).x) : Value), .int .i64 ((cb (⟨(gC (cellsOf R) 0).x, (gC (cellsOf R) 0).y, false⟩ : Dom)).y)].map A.val)]) (X := .agg ([(.int .i64 ((ca (⟨(gC (cellsOf R) 0).x, (gC (cellsOf R) 0).y, false⟩ : Dom)).x) : Value), .int .i64 ((ca (⟨(gC (cellsOf R) 0).x, (gC (cellsOf R) 0).y, false⟩ : Dom)).y)].map A.val)) (ltN rfl) rfl)) (by kernel_rfl) ?_
        refine wpc (step_plain rfl (acts_extract (d := 37) (t := 33) (ix := 1) (xs := [.agg ([(.int .i64 ((ca (⟨(gC (cellsOf R) 0).x, (gC (cellsOf R) 0).y, false⟩ : Dom)).x) : Value), .int .i64 ((ca (⟨(gC (cellsOf R) 0).x, (gC (cellsOf R) 0).y, false⟩ : Dom)).y)].map A.val), .agg ([(.int .i64 ((cb (⟨(gC (cellsOf R) 0).x, (gC (cellsOf R) 0).y, false⟩ : Dom)).x) : Value), .int .i64 ((cb (⟨(gC (cellsOf R) 0).x, (gC (cellsOf R) 0).y, false⟩ : Dom)).y)].map A.val)]) (X := .agg ([(.int .i64 ((cb (⟨(gC (cellsOf R) 0).x, (gC (cellsOf R) 0).y, false⟩ : Dom)).x) : Value), .int .i64 ((cb (⟨(gC (cellsOf R) 0).x, (gC (cellsOf R) 0).y, false⟩ : Dom)).y)].map A.val)) (ltN rfl) rfl)) (by kernel_rfl) ?_
        refine wpc (step_plain rfl (acts_alloc' (d := 8) (h := 8) (cap := 1) (s := 2) (cells := [(.val (.int .i64 0) : A), .val (.int .i64 0)]) (ltN rfl) qC16_zi_39 rfl rfl (by decide))) (by kernel_rfl) ?_
        refine wpc (step_plain rfl (acts_alloc' (d := 9) (h := 9) (cap := 1) (s := 2) (cells := [(.val (.int .i64 0) : A), .val (.int .i64 0)]) (ltN rfl) qC16_zi_39 rfl rfl (by decide))) (by kernel_rfl) ?_
        refine wpc (step_plain rfl (acts_store (t := 8) (h := 8) (off := 0) (o := ⟨39, 2, true, [(.val (.int .i64 0) : A), .val (.int .i64 0)]⟩) (b := .agg ([(.int .i64 ((ca (⟨(gC (cellsOf R) 0).x, (gC (cellsOf R) 0).y, false⟩ : Dom)).x) : Value), .int .i64 ((ca (⟨(gC (cellsOf R) 0).x, (gC (cellsOf R) 0).y, false⟩ : Dom)).y)].map A.val)) (cells := [(.val (.int .i64 ((ca (⟨(gC (cellsOf R) 0).x, (gC (cellsOf R) 0).y, false⟩ : Dom)).x)) : A), .val (.int .i64 ((ca (⟨(gC (cellsOf R) 0).x, (gC (cellsOf R) 0).y, false⟩ : Dom)).y))]) qC16_ti_39 (OpX.tmp 36 (V.av [(.int .i64 ((ca (⟨(gC (cellsOf R) 0).x, (gC (cellsOf R) 0).y, false⟩ : Dom)).x) : Value), .int .i64 ((ca (⟨(gC (cellsOf R) 0).x, (gC (cellsOf R) 0).y, false⟩ : Dom)).y)])) rfl (by decide) (by intro y hy; simp [B.cs] at hy; rcases hy with rfl | rfl <;> rfl) (Nat.le_of_ble_eq_true rfl) rfl)) (by kernel_rfl) ?_
        refine wpc (step_plain rfl (acts_store (t := 9) (h := 9) (off := 0) (o := ⟨39, 2, true, [(.val (.int .i64 0) : A), .val (.int .i64 0)]⟩) (b := .agg ([(.int .i64 ((cb (⟨(gC (cellsOf R) 0).x, (gC (cellsOf R) 0).y, false⟩ : Dom)).x) : Value), .int .i64 ((cb (⟨(gC (cellsOf R) 0).x, (gC (cellsOf R) 0).y, false⟩ : Dom)).y)].map A.val)) (cells := [(.val (.int .i64 ((cb (⟨(gC (cellsOf R) 0).x, (gC (cellsOf R) 0).y, false⟩ : Dom)).x)) : A), .val (.int .i64 ((cb (⟨(gC (cellsOf R) 0).x, (gC (cellsOf R) 0).y, false⟩ : Dom)).y))]) qC16_ti_39 (OpX.tmp 37 (V.av [(.int .i64 ((cb (⟨(gC (cellsOf R) 0).x, (gC (cellsOf R) 0).y, false⟩ : Dom)).x) : Value), .int .i64 ((cb (⟨(gC (cellsOf R) 0).x, (gC (cellsOf R) 0).y, false⟩ : Dom)).y)])) rfl (by decide) (by intro y hy; simp [B.cs] at hy; rcases hy with rfl | rfl <;> rfl) (Nat.le_of_ble_eq_true rfl) rfl)) (by kernel_rfl) ?_
        refine wpl_nil ?_
        refine wp_seq' ?_
        refine wp_region_t ?_
        refine wpc (step_plain rfl (acts_load_owns (d := 39) (t := 5) (h := 5) (off := 0) (o := ⟨30, 1, true, [(.slv R.length 1 (isl R) : A)]⟩)  (xs := [(.slv R.length 1 (isl R) : A)]) (ltN rfl) qC16_ti_30 rfl (by decide) rfl)) (by kernel_rfl) ?_
        refine wpc (step_plain rfl (acts_load_owns (d := 40) (t := 8) (h := 8) (off := 0) (o := ⟨39, 2, true, [(.val (.int .i64 ((ca (⟨(gC (cellsOf R) 0).x, (gC (cellsOf R) 0).y, false⟩ : Dom)).x)) : A), .val (.int .i64 ((ca (⟨(gC (cellsOf R) 0).x, (gC (cellsOf R) 0).y, false⟩ : Dom)).y))]⟩)  (xs := [(.int .i64 ((ca (⟨(gC (cellsOf R) 0).x, (gC (cellsOf R) 0).y, false⟩ : Dom)).x) : Value), .int .i64 ((ca (⟨(gC (cellsOf R) 0).x, (gC (cellsOf R) 0).y, false⟩ : Dom)).y)].map A.val) (ltN rfl) qC16_ti_39 rfl (by decide) rfl)) (by kernel_rfl) ?_
        refine wpc (step_plain rfl (acts_call2 (d := 41) (ltN rfl) (spec_WithCell_fn R (ca (⟨(gC (cellsOf R) 0).x, (gC (cellsOf R) 0).y, false⟩ : Dom)) (by exact hFR.ok) (by exact ok_ca (by assumption))) (ArgVs.cons (ArgV.regv 39 R.length 1 (isl R)) (ArgVs.cons (ArgV.va (vs := [(.int .i64 ((ca (⟨(gC (cellsOf R) 0).x, (gC (cellsOf R) 0).y, false⟩ : Dom)).x) : Value), .int .i64 ((ca (⟨(gC (cellsOf R) 0).x, (gC (cellsOf R) 0).y, false⟩ : Dom)).y)]) (OpV.agg 40 [(.int .i64 ((ca (⟨(gC (cellsOf R) 0).x, (gC (cellsOf R) 0).y, false⟩ : Dom)).x) : Value), .int .i64 ((ca (⟨(gC (cellsOf R) 0).x, (gC (cellsOf R) 0).y, false⟩ : Dom)).y)])) (ArgVs.cons (ArgV.v (OpV.const (.bool false))) (ArgVs.nil)))) (ResV.reg 3 1 ((delL R (ca (⟨(gC (cellsOf R) 0).x, (gC (cellsOf R) 0).y, false⟩ : Dom))).length) (isl (delL R (ca (⟨(gC (cellsOf R) 0).x, (gC (cellsOf R) 0).y, false⟩ : Dom)))) 41) (ResV.val _))) (by kernel_rfl) ?_
        refine wpc (step_plain rfl (acts_move (d := 38) (ltN rfl) (OpX.tmp 41 (V.tup [.agg [(.sl 41 0 ((delL R (ca (⟨(gC (cellsOf R) 0).x, (gC (cellsOf R) 0).y, false⟩ : Dom))).length) : A)], .a (.val (.bool true))])))) (by kernel_rfl) ?_
        refine wpc (step_plain rfl (acts_extract (d := 42) (t := 38) (ix := 0) (xs := [.agg [(.sl 41 0 ((delL R (ca (⟨(gC (cellsOf R) 0).x, (gC (cellsOf R) 0).y, false⟩ : Dom))).length) : A)], .a (.val (.bool true))]) (X := .agg [(.sl 41 0 ((delL R (ca (⟨(gC (cellsOf R) 0).x, (gC (cellsOf R) 0).y, false⟩ : Dom))).length) : A)]) (ltN rfl) rfl)) (by kernel_rfl) ?_
        refine wpc (step_plain rfl (acts_extract (d := 43) (t := 38) (ix := 1) (xs := [.agg [(.sl 41 0 ((delL R (ca (⟨(gC (cellsOf R) 0).x, (gC (cellsOf R) 0).y, false⟩ : Dom))).length) : A)], .a (.val (.bool true))]) (X := .a (.val (.bool true))) (ltN rfl) rfl)) (by kernel_rfl) ?_
        refine wpc (step_plain rfl (acts_store (t := 5) (h := 5) (off := 0) (o := ⟨30, 1, true, [(.slv R.length 1 (isl R) : A)]⟩) (b := .agg [(.sl 41 0 ((delL R (ca (⟨(gC (cellsOf R) 0).x, (gC (cellsOf R) 0).y, false⟩ : Dom))).length) : A)]) (cells := [(.sl 41 0 ((delL R (ca (⟨(gC (cellsOf R) 0).x, (gC (cellsOf R) 0).y, false⟩ : Dom))).length) : A)]) qC16_ti_30 (OpX.tmp 42 (V.b (.agg [(.sl 41 0 ((delL R (ca (⟨(gC (cellsOf R) 0).x, (gC (cellsOf R) 0).y, false⟩ : Dom))).length) : A)]))) rfl (by decide) (by intro y hy; simp [B.cs] at hy; subst hy; rfl) (Nat.le_of_ble_eq_true rfl) rfl)) (by kernel_rfl) ?_
        refine wpl_nil ?_
        refine wp_seq' ?_
        refine wp_weak (weak_freeze_osl (j := 5) (To := 30) (so := 1) (exo := true) (h := 41) (T := 3) (s := 1) (ex := true) (off := 0) (n := ((delL R (ca (⟨(gC (cellsOf R) 0).x, (gC (cellsOf R) 0).y, false⟩ : Dom))).length)) (xs := isl (delL R (ca (⟨(gC (cellsOf R) 0).x, (gC (cellsOf R) 0).y, false⟩ : Dom)))) (ys := isl (delL R (ca (⟨(gC (cellsOf R) 0).x, (gC (cellsOf R) 0).y, false⟩ : Dom)))) rfl (by kernel_rfl) (by kernel_rfl) (by simp only [isl_len]; first | omega | (simp; done) | (first | omega | assumption | exact hFR.ok | exact ok_ca (by assumption) | exact ok_cb (by assumption) | exact delL_ok hFR.ok (ok_ca (by assumption)) | (have := (regOk_true (delL_ok hFR.ok (ok_ca (by assumption)))).1; omega))) (by decide) ((by simp only [Nat.zero_mul, List.drop_zero]; exact List.take_of_length_le (by rw [isl_len]; simp)))) ?_
        refine wp_region_t ?_
        refine wpc (step_plain rfl (acts_load_owns (d := 45) (t := 5) (h := 5) (off := 0) (o := ⟨30, 1, true, [(.slv ((delL R (ca (⟨(gC (cellsOf R) 0).x, (gC (cellsOf R) 0).y, false⟩ : Dom))).length) 1 (isl (delL R (ca (⟨(gC (cellsOf R) 0).x, (gC (cellsOf R) 0).y, false⟩ : Dom)))) : A)]⟩)  (xs := [(.slv ((delL R (ca (⟨(gC (cellsOf R) 0).x, (gC (cellsOf R) 0).y, false⟩ : Dom))).length) 1 (isl (delL R (ca (⟨(gC (cellsOf R) 0).x, (gC (cellsOf R) 0).y, false⟩ : Dom)))) : A)]) (ltN rfl) qC16_ti_30 rfl (by decide) rfl)) (by kernel_rfl) ?_
        refine wpc (step_plain rfl (acts_load_owns (d := 46) (t := 9) (h := 9) (off := 0) (o := ⟨39, 2, true, [(.val (.int .i64 ((cb (⟨(gC (cellsOf R) 0).x, (gC (cellsOf R) 0).y, false⟩ : Dom)).x)) : A), .val (.int .i64 ((cb (⟨(gC (cellsOf R) 0).x, (gC (cellsOf R) 0).y, false⟩ : Dom)).y))]⟩)  (xs := [(.int .i64 ((cb (⟨(gC (cellsOf R) 0).x, (gC (cellsOf R) 0).y, false⟩ : Dom)).x) : Value), .int .i64 ((cb (⟨(gC (cellsOf R) 0).x, (gC (cellsOf R) 0).y, false⟩ : Dom)).y)].map A.val) (ltN rfl) qC16_ti_39 rfl (by decide) rfl)) (by kernel_rfl) ?_
        refine wpc (step_plain rfl (acts_call2 (d := 47) (ltN rfl) (spec_WithCell_fn (delL R (ca (⟨(gC (cellsOf R) 0).x, (gC (cellsOf R) 0).y, false⟩ : Dom))) (cb (⟨(gC (cellsOf R) 0).x, (gC (cellsOf R) 0).y, false⟩ : Dom)) (by exact delL_ok hFR.ok (ok_ca (by assumption))) (by exact ok_cb (by assumption))) (ArgVs.cons (ArgV.regv 45 ((delL R (ca (⟨(gC (cellsOf R) 0).x, (gC (cellsOf R) 0).y, false⟩ : Dom))).length) 1 (isl (delL R (ca (⟨(gC (cellsOf R) 0).x, (gC (cellsOf R) 0).y, false⟩ : Dom))))) (ArgVs.cons (ArgV.va (vs := [(.int .i64 ((cb (⟨(gC (cellsOf R) 0).x, (gC (cellsOf R) 0).y, false⟩ : Dom)).x) : Value), .int .i64 ((cb (⟨(gC (cellsOf R) 0).x, (gC (cellsOf R) 0).y, false⟩ : Dom)).y)]) (OpV.agg 46 [(.int .i64 ((cb (⟨(gC (cellsOf R) 0).x, (gC (cellsOf R) 0).y, false⟩ : Dom)).x) : Value), .int .i64 ((cb (⟨(gC (cellsOf R) 0).x, (gC (cellsOf R) 0).y, false⟩ : Dom)).y)])) (ArgVs.cons (ArgV.v (OpV.const (.bool false))) (ArgVs.nil)))) (ResV.reg 3 1 ((delL (delL R (ca (⟨(gC (cellsOf R) 0).x, (gC (cellsOf R) 0).y, false⟩ : Dom))) (cb (⟨(gC (cellsOf R) 0).x, (gC (cellsOf R) 0).y, false⟩ : Dom))).length) (isl (delL (delL R (ca (⟨(gC (cellsOf R) 0).x, (gC (cellsOf R) 0).y, false⟩ : Dom))) (cb (⟨(gC (cellsOf R) 0).x, (gC (cellsOf R) 0).y, false⟩ : Dom)))) 47) (ResV.val _))) (by kernel_rfl) ?_
        refine wpc (step_plain rfl (acts_move (d := 44) (ltN rfl) (OpX.tmp 47 (V.tup [.agg [(.sl 47 0 ((delL (delL R (ca (⟨(gC (cellsOf R) 0).x, (gC (cellsOf R) 0).y, false⟩ : Dom))) (cb (⟨(gC (cellsOf R) 0).x, (gC (cellsOf R) 0).y, false⟩ : Dom))).length) : A)], .a (.val (.bool true))])))) (by kernel_rfl) ?_
        refine wpc (step_plain rfl (acts_extract (d := 48) (t := 44) (ix := 0) (xs := [.agg [(.sl 47 0 ((delL (delL R (ca (⟨(gC (cellsOf R) 0).x, (gC (cellsOf R) 0).y, false⟩ : Dom))) (cb (⟨(gC (cellsOf R) 0).x, (gC (cellsOf R) 0).y, false⟩ : Dom))).length) : A)], .a (.val (.bool true))]) (X := .agg [(.sl 47 0 ((delL (delL R (ca (⟨(gC (cellsOf R) 0).x, (gC (cellsOf R) 0).y, false⟩ : Dom))) (cb (⟨(gC (cellsOf R) 0).x, (gC (cellsOf R) 0).y, false⟩ : Dom))).length) : A)]) (ltN rfl) rfl)) (by kernel_rfl) ?_
        refine wpc (step_plain rfl (acts_extract (d := 49) (t := 44) (ix := 1) (xs := [.agg [(.sl 47 0 ((delL (delL R (ca (⟨(gC (cellsOf R) 0).x, (gC (cellsOf R) 0).y, false⟩ : Dom))) (cb (⟨(gC (cellsOf R) 0).x, (gC (cellsOf R) 0).y, false⟩ : Dom))).length) : A)], .a (.val (.bool true))]) (X := .a (.val (.bool true))) (ltN rfl) rfl)) (by kernel_rfl) ?_
        refine wpc (step_plain rfl (acts_store (t := 5) (h := 5) (off := 0) (o := ⟨30, 1, true, [(.slv ((delL R (ca (⟨(gC (cellsOf R) 0).x, (gC (cellsOf R) 0).y, false⟩ : Dom))).length) 1 (isl (delL R (ca (⟨(gC (cellsOf R) 0).x, (gC (cellsOf R) 0).y, false⟩ : Dom)))) : A)]⟩) (b := .agg [(.sl 47 0 ((delL (delL R (ca (⟨(gC (cellsOf R) 0).x, (gC (cellsOf R) 0).y, false⟩ : Dom))) (cb (⟨(gC (cellsOf R) 0).x, (gC (cellsOf R) 0).y, false⟩ : Dom))).length) : A)]) (cells := [(.sl 47 0 ((delL (delL R (ca (⟨(gC (cellsOf R) 0).x, (gC (cellsOf R) 0).y, false⟩ : Dom))) (cb (⟨(gC (cellsOf R) 0).x, (gC (cellsOf R) 0).y, false⟩ : Dom))).length) : A)]) qC16_ti_30 (OpX.tmp 48 (V.b (.agg [(.sl 47 0 ((delL (delL R (ca (⟨(gC (cellsOf R) 0).x, (gC (cellsOf R) 0).y, false⟩ : Dom))) (cb (⟨(gC (cellsOf R) 0).x, (gC (cellsOf R) 0).y, false⟩ : Dom))).length) : A)]))) rfl (by decide) (by intro y hy; simp [B.cs] at hy; subst hy; rfl) (Nat.le_of_ble_eq_true rfl) rfl)) (by kernel_rfl) ?_
        refine wpl_nil ?_
        refine wp_weak (weak_freeze_osl (j := 5) (To := 30) (so := 1) (exo := true) (h := 47) (T := 3) (s := 1) (ex := true) (off := 0) (n := ((delL (delL R (ca (⟨(gC (cellsOf R) 0).x, (gC (cellsOf R) 0).y, false⟩ : Dom))) (cb (⟨(gC (cellsOf R) 0).x, (gC (cellsOf R) 0).y, false⟩ : Dom))).length)) (xs := isl (delL (delL R (ca (⟨(gC (cellsOf R) 0).x, (gC (cellsOf R) 0).y, false⟩ : Dom))) (cb (⟨(gC (cellsOf R) 0).x, (gC (cellsOf R) 0).y, false⟩ : Dom)))) (ys := isl (delL (delL R (ca (⟨(gC (cellsOf R) 0).x, (gC (cellsOf R) 0).y, false⟩ : Dom))) (cb (⟨(gC (cellsOf R) 0).x, (gC (cellsOf R) 0).y, false⟩ : Dom)))) rfl (by kernel_rfl) (by kernel_rfl) (by simp only [isl_len]; first | omega | (simp; done) | (first | omega | assumption | exact hFR.ok | exact ok_ca (by assumption) | exact ok_cb (by assumption) | exact delL_ok hFR.ok (ok_ca (by assumption)) | (have := (regOk_true (delL_ok hFR.ok (ok_ca (by assumption)))).1; omega))) (by decide) ((by simp only [Nat.zero_mul, List.drop_zero]; exact List.take_of_length_le (by rw [isl_len]; simp)))) ?_
        refine wp_region_t ?_
        refine wpc (step_plain rfl (acts_move (d := 50) (ltN rfl) (OpX.tmp 4 (V.b (.a (.sl 10 0 o.length)))))) (by kernel_rfl) ?_
        refine wpc (step_plain rfl (acts_load_owns (d := 51) (t := 7) (h := 7) (off := 0) (o := ⟨32, 3, true, [(.val (.int .i64 ((gC (cellsOf R) 0).x)) : A), .val (.int .i64 ((gC (cellsOf R) 0).y)), .val (.bool false)]⟩)  (xs := [(.int .i64 ((gC (cellsOf R) 0).x) : Value), .int .i64 ((gC (cellsOf R) 0).y), .bool false].map A.val) (ltN rfl) qC16_ti_32 rfl (by decide) rfl)) (by kernel_rfl) ?_
        refine wpc (step_plain rfl (acts_buildSlice' (d := 52) (h := 52) (n := 1) (s := 3) (xs := dsl ([(⟨(gC (cellsOf R) 0).x, (gC (cellsOf R) 0).y, false⟩ : Dom)] : List Dom)) (ltN rfl) qC16_un_42 qC16_zi_32 (OpVs.cons (i := 0) (OpV.agg 51 [(.int .i64 ((gC (cellsOf R) 0).x) : Value), .int .i64 ((gC (cellsOf R) 0).y), .bool false]) (OpVs.nil)) (by decide) (by decide) (by kernel_rfl) rfl)) (by kernel_rfl) ?_
        refine wpc (step_plain rfl (acts_app (d := 53) (x := 50) (h := 10) (h2 := 53) (n := o.length) (m := 1) (nm := ((o ++ [(⟨(gC (cellsOf R) 0).x, (gC (cellsOf R) 0).y, false⟩ : Dom)]).length)) (X := .sl 52 0 1) (xs := dsl o) (ys := dsl [(⟨(gC (cellsOf R) 0).x, (gC (cellsOf R) 0).y, false⟩ : Dom)]) (zs := dsl (o ++ [(⟨(gC (cellsOf R) 0).x, (gC (cellsOf R) 0).y, false⟩ : Dom)])) (ltN rfl) qC16_un_42 qC16_zi_32 rfl (by decide) (by decide) (by exact dsl_len _) (OpX.tmp 52 (V.b (.a (.sl 52 0 1)))) (src_own (h := 52) (T := 32) (s := 3) (ex := true) (n := 1) (by exact dsl_len _)) (dsl_one' _) (by omega) (by exact (dsl_append _ _).symm) (by (simp; done)))) (by kernel_rfl) ?_
        refine wpc (step_plain rfl (acts_assign (d := 4) (ltN rfl) (OpX.tmp 53 (V.b (.a (.sl 53 0 ((o ++ [(⟨(gC (cellsOf R) 0).x, (gC (cellsOf R) 0).y, false⟩ : Dom)]).length))))))) (by kernel_rfl) ?_
        refine wpl_nil ?_
        exact Exists.intro ((delL (delL R (ca (⟨(gC (cellsOf R) 0).x, (gC (cellsOf R) 0).y, false⟩ : Dom))) (cb (⟨(gC (cellsOf R) 0).x, (gC (cellsOf R) 0).y, false⟩ : Dom))), (o ++ [(⟨(gC (cellsOf R) 0).x, (gC (cellsOf R) 0).y, false⟩ : Dom)]), (n - 1)) (And.intro (by exact (hFR.next h0 hpk).2) (And.intro (by show n - 1 < n; have := (hFR.next h0 hpk).1; omega) (weak_of (subst1 [(10, 53)]) [1, 6, 7, 8, 9, 12, 17, 20, 30, 35, 41, 47, 52, 53] (by kernel_rfl) (wk_s (v' := V.b (.a (.sl 53 0 ((o ++ [(⟨(gC (cellsOf R) 0).x, (gC (cellsOf R) 0).y, false⟩ : Dom)]).length)))) (by kernel_rfl) rfl rfl (wk_s (v' := V.p 5 0) (by kernel_rfl) rfl rfl (wk_o (o' := ⟨30, 1, true, [(.slv ((delL (delL R (ca (⟨(gC (cellsOf R) 0).x, (gC (cellsOf R) 0).y, false⟩ : Dom))) (cb (⟨(gC (cellsOf R) 0).x, (gC (cellsOf R) 0).y, false⟩ : Dom))).length) 1 (isl (delL (delL R (ca (⟨(gC (cellsOf R) 0).x, (gC (cellsOf R) 0).y, false⟩ : Dom))) (cb (⟨(gC (cellsOf R) 0).x, (gC (cellsOf R) 0).y, false⟩ : Dom)))) : A)]⟩) (by kernel_rfl) (renob_l (fun h => h) rfl rfl) rfl (wk_o (o' := ⟨32, 3, true, pl (dsl (o ++ [(⟨(gC (cellsOf R) 0).x, (gC (cellsOf R) 0).y, false⟩ : Dom)]))⟩) (by kernel_rfl) (renob_pl (fun h => h)) rfl (wk_f rfl (wk_f rfl (wk_f rfl (wk_f rfl (wk_f rfl (wk_f rfl (wk_f rfl (wk_f rfl (wk_f rfl (wk_f rfl (wk_f rfl (wk_f rfl (wk_f rfl (wk_f rfl (wk_nil))))))))))))))))))))))
    · skip
      have c3P := of_decide_eq_false c3
      have h0 : regSet R = 0 := hFR.end (of_decide_eq_false c3)
      refine wp_exit' ?_
      refine wp_seq' ?_
      refine wp_region_t ?_
      refine wpc (step_plain rfl (acts_move (d := 54) (ltN rfl) (OpX.tmp 4 (V.b (.a (.sl 10 0 o.length)))))) (by kernel_rfl) ?_
      refine wpc (step_plain rfl (acts_assign (d := 2) (ltN rfl) (OpX.tmp 54 (V.b (.a (.sl 10 0 o.length)))))) (by kernel_rfl) ?_
      refine wpc (step_plain rfl (acts_assign (d := 3) (ltN rfl) (OpX.const (.bool true)))) (by kernel_rfl) ?_
      refine wpl_nil ?_
      refine wp_ret' ?_
      exact ⟨VRes.tmp 2 (.a (.sl 10 0 o.length)) _ (by kernel_rfl) (brow_doms (h := 10) (L := o) (by kernel_rfl) (by exact hFR.ft.done hc0 h0) (by rfl)), VRes.tmp 3 (.a (.val (.bool true))) _ (by kernel_rfl) (bval (congrArg Value.bool (by simp; omega)))⟩

set_option maxHeartbeats 4000000 in
set_option maxRecDepth 100000 in
theorem impl_ShareOf_fn (l : List Int) (d : Dom) (hl : l.length ≤ 4194304) : Fn Try.prog 13 [.agg [(.slv l.length 1 (isl l) : A)], .agg ([(.int .i64 d.x : Value), .int .i64 d.y, .bool d.d].map A.val)] [.val (.int .i64 (((shA l d) : Nat) : Int)), .val (.int .i64 (((shB l d) : Nat) : Int))] := by
  have hbW : cntW l d ≤ 9223372036854775807 := by have := cntW_bd l d; omega
  have hbR : cntR l ≤ 9223372036854775807 := by have := cntR_bd l; omega
  have hbW2 := cntW_bd l d
  have hbR2 := cntR_bd l
  refine fn_intro (N := 25) Try.func13 rfl (by kernel_rfl) rfl (Nat.le_of_ble_eq_true rfl) [2, 3, 11, 13, 18] (ret2 rfl rfl (by intro u hu; injection hu with hu; subst hu; rfl)) (fun W => ?_)
  show Wp _ _ _ [(.s 0, some (.s (V.b (.agg [(.slv l.length 1 (isl l) : A)])))), (.s 1, some (.s (V.av [(.int .i64 d.x : Value), .int .i64 d.y, .bool d.d]))), (.o 2, some .free), (.o 3, some .free), (.o 11, some .free), (.o 13, some .free), (.o 18, some .free)]
  refine wp_seq' ?_
  refine wp_region_t ?_
  refine wpc (step_plain rfl (acts_box (d := 2) (h := 2) (b := .agg [(.slv l.length 1 (isl l) : A)]) (ltN rfl) (OpX.tmp 0 (V.b (.agg [(.slv l.length 1 (isl l) : A)]))) (by intro y hy; simp [B.cs] at hy; subst hy; rfl))) (by kernel_rfl) ?_
  refine wpc (step_plain rfl (acts_box (d := 3) (h := 3) (b := .agg ([(.int .i64 d.x : Value), .int .i64 d.y, .bool d.d].map A.val)) (ltN rfl) (OpX.tmp 1 (V.av [(.int .i64 d.x : Value), .int .i64 d.y, .bool d.d])) (by intro y hy; simp [B.cs] at hy; rcases hy with rfl | rfl | rfl <;> rfl))) (by kernel_rfl) ?_
  refine wpc (step_plain rfl (acts_assign (d := 4) (ltN rfl) (OpX.const (.int .i64 0)))) (by kernel_rfl) ?_
  refine wpc (step_plain rfl (acts_assign (d := 5) (ltN rfl) (OpX.const (.int .i64 0)))) (by kernel_rfl) ?_
  refine wpl_nil ?_
  refine wp_seq' ?_
  refine wp_drawn' (by kernel_rfl) (AllSteps.cons (step_plain rfl (acts_load_owns (d := 9) (t := 2) (h := 2) (off := 0) (o := ⟨30, 1, true, [(.slv l.length 1 (isl l) : A)]⟩)  (xs := [(.slv l.length 1 (isl l) : A)]) (ltN rfl) qC16_ti_30 rfl (by decide) rfl)) (AllSteps.cons (step_plain rfl (acts_load_owns (d := 10) (t := 3) (h := 3) (off := 0) (o := ⟨32, 3, true, [(.val (.int .i64 d.x) : A), .val (.int .i64 d.y), .val (.bool d.d)]⟩)  (xs := [(.int .i64 d.x : Value), .int .i64 d.y, .bool d.d].map A.val) (ltN rfl) qC16_ti_32 rfl (by decide) rfl)) (AllSteps.cons (step_plain rfl (acts_call1 (d := 11) (ltN rfl) (impl_CountWith_fn l d (by omega)) (ArgVs.cons (ArgV.regv 9 l.length 1 (isl l)) (ArgVs.cons (ArgV.va (vs := [(.int .i64 d.x : Value), .int .i64 d.y, .bool d.d]) (OpV.agg 10 [(.int .i64 d.x : Value), .int .i64 d.y, .bool d.d])) (ArgVs.nil))) (ResV.val _))) (AllSteps.cons (step_plain rfl (acts_load_owns (d := 12) (t := 2) (h := 2) (off := 0) (o := ⟨30, 1, true, [(.slv l.length 1 (isl l) : A)]⟩)  (xs := [(.slv l.length 1 (isl l) : A)]) (ltN rfl) qC16_ti_30 rfl (by decide) rfl)) (AllSteps.cons (step_plain rfl (acts_call1 (d := 13) (ltN rfl) (impl_CountTilings_fn l (by omega)) (ArgVs.cons (ArgV.regv 12 l.length 1 (isl l)) (ArgVs.nil)) (ResV.val _))) (AllSteps.cons (step_plain rfl (acts_assign (d := 6) (ltN rfl) (OpX.tmp 11 (V.v (.int .i64 (((cntW l d) : Nat) : Int)))))) (AllSteps.cons (step_plain rfl (acts_assign (d := 7) (ltN rfl) (OpX.tmp 13 (V.v (.int .i64 (((cntR l) : Nat) : Int)))))) (AllSteps.nil)))))))) (by kernel_rfl) (by kernel_rfl) (by kernel_rfl) ?_
  refine wp_seq' ?_
  refine wp_seq' ?_
  refine wp_region_t ?_
  refine wpc (step_plain rfl (acts_move (d := 14) (ltN rfl) (OpX.tmp 6 (V.v (.int .i64 (((cntW l d) : Nat) : Int)))))) (by kernel_rfl) ?_
  refine wpc (step_plain rfl (acts_bin (d := 15) (ltN rfl) (OpV.tmp 14 (.int .i64 (((cntW l d) : Nat) : Int))) (OpV.const (.int .i64 0)) (r_eql (c := (decide ((((cntW l d) : Nat) : Int) = 0))) rfl))) (by kernel_rfl) ?_
  refine wpl_nil ?_
  refine wp_if (t := 15) (decide ((((cntW l d) : Nat) : Int) = 0)) (by kernel_rfl) (fun c1 => ?_) (fun c1 => ?_)
  · skip
    have c1P := of_decide_eq_true c1
    have hn0 : cntW l d = 0 := by have := of_decide_eq_true c1; omega
    refine wp_seq' ?_
    refine wp_region_t ?_
    refine wpc (step_plain rfl (acts_assign (d := 4) (ltN rfl) (OpX.const (.int .i64 0)))) (by kernel_rfl) ?_
    refine wpc (step_plain rfl (acts_assign (d := 5) (ltN rfl) (OpX.const (.int .i64 1)))) (by kernel_rfl) ?_
    refine wpl_nil ?_
    refine wp_ret' ?_
    exact ⟨VRes.tmp 4 (.a (.val (.int .i64 0))) _ (by kernel_rfl) (bval (congrArg (Value.int .i64) (by (unfold shA; rw [if_pos hn0]; first | done | rfl)))), VRes.tmp 5 (.a (.val (.int .i64 1))) _ (by kernel_rfl) (bval (congrArg (Value.int .i64) (by (unfold shB; rw [if_pos hn0]; first | done | rfl))))⟩
  · skip
    have c1P := of_decide_eq_false c1
    have hn0 : ¬ cntW l d = 0 := by have := of_decide_eq_false c1; omega
    have hg : 0 < (Nat.gcd (cntW l d) (cntR l)) := by have := gcd_q (b := cntR l) hn0; omega
    refine wp_skip' ?_
    refine wp_seq' ?_
    refine wp_region_t ?_
    refine wpc (step_plain rfl (acts_move (d := 16) (ltN rfl) (OpX.tmp 6 (V.v (.int .i64 (((cntW l d) : Nat) : Int)))))) (by kernel_rfl) ?_
    refine wpc (step_plain rfl (acts_move (d := 17) (ltN rfl) (OpX.tmp 7 (V.v (.int .i64 (((cntR l) : Nat) : Int)))))) (by kernel_rfl) ?_
    refine wpc (step_plain rfl (acts_call1 (d := 18) (ltN rfl) (impl_gcd_fn (cntW l d) (cntR l) (by omega) (by omega)) (ArgVs.cons (ArgV.v (OpV.tmp 16 (.int .i64 (((cntW l d) : Nat) : Int)))) (ArgVs.cons (ArgV.v (OpV.tmp 17 (.int .i64 (((cntR l) : Nat) : Int)))) (ArgVs.nil))) (ResV.val _))) (by kernel_rfl) ?_
    refine wpc (step_plain rfl (acts_assign (d := 8) (ltN rfl) (OpX.tmp 18 (V.v (.int .i64 (((Nat.gcd (cntW l d) (cntR l)) : Nat) : Int)))))) (by kernel_rfl) ?_
    refine wpl_nil ?_
    refine wp_seq' ?_
    refine wp_drawn' (by kernel_rfl) (AllSteps.cons (step_plain rfl (acts_move (d := 19) (ltN rfl) (OpX.tmp 6 (V.v (.int .i64 (((cntW l d) : Nat) : Int)))))) (AllSteps.cons (step_plain rfl (acts_move (d := 20) (ltN rfl) (OpX.tmp 8 (V.v (.int .i64 (((Nat.gcd (cntW l d) (cntR l)) : Nat) : Int)))))) (AllSteps.cons (step_plain rfl (acts_bin (d := 21) (ltN rfl) (OpV.tmp 19 (.int .i64 (((cntW l d) : Nat) : Int))) (OpV.tmp 20 (.int .i64 (((Nat.gcd (cntW l d) (cntR l)) : Nat) : Int))) (r_quo (c := ((((cntW l d) / (Nat.gcd (cntW l d) (cntR l))) : Nat) : Int)) (by omega) (quoN rfl hg hbW)))) (AllSteps.cons (step_plain rfl (acts_move (d := 22) (ltN rfl) (OpX.tmp 7 (V.v (.int .i64 (((cntR l) : Nat) : Int)))))) (AllSteps.cons (step_plain rfl (acts_move (d := 23) (ltN rfl) (OpX.tmp 8 (V.v (.int .i64 (((Nat.gcd (cntW l d) (cntR l)) : Nat) : Int)))))) (AllSteps.cons (step_plain rfl (acts_bin (d := 24) (ltN rfl) (OpV.tmp 22 (.int .i64 (((cntR l) : Nat) : Int))) (OpV.tmp 23 (.int .i64 (((Nat.gcd (cntW l d) (cntR l)) : Nat) : Int))) (r_quo (c := ((((cntR l) / (Nat.gcd (cntW l d) (cntR l))) : Nat) : Int)) (by omega) (quoN rfl hg hbR)))) (AllSteps.cons (step_plain rfl (acts_assign (d := 4) (ltN rfl) (OpX.tmp 21 (V.v (.int .i64 ((((cntW l d) / (Nat.gcd (cntW l d) (cntR l))) : Nat) : Int)))))) (AllSteps.cons (step_plain rfl (acts_assign (d := 5) (ltN rfl) (OpX.tmp 24 (V.v (.int .i64 ((((cntR l) / (Nat.gcd (cntW l d) (cntR l))) : Nat) : Int)))))) (AllSteps.nil))))))))) (by kernel_rfl) (by kernel_rfl) (by kernel_rfl) ?_
    refine wp_ret' ?_
    exact ⟨VRes.tmp 4 (.a (.val (.int .i64 ((((cntW l d) / (Nat.gcd (cntW l d) (cntR l))) : Nat) : Int)))) _ (by kernel_rfl) (bval (congrArg (Value.int .i64) (by unfold shA; rw [if_neg hn0]; first | done | (rw [Nat.gcd_comm]; done)))), VRes.tmp 5 (.a (.val (.int .i64 ((((cntR l) / (Nat.gcd (cntW l d) (cntR l))) : Nat) : Int)))) _ (by kernel_rfl) (bval (congrArg (Value.int .i64) (by unfold shB; rw [if_neg hn0]; first | done | (rw [Nat.gcd_comm]; done))))⟩

set_option maxHeartbeats 4000000 in
set_option maxRecDepth 100000 in
theorem spec_ShareOf_fn (l : List Int) (d : Dom) (hl : l.length ≤ 4194304) : Fn Try.prog 10 [.agg [(.slv l.length 1 (isl l) : A)], .agg ([(.int .i64 d.x : Value), .int .i64 d.y, .bool d.d].map A.val)] [.val (.int .i64 (((shA l d) : Nat) : Int)), .val (.int .i64 (((shB l d) : Nat) : Int))] := by
  have hbW : cntW l d ≤ 9223372036854775807 := by have := cntW_bd l d; omega
  have hbR : cntR l ≤ 9223372036854775807 := by have := cntR_bd l; omega
  have hbW2 := cntW_bd l d
  have hbR2 := cntR_bd l
  refine fn_intro (N := 25) Try.func10 rfl (by kernel_rfl) rfl (Nat.le_of_ble_eq_true rfl) [2, 3, 11, 15, 18] (ret2 rfl rfl (by intro u hu; injection hu with hu; subst hu; rfl)) (fun W => ?_)
  show Wp _ _ _ [(.s 0, some (.s (V.b (.agg [(.slv l.length 1 (isl l) : A)])))), (.s 1, some (.s (V.av [(.int .i64 d.x : Value), .int .i64 d.y, .bool d.d]))), (.o 2, some .free), (.o 3, some .free), (.o 11, some .free), (.o 15, some .free), (.o 18, some .free)]
  refine wp_seq' ?_
  refine wp_region_t ?_
  refine wpc (step_plain rfl (acts_box (d := 2) (h := 2) (b := .agg [(.slv l.length 1 (isl l) : A)]) (ltN rfl) (OpX.tmp 0 (V.b (.agg [(.slv l.length 1 (isl l) : A)]))) (by intro y hy; simp [B.cs] at hy; subst hy; rfl))) (by kernel_rfl) ?_
  refine wpc (step_plain rfl (acts_box (d := 3) (h := 3) (b := .agg ([(.int .i64 d.x : Value), .int .i64 d.y, .bool d.d].map A.val)) (ltN rfl) (OpX.tmp 1 (V.av [(.int .i64 d.x : Value), .int .i64 d.y, .bool d.d])) (by intro y hy; simp [B.cs] at hy; rcases hy with rfl | rfl | rfl <;> rfl))) (by kernel_rfl) ?_
  refine wpc (step_plain rfl (acts_assign (d := 4) (ltN rfl) (OpX.const (.int .i64 0)))) (by kernel_rfl) ?_
  refine wpc (step_plain rfl (acts_assign (d := 5) (ltN rfl) (OpX.const (.int .i64 0)))) (by kernel_rfl) ?_
  refine wpl_nil ?_
  refine wp_seq' ?_
  refine wp_region_t ?_
  refine wpc (step_plain rfl (acts_load_owns (d := 9) (t := 2) (h := 2) (off := 0) (o := ⟨30, 1, true, [(.slv l.length 1 (isl l) : A)]⟩)  (xs := [(.slv l.length 1 (isl l) : A)]) (ltN rfl) qC16_ti_30 rfl (by decide) rfl)) (by kernel_rfl) ?_
  refine wpc (step_plain rfl (acts_load_owns (d := 10) (t := 3) (h := 3) (off := 0) (o := ⟨32, 3, true, [(.val (.int .i64 d.x) : A), .val (.int .i64 d.y), .val (.bool d.d)]⟩)  (xs := [(.int .i64 d.x : Value), .int .i64 d.y, .bool d.d].map A.val) (ltN rfl) qC16_ti_32 rfl (by decide) rfl)) (by kernel_rfl) ?_
  refine wpc (step_plain rfl (acts_call1 (d := 11) (ltN rfl) (spec_CountWith_fn l d (by omega)) (ArgVs.cons (ArgV.regv 9 l.length 1 (isl l)) (ArgVs.cons (ArgV.va (vs := [(.int .i64 d.x : Value), .int .i64 d.y, .bool d.d]) (OpV.agg 10 [(.int .i64 d.x : Value), .int .i64 d.y, .bool d.d])) (ArgVs.nil))) (ResV.val _))) (by kernel_rfl) ?_
  refine wpc (step_plain rfl (acts_assign (d := 6) (ltN rfl) (OpX.tmp 11 (V.v (.int .i64 (((cntW l d) : Nat) : Int)))))) (by kernel_rfl) ?_
  refine wpl_nil ?_
  refine wp_seq' ?_
  refine wp_seq' ?_
  refine wp_region_t ?_
  refine wpc (step_plain rfl (acts_move (d := 12) (ltN rfl) (OpX.tmp 6 (V.v (.int .i64 (((cntW l d) : Nat) : Int)))))) (by kernel_rfl) ?_
  refine wpc (step_plain rfl (acts_bin (d := 13) (ltN rfl) (OpV.tmp 12 (.int .i64 (((cntW l d) : Nat) : Int))) (OpV.const (.int .i64 0)) (r_eql (c := (decide ((((cntW l d) : Nat) : Int) = 0))) rfl))) (by kernel_rfl) ?_
  refine wpl_nil ?_
  refine wp_if (t := 13) (decide ((((cntW l d) : Nat) : Int) = 0)) (by kernel_rfl) (fun c1 => ?_) (fun c1 => ?_)
  · skip
    have c1P := of_decide_eq_true c1
    have hn0 : cntW l d = 0 := by have := of_decide_eq_true c1; omega
    refine wp_seq' ?_
    refine wp_region_t ?_
    refine wpc (step_plain rfl (acts_assign (d := 4) (ltN rfl) (OpX.const (.int .i64 0)))) (by kernel_rfl) ?_
    refine wpc (step_plain rfl (acts_assign (d := 5) (ltN rfl) (OpX.const (.int .i64 1)))) (by kernel_rfl) ?_
    refine wpl_nil ?_
    refine wp_ret' ?_
    exact ⟨VRes.tmp 4 (.a (.val (.int .i64 0))) _ (by kernel_rfl) (bval (congrArg (Value.int .i64) (by (unfold shA; rw [if_pos hn0]; first | done | rfl)))), VRes.tmp 5 (.a (.val (.int .i64 1))) _ (by kernel_rfl) (bval (congrArg (Value.int .i64) (by (unfold shB; rw [if_pos hn0]; first | done | rfl))))⟩
  · skip
    have c1P := of_decide_eq_false c1
    have hn0 : ¬ cntW l d = 0 := by have := of_decide_eq_false c1; omega
    have hg : 0 < (Nat.gcd (cntR l) (cntW l d)) := by have := gcd_q (b := cntR l) hn0; omega
    refine wp_skip' ?_
    refine wp_seq' ?_
    refine wp_region_t ?_
    refine wpc (step_plain rfl (acts_load_owns (d := 14) (t := 2) (h := 2) (off := 0) (o := ⟨30, 1, true, [(.slv l.length 1 (isl l) : A)]⟩)  (xs := [(.slv l.length 1 (isl l) : A)]) (ltN rfl) qC16_ti_30 rfl (by decide) rfl)) (by kernel_rfl) ?_
    refine wpc (step_plain rfl (acts_call1 (d := 15) (ltN rfl) (spec_CountTilings_fn l (by omega)) (ArgVs.cons (ArgV.regv 14 l.length 1 (isl l)) (ArgVs.nil)) (ResV.val _))) (by kernel_rfl) ?_
    refine wpc (step_plain rfl (acts_assign (d := 7) (ltN rfl) (OpX.tmp 15 (V.v (.int .i64 (((cntR l) : Nat) : Int)))))) (by kernel_rfl) ?_
    refine wpl_nil ?_
    refine wp_seq' ?_
    refine wp_region_t ?_
    refine wpc (step_plain rfl (acts_move (d := 16) (ltN rfl) (OpX.tmp 7 (V.v (.int .i64 (((cntR l) : Nat) : Int)))))) (by kernel_rfl) ?_
    refine wpc (step_plain rfl (acts_move (d := 17) (ltN rfl) (OpX.tmp 6 (V.v (.int .i64 (((cntW l d) : Nat) : Int)))))) (by kernel_rfl) ?_
    refine wpc (step_plain rfl (acts_call1 (d := 18) (ltN rfl) (spec_l15Gcd_fn (cntR l) (cntW l d) (by omega) (by omega)) (ArgVs.cons (ArgV.v (OpV.tmp 16 (.int .i64 (((cntR l) : Nat) : Int)))) (ArgVs.cons (ArgV.v (OpV.tmp 17 (.int .i64 (((cntW l d) : Nat) : Int)))) (ArgVs.nil))) (ResV.val _))) (by kernel_rfl) ?_
    refine wpc (step_plain rfl (acts_assign (d := 8) (ltN rfl) (OpX.tmp 18 (V.v (.int .i64 (((Nat.gcd (cntR l) (cntW l d)) : Nat) : Int)))))) (by kernel_rfl) ?_
    refine wpl_nil ?_
    refine wp_seq' ?_
    refine wp_drawn' (by kernel_rfl) (AllSteps.cons (step_plain rfl (acts_move (d := 19) (ltN rfl) (OpX.tmp 6 (V.v (.int .i64 (((cntW l d) : Nat) : Int)))))) (AllSteps.cons (step_plain rfl (acts_move (d := 20) (ltN rfl) (OpX.tmp 8 (V.v (.int .i64 (((Nat.gcd (cntR l) (cntW l d)) : Nat) : Int)))))) (AllSteps.cons (step_plain rfl (acts_bin (d := 21) (ltN rfl) (OpV.tmp 19 (.int .i64 (((cntW l d) : Nat) : Int))) (OpV.tmp 20 (.int .i64 (((Nat.gcd (cntR l) (cntW l d)) : Nat) : Int))) (r_quo (c := ((((cntW l d) / (Nat.gcd (cntR l) (cntW l d))) : Nat) : Int)) (by omega) (quoN rfl hg hbW)))) (AllSteps.cons (step_plain rfl (acts_move (d := 22) (ltN rfl) (OpX.tmp 7 (V.v (.int .i64 (((cntR l) : Nat) : Int)))))) (AllSteps.cons (step_plain rfl (acts_move (d := 23) (ltN rfl) (OpX.tmp 8 (V.v (.int .i64 (((Nat.gcd (cntR l) (cntW l d)) : Nat) : Int)))))) (AllSteps.cons (step_plain rfl (acts_bin (d := 24) (ltN rfl) (OpV.tmp 22 (.int .i64 (((cntR l) : Nat) : Int))) (OpV.tmp 23 (.int .i64 (((Nat.gcd (cntR l) (cntW l d)) : Nat) : Int))) (r_quo (c := ((((cntR l) / (Nat.gcd (cntR l) (cntW l d))) : Nat) : Int)) (by omega) (quoN rfl hg hbR)))) (AllSteps.cons (step_plain rfl (acts_assign (d := 4) (ltN rfl) (OpX.tmp 21 (V.v (.int .i64 ((((cntW l d) / (Nat.gcd (cntR l) (cntW l d))) : Nat) : Int)))))) (AllSteps.cons (step_plain rfl (acts_assign (d := 5) (ltN rfl) (OpX.tmp 24 (V.v (.int .i64 ((((cntR l) / (Nat.gcd (cntR l) (cntW l d))) : Nat) : Int)))))) (AllSteps.nil))))))))) (by kernel_rfl) (by kernel_rfl) (by kernel_rfl) ?_
    refine wp_ret' ?_
    exact ⟨VRes.tmp 4 (.a (.val (.int .i64 ((((cntW l d) / (Nat.gcd (cntR l) (cntW l d))) : Nat) : Int)))) _ (by kernel_rfl) (bval (congrArg (Value.int .i64) (by unfold shA; rw [if_neg hn0]; first | done | (rw [Nat.gcd_comm]; done)))), VRes.tmp 5 (.a (.val (.int .i64 ((((cntR l) / (Nat.gcd (cntR l) (cntW l d))) : Nat) : Int)))) _ (by kernel_rfl) (bval (congrArg (Value.int .i64) (by unfold shB; rw [if_neg hn0]; first | done | (rw [Nat.gcd_comm]; done))))⟩
end Cl
end Go.Proofs.Ytabgfoindidigaa
