/- Walks over clean states, printed by wg.py. No statement is proved here. -/
import Derived.Test.YtmbodpmhokbapaaC24
import Derived.Test.YtmbodpmhokbapaaCl18
namespace Go.Proofs.Ytmbodpmhokbapaa
namespace Cl
open Go.ChangeShapes Go.WideShapes Go.ChangeAt Go.RowKit

theorem nI_at {L M : List Nat} {i : Nat} {s k t : Nat} {lst : List Nat} (h : BT s k L lst i t M) : gI (nI M) i = ((gN lst i : Nat) : Int) := by rw [gI_nI (by have := h.le; omega), h.ow]
theorem BT.skp {l : List Int} {k : Nat} {L lst M : List Nat} {i p q : Nat} (hg : BG (regSet l) k L lst i) (hi : i < lst.length) (h : BT (regSet l) k L lst i (3 * p + q) M) (hp : p < 3) (hq : q < 3) (ho : regOk l = true)
    (hc : ((!(inB (((gN lst i % 10 : Nat) : Int) + ((q : Int) - 1)) 0 9)) || ((!(inB (((gN lst i / 10 : Nat) : Int) + ((p : Int) - 1)) 0 9)) || (decide (gI (mkI (L ++ M)) ((((gN lst i / 10 : Nat) : Int) + ((p : Int) - 1)) * 10 + (((gN lst i % 10 : Nat) : Int) + ((q : Int) - 1))).toNat ≠ 0) || hasC l ⟨((gN lst i % 10 : Nat) : Int) + ((q : Int) - 1) - 1, ((gN lst i / 10 : Nat) : Int) + ((p : Int) - 1) - 1⟩))) = true) : BT (regSet l) k L lst i (3 * p + (q + 1)) M := by
  rcases Bool.eq_false_or_eq_true (inB (((gN lst i % 10 : Nat) : Int) + ((q : Int) - 1)) 0 9) with h1 | h1
  · rcases Bool.eq_false_or_eq_true (inB (((gN lst i / 10 : Nat) : Int) + ((p : Int) - 1)) 0 9) with h2 | h2
    · have hx := inB_true.1 h1
      have hy := inB_true.1 h2
      rw [h1, h2, Bool.not_true, Bool.false_or, Bool.false_or, Bool.or_eq_true, decide_eq_true_eq] at hc
      rcases hc with hc | hc
      · exact BT.no2 hg hi h hp hq hx hy (.inl (Classical.not_not.1 fun hn => hc ((mkI_zero (kxy_at hx hy).2.2).2 hn)))
      · exact BT.no2 hg hi h hp hq hx hy (.inr (free_hasC2 ho hx hy hc))
    · exact h.no1 (hg.at hi) hq (by rw [h2]; exact Bool.and_false _)
  · exact h.no1 (hg.at hi) hq (by rw [h1]; rfl)
theorem skip_orK {l : List Int} (ho : regOk l = true) {k : Nat} (hk : k < 100) {L : List Nat} (h : ScanI (regSet l) k L) (hc : decide (gI (mkI L) k ≠ 0) = true ∨ hasC l (c10 k) = true) : ScanI (regSet l) (k + 1) L ∧ rt (regSet l) (k + 1) = rt (regSet l) k := by
  rcases hc with hc | hc
  · exact skip_no h (.inr (Classical.not_not.1 fun hn => of_decide_eq_true hc ((mkI_zero hk).2 hn)))
  · exact skip_no h (.inl (free_hasC ho hk hc))

theorem qC25_sz_3 : (Try.prog.info? 3).map (·.size) = some 1 := by kernel_rfl
theorem qC25_ti_29 : TI Try.prog 29 true 1 := ⟨⟨_, Try.underlying29, rfl⟩, by kernel_rfl⟩
theorem qC25_ti_3 : TI Try.prog 3 false 1 := ⟨⟨_, Try.underlying3, rfl⟩, by kernel_rfl⟩
theorem qC25_ti_53 : TI Try.prog 53 true 2 := ⟨⟨_, Try.underlying53, rfl⟩, by kernel_rfl⟩
theorem qC25_un_22 : Try.prog.underlying 22 = some (.slice 3) := Try.underlying22
theorem qC25_zi_3 : ZI Try.prog 3 (.int .i64 0) 1 8 := by unfold ZI; kernel_rfl
theorem qC25_zi_53 : ZI Try.prog 53 (.agg #[.int .i64 0, .int .i64 0]) 2 16 := by unfold ZI; kernel_rfl
set_option maxHeartbeats 4000000 in
set_option maxRecDepth 100000 in
theorem spec_CountHoles_fn (l : List Int) (hl : l.length ≤ 4194304) : Fn Try.prog 70 [.agg [(.slv l.length 1 (isl l) : A)]] [.val (.int .i64 (hol l))] := by
 refine fn_intro (N := 131) Try.func70 rfl (by kernel_rfl) rfl (Nat.le_of_ble_eq_true rfl) [1, 7, 15, 20, 23, 44, 52, 55, 86, 92, 113, 128, 129] (ret1 rfl) (fun W => ?_)
 show Wp _ _ _ [(.s 0, some (.s (V.b (.agg [(.slv l.length 1 (isl l) : A)])))), (.o 1, some .free), (.o 7, some .free), (.o 15, some .free), (.o 20, some .free), (.o 23, some .free), (.o 44, some .free), (.o 52, some .free), (.o 55, some .free), (.o 86, some .free), (.o 92, some .free), (.o 113, some .free), (.o 128, some .free), (.o 129, some .free)]
 refine wp_seq' ?_
 refine wp_region_t ?_
 refine w1 (acts_box (d := 1) (h := 1) (b := .agg [(.slv l.length 1 (isl l) : A)]) (ltN rfl) (OpX.tmp 0 (V.b (.agg [(.slv l.length 1 (isl l) : A)]))) (by intro y hy; simp [B.cs] at hy; subst hy; rfl)) ?_
 refine w1 (acts_assign (d := 2) (ltN rfl) (OpX.const (.int .i64 0))) ?_
 refine wpl_nil ?_
 refine wp_seq' ?_
 refine wp_seq' ?_
 refine wp_region_t ?_
 refine w1 (acts_load_owns (d := 14) (t := 1) (h := 1) (off := 0) (o := ⟨29, 1, true, [(.slv l.length 1 (isl l) : A)]⟩)  (xs := [(.slv l.length 1 (isl l) : A)]) (ltN rfl) qC25_ti_29 rfl (by decide) rfl) ?_
 refine w1 (acts_call1 (d := 15) (ltN rfl) (spec_RegionOk_fn l (by omega)) (ArgVs.cons (ArgV.regv 14 l.length 1 (isl l)) (ArgVs.nil)) (ResV.val _)) ?_
 refine w1 (acts_un (d := 16) (ltN rfl) (OpV.tmp 15 (.bool (regOk l))) (r_not (c := (!(regOk l))) rfl)) ?_
 refine wpl_nil ?_
 refine wp_if (t := 16) ((!(regOk l))) (by kernel_rfl) (fun c1 => ?_) (fun c1 => ?_)
 ·skip
  have c2 : (regOk l) = false := by first | simpa using c1 | (rw [← Bool.not_eq_true']; exact c1)
  refine wp_seq' ?_
  refine wp_region_t ?_
  refine w1 (acts_assign (d := 2) (ltN rfl) (OpX.const (.int .i64 0))) ?_
  refine wpl_nil ?_
  refine wp_ret' ?_
  exact VRes.tmp 2 (.a (.val (.int .i64 0))) _ (by kernel_rfl) (bval (congrArg (Value.int .i64) (by exact (hol_no (by simp_all)).symm)))
 ·skip
  have c3 : (regOk l) = true := by first | simpa using c1 | (rw [← Bool.not_eq_false']; exact c1)
  have hro := c3
  refine wp_skip' ?_
  refine wp_seq' ?_
  refine wp_region_t ?_
  refine w1 (acts_assign (d := 3) (ltN rfl) (OpX.const (.int .i64 10))) ?_
  refine wpl_nil ?_
  refine wp_seq' ?_
  refine wp_region_t ?_
  refine w1 (mv 17 3 (V.v (.int .i64 10))) ?_
  refine w1 (mv 18 3 (V.v (.int .i64 10))) ?_
  refine w1 (bn 19 (OpV.tmp 17 (.int .i64 10)) (OpV.tmp 18 (.int .i64 10)) (r_mul (c := 100) (w64 (by omega) (by omega)))) ?_
  refine w1 (acts_make' (d := 20) (h := 20) (n := 100) (s := 1) (xs := isl (List.replicate 100 0)) (ltN rfl) qC25_un_22 qC25_zi_3 (OpV.tmp 19 (.int .i64 100)) (OpV.tmp 19 (.int .i64 100)) rfl rfl (by decide) (by omega) (made_ints' 100)) ?_
  refine w1 (asg 4 20 (V.b (.a (.sl 20 0 100)))) ?_
  refine wpl_nil ?_
  refine wp_seq' ?_
  refine wp_region_t ?_
  refine w1 (acts_assign (d := 5) (ltN rfl) (OpX.const (.int .i64 (-1)))) ?_
  refine wpl_nil ?_
  refine wp_seq' ?_
  refine wp_seq' ?_
  refine wp_region_t ?_
  refine w1 (acts_assign (d := 6) (ltN rfl) (OpX.const (.int .i64 0))) ?_
  refine wpl_nil ?_
  refine wp_block' ?_
  refine wp_loop' (fun (x : Nat × (List Nat)) => match x with | (k, L) => k ≤ 100 ∧ ScanI (regSet l) k L) (fun (x : Nat × (List Nat)) => match x with | (k, L) => [(.s 1, some (.s (V.p 1 0))), (.s 3, some (.s (V.v (.int .i64 10)))), (.s 4, some (.s (V.b (.a (.sl 20 0 100))))), (.s 5, some (.s (V.v (.int .i64 (((rt (regSet l) k : Nat) : Int) - 1))))), (.s 6, some (.s (V.v (.int .i64 ((k : Nat) : Int))))), (.o 1, some (.o ⟨29, 1, true, [(.slv l.length 1 (isl l) : A)]⟩)), (.o 20, some (.o ⟨3, 1, true, pl (isl (mkI L))⟩)), (.o 7, some .free), (.o 15, some .free), (.o 23, some .free), (.o 44, some .free), (.o 52, some .free), (.o 55, some .free), (.o 86, some .free), (.o 92, some .free), (.o 113, some .free), (.o 128, some .free), (.o 129, some .free)]) (fun (x : Nat × (List Nat)) => match x with | (k, L) => 100 - k) ((0 : Nat), ([] : List Nat)) (by exact ⟨by omega, ScanI.zero _⟩) (weak_of id [7, 15, 23, 44, 52, 55, 86, 92, 113, 128, 129] (by kernel_rfl) (wk_s (v' := V.p 1 0) (by kernel_rfl) rfl rfl (wk_s (v' := V.v (.int .i64 10)) (by kernel_rfl) rfl rfl (wk_s (v' := V.b (.a (.sl 20 0 100))) (by kernel_rfl) rfl rfl (wk_s (v' := V.v (.int .i64 (-1))) (by kernel_rfl) (vint (by rfl)) rfl (wk_s (v' := V.v (.int .i64 0)) (by kernel_rfl) (vint (by rfl)) rfl (wk_o (o' := ⟨29, 1, true, [(.slv l.length 1 (isl l) : A)]⟩) (by kernel_rfl) (renob_l (fun h => h) rfl rfl) rfl (wk_o (o' := ⟨3, 1, true, pl (isl (List.replicate 100 0))⟩) (by kernel_rfl) (renob_eq (fun h => h) (congrArg isl (by rfl))) rfl (wk_f rfl (wk_f rfl (wk_f rfl (wk_f rfl (wk_f rfl (wk_f rfl (wk_f rfl (wk_f rfl (wk_f rfl (wk_f rfl (wk_f rfl (wk_nil)))))))))))))))))))) ?_
  rintro ⟨k, L⟩ inv4
  replace inv4 : k ≤ 100 ∧ ScanI (regSet l) k L := inv4
  obtain ⟨inv4_0, inv4_1⟩ := inv4
  show Wp _ _ _ [(.s 1, some (.s (V.p 1 0))), (.s 3, some (.s (V.v (.int .i64 10)))), (.s 4, some (.s (V.b (.a (.sl 20 0 100))))), (.s 5, some (.s (V.v (.int .i64 (((rt (regSet l) k : Nat) : Int) - 1))))), (.s 6, some (.s (V.v (.int .i64 ((k : Nat) : Int))))), (.o 1, some (.o ⟨29, 1, true, [(.slv l.length 1 (isl l) : A)]⟩)), (.o 20, some (.o ⟨3, 1, true, pl (isl (mkI L))⟩)), (.o 7, some .free), (.o 15, some .free), (.o 23, some .free), (.o 44, some .free), (.o 52, some .free), (.o 55, some .free), (.o 86, some .free), (.o 92, some .free), (.o 113, some .free), (.o 128, some .free), (.o 129, some .free)]
  have hS : ScanI (regSet l) k L := by assumption
  have hrl := rt_le (regSet l) k
  have hmil := mkI_len L
  refine wp_seq' ?_
  refine wp_seq' ?_
  refine wp_region_t ?_
  refine w1 (mv 21 6 (V.v (.int .i64 ((k : Nat) : Int)))) ?_
  refine w1 (mv 22 4 (V.b (.a (.sl 20 0 100)))) ?_
  refine w1 (acts_len (d := 23) (X := .sl 20 0 100) (n := 100) (iv := 100) (ltN rfl) qC25_un_22 (OpX.tmp 22 (V.b (.a (.sl 20 0 100)))) (LenOf.sl _ _ _) rfl) ?_
  refine w1 (bn 24 (OpV.tmp 21 (.int .i64 ((k : Nat) : Int))) (OpV.tmp 23 (.int .i64 100)) (r_lss (c := (decide (((k : Nat) : Int) < 100))) rfl)) ?_
  refine wpl_nil ?_
  refine wp_if (t := 24) (decide (((k : Nat) : Int) < 100)) (by kernel_rfl) (fun c5 => ?_) (fun c5 => ?_)
  ·skip
   have c5P := of_decide_eq_true c5
   refine wp_skip' ?_
   refine wp_seq' ?_
   refine wp_block' ?_
   refine wp_seq' ?_
   refine wp_drawn' (by kernel_rfl) (AllSteps.cons (step_plain rfl (mv 27 6 (V.v (.int .i64 ((k : Nat) : Int))))) (AllSteps.cons (step_plain rfl (mv 28 3 (V.v (.int .i64 10)))) (AllSteps.cons (step_plain rfl (bn 29 (OpV.tmp 27 (.int .i64 ((k : Nat) : Int))) (OpV.tmp 28 (.int .i64 10)) (r_rem (c := (((k % 10) : Nat) : Int)) (by decide) (remN (a := ((k : Nat) : Int)) (b := k) (c := 10) rfl)))) (AllSteps.cons (step_plain rfl (bn 30 (OpV.tmp 29 (.int .i64 (((k % 10) : Nat) : Int))) (OpV.const (.int .i64 1)) (r_sub (c := ((((k % 10) : Nat) : Int) - 1)) (w64 (by omega) (by omega))))) (AllSteps.cons (step_plain rfl (mv 31 6 (V.v (.int .i64 ((k : Nat) : Int))))) (AllSteps.cons (step_plain rfl (mv 32 3 (V.v (.int .i64 10)))) (AllSteps.cons (step_plain rfl (bn 33 (OpV.tmp 31 (.int .i64 ((k : Nat) : Int))) (OpV.tmp 32 (.int .i64 10)) (r_quo (c := (((k / 10) : Nat) : Int)) (by decide) (quoN (a := ((k : Nat) : Int)) (b := k) (c := 10) rfl (by decide) (by omega))))) (AllSteps.cons (step_plain rfl (bn 34 (OpV.tmp 33 (.int .i64 (((k / 10) : Nat) : Int))) (OpV.const (.int .i64 1)) (r_sub (c := ((((k / 10) : Nat) : Int) - 1)) (w64 (by omega) (by omega))))) (AllSteps.cons (step_plain rfl (acts_build (d := 35) (t := 53) (cells := [(.int .i64 ((((k % 10) : Nat) : Int) - 1) : Value), .int .i64 ((((k / 10) : Nat) : Int) - 1)]) (ltN rfl) (OpVs.cons (i := 0) (OpV.tmp 30 (.int .i64 ((((k % 10) : Nat) : Int) - 1))) (OpVs.cons (i := 1) (OpV.tmp 34 (.int .i64 ((((k / 10) : Nat) : Int) - 1))) (OpVs.nil))) rfl)) (AllSteps.cons (step_plain rfl (acts_alloc' (d := 7) (h := 7) (cap := 1) (s := 2) (cells := [(.val (.int .i64 0) : A), .val (.int .i64 0)]) (ltN rfl) qC25_zi_53 rfl rfl (by decide))) (AllSteps.cons (step_plain rfl (acts_store (t := 7) (h := 7) (off := 0) (o := ⟨53, 2, true, [(.val (.int .i64 0) : A), .val (.int .i64 0)]⟩) (b := .agg ([(.int .i64 ((((k % 10) : Nat) : Int) - 1) : Value), .int .i64 ((((k / 10) : Nat) : Int) - 1)].map A.val)) (cells := [(.val (.int .i64 ((((k % 10) : Nat) : Int) - 1)) : A), .val (.int .i64 ((((k / 10) : Nat) : Int) - 1))]) qC25_ti_53 (OpX.tmp 35 (V.av [(.int .i64 ((((k % 10) : Nat) : Int) - 1) : Value), .int .i64 ((((k / 10) : Nat) : Int) - 1)])) rfl (by decide) (by intro y hy; simp [B.cs] at hy; rcases hy with rfl | rfl <;> rfl) (Nat.le_of_ble_eq_true rfl) rfl)) (AllSteps.nil)))))))))))) (by kernel_rfl) (by kernel_rfl) (by kernel_rfl) ?_
   refine wp_seq' ?_
   refine wp_seq' ?_
   refine wp_join [(.s 45, some (.s (V.v (.bool ((decide ((gI (mkI L) k) ≠ 0)) || (hasC l (⟨((((k % 10) : Nat) : Int) - 1), ((((k / 10) : Nat) : Int) - 1)⟩ : Cel))))))), (.s 1, some (.s (V.p 1 0))), (.s 3, some (.s (V.v (.int .i64 10)))), (.s 4, some (.s (V.b (.a (.sl 20 0 100))))), (.s 5, some (.s (V.v (.int .i64 (((rt (regSet l) k : Nat) : Int) - 1))))), (.s 6, some (.s (V.v (.int .i64 ((k : Nat) : Int))))), (.o 1, some (.o ⟨29, 1, true, [(.slv l.length 1 (isl l) : A)]⟩)), (.o 7, some (.o ⟨53, 2, true, [(.val (.int .i64 ((((k % 10) : Nat) : Int) - 1)) : A), .val (.int .i64 ((((k / 10) : Nat) : Int) - 1))]⟩)), (.o 20, some (.o ⟨3, 1, true, pl (isl (mkI L))⟩)), (.o 15, some .free), (.o 23, some .free), (.o 44, some .free), (.o 52, some .free), (.o 55, some .free), (.o 86, some .free), (.o 92, some .free), (.o 113, some .free), (.o 128, some .free), (.o 129, some .free)] ?_ ?_
   ·skip
    rcases Bool.eq_false_or_eq_true (decide ((gI (mkI L) k) ≠ 0)) with c6 | c6
    ·skip
     have c6P := of_decide_eq_true c6
     have hkm : k ∈ L := Classical.not_not.1 fun hn => of_decide_eq_true c6 ((mkI_zero (by omega)).2 hn)
     obtain ⟨hs1, hs2⟩ := skip_no hS (.inr hkm)
     refine wp_region_t ?_
     refine w1 (mv 36 4 (V.b (.a (.sl 20 0 100)))) ?_
     refine w1 (mv 37 6 (V.v (.int .i64 ((k : Nat) : Int)))) ?_
     refine w1 (acts_index_sl (d := 38) (x := 36) (h := 20) (off := 0) (n := 100) (k := k) (off' := (k * 1)) (o := ⟨3, 1, true, pl (isl (mkI L))⟩) (ltN rfl) qC25_un_22 qC25_sz_3 (OpV.tmp 37 (.int .i64 ((k : Nat) : Int))) rfl (by omega) (by (simp; done))) ?_
     refine w1 (acts_load_own (d := 39) (t := 38) (h := 20) (off := (k * 1)) (o := ⟨3, 1, true, pl (isl (mkI L))⟩)  (x := .val (.int .i64 (gI (mkI L) k))) (ltN rfl) qC25_ti_3 (pl_get (isl_get1 (k := k) (by omega)))) ?_
     refine w1 (bn 40 (OpV.tmp 39 (.int .i64 (gI (mkI L) k))) (OpV.const (.int .i64 0)) (r_neq (c := true) c6)) ?_
     refine w1 (mv 41 40 (V.v (.bool true))) ?_
     refine w2 (step_off (dj := 41) (b' := true) rfl rfl (by decide) rfl (ltN rfl)) ?_
     refine w2 (step_off (dj := 41) (b' := true) rfl rfl (by decide) rfl (ltN rfl)) ?_
     refine w2 (step_off (dj := 41) (b' := true) rfl rfl (by decide) rfl (ltN rfl)) ?_
     refine w1 (acts_pick_t (d := 45) (ltN rfl) (OpV.tmp 41 (.bool true)) (OpX.const (.bool true))) ?_
     refine wpl_nil ?_
     exact ⟨rfl, weak_reads ⟨(by simp only [c6]; first | done | kernel_rfl), (by repeat (first | exact trivial | refine ⟨by kernel_rfl, ?_⟩))⟩⟩
    ·skip
     have c6P := of_decide_eq_false c6
     have hkn : k ∉ L := (mkI_zero (by omega)).1 (Decidable.not_not.1 (of_decide_eq_false c6))
     refine wp_region_t ?_
     refine w1 (mv 36 4 (V.b (.a (.sl 20 0 100)))) ?_
     refine w1 (mv 37 6 (V.v (.int .i64 ((k : Nat) : Int)))) ?_
     refine w1 (acts_index_sl (d := 38) (x := 36) (h := 20) (off := 0) (n := 100) (k := k) (off' := (k * 1)) (o := ⟨3, 1, true, pl (isl (mkI L))⟩) (ltN rfl) qC25_un_22 qC25_sz_3 (OpV.tmp 37 (.int .i64 ((k : Nat) : Int))) rfl (by omega) (by (simp; done))) ?_
     refine w1 (acts_load_own (d := 39) (t := 38) (h := 20) (off := (k * 1)) (o := ⟨3, 1, true, pl (isl (mkI L))⟩)  (x := .val (.int .i64 (gI (mkI L) k))) (ltN rfl) qC25_ti_3 (pl_get (isl_get1 (k := k) (by omega)))) ?_
     refine w1 (bn 40 (OpV.tmp 39 (.int .i64 (gI (mkI L) k))) (OpV.const (.int .i64 0)) (r_neq (c := false) c6)) ?_
     refine w1 (mv 41 40 (V.v (.bool false))) ?_
     refine w2 (step_on (dj := 41) rfl rfl (acts_load_owns (d := 42) (t := 1) (h := 1) (off := 0) (o := ⟨29, 1, true, [(.slv l.length 1 (isl l) : A)]⟩)  (xs := [(.slv l.length 1 (isl l) : A)]) (ltN rfl) qC25_ti_29 rfl (by decide) rfl)) ?_
     refine w2 (step_on (dj := 41) rfl rfl (acts_load_owns (d := 43) (t := 7) (h := 7) (off := 0) (o := ⟨53, 2, true, [(.val (.int .i64 ((((k % 10) : Nat) : Int) - 1)) : A), .val (.int .i64 ((((k / 10) : Nat) : Int) - 1))]⟩)  (xs := [(.int .i64 ((((k % 10) : Nat) : Int) - 1) : Value), .int .i64 ((((k / 10) : Nat) : Int) - 1)].map A.val) (ltN rfl) qC25_ti_53 rfl (by decide) rfl)) ?_
     refine w2 (step_on (dj := 41) rfl rfl (acts_call1 (d := 44) (ltN rfl) (spec_HasCell_fn l (⟨((((k % 10) : Nat) : Int) - 1), ((((k / 10) : Nat) : Int) - 1)⟩ : Cel) (by omega)) (ArgVs.cons (ArgV.regv 42 l.length 1 (isl l)) (ArgVs.cons (ArgV.va (vs := [(.int .i64 ((((k % 10) : Nat) : Int) - 1) : Value), .int .i64 ((((k / 10) : Nat) : Int) - 1)]) (OpV.agg 43 [(.int .i64 ((((k % 10) : Nat) : Int) - 1) : Value), .int .i64 ((((k / 10) : Nat) : Int) - 1)])) (ArgVs.nil))) (ResV.val _))) ?_
     refine w1 (acts_pick_f (d := 45) (ltN rfl) (OpV.tmp 41 (.bool false)) (OpX.tmp 44 (V.v (.bool (hasC l (⟨((((k % 10) : Nat) : Int) - 1), ((((k / 10) : Nat) : Int) - 1)⟩ : Cel)))))) ?_
     refine wpl_nil ?_
     exact ⟨rfl, weak_reads ⟨(by simp only [c6]; first | done | kernel_rfl), (by repeat (first | exact trivial | refine ⟨by kernel_rfl, ?_⟩))⟩⟩
   refine wp_if (t := 45) (((decide ((gI (mkI L) k) ≠ 0)) || (hasC l (⟨((((k % 10) : Nat) : Int) - 1), ((((k / 10) : Nat) : Int) - 1)⟩ : Cel)))) (by kernel_rfl) (fun c7 => ?_) (fun c7 => ?_)
   ·skip
    have c8 := or_tt c7
    obtain ⟨hs1, hs2⟩ := skip_orK hro (by omega) hS c8
    refine wp_exit' ?_
    refine wp_region_t ?_
    refine w1 (mv 25 6 (V.v (.int .i64 ((k : Nat) : Int)))) ?_
    refine w1 (bn 26 (OpV.tmp 25 (.int .i64 ((k : Nat) : Int))) (OpV.const (.int .i64 1)) (r_add (c := (((k : Nat) : Int) + 1)) (w64 (by omega) (by omega)))) ?_
    refine w1 (asg 6 26 (V.v (.int .i64 (((k : Nat) : Int) + 1)))) ?_
    refine wpl_nil ?_
    exact loop_back ((k + 1), L) (by exact ⟨by omega, hs1⟩) (by show 100 - (k + 1) < 100 - k; omega) (weak_of id [7, 15, 23, 44, 52, 55, 86, 92, 113, 128, 129] (by kernel_rfl) (wk_s (v' := V.p 1 0) (by kernel_rfl) rfl rfl (wk_s (v' := V.v (.int .i64 10)) (by kernel_rfl) rfl rfl (wk_s (v' := V.b (.a (.sl 20 0 100))) (by kernel_rfl) rfl rfl (wk_s (v' := V.v (.int .i64 (((rt (regSet l) k : Nat) : Int) - 1))) (by kernel_rfl) (vint (by omega)) rfl (wk_s (v' := V.v (.int .i64 (((k : Nat) : Int) + 1))) (by kernel_rfl) (vint (by rfl)) rfl (wk_o (o' := ⟨29, 1, true, [(.slv l.length 1 (isl l) : A)]⟩) (by kernel_rfl) (renob_l (fun h => h) rfl rfl) rfl (wk_o (o' := ⟨3, 1, true, pl (isl (mkI L))⟩) (by kernel_rfl) (renob_pl (fun h => h)) rfl (wk_f rfl (wk_f rfl (wk_f rfl (wk_f rfl (wk_f rfl (wk_f rfl (wk_f rfl (wk_f rfl (wk_f rfl (wk_f rfl (wk_f rfl (wk_nil))))))))))))))))))))
   ·skip
    obtain ⟨c9, c10⟩ := or_ff c7
    have c9P := of_decide_eq_false c9
    have hkn : k ∉ L := (mkI_zero (by omega)).1 (Decidable.not_not.1 (of_decide_eq_false c9))
    have hfk : free10 (regSet l) k = true := free_hasC hro (by omega) c10
    refine wp_skip' ?_
    refine wp_seq' ?_
    refine wp_region_t ?_
    refine w1 (mv 46 5 (V.v (.int .i64 (((rt (regSet l) k : Nat) : Int) - 1)))) ?_
    refine w1 (bn 47 (OpV.tmp 46 (.int .i64 (((rt (regSet l) k : Nat) : Int) - 1))) (OpV.const (.int .i64 1)) (r_add (c := ((((rt (regSet l) k : Nat) : Int) - 1) + 1)) (w64 (by omega) (by omega)))) ?_
    refine w1 (asg 5 47 (V.v (.int .i64 ((((rt (regSet l) k : Nat) : Int) - 1) + 1)))) ?_
    refine wpl_nil ?_
    refine wp_seq' ?_
    refine wp_region_t ?_
    refine w1 (mv 48 4 (V.b (.a (.sl 20 0 100)))) ?_
    refine w1 (mv 49 6 (V.v (.int .i64 ((k : Nat) : Int)))) ?_
    refine w1 (acts_index_sl (d := 50) (x := 48) (h := 20) (off := 0) (n := 100) (k := k) (off' := (k * 1)) (o := ⟨3, 1, true, pl (isl (mkI L))⟩) (ltN rfl) qC25_un_22 qC25_sz_3 (OpV.tmp 49 (.int .i64 ((k : Nat) : Int))) rfl (by omega) (by (simp; done))) ?_
    refine w1 (acts_store (t := 50) (h := 20) (off := (k * 1)) (o := ⟨3, 1, true, pl (isl (mkI L))⟩) (b := .a (.val (.int .i64 1))) (cells := pl (isl ((mkI L).set k 1))) qC25_ti_3 (OpX.const (.int .i64 1)) rfl (by decide) (by intro y hy; simp [B.cs] at hy; subst hy; rfl) (by simp only [pl_len, isl_len]; first | omega | assumption | (rw [mkI_len]; omega) | (rw [nI_len]; omega)) (isl_put (k := k) (by omega))) ?_
    refine wpl_nil ?_
    refine wp_seq' ?_
    refine wp_region_t ?_
    refine w1 (mv 51 6 (V.v (.int .i64 ((k : Nat) : Int)))) ?_
    refine w1 (acts_buildSlice' (d := 52) (h := 52) (n := 1) (s := 1) (xs := isl ([((k : Nat) : Int)] : List Int)) (ltN rfl) qC25_un_22 qC25_zi_3 (OpVs.cons (i := 0) (OpV.tmp 51 (.int .i64 ((k : Nat) : Int))) (OpVs.nil)) (by decide) (by decide) (by kernel_rfl) rfl) ?_
    refine w1 (asg 8 52 (V.b (.a (.sl 52 0 1)))) ?_
    refine wpl_nil ?_
    refine wp_seq' ?_
    refine wp_region_t ?_
    refine w1 (acts_assign (d := 9) (ltN rfl) (OpX.const (.int .i64 0))) ?_
    refine wpl_nil ?_
    refine wp_block' ?_
    refine wp_loop' (fun (x : Nat × (List Nat)) => match x with | (i, lst) => BG (regSet l) k L lst i) (fun (x : Nat × (List Nat)) => match x with | (i, lst) => [(.s 1, some (.s (V.p 1 0))), (.s 3, some (.s (V.v (.int .i64 10)))), (.s 4, some (.s (V.b (.a (.sl 20 0 100))))), (.s 5, some (.s (V.v (.int .i64 ((((rt (regSet l) k : Nat) : Int) - 1) + 1))))), (.s 6, some (.s (V.v (.int .i64 ((k : Nat) : Int))))), (.s 8, some (.s (V.b (.a (.sl 52 0 ((nI lst).length)))))), (.s 9, some (.s (V.v (.int .i64 ((i : Nat) : Int))))), (.o 1, some (.o ⟨29, 1, true, [(.slv l.length 1 (isl l) : A)]⟩)), (.o 20, some (.o ⟨3, 1, true, pl (isl (mkI (L ++ lst)))⟩)), (.o 52, some (.o ⟨3, 1, true, pl (isl (nI lst))⟩)), (.o 7, some .free), (.o 15, some .free), (.o 23, some .free), (.o 44, some .free), (.o 55, some .free), (.o 86, some .free), (.o 92, some .free), (.o 113, some .free), (.o 128, some .free), (.o 129, some .free)]) (fun (x : Nat × (List Nat)) => match x with | (i, lst) => 100 - i) ((0 : Nat), ([k] : List Nat)) (by exact BG.zero hS hfk hkn) (weak_of id [7, 15, 23, 44, 55, 86, 92, 113, 128, 129] (by kernel_rfl) (wk_s (v' := V.p 1 0) (by kernel_rfl) rfl rfl (wk_s (v' := V.v (.int .i64 10)) (by kernel_rfl) rfl rfl (wk_s (v' := V.b (.a (.sl 20 0 100))) (by kernel_rfl) rfl rfl (wk_s (v' := V.v (.int .i64 ((((rt (regSet l) k : Nat) : Int) - 1) + 1))) (by kernel_rfl) rfl rfl (wk_s (v' := V.v (.int .i64 ((k : Nat) : Int))) (by kernel_rfl) rfl rfl (wk_s (v' := V.b (.a (.sl 52 0 1))) (by kernel_rfl) (vsl (by rfl) rfl) rfl (wk_s (v' := V.v (.int .i64 0)) (by kernel_rfl) (vint (by rfl)) rfl (wk_o (o' := ⟨29, 1, true, [(.slv l.length 1 (isl l) : A)]⟩) (by kernel_rfl) (renob_l (fun h => h) rfl rfl) rfl (wk_o (o' := ⟨3, 1, true, pl (isl ((mkI L).set k 1))⟩) (by kernel_rfl) (renob_eq (fun h => h) (congrArg isl (by exact (mkI_add _ _).symm))) rfl (wk_o (o' := ⟨3, 1, true, pl (isl [((k : Nat) : Int)])⟩) (by kernel_rfl) (renob_eq (fun h => h) (congrArg isl (by rfl))) rfl (wk_f rfl (wk_f rfl (wk_f rfl (wk_f rfl (wk_f rfl (wk_f rfl (wk_f rfl (wk_f rfl (wk_f rfl (wk_f rfl (wk_nil)))))))))))))))))))))) ?_
    rintro ⟨i, lst⟩ inv11
    replace inv11 : BG (regSet l) k L lst i := inv11
    have hB := inv11
    show Wp _ _ _ [(.s 1, some (.s (V.p 1 0))), (.s 3, some (.s (V.v (.int .i64 10)))), (.s 4, some (.s (V.b (.a (.sl 20 0 100))))), (.s 5, some (.s (V.v (.int .i64 ((((rt (regSet l) k : Nat) : Int) - 1) + 1))))), (.s 6, some (.s (V.v (.int .i64 ((k : Nat) : Int))))), (.s 8, some (.s (V.b (.a (.sl 52 0 ((nI lst).length)))))), (.s 9, some (.s (V.v (.int .i64 ((i : Nat) : Int))))), (.o 1, some (.o ⟨29, 1, true, [(.slv l.length 1 (isl l) : A)]⟩)), (.o 20, some (.o ⟨3, 1, true, pl (isl (mkI (L ++ lst)))⟩)), (.o 52, some (.o ⟨3, 1, true, pl (isl (nI lst))⟩)), (.o 7, some .free), (.o 15, some .free), (.o 23, some .free), (.o 44, some .free), (.o 55, some .free), (.o 86, some .free), (.o 92, some .free), (.o 113, some .free), (.o 128, some .free), (.o 129, some .free)]
    have hbl := hB.len
    have hnl := nI_len lst
    refine wp_seq' ?_
    refine wp_seq' ?_
    refine wp_region_t ?_
    refine w1 (mv 53 9 (V.v (.int .i64 ((i : Nat) : Int)))) ?_
    refine w1 (mv 54 8 (V.b (.a (.sl 52 0 ((nI lst).length))))) ?_
    refine w1 (acts_len (d := 55) (X := .sl 52 0 ((nI lst).length)) (n := ((nI lst).length)) (iv := (((nI lst).length : Nat) : Int)) (ltN rfl) qC25_un_22 (OpX.tmp 54 (V.b (.a (.sl 52 0 ((nI lst).length))))) (LenOf.sl _ _ _) rfl) ?_
    refine w1 (bn 56 (OpV.tmp 53 (.int .i64 ((i : Nat) : Int))) (OpV.tmp 55 (.int .i64 (((nI lst).length : Nat) : Int))) (r_lss (c := (decide (((i : Nat) : Int) < (((nI lst).length : Nat) : Int)))) rfl)) ?_
    refine wpl_nil ?_
    refine wp_if (t := 56) (decide (((i : Nat) : Int) < (((nI lst).length : Nat) : Int))) (by kernel_rfl) (fun c12 => ?_) (fun c12 => ?_)
    ·skip
     have c12P := of_decide_eq_true c12
     have hown0 := hB.at (by omega)
     refine wp_skip' ?_
     refine wp_seq' ?_
     refine wp_block' ?_
     refine wp_seq' ?_
     refine wp_region_t ?_
     refine w1 (acts_assign (d := 10) (ltN rfl) (OpX.const (.int .i64 (-1)))) ?_
     refine wpl_nil ?_
     refine wp_block' ?_
     refine wp_loop' (fun (x : Nat × (List Nat)) => match x with | (p, M) => p ≤ 3 ∧ BT (regSet l) k L lst i (3 * p) M) (fun (x : Nat × (List Nat)) => match x with | (p, M) => [(.s 1, some (.s (V.p 1 0))), (.s 3, some (.s (V.v (.int .i64 10)))), (.s 4, some (.s (V.b (.a (.sl 20 0 100))))), (.s 5, some (.s (V.v (.int .i64 ((((rt (regSet l) k : Nat) : Int) - 1) + 1))))), (.s 6, some (.s (V.v (.int .i64 ((k : Nat) : Int))))), (.s 8, some (.s (V.b (.a (.sl 52 0 ((nI M).length)))))), (.s 9, some (.s (V.v (.int .i64 ((i : Nat) : Int))))), (.s 10, some (.s (V.v (.int .i64 (((p : Nat) : Int) - 1))))), (.o 1, some (.o ⟨29, 1, true, [(.slv l.length 1 (isl l) : A)]⟩)), (.o 20, some (.o ⟨3, 1, true, pl (isl (mkI (L ++ M)))⟩)), (.o 52, some (.o ⟨3, 1, true, pl (isl (nI M))⟩)), (.o 7, some .free), (.o 15, some .free), (.o 23, some .free), (.o 44, some .free), (.o 55, some .free), (.o 86, some .free), (.o 92, some .free), (.o 113, some .free), (.o 128, some .free), (.o 129, some .free)]) (fun (x : Nat × (List Nat)) => match x with | (p, M) => 3 - p) ((0 : Nat), (lst : List Nat)) (by exact ⟨by omega, BT.zero hB (by omega)⟩) (weak_of id [7, 15, 23, 44, 55, 86, 92, 113, 128, 129] (by kernel_rfl) (wk_s (v' := V.p 1 0) (by kernel_rfl) rfl rfl (wk_s (v' := V.v (.int .i64 10)) (by kernel_rfl) rfl rfl (wk_s (v' := V.b (.a (.sl 20 0 100))) (by kernel_rfl) rfl rfl (wk_s (v' := V.v (.int .i64 ((((rt (regSet l) k : Nat) : Int) - 1) + 1))) (by kernel_rfl) rfl rfl (wk_s (v' := V.v (.int .i64 ((k : Nat) : Int))) (by kernel_rfl) rfl rfl (wk_s (v' := V.b (.a (.sl 52 0 ((nI lst).length)))) (by kernel_rfl) rfl rfl (wk_s (v' := V.v (.int .i64 ((i : Nat) : Int))) (by kernel_rfl) rfl rfl (wk_s (v' := V.v (.int .i64 (-1))) (by kernel_rfl) (vint (by rfl)) rfl (wk_o (o' := ⟨29, 1, true, [(.slv l.length 1 (isl l) : A)]⟩) (by kernel_rfl) (renob_l (fun h => h) rfl rfl) rfl (wk_o (o' := ⟨3, 1, true, pl (isl (mkI (L ++ lst)))⟩) (by kernel_rfl) (renob_pl (fun h => h)) rfl (wk_o (o' := ⟨3, 1, true, pl (isl (nI lst))⟩) (by kernel_rfl) (renob_pl (fun h => h)) rfl (wk_f rfl (wk_f rfl (wk_f rfl (wk_f rfl (wk_f rfl (wk_f rfl (wk_f rfl (wk_f rfl (wk_f rfl (wk_f rfl (wk_nil))))))))))))))))))))))) ?_
     rintro ⟨p, M⟩ inv13
     replace inv13 : p ≤ 3 ∧ BT (regSet l) k L lst i (3 * p) M := inv13
     obtain ⟨inv13_0, inv13_1⟩ := inv13
     show Wp _ _ _ [(.s 1, some (.s (V.p 1 0))), (.s 3, some (.s (V.v (.int .i64 10)))), (.s 4, some (.s (V.b (.a (.sl 20 0 100))))), (.s 5, some (.s (V.v (.int .i64 ((((rt (regSet l) k : Nat) : Int) - 1) + 1))))), (.s 6, some (.s (V.v (.int .i64 ((k : Nat) : Int))))), (.s 8, some (.s (V.b (.a (.sl 52 0 ((nI M).length)))))), (.s 9, some (.s (V.v (.int .i64 ((i : Nat) : Int))))), (.s 10, some (.s (V.v (.int .i64 (((p : Nat) : Int) - 1))))), (.o 1, some (.o ⟨29, 1, true, [(.slv l.length 1 (isl l) : A)]⟩)), (.o 20, some (.o ⟨3, 1, true, pl (isl (mkI (L ++ M)))⟩)), (.o 52, some (.o ⟨3, 1, true, pl (isl (nI M))⟩)), (.o 7, some .free), (.o 15, some .free), (.o 23, some .free), (.o 44, some .free), (.o 55, some .free), (.o 86, some .free), (.o 92, some .free), (.o 113, some .free), (.o 128, some .free), (.o 129, some .free)]
     have hT : BT (regSet l) k L lst i (3 * p) M := by assumption
     have hTl := hT.len
     have hnl3 := nI_len M
     refine wp_seq' ?_
     refine wp_seq' ?_
     refine wp_region_t ?_
     refine w1 (mv 59 10 (V.v (.int .i64 (((p : Nat) : Int) - 1)))) ?_
     refine w1 (bn 60 (OpV.tmp 59 (.int .i64 (((p : Nat) : Int) - 1))) (OpV.const (.int .i64 1)) (r_leq (c := (decide ((((p : Nat) : Int) - 1) ≤ 1))) rfl)) ?_
     refine wpl_nil ?_
     refine wp_if (t := 60) (decide ((((p : Nat) : Int) - 1) ≤ 1)) (by kernel_rfl) (fun c14 => ?_) (fun c14 => ?_)
     ·skip
      have c14P := of_decide_eq_true c14
      refine wp_skip' ?_
      refine wp_seq' ?_
      refine wp_block' ?_
      refine wp_seq' ?_
      refine wp_region_t ?_
      refine w1 (acts_assign (d := 11) (ltN rfl) (OpX.const (.int .i64 (-1)))) ?_
      refine wpl_nil ?_
      refine wp_block' ?_
      refine wp_loop' (fun (x : Nat × (List Nat)) => match x with | (q, M2) => q ≤ 3 ∧ BT (regSet l) k L lst i (3 * p + q) M2) (fun (x : Nat × (List Nat)) => match x with | (q, M2) => [(.s 1, some (.s (V.p 1 0))), (.s 3, some (.s (V.v (.int .i64 10)))), (.s 4, some (.s (V.b (.a (.sl 20 0 100))))), (.s 5, some (.s (V.v (.int .i64 ((((rt (regSet l) k : Nat) : Int) - 1) + 1))))), (.s 6, some (.s (V.v (.int .i64 ((k : Nat) : Int))))), (.s 8, some (.s (V.b (.a (.sl 52 0 ((nI M2).length)))))), (.s 9, some (.s (V.v (.int .i64 ((i : Nat) : Int))))), (.s 10, some (.s (V.v (.int .i64 (((p : Nat) : Int) - 1))))), (.s 11, some (.s (V.v (.int .i64 (((q : Nat) : Int) - 1))))), (.o 1, some (.o ⟨29, 1, true, [(.slv l.length 1 (isl l) : A)]⟩)), (.o 20, some (.o ⟨3, 1, true, pl (isl (mkI (L ++ M2)))⟩)), (.o 52, some (.o ⟨3, 1, true, pl (isl (nI M2))⟩)), (.o 7, some .free), (.o 15, some .free), (.o 23, some .free), (.o 44, some .free), (.o 55, some .free), (.o 86, some .free), (.o 92, some .free), (.o 113, some .free), (.o 128, some .free), (.o 129, some .free)]) (fun (x : Nat × (List Nat)) => match x with | (q, M2) => 3 - q) ((0 : Nat), (M : List Nat)) (by exact ⟨by omega, hT⟩) (weak_of id [7, 15, 23, 44, 55, 86, 92, 113, 128, 129] (by kernel_rfl) (wk_s (v' := V.p 1 0) (by kernel_rfl) rfl rfl (wk_s (v' := V.v (.int .i64 10)) (by kernel_rfl) rfl rfl (wk_s (v' := V.b (.a (.sl 20 0 100))) (by kernel_rfl) rfl rfl (wk_s (v' := V.v (.int .i64 ((((rt (regSet l) k : Nat) : Int) - 1) + 1))) (by kernel_rfl) rfl rfl (wk_s (v' := V.v (.int .i64 ((k : Nat) : Int))) (by kernel_rfl) rfl rfl (wk_s (v' := V.b (.a (.sl 52 0 ((nI M).length)))) (by kernel_rfl) rfl rfl (wk_s (v' := V.v (.int .i64 ((i : Nat) : Int))) (by kernel_rfl) rfl rfl (wk_s (v' := V.v (.int .i64 (((p : Nat) : Int) - 1))) (by kernel_rfl) rfl rfl (wk_s (v' := V.v (.int .i64 (-1))) (by kernel_rfl) (vint (by rfl)) rfl (wk_o (o' := ⟨29, 1, true, [(.slv l.length 1 (isl l) : A)]⟩) (by kernel_rfl) (renob_l (fun h => h) rfl rfl) rfl (wk_o (o' := ⟨3, 1, true, pl (isl (mkI (L ++ M)))⟩) (by kernel_rfl) (renob_pl (fun h => h)) rfl (wk_o (o' := ⟨3, 1, true, pl (isl (nI M))⟩) (by kernel_rfl) (renob_pl (fun h => h)) rfl (wk_f rfl (wk_f rfl (wk_f rfl (wk_f rfl (wk_f rfl (wk_f rfl (wk_f rfl (wk_f rfl (wk_f rfl (wk_f rfl (wk_nil)))))))))))))))))))))))) ?_
      rintro ⟨q, M2⟩ inv15
      replace inv15 : q ≤ 3 ∧ BT (regSet l) k L lst i (3 * p + q) M2 := inv15
      obtain ⟨inv15_0, inv15_1⟩ := inv15
      show Wp _ _ _ [(.s 1, some (.s (V.p 1 0))), (.s 3, some (.s (V.v (.int .i64 10)))), (.s 4, some (.s (V.b (.a (.sl 20 0 100))))), (.s 5, some (.s (V.v (.int .i64 ((((rt (regSet l) k : Nat) : Int) - 1) + 1))))), (.s 6, some (.s (V.v (.int .i64 ((k : Nat) : Int))))), (.s 8, some (.s (V.b (.a (.sl 52 0 ((nI M2).length)))))), (.s 9, some (.s (V.v (.int .i64 ((i : Nat) : Int))))), (.s 10, some (.s (V.v (.int .i64 (((p : Nat) : Int) - 1))))), (.s 11, some (.s (V.v (.int .i64 (((q : Nat) : Int) - 1))))), (.o 1, some (.o ⟨29, 1, true, [(.slv l.length 1 (isl l) : A)]⟩)), (.o 20, some (.o ⟨3, 1, true, pl (isl (mkI (L ++ M2)))⟩)), (.o 52, some (.o ⟨3, 1, true, pl (isl (nI M2))⟩)), (.o 7, some .free), (.o 15, some .free), (.o 23, some .free), (.o 44, some .free), (.o 55, some .free), (.o 86, some .free), (.o 92, some .free), (.o 113, some .free), (.o 128, some .free), (.o 129, some .free)]
      have hT2 : BT (regSet l) k L lst i (3 * p + q) M2 := by assumption
      have hTl2 := hT2.len
      have hnl4 := nI_len M2
      have hown := nI_at hT2
      have hil := hT2.le
      refine wp_seq' ?_
      refine wp_seq' ?_
      refine wp_region_t ?_
      refine w1 (mv 63 11 (V.v (.int .i64 (((q : Nat) : Int) - 1)))) ?_
      refine w1 (bn 64 (OpV.tmp 63 (.int .i64 (((q : Nat) : Int) - 1))) (OpV.const (.int .i64 1)) (r_leq (c := (decide ((((q : Nat) : Int) - 1) ≤ 1))) rfl)) ?_
      refine wpl_nil ?_
      refine wp_if (t := 64) (decide ((((q : Nat) : Int) - 1) ≤ 1)) (by kernel_rfl) (fun c16 => ?_) (fun c16 => ?_)
      ·skip
       have c16P := of_decide_eq_true c16
       refine wp_skip' ?_
       refine wp_seq' ?_
       refine wp_block' ?_
       refine wp_seq' ?_
       refine wp_region_t ?_
       refine w1 (mv 67 8 (V.b (.a (.sl 52 0 ((nI M2).length))))) ?_
       refine w1 (mv 68 9 (V.v (.int .i64 ((i : Nat) : Int)))) ?_
       refine w1 (acts_index_sl (d := 69) (x := 67) (h := 52) (off := 0) (n := ((nI M2).length)) (k := i) (off' := (i * 1)) (o := ⟨3, 1, true, pl (isl (nI M2))⟩) (ltN rfl) qC25_un_22 qC25_sz_3 (OpV.tmp 68 (.int .i64 ((i : Nat) : Int))) rfl (by omega) (by (simp; done))) ?_
       refine w1 (acts_load_own (d := 70) (t := 69) (h := 52) (off := (i * 1)) (o := ⟨3, 1, true, pl (isl (nI M2))⟩)  (x := .val (.int .i64 (gI (nI M2) i))) (ltN rfl) qC25_ti_3 (pl_get (isl_get1 (k := i) (by omega)))) ?_
       refine w1 (mv 71 3 (V.v (.int .i64 10))) ?_
       refine w1 (bn 72 (OpV.tmp 70 (.int .i64 (gI (nI M2) i))) (OpV.tmp 71 (.int .i64 10)) (r_rem (c := ((gN lst i % 10 : Nat) : Int)) (by omega) (remN hown))) ?_
       refine w1 (mv 73 11 (V.v (.int .i64 (((q : Nat) : Int) - 1)))) ?_
       refine w1 (bn 74 (OpV.tmp 72 (.int .i64 ((gN lst i % 10 : Nat) : Int))) (OpV.tmp 73 (.int .i64 (((q : Nat) : Int) - 1))) (r_add (c := (((gN lst i % 10 : Nat) : Int) + (((q : Nat) : Int) - 1))) (w64 (by omega) (by omega)))) ?_
       refine w1 (asg 12 74 (V.v (.int .i64 (((gN lst i % 10 : Nat) : Int) + (((q : Nat) : Int) - 1))))) ?_
       refine wpl_nil ?_
       refine wp_seq' ?_
       refine wp_region_t ?_
       refine w1 (mv 75 8 (V.b (.a (.sl 52 0 ((nI M2).length))))) ?_
       refine w1 (mv 76 9 (V.v (.int .i64 ((i : Nat) : Int)))) ?_
       refine w1 (acts_index_sl (d := 77) (x := 75) (h := 52) (off := 0) (n := ((nI M2).length)) (k := i) (off' := (i * 1)) (o := ⟨3, 1, true, pl (isl (nI M2))⟩) (ltN rfl) qC25_un_22 qC25_sz_3 (OpV.tmp 76 (.int .i64 ((i : Nat) : Int))) rfl (by omega) (by (simp; done))) ?_
       refine w1 (acts_load_own (d := 78) (t := 77) (h := 52) (off := (i * 1)) (o := ⟨3, 1, true, pl (isl (nI M2))⟩)  (x := .val (.int .i64 (gI (nI M2) i))) (ltN rfl) qC25_ti_3 (pl_get (isl_get1 (k := i) (by omega)))) ?_
       refine w1 (mv 79 3 (V.v (.int .i64 10))) ?_
       refine w1 (bn 80 (OpV.tmp 78 (.int .i64 (gI (nI M2) i))) (OpV.tmp 79 (.int .i64 10)) (r_quo (c := ((gN lst i / 10 : Nat) : Int)) (by omega) (quoN hown (by decide) (by omega)))) ?_
       refine w1 (mv 81 10 (V.v (.int .i64 (((p : Nat) : Int) - 1)))) ?_
       refine w1 (bn 82 (OpV.tmp 80 (.int .i64 ((gN lst i / 10 : Nat) : Int))) (OpV.tmp 81 (.int .i64 (((p : Nat) : Int) - 1))) (r_add (c := (((gN lst i / 10 : Nat) : Int) + (((p : Nat) : Int) - 1))) (w64 (by omega) (by omega)))) ?_
       refine w1 (asg 13 82 (V.v (.int .i64 (((gN lst i / 10 : Nat) : Int) + (((p : Nat) : Int) - 1))))) ?_
       refine wpl_nil ?_
       refine wp_seq' ?_
       refine wp_seq' ?_
       refine wp_join [(.s 114, some (.s (V.v (.bool ((!(inB (((gN lst i % 10 : Nat) : Int) + (((q : Nat) : Int) - 1)) 0 9)) || ((!(inB (((gN lst i / 10 : Nat) : Int) + (((p : Nat) : Int) - 1)) 0 9)) || ((decide ((gI (mkI (L ++ M2)) ((((((gN lst i / 10 : Nat) : Int) + (((p : Nat) : Int) - 1)) * 10) + (((gN lst i % 10 : Nat) : Int) + (((q : Nat) : Int) - 1))).toNat)) ≠ 0)) || (hasC l (⟨((((gN lst i % 10 : Nat) : Int) + (((q : Nat) : Int) - 1)) - 1), ((((gN lst i / 10 : Nat) : Int) + (((p : Nat) : Int) - 1)) - 1)⟩ : Cel))))))))), (.s 1, some (.s (V.p 1 0))), (.s 3, some (.s (V.v (.int .i64 10)))), (.s 4, some (.s (V.b (.a (.sl 20 0 100))))), (.s 5, some (.s (V.v (.int .i64 ((((rt (regSet l) k : Nat) : Int) - 1) + 1))))), (.s 6, some (.s (V.v (.int .i64 ((k : Nat) : Int))))), (.s 8, some (.s (V.b (.a (.sl 52 0 ((nI M2).length)))))), (.s 9, some (.s (V.v (.int .i64 ((i : Nat) : Int))))), (.s 10, some (.s (V.v (.int .i64 (((p : Nat) : Int) - 1))))), (.s 11, some (.s (V.v (.int .i64 (((q : Nat) : Int) - 1))))), (.s 12, some (.s (V.v (.int .i64 (((gN lst i % 10 : Nat) : Int) + (((q : Nat) : Int) - 1)))))), (.s 13, some (.s (V.v (.int .i64 (((gN lst i / 10 : Nat) : Int) + (((p : Nat) : Int) - 1)))))), (.o 1, some (.o ⟨29, 1, true, [(.slv l.length 1 (isl l) : A)]⟩)), (.o 20, some (.o ⟨3, 1, true, pl (isl (mkI (L ++ M2)))⟩)), (.o 52, some (.o ⟨3, 1, true, pl (isl (nI M2))⟩)), (.o 7, some .free), (.o 15, some .free), (.o 23, some .free), (.o 44, some .free), (.o 55, some .free), (.o 86, some .free), (.o 92, some .free), (.o 113, some .free), (.o 128, some .free), (.o 129, some .free)] ?_ ?_
       ·skip
        rcases Bool.eq_false_or_eq_true ((inB (((gN lst i % 10 : Nat) : Int) + (((q : Nat) : Int) - 1)) 0 9)) with c17 | c17
        ·skip
         have hx1 := inB_true.1 c17
         rcases Bool.eq_false_or_eq_true ((inB (((gN lst i / 10 : Nat) : Int) + (((p : Nat) : Int) - 1)) 0 9)) with c18 | c18
         ·skip
          have hy1 := inB_true.1 c18
          rcases Bool.eq_false_or_eq_true (decide ((gI (mkI (L ++ M2)) ((((((gN lst i / 10 : Nat) : Int) + (((p : Nat) : Int) - 1)) * 10) + (((gN lst i % 10 : Nat) : Int) + (((q : Nat) : Int) - 1))).toNat)) ≠ 0)) with c19 | c19
          ·skip
           have c19P := of_decide_eq_true c19
           have hmk : (kxy (((gN lst i % 10 : Nat) : Int) + (((q : Nat) : Int) - 1)) (((gN lst i / 10 : Nat) : Int) + (((p : Nat) : Int) - 1))) ∈ L ++ M2 := Classical.not_not.1 fun hn => of_decide_eq_true c19 ((mkI_zero (kxy_at hx1 hy1).2.2).2 hn)
           refine wp_region_t ?_
           refine w1 (mv 83 12 (V.v (.int .i64 (((gN lst i % 10 : Nat) : Int) + (((q : Nat) : Int) - 1))))) ?_
           refine w1 (mv 84 3 (V.v (.int .i64 10))) ?_
           refine w1 (bn 85 (OpV.tmp 84 (.int .i64 10)) (OpV.const (.int .i64 1)) (r_sub (c := 9) rfl)) ?_
           refine w1 (acts_call1 (d := 86) (ltN rfl) (spec_l01In_fn (((gN lst i % 10 : Nat) : Int) + (((q : Nat) : Int) - 1)) 0 9 ) (ArgVs.cons (ArgV.v (OpV.tmp 83 (.int .i64 (((gN lst i % 10 : Nat) : Int) + (((q : Nat) : Int) - 1))))) (ArgVs.cons (ArgV.v (OpV.const (.int .i64 0))) (ArgVs.cons (ArgV.v (OpV.tmp 85 (.int .i64 9))) (ArgVs.nil)))) ((resval (congrArg Value.bool c17)))) ?_
           refine w1 (acts_un (d := 87) (ltN rfl) (OpV.tmp 86 (.bool true)) (r_not (c := false) rfl)) ?_
           refine w1 (mv 88 87 (V.v (.bool false))) ?_
           refine w2 (step_on (dj := 88) rfl rfl (mv 89 13 (V.v (.int .i64 (((gN lst i / 10 : Nat) : Int) + (((p : Nat) : Int) - 1)))))) ?_
           refine w2 (step_on (dj := 88) rfl rfl (mv 90 3 (V.v (.int .i64 10)))) ?_
           refine w2 (step_on (dj := 88) rfl rfl (bn 91 (OpV.tmp 90 (.int .i64 10)) (OpV.const (.int .i64 1)) (r_sub (c := 9) rfl))) ?_
           refine w2 (step_on (dj := 88) rfl rfl (acts_call1 (d := 92) (ltN rfl) (spec_l01In_fn (((gN lst i / 10 : Nat) : Int) + (((p : Nat) : Int) - 1)) 0 9 ) (ArgVs.cons (ArgV.v (OpV.tmp 89 (.int .i64 (((gN lst i / 10 : Nat) : Int) + (((p : Nat) : Int) - 1))))) (ArgVs.cons (ArgV.v (OpV.const (.int .i64 0))) (ArgVs.cons (ArgV.v (OpV.tmp 91 (.int .i64 9))) (ArgVs.nil)))) ((resval (congrArg Value.bool c18))))) ?_
           refine w2 (step_on (dj := 88) rfl rfl (acts_un (d := 93) (ltN rfl) (OpV.tmp 92 (.bool true)) (r_not (c := false) rfl))) ?_
           refine w1 (acts_pick_f (d := 94) (ltN rfl) (OpV.tmp 88 (.bool false)) (OpX.tmp 93 (V.v (.bool false)))) ?_
           refine w1 (mv 95 94 (V.v (.bool false))) ?_
           refine w2 (step_on (dj := 95) rfl rfl (mv 96 4 (V.b (.a (.sl 20 0 100))))) ?_
           refine w2 (step_on (dj := 95) rfl rfl (mv 97 13 (V.v (.int .i64 (((gN lst i / 10 : Nat) : Int) + (((p : Nat) : Int) - 1)))))) ?_
           refine w2 (step_on (dj := 95) rfl rfl (mv 98 3 (V.v (.int .i64 10)))) ?_
           refine w2 (step_on (dj := 95) rfl rfl (bn 99 (OpV.tmp 97 (.int .i64 (((gN lst i / 10 : Nat) : Int) + (((p : Nat) : Int) - 1)))) (OpV.tmp 98 (.int .i64 10)) (r_mul (c := ((((gN lst i / 10 : Nat) : Int) + (((p : Nat) : Int) - 1)) * 10)) (w64 (by omega) (by omega))))) ?_
           refine w2 (step_on (dj := 95) rfl rfl (mv 100 12 (V.v (.int .i64 (((gN lst i % 10 : Nat) : Int) + (((q : Nat) : Int) - 1)))))) ?_
           refine w2 (step_on (dj := 95) rfl rfl (bn 101 (OpV.tmp 99 (.int .i64 ((((gN lst i / 10 : Nat) : Int) + (((p : Nat) : Int) - 1)) * 10))) (OpV.tmp 100 (.int .i64 (((gN lst i % 10 : Nat) : Int) + (((q : Nat) : Int) - 1)))) (r_add (c := (((((gN lst i / 10 : Nat) : Int) + (((p : Nat) : Int) - 1)) * 10) + (((gN lst i % 10 : Nat) : Int) + (((q : Nat) : Int) - 1)))) (w64 (by omega) (by omega))))) ?_
           refine w2 (step_on (dj := 95) rfl rfl (acts_index_sl (d := 102) (x := 96) (h := 20) (off := 0) (n := 100) (k := ((((((gN lst i / 10 : Nat) : Int) + (((p : Nat) : Int) - 1)) * 10) + (((gN lst i % 10 : Nat) : Int) + (((q : Nat) : Int) - 1))).toNat)) (off' := (((((((gN lst i / 10 : Nat) : Int) + (((p : Nat) : Int) - 1)) * 10) + (((gN lst i % 10 : Nat) : Int) + (((q : Nat) : Int) - 1))).toNat) * 1)) (o := ⟨3, 1, true, pl (isl (mkI (L ++ M2)))⟩) (ltN rfl) qC25_un_22 qC25_sz_3 (OpV.tmp 101 (.int .i64 (((((gN lst i / 10 : Nat) : Int) + (((p : Nat) : Int) - 1)) * 10) + (((gN lst i % 10 : Nat) : Int) + (((q : Nat) : Int) - 1))))) (Int.toNat_of_nonneg (by omega)).symm (by omega) (by (simp; done)))) ?_
           refine w2 (step_on (dj := 95) rfl rfl (acts_load_own (d := 103) (t := 102) (h := 20) (off := (((((((gN lst i / 10 : Nat) : Int) + (((p : Nat) : Int) - 1)) * 10) + (((gN lst i % 10 : Nat) : Int) + (((q : Nat) : Int) - 1))).toNat) * 1)) (o := ⟨3, 1, true, pl (isl (mkI (L ++ M2)))⟩)  (x := .val (.int .i64 (gI (mkI (L ++ M2)) ((((((gN lst i / 10 : Nat) : Int) + (((p : Nat) : Int) - 1)) * 10) + (((gN lst i % 10 : Nat) : Int) + (((q : Nat) : Int) - 1))).toNat)))) (ltN rfl) qC25_ti_3 (pl_get (isl_get1 (k := ((((((gN lst i / 10 : Nat) : Int) + (((p : Nat) : Int) - 1)) * 10) + (((gN lst i % 10 : Nat) : Int) + (((q : Nat) : Int) - 1))).toNat)) (by (rw [mkI_len]; omega)))))) ?_
           refine w2 (step_on (dj := 95) rfl rfl (bn 104 (OpV.tmp 103 (.int .i64 (gI (mkI (L ++ M2)) ((((((gN lst i / 10 : Nat) : Int) + (((p : Nat) : Int) - 1)) * 10) + (((gN lst i % 10 : Nat) : Int) + (((q : Nat) : Int) - 1))).toNat)))) (OpV.const (.int .i64 0)) (r_neq (c := true) c19))) ?_
           refine w1 (acts_pick_f (d := 105) (ltN rfl) (OpV.tmp 95 (.bool false)) (OpX.tmp 104 (V.v (.bool true)))) ?_
           refine w1 (mv 106 105 (V.v (.bool true))) ?_
           refine w2 (step_off (dj := 106) (b' := true) rfl rfl (by decide) rfl (ltN rfl)) ?_
           refine w2 (step_off (dj := 106) (b' := true) rfl rfl (by decide) rfl (ltN rfl)) ?_
           refine w2 (step_off (dj := 106) (b' := true) rfl rfl (by decide) rfl (ltN rfl)) ?_
           refine w2 (step_off (dj := 106) (b' := true) rfl rfl (by decide) rfl (ltN rfl)) ?_
           refine w2 (step_off (dj := 106) (b' := true) rfl rfl (by decide) rfl (ltN rfl)) ?_
           refine w2 (step_off (dj := 106) (b' := true) rfl rfl (by decide) rfl (ltN rfl)) ?_
           refine w2 (step_off (dj := 106) (b' := true) rfl rfl (by decide) rfl (ltN rfl)) ?_
           refine w1 (acts_pick_t (d := 114) (ltN rfl) (OpV.tmp 106 (.bool true)) (OpX.const (.bool true))) ?_
           refine wpl_nil ?_
           exact ⟨rfl, weak_reads ⟨(by simp only [c17, c18, c19]; first | done | kernel_rfl), (by repeat (first | exact trivial | refine ⟨by kernel_rfl, ?_⟩))⟩⟩
          ·skip
           have c19P := of_decide_eq_false c19
           have hmk : (kxy (((gN lst i % 10 : Nat) : Int) + (((q : Nat) : Int) - 1)) (((gN lst i / 10 : Nat) : Int) + (((p : Nat) : Int) - 1))) ∉ L ++ M2 := (mkI_zero (kxy_at hx1 hy1).2.2).1 (Decidable.not_not.1 (of_decide_eq_false c19))
           refine wp_region_t ?_
           refine w1 (mv 83 12 (V.v (.int .i64 (((gN lst i % 10 : Nat) : Int) + (((q : Nat) : Int) - 1))))) ?_
           refine w1 (mv 84 3 (V.v (.int .i64 10))) ?_
           refine w1 (bn 85 (OpV.tmp 84 (.int .i64 10)) (OpV.const (.int .i64 1)) (r_sub (c := 9) rfl)) ?_
           refine w1 (acts_call1 (d := 86) (ltN rfl) (spec_l01In_fn (((gN lst i % 10 : Nat) : Int) + (((q : Nat) : Int) - 1)) 0 9 ) (ArgVs.cons (ArgV.v (OpV.tmp 83 (.int .i64 (((gN lst i % 10 : Nat) : Int) + (((q : Nat) : Int) - 1))))) (ArgVs.cons (ArgV.v (OpV.const (.int .i64 0))) (ArgVs.cons (ArgV.v (OpV.tmp 85 (.int .i64 9))) (ArgVs.nil)))) ((resval (congrArg Value.bool c17)))) ?_
           refine w1 (acts_un (d := 87) (ltN rfl) (OpV.tmp 86 (.bool true)) (r_not (c := false) rfl)) ?_
           refine w1 (mv 88 87 (V.v (.bool false))) ?_
           refine w2 (step_on (dj := 88) rfl rfl (mv 89 13 (V.v (.int .i64 (((gN lst i / 10 : Nat) : Int) + (((p : Nat) : Int) - 1)))))) ?_
           refine w2 (step_on (dj := 88) rfl rfl (mv 90 3 (V.v (.int .i64 10)))) ?_
           refine w2 (step_on (dj := 88) rfl rfl (bn 91 (OpV.tmp 90 (.int .i64 10)) (OpV.const (.int .i64 1)) (r_sub (c := 9) rfl))) ?_
           refine w2 (step_on (dj := 88) rfl rfl (acts_call1 (d := 92) (ltN rfl) (spec_l01In_fn (((gN lst i / 10 : Nat) : Int) + (((p : Nat) : Int) - 1)) 0 9 ) (ArgVs.cons (ArgV.v (OpV.tmp 89 (.int .i64 (((gN lst i / 10 : Nat) : Int) + (((p : Nat) : Int) - 1))))) (ArgVs.cons (ArgV.v (OpV.const (.int .i64 0))) (ArgVs.cons (ArgV.v (OpV.tmp 91 (.int .i64 9))) (ArgVs.nil)))) ((resval (congrArg Value.bool c18))))) ?_
           refine w2 (step_on (dj := 88) rfl rfl (acts_un (d := 93) (ltN rfl) (OpV.tmp 92 (.bool true)) (r_not (c := false) rfl))) ?_
           refine w1 (acts_pick_f (d := 94) (ltN rfl) (OpV.tmp 88 (.bool false)) (OpX.tmp 93 (V.v (.bool false)))) ?_
           refine w1 (mv 95 94 (V.v (.bool false))) ?_
           refine w2 (step_on (dj := 95) rfl rfl (mv 96 4 (V.b (.a (.sl 20 0 100))))) ?_
           refine w2 (step_on (dj := 95) rfl rfl (mv 97 13 (V.v (.int .i64 (((gN lst i / 10 : Nat) : Int) + (((p : Nat) : Int) - 1)))))) ?_
           refine w2 (step_on (dj := 95) rfl rfl (mv 98 3 (V.v (.int .i64 10)))) ?_
           refine w2 (step_on (dj := 95) rfl rfl (bn 99 (OpV.tmp 97 (.int .i64 (((gN lst i / 10 : Nat) : Int) + (((p : Nat) : Int) - 1)))) (OpV.tmp 98 (.int .i64 10)) (r_mul (c := ((((gN lst i / 10 : Nat) : Int) + (((p : Nat) : Int) - 1)) * 10)) (w64 (by omega) (by omega))))) ?_
           refine w2 (step_on (dj := 95) rfl rfl (mv 100 12 (V.v (.int .i64 (((gN lst i % 10 : Nat) : Int) + (((q : Nat) : Int) - 1)))))) ?_
           refine w2 (step_on (dj := 95) rfl rfl (bn 101 (OpV.tmp 99 (.int .i64 ((((gN lst i / 10 : Nat) : Int) + (((p : Nat) : Int) - 1)) * 10))) (OpV.tmp 100 (.int .i64 (((gN lst i % 10 : Nat) : Int) + (((q : Nat) : Int) - 1)))) (r_add (c := (((((gN lst i / 10 : Nat) : Int) + (((p : Nat) : Int) - 1)) * 10) + (((gN lst i % 10 : Nat) : Int) + (((q : Nat) : Int) - 1)))) (w64 (by omega) (by omega))))) ?_
           refine w2 (step_on (dj := 95) rfl rfl (acts_index_sl (d := 102) (x := 96) (h := 20) (off := 0) (n := 100) (k := ((((((gN lst i / 10 : Nat) : Int) + (((p : Nat) : Int) - 1)) * 10) + (((gN lst i % 10 : Nat) : Int) + (((q : Nat) : Int) - 1))).toNat)) (off' := (((((((gN lst i / 10 : Nat) : Int) + (((p : Nat) : Int) - 1)) * 10) + (((gN lst i % 10 : Nat) : Int) + (((q : Nat) : Int) - 1))).toNat) * 1)) (o := ⟨3, 1, true, pl (isl (mkI (L ++ M2)))⟩) (ltN rfl) qC25_un_22 qC25_sz_3 (OpV.tmp 101 (.int .i64 (((((gN lst i / 10 : Nat) : Int) + (((p : Nat) : Int) - 1)) * 10) + (((gN lst i % 10 : Nat) : Int) + (((q : Nat) : Int) - 1))))) (Int.toNat_of_nonneg (by omega)).symm (by omega) (by (simp; done)))) ?_
           refine w2 (step_on (dj := 95) rfl rfl (acts_load_own (d := 103) (t := 102) (h := 20) (off := (((((((gN lst i / 10 : Nat) : Int) + (((p : Nat) : Int) - 1)) * 10) + (((gN lst i % 10 : Nat) : Int) + (((q : Nat) : Int) - 1))).toNat) * 1)) (o := ⟨3, 1, true, pl (isl (mkI (L ++ M2)))⟩)  (x := .val (.int .i64 (gI (mkI (L ++ M2)) ((((((gN lst i / 10 : Nat) : Int) + (((p : Nat) : Int) - 1)) * 10) + (((gN lst i % 10 : Nat) : Int) + (((q : Nat) : Int) - 1))).toNat)))) (ltN rfl) qC25_ti_3 (pl_get (isl_get1 (k := ((((((gN lst i / 10 : Nat) : Int) + (((p : Nat) : Int) - 1)) * 10) + (((gN lst i % 10 : Nat) : Int) + (((q : Nat) : Int) - 1))).toNat)) (by (rw [mkI_len]; omega)))))) ?_
           refine w2 (step_on (dj := 95) rfl rfl (bn 104 (OpV.tmp 103 (.int .i64 (gI (mkI (L ++ M2)) ((((((gN lst i / 10 : Nat) : Int) + (((p : Nat) : Int) - 1)) * 10) + (((gN lst i % 10 : Nat) : Int) + (((q : Nat) : Int) - 1))).toNat)))) (OpV.const (.int .i64 0)) (r_neq (c := false) c19))) ?_
           refine w1 (acts_pick_f (d := 105) (ltN rfl) (OpV.tmp 95 (.bool false)) (OpX.tmp 104 (V.v (.bool false)))) ?_
           refine w1 (mv 106 105 (V.v (.bool false))) ?_
           refine w2 (step_on (dj := 106) rfl rfl (acts_load_owns (d := 107) (t := 1) (h := 1) (off := 0) (o := ⟨29, 1, true, [(.slv l.length 1 (isl l) : A)]⟩)  (xs := [(.slv l.length 1 (isl l) : A)]) (ltN rfl) qC25_ti_29 rfl (by decide) rfl)) ?_
           refine w2 (step_on (dj := 106) rfl rfl (mv 108 12 (V.v (.int .i64 (((gN lst i % 10 : Nat) : Int) + (((q : Nat) : Int) - 1)))))) ?_
           refine w2 (step_on (dj := 106) rfl rfl (bn 109 (OpV.tmp 108 (.int .i64 (((gN lst i % 10 : Nat) : Int) + (((q : Nat) : Int) - 1)))) (OpV.const (.int .i64 1)) (r_sub (c := ((((gN lst i % 10 : Nat) : Int) + (((q : Nat) : Int) - 1)) - 1)) (w64 (by omega) (by omega))))) ?_
           refine w2 (step_on (dj := 106) rfl rfl (mv 110 13 (V.v (.int .i64 (((gN lst i / 10 : Nat) : Int) + (((p : Nat) : Int) - 1)))))) ?_
           refine w2 (step_on (dj := 106) rfl rfl (bn 111 (OpV.tmp 110 (.int .i64 (((gN lst i / 10 : Nat) : Int) + (((p : Nat) : Int) - 1)))) (OpV.const (.int .i64 1)) (r_sub (c := ((((gN lst i / 10 : Nat) : Int) + (((p : Nat) : Int) - 1)) - 1)) (w64 (by omega) (by omega))))) ?_
           refine w2 (step_on (dj := 106) rfl rfl (acts_build (d := 112) (t := 53) (cells := [(.int .i64 ((((gN lst i % 10 : Nat) : Int) + (((q : Nat) : Int) - 1)) - 1) : Value), .int .i64 ((((gN lst i / 10 : Nat) : Int) + (((p : Nat) : Int) - 1)) - 1)]) (ltN rfl) (OpVs.cons (i := 0) (OpV.tmp 109 (.int .i64 ((((gN lst i % 10 : Nat) : Int) + (((q : Nat) : Int) - 1)) - 1))) (OpVs.cons (i := 1) (OpV.tmp 111 (.int .i64 ((((gN lst i / 10 : Nat) : Int) + (((p : Nat) : Int) - 1)) - 1))) (OpVs.nil))) rfl)) ?_
           refine w2 (step_on (dj := 106) rfl rfl (acts_call1 (d := 113) (ltN rfl) (spec_HasCell_fn l (⟨((((gN lst i % 10 : Nat) : Int) + (((q : Nat) : Int) - 1)) - 1), ((((gN lst i / 10 : Nat) : Int) + (((p : Nat) : Int) - 1)) - 1)⟩ : Cel) (by omega)) (ArgVs.cons (ArgV.regv 107 l.length 1 (isl l)) (ArgVs.cons (ArgV.va (vs := [(.int .i64 ((((gN lst i % 10 : Nat) : Int) + (((q : Nat) : Int) - 1)) - 1) : Value), .int .i64 ((((gN lst i / 10 : Nat) : Int) + (((p : Nat) : Int) - 1)) - 1)]) (OpV.agg 112 [(.int .i64 ((((gN lst i % 10 : Nat) : Int) + (((q : Nat) : Int) - 1)) - 1) : Value), .int .i64 ((((gN lst i / 10 : Nat) : Int) + (((p : Nat) : Int) - 1)) - 1)])) (ArgVs.nil))) (ResV.val _))) ?_
           refine w1 (acts_pick_f (d := 114) (ltN rfl) (OpV.tmp 106 (.bool false)) (OpX.tmp 113 (V.v (.bool (hasC l (⟨((((gN lst i % 10 : Nat) : Int) + (((q : Nat) : Int) - 1)) - 1), ((((gN lst i / 10 : Nat) : Int) + (((p : Nat) : Int) - 1)) - 1)⟩ : Cel)))))) ?_
           refine wpl_nil ?_
           exact ⟨rfl, weak_reads ⟨(by simp only [c17, c18, c19]; first | done | kernel_rfl), (by repeat (first | exact trivial | refine ⟨by kernel_rfl, ?_⟩))⟩⟩
         ·skip
          have hno : (inB (((gN lst i % 10 : Nat) : Int) + (((q : Nat) : Int) - 1)) 0 9 && inB (((gN lst i / 10 : Nat) : Int) + (((p : Nat) : Int) - 1)) 0 9) = false := by rw [c18]; exact Bool.and_false _
          refine wp_region_t ?_
          refine w1 (mv 83 12 (V.v (.int .i64 (((gN lst i % 10 : Nat) : Int) + (((q : Nat) : Int) - 1))))) ?_
          refine w1 (mv 84 3 (V.v (.int .i64 10))) ?_
          refine w1 (bn 85 (OpV.tmp 84 (.int .i64 10)) (OpV.const (.int .i64 1)) (r_sub (c := 9) rfl)) ?_
          refine w1 (acts_call1 (d := 86) (ltN rfl) (spec_l01In_fn (((gN lst i % 10 : Nat) : Int) + (((q : Nat) : Int) - 1)) 0 9 ) (ArgVs.cons (ArgV.v (OpV.tmp 83 (.int .i64 (((gN lst i % 10 : Nat) : Int) + (((q : Nat) : Int) - 1))))) (ArgVs.cons (ArgV.v (OpV.const (.int .i64 0))) (ArgVs.cons (ArgV.v (OpV.tmp 85 (.int .i64 9))) (ArgVs.nil)))) ((resval (congrArg Value.bool c17)))) ?_
          refine w1 (acts_un (d := 87) (ltN rfl) (OpV.tmp 86 (.bool true)) (r_not (c := false) rfl)) ?_
          refine w1 (mv 88 87 (V.v (.bool false))) ?_
          refine w2 (step_on (dj := 88) rfl rfl (mv 89 13 (V.v (.int .i64 (((gN lst i / 10 : Nat) : Int) + (((p : Nat) : Int) - 1)))))) ?_
          refine w2 (step_on (dj := 88) rfl rfl (mv 90 3 (V.v (.int .i64 10)))) ?_
          refine w2 (step_on (dj := 88) rfl rfl (bn 91 (OpV.tmp 90 (.int .i64 10)) (OpV.const (.int .i64 1)) (r_sub (c := 9) rfl))) ?_
          refine w2 (step_on (dj := 88) rfl rfl (acts_call1 (d := 92) (ltN rfl) (spec_l01In_fn (((gN lst i / 10 : Nat) : Int) + (((p : Nat) : Int) - 1)) 0 9 ) (ArgVs.cons (ArgV.v (OpV.tmp 89 (.int .i64 (((gN lst i / 10 : Nat) : Int) + (((p : Nat) : Int) - 1))))) (ArgVs.cons (ArgV.v (OpV.const (.int .i64 0))) (ArgVs.cons (ArgV.v (OpV.tmp 91 (.int .i64 9))) (ArgVs.nil)))) ((resval (congrArg Value.bool c18))))) ?_
          refine w2 (step_on (dj := 88) rfl rfl (acts_un (d := 93) (ltN rfl) (OpV.tmp 92 (.bool false)) (r_not (c := true) rfl))) ?_
          refine w1 (acts_pick_f (d := 94) (ltN rfl) (OpV.tmp 88 (.bool false)) (OpX.tmp 93 (V.v (.bool true)))) ?_
          refine w1 (mv 95 94 (V.v (.bool true))) ?_
          refine w2 (step_off (dj := 95) (b' := true) rfl rfl (by decide) rfl (ltN rfl)) ?_
          refine w2 (step_off (dj := 95) (b' := true) rfl rfl (by decide) rfl (ltN rfl)) ?_
          refine w2 (step_off (dj := 95) (b' := true) rfl rfl (by decide) rfl (ltN rfl)) ?_
          refine w2 (step_off (dj := 95) (b' := true) rfl rfl (by decide) rfl (ltN rfl)) ?_
          refine w2 (step_off (dj := 95) (b' := true) rfl rfl (by decide) rfl (ltN rfl)) ?_
          refine w2 (step_off (dj := 95) (b' := true) rfl rfl (by decide) rfl (ltN rfl)) ?_
          refine w2 (step_off (dj := 95) (b' := true) rfl rfl (by decide) rfl (ltN rfl)) ?_
          refine w2 (step_off (dj := 95) (b' := true) rfl rfl (by decide) rfl (ltN rfl)) ?_
          refine w2 (step_off (dj := 95) (b' := true) rfl rfl (by decide) rfl (ltN rfl)) ?_
          refine w1 (acts_pick_t (d := 105) (ltN rfl) (OpV.tmp 95 (.bool true)) (OpX.const (.bool true))) ?_
          refine w1 (mv 106 105 (V.v (.bool true))) ?_
          refine w2 (step_off (dj := 106) (b' := true) rfl rfl (by decide) rfl (ltN rfl)) ?_
          refine w2 (step_off (dj := 106) (b' := true) rfl rfl (by decide) rfl (ltN rfl)) ?_
          refine w2 (step_off (dj := 106) (b' := true) rfl rfl (by decide) rfl (ltN rfl)) ?_
          refine w2 (step_off (dj := 106) (b' := true) rfl rfl (by decide) rfl (ltN rfl)) ?_
          refine w2 (step_off (dj := 106) (b' := true) rfl rfl (by decide) rfl (ltN rfl)) ?_
          refine w2 (step_off (dj := 106) (b' := true) rfl rfl (by decide) rfl (ltN rfl)) ?_
          refine w2 (step_off (dj := 106) (b' := true) rfl rfl (by decide) rfl (ltN rfl)) ?_
          refine w1 (acts_pick_t (d := 114) (ltN rfl) (OpV.tmp 106 (.bool true)) (OpX.const (.bool true))) ?_
          refine wpl_nil ?_
          exact ⟨rfl, weak_reads ⟨(by simp only [c17, c18]; first | done | kernel_rfl), (by repeat (first | exact trivial | refine ⟨by kernel_rfl, ?_⟩))⟩⟩
        ·skip
         have hno : (inB (((gN lst i % 10 : Nat) : Int) + (((q : Nat) : Int) - 1)) 0 9 && inB (((gN lst i / 10 : Nat) : Int) + (((p : Nat) : Int) - 1)) 0 9) = false := by rw [c17]; rfl
         refine wp_region_t ?_
         refine w1 (mv 83 12 (V.v (.int .i64 (((gN lst i % 10 : Nat) : Int) + (((q : Nat) : Int) - 1))))) ?_
         refine w1 (mv 84 3 (V.v (.int .i64 10))) ?_
         refine w1 (bn 85 (OpV.tmp 84 (.int .i64 10)) (OpV.const (.int .i64 1)) (r_sub (c := 9) rfl)) ?_
         refine w1 (acts_call1 (d := 86) (ltN rfl) (spec_l01In_fn (((gN lst i % 10 : Nat) : Int) + (((q : Nat) : Int) - 1)) 0 9 ) (ArgVs.cons (ArgV.v (OpV.tmp 83 (.int .i64 (((gN lst i % 10 : Nat) : Int) + (((q : Nat) : Int) - 1))))) (ArgVs.cons (ArgV.v (OpV.const (.int .i64 0))) (ArgVs.cons (ArgV.v (OpV.tmp 85 (.int .i64 9))) (ArgVs.nil)))) ((resval (congrArg Value.bool c17)))) ?_
         refine w1 (acts_un (d := 87) (ltN rfl) (OpV.tmp 86 (.bool false)) (r_not (c := true) rfl)) ?_
         refine w1 (mv 88 87 (V.v (.bool true))) ?_
         refine w2 (step_off (dj := 88) (b' := true) rfl rfl (by decide) rfl (ltN rfl)) ?_
         refine w2 (step_off (dj := 88) (b' := true) rfl rfl (by decide) rfl (ltN rfl)) ?_
         refine w2 (step_off (dj := 88) (b' := true) rfl rfl (by decide) rfl (ltN rfl)) ?_
         refine w2 (step_off (dj := 88) (b' := true) rfl rfl (by decide) rfl (ltN rfl)) ?_
         refine w2 (step_off (dj := 88) (b' := true) rfl rfl (by decide) rfl (ltN rfl)) ?_
         refine w1 (acts_pick_t (d := 94) (ltN rfl) (OpV.tmp 88 (.bool true)) (OpX.const (.bool true))) ?_
         refine w1 (mv 95 94 (V.v (.bool true))) ?_
         refine w2 (step_off (dj := 95) (b' := true) rfl rfl (by decide) rfl (ltN rfl)) ?_
         refine w2 (step_off (dj := 95) (b' := true) rfl rfl (by decide) rfl (ltN rfl)) ?_
         refine w2 (step_off (dj := 95) (b' := true) rfl rfl (by decide) rfl (ltN rfl)) ?_
         refine w2 (step_off (dj := 95) (b' := true) rfl rfl (by decide) rfl (ltN rfl)) ?_
         refine w2 (step_off (dj := 95) (b' := true) rfl rfl (by decide) rfl (ltN rfl)) ?_
         refine w2 (step_off (dj := 95) (b' := true) rfl rfl (by decide) rfl (ltN rfl)) ?_
         refine w2 (step_off (dj := 95) (b' := true) rfl rfl (by decide) rfl (ltN rfl)) ?_
         refine w2 (step_off (dj := 95) (b' := true) rfl rfl (by decide) rfl (ltN rfl)) ?_
         refine w2 (step_off (dj := 95) (b' := true) rfl rfl (by decide) rfl (ltN rfl)) ?_
         refine w1 (acts_pick_t (d := 105) (ltN rfl) (OpV.tmp 95 (.bool true)) (OpX.const (.bool true))) ?_
         refine w1 (mv 106 105 (V.v (.bool true))) ?_
         refine w2 (step_off (dj := 106) (b' := true) rfl rfl (by decide) rfl (ltN rfl)) ?_
         refine w2 (step_off (dj := 106) (b' := true) rfl rfl (by decide) rfl (ltN rfl)) ?_
         refine w2 (step_off (dj := 106) (b' := true) rfl rfl (by decide) rfl (ltN rfl)) ?_
         refine w2 (step_off (dj := 106) (b' := true) rfl rfl (by decide) rfl (ltN rfl)) ?_
         refine w2 (step_off (dj := 106) (b' := true) rfl rfl (by decide) rfl (ltN rfl)) ?_
         refine w2 (step_off (dj := 106) (b' := true) rfl rfl (by decide) rfl (ltN rfl)) ?_
         refine w2 (step_off (dj := 106) (b' := true) rfl rfl (by decide) rfl (ltN rfl)) ?_
         refine w1 (acts_pick_t (d := 114) (ltN rfl) (OpV.tmp 106 (.bool true)) (OpX.const (.bool true))) ?_
         refine wpl_nil ?_
         exact ⟨rfl, weak_reads ⟨(by simp only [c17]; first | done | kernel_rfl), (by repeat (first | exact trivial | refine ⟨by kernel_rfl, ?_⟩))⟩⟩
       refine wp_if (t := 114) (((!(inB (((gN lst i % 10 : Nat) : Int) + (((q : Nat) : Int) - 1)) 0 9)) || ((!(inB (((gN lst i / 10 : Nat) : Int) + (((p : Nat) : Int) - 1)) 0 9)) || ((decide ((gI (mkI (L ++ M2)) ((((((gN lst i / 10 : Nat) : Int) + (((p : Nat) : Int) - 1)) * 10) + (((gN lst i % 10 : Nat) : Int) + (((q : Nat) : Int) - 1))).toNat)) ≠ 0)) || (hasC l (⟨((((gN lst i % 10 : Nat) : Int) + (((q : Nat) : Int) - 1)) - 1), ((((gN lst i / 10 : Nat) : Int) + (((p : Nat) : Int) - 1)) - 1)⟩ : Cel)))))) (by kernel_rfl) (fun c20 => ?_) (fun c20 => ?_)
       ·skip
        have hsk := BT.skp hB (by omega) hT2 (by omega) (by omega) hro c20
        have c21 := or_tt c20
        refine wp_exit' ?_
        refine wp_region_t ?_
        refine w1 (mv 65 11 (V.v (.int .i64 (((q : Nat) : Int) - 1)))) ?_
        refine w1 (bn 66 (OpV.tmp 65 (.int .i64 (((q : Nat) : Int) - 1))) (OpV.const (.int .i64 1)) (r_add (c := ((((q : Nat) : Int) - 1) + 1)) (w64 (by omega) (by omega)))) ?_
        refine w1 (asg 11 66 (V.v (.int .i64 ((((q : Nat) : Int) - 1) + 1)))) ?_
        refine wpl_nil ?_
        exact loop_back ((q + 1), M2) (by refine ⟨by omega, ?_⟩; first | exact hsk | exact BT.yes hB (by omega) hT2 (by omega) (by omega) hx1 hy1 hmk hfr) (by show 3 - (q + 1) < 3 - q; omega) (weak_of id [7, 15, 23, 44, 55, 86, 92, 113, 128, 129] (by kernel_rfl) (wk_s (v' := V.p 1 0) (by kernel_rfl) rfl rfl (wk_s (v' := V.v (.int .i64 10)) (by kernel_rfl) rfl rfl (wk_s (v' := V.b (.a (.sl 20 0 100))) (by kernel_rfl) rfl rfl (wk_s (v' := V.v (.int .i64 ((((rt (regSet l) k : Nat) : Int) - 1) + 1))) (by kernel_rfl) rfl rfl (wk_s (v' := V.v (.int .i64 ((k : Nat) : Int))) (by kernel_rfl) rfl rfl (wk_s (v' := V.b (.a (.sl 52 0 ((nI M2).length)))) (by kernel_rfl) rfl rfl (wk_s (v' := V.v (.int .i64 ((i : Nat) : Int))) (by kernel_rfl) rfl rfl (wk_s (v' := V.v (.int .i64 (((p : Nat) : Int) - 1))) (by kernel_rfl) rfl rfl (wk_s (v' := V.v (.int .i64 ((((q : Nat) : Int) - 1) + 1))) (by kernel_rfl) (vint (by omega)) rfl (wk_o (o' := ⟨29, 1, true, [(.slv l.length 1 (isl l) : A)]⟩) (by kernel_rfl) (renob_l (fun h => h) rfl rfl) rfl (wk_o (o' := ⟨3, 1, true, pl (isl (mkI (L ++ M2)))⟩) (by kernel_rfl) (renob_pl (fun h => h)) rfl (wk_o (o' := ⟨3, 1, true, pl (isl (nI M2))⟩) (by kernel_rfl) (renob_pl (fun h => h)) rfl (wk_f rfl (wk_f rfl (wk_f rfl (wk_f rfl (wk_f rfl (wk_f rfl (wk_f rfl (wk_f rfl (wk_f rfl (wk_f rfl (wk_nil))))))))))))))))))))))))
       ·skip
        obtain ⟨c22, c23⟩ := or_ff c20
        have c24 : (inB (((gN lst i % 10 : Nat) : Int) + (((q : Nat) : Int) - 1)) 0 9) = true := by first | simpa using c22 | (rw [← Bool.not_eq_false']; exact c22)
        have hx1 := inB_true.1 c24
        obtain ⟨c25, c26⟩ := or_ff c23
        have c27 : (inB (((gN lst i / 10 : Nat) : Int) + (((p : Nat) : Int) - 1)) 0 9) = true := by first | simpa using c25 | (rw [← Bool.not_eq_false']; exact c25)
        have hy1 := inB_true.1 c27
        obtain ⟨c28, c29⟩ := or_ff c26
        have c28P := of_decide_eq_false c28
        have hmk : (kxy (((gN lst i % 10 : Nat) : Int) + (((q : Nat) : Int) - 1)) (((gN lst i / 10 : Nat) : Int) + (((p : Nat) : Int) - 1))) ∉ L ++ M2 := (mkI_zero (kxy_at hx1 hy1).2.2).1 (Decidable.not_not.1 (of_decide_eq_false c28))
        have hfr : free10 (regSet l) (kxy (((gN lst i % 10 : Nat) : Int) + (((q : Nat) : Int) - 1)) (((gN lst i / 10 : Nat) : Int) + (((p : Nat) : Int) - 1))) = true := free_hasC2 hro hx1 hy1 c29
        refine wp_skip' ?_
        refine wp_seq' ?_
        refine wp_region_t ?_
        refine w1 (mv 115 4 (V.b (.a (.sl 20 0 100)))) ?_
        refine w1 (mv 116 13 (V.v (.int .i64 (((gN lst i / 10 : Nat) : Int) + (((p : Nat) : Int) - 1))))) ?_
        refine w1 (mv 117 3 (V.v (.int .i64 10))) ?_
        refine w1 (bn 118 (OpV.tmp 116 (.int .i64 (((gN lst i / 10 : Nat) : Int) + (((p : Nat) : Int) - 1)))) (OpV.tmp 117 (.int .i64 10)) (r_mul (c := ((((gN lst i / 10 : Nat) : Int) + (((p : Nat) : Int) - 1)) * 10)) (w64 (by omega) (by omega)))) ?_
        refine w1 (mv 119 12 (V.v (.int .i64 (((gN lst i % 10 : Nat) : Int) + (((q : Nat) : Int) - 1))))) ?_
        refine w1 (bn 120 (OpV.tmp 118 (.int .i64 ((((gN lst i / 10 : Nat) : Int) + (((p : Nat) : Int) - 1)) * 10))) (OpV.tmp 119 (.int .i64 (((gN lst i % 10 : Nat) : Int) + (((q : Nat) : Int) - 1)))) (r_add (c := (((((gN lst i / 10 : Nat) : Int) + (((p : Nat) : Int) - 1)) * 10) + (((gN lst i % 10 : Nat) : Int) + (((q : Nat) : Int) - 1)))) (w64 (by omega) (by omega)))) ?_
        refine w1 (acts_index_sl (d := 121) (x := 115) (h := 20) (off := 0) (n := 100) (k := ((((((gN lst i / 10 : Nat) : Int) + (((p : Nat) : Int) - 1)) * 10) + (((gN lst i % 10 : Nat) : Int) + (((q : Nat) : Int) - 1))).toNat)) (off' := (((((((gN lst i / 10 : Nat) : Int) + (((p : Nat) : Int) - 1)) * 10) + (((gN lst i % 10 : Nat) : Int) + (((q : Nat) : Int) - 1))).toNat) * 1)) (o := ⟨3, 1, true, pl (isl (mkI (L ++ M2)))⟩) (ltN rfl) qC25_un_22 qC25_sz_3 (OpV.tmp 120 (.int .i64 (((((gN lst i / 10 : Nat) : Int) + (((p : Nat) : Int) - 1)) * 10) + (((gN lst i % 10 : Nat) : Int) + (((q : Nat) : Int) - 1))))) (Int.toNat_of_nonneg (by omega)).symm (by omega) (by (simp; done))) ?_
        refine w1 (acts_store (t := 121) (h := 20) (off := (((((((gN lst i / 10 : Nat) : Int) + (((p : Nat) : Int) - 1)) * 10) + (((gN lst i % 10 : Nat) : Int) + (((q : Nat) : Int) - 1))).toNat) * 1)) (o := ⟨3, 1, true, pl (isl (mkI (L ++ M2)))⟩) (b := .a (.val (.int .i64 1))) (cells := pl (isl ((mkI (L ++ M2)).set ((((((gN lst i / 10 : Nat) : Int) + (((p : Nat) : Int) - 1)) * 10) + (((gN lst i % 10 : Nat) : Int) + (((q : Nat) : Int) - 1))).toNat) 1))) qC25_ti_3 (OpX.const (.int .i64 1)) rfl (by decide) (by intro y hy; simp [B.cs] at hy; subst hy; rfl) (by simp only [pl_len, isl_len]; first | omega | assumption | (rw [mkI_len]; omega) | (rw [nI_len]; omega)) (isl_put (k := ((((((gN lst i / 10 : Nat) : Int) + (((p : Nat) : Int) - 1)) * 10) + (((gN lst i % 10 : Nat) : Int) + (((q : Nat) : Int) - 1))).toNat)) (by (rw [mkI_len]; omega)))) ?_
        refine wpl_nil ?_
        refine wp_region_t ?_
        refine w1 (mv 122 8 (V.b (.a (.sl 52 0 ((nI M2).length))))) ?_
        refine w1 (mv 123 13 (V.v (.int .i64 (((gN lst i / 10 : Nat) : Int) + (((p : Nat) : Int) - 1))))) ?_
        refine w1 (mv 124 3 (V.v (.int .i64 10))) ?_
        refine w1 (bn 125 (OpV.tmp 123 (.int .i64 (((gN lst i / 10 : Nat) : Int) + (((p : Nat) : Int) - 1)))) (OpV.tmp 124 (.int .i64 10)) (r_mul (c := ((((gN lst i / 10 : Nat) : Int) + (((p : Nat) : Int) - 1)) * 10)) (w64 (by omega) (by omega)))) ?_
        refine w1 (mv 126 12 (V.v (.int .i64 (((gN lst i % 10 : Nat) : Int) + (((q : Nat) : Int) - 1))))) ?_
        refine w1 (bn 127 (OpV.tmp 125 (.int .i64 ((((gN lst i / 10 : Nat) : Int) + (((p : Nat) : Int) - 1)) * 10))) (OpV.tmp 126 (.int .i64 (((gN lst i % 10 : Nat) : Int) + (((q : Nat) : Int) - 1)))) (r_add (c := (((((gN lst i / 10 : Nat) : Int) + (((p : Nat) : Int) - 1)) * 10) + (((gN lst i % 10 : Nat) : Int) + (((q : Nat) : Int) - 1)))) (w64 (by omega) (by omega)))) ?_
        refine w1 (acts_buildSlice' (d := 128) (h := 128) (n := 1) (s := 1) (xs := isl ([(((((gN lst i / 10 : Nat) : Int) + (((p : Nat) : Int) - 1)) * 10) + (((gN lst i % 10 : Nat) : Int) + (((q : Nat) : Int) - 1)))] : List Int)) (ltN rfl) qC25_un_22 qC25_zi_3 (OpVs.cons (i := 0) (OpV.tmp 127 (.int .i64 (((((gN lst i / 10 : Nat) : Int) + (((p : Nat) : Int) - 1)) * 10) + (((gN lst i % 10 : Nat) : Int) + (((q : Nat) : Int) - 1))))) (OpVs.nil)) (by decide) (by decide) (by kernel_rfl) rfl) ?_
        refine w1 (acts_app (d := 129) (x := 122) (h := 52) (h2 := 129) (n := ((nI M2).length)) (m := 1) (nm := (((nI M2) ++ [(((((gN lst i / 10 : Nat) : Int) + (((p : Nat) : Int) - 1)) * 10) + (((gN lst i % 10 : Nat) : Int) + (((q : Nat) : Int) - 1)))]).length)) (X := .sl 128 0 1) (xs := isl (nI M2)) (ys := isl [(((((gN lst i / 10 : Nat) : Int) + (((p : Nat) : Int) - 1)) * 10) + (((gN lst i % 10 : Nat) : Int) + (((q : Nat) : Int) - 1)))]) (zs := isl ((nI M2) ++ [(((((gN lst i / 10 : Nat) : Int) + (((p : Nat) : Int) - 1)) * 10) + (((gN lst i % 10 : Nat) : Int) + (((q : Nat) : Int) - 1)))])) (ltN rfl) qC25_un_22 qC25_zi_3 rfl (by decide) (by decide) (by exact isl_len _) (OpX.tmp 128 (V.b (.a (.sl 128 0 1)))) (src_own (h := 128) (T := 3) (s := 1) (ex := true) (n := 1) (by exact isl_len _)) (isl_one' _) (by omega) (by exact (isl_append _ _).symm) (by (simp; done))) ?_
        refine w1 (acts_assign (d := 8) (ltN rfl) (OpX.tmp 129 (V.b (.a (.sl 129 0 (((nI M2) ++ [(((((gN lst i / 10 : Nat) : Int) + (((p : Nat) : Int) - 1)) * 10) + (((gN lst i % 10 : Nat) : Int) + (((q : Nat) : Int) - 1)))]).length)))))) ?_
        refine wpl_nil ?_
        refine wp_region_t ?_
        refine w1 (mv 65 11 (V.v (.int .i64 (((q : Nat) : Int) - 1)))) ?_
        refine w1 (bn 66 (OpV.tmp 65 (.int .i64 (((q : Nat) : Int) - 1))) (OpV.const (.int .i64 1)) (r_add (c := ((((q : Nat) : Int) - 1) + 1)) (w64 (by omega) (by omega)))) ?_
        refine w1 (asg 11 66 (V.v (.int .i64 ((((q : Nat) : Int) - 1) + 1)))) ?_
        refine wpl_nil ?_
        exact loop_back ((q + 1), (M2 ++ [(kxy (((gN lst i % 10 : Nat) : Int) + (((q : Nat) : Int) - 1)) (((gN lst i / 10 : Nat) : Int) + (((p : Nat) : Int) - 1)))])) (by refine ⟨by omega, ?_⟩; first | exact hsk | exact BT.yes hB (by omega) hT2 (by omega) (by omega) hx1 hy1 hmk hfr) (by show 3 - (q + 1) < 3 - q; omega) (weak_of (subst1 [(52, 129)]) [7, 15, 23, 44, 55, 86, 92, 113, 128, 129] (by kernel_rfl) (wk_s (v' := V.p 1 0) (by kernel_rfl) rfl rfl (wk_s (v' := V.v (.int .i64 10)) (by kernel_rfl) rfl rfl (wk_s (v' := V.b (.a (.sl 20 0 100))) (by kernel_rfl) rfl rfl (wk_s (v' := V.v (.int .i64 ((((rt (regSet l) k : Nat) : Int) - 1) + 1))) (by kernel_rfl) rfl rfl (wk_s (v' := V.v (.int .i64 ((k : Nat) : Int))) (by kernel_rfl) rfl rfl (wk_s (v' := V.b (.a (.sl 129 0 (((nI M2) ++ [(((((gN lst i / 10 : Nat) : Int) + (((p : Nat) : Int) - 1)) * 10) + (((gN lst i % 10 : Nat) : Int) + (((q : Nat) : Int) - 1)))]).length)))) (by kernel_rfl) (vsl (by (exact congrArg List.length (by first | rfl | omega | (rw [← List.append_assoc, ← mkI_add]; rfl) | (rw [← nI_app]; unfold kxy; congr 2; omega) | (simp [nI_len]; done)))) rfl) rfl (wk_s (v' := V.v (.int .i64 ((i : Nat) : Int))) (by kernel_rfl) rfl rfl (wk_s (v' := V.v (.int .i64 (((p : Nat) : Int) - 1))) (by kernel_rfl) rfl rfl (wk_s (v' := V.v (.int .i64 ((((q : Nat) : Int) - 1) + 1))) (by kernel_rfl) (vint (by omega)) rfl (wk_o (o' := ⟨29, 1, true, [(.slv l.length 1 (isl l) : A)]⟩) (by kernel_rfl) (renob_l (fun h => h) rfl rfl) rfl (wk_o (o' := ⟨3, 1, true, pl (isl ((mkI (L ++ M2)).set ((((((gN lst i / 10 : Nat) : Int) + (((p : Nat) : Int) - 1)) * 10) + (((gN lst i % 10 : Nat) : Int) + (((q : Nat) : Int) - 1))).toNat) 1))⟩) (by kernel_rfl) (renob_eq (fun h => h) (congrArg isl (by (rw [← List.append_assoc, ← mkI_add]; rfl)))) rfl (wk_o (o' := ⟨3, 1, true, pl (isl ((nI M2) ++ [(((((gN lst i / 10 : Nat) : Int) + (((p : Nat) : Int) - 1)) * 10) + (((gN lst i % 10 : Nat) : Int) + (((q : Nat) : Int) - 1)))]))⟩) (by kernel_rfl) (renob_eq (fun h => h) (congrArg isl (by (rw [← nI_app]; unfold kxy; congr 2; omega)))) rfl (wk_f rfl (wk_f rfl (wk_f rfl (wk_f rfl (wk_f rfl (wk_f rfl (wk_f rfl (wk_f rfl (wk_f rfl (wk_f rfl (wk_nil))))))))))))))))))))))))
      ·skip
       have c16P := of_decide_eq_false c16
       refine wp_exit' ?_
       refine wp_region_t ?_
       refine w1 (mv 61 10 (V.v (.int .i64 (((p : Nat) : Int) - 1)))) ?_
       refine w1 (bn 62 (OpV.tmp 61 (.int .i64 (((p : Nat) : Int) - 1))) (OpV.const (.int .i64 1)) (r_add (c := ((((p : Nat) : Int) - 1) + 1)) (w64 (by omega) (by omega)))) ?_
       refine w1 (asg 10 62 (V.v (.int .i64 ((((p : Nat) : Int) - 1) + 1)))) ?_
       refine wpl_nil ?_
       exact loop_back ((p + 1), M2) (by refine ⟨by omega, ?_⟩; (have e : q = 3 := by omega); subst e; exact hT2) (by show 3 - (p + 1) < 3 - p; omega) (weak_of id [7, 15, 23, 44, 55, 86, 92, 113, 128, 129] (by kernel_rfl) (wk_s (v' := V.p 1 0) (by kernel_rfl) rfl rfl (wk_s (v' := V.v (.int .i64 10)) (by kernel_rfl) rfl rfl (wk_s (v' := V.b (.a (.sl 20 0 100))) (by kernel_rfl) rfl rfl (wk_s (v' := V.v (.int .i64 ((((rt (regSet l) k : Nat) : Int) - 1) + 1))) (by kernel_rfl) rfl rfl (wk_s (v' := V.v (.int .i64 ((k : Nat) : Int))) (by kernel_rfl) rfl rfl (wk_s (v' := V.b (.a (.sl 52 0 ((nI M2).length)))) (by kernel_rfl) rfl rfl (wk_s (v' := V.v (.int .i64 ((i : Nat) : Int))) (by kernel_rfl) rfl rfl (wk_s (v' := V.v (.int .i64 ((((p : Nat) : Int) - 1) + 1))) (by kernel_rfl) (vint (by omega)) rfl (wk_o (o' := ⟨29, 1, true, [(.slv l.length 1 (isl l) : A)]⟩) (by kernel_rfl) (renob_l (fun h => h) rfl rfl) rfl (wk_o (o' := ⟨3, 1, true, pl (isl (mkI (L ++ M2)))⟩) (by kernel_rfl) (renob_pl (fun h => h)) rfl (wk_o (o' := ⟨3, 1, true, pl (isl (nI M2))⟩) (by kernel_rfl) (renob_pl (fun h => h)) rfl (wk_f rfl (wk_f rfl (wk_f rfl (wk_f rfl (wk_f rfl (wk_f rfl (wk_f rfl (wk_f rfl (wk_f rfl (wk_f rfl (wk_nil)))))))))))))))))))))))
     ·skip
      have c14P := of_decide_eq_false c14
      refine wp_exit' ?_
      refine wp_region_t ?_
      refine w1 (mv 57 9 (V.v (.int .i64 ((i : Nat) : Int)))) ?_
      refine w1 (bn 58 (OpV.tmp 57 (.int .i64 ((i : Nat) : Int))) (OpV.const (.int .i64 1)) (r_add (c := (((i : Nat) : Int) + 1)) (w64 (by omega) (by omega)))) ?_
      refine w1 (asg 9 58 (V.v (.int .i64 (((i : Nat) : Int) + 1)))) ?_
      refine wpl_nil ?_
      exact loop_back ((i + 1), M) (by exact hT.out hB (by omega) (by omega)) (by show 100 - (i + 1) < 100 - i; omega) (weak_of id [7, 15, 23, 44, 55, 86, 92, 113, 128, 129] (by kernel_rfl) (wk_s (v' := V.p 1 0) (by kernel_rfl) rfl rfl (wk_s (v' := V.v (.int .i64 10)) (by kernel_rfl) rfl rfl (wk_s (v' := V.b (.a (.sl 20 0 100))) (by kernel_rfl) rfl rfl (wk_s (v' := V.v (.int .i64 ((((rt (regSet l) k : Nat) : Int) - 1) + 1))) (by kernel_rfl) rfl rfl (wk_s (v' := V.v (.int .i64 ((k : Nat) : Int))) (by kernel_rfl) rfl rfl (wk_s (v' := V.b (.a (.sl 52 0 ((nI M).length)))) (by kernel_rfl) rfl rfl (wk_s (v' := V.v (.int .i64 (((i : Nat) : Int) + 1))) (by kernel_rfl) (vint (by rfl)) rfl (wk_o (o' := ⟨29, 1, true, [(.slv l.length 1 (isl l) : A)]⟩) (by kernel_rfl) (renob_l (fun h => h) rfl rfl) rfl (wk_o (o' := ⟨3, 1, true, pl (isl (mkI (L ++ M)))⟩) (by kernel_rfl) (renob_pl (fun h => h)) rfl (wk_o (o' := ⟨3, 1, true, pl (isl (nI M))⟩) (by kernel_rfl) (renob_pl (fun h => h)) rfl (wk_f rfl (wk_f rfl (wk_f rfl (wk_f rfl (wk_f rfl (wk_f rfl (wk_f rfl (wk_f rfl (wk_f rfl (wk_f rfl (wk_nil))))))))))))))))))))))
    ·skip
     have c12P := of_decide_eq_false c12
     obtain ⟨hs1, hs2⟩ := hB.end (by omega)
     refine wp_exit' ?_
     refine wp_region_t ?_
     refine w1 (mv 25 6 (V.v (.int .i64 ((k : Nat) : Int)))) ?_
     refine w1 (bn 26 (OpV.tmp 25 (.int .i64 ((k : Nat) : Int))) (OpV.const (.int .i64 1)) (r_add (c := (((k : Nat) : Int) + 1)) (w64 (by omega) (by omega)))) ?_
     refine w1 (asg 6 26 (V.v (.int .i64 (((k : Nat) : Int) + 1)))) ?_
     refine wpl_nil ?_
     exact loop_back ((k + 1), (L ++ lst)) (by exact ⟨by omega, hs1⟩) (by show 100 - (k + 1) < 100 - k; omega) (weak_of id [7, 15, 23, 44, 52, 55, 86, 92, 113, 128, 129] (by kernel_rfl) (wk_s (v' := V.p 1 0) (by kernel_rfl) rfl rfl (wk_s (v' := V.v (.int .i64 10)) (by kernel_rfl) rfl rfl (wk_s (v' := V.b (.a (.sl 20 0 100))) (by kernel_rfl) rfl rfl (wk_s (v' := V.v (.int .i64 ((((rt (regSet l) k : Nat) : Int) - 1) + 1))) (by kernel_rfl) (vint (by omega)) rfl (wk_s (v' := V.v (.int .i64 (((k : Nat) : Int) + 1))) (by kernel_rfl) (vint (by rfl)) rfl (wk_o (o' := ⟨29, 1, true, [(.slv l.length 1 (isl l) : A)]⟩) (by kernel_rfl) (renob_l (fun h => h) rfl rfl) rfl (wk_o (o' := ⟨3, 1, true, pl (isl (mkI (L ++ lst)))⟩) (by kernel_rfl) (renob_pl (fun h => h)) rfl (wk_f rfl (wk_f rfl (wk_f rfl (wk_f rfl (wk_f rfl (wk_f rfl (wk_f rfl (wk_f rfl (wk_f rfl (wk_f rfl (wk_f rfl (wk_nil))))))))))))))))))))
  ·skip
   have c5P := of_decide_eq_false c5
   refine wp_exit' ?_
   refine wp_seq' ?_
   refine wp_region_t ?_
   refine w1 (mv 130 5 (V.v (.int .i64 (((rt (regSet l) k : Nat) : Int) - 1)))) ?_
   refine w1 (asg 2 130 (V.v (.int .i64 (((rt (regSet l) k : Nat) : Int) - 1)))) ?_
   refine wpl_nil ?_
   refine wp_ret' ?_
   exact VRes.tmp 2 (.a (.val (.int .i64 (((rt (regSet l) k : Nat) : Int) - 1)))) _ (by kernel_rfl) (bval (congrArg (Value.int .i64) (by (have e : k = 100 := by omega); subst e; exact (hol_yes hro).symm)))
end Cl
end Go.Proofs.Ytmbodpmhokbapaa
