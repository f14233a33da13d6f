/- Walks over clean states, printed by wg.py. No statement is proved here. -/
import Derived.Test.YtjgjeflidcembaaC14
import Derived.Test.YtjgjeflidcembaaClB
namespace Go.Proofs.Ytjgjeflidcembaa
namespace Cl
open Go.ChangeShapes Go.WideShapes Go.ChangeAt Go.RowKit
set_option maxRecDepth 20000

def ftR (l : List Int) : List Dom := if cntR l = 0 then [] else ftl 33 (regSet l)
theorem ftR_no {l : List Int} (h : cntR l = 0) : ftR l = [] := by unfold ftR; rw [if_pos h]
structure FT (l : List Int) (s : Nat) (o : List Dom) (n : Nat) : Prop where
  lt : s < 18446744073709551616
  pos : 0 < cnt s
  pc : popc s < 2 * n
  ln : o.length + n = 33
  eq : o ++ ftl n s = ftl 33 (regSet l)
theorem cntR_reg {l : List Int} (h : ¬ cntR l = 0) : regOk l = true := by
  unfold cntR at h
  split at h
  · assumption
  · exact absurd rfl h
theorem popc_len {s : Nat} (hs : s < 18446744073709551616) : (setCells s).length = popc s := by unfold setCells popc; simp
theorem FT.zero {l : List Int} (h : ¬ cntR l = 0) : FT l (regSet l) [] 33 := by
  have hr := cntR_reg h
  have hs := regSet_lt hr
  refine ⟨hs, ?_, ?_, rfl, rfl⟩
  · unfold cntR at h; rw [if_pos hr] at h; omega
  · have := popc_le (regSet l); omega
theorem FT.next {l : List Int} {s : Nat} {o : List Dom} {n : Nat} (h : FT l s o n) (h0 : s ≠ 0) {d : Dom} (hp : pick s = d) : 0 < n ∧ FT l (andn s (domS d)) (o ++ [d]) (n - 1) := by
  subst hp
  obtain ⟨h1, h2⟩ := pick_ok h.lt h0 h.pos
  have hpc := popc_sub h1
  have h3 := h.pc
  have h4 := h.ln
  obtain ⟨m, rfl⟩ : ∃ m, n = m + 1 := ⟨n - 1, by omega⟩
  refine ⟨by omega, andn_lt h.lt, h2, by rw [Nat.add_sub_cancel]; omega, by rw [Nat.add_sub_cancel, List.length_append, List.length_singleton]; omega, ?_⟩
  rw [Nat.add_sub_cancel, ← h.eq, List.append_assoc]
  congr 1
  show [pick s] ++ ftl m _ = ftl (m + 1) s
  rw [ftl, if_neg h0]; rfl
theorem FT.done {l : List Int} {s : Nat} {o : List Dom} {n : Nat} (hc : ¬ cntR l = 0) (h : FT l s o n) (h0 : s = 0) : o = ftR l := by
  unfold ftR; rw [if_neg hc, ← h.eq, h0]
  cases n with
  | zero => unfold ftl; simp
  | succ n => unfold ftl; rw [if_pos rfl]; simp
theorem ftl_len : ∀ n s, (ftl n s).length ≤ n := by
  intro n
  induction n with
  | zero => intro s; simp [ftl]
  | succ n ih =>
    intro s
    rw [ftl]; split
    · simp
    · rw [List.length_cons]; have := ih (andn s (domS (pick s))); omega
theorem ftR_len (l : List Int) : (ftR l).length ≤ 33 := by
  unfold ftR; split
  · simp
  · exact ftl_len _ _
theorem pick_1 {s : Nat} (h : okD (dmn (firstI s) false) = false) : pick s = dmn (firstI s) true := by unfold pick fitD; rw [h]; rfl
theorem pick_2 {s : Nat} (h : ((s &&& domS (dmn (firstI s) false) : Nat) : Int) ≠ (domS (dmn (firstI s) false) : Int)) : pick s = dmn (firstI s) true := by
  unfold pick fitD; rw [if_neg]; simp only [Bool.and_eq_true, decide_eq_true_eq]; rintro ⟨⟨_, h1⟩, _⟩; exact nat_ne h h1
theorem pick_3 {s : Nat} (h : ((cnt (andn s (domS (dmn (firstI s) false))) : Nat) : Int) = 0) : pick s = dmn (firstI s) true := by
  unfold pick; rw [if_neg]; simp only [Bool.and_eq_true, Bool.not_eq_true', decide_eq_false_iff_not]; rintro ⟨_, h1⟩; omega
theorem pick_4 {s : Nat} (h1 : okD (dmn (firstI s) false) = true) (h2 : ¬ ((s &&& domS (dmn (firstI s) false) : Nat) : Int) ≠ (domS (dmn (firstI s) false) : Int)) (h3 : ¬ ((cnt (andn s (domS (dmn (firstI s) false))) : Nat) : Int) = 0) : pick s = dmn (firstI s) false := by
  unfold pick fitD; rw [if_pos]; simp only [Bool.and_eq_true, Bool.not_eq_true', decide_eq_false_iff_not, decide_eq_true_eq]; exact ⟨⟨h1, nat_eq h2⟩, by omega⟩
theorem pick_okd {l : List Int} {s : Nat} {o : List Dom} {n : Nat} (h : FT l s o n) (h0 : s ≠ 0) {d : Dom} (hp : pick s = d) : okD d = true := by
  subst hp; exact (fit_ok (pick_ok h.lt h0 h.pos).1).1
theorem first_go {s k : Nat} (hs : s < 18446744073709551616) (h0 : s ≠ 0) (hk : k ≤ firstI s) (hb : s.testBit k = false) : k + 1 ≤ firstI s := by
  rcases Nat.lt_or_ge k (firstI s) with h | h
  · exact h
  · have e : k = firstI s := by omega
    rw [e, (firstI_lt hs h0).2] at hb; cases hb
theorem first_end {s k : Nat} (hk : k ≤ firstI s) (hb : s.testBit k = true) : k = firstI s := by
  rcases Nat.lt_or_ge k (firstI s) with h | h
  · rw [firstI_min h] at hb; cases hb
  · omega
theorem cells_none {l : List Int} (ho : regOk l = true) : (cellsOf l).length = popc (regSet l) := by unfold cellsOf; rw [if_pos ho]; exact popc_len (regSet_lt ho)
theorem popc_nz {s : Nat} (hs : s < 18446744073709551616) (h : popc s = 0) : s = 0 := by
  rcases Nat.eq_zero_or_pos s with h0 | h0
  · exact h0
  · have hf := firstI_lt hs (by omega)
    have hm : cN (firstI s) ∈ setCells s := set_mem.2 (by unfold hasS; rw [cN_ok hf.1, idx_cN hf.1, hf.2]; rfl)
    have := List.length_pos_of_mem hm
    rw [popc_len hs] at this; omega
/-- the reference's first tiling -/
structure FR (l R : List Int) (o : List Dom) (n : Nat) : Prop where
  ok : regOk R = true
  ft : FT l (regSet R) o n
theorem FR.zero {l : List Int} (h : ¬ cntR l = 0) : FR l l [] 33 := ⟨cntR_reg h, FT.zero h⟩
theorem FR.len {l R : List Int} {o : List Dom} {n : Nat} (h : FR l R o n) : R.length ≤ 8 ∧ o.length ≤ 33 := ⟨(regOk_true h.ok).1, by have := h.ft.ln; omega⟩
theorem FR.more {l R : List Int} {o : List Dom} {n : Nat} (h : FR l R o n) (hc : (((cellsOf R).length : Nat) : Int) > 0) : regSet R ≠ 0 := by
  intro e; rw [cells_none h.ok, e] at hc; simp [popc] at hc
theorem FR.end {l R : List Int} {o : List Dom} {n : Nat} (h : FR l R o n) (hc : ¬ (((cellsOf R).length : Nat) : Int) > 0) : regSet R = 0 := by
  rw [cells_none h.ok] at hc; exact popc_nz (regSet_lt h.ok) (by omega)
theorem FR.next {l R : List Int} {o : List Dom} {n : Nat} (h : FR l R o n) (h0 : regSet R ≠ 0) {d : Dom} (hp : pick (regSet R) = d) : 0 < n ∧ FR l (delL (delL R (ca d)) (cb d)) (o ++ [d]) (n - 1) := by
  have hd : okD d = true := pick_okd h.ft h0 hp
  have k1 := delL_ok h.ok (ok_ca hd)
  have k2 := delL_ok k1 (ok_cb hd)
  have := h.ft.next h0 hp
  refine ⟨this.1, k2, ?_⟩
  rw [delL_set k1 (ok_cb hd), delL_set h.ok (ok_ca hd), delC_two]
  exact this.2
theorem qC16_bs_37 : ∀ (a b : Int) (c : Bool), Try.prog.built 37 [(0, .int .i64 a), (1, .int .i64 b), (2, .bool c)] = some ([.int .i64 a, .int .i64 b, .bool c] : List Value).toArray := fun _ _ _ => rfl
theorem qC16_fo_37_2 : fieldOff Try.prog 37 2 = some 2 := by kernel_rfl
theorem qC16_fo_46_0 : fieldOff Try.prog 46 0 = some 0 := by kernel_rfl
theorem qC16_fo_46_1 : fieldOff Try.prog 46 1 = some 1 := by kernel_rfl
theorem qC16_ti_26 : TI Try.prog 26 true 1 := ⟨⟨_, Try.underlying26, rfl⟩, by kernel_rfl⟩
theorem qC16_ti_3 : TI Try.prog 3 false 1 := ⟨⟨_, Try.underlying3, rfl⟩, by kernel_rfl⟩
theorem qC16_ti_37 : TI Try.prog 37 true 3 := ⟨⟨_, Try.underlying37, rfl⟩, by kernel_rfl⟩
theorem qC16_ti_4 : TI Try.prog 4 false 1 := ⟨⟨_, Try.underlying4, rfl⟩, by kernel_rfl⟩
theorem qC16_ti_46 : TI Try.prog 46 true 2 := ⟨⟨_, Try.underlying46, rfl⟩, by kernel_rfl⟩
theorem qC16_un_30 : Try.prog.underlying 30 = some (.slice 37) := Try.underlying30
theorem qC16_zi_37 : ZI Try.prog 37 (.agg #[.int .i64 0, .int .i64 0, .bool false]) 3 24 := by unfold ZI; kernel_rfl
theorem qC16_zi_46 : ZI Try.prog 46 (.agg #[.int .i64 0, .int .i64 0]) 2 16 := by unfold ZI; kernel_rfl
set_option maxHeartbeats 4000000 in
set_option maxRecDepth 100000 in
theorem impl_set__firstCell_fn (s : Nat) (hs : s < 18446744073709551616) (h0 : s ≠ 0) : Fn Try.prog 50 [.a (.val (.int .u64 ((s : Nat) : Int)))] [.val (.agg ([.int .i64 (cN (firstI s)).x, .int .i64 (cN (firstI s)).y] : List Value).toArray)] := by
 have hf := (firstI_lt hs h0).1
 refine fn_intro (N := 13) Try.func50 rfl (by kernel_rfl) rfl (Nat.le_of_ble_eq_true rfl) [2, 12] (ret1 rfl) (fun W => ?_)
 show Wp _ _ _ [kU 0 ((s : Nat) : Int), kF 2, kF 12]
 refine sq (rg ?_)
 refine z ?_ (h := fun ν => acts_alloc' (h := 2) (cap := 1) (s := 2) (cells := [aI 0, aI 0]) ν qC16_zi_46 rfl rfl (by decide))
 refine nl (sq (rg (zk (nl (sq (bkk ?_))))))
 refine wp_loop' (fun (k : Nat) => k ≤ firstI s) (fun (k : Nat) => [kU 0 ((s : Nat) : Int), kP 2 2 0, kI 3 ((k : Nat) : Int), kO 2 46 2 true [aI 0, aI 0], kF 12]) (fun (k : Nat) => 64 - k) ((0 : Nat)) (by exact (Nat.zero_le _ : 0 ≤ _)) (wkf id (wS <| wS <| wE (e := (vint (by first | rfl | omega | (simp; done) | (simp; omega)))) <| wX <| wF <| wN)) ?_
 rintro k inv1
 replace inv1 : k ≤ firstI s := inv1
 have inv := inv1
 refine sq (sq (rg (zm (zm ?_))))
 refine z ?_ (h := fun ν => acts_bin ν vt vt (r_shr (c := (((s >>> k) : Nat) : Int)) (by first | omega | exact Int.natCast_nonneg _) (shrU (m := s) (n := k) rfl rfl (by first | omega | assumption | exact Nat.lt_of_le_of_lt (shr_le _ _) (by first | omega | assumption | (first | omega | assumption)) | (first | omega | assumption)) rfl)))
 refine z ?_ (h := fun ν => acts_bin ν vt vc (r_and (c := ((((s >>> k) &&& 1) : Nat) : Int)) (andU (m := (s >>> k)) (n := 1) rfl rfl (by first | omega | assumption | exact Nat.lt_of_le_of_lt (shr_le _ _) (by first | omega | assumption | (first | omega | assumption)) | (first | omega | assumption)) (by first | omega | assumption | exact Nat.lt_of_le_of_lt (shr_le _ _) (by first | omega | assumption | (first | omega | assumption)) | (first | omega | assumption)))))
 refine z ?_ (h := fun ν => acts_bin ν vt vc (r_eql (c := (!(s.testBit k))) (bit_zero _ _)))
 refine nl ?_
 refine wi (b := (!(s.testBit k))) (fun c2 => ?_) (fun c2 => ?_)
 ·skip
  have c3 : (s.testBit k) = false := by first | (rw [← Bool.not_eq_true']; exact c2) | simpa using c2
  refine sk (bkk (rg (zm ?_)))
  refine z ?_ (h := fun ν => acts_bin ν vt vc (rA (by first | omega | assumption) (by first | omega | assumption)))
  refine za (nl ?_)
  exact Exists.intro ((k + 1)) (And.intro (by show _ ≤ _; first | exact first_go hs h0 inv (by assumption) | exact first_go hs h0 inv (by simp_all)) (And.intro (by show 64 - (k + 1) < 64 - k; omega) (wkf id (wS <| wS <| wE (e := (vint (by first | rfl | omega | (simp; done) | (simp; omega)))) <| wX <| wF <| wN))))
 ·skip
  have c4 : (s.testBit k) = true := by first | (rw [← Bool.not_eq_false']; exact c2) | simpa using c2
  refine wp_exit' (sq (rg (zm ?_)))
  refine z ?_ (h := fun ν => acts_call1 ν (impl_cellAt_fn k (by first | omega | assumption)) (ac (ArgV.v vt) an) (ResV.agg [vI ((cN k).x), vI ((cN k).y)]))
  refine z ?_ (h := fun _ => acts_store (cells := [aI ((cN k).x), aI ((cN k).y)]) qC16_ti_46 xt (by exact rfl) (by decide) (by exact ob1 rfl) (by exact Nat.le_of_ble_eq_true rfl) (by exact rfl))
  refine nl (wp_ret' ?_)
  exact VRes.cells 2 46 2 ⟨46, 2, true, [aI ((cN k).x), aI ((cN k).y)]⟩ _ (by kernel_rfl) (by kernel_rfl) qC16_ti_46 (Nat.le_of_ble_eq_true rfl) (bagg (vs := [vI ((cN k).x), vI ((cN k).y)]) (by ((have e : k = firstI s := by first | exact first_end inv (by assumption) | exact first_end inv (by simp_all)); subst e; rfl)))

set_option maxHeartbeats 4000000 in
set_option maxRecDepth 100000 in
theorem impl_FirstTiling_fn (l : List Int) (hl : l.length ≤ 4194304) : Fn Try.prog 10 [.agg [(.slv l.length 1 (isl l) : A)]] [.row 37 3 (ftR l).length (dsl (ftR l)), .val (.bool (decide (0 < cntR l)))] := by
 refine fn_intro (N := 53) Try.func10 rfl (by kernel_rfl) rfl (Nat.le_of_ble_eq_true rfl) [1, 6, 7, 9, 11, 13, 17, 24, 29, 32, 38, 40, 46, 47, 50] (ret2 rfl rfl (by intro u hu; injection hu with hu; subst hu; rfl)) (fun W => ?_)
 show Wp _ _ _ [kV 0 (V.b (.agg [(.slv l.length 1 (isl l) : A)])), kF 1, kF 6, kF 7, kF 9, kF 11, kF 13, kF 17, kF 24, kF 29, kF 32, kF 38, kF 40, kF 46, kF 47, kF 50]
 refine sq (rg ?_)
 refine z ?_ (h := fun ν => acts_box (h := 1) ν xt (by exact ob1 rfl))
 refine zk (zk (nl (sq (sq (rg ?_)))))
 refine z ?_ (h := fun ν => acts_load_owns (xs := [(.slv l.length 1 (isl l) : A)]) ν qC16_ti_26 rfl (by decide) rfl)
 refine z ?_ (h := fun ν => acts_call1 ν (impl_IsTileable_fn l (by first | omega | assumption | exact cntR_reg (by omega) | exact domS_lt (by assumption) | exact andn_lt (by assumption))) (ac (ArgV.regv _ _ 1 _) an) rv)
 refine z ?_ (h := fun ν => acts_un ν vt (r_not rfl))
 refine nl ?_
 refine wi (b := (!(decide (0 < cntR l)))) (fun c1 => ?_) (fun c1 => ?_)
 ·skip
  have c2 : decide (0 < cntR l) = false := by first | (rw [← Bool.not_eq_true']; exact c1) | simpa using c1
  have c2P := of_decide_eq_false c2
  have hc0 : cntR l = 0 := by have := of_decide_eq_false c2; omega
  refine sq (rg (zk (zk (nl (wp_ret' ?_)))))
  exact ⟨VRes.tmp _ _ _ (by exact rfl) (bnil_doms (L := (ftR l)) (by first | exact ftR_no hc0 | exact (ftR_no hc0).symm)), VRes.tmp _ _ _ (by exact rfl) (bval (congrArg Value.bool (by simp; omega)))⟩
 ·skip
  have c3 : decide (0 < cntR l) = true := by first | (rw [← Bool.not_eq_false']; exact c1) | simpa using c1
  have c3P := of_decide_eq_true c3
  have hc0 : ¬ cntR l = 0 := by have := of_decide_eq_true c3; omega
  refine sk (sq (rg ?_))
  refine z ?_ (h := fun ν => b0D (h := 11) ν qC16_un_30 qC16_zi_37)
  refine za (nl (sq (sq (rg ?_))))
  refine z ?_ (h := fun ν => acts_load_owns (xs := [(.slv l.length 1 (isl l) : A)]) ν qC16_ti_26 rfl (by decide) rfl)
  refine z ?_ (h := fun ν => acts_call1 ν (impl_Region__set_fn l (by first | omega | assumption | exact cntR_reg (by omega) | exact domS_lt (by assumption) | exact andn_lt (by assumption))) (ac (ArgV.regv _ _ 1 _) an) rv)
  refine za (nl (bkk ?_))
  refine wp_loop' (fun ((s, n, o) : Nat × Nat × (List Dom)) => FT l s o n) (fun ((s, n, o) : Nat × Nat × (List Dom)) => [kS 4 11 0 o.length, kU 5 ((s : Nat) : Int), kO 11 37 3 true (pl (dsl o)), kF 1, kF 6, kF 7, kF 9, kF 13, kF 17, kF 24, kF 29, kF 32, kF 38, kF 40, kF 46, kF 47, kF 50]) (fun ((s, n, o) : Nat × Nat × (List Dom)) => n) (((regSet l) : Nat), (33 : Nat), ([] : List Dom)) (by exact FT.zero hc0) (wkf id (wE (e := (vsl (by first | rfl | (simp; done) | (simp; omega) | omega | (exact congrArg List.length (by first | rfl | omega | (simp; done) | (simp; omega)))) rfl)) <| wS <| wP <| by (iterate 14 refine wF ?_); exact wN)) ?_
  rintro ⟨s, n, o⟩ inv4
  replace inv4 : FT l s o n := inv4
  have hFT := inv4
  have hs := hFT.lt
  have hol := hFT.ln
  refine sq (sq (rg (zm ?_)))
  refine z ?_ (h := fun ν => acts_bin ν vt vc (r_neq rfl))
  refine nl ?_
  refine wi (fun c5 => ?_) (fun c5 => ?_)
  ·skip
   have c5P := of_decide_eq_true c5
   have h0 : s ≠ 0 := by have := of_decide_eq_true c5; omega
   refine sk (bkk (sq (rg (zm ?_))))
   refine z ?_ (h := fun ν => acts_call1 ν (impl_set__firstCell_fn s (by first | omega | assumption | exact cntR_reg (by omega) | exact domS_lt (by assumption) | exact andn_lt (by assumption)) (by first | omega | assumption | exact cntR_reg (by omega) | exact domS_lt (by assumption) | exact andn_lt (by assumption))) (ac (ArgV.v vt) an) (ResV.agg [vI ((cN (firstI s)).x), vI ((cN (firstI s)).y)]))
   refine z ?_ (h := fun ν => acts_alloc' (h := 6) (cap := 1) (s := 2) (cells := [aI 0, aI 0]) ν qC16_zi_46 rfl rfl (by decide))
   refine z ?_ (h := fun _ => acts_store (cells := [aI ((cN (firstI s)).x), aI ((cN (firstI s)).y)]) qC16_ti_46 xt (by exact rfl) (by decide) (by exact ob1 rfl) (by exact Nat.le_of_ble_eq_true rfl) (by exact rfl))
   refine nl (sq (rg ?_))
   refine z ?_ (h := fun ν => acts_field (off' := 0) ν qC16_fo_46_0 rfl)
   refine z ?_ (h := fun ν => acts_load_own (x := .val (.int .i64 ((cN (firstI s)).x))) ν qC16_ti_3 (by exact rfl))
   refine z ?_ (h := fun ν => acts_field (off' := 1) ν qC16_fo_46_1 rfl)
   refine z ?_ (h := fun ν => acts_load_own (x := .val (.int .i64 ((cN (firstI s)).y))) ν qC16_ti_3 (by exact rfl))
   refine z ?_ (h := fun ν => bD ν qC16_bs_37 vt vt vc)
   refine z ?_ (h := fun ν => acts_alloc' (h := 7) (cap := 1) (s := 3) (cells := [aI 0, aI 0, aB false]) ν qC16_zi_37 rfl rfl (by decide))
   refine z ?_ (h := fun _ => acts_store (cells := [aI ((cN (firstI s)).x), aI ((cN (firstI s)).y), aB false]) qC16_ti_37 xt (by exact rfl) (by decide) (by exact ob1 rfl) (by exact Nat.le_of_ble_eq_true rfl) (by exact rfl))
   refine nl (sq (sq ?_))
   rcases Bool.eq_false_or_eq_true ((okD (⟨(cN (firstI s)).x, (cN (firstI s)).y, false⟩ : Dom))) with c6 | c6
   ·skip
    rcases Bool.eq_false_or_eq_true (decide ((((s &&& (domS (⟨(cN (firstI s)).x, (cN (firstI s)).y, false⟩ : Dom))) : Nat) : Int) ≠ (((domS (⟨(cN (firstI s)).x, (cN (firstI s)).y, false⟩ : Dom)) : Nat) : Int))) with c7 | c7
    ·skip
     have c7P := of_decide_eq_true c7
     have hpk : pick s = ⟨(cN (firstI s)).x, (cN (firstI s)).y, true⟩ := pick_2 (of_decide_eq_true c7)
     have hkd : okD (⟨(cN (firstI s)).x, (cN (firstI s)).y, true⟩ : Dom) = true := pick_okd hFT h0 hpk
     refine wp_dr ?_
     refine zd ?_ (h := fun ν => acts_load_owns (xs := [vI ((cN (firstI s)).x), vI ((cN (firstI s)).y), .bool false].map A.val) ν qC16_ti_37 rfl (by decide) rfl)
     refine zd ?_ (h := fun ν => acts_call1 ν (impl_DominoOk_fn (⟨(cN (firstI s)).x, (cN (firstI s)).y, false⟩ : Dom) ) (ac (ArgV.va va) an) (resval (congrArg Value.bool c6)))
     refine zd ?_ (h := fun ν => acts_un ν vt (r_not (c := false) rfl))
     refine zdm ?_
     refine zdg ?_ (h := fun ν => step_on rfl rfl (mt ν))
     refine zdg ?_ (h := fun ν => step_on rfl rfl (acts_load_owns (xs := [vI ((cN (firstI s)).x), vI ((cN (firstI s)).y), .bool false].map A.val) ν qC16_ti_37 rfl (by decide) rfl))
     refine zdg ?_ (h := fun ν => step_on rfl rfl (acts_call1 ν (impl_Domino__set_fn (⟨(cN (firstI s)).x, (cN (firstI s)).y, false⟩ : Dom) (by first | omega | assumption | exact cntR_reg (by omega) | exact domS_lt (by assumption) | exact andn_lt (by assumption))) (ac (ArgV.va va) an) rv))
     refine zdg ?_ (h := fun ν => step_on rfl rfl (acts_bin ν vt vt (r_and (c := (((s &&& (domS (⟨(cN (firstI s)).x, (cN (firstI s)).y, false⟩ : Dom))) : Nat) : Int)) (andU (m := s) (n := (domS (⟨(cN (firstI s)).x, (cN (firstI s)).y, false⟩ : Dom))) rfl rfl (by first | omega | assumption | exact Nat.lt_of_le_of_lt (shr_le _ _) (by first | omega | assumption | (first | omega | assumption | exact cntR_reg (by omega) | exact domS_lt (by assumption) | exact andn_lt (by assumption))) | (first | omega | assumption | exact cntR_reg (by omega) | exact domS_lt (by assumption) | exact andn_lt (by assumption))) (by first | omega | assumption | exact Nat.lt_of_le_of_lt (shr_le _ _) (by first | omega | assumption | (first | omega | assumption | exact cntR_reg (by omega) | exact domS_lt (by assumption) | exact andn_lt (by assumption))) | (first | omega | assumption | exact cntR_reg (by omega) | exact domS_lt (by assumption) | exact andn_lt (by assumption)))))))
     refine zdg ?_ (h := fun ν => step_on rfl rfl (acts_load_owns (xs := [vI ((cN (firstI s)).x), vI ((cN (firstI s)).y), .bool false].map A.val) ν qC16_ti_37 rfl (by decide) rfl))
     refine zdg ?_ (h := fun ν => step_on rfl rfl (acts_call1 ν (impl_Domino__set_fn (⟨(cN (firstI s)).x, (cN (firstI s)).y, false⟩ : Dom) (by first | omega | assumption | exact cntR_reg (by omega) | exact domS_lt (by assumption) | exact andn_lt (by assumption))) (ac (ArgV.va va) an) rv))
     refine zdg ?_ (h := fun ν => step_on rfl rfl (acts_bin ν vt vt (r_neq (c := true) c7)))
     refine zd ?_ (h := fun ν => acts_pick_f ν vt xt)
     refine zdm ?_
     refine zdg ?_ (h := fun ν => step_off rfl rfl (by decide) rfl ν)
     refine zdg ?_ (h := fun ν => step_off rfl rfl (by decide) rfl ν)
     refine zdg ?_ (h := fun ν => step_off rfl rfl (by decide) rfl ν)
     refine zdg ?_ (h := fun ν => step_off rfl rfl (by decide) rfl ν)
     refine zdg ?_ (h := fun ν => step_off rfl rfl (by decide) rfl ν)
     refine zdg ?_ (h := fun ν => step_off rfl rfl (by decide) rfl ν)
     refine zd ?_ (h := fun ν => acts_pick_t ν vt xc)
     refine dw_nil (wt (rg ?_))
     refine z ?_ (h := fun ν => acts_field (off' := 2) ν qC16_fo_37_2 rfl)
     refine z ?_ (h := fun _ => acts_store (cells := [aI ((cN (firstI s)).x), aI ((cN (firstI s)).y), aB true]) qC16_ti_4 xc (by exact rfl) (by decide) (by exact ob1 rfl) (by exact Nat.le_of_ble_eq_true rfl) (by exact rfl))
     refine nl (sq (rg (zm ?_)))
     refine z ?_ (h := fun ν => acts_load_owns (xs := [vI ((cN (firstI s)).x), vI ((cN (firstI s)).y), .bool true].map A.val) ν qC16_ti_37 rfl (by decide) rfl)
     refine z ?_ (h := fun ν => acts_buildSlice' (h := 46) (xs := dsl ([(⟨(cN (firstI s)).x, (cN (firstI s)).y, true⟩ : Dom)] : List Dom)) ν qC16_un_30 qC16_zi_37 (.cons va OpVs.nil) (by decide) (by decide) (by kernel_rfl) rfl)
     refine z ?_ (h := fun ν => aD_ (h2 := 47) (L3 := (o ++ [(⟨(cN (firstI s)).x, (cN (firstI s)).y, true⟩ : Dom)])) ν qC16_un_30 qC16_zi_37 (by first | exact rfl | (simp; done) | (simp; omega) | omega) rfl (by first | exact rfl | (simp; done) | (simp; omega) | omega) (by first | omega | (simp; omega) | (simp at *; omega)))
     refine za (nl (rg (zm ?_)))
     refine z ?_ (h := fun ν => acts_load_owns (xs := [vI ((cN (firstI s)).x), vI ((cN (firstI s)).y), .bool true].map A.val) ν qC16_ti_37 rfl (by decide) rfl)
     refine z ?_ (h := fun ν => acts_call1 ν (impl_Domino__set_fn (⟨(cN (firstI s)).x, (cN (firstI s)).y, true⟩ : Dom) (by first | omega | assumption | exact cntR_reg (by omega) | exact domS_lt (by assumption) | exact andn_lt (by assumption))) (ac (ArgV.va va) an) rv)
     refine z ?_ (h := fun ν => acts_bin ν vt vt (r_andNot (c := (((andn s (domS (⟨(cN (firstI s)).x, (cN (firstI s)).y, true⟩ : Dom))) : Nat) : Int)) (andnU (m := s) (n := (domS (⟨(cN (firstI s)).x, (cN (firstI s)).y, true⟩ : Dom))) rfl rfl (by first | omega | assumption | exact Nat.lt_of_le_of_lt (shr_le _ _) (by first | omega | assumption | (first | omega | assumption | exact cntR_reg (by omega) | exact domS_lt (by assumption) | exact andn_lt (by assumption))) | (first | omega | assumption | exact cntR_reg (by omega) | exact domS_lt (by assumption) | exact andn_lt (by assumption))) (by first | omega | assumption | exact Nat.lt_of_le_of_lt (shr_le _ _) (by first | omega | assumption | (first | omega | assumption | exact cntR_reg (by omega) | exact domS_lt (by assumption) | exact andn_lt (by assumption))) | (first | omega | assumption | exact cntR_reg (by omega) | exact domS_lt (by assumption) | exact andn_lt (by assumption))))))
     refine za (nl ?_)
     exact Exists.intro ((andn s (domS (⟨(cN (firstI s)).x, (cN (firstI s)).y, true⟩ : Dom))), (n - 1), (o ++ [(⟨(cN (firstI s)).x, (cN (firstI s)).y, true⟩ : Dom)])) (And.intro (by exact (hFT.next h0 hpk).2) (And.intro (by show n - 1 < n; have := (hFT.next h0 hpk).1; omega) (wkf (subst1 [(11, 47)]) (wS <| wS <| wP <| by (iterate 14 refine wF ?_); exact wN))))
    ·skip
     have c7P := of_decide_eq_false c7
     refine wp_dr ?_
     refine zd ?_ (h := fun ν => acts_load_owns (xs := [vI ((cN (firstI s)).x), vI ((cN (firstI s)).y), .bool false].map A.val) ν qC16_ti_37 rfl (by decide) rfl)
     refine zd ?_ (h := fun ν => acts_call1 ν (impl_DominoOk_fn (⟨(cN (firstI s)).x, (cN (firstI s)).y, false⟩ : Dom) ) (ac (ArgV.va va) an) (resval (congrArg Value.bool c6)))
     refine zd ?_ (h := fun ν => acts_un ν vt (r_not (c := false) rfl))
     refine zdm ?_
     refine zdg ?_ (h := fun ν => step_on rfl rfl (mt ν))
     refine zdg ?_ (h := fun ν => step_on rfl rfl (acts_load_owns (xs := [vI ((cN (firstI s)).x), vI ((cN (firstI s)).y), .bool false].map A.val) ν qC16_ti_37 rfl (by decide) rfl))
     refine zdg ?_ (h := fun ν => step_on rfl rfl (acts_call1 ν (impl_Domino__set_fn (⟨(cN (firstI s)).x, (cN (firstI s)).y, false⟩ : Dom) (by first | omega | assumption | exact cntR_reg (by omega) | exact domS_lt (by assumption) | exact andn_lt (by assumption))) (ac (ArgV.va va) an) rv))
     refine zdg ?_ (h := fun ν => step_on rfl rfl (acts_bin ν vt vt (r_and (c := (((s &&& (domS (⟨(cN (firstI s)).x, (cN (firstI s)).y, false⟩ : Dom))) : Nat) : Int)) (andU (m := s) (n := (domS (⟨(cN (firstI s)).x, (cN (firstI s)).y, false⟩ : Dom))) rfl rfl (by first | omega | assumption | exact Nat.lt_of_le_of_lt (shr_le _ _) (by first | omega | assumption | (first | omega | assumption | exact cntR_reg (by omega) | exact domS_lt (by assumption) | exact andn_lt (by assumption))) | (first | omega | assumption | exact cntR_reg (by omega) | exact domS_lt (by assumption) | exact andn_lt (by assumption))) (by first | omega | assumption | exact Nat.lt_of_le_of_lt (shr_le _ _) (by first | omega | assumption | (first | omega | assumption | exact cntR_reg (by omega) | exact domS_lt (by assumption) | exact andn_lt (by assumption))) | (first | omega | assumption | exact cntR_reg (by omega) | exact domS_lt (by assumption) | exact andn_lt (by assumption)))))))
     refine zdg ?_ (h := fun ν => step_on rfl rfl (acts_load_owns (xs := [vI ((cN (firstI s)).x), vI ((cN (firstI s)).y), .bool false].map A.val) ν qC16_ti_37 rfl (by decide) rfl))
     refine zdg ?_ (h := fun ν => step_on rfl rfl (acts_call1 ν (impl_Domino__set_fn (⟨(cN (firstI s)).x, (cN (firstI s)).y, false⟩ : Dom) (by first | omega | assumption | exact cntR_reg (by omega) | exact domS_lt (by assumption) | exact andn_lt (by assumption))) (ac (ArgV.va va) an) rv))
     refine zdg ?_ (h := fun ν => step_on rfl rfl (acts_bin ν vt vt (r_neq (c := false) c7)))
     refine zd ?_ (h := fun ν => acts_pick_f ν vt xt)
     refine zdm ?_
     refine zdg ?_ (h := fun ν => step_on rfl rfl (mt ν))
     refine zdg ?_ (h := fun ν => step_on rfl rfl (acts_load_owns (xs := [vI ((cN (firstI s)).x), vI ((cN (firstI s)).y), .bool false].map A.val) ν qC16_ti_37 rfl (by decide) rfl))
     refine zdg ?_ (h := fun ν => step_on rfl rfl (acts_call1 ν (impl_Domino__set_fn (⟨(cN (firstI s)).x, (cN (firstI s)).y, false⟩ : Dom) (by first | omega | assumption | exact cntR_reg (by omega) | exact domS_lt (by assumption) | exact andn_lt (by assumption))) (ac (ArgV.va va) an) rv))
     refine zdg ?_ (h := fun ν => step_on rfl rfl (acts_bin ν vt vt (r_andNot (c := (((andn s (domS (⟨(cN (firstI s)).x, (cN (firstI s)).y, false⟩ : Dom))) : Nat) : Int)) (andnU (m := s) (n := (domS (⟨(cN (firstI s)).x, (cN (firstI s)).y, false⟩ : Dom))) rfl rfl (by first | omega | assumption | exact Nat.lt_of_le_of_lt (shr_le _ _) (by first | omega | assumption | (first | omega | assumption | exact cntR_reg (by omega) | exact domS_lt (by assumption) | exact andn_lt (by assumption))) | (first | omega | assumption | exact cntR_reg (by omega) | exact domS_lt (by assumption) | exact andn_lt (by assumption))) (by first | omega | assumption | exact Nat.lt_of_le_of_lt (shr_le _ _) (by first | omega | assumption | (first | omega | assumption | exact cntR_reg (by omega) | exact domS_lt (by assumption) | exact andn_lt (by assumption))) | (first | omega | assumption | exact cntR_reg (by omega) | exact domS_lt (by assumption) | exact andn_lt (by assumption)))))))
     refine zdg ?_ (h := fun ν => step_on rfl rfl (acts_call1 ν (impl_set__count_fn (andn s (domS (⟨(cN (firstI s)).x, (cN (firstI s)).y, false⟩ : Dom))) (by first | omega | assumption | exact cntR_reg (by omega) | exact domS_lt (by assumption) | exact andn_lt (by assumption))) (ac (ArgV.v vt) an) rv))
     refine zdg ?_ (h := fun ν => step_on rfl rfl (acts_bin ν vt vc (r_eql rfl)))
     refine zd ?_ (h := fun ν => acts_pick_f ν vt xt)
     refine dw_nil ?_
     refine wi (fun c8 => ?_) (fun c8 => ?_)
     ·skip
      have c8P := of_decide_eq_true c8
      have hpk : pick s = ⟨(cN (firstI s)).x, (cN (firstI s)).y, true⟩ := pick_3 (of_decide_eq_true c8)
      have hkd : okD (⟨(cN (firstI s)).x, (cN (firstI s)).y, true⟩ : Dom) = true := pick_okd hFT h0 hpk
      refine rg ?_
      refine z ?_ (h := fun ν => acts_field (off' := 2) ν qC16_fo_37_2 rfl)
      refine z ?_ (h := fun _ => acts_store (cells := [aI ((cN (firstI s)).x), aI ((cN (firstI s)).y), aB true]) qC16_ti_4 xc (by exact rfl) (by decide) (by exact ob1 rfl) (by exact Nat.le_of_ble_eq_true rfl) (by exact rfl))
      refine nl (sq (rg (zm ?_)))
      refine z ?_ (h := fun ν => acts_load_owns (xs := [vI ((cN (firstI s)).x), vI ((cN (firstI s)).y), .bool true].map A.val) ν qC16_ti_37 rfl (by decide) rfl)
      refine z ?_ (h := fun ν => acts_buildSlice' (h := 46) (xs := dsl ([(⟨(cN (firstI s)).x, (cN (firstI s)).y, true⟩ : Dom)] : List Dom)) ν qC16_un_30 qC16_zi_37 (.cons va OpVs.nil) (by decide) (by decide) (by kernel_rfl) rfl)
      refine z ?_ (h := fun ν => aD_ (h2 := 47) (L3 := (o ++ [(⟨(cN (firstI s)).x, (cN (firstI s)).y, true⟩ : Dom)])) ν qC16_un_30 qC16_zi_37 (by first | exact rfl | (simp; done) | (simp; omega) | omega) rfl (by first | exact rfl | (simp; done) | (simp; omega) | omega) (by first | omega | (simp; omega) | (simp at *; omega)))
      refine za (nl (rg (zm ?_)))
      refine z ?_ (h := fun ν => acts_load_owns (xs := [vI ((cN (firstI s)).x), vI ((cN (firstI s)).y), .bool true].map A.val) ν qC16_ti_37 rfl (by decide) rfl)
      refine z ?_ (h := fun ν => acts_call1 ν (impl_Domino__set_fn (⟨(cN (firstI s)).x, (cN (firstI s)).y, true⟩ : Dom) (by first | omega | assumption | exact cntR_reg (by omega) | exact domS_lt (by assumption) | exact andn_lt (by assumption))) (ac (ArgV.va va) an) rv)
      refine z ?_ (h := fun ν => acts_bin ν vt vt (r_andNot (c := (((andn s (domS (⟨(cN (firstI s)).x, (cN (firstI s)).y, true⟩ : Dom))) : Nat) : Int)) (andnU (m := s) (n := (domS (⟨(cN (firstI s)).x, (cN (firstI s)).y, true⟩ : Dom))) rfl rfl (by first | omega | assumption | exact Nat.lt_of_le_of_lt (shr_le _ _) (by first | omega | assumption | (first | omega | assumption | exact cntR_reg (by omega) | exact domS_lt (by assumption) | exact andn_lt (by assumption))) | (first | omega | assumption | exact cntR_reg (by omega) | exact domS_lt (by assumption) | exact andn_lt (by assumption))) (by first | omega | assumption | exact Nat.lt_of_le_of_lt (shr_le _ _) (by first | omega | assumption | (first | omega | assumption | exact cntR_reg (by omega) | exact domS_lt (by assumption) | exact andn_lt (by assumption))) | (first | omega | assumption | exact cntR_reg (by omega) | exact domS_lt (by assumption) | exact andn_lt (by assumption))))))
      refine za (nl ?_)
      exact Exists.intro ((andn s (domS (⟨(cN (firstI s)).x, (cN (firstI s)).y, true⟩ : Dom))), (n - 1), (o ++ [(⟨(cN (firstI s)).x, (cN (firstI s)).y, true⟩ : Dom)])) (And.intro (by exact (hFT.next h0 hpk).2) (And.intro (by show n - 1 < n; have := (hFT.next h0 hpk).1; omega) (wkf (subst1 [(11, 47)]) (wS <| wS <| wP <| by (iterate 14 refine wF ?_); exact wN))))
     ·skip
      have c8P := of_decide_eq_false c8
      have hpk : pick s = ⟨(cN (firstI s)).x, (cN (firstI s)).y, false⟩ := pick_4 (by assumption) (of_decide_eq_false (by assumption)) (of_decide_eq_false c8)
      refine sk (sq (rg (zm ?_)))
      refine z ?_ (h := fun ν => acts_load_owns (xs := [vI ((cN (firstI s)).x), vI ((cN (firstI s)).y), .bool false].map A.val) ν qC16_ti_37 rfl (by decide) rfl)
      refine z ?_ (h := fun ν => acts_buildSlice' (h := 46) (xs := dsl ([(⟨(cN (firstI s)).x, (cN (firstI s)).y, false⟩ : Dom)] : List Dom)) ν qC16_un_30 qC16_zi_37 (.cons va OpVs.nil) (by decide) (by decide) (by kernel_rfl) rfl)
      refine z ?_ (h := fun ν => aD_ (h2 := 47) (L3 := (o ++ [(⟨(cN (firstI s)).x, (cN (firstI s)).y, false⟩ : Dom)])) ν qC16_un_30 qC16_zi_37 (by first | exact rfl | (simp; done) | (simp; omega) | omega) rfl (by first | exact rfl | (simp; done) | (simp; omega) | omega) (by first | omega | (simp; omega) | (simp at *; omega)))
      refine za (nl (rg (zm ?_)))
      refine z ?_ (h := fun ν => acts_load_owns (xs := [vI ((cN (firstI s)).x), vI ((cN (firstI s)).y), .bool false].map A.val) ν qC16_ti_37 rfl (by decide) rfl)
      refine z ?_ (h := fun ν => acts_call1 ν (impl_Domino__set_fn (⟨(cN (firstI s)).x, (cN (firstI s)).y, false⟩ : Dom) (by first | omega | assumption | exact cntR_reg (by omega) | exact domS_lt (by assumption) | exact andn_lt (by assumption))) (ac (ArgV.va va) an) rv)
      refine z ?_ (h := fun ν => acts_bin ν vt vt (r_andNot (c := (((andn s (domS (⟨(cN (firstI s)).x, (cN (firstI s)).y, false⟩ : Dom))) : Nat) : Int)) (andnU (m := s) (n := (domS (⟨(cN (firstI s)).x, (cN (firstI s)).y, false⟩ : Dom))) rfl rfl (by first | omega | assumption | exact Nat.lt_of_le_of_lt (shr_le _ _) (by first | omega | assumption | (first | omega | assumption | exact cntR_reg (by omega) | exact domS_lt (by assumption) | exact andn_lt (by assumption))) | (first | omega | assumption | exact cntR_reg (by omega) | exact domS_lt (by assumption) | exact andn_lt (by assumption))) (by first | omega | assumption | exact Nat.lt_of_le_of_lt (shr_le _ _) (by first | omega | assumption | (first | omega | assumption | exact cntR_reg (by omega) | exact domS_lt (by assumption) | exact andn_lt (by assumption))) | (first | omega | assumption | exact cntR_reg (by omega) | exact domS_lt (by assumption) | exact andn_lt (by assumption))))))
      refine za (nl ?_)
      exact Exists.intro ((andn s (domS (⟨(cN (firstI s)).x, (cN (firstI s)).y, false⟩ : Dom))), (n - 1), (o ++ [(⟨(cN (firstI s)).x, (cN (firstI s)).y, false⟩ : Dom)])) (And.intro (by exact (hFT.next h0 hpk).2) (And.intro (by show n - 1 < n; have := (hFT.next h0 hpk).1; omega) (wkf (subst1 [(11, 47)]) (wS <| wS <| wP <| by (iterate 14 refine wF ?_); exact wN))))
   ·skip
    have hpk : pick s = ⟨(cN (firstI s)).x, (cN (firstI s)).y, true⟩ := pick_1 c6
    have hkd : okD (⟨(cN (firstI s)).x, (cN (firstI s)).y, true⟩ : Dom) = true := pick_okd hFT h0 hpk
    refine wp_dr ?_
    refine zd ?_ (h := fun ν => acts_load_owns (xs := [vI ((cN (firstI s)).x), vI ((cN (firstI s)).y), .bool false].map A.val) ν qC16_ti_37 rfl (by decide) rfl)
    refine zd ?_ (h := fun ν => acts_call1 ν (impl_DominoOk_fn (⟨(cN (firstI s)).x, (cN (firstI s)).y, false⟩ : Dom) ) (ac (ArgV.va va) an) (resval (congrArg Value.bool c6)))
    refine zd ?_ (h := fun ν => acts_un ν vt (r_not (c := true) rfl))
    refine zdm ?_
    refine zdg ?_ (h := fun ν => step_off rfl rfl (by decide) rfl ν)
    refine zdg ?_ (h := fun ν => step_off rfl rfl (by decide) rfl ν)
    refine zdg ?_ (h := fun ν => step_off rfl rfl (by decide) rfl ν)
    refine zdg ?_ (h := fun ν => step_off rfl rfl (by decide) rfl ν)
    refine zdg ?_ (h := fun ν => step_off rfl rfl (by decide) rfl ν)
    refine zdg ?_ (h := fun ν => step_off rfl rfl (by decide) rfl ν)
    refine zdg ?_ (h := fun ν => step_off rfl rfl (by decide) rfl ν)
    refine zd ?_ (h := fun ν => acts_pick_t ν vt xc)
    refine zdm ?_
    refine zdg ?_ (h := fun ν => step_off rfl rfl (by decide) rfl ν)
    refine zdg ?_ (h := fun ν => step_off rfl rfl (by decide) rfl ν)
    refine zdg ?_ (h := fun ν => step_off rfl rfl (by decide) rfl ν)
    refine zdg ?_ (h := fun ν => step_off rfl rfl (by decide) rfl ν)
    refine zdg ?_ (h := fun ν => step_off rfl rfl (by decide) rfl ν)
    refine zdg ?_ (h := fun ν => step_off rfl rfl (by decide) rfl ν)
    refine zd ?_ (h := fun ν => acts_pick_t ν vt xc)
    refine dw_nil (wt (rg ?_))
    refine z ?_ (h := fun ν => acts_field (off' := 2) ν qC16_fo_37_2 rfl)
    refine z ?_ (h := fun _ => acts_store (cells := [aI ((cN (firstI s)).x), aI ((cN (firstI s)).y), aB true]) qC16_ti_4 xc (by exact rfl) (by decide) (by exact ob1 rfl) (by exact Nat.le_of_ble_eq_true rfl) (by exact rfl))
    refine nl (sq (rg (zm ?_)))
    refine z ?_ (h := fun ν => acts_load_owns (xs := [vI ((cN (firstI s)).x), vI ((cN (firstI s)).y), .bool true].map A.val) ν qC16_ti_37 rfl (by decide) rfl)
    refine z ?_ (h := fun ν => acts_buildSlice' (h := 46) (xs := dsl ([(⟨(cN (firstI s)).x, (cN (firstI s)).y, true⟩ : Dom)] : List Dom)) ν qC16_un_30 qC16_zi_37 (.cons va OpVs.nil) (by decide) (by decide) (by kernel_rfl) rfl)
    refine z ?_ (h := fun ν => aD_ (h2 := 47) (L3 := (o ++ [(⟨(cN (firstI s)).x, (cN (firstI s)).y, true⟩ : Dom)])) ν qC16_un_30 qC16_zi_37 (by first | exact rfl | (simp; done) | (simp; omega) | omega) rfl (by first | exact rfl | (simp; done) | (simp; omega) | omega) (by first | omega | (simp; omega) | (simp at *; omega)))
    refine za (nl (rg (zm ?_)))
    refine z ?_ (h := fun ν => acts_load_owns (xs := [vI ((cN (firstI s)).x), vI ((cN (firstI s)).y), .bool true].map A.val) ν qC16_ti_37 rfl (by decide) rfl)
    refine z ?_ (h := fun ν => acts_call1 ν (impl_Domino__set_fn (⟨(cN (firstI s)).x, (cN (firstI s)).y, true⟩ : Dom) (by first | omega | assumption | exact cntR_reg (by omega) | exact domS_lt (by assumption) | exact andn_lt (by assumption))) (ac (ArgV.va va) an) rv)
    refine z ?_ (h := fun ν => acts_bin ν vt vt (r_andNot (c := (((andn s (domS (⟨(cN (firstI s)).x, (cN (firstI s)).y, true⟩ : Dom))) : Nat) : Int)) (andnU (m := s) (n := (domS (⟨(cN (firstI s)).x, (cN (firstI s)).y, true⟩ : Dom))) rfl rfl (by first | omega | assumption | exact Nat.lt_of_le_of_lt (shr_le _ _) (by first | omega | assumption | (first | omega | assumption | exact cntR_reg (by omega) | exact domS_lt (by assumption) | exact andn_lt (by assumption))) | (first | omega | assumption | exact cntR_reg (by omega) | exact domS_lt (by assumption) | exact andn_lt (by assumption))) (by first | omega | assumption | exact Nat.lt_of_le_of_lt (shr_le _ _) (by first | omega | assumption | (first | omega | assumption | exact cntR_reg (by omega) | exact domS_lt (by assumption) | exact andn_lt (by assumption))) | (first | omega | assumption | exact cntR_reg (by omega) | exact domS_lt (by assumption) | exact andn_lt (by assumption))))))
    refine za (nl ?_)
    exact Exists.intro ((andn s (domS (⟨(cN (firstI s)).x, (cN (firstI s)).y, true⟩ : Dom))), (n - 1), (o ++ [(⟨(cN (firstI s)).x, (cN (firstI s)).y, true⟩ : Dom)])) (And.intro (by exact (hFT.next h0 hpk).2) (And.intro (by show n - 1 < n; have := (hFT.next h0 hpk).1; omega) (wkf (subst1 [(11, 47)]) (wS <| wS <| wP <| by (iterate 14 refine wF ?_); exact wN))))
  ·skip
   have c5P := of_decide_eq_false c5
   have h0 : s = 0 := by have := of_decide_eq_false c5; omega
   refine wp_exit' (sq (rg (zm (za (zk (nl (wp_ret' ?_)))))))
   exact ⟨VRes.tmp _ _ _ (by exact rfl) (brow_doms (h := 11) (L := o) (by kernel_rfl) (by exact hFT.done hc0 h0) (by first | rfl | (simp; done) | (simp; omega))), VRes.tmp _ _ _ (by exact rfl) (bval (congrArg Value.bool (by simp; omega)))⟩
end Cl
end Go.Proofs.Ytjgjeflidcembaa
