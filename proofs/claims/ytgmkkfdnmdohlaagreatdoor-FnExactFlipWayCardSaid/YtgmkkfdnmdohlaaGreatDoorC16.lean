/- Walks over clean states, printed by wg.py. No statement is proved here. -/
import Derived.Test.YtgmkkfdnmdohlaaGreatDoorC14
import Derived.Test.YtgmkkfdnmdohlaaGreatDoorClB
set_option linter.unusedSimpArgs false
set_option linter.unusedVariables false
namespace Go.Proofs.YtgmkkfdnmdohlaaGreatDoor
namespace Cl
open Go.ChangeShapes Go.WideShapes Go.ChangeAt Go.RowKit
set_option maxRecDepth 20000

def ftR (l : List Int) : List Dom := if cntR l = 0 then [] else ftl 33 (regSet l)
structure FT (l : List Int) (s : Nat) (o : List Dom) (n : Nat) : Prop where
  lt : s < 18446744073709551616
  pos : 0 < cnt s
  pc : popc s < 2 * n
  ln : o.length + n = 33
  eq : o ++ ftl n s = ftl 33 (regSet l)
theorem cntR_reg {l : List Int} (h : ¬ cntR l = 0) : regOk l = true := by
  unfold cntR at h
  split at h
  · assumption
  · exact absurd rfl h
theorem popc_len {s : Nat} (hs : s < 18446744073709551616) : (setCells s).length = popc s := by unfold setCells popc; simp
theorem FT.zero {l : List Int} (h : ¬ cntR l = 0) : FT l (regSet l) [] 33 := by
  have hr := cntR_reg h
  have hs := regSet_lt hr
  refine ⟨hs, ?_, ?_, rfl, rfl⟩
  · unfold cntR at h; rw [if_pos hr] at h; omega
  · have := popc_le (regSet l); omega
theorem FT.next {l : List Int} {s : Nat} {o : List Dom} {n : Nat} (h : FT l s o n) (h0 : s ≠ 0) {d : Dom} (hp : pick s = d) : 0 < n ∧ FT l (andn s (domS d)) (o ++ [d]) (n - 1) := by
  subst hp
  obtain ⟨h1, h2⟩ := pick_ok h.lt h0 h.pos
  have hpc := popc_sub h1
  have h3 := h.pc
  have h4 := h.ln
  obtain ⟨m, rfl⟩ : ∃ m, n = m + 1 := ⟨n - 1, by omega⟩
  refine ⟨by omega, andn_lt h.lt, h2, by rw [Nat.add_sub_cancel]; omega, by rw [Nat.add_sub_cancel, List.length_append, List.length_singleton]; omega, ?_⟩
  rw [Nat.add_sub_cancel, ← h.eq, List.append_assoc]
  congr 1
  show [pick s] ++ ftl m _ = ftl (m + 1) s
  rw [ftl, if_neg h0]; rfl
theorem FT.done {l : List Int} {s : Nat} {o : List Dom} {n : Nat} (hc : ¬ cntR l = 0) (h : FT l s o n) (h0 : s = 0) : o = ftR l := by
  unfold ftR; rw [if_neg hc, ← h.eq, h0]
  cases n with
  | zero => unfold ftl; simp
  | succ n => unfold ftl; rw [if_pos rfl]; simp
theorem pick_okd {l : List Int} {s : Nat} {o : List Dom} {n : Nat} (h : FT l s o n) (h0 : s ≠ 0) {d : Dom} (hp : pick s = d) : okD d = true := by
  subst hp; exact (fit_ok (pick_ok h.lt h0 h.pos).1).1
theorem first_go {s k : Nat} (hs : s < 18446744073709551616) (h0 : s ≠ 0) (hk : k ≤ firstI s) (hb : s.testBit k = false) : k + 1 ≤ firstI s := by
  rcases Nat.lt_or_ge k (firstI s) with h | h
  · exact h
  · have e : k = firstI s := by omega
    rw [e, (firstI_lt hs h0).2] at hb; cases hb
theorem first_end {s k : Nat} (hk : k ≤ firstI s) (hb : s.testBit k = true) : k = firstI s := by
  rcases Nat.lt_or_ge k (firstI s) with h | h
  · rw [firstI_min h] at hb; cases hb
  · omega
theorem cells_none {l : List Int} (ho : regOk l = true) : (cellsOf l).length = popc (regSet l) := by unfold cellsOf; rw [if_pos ho]; exact popc_len (regSet_lt ho)
theorem popc_nz {s : Nat} (hs : s < 18446744073709551616) (h : popc s = 0) : s = 0 := by
  rcases Nat.eq_zero_or_pos s with h0 | h0
  · exact h0
  · have hf := firstI_lt hs (by omega)
    have hm : cN (firstI s) ∈ setCells s := set_mem.2 (by unfold hasS; rw [cN_ok hf.1, idx_cN hf.1, hf.2]; rfl)
    have := List.length_pos_of_mem hm
    rw [popc_len hs] at this; omega
/-- the reference's first tiling -/
structure FR (l R : List Int) (o : List Dom) (n : Nat) : Prop where
  ok : regOk R = true
  ft : FT l (regSet R) o n
theorem FR.zero {l : List Int} (h : ¬ cntR l = 0) : FR l l [] 33 := ⟨cntR_reg h, FT.zero h⟩
theorem FR.len {l R : List Int} {o : List Dom} {n : Nat} (h : FR l R o n) : R.length ≤ 8 ∧ o.length ≤ 33 := ⟨(regOk_true h.ok).1, by have := h.ft.ln; omega⟩
theorem FR.more {l R : List Int} {o : List Dom} {n : Nat} (h : FR l R o n) (hc : (((cellsOf R).length : Nat) : Int) > 0) : regSet R ≠ 0 := by
  intro e; rw [cells_none h.ok, e] at hc; simp [popc] at hc
theorem FR.end {l R : List Int} {o : List Dom} {n : Nat} (h : FR l R o n) (hc : ¬ (((cellsOf R).length : Nat) : Int) > 0) : regSet R = 0 := by
  rw [cells_none h.ok] at hc; exact popc_nz (regSet_lt h.ok) (by omega)
theorem FR.next {l R : List Int} {o : List Dom} {n : Nat} (h : FR l R o n) (h0 : regSet R ≠ 0) {d : Dom} (hp : pick (regSet R) = d) : 0 < n ∧ FR l (delL (delL R (ca d)) (cb d)) (o ++ [d]) (n - 1) := by
  have hd : okD d = true := pick_okd h.ft h0 hp
  have k1 := delL_ok h.ok (ok_ca hd)
  have k2 := delL_ok k1 (ok_cb hd)
  have := h.ft.next h0 hp
  refine ⟨this.1, k2, ?_⟩
  rw [delL_set k1 (ok_cb hd), delL_set h.ok (ok_ca hd), delC_two]
  exact this.2
theorem qC16_ti_70 : TI Tryz.prog 70 true 2 := ⟨⟨_, Tryz.underlying70, rfl⟩, by kernel_rfl⟩
theorem qC16_zi_70 : ZI Tryz.prog 70 (.agg #[.int .i64 0, .int .i64 0]) 2 16 := by unfold ZI; kernel_rfl
set_option maxHeartbeats 4000000 in
set_option maxRecDepth 100000 in
theorem impl_set__firstCell_fn (s : Nat) (hs : s < 18446744073709551616) (h0 : s ≠ 0) : Fn Tryz.prog 91 [.a (.val (.int .u64 ((s : Nat) : Int)))] [.val (.agg ([.int .i64 (cN (firstI s)).x, .int .i64 (cN (firstI s)).y] : List Value).toArray)] := by
 have hf := (firstI_lt hs h0).1
 refine fn_intro (N := 13) Tryz.func91 rfl (by kernel_rfl) rfl (Nat.le_of_ble_eq_true rfl) [2, 12] (ret1 rfl) (fun W => ?_)
 show Wp _ _ _ [kU 0 ((s : Nat) : Int), kF 2, kF 12]
 refine sq (rg ?_)
 refine z ?_ (h := fun ν => acts_alloc' (h := 2) (cap := 1) (s := 2) (cells := [aI 0, aI 0]) ν qC16_zi_70 rfl rfl (by decide))
 refine nl (sq (rg (zk (nl (sq (bkk ?_))))))
 refine wp_loop' (fun (k : Nat) => k ≤ firstI s) (fun (k : Nat) => [kU 0 ((s : Nat) : Int), kP 2 2 0, kI 3 ((k : Nat) : Int), kO 2 70 2 true [aI 0, aI 0], kF 12]) (fun (k : Nat) => 64 - k) ((0 : Nat)) (by exact (Nat.zero_le _ : 0 ≤ _)) (wkf id (wS <| wS <| wE (e := (vint (by first | rfl | omega | (simp; done) | (simp; omega)))) <| wX <| wF <| wN)) ?_
 rintro k inv1
 replace inv1 : k ≤ firstI s := inv1
 have inv := inv1
 refine sq (sq (rg (zm (zm ?_))))
 refine z ?_ (h := fun ν => acts_bin ν vt vt (r_shr (c := (((s >>> k) : Nat) : Int)) (by first | omega | exact Int.natCast_nonneg _) (shrU (m := s) (n := k) rfl rfl (by first | omega | assumption | exact Nat.lt_of_le_of_lt (shr_le _ _) (by first | omega | assumption | (first | omega | assumption)) | (first | omega | assumption)) rfl)))
 refine z ?_ (h := fun ν => acts_bin ν vt vc (r_and (c := ((((s >>> k) &&& 1) : Nat) : Int)) (andU (m := (s >>> k)) (n := 1) rfl rfl (by first | omega | assumption | exact Nat.lt_of_le_of_lt (shr_le _ _) (by first | omega | assumption | (first | omega | assumption)) | (first | omega | assumption)) (by first | omega | assumption | exact Nat.lt_of_le_of_lt (shr_le _ _) (by first | omega | assumption | (first | omega | assumption)) | (first | omega | assumption)))))
 refine z ?_ (h := fun ν => acts_bin ν vt vc (r_eql (c := (!(s.testBit k))) (bit_zero _ _)))
 refine nl ?_
 refine wi (b := (!(s.testBit k))) (fun c2 => ?_) (fun c2 => ?_)
 ·skip
  have c3 : (s.testBit k) = false := by first | (rw [← Bool.not_eq_true']; exact c2) | simpa using c2
  refine sk (bkk (rg (zm ?_)))
  refine z ?_ (h := fun ν => acts_bin ν vt vc (rA (by first | omega | assumption) (by first | omega | assumption)))
  refine za (nl ?_)
  exact Exists.intro ((k + 1)) (And.intro (by show _ ≤ _; first | exact first_go hs h0 inv (by assumption) | exact first_go hs h0 inv (by simp_all)) (And.intro (by show 64 - (k + 1) < 64 - k; omega) (wkf id (wS <| wS <| wE (e := (vint (by first | rfl | omega | (simp; done) | (simp; omega)))) <| wX <| wF <| wN))))
 ·skip
  have c4 : (s.testBit k) = true := by first | (rw [← Bool.not_eq_false']; exact c2) | simpa using c2
  refine wp_exit' (sq (rg (zm ?_)))
  refine z ?_ (h := fun ν => acts_call1 ν (impl_cellAt_fn k (by first | omega | assumption)) (ac (ArgV.v vt) an) (ResV.agg [vI ((cN k).x), vI ((cN k).y)]))
  refine z ?_ (h := fun _ => acts_store (cells := [aI ((cN k).x), aI ((cN k).y)]) qC16_ti_70 xt (by exact rfl) (by decide) (by exact ob1 rfl) (by exact Nat.le_of_ble_eq_true rfl) (by exact rfl))
  refine nl (wp_ret' ?_)
  exact VRes.cells 2 70 2 ⟨70, 2, true, [aI ((cN k).x), aI ((cN k).y)]⟩ _ (by kernel_rfl) (by kernel_rfl) qC16_ti_70 (Nat.le_of_ble_eq_true rfl) (bagg (vs := [vI ((cN k).x), vI ((cN k).y)]) (by ((have e : k = firstI s := by first | exact first_end inv (by assumption) | exact first_end inv (by simp_all)); subst e; rfl)))
end Cl
end Go.Proofs.YtgmkkfdnmdohlaaGreatDoor
