/- Parts put together: E1, E2, E3, E6. -/
import Derived.Test.YtgmkkfdnmdohlaaGreatDoorC16
import Derived.Test.YtgmkkfdnmdohlaaGreatDoorClB
import Derived.Test.YtgmkkfdnmdohlaaGreatDoorC3w
set_option linter.unusedSimpArgs false
set_option linter.unusedVariables false
namespace Go.Proofs.YtgmkkfdnmdohlaaGreatDoor
namespace Cl
open Go.ChangeShapes Go.WideShapes Go.ChangeAt Go.RowKit
set_option maxRecDepth 20000

theorem gB_ft {k : Nat} (h : k < 2) : gB [false, true] k = decide (((k : Nat) : Int) = 1) := by
  match k, h with
  | 0, _ => rfl
  | 1, _ => rfl
def tlb (n s : Nat) (b : Bool) : List (List Dom) := if fitD s (dmn (firstI s) b) = true then (tls n (andn s (domS (dmn (firstI s) b)))).map (dmn (firstI s) b :: ·) else []
def tlk (n s : Nat) : Nat → List (List Dom)
  | 0 => []
  | k + 1 => tlk n s k ++ tlb n s (decide (((k : Nat) : Int) = 1))
theorem tls_succ {n s : Nat} (h : s ≠ 0) : tls (n + 1) s = tlk n s 2 := by rw [tls, if_neg h]; rfl
theorem tls_zero {n s : Nat} (h : s = 0) : tls (n + 1) s = [[]] := by rw [tls, if_pos h]
theorem tlk_no {n s k : Nat} {d : Dom} (hd : d = dmn (firstI s) (decide (((k : Nat) : Int) = 1))) (h : fitD s d = false) : tlk n s (k + 1) = tlk n s k := by
  show tlk n s k ++ tlb n s _ = _
  unfold tlb; rw [← hd, h]; simp
theorem tlk_yes {n s k : Nat} {d : Dom} (hd : d = dmn (firstI s) (decide (((k : Nat) : Int) = 1))) (h : fitD s d = true) : tlk n s (k + 1) = tlk n s k ++ (tls n (andn s (domS d))).map (d :: ·) := by
  show tlk n s k ++ tlb n s _ = _
  unfold tlb; rw [← hd, if_pos h]
theorem tlk_le {n s k : Nat} (h0 : s ≠ 0) (hk : k ≤ 2) : (tlk n s k).length ≤ (tls (n + 1) s).length := by
  rw [tls_succ h0]
  match k, hk with
  | 0, _ => exact Nat.zero_le _
  | 1, _ => show _ ≤ (tlk n s 1 ++ _).length; rw [List.length_append]; omega
  | 2, _ => exact Nat.le_refl _
theorem tlk_full {n s k : Nat} (h0 : s ≠ 0) (hk : k ≤ 2) (h : (tls (n + 1) s).length ≤ (tlk n s k).length) : tlk n s k = tls (n + 1) s := by
  rw [tls_succ h0] at h ⊢
  match k, hk, h with
  | 0, _, h => exact (List.eq_nil_of_length_eq_zero (Nat.le_zero.1 h)).symm
  | 1, _, h =>
    have e : tlk n s 2 = tlk n s 1 ++ tlb n s (decide (((1 : Nat) : Int) = 1)) := rfl
    rw [e, List.length_append] at h
    rw [e, List.eq_nil_of_length_eq_zero (l := tlb n s (decide (((1 : Nat) : Int) = 1))) (by omega), List.append_nil]
  | 2, _, _ => rfl
theorem tl_round {n s k : Nat} {L : List (List Dom)} {P : List Dom} {d : Dom} (hd : d = dmn (firstI s) (decide (((k : Nat) : Int) = 1))) (h : fitD s d = true) : (L ++ (tlk n s k).map (P ++ ·)) ++ (tls n (andn s (domS d))).map ((P ++ [d]) ++ ·) = L ++ (tlk n s (k + 1)).map (P ++ ·) := by
  rw [tlk_yes hd h, List.map_append, List.map_map, List.append_assoc]
  congr 2
  apply List.map_congr_left
  intro x _; show (P ++ [d]) ++ x = P ++ (d :: x); rw [List.append_assoc]; rfl
theorem tl_skip {n s k : Nat} {L : List (List Dom)} {P : List Dom} {d : Dom} (hd : d = dmn (firstI s) (decide (((k : Nat) : Int) = 1))) (h : fitD s d = false) : L ++ (tlk n s k).map (P ++ ·) = L ++ (tlk n s (k + 1)).map (P ++ ·) := by rw [tlk_no hd h]
theorem tl_end {n s k : Nat} {L : List (List Dom)} {P : List Dom} (h0 : s ≠ 0) (hk : k ≤ 2) (hk2 : ¬ k < 2) : L ++ (tlk n s k).map (P ++ ·) = L ++ (tls (n + 1) s).map (P ++ ·) := by
  rw [tls_succ h0, show k = 2 by omega]
theorem tl_done {n s : Nat} {L : List (List Dom)} {P : List Dom} (h0 : s = 0) : L ++ [P] = L ++ (tls (n + 1) s).map (P ++ ·) := by rw [tls_zero h0]; simp
theorem tl_len {n s k : Nat} {d : Dom} (hd : d = dmn (firstI s) (decide (((k : Nat) : Int) = 1))) (h : fitD s d = true) (h0 : s ≠ 0) (hk : k < 2) : (tlk n s k).length + (tls n (andn s (domS d))).length ≤ (tls (n + 1) s).length := by
  have := tlk_le (n := n) h0 (show k + 1 ≤ 2 by omega)
  rw [tlk_yes hd h, List.length_append, List.length_map] at this; exact this
theorem fit_no1 {s : Nat} {d : Dom} (h : okD d = false) : fitD s d = false := by unfold fitD; rw [h]; rfl
theorem fit_no2 {s : Nat} {d : Dom} (h : ¬ (((s &&& domS d : Nat) : Int) = ((domS d : Nat) : Int))) : fitD s d = false := by
  unfold fitD; rw [decide_eq_false (fun e => h (by rw [e]))]; simp
theorem fit_yes {s : Nat} {d : Dom} (h1 : okD d = true) (h : ((s &&& domS d : Nat) : Int) = ((domS d : Nat) : Int)) : fitD s d = true := by
  unfold fitD; rw [h1, decide_eq_true (Int.ofNat.inj h)]; rfl
theorem set_first {s : Nat} (hlt : s < 18446744073709551616) (h0 : s ≠ 0) : gC (setCells s) 0 = cN (firstI s) ∧ 0 < (setCells s).length := by
  have hf := firstI_lt hlt h0
  have hm : cN (firstI s) ∈ setCells s := set_mem.2 (by unfold hasS; rw [cN_ok hf.1, idx_cN hf.1, hf.2]; rfl)
  have hpos := List.length_pos_of_mem hm
  refine ⟨?_, hpos⟩
  have h1 := set_mem.1 (gC_mem hpos)
  obtain ⟨j, hj, e⟩ := List.getElem_of_mem hm
  rw [← gC_eq hj] at e
  have hi : idx (gC (setCells s) 0) = firstI s := by
    rcases Nat.eq_zero_or_pos j with rfl | hp
    · rw [e, idx_cN hf.1]
    · have := setCells_lt (s := s) hp hj
      rw [e, idx_cN hf.1] at this
      have hb := firstI_min (s := s) this
      unfold hasS at h1; rw [hb] at h1; simp at h1
  have h2 := hasS_ok h1
  rw [← idx_inj h2 (cN_ok hf.1) (by rw [hi, idx_cN hf.1])]
theorem lftE_lt {l : List Int} {P : List Dom} (ho : regOk l = true) : lft l P < 18446744073709551616 := andn_lt (regSet_lt ho)
theorem lft_nil (l : List Int) : lft l [] = regSet l := by unfold lft; exact andn_cov0 _ []
theorem lft_snoc {l : List Int} {P : List Dom} {d : Dom} (hd : okD d = true) : lft l (P ++ [d]) = andn (lft l P) (domS d) := by
  unfold lft; rw [andn_or]; congr 1
  unfold covS; rw [List.foldl_append]; show cov1 _ d = _
  unfold cov1; rw [if_pos hd]
theorem unc_none {l : List Int} {P : List Dom} (ho : regOk l = true) (h : ((unc l P).length : Int) = 0) : lft l P = 0 := by
  rw [← unc_set P ho] at h
  exact popc_nz (lftE_lt ho) (by rw [← popc_len (s := lft l P) (lftE_lt ho)]; exact Int.ofNat.inj h)
theorem unc_some {l : List Int} {P : List Dom} (ho : regOk l = true) (h : ¬ ((unc l P).length : Int) = 0) : lft l P ≠ 0 := by
  intro e
  rw [← unc_set P ho, show andn (regSet l) (covS P) = lft l P from rfl, e] at h
  exact h (by decide)
theorem unc_first {l : List Int} {P : List Dom} (ho : regOk l = true) (h : lft l P ≠ 0) : gC (unc l P) 0 = cN (firstI (lft l P)) ∧ 0 < (unc l P).length := by
  rw [← unc_set P ho]; exact set_first (lftE_lt ho) h
theorem l08_fit {l : List Int} {P : List Dom} {d : Dom} (ho : regOk l = true) (hd : okD d = true) (ha : (lft l P).testBit (idx (ca d)) = true) : fitD (lft l P) d = (hasC l (cb d) && decide (atD P (cb d) < 0)) := by
  unfold fitD; rw [hd, Bool.true_and, show decide (lft l P &&& domS d = domS d) = fits (regSet l) (covS P) d from rfl, fits_iff]
  have ha' : ((regSet l).testBit (idx (ca d)) && !(covS P).testBit (idx (ca d))) = true := by unfold lft at ha; rw [andn_bit] at ha; exact ha
  rw [ha', Bool.true_and, covS_bit P (ok_cb hd), atD_neg]; unfold hasC; rw [ho, ok_cb hd]; simp
theorem l08_bit {l : List Int} {P : List Dom} {b : Bool} (ho : regOk l = true) (h0 : lft l P ≠ 0) : (lft l P).testBit (idx (ca (dmn (firstI (lft l P)) b))) = true := by
  have hf := firstI_lt (lftE_lt (P := P) ho) h0
  rw [ca_dmn b hf.1]; exact hf.2
def ltR (l : List Int) : List (List Dom) := if (decide (1 ≤ cntR l) && decide (cntR l ≤ 300)) = true then tls 33 (regSet l) else []
theorem ltR_no {l : List Int} (h : inB ((cntR l : Nat) : Int) 1 300 = false) : ltR l = [] := by
  unfold ltR; rw [if_neg]; intro e
  simp only [Bool.and_eq_true, decide_eq_true_eq] at e
  have := inB_false.1 h; omega
theorem ltR_yes {l : List Int} (h : inB ((cntR l : Nat) : Int) 1 300 = true) : ltR l = tls 33 (regSet l) ∧ regOk l = true ∧ (tls 33 (regSet l)).length ≤ 300 := by
  have h1 := inB_true.1 h
  have hr : regOk l = true := cntR_reg (by omega)
  refine ⟨?_, hr, ?_⟩
  · unfold ltR; rw [if_pos]; simp only [Bool.and_eq_true, decide_eq_true_eq]; omega
  · rw [tls_len 33 _ (regSet_lt hr) (by have := popc_le (regSet l); omega)]
    have e := cntR_yes hr
    omega
theorem tls_row : ∀ n s, ∀ P ∈ tls n s, P.length ≤ n := by
  intro n
  induction n with
  | zero => intro s P h; simp [tls] at h
  | succ n ih =>
    intro s P h
    unfold tls at h
    split at h
    · simp at h; subst h; simp
    · rw [List.mem_append] at h
      rcases h with h | h
      · split at h
        · obtain ⟨Q, hQ, rfl⟩ := List.mem_map.1 h
          have := ih _ Q hQ; simp; omega
        · simp at h
      · split at h
        · obtain ⟨Q, hQ, rfl⟩ := List.mem_map.1 h
          have := ih _ Q hQ; simp; omega
        · simp at h
theorem ltR_row {l : List Int} {k : Nat} (h : k < (ltR l).length) : (gLd (ltR l) k).length ≤ 33 := by
  rw [gLd_eq h]
  have hm := List.getElem_mem h
  revert hm
  generalize (ltR l)[k] = P
  intro hm
  unfold ltR at hm
  split at hm
  · exact tls_row 33 _ P hm
  · simp at hm
theorem ltR_len (l : List Int) : (ltR l).length ≤ 300 := by
  rcases Bool.eq_false_or_eq_true (inB ((cntR l : Nat) : Int) 1 300) with h | h
  · obtain ⟨h1, _, h2⟩ := ltR_yes h
    rw [h1]; exact h2
  · rw [ltR_no h]; simp


end Cl
end Go.Proofs.YtgmkkfdnmdohlaaGreatDoor

namespace Go.Proofs.YtgmkkfdnmdohlaaGreatDoor
namespace Cl
open Go.ChangeShapes Go.WideShapes Go.ChangeAt Go.RowKit
set_option maxRecDepth 20000

theorem qE2_bs_62 : ∀ (a b : Int) (c : Bool), Tryz.prog.built 62 [(0, .int .i64 a), (1, .int .i64 b), (2, .bool c)] = some ([.int .i64 a, .int .i64 b, .bool c] : List Value).toArray := fun _ _ _ => rfl
theorem qE2_fo_70_0 : fieldOff Tryz.prog 70 0 = some 0 := by kernel_rfl
theorem qE2_fo_70_1 : fieldOff Tryz.prog 70 1 = some 1 := by kernel_rfl
theorem qE2_sz_4 : (Tryz.prog.info? 4).map (·.size) = some 1 := by kernel_rfl
theorem qE2_sz_62 : (Tryz.prog.info? 62).map (·.size) = some 3 := by kernel_rfl
theorem qE2_ti_111 : TI Tryz.prog 111 false 1 := ⟨⟨_, Tryz.underlying111, rfl⟩, by kernel_rfl⟩
theorem qE2_ti_29 : TI Tryz.prog 29 true 1 := ⟨⟨_, Tryz.underlying29, rfl⟩, by kernel_rfl⟩
theorem qE2_ti_3 : TI Tryz.prog 3 false 1 := ⟨⟨_, Tryz.underlying3, rfl⟩, by kernel_rfl⟩
theorem qE2_ti_31 : TI Tryz.prog 31 false 1 := ⟨⟨_, Tryz.underlying31, rfl⟩, by kernel_rfl⟩
theorem qE2_ti_4 : TI Tryz.prog 4 false 1 := ⟨⟨_, Tryz.underlying4, rfl⟩, by kernel_rfl⟩
theorem qE2_ti_58 : TI Tryz.prog 58 false 1 := ⟨⟨_, Tryz.underlying58, rfl⟩, by kernel_rfl⟩
theorem qE2_ti_62 : TI Tryz.prog 62 true 3 := ⟨⟨_, Tryz.underlying62, rfl⟩, by kernel_rfl⟩
theorem qE2_ti_70 : TI Tryz.prog 70 true 2 := ⟨⟨_, Tryz.underlying70, rfl⟩, by kernel_rfl⟩
theorem qE2_ti_85 : TI Tryz.prog 85 false 1 := ⟨⟨_, Tryz.underlying85, rfl⟩, by kernel_rfl⟩
theorem qE2_un_31 : Tryz.prog.underlying 31 = some (.slice 62) := Tryz.underlying31
theorem qE2_un_58 : Tryz.prog.underlying 58 = some (.slice 31) := Tryz.underlying58
theorem qE2_un_77 : Tryz.prog.underlying 77 = some (.slice 4) := Tryz.underlying77
theorem qE2_zi_111 : ZI Tryz.prog 111 (.nilFunc) 1 8 := by unfold ZI; kernel_rfl
theorem qE2_zi_31 : ZI Tryz.prog 31 (.slice none 0 0) 1 24 := by unfold ZI; kernel_rfl
theorem qE2_zi_4 : ZI Tryz.prog 4 (.bool false) 1 1 := by unfold ZI; kernel_rfl
theorem qE2_zi_58 : ZI Tryz.prog 58 (.slice none 0 0) 1 24 := by unfold ZI; kernel_rfl
theorem qE2_zi_62 : ZI Tryz.prog 62 (.agg #[.int .i64 0, .int .i64 0, .bool false]) 3 24 := by unfold ZI; kernel_rfl
theorem qE2_zi_70 : ZI Tryz.prog 70 (.agg #[.int .i64 0, .int .i64 0]) 2 16 := by unfold ZI; kernel_rfl
set_option maxHeartbeats 4000000 in
set_option maxRecDepth 100000 in
theorem impl_copyDominoes_fn (ds : List Dom) (hl : ds.length ≤ 1048576) : Fn Tryz.prog 44 [.a (.slv ds.length 3 (dsl ds))] [.row 62 3 ds.length (dsl ds)] := by
 refine fn_intro (N := 6) Tryz.func44 rfl (by kernel_rfl) rfl (Nat.le_of_ble_eq_true rfl) [3, 5] (ret1 rfl) (fun W => ?_)
 show Wp _ _ _ [kV 0 (V.b (.a (.slv ds.length 3 (dsl ds)))), kF 3, kF 5]
 refine sq (rg (zk (nl (sq (rg ?_)))))
 refine z ?_ (h := fun ν => b0D (h := 3) ν qE2_un_31 qE2_zi_62)
 refine zm ?_
 refine z ?_ (h := fun ν => acts_app (h2 := 5) (m := ds.length) (nm := ds.length) (X := .slv ds.length 3 (dsl ds)) (xs := dsl []) (ys := dsl ds) (zs := dsl ds) ν qE2_un_31 qE2_zi_62 rfl (by decide) (by decide) (by exact dsl_len _) xt (Src.slv _ _ _) (dsl_one' _) (by omega) (by exact (dsl_append _ _).symm) (by (simp; done)))
 refine za (nl (wp_ret' ?_))
 exact VRes.tmp _ _ _ (by exact rfl) (BRes.row 5 ds.length _ 3 _ (by kernel_rfl) (by exact dsl_len _))

set_option maxHeartbeats 4000000 in
set_option maxRecDepth 100000 in
theorem impl_ListTilings_1_fn (L : List (List Dom)) (P : List Dom) (hP : P.length ≤ 100) (hL : L.length ≤ 1000) : FnO Tryz.prog 65 [.a (.sl 12 0 P.length), .a (.ptr 11 0)] [(.o 11, some (.o ⟨58, 1, true, [(.sl 13 0 L.length : A)]⟩)), (.o 12, some (.o ⟨62, 3, true, pl (dsl P)⟩)), (.o 13, some (.o ⟨31, 1, true, rwD 62 L⟩))] (V.v (.tuple #[])) [(.o 11, some (.o ⟨58, 1, true, [(.sl 23 0 ((L ++ [P]).length) : A)]⟩)), (.o 12, some (.o ⟨62, 3, true, pl (dsl P)⟩)), (.o 23, some (.o ⟨31, 1, true, rwD 62 (L ++ [P])⟩))] [11, 12] := by
 refine fn_introO (N := 8) Tryz.func65 rfl (by kernel_rfl) rfl (Nat.le_of_ble_eq_true rfl) rfl rfl (by kernel_rfl) (by kernel_rfl) ⟨ocs (by kernel_rfl), oc_pl (fun _ => rfl), oc_rwD, trivial⟩ [5, 6, 7] (retO0 rfl) (fun W own kp im0 => ?_)
 show Wp _ _ _ [kS 0 12 0 P.length, kP 1 11 0, kO 11 58 1 true [(.sl 13 0 L.length : A)], kO 12 62 3 true (pl (dsl P)), kO 13 31 1 true (rwD 62 L), kF 5, kF 6, kF 7]
 refine wp_dr ?_
 refine zd ?_ (h := fun ν => acts_load_own (x := .sl 13 0 L.length) ν qE2_ti_58 (by exact rfl))
 refine zdm ?_
 refine zd ?_ (h := fun ν => acts_call1 ν (impl_copyDominoes_fn P (by omega)) (ac (argv_own (by exact dsl_len _)) an) (ResV.row _ _ _ _ 5))
 refine zd ?_ (h := fun ν => bs1 (h := 6) ν qE2_un_58 qE2_zi_31 (by exact ⟨_, _, _, .inl rfl⟩))
 refine zd ?_ (h := fun ν => aQ (h2 := 7) (nm := (L ++ [P]).length) ν qE2_un_58 qE2_zi_31 (by exact ⟨_, _, _, .inl rfl⟩) (by simp [rwI_len, rwD_len]) (by omega) (by simp))
 refine zd ?_ (h := fun _ => acts_store (cells := [(.sl 7 0 ((L ++ [P]).length) : A)]) qE2_ti_58 xt (by exact rfl) (by decide) (by exact ob1 rfl) (by exact Nat.le_of_ble_eq_true rfl) (by exact rfl))
 refine dw_nil ?_
 exact ⟨[kO 11 58 1 true [(.sl 23 0 ((L ++ [P]).length) : A)], kO 12 62 3 true (pl (dsl P)), kO 23 31 1 true (rwD 62 (L ++ [P])), kF 6, kF 7], weak_trans (pkD (h := 7) (h1 := 5) (T := 62) (T0 := 31) (s0 := 1) (ex0 := true) (n := P.length) (L := L) (r := P)) (wkf (subst1 [(23, 7)]) (wX <| wP <| wQD <| wF <| wF <| wN)), ⟨by kernel_rfl, by kernel_rfl, by kernel_rfl, trivial⟩, trivial⟩

set_option maxHeartbeats 4000000 in
set_option maxRecDepth 100000 in
theorem impl_set__each_1_fn : ∀ (n : Nat) (s : Nat) (L : List (List Dom)) (P : List Dom) (hs : s < 18446744073709551616) (hn : popc s < 2 * n) (hL : L.length + (tls n s).length ≤ 1000) (hP : P.length + n ≤ 100), FnO Tryz.prog 90 [.a (.val (.int .u64 ((s : Nat) : Int))), .a (.ptr 1 0), .a (.ptr 2 0), .a (.ptr 3 0)] [(.o 1, some (.o ⟨85, 1, true, [(.fn 65 [11] : A)]⟩)), (.o 2, some (.o ⟨31, 1, true, [(.sl 12 0 P.length : A)]⟩)), (.o 3, some (.o ⟨111, 1, true, [(.fn 90 [1, 2, 3] : A)]⟩)), (.o 11, some (.o ⟨58, 1, true, [(.sl 13 0 L.length : A)]⟩)), (.o 12, some (.o ⟨62, 3, true, pl (dsl P)⟩)), (.o 13, some (.o ⟨31, 1, true, rwD 62 L⟩))] (V.v (.tuple #[])) [(.o 1, some (.o ⟨85, 1, true, [(.fn 65 [11] : A)]⟩)), (.o 2, some (.o ⟨31, 1, true, [(.sl 22 0 P.length : A)]⟩)), (.o 3, some (.o ⟨111, 1, true, [(.fn 90 [1, 2, 3] : A)]⟩)), (.o 11, some (.o ⟨58, 1, true, [(.sl 23 0 ((L ++ (tls n s).map (P ++ ·)).length) : A)]⟩)), (.o 22, some (.o ⟨62, 3, true, pl (dsl P)⟩)), (.o 23, some (.o ⟨31, 1, true, rwD 62 (L ++ (tls n s).map (P ++ ·))⟩))] [1, 2, 3, 11] := by
 intro n
 induction n with
 | zero => intro s L P hs hn hL hP; exfalso; omega
 | succ n ih =>
  intro s L P hs hn hL hP
  refine fn_introO (N := 55) Tryz.func90 rfl (by kernel_rfl) rfl (Nat.le_of_ble_eq_true rfl) rfl rfl (by kernel_rfl) (by kernel_rfl) ⟨ocs (by kernel_rfl), ocs (by kernel_rfl), ocs (by kernel_rfl), ocs (by kernel_rfl), oc_pl (fun _ => rfl), oc_rwD, trivial⟩ [5, 8, 15, 16, 17, 29, 33, 36, 41, 42, 46, 48, 51, 55, 56, 57, 58, 2013] (retO0 rfl) (fun W own kp im0 => ?_)
  show Wp _ _ _ [kU 0 ((s : Nat) : Int), kP 1 1 0, kP 2 2 0, kP 3 3 0, kO 1 85 1 true [(.fn 65 [11] : A)], kO 2 31 1 true [(.sl 12 0 P.length : A)], kO 3 111 1 true [(.fn 90 [1, 2, 3] : A)], kO 11 58 1 true [(.sl 13 0 L.length : A)], kO 12 62 3 true (pl (dsl P)), kO 13 31 1 true (rwD 62 L), kF 5, kF 8, kF 15, kF 16, kF 17, kF 29, kF 33, kF 36, kF 41, kF 42, kF 46, kF 48, kF 51, kF 55, kF 56, kF 57, kF 58, kF 2013]
  refine sq (sq (rg (zm ?_)))
  refine z ?_ (h := fun ν => acts_bin ν vt vc (r_eql rfl))
  refine nl ?_
  refine wi (fun c1 => ?_) (fun c1 => ?_)
  ·skip
   have c1P := of_decide_eq_true c1
   have h0 : s = 0 := by omega
   refine sq (rg ?_)
   refine z ?_ (h := fun ν => acts_load_own (x := .fn 65 [11]) ν qE2_ti_85 (by exact rfl))
   refine z ?_ (h := fun ν => acts_load_own (x := .sl 12 0 P.length) ν qE2_ti_31 (by exact rfl))
   refine z ?_ (h := fun ν => acts_callV (d := 13) (f := 65) (t := 11) (caps := [11]) (os := [(.o 11, some (.o ⟨58, 1, true, [(.sl 13 0 L.length : A)]⟩)), (.o 12, some (.o ⟨62, 3, true, pl (dsl P)⟩)), (.o 13, some (.o ⟨31, 1, true, rwD 62 L⟩))]) (os' := [(.o 11, some (.o ⟨58, 1, true, [(.sl 5 0 ((L ++ [P]).length) : A)]⟩)), (.o 12, some (.o ⟨62, 3, true, pl (dsl P)⟩)), (.o 5, some (.o ⟨31, 1, true, rwD 62 (L ++ [P])⟩))]) (r := V.v (.tuple #[])) (bs := [.a (.sl 12 0 P.length)]) (keep := [11, 12]) (new := [5]) (dead := [13]) ν (FnO.ren' (impl_ListTilings_1_fn L P (by omega) (by omega)) (subst1 [(23, 5)]) rfl rfl (by kernel_rfl) (by kernel_rfl) ⟨ocs (by kernel_rfl), oc_pl (fun _ => rfl), oc_rwD, trivial⟩ (by kernel_rfl) rfl (by simp only [renS, Ob.ren, pl_ren, rws_ren_doms, rws_ren_ints, rws_ren_cels, rwI_ren, rwD_ren]; first | done | rfl) (by simp only [renS, Ob.ren, pl_ren, rws_ren_doms, rws_ren_ints, rws_ren_cels, rwI_ren, rwD_ren]; first | done | rfl) rfl rfl) (by kernel_rfl) ⟨ocs (by kernel_rfl), oc_pl (fun _ => rfl), oc_rwD, trivial⟩ (by kernel_rfl) (ArgOs.cons (ArgO.slot 12 (.a (.sl 12 0 P.length))) (ArgOs.nil)))
   refine nl (wp_ret' ?_)
   exact ⟨[kO 1 85 1 true [(.fn 65 [11] : A)], kO 2 31 1 true [(.sl 22 0 P.length : A)], kO 3 111 1 true [(.fn 90 [1, 2, 3] : A)], kO 11 58 1 true [(.sl 23 0 ((L ++ [P]).length) : A)], kO 22 62 3 true (pl (dsl P)), kO 23 31 1 true (rwD 62 (L ++ [P])), kF 5, kF 8, kF 12, kF 15, kF 16, kF 17, kF 29, kF 33, kF 36, kF 41, kF 42, kF 46, kF 48, kF 51, kF 55, kF 56, kF 57, kF 58, kF 2013], wkf (subst1 [(22, 12), (23, 5)]) (wX <| wX <| wX <| wX <| wP <| wQD <| by (iterate 19 refine wF ?_); exact wN), ⟨by kernel_rfl, by kernel_rfl, by kernel_rfl, obj_eq (c := [(.sl 23 0 ((L ++ [P]).length) : A)]) (by kernel_rfl) (congrArg (fun z : Nat => [(A.sl 23 0 z : A)]) (by exact congrArg List.length (tl_done h0))), by kernel_rfl, obj_eq (c := rwD 62 (L ++ [P])) (by kernel_rfl) (congrArg (fun z => rwD 62 z) (by exact tl_done h0)), trivial⟩, trivial⟩
  ·skip
   have c1P := of_decide_eq_false c1
   have h0 : s ≠ 0 := by omega
   refine sk (sq (rg (zm ?_)))
   refine z ?_ (h := fun ν => acts_call1 ν (impl_set__firstCell_fn s (by omega) (by omega)) (ac (ArgV.v vt) an) (ResV.agg [vI ((cN (firstI s)).x), vI ((cN (firstI s)).y)]))
   refine z ?_ (h := fun ν => acts_alloc' (h := 5) (cap := 1) (s := 2) (cells := [aI 0, aI 0]) ν qE2_zi_70 rfl rfl (by decide))
   refine z ?_ (h := fun _ => acts_store (cells := [aI ((cN (firstI s)).x), aI ((cN (firstI s)).y)]) qE2_ti_70 xt (by exact rfl) (by decide) (by exact ob1 rfl) (by exact Nat.le_of_ble_eq_true rfl) (by exact rfl))
   refine nl (sq (rg ?_))
   refine z ?_ (h := fun ν => acts_buildSlice' (h := 16) (xs := bsl ([false, true] : List Bool)) ν qE2_un_77 qE2_zi_4 (.cons vc (.cons vc OpVs.nil)) (by decide) (by decide) (by kernel_rfl) rfl)
   refine z ?_ (h := fun ν => lnS (iv := 2) ν qE2_un_77)
   refine z ?_ (h := fun ν => mc ν)
   refine nl (bkk ?_)
   refine wp_loop' (fun (k : Nat) => k ≤ 2) (fun (k : Nat) => [kU 0 ((s : Nat) : Int), kP 2 2 0, kP 3 3 0, kP 5 5 0, kS 16 16 0 2, kI 17 2, kI 18 ((k : Nat) : Int), kO 1 85 1 true [(.fn 65 [11] : A)], kO 2 31 1 true [(.sl 12 0 P.length : A)], kO 3 111 1 true [(.fn 90 [1, 2, 3] : A)], kO 5 70 2 true [aI ((cN (firstI s)).x), aI ((cN (firstI s)).y)], kO 11 58 1 true [(.sl 13 0 ((L ++ (tlk n s k).map (P ++ ·)).length) : A)], kO 12 62 3 true (pl (dsl P)), kO 13 31 1 true (rwD 62 (L ++ (tlk n s k).map (P ++ ·))), kO 16 4 1 true (pl (bsl [false, true])), kF 8, kF 15, kF 17, kF 29, kF 33, kF 36, kF 41, kF 42, kF 46, kF 48, kF 51, kF 55, kF 56, kF 57, kF 58, kF 2013]) (fun (k : Nat) => 2 - k) ((0 : Nat)) (by exact (Nat.zero_le _ : 0 ≤ _)) (wkf id (wS <| wS <| wS <| wS <| wS <| wS <| wE (e := (vint (by rfl))) <| wX <| wX <| wX <| wX <| wO (e := renob_l (fun h => h) (congrArg (fun z : Nat => [A.sl 13 0 z]) (by (exact congrArg List.length (by first | rfl | omega | (simp [tlk]; done) | exact tl_round hd hft | exact Eq.symm (tl_round hd hft) | exact tl_skip hd hno | exact Eq.symm (tl_skip hd hno))))) rfl) <| wP <| wQD (e := (by (simp [tlk]; done))) <| wP <| by (iterate 16 refine wF ?_); exact wN)) ?_
   rintro k inv2
   replace inv2 : k ≤ 2 := inv2
   have inv := inv2
   have hkl := tlk_le (n := n) h0 inv
   refine sq (rg ?_)
   refine z ?_ (h := fun ν => acts_bin ν vt vt (r_lss rfl))
   refine nl (sq ?_)
   refine wi (fun c3 => ?_) (fun c3 => ?_)
   ·skip
    have c3P := of_decide_eq_true c3
    have hk2 : k < 2 := by omega
    have hd : (⟨(cN (firstI s)).x, (cN (firstI s)).y, gB [false, true] k⟩ : Dom) = dmn (firstI s) (decide (((k : Nat) : Int) = 1)) := by rw [gB_ft hk2]; rfl
    have hfi := (firstI_lt hs h0).1
    refine sk (sq (bkk (sq (rg ?_))))
    refine z ?_ (h := fun ν => ix0 ν qE2_un_77 qE2_sz_4 vt (hlt := (by omega)))
    refine z ?_ (h := fun ν => lB ν qE2_ti_4 (by omega))
    refine za (nl (sq (rg ?_)))
    refine z ?_ (h := fun ν => acts_field (off' := 0) ν qE2_fo_70_0 rfl)
    refine z ?_ (h := fun ν => acts_load_own (x := .val (.int .i64 ((cN (firstI s)).x))) ν qE2_ti_3 (by exact rfl))
    refine z ?_ (h := fun ν => acts_field (off' := 1) ν qE2_fo_70_1 rfl)
    refine z ?_ (h := fun ν => acts_load_own (x := .val (.int .i64 ((cN (firstI s)).y))) ν qE2_ti_3 (by exact rfl))
    refine zm ?_
    refine z ?_ (h := fun ν => bD ν qE2_bs_62 vt vt vt)
    refine z ?_ (h := fun ν => acts_alloc' (h := 8) (cap := 1) (s := 3) (cells := [aI 0, aI 0, aB false]) ν qE2_zi_62 rfl rfl (by decide))
    refine z ?_ (h := fun _ => acts_store (cells := [aI ((cN (firstI s)).x), aI ((cN (firstI s)).y), aB (gB [false, true] k)]) qE2_ti_62 xt (by exact rfl) (by decide) (by exact ob1 rfl) (by exact Nat.le_of_ble_eq_true rfl) (by exact rfl))
    refine nl (sq ?_)
    rcases Bool.eq_false_or_eq_true ((okD (⟨(cN (firstI s)).x, (cN (firstI s)).y, (gB [false, true] k)⟩ : Dom))) with c4 | c4
    ·skip
     have hok := c4
     have hdl := domS_lt c4
     refine wp_dr ?_
     refine zd ?_ (h := fun ν => acts_load_owns (xs := [vI ((cN (firstI s)).x), vI ((cN (firstI s)).y), .bool (gB [false, true] k)].map A.val) ν qE2_ti_62 rfl (by decide) rfl)
     refine zd ?_ (h := fun ν => acts_call1 ν (impl_DominoOk_fn (⟨(cN (firstI s)).x, (cN (firstI s)).y, (gB [false, true] k)⟩ : Dom) ) (ac (ArgV.va va) an) (resval (congrArg Value.bool c4)))
     refine zdm ?_
     refine zdg ?_ (h := fun ν => step_on rfl rfl (mt ν))
     refine zdg ?_ (h := fun ν => step_on rfl rfl (acts_load_owns (xs := [vI ((cN (firstI s)).x), vI ((cN (firstI s)).y), .bool (gB [false, true] k)].map A.val) ν qE2_ti_62 rfl (by decide) rfl))
     refine zdg ?_ (h := fun ν => step_on rfl rfl (acts_call1 ν (impl_Domino__set_fn (⟨(cN (firstI s)).x, (cN (firstI s)).y, (gB [false, true] k)⟩ : Dom) (by omega)) (ac (ArgV.va va) an) rv))
     refine zdg ?_ (h := fun ν => step_on rfl rfl (acts_bin ν vt vt (r_and (c := (((s &&& (domS (⟨(cN (firstI s)).x, (cN (firstI s)).y, (gB [false, true] k)⟩ : Dom))) : Nat) : Int)) (andU (m := s) (n := (domS (⟨(cN (firstI s)).x, (cN (firstI s)).y, (gB [false, true] k)⟩ : Dom))) rfl rfl (by omega) (by omega)))))
     refine zdg ?_ (h := fun ν => step_on rfl rfl (acts_load_owns (xs := [vI ((cN (firstI s)).x), vI ((cN (firstI s)).y), .bool (gB [false, true] k)].map A.val) ν qE2_ti_62 rfl (by decide) rfl))
     refine zdg ?_ (h := fun ν => step_on rfl rfl (acts_call1 ν (impl_Domino__set_fn (⟨(cN (firstI s)).x, (cN (firstI s)).y, (gB [false, true] k)⟩ : Dom) (by omega)) (ac (ArgV.va va) an) rv))
     refine zdg ?_ (h := fun ν => step_on rfl rfl (acts_bin ν vt vt (r_eql rfl)))
     refine zd ?_ (h := fun ν => acts_pick_t ν vt xt)
     refine dw_nil ?_
     refine wi (fun c5 => ?_) (fun c5 => ?_)
     ·skip
      have c5P := of_decide_eq_true c5
      have hft := fit_yes hok (of_decide_eq_true c5)
      have hln := tl_len (n := n) hd hft h0 hk2
      have hpc := popc_sub hft
      refine sq (rg ?_)
      refine z ?_ (h := fun ν => acts_load_own (x := .sl 12 0 P.length) ν qE2_ti_31 (by exact rfl))
      refine z ?_ (h := fun ν => acts_load_owns (xs := [vI ((cN (firstI s)).x), vI ((cN (firstI s)).y), .bool (gB [false, true] k)].map A.val) ν qE2_ti_62 rfl (by decide) rfl)
      refine z ?_ (h := fun ν => acts_buildSlice' (h := 41) (xs := dsl ([(⟨(cN (firstI s)).x, (cN (firstI s)).y, (gB [false, true] k)⟩ : Dom)] : List Dom)) ν qE2_un_31 qE2_zi_62 (.cons va OpVs.nil) (by decide) (by decide) (by kernel_rfl) rfl)
      refine z ?_ (h := fun ν => aD_ (h2 := 42) (L3 := (P ++ [(⟨(cN (firstI s)).x, (cN (firstI s)).y, (gB [false, true] k)⟩ : Dom)])) ν qE2_un_31 qE2_zi_62 (by exact rfl) rfl (by exact rfl) (by (simp; omega)))
      refine z ?_ (h := fun _ => acts_store (cells := [(.sl 42 0 ((P ++ [(⟨(cN (firstI s)).x, (cN (firstI s)).y, (gB [false, true] k)⟩ : Dom)]).length) : A)]) qE2_ti_31 xt (by exact rfl) (by decide) (by exact ob1 rfl) (by exact Nat.le_of_ble_eq_true rfl) (by exact rfl))
      refine nl (sq (wp_dr ?_))
      refine zd ?_ (h := fun ν => acts_load_own (x := .fn 90 [1, 2, 3]) ν qE2_ti_111 (by exact rfl))
      refine zdm ?_
      refine zd ?_ (h := fun ν => acts_load_owns (xs := [vI ((cN (firstI s)).x), vI ((cN (firstI s)).y), .bool (gB [false, true] k)].map A.val) ν qE2_ti_62 rfl (by decide) rfl)
      refine zd ?_ (h := fun ν => acts_call1 ν (impl_Domino__set_fn (⟨(cN (firstI s)).x, (cN (firstI s)).y, (gB [false, true] k)⟩ : Dom) (by omega)) (ac (ArgV.va va) an) rv)
      refine zd ?_ (h := fun ν => acts_bin ν vt vt (r_andNot (c := (((andn s (domS (⟨(cN (firstI s)).x, (cN (firstI s)).y, (gB [false, true] k)⟩ : Dom))) : Nat) : Int)) (andnU (m := s) (n := (domS (⟨(cN (firstI s)).x, (cN (firstI s)).y, (gB [false, true] k)⟩ : Dom))) rfl rfl (by omega) (by omega))))
      refine zd ?_ (h := fun ν => acts_callV (d := 48) (f := 90) (t := 43) (caps := [1, 2, 3]) (os := [(.o 1, some (.o ⟨85, 1, true, [(.fn 65 [11] : A)]⟩)), (.o 2, some (.o ⟨31, 1, true, [(.sl 42 0 ((P ++ [(⟨(cN (firstI s)).x, (cN (firstI s)).y, (gB [false, true] k)⟩ : Dom)]).length) : A)]⟩)), (.o 3, some (.o ⟨111, 1, true, [(.fn 90 [1, 2, 3] : A)]⟩)), (.o 11, some (.o ⟨58, 1, true, [(.sl 13 0 ((L ++ (tlk n s k).map (P ++ ·)).length) : A)]⟩)), (.o 42, some (.o ⟨62, 3, true, pl (dsl (P ++ [(⟨(cN (firstI s)).x, (cN (firstI s)).y, (gB [false, true] k)⟩ : Dom)]))⟩)), (.o 13, some (.o ⟨31, 1, true, rwD 62 (L ++ (tlk n s k).map (P ++ ·))⟩))]) (os' := [(.o 1, some (.o ⟨85, 1, true, [(.fn 65 [11] : A)]⟩)), (.o 2, some (.o ⟨31, 1, true, [(.sl 15 0 ((P ++ [(⟨(cN (firstI s)).x, (cN (firstI s)).y, (gB [false, true] k)⟩ : Dom)]).length) : A)]⟩)), (.o 3, some (.o ⟨111, 1, true, [(.fn 90 [1, 2, 3] : A)]⟩)), (.o 11, some (.o ⟨58, 1, true, [(.sl 17 0 (((L ++ (tlk n s k).map (P ++ ·)) ++ (tls n (andn s (domS (⟨(cN (firstI s)).x, (cN (firstI s)).y, (gB [false, true] k)⟩ : Dom)))).map ((P ++ [(⟨(cN (firstI s)).x, (cN (firstI s)).y, (gB [false, true] k)⟩ : Dom)]) ++ ·)).length) : A)]⟩)), (.o 15, some (.o ⟨62, 3, true, pl (dsl (P ++ [(⟨(cN (firstI s)).x, (cN (firstI s)).y, (gB [false, true] k)⟩ : Dom)]))⟩)), (.o 17, some (.o ⟨31, 1, true, rwD 62 ((L ++ (tlk n s k).map (P ++ ·)) ++ (tls n (andn s (domS (⟨(cN (firstI s)).x, (cN (firstI s)).y, (gB [false, true] k)⟩ : Dom)))).map ((P ++ [(⟨(cN (firstI s)).x, (cN (firstI s)).y, (gB [false, true] k)⟩ : Dom)]) ++ ·))⟩))]) (r := V.v (.tuple #[])) (bs := [.a (.val (.int .u64 (((andn s (domS (⟨(cN (firstI s)).x, (cN (firstI s)).y, (gB [false, true] k)⟩ : Dom))) : Nat) : Int)))]) (keep := [1, 2, 3, 11]) (new := [15, 17]) (dead := [42, 13]) ν (FnO.ren' (ih (andn s (domS (⟨(cN (firstI s)).x, (cN (firstI s)).y, (gB [false, true] k)⟩ : Dom))) (L ++ (tlk n s k).map (P ++ ·)) (P ++ [(⟨(cN (firstI s)).x, (cN (firstI s)).y, (gB [false, true] k)⟩ : Dom)]) (by exact andn_lt hs) (by omega) (by (simp only [List.length_append, List.length_map, List.length_singleton]; omega)) (by (simp only [List.length_append, List.length_map, List.length_singleton]; omega))) (subst1 [(12, 42), (22, 15), (23, 17)]) rfl rfl (by kernel_rfl) (by kernel_rfl) ⟨ocs (by kernel_rfl), ocs (by kernel_rfl), ocs (by kernel_rfl), ocs (by kernel_rfl), oc_pl (fun _ => rfl), oc_rwD, trivial⟩ (by kernel_rfl) rfl (by simp only [renS, Ob.ren, pl_ren, rws_ren_doms, rws_ren_ints, rws_ren_cels, rwI_ren, rwD_ren]; first | done | rfl) (by simp only [renS, Ob.ren, pl_ren, rws_ren_doms, rws_ren_ints, rws_ren_cels, rwI_ren, rwD_ren]; first | done | rfl) rfl rfl) (by kernel_rfl) ⟨ocs (by kernel_rfl), ocs (by kernel_rfl), ocs (by kernel_rfl), ocs (by kernel_rfl), oc_pl (fun _ => rfl), oc_rwD, trivial⟩ (by kernel_rfl) (ArgOs.cons ((ArgO.v vt)) (ArgOs.nil)))
      refine dw_nil (rg ?_)
      refine z ?_ (h := fun ν => acts_load_own (x := .sl 15 0 ((P ++ [(⟨(cN (firstI s)).x, (cN (firstI s)).y, (gB [false, true] k)⟩ : Dom)]).length)) ν qE2_ti_31 (by exact rfl))
      refine z ?_ (h := fun ν => acts_load_own (x := .sl 15 0 ((P ++ [(⟨(cN (firstI s)).x, (cN (firstI s)).y, (gB [false, true] k)⟩ : Dom)]).length)) ν qE2_ti_31 (by exact rfl))
      refine z ?_ (h := fun ν => lnS ν qE2_un_31)
      refine z ?_ (h := fun ν => acts_bin ν vt vc (rS (by omega) (by (simp only [List.length_append, List.length_singleton]; omega))))
      refine z ?_ (h := fun ν => slS (m := (((((P ++ [(⟨(cN (firstI s)).x, (cN (firstI s)).y, (gB [false, true] k)⟩ : Dom)]).length : Nat) : Int) - 1).toNat)) (off' := 0) ν qE2_un_31 qE2_sz_62 (OpB.no _) (OpB.so _ (((((P ++ [(⟨(cN (firstI s)).x, (cN (firstI s)).y, (gB [false, true] k)⟩ : Dom)]).length : Nat) : Int) - 1).toNat) vt (Int.toNat_of_nonneg (by (simp only [List.length_append, List.length_singleton]; omega))).symm) (by omega) (by omega) (by exact rfl) (by omega))
      refine z ?_ (h := fun _ => acts_store (cells := [(.sl 15 0 (((((P ++ [(⟨(cN (firstI s)).x, (cN (firstI s)).y, (gB [false, true] k)⟩ : Dom)]).length : Nat) : Int) - 1).toNat) : A)]) qE2_ti_31 xt (by exact rfl) (by decide) (by exact ob1 rfl) (by exact Nat.le_of_ble_eq_true rfl) (by exact rfl))
      refine nl ?_
      rw [show ((((P ++ [(⟨(cN (firstI s)).x, (cN (firstI s)).y, (gB [false, true] k)⟩ : Dom)]).length : Nat) : Int) - 1).toNat = P.length from (by simp)]
      refine wp_weak (trD (h := 15) (T := 62) (ex := true) (L := (P ++ [(⟨(cN (firstI s)).x, (cN (firstI s)).y, (gB [false, true] k)⟩ : Dom)])) (L' := P) (P.length) (hc := by simp)) ?_
      refine rg ?_
      refine z ?_ (h := fun ν => acts_bin ν vt vc (rA (by omega) (by omega)))
      refine zm (nl ?_)
      exact loop_back ((k + 1)) (by show _ ≤ _; omega) (by show 2 - (k + 1) < 2 - k; omega) (wkf (subst1 [(12, 15), (13, 17)]) (wS <| wS <| wS <| wS <| wS <| wS <| wE (e := (vint (by rfl))) <| wX <| wX <| wX <| wX <| wO (e := renob_l (fun h => h) (congrArg (fun z : Nat => [A.sl 17 0 z]) (by (exact congrArg List.length (by first | rfl | omega | (simp [tlk]; done) | exact tl_round hd hft | exact Eq.symm (tl_round hd hft) | exact tl_skip hd hno | exact Eq.symm (tl_skip hd hno))))) rfl) <| wP <| wQD (e := (by exact Eq.symm (tl_round hd hft))) <| wP <| by (iterate 16 refine wF ?_); exact wN))
     ·skip
      have c5P := of_decide_eq_false c5
      have hno := fit_no2 (of_decide_eq_false c5)
      refine sk (rg ?_)
      refine z ?_ (h := fun ν => acts_bin ν vt vc (rA (by omega) (by omega)))
      refine zm (nl ?_)
      exact loop_back ((k + 1)) (by show _ ≤ _; omega) (by show 2 - (k + 1) < 2 - k; omega) (wkf id (wS <| wS <| wS <| wS <| wS <| wS <| wE (e := (vint (by rfl))) <| wX <| wX <| wX <| wX <| wO (e := renob_l (fun h => h) (congrArg (fun z : Nat => [A.sl 13 0 z]) (by (exact congrArg List.length (by first | rfl | omega | (simp [tlk]; done) | exact tl_round hd hft | exact Eq.symm (tl_round hd hft) | exact tl_skip hd hno | exact Eq.symm (tl_skip hd hno))))) rfl) <| wP <| wQD (e := (by exact Eq.symm (tl_skip hd hno))) <| wP <| by (iterate 16 refine wF ?_); exact wN))
    ·skip
     have hno := fit_no1 (s := s) c4
     refine wp_dr ?_
     refine zd ?_ (h := fun ν => acts_load_owns (xs := [vI ((cN (firstI s)).x), vI ((cN (firstI s)).y), .bool (gB [false, true] k)].map A.val) ν qE2_ti_62 rfl (by decide) rfl)
     refine zd ?_ (h := fun ν => acts_call1 ν (impl_DominoOk_fn (⟨(cN (firstI s)).x, (cN (firstI s)).y, (gB [false, true] k)⟩ : Dom) ) (ac (ArgV.va va) an) (resval (congrArg Value.bool c4)))
     refine zdm ?_
     refine zdg ?_ (h := fun ν => step_off rfl rfl (by decide) rfl ν)
     refine zdg ?_ (h := fun ν => step_off rfl rfl (by decide) rfl ν)
     refine zdg ?_ (h := fun ν => step_off rfl rfl (by decide) rfl ν)
     refine zdg ?_ (h := fun ν => step_off rfl rfl (by decide) rfl ν)
     refine zdg ?_ (h := fun ν => step_off rfl rfl (by decide) rfl ν)
     refine zdg ?_ (h := fun ν => step_off rfl rfl (by decide) rfl ν)
     refine zdg ?_ (h := fun ν => step_off rfl rfl (by decide) rfl ν)
     refine zd ?_ (h := fun ν => acts_pick_f ν vt xc)
     refine dw_nil (wf (sk (rg ?_)))
     refine z ?_ (h := fun ν => acts_bin ν vt vc (rA (by omega) (by omega)))
     refine zm (nl ?_)
     exact loop_back ((k + 1)) (by show _ ≤ _; omega) (by show 2 - (k + 1) < 2 - k; omega) (wkf id (wS <| wS <| wS <| wS <| wS <| wS <| wE (e := (vint (by rfl))) <| wX <| wX <| wX <| wX <| wO (e := renob_l (fun h => h) (congrArg (fun z : Nat => [A.sl 13 0 z]) (by (exact congrArg List.length (by first | rfl | omega | (simp [tlk]; done) | exact tl_round hd hft | exact Eq.symm (tl_round hd hft) | exact tl_skip hd hno | exact Eq.symm (tl_skip hd hno))))) rfl) <| wP <| wQD (e := (by exact Eq.symm (tl_skip hd hno))) <| wP <| by (iterate 16 refine wF ?_); exact wN))
   ·skip
    have c3P := of_decide_eq_false c3
    refine wp_exit' ?_
    exact ⟨[kO 1 85 1 true [(.fn 65 [11] : A)], kO 2 31 1 true [(.sl 22 0 P.length : A)], kO 3 111 1 true [(.fn 90 [1, 2, 3] : A)], kO 11 58 1 true [(.sl 23 0 ((L ++ (tlk n s k).map (P ++ ·)).length) : A)], kO 22 62 3 true (pl (dsl P)), kO 23 31 1 true (rwD 62 (L ++ (tlk n s k).map (P ++ ·))), kF 5, kF 8, kF 12, kF 13, kF 15, kF 16, kF 17, kF 29, kF 33, kF 36, kF 41, kF 42, kF 46, kF 48, kF 51, kF 55, kF 56, kF 57, kF 58, kF 2013], wkf (subst1 [(22, 12), (23, 13)]) (wX <| wX <| wX <| wX <| wP <| wQD <| by (iterate 20 refine wF ?_); exact wN), ⟨by kernel_rfl, by kernel_rfl, by kernel_rfl, obj_eq (c := [(.sl 23 0 ((L ++ (tlk n s k).map (P ++ ·)).length) : A)]) (by kernel_rfl) (congrArg (fun z : Nat => [(A.sl 23 0 z : A)]) (by exact congrArg List.length (tl_end h0 (by omega) (by omega)))), by kernel_rfl, obj_eq (c := rwD 62 (L ++ (tlk n s k).map (P ++ ·))) (by kernel_rfl) (congrArg (fun z => rwD 62 z) (by exact tl_end h0 (by omega) (by omega))), trivial⟩, trivial⟩

set_option maxHeartbeats 4000000 in
set_option maxRecDepth 100000 in
theorem impl_set__each_fn (s : Nat) (hs : s < 18446744073709551616) (hL : (tls 33 s).length ≤ 1000) : FnO Tryz.prog 64 [.a (.val (.int .u64 ((s : Nat) : Int))), .a (.fn 65 [11])] [(.o 11, some (.o ⟨58, 1, true, [(.sl 13 0 0 : A)]⟩)), (.o 13, some (.o ⟨31, 1, true, rwD 62 []⟩))] (V.v (.tuple #[])) [(.o 11, some (.o ⟨58, 1, true, [(.sl 23 0 ((tls 33 s).length) : A)]⟩)), (.o 23, some (.o ⟨31, 1, true, rwD 62 (tls 33 s)⟩))] [11] := by
 refine fn_introO (N := 11) Tryz.func64 rfl (by kernel_rfl) rfl (Nat.le_of_ble_eq_true rfl) rfl rfl (by kernel_rfl) (by kernel_rfl) ⟨ocs (by kernel_rfl), oc_rwD, trivial⟩ [3, 4, 5, 6, 10, 12, 14, 2011, 2013] (retO0 rfl) (fun W own kp im0 => ?_)
 show Wp _ _ _ [kU 0 ((s : Nat) : Int), kV 1 (V.b (.a (.fn 65 [11]))), kO 11 58 1 true [(.sl 13 0 0 : A)], kO 13 31 1 true (rwD 62 []), kF 3, kF 4, kF 5, kF 6, kF 10, kF 12, kF 14, kF 2011, kF 2013]
 refine sq (rg ?_)
 refine z ?_ (h := fun ν => acts_box (h := 3) ν xt (by exact ob1 rfl))
 refine nl (sq (rg ?_))
 refine z ?_ (h := fun ν => b0D (h := 6) ν qE2_un_31 qE2_zi_62)
 refine z ?_ (h := fun ν => acts_alloc' (h := 4) (cap := 1) (s := 1) (cells := [(.val (.slice none 0 0) : A)]) ν qE2_zi_31 rfl rfl (by decide))
 refine z ?_ (h := fun _ => acts_store (cells := [(.sl 6 0 0 : A)]) qE2_ti_31 xt (by exact rfl) (by decide) (by exact ob1 rfl) (by exact Nat.le_of_ble_eq_true rfl) (by exact rfl))
 refine nl (sq (rg ?_))
 refine z ?_ (h := fun ν => acts_alloc' (h := 5) (cap := 1) (s := 1) (cells := [(.val (.nilFunc) : A)]) ν qE2_zi_111 rfl rfl (by decide))
 refine nl (sq (rg ?_))
 refine z ?_ (h := fun ν => acts_makeFunc (d := 7) (f := 90) (l := [(3, 3), (4, 4), (5, 5)]) ν)
 refine z ?_ (h := fun _ => acts_store (cells := [(.fn 90 [3, 4, 5] : A)]) qE2_ti_111 xt (by exact rfl) (by decide) (by exact ob1 rfl) (by exact Nat.le_of_ble_eq_true rfl) (by exact rfl))
 refine nl (rg ?_)
 refine z ?_ (h := fun ν => acts_load_own (x := .fn 90 [3, 4, 5]) ν qE2_ti_111 (by exact rfl))
 refine zm ?_
 refine z ?_ (h := fun ν => acts_callV (d := 10) (f := 90) (t := 8) (caps := [3, 4, 5]) (os := [(.o 3, some (.o ⟨85, 1, true, [(.fn 65 [11] : A)]⟩)), (.o 4, some (.o ⟨31, 1, true, [(.sl 6 0 [].length : A)]⟩)), (.o 5, some (.o ⟨111, 1, true, [(.fn 90 [3, 4, 5] : A)]⟩)), (.o 11, some (.o ⟨58, 1, true, [(.sl 13 0 [].length : A)]⟩)), (.o 6, some (.o ⟨62, 3, true, pl (dsl [])⟩)), (.o 13, some (.o ⟨31, 1, true, rwD 62 []⟩))]) (os' := [(.o 3, some (.o ⟨85, 1, true, [(.fn 65 [11] : A)]⟩)), (.o 4, some (.o ⟨31, 1, true, [(.sl 10 0 [].length : A)]⟩)), (.o 5, some (.o ⟨111, 1, true, [(.fn 90 [3, 4, 5] : A)]⟩)), (.o 11, some (.o ⟨58, 1, true, [(.sl 12 0 (([] ++ (tls 33 s).map ([] ++ ·)).length) : A)]⟩)), (.o 10, some (.o ⟨62, 3, true, pl (dsl [])⟩)), (.o 12, some (.o ⟨31, 1, true, rwD 62 ([] ++ (tls 33 s).map ([] ++ ·))⟩))]) (r := V.v (.tuple #[])) (bs := [.a (.val (.int .u64 ((s : Nat) : Int)))]) (keep := [3, 4, 5, 11]) (new := [10, 12]) (dead := [6, 13]) ν (FnO.ren' (impl_set__each_1_fn 33 s [] [] (by omega) (by (have := popc_le s; omega)) (by (simp; omega)) (by simp)) (subst1 [(1, 3), (2, 4), (3, 5), (12, 6), (22, 10), (23, 12)]) rfl rfl (by kernel_rfl) (by kernel_rfl) ⟨ocs (by kernel_rfl), ocs (by kernel_rfl), ocs (by kernel_rfl), ocs (by kernel_rfl), oc_pl (fun _ => rfl), oc_rwD, trivial⟩ (by kernel_rfl) rfl (by simp only [renS, Ob.ren, pl_ren, rws_ren_doms, rws_ren_ints, rws_ren_cels, rwI_ren, rwD_ren]; first | done | rfl) (by simp only [renS, Ob.ren, pl_ren, rws_ren_doms, rws_ren_ints, rws_ren_cels, rwI_ren, rwD_ren]; first | done | rfl) rfl rfl) (by kernel_rfl) ⟨ocs (by kernel_rfl), ocs (by kernel_rfl), ocs (by kernel_rfl), ocs (by kernel_rfl), oc_pl (fun _ => rfl), oc_rwD, trivial⟩ (by kernel_rfl) (ArgOs.cons ((ArgO.v vt)) (ArgOs.nil)))
 refine nl ?_
 exact ⟨[kO 11 58 1 true [(.sl 23 0 (([] ++ (tls 33 s).map ([] ++ ·)).length) : A)], kO 23 31 1 true (rwD 62 ([] ++ (tls 33 s).map ([] ++ ·))), kF 3, kF 4, kF 5, kF 10, kF 12, kF 14, kF 2011, kF 2013], wkf (subst1 [(23, 12)]) (wX <| wQD <| wF <| wF <| wF <| wF <| wF <| wF <| wF <| wF <| wN), ⟨obj_eq (c := [(.sl 23 0 (([] ++ (tls 33 s).map ([] ++ ·)).length) : A)]) (by kernel_rfl) (congrArg (fun z : Nat => [(A.sl 23 0 z : A)]) (by simp)), obj_eq (c := rwD 62 ([] ++ (tls 33 s).map ([] ++ ·))) (by kernel_rfl) (congrArg (fun z => rwD 62 z) (by simp)), trivial⟩, trivial⟩

set_option maxHeartbeats 4000000 in
set_option maxRecDepth 100000 in
theorem impl_ListTilings_fn (l : List Int) (hl : l.length ≤ 4194304) : FnO Tryz.prog 37 [.agg [(.sl 800 0 l.length : A)]] [(.o 800, some (.o ⟨3, 1, true, pl (isl l)⟩))] (V.b (.a (.sl 900 0 ((ltR l).length)))) [(.o 800, some (.o ⟨3, 1, true, pl (isl l)⟩)), (.o 900, some (.o ⟨31, 1, true, rwD 62 (ltR l)⟩))] [800] := by
 refine fn_introO (N := 14) Tryz.func37 rfl (by kernel_rfl) rfl (Nat.le_of_ble_eq_true rfl) rfl rfl (by kernel_rfl) (by kernel_rfl) ⟨oc_pl (fun _ => rfl), trivial⟩ [1, 3, 5, 6, 8, 10, 12] (retO1 rfl) (fun W own kp im0 => ?_)
 show Wp _ _ _ [kV 0 (V.b (.agg [(.sl 800 0 l.length : A)])), kO 800 3 1 true (pl (isl l)), kF 1, kF 3, kF 5, kF 6, kF 8, kF 10, kF 12]
 refine sq (rg ?_)
 refine z ?_ (h := fun ν => acts_box (h := 1) ν xt (by exact ob1 rfl))
 refine zk (nl (sq (sq (rg ?_))))
 refine z ?_ (h := fun ν => acts_load_owns (xs := [(.sl 800 0 l.length : A)]) ν qE2_ti_29 rfl (by decide) rfl)
 refine z ?_ (h := fun ν => acts_call1 ν (impl_CountTilings_fn l (by omega)) (ac (ArgV.reg _ _ _ (s := 1) (by simp [isl]) (by exact List.take_of_length_le (by simp [isl]))) an) rv)
 refine z ?_ (h := fun ν => acts_call1 ν (impl_within_fn (((cntR l) : Nat) : Int) 1 300 ) (ac (ArgV.v vt) (ac (ArgV.v vc) (ac (ArgV.v vc) an))) rv)
 refine z ?_ (h := fun ν => acts_un ν vt (r_not rfl))
 refine nl ?_
 refine wi (b := (!(inB (((cntR l) : Nat) : Int) 1 300))) (fun c1 => ?_) (fun c1 => ?_)
 ·skip
  have c2 : (inB (((cntR l) : Nat) : Int) 1 300) = false := by first | (rw [← Bool.not_eq_true']; exact c1) | simpa using c1
  have hlt := ltR_no c2
  refine sq (rg (zk (nl ?_)))
  refine wp_weak (wnP (k := 2) (h := 3) (T := 31) (T' := 62) (by kernel_rfl) (by kernel_rfl)) ?_
  refine wp_ret' ?_
  exact ⟨[kS 2 900 0 0, kO 800 3 1 true (pl (isl l)), kO 900 31 1 true (rwD 62 []), kF 1, kF 3, kF 5, kF 6, kF 8, kF 10, kF 12], wkf (subst1 [(900, 3)]) (wS <| wP <| wQD <| wF <| wF <| wF <| wF <| wF <| wF <| wF <| wN), ⟨by kernel_rfl, obj_eq (c := rwD 62 []) (by kernel_rfl) (congrArg (fun z => rwD 62 z) (by exact hlt.symm)), trivial⟩, vo_eq 2 (.a (.sl 900 0 0)) (.a (.sl 900 0 ((ltR l).length))) (by kernel_rfl) (congrArg (fun z : Nat => B.a (.sl 900 0 z)) (by rw [hlt]; rfl))⟩
 ·skip
  have c3 : (inB (((cntR l) : Nat) : Int) 1 300) = true := by first | (rw [← Bool.not_eq_false']; exact c1) | simpa using c1
  obtain ⟨hlt, hro, hl3⟩ := ltR_yes c3
  refine sk (sq (rg ?_))
  refine z ?_ (h := fun ν => b0P (h := 8) (T := 62) ν qE2_un_58 qE2_zi_31)
  refine z ?_ (h := fun ν => acts_alloc' (h := 3) (cap := 1) (s := 1) (cells := [(.val (.slice none 0 0) : A)]) ν qE2_zi_58 rfl rfl (by decide))
  refine z ?_ (h := fun _ => acts_store (cells := [(.sl 8 0 0 : A)]) qE2_ti_58 xt (by exact rfl) (by decide) (by exact ob1 rfl) (by exact Nat.le_of_ble_eq_true rfl) (by exact rfl))
  refine nl (sq (rg ?_))
  refine z ?_ (h := fun ν => acts_load_owns (xs := [(.sl 800 0 l.length : A)]) ν qE2_ti_29 rfl (by decide) rfl)
  refine z ?_ (h := fun ν => acts_call1 ν (impl_Region__set_fn l (by omega)) (ac (ArgV.reg _ _ _ (s := 1) (by simp [isl]) (by exact List.take_of_length_le (by simp [isl]))) an) rv)
  refine z ?_ (h := fun ν => acts_makeFunc (d := 11) (f := 65) (l := [(3, 3)]) ν)
  refine z ?_ (h := fun ν => acts_callO (d := 12) (f := 64) (os := [(.o 3, some (.o ⟨58, 1, true, [(.sl 8 0 0 : A)]⟩)), (.o 8, some (.o ⟨31, 1, true, rwD 62 []⟩))]) (os' := [(.o 3, some (.o ⟨58, 1, true, [(.sl 5 0 ((tls 33 (regSet l)).length) : A)]⟩)), (.o 5, some (.o ⟨31, 1, true, rwD 62 (tls 33 (regSet l))⟩))]) (r := V.v (.tuple #[])) (bs := [.a (.val (.int .u64 (((regSet l) : Nat) : Int))), .a (.fn 65 [3])]) (keep := [3]) (new := [5]) (dead := [8]) ν (FnO.ren' (impl_set__each_fn (regSet l) (by exact regSet_lt hro) (by omega)) (subst1 [(11, 3), (13, 8), (23, 5)]) rfl rfl (by kernel_rfl) (by kernel_rfl) ⟨ocs (by kernel_rfl), oc_rwD, trivial⟩ (by kernel_rfl) rfl (by simp only [renS, Ob.ren, pl_ren, rws_ren_doms, rws_ren_ints, rws_ren_cels, rwI_ren, rwD_ren]; first | done | rfl) (by simp only [renS, Ob.ren, pl_ren, rws_ren_doms, rws_ren_ints, rws_ren_cels, rwI_ren, rwD_ren]; first | done | rfl) rfl rfl) (by kernel_rfl) ⟨ocs (by kernel_rfl), oc_rwD, trivial⟩ (by kernel_rfl) (ArgOs.cons ((ArgO.v vt)) (ArgOs.cons (ArgO.slot 11 (.a (.fn 65 [3]))) (ArgOs.nil))))
  refine nl (sq (rg ?_))
  refine z ?_ (h := fun ν => acts_load_own (x := .sl 5 0 ((tls 33 (regSet l)).length)) ν qE2_ti_58 (by exact rfl))
  refine za (nl (wp_ret' ?_))
  exact ⟨[kS 2 900 0 ((tls 33 (regSet l)).length), kO 800 3 1 true (pl (isl l)), kO 900 31 1 true (rwD 62 (tls 33 (regSet l))), kF 1, kF 3, kF 5, kF 6, kF 10, kF 12], wkf (subst1 [(900, 5)]) (wS <| wP <| wQD <| wF <| wF <| wF <| wF <| wF <| wF <| wN), ⟨by kernel_rfl, obj_eq (c := rwD 62 (tls 33 (regSet l))) (by kernel_rfl) (congrArg (fun z => rwD 62 z) (by exact hlt.symm)), trivial⟩, vo_eq 2 (.a (.sl 900 0 ((tls 33 (regSet l)).length))) (.a (.sl 900 0 ((ltR l).length))) (by kernel_rfl) (congrArg (fun z : Nat => B.a (.sl 900 0 z)) (by rw [hlt]))⟩
end Cl
end Go.Proofs.YtgmkkfdnmdohlaaGreatDoor

namespace Go.Proofs.YtgmkkfdnmdohlaaGreatDoor
namespace Cl
open Go.ChangeShapes Go.WideShapes Go.ChangeAt Go.RowKit
set_option maxRecDepth 20000

theorem mp_len (P : List Dom) (M : List (List Dom)) : (M.map (P ++ ·)).length = M.length := by simp
theorem mp_nil {n s : Nat} : (tls n s).map (fun x => ([] : List Dom) ++ x) = tls n s := by
  have : (fun x : List Dom => ([] : List Dom) ++ x) = id := funext fun x => List.nil_append x
  rw [this, List.map_id]
theorem tlv_round {n s k : Nat} {P : List Dom} {d : Dom} (hd : d = dmn (firstI s) (decide (((k : Nat) : Int) = 1))) (h : fitD s d = true) : (tlk n s k).map (P ++ ·) ++ (tls n (andn s (domS d))).map ((P ++ [d]) ++ ·) = (tlk n s (k + 1)).map (P ++ ·) := by
  have := tl_round (n := n) (L := []) (P := P) hd h
  simpa using this
theorem tlv_skip {n s k : Nat} {P : List Dom} {d : Dom} (hd : d = dmn (firstI s) (decide (((k : Nat) : Int) = 1))) (h : fitD s d = false) : (tlk n s k).map (P ++ ·) = (tlk n s (k + 1)).map (P ++ ·) := by rw [tlk_no hd h]
theorem tlv_one {n s : Nat} {P : List Dom} (h : s = 0) : [] ++ [P] = (tls (n + 1) s).map (P ++ ·) := by rw [tls_zero h]; simp
theorem tlv_end {n s k : Nat} {P : List Dom} (h0 : s ≠ 0) (hk : k ≤ 2) (h : ¬ k < 2 ∨ (tls (n + 1) s).length ≤ (tlk n s k).length) : (tlk n s k).map (P ++ ·) = (tls (n + 1) s).map (P ++ ·) := by
  rcases h with h | h
  · rw [tls_succ h0, show k = 2 by omega]
  · rw [tlk_full h0 hk h]
theorem l08_no {l : List Int} {P : List Dom} {d : Dom} (ho : regOk l = true) (hd : okD d = true) (ha : (lft l P).testBit (idx (ca d)) = true) (h : ((!(hasC l (cb d))) || (decide (0 ≤ atD P (cb d)))) = true) : fitD (lft l P) d = false := by
  rw [l08_fit ho hd ha]
  simp only [Bool.or_eq_true, Bool.not_eq_true', decide_eq_true_eq] at h
  rcases h with h | h
  · rw [h]; rfl
  · rw [decide_eq_false (by omega), Bool.and_false]
theorem l08_yes {l : List Int} {P : List Dom} {d : Dom} (ho : regOk l = true) (hd : okD d = true) (ha : (lft l P).testBit (idx (ca d)) = true) (h1 : hasC l (cb d) = true) (h2 : atD P (cb d) < 0) : fitD (lft l P) d = true := by
  rw [l08_fit ho hd ha, h1, decide_eq_true h2]; rfl

theorem qE3_bs_62 : ∀ (a b : Int) (c : Bool), Tryz.prog.built 62 [(0, .int .i64 a), (1, .int .i64 b), (2, .bool c)] = some ([.int .i64 a, .int .i64 b, .bool c] : List Value).toArray := fun _ _ _ => rfl
theorem qE3_bs_70 : ∀ (a b : Int), Tryz.prog.built 70 [(0, .int .i64 a), (1, .int .i64 b)] = some ([.int .i64 a, .int .i64 b] : List Value).toArray := fun _ _ => rfl
theorem qE3_fo_62_0 : fieldOff Tryz.prog 62 0 = some 0 := by kernel_rfl
theorem qE3_fo_62_1 : fieldOff Tryz.prog 62 1 = some 1 := by kernel_rfl
theorem qE3_fo_62_2 : fieldOff Tryz.prog 62 2 = some 2 := by kernel_rfl
theorem qE3_fo_70_0 : fieldOff Tryz.prog 70 0 = some 0 := by kernel_rfl
theorem qE3_fo_70_1 : fieldOff Tryz.prog 70 1 = some 1 := by kernel_rfl
theorem qE3_sz_70 : (Tryz.prog.info? 70).map (·.size) = some 2 := by kernel_rfl
theorem qE3_ti_29 : TI Tryz.prog 29 true 1 := ⟨⟨_, Tryz.underlying29, rfl⟩, by kernel_rfl⟩
theorem qE3_ti_3 : TI Tryz.prog 3 false 1 := ⟨⟨_, Tryz.underlying3, rfl⟩, by kernel_rfl⟩
theorem qE3_ti_4 : TI Tryz.prog 4 false 1 := ⟨⟨_, Tryz.underlying4, rfl⟩, by kernel_rfl⟩
theorem qE3_ti_62 : TI Tryz.prog 62 true 3 := ⟨⟨_, Tryz.underlying62, rfl⟩, by kernel_rfl⟩
theorem qE3_ti_70 : TI Tryz.prog 70 true 2 := ⟨⟨_, Tryz.underlying70, rfl⟩, by kernel_rfl⟩
theorem qE3_un_31 : Tryz.prog.underlying 31 = some (.slice 62) := Tryz.underlying31
theorem qE3_un_36 : Tryz.prog.underlying 36 = some (.slice 70) := Tryz.underlying36
theorem qE3_un_58 : Tryz.prog.underlying 58 = some (.slice 31) := Tryz.underlying58
theorem qE3_zi_31 : ZI Tryz.prog 31 (.slice none 0 0) 1 24 := by unfold ZI; kernel_rfl
theorem qE3_zi_62 : ZI Tryz.prog 62 (.agg #[.int .i64 0, .int .i64 0, .bool false]) 3 24 := by unfold ZI; kernel_rfl
theorem qE3_zi_70 : ZI Tryz.prog 70 (.agg #[.int .i64 0, .int .i64 0]) 2 16 := by unfold ZI; kernel_rfl
set_option maxHeartbeats 4000000 in
set_option maxRecDepth 100000 in
theorem l05Second_b (d : Dom) (hb : 0 ≤ d.x ∧ d.x ≤ 100 ∧ 0 ≤ d.y ∧ d.y ≤ 100) : Fn Tryz.prog 85 [.agg ([vI d.x, vI d.y, .bool d.d].map A.val)] [.val (.agg ([.int .i64 (cb d).x, .int .i64 (cb d).y] : List Value).toArray)] := by
 refine fn_intro (N := 17) Tryz.func85 rfl (by kernel_rfl) rfl (Nat.le_of_ble_eq_true rfl) [1, 2] (ret1 rfl) (fun W => ?_)
 show Wp _ _ _ [kV 0 (V.av [vI d.x, vI d.y, .bool d.d]), kF 1, kF 2]
 refine sq (rg ?_)
 refine z ?_ (h := fun ν => acts_box (h := 1) ν xt (by exact ob1 rfl))
 refine z ?_ (h := fun ν => acts_alloc' (h := 2) (cap := 1) (s := 2) (cells := [aI 0, aI 0]) ν qE3_zi_70 rfl rfl (by decide))
 refine nl (sq (sq (rg ?_)))
 refine z ?_ (h := fun ν => acts_field (off' := 2) ν qE3_fo_62_2 rfl)
 refine z ?_ (h := fun ν => acts_load_own (x := .val (.bool d.d)) ν qE3_ti_4 (by exact rfl))
 refine nl ?_
 refine wi (b := d.d) (fun c1 => ?_) (fun c1 => ?_)
 ·skip
  refine sq (rg ?_)
  refine z ?_ (h := fun ν => acts_field (off' := 0) ν qE3_fo_62_0 rfl)
  refine z ?_ (h := fun ν => acts_load_own (x := .val (.int .i64 d.x)) ν qE3_ti_3 (by exact rfl))
  refine z ?_ (h := fun ν => acts_field (off' := 1) ν qE3_fo_62_1 rfl)
  refine z ?_ (h := fun ν => acts_load_own (x := .val (.int .i64 d.y)) ν qE3_ti_3 (by exact rfl))
  refine z ?_ (h := fun ν => acts_bin ν vt vc rA)
  refine z ?_ (h := fun ν => bC ν qE3_bs_70 vt vt)
  refine z ?_ (h := fun _ => acts_store (cells := [aI d.x, aI (d.y + 1)]) qE3_ti_70 xt (by exact rfl) (by decide) (by exact ob1 rfl) (by exact Nat.le_of_ble_eq_true rfl) (by exact rfl))
  refine nl (wp_ret' ?_)
  exact VRes.cells 2 70 2 ⟨70, 2, true, [aI d.x, aI (d.y + 1)]⟩ _ (by kernel_rfl) (by kernel_rfl) qE3_ti_70 (Nat.le_of_ble_eq_true rfl) (bagg (vs := [vI d.x, vI (d.y + 1)]) (by (unfold cb; simp_all; done)))
 ·skip
  refine sk (sq (rg ?_))
  refine z ?_ (h := fun ν => acts_field (off' := 0) ν qE3_fo_62_0 rfl)
  refine z ?_ (h := fun ν => acts_load_own (x := .val (.int .i64 d.x)) ν qE3_ti_3 (by exact rfl))
  refine z ?_ (h := fun ν => acts_bin ν vt vc rA)
  refine z ?_ (h := fun ν => acts_field (off' := 1) ν qE3_fo_62_1 rfl)
  refine z ?_ (h := fun ν => acts_load_own (x := .val (.int .i64 d.y)) ν qE3_ti_3 (by exact rfl))
  refine z ?_ (h := fun ν => bC ν qE3_bs_70 vt vt)
  refine z ?_ (h := fun _ => acts_store (cells := [aI (d.x + 1), aI d.y]) qE3_ti_70 xt (by exact rfl) (by decide) (by exact ob1 rfl) (by exact Nat.le_of_ble_eq_true rfl) (by exact rfl))
  refine nl (wp_ret' ?_)
  exact VRes.cells 2 70 2 ⟨70, 2, true, [aI (d.x + 1), aI d.y]⟩ _ (by kernel_rfl) (by kernel_rfl) qE3_ti_70 (Nat.le_of_ble_eq_true rfl) (bagg (vs := [vI (d.x + 1), vI d.y]) (by (unfold cb; simp_all; done)))

set_option maxHeartbeats 4000000 in
set_option maxRecDepth 100000 in
theorem spec_l08List_fn : ∀ (n : Nat) (l : List Int) (P : List Dom) (most : Int) (hl : l.length ≤ 4194304) (ho : regOk l = true) (hn : popc (lft l P) < 2 * n) (hm : ((tls n (lft l P)).length : Int) ≤ most) (hm3 : most ≤ 300) (hP : P.length + n ≤ 100), FnO Tryz.prog 60 [.agg [(.sl 800 0 l.length : A)], .a (.sl 900 0 P.length), .a (.val (.int .i64 most))] [(.o 800, some (.o ⟨3, 1, true, pl (isl l)⟩)), (.o 900, some (.o ⟨62, 3, true, pl (dsl P)⟩))] (V.b (.a (.slvv 3 (vwD ((tls n (lft l P)).map (P ++ ·)))))) [(.o 800, some (.o ⟨3, 1, true, pl (isl l)⟩)), (.o 900, some (.o ⟨62, 3, true, pl (dsl P)⟩))] [800, 900] := by
 intro n
 induction n with
 | zero => intro l P most hl ho hn hm hm3 hP; exfalso; omega
 | succ n ih =>
  intro l P most hl ho hn hm hm3 hP
  have hlt := lftE_lt (l := l) (P := P) ho
  have hul := unc_len l P
  refine fn_introO (N := 78) Tryz.func60 rfl (by kernel_rfl) rfl (Nat.le_of_ble_eq_true rfl) rfl rfl (by kernel_rfl) (by kernel_rfl) ⟨oc_pl (fun _ => rfl), oc_pl (fun _ => rfl), trivial⟩ [3, 10, 11, 12, 15, 17, 20, 22, 23, 24, 29, 47, 49, 54, 60, 65, 67, 69, 70, 73, 75, 76, 78, 79, 80, 81] (retO1 rfl) (fun W own kp im0 => ?_)
  show Wp _ _ _ [kV 0 (V.b (.agg [(.sl 800 0 l.length : A)])), kS 1 900 0 P.length, kI 2 most, kO 800 3 1 true (pl (isl l)), kO 900 62 3 true (pl (dsl P)), kF 3, kF 10, kF 11, kF 12, kF 15, kF 17, kF 20, kF 22, kF 23, kF 24, kF 29, kF 47, kF 49, kF 54, kF 60, kF 65, kF 67, kF 69, kF 70, kF 73, kF 75, kF 76, kF 78, kF 79, kF 80, kF 81]
  refine sq (rg ?_)
  refine z ?_ (h := fun ν => acts_box (h := 3) ν xt (by exact ob1 rfl))
  refine zk (nl (sq (rg ?_)))
  refine z ?_ (h := fun ν => b0P (h := 12) (T := 62) ν qE3_un_58 qE3_zi_31)
  refine za (nl (sq (rg ?_)))
  refine z ?_ (h := fun ν => acts_load_owns (xs := [(.sl 800 0 l.length : A)]) ν qE3_ti_29 rfl (by decide) rfl)
  refine zm ?_
  refine z ?_ (h := fun ν => acts_call1 ν (spec_UncoveredOf_fn l P (by omega) (by omega)) (ac (ArgV.reg _ _ _ (s := 1) (by simp [isl]) (by exact List.take_of_length_le (by simp [isl]))) (ac (argv_own (by exact dsl_len _)) an)) (ResV.row _ _ _ _ 15))
  refine za (nl (sq (sq (rg (zm ?_)))))
  refine z ?_ (h := fun ν => lnS ν qE3_un_36)
  refine z ?_ (h := fun ν => acts_bin ν vt vc (r_eql rfl))
  refine nl ?_
  refine wi (fun c1 => ?_) (fun c1 => ?_)
  ·skip
   have c1P := of_decide_eq_true c1
   have h0 : lft l P = 0 := unc_none ho (of_decide_eq_true c1)
   refine sq (rg (zm ?_))
   refine z ?_ (h := fun ν => b0D (h := 20) ν qE3_un_31 qE3_zi_62)
   refine zm ?_
   refine z ?_ (h := fun ν => aD_ (h2 := 22) (L3 := P) ν qE3_un_31 qE3_zi_62 (by exact rfl) rfl (by exact rfl) (by omega))
   refine z ?_ (h := fun ν => bs1 (h := 23) ν qE3_un_58 qE3_zi_31 (by exact ⟨_, _, _, .inl rfl⟩))
   refine z ?_ (h := fun ν => aQ (h2 := 24) (nm := [P].length) ν qE3_un_58 qE3_zi_31 (by exact ⟨_, _, _, .inl rfl⟩) (by simp [rwI_len, rwD_len]) (by omega) (by simp))
   refine za (nl ?_)
   refine wp_weak (pkD (h := 24) (h1 := 22) (T := 62) (T0 := 31) (s0 := 1) (ex0 := true) (n := P.length) (L := []) (r := P)) ?_
   refine wp_weak (fzD (k := 6) (h := 24) (T0 := 31) (T := 62) (ex0 := true) (n := [P].length) (L := ([] ++ [P])) (hn := by simp)) ?_
   refine wp_ret' ?_
   exact ⟨_, weak_id, ⟨by kernel_rfl, by kernel_rfl, trivial⟩, vo_eq 6 (.a (.slvv 3 (vwD ([] ++ [P])))) (.a (.slvv 3 (vwD ((tls (n + 1) (lft l P)).map (P ++ ·))))) (by kernel_rfl) (congrArg (fun z => B.a (.slvv 3 (vwD z))) (by exact tlv_one h0))⟩
  ·skip
   have c1P := of_decide_eq_false c1
   have h0 : lft l P ≠ 0 := unc_some ho (of_decide_eq_false c1)
   have huf := unc_first ho h0
   have hup := huf.2
   refine sk (sq (sq (rg (zk (nl (bkk ?_))))))
   refine wp_loop' (fun (k : Nat) => k ≤ 2) (fun (k : Nat) => [kS 1 900 0 P.length, kI 2 most, kP 3 3 0, kS 7 12 0 (((tlk n (lft l P) k).map (P ++ ·)).length), kS 8 15 0 ((unc l P).length), kI 9 ((k : Nat) : Int), kO 3 29 1 true [(.sl 800 0 l.length : A)], kO 12 31 1 true (rvD ((tlk n (lft l P) k).map (P ++ ·))), kO 15 70 2 true (pl (csl (unc l P))), kO 800 3 1 true (pl (isl l)), kO 900 62 3 true (pl (dsl P)), kF 10, kF 11, kF 17, kF 20, kF 22, kF 23, kF 24, kF 29, kF 47, kF 49, kF 54, kF 60, kF 65, kF 67, kF 69, kF 70, kF 73, kF 75, kF 76, kF 78, kF 79, kF 80, kF 81]) (fun (k : Nat) => 2 - k) ((0 : Nat)) (by exact (Nat.zero_le _ : 0 ≤ _)) (wkf id (wS <| wS <| wS <| wE (e := (vsl (by rfl) rfl)) <| wS <| wE (e := (vint (by rfl))) <| wX <| wO (e := renob_l (fun h => h) rfl rfl) <| wP <| wP <| wP <| by (iterate 23 refine wF ?_); exact wN)) ?_
   rintro k inv2
   replace inv2 : k ≤ 2 := inv2
   have inv := inv2
   have hkl := tlk_le (n := n) h0 inv
   have hml := mp_len P (tlk n (lft l P) k)
   refine sq (sq ?_)
   rcases Bool.eq_false_or_eq_true (decide (((k : Nat) : Int) < 2)) with c3 | c3
   ·skip
    have c3P := of_decide_eq_true c3
    have hk2 : k < 2 := by omega
    have hd : (⟨(gC (unc l P) 0).x, (gC (unc l P) 0).y, decide (((k : Nat) : Int) = 1)⟩ : Dom) = dmn (firstI (lft l P)) (decide (((k : Nat) : Int) = 1)) := by rw [huf.1]; rfl
    have hbt := l08_bit (b := decide (((k : Nat) : Int) = 1)) ho h0
    rw [← hd] at hbt
    have hfi := (firstI_lt hlt h0).1
    have hxb : 0 ≤ (gC (unc l P) 0).x ∧ (gC (unc l P) 0).x ≤ 100 ∧ 0 ≤ (gC (unc l P) 0).y ∧ (gC (unc l P) 0).y ≤ 100 := by rw [huf.1]; unfold cN; dsimp only; omega
    refine rg (zm ?_)
    refine z ?_ (h := fun ν => acts_bin ν vt vc (r_lss (c := true) c3))
    refine zm ?_
    refine zg ?_ (h := fun ν => step_on rfl rfl (mt ν))
    refine zg ?_ (h := fun ν => step_on rfl rfl (lnS ν qE3_un_58))
    refine zg ?_ (h := fun ν => step_on rfl rfl (mt ν))
    refine zg ?_ (h := fun ν => step_on rfl rfl (acts_bin ν vt vt (r_lss rfl)))
    refine z ?_ (h := fun ν => acts_pick_t ν vt xt)
    refine nl ?_
    refine wi (fun c4 => ?_) (fun c4 => ?_)
    ·skip
     have c4P := of_decide_eq_true c4
     refine sk (sq (bkk (sq (wp_dr (zdm ?_)))))
     refine zd ?_ (h := fun ν => ix0 (k := 0) ν qE3_un_36 qE3_sz_70 vc (hlt := (by omega)))
     refine zd ?_ (h := fun ν => acts_field (off' := (0 * 2)) ν qE3_fo_70_0 rfl)
     refine zd ?_ (h := fun ν => acts_load_own ν qE3_ti_3 (by exact pl_get (csl_x (k := 0) (by omega))))
     refine zdm ?_
     refine zd ?_ (h := fun ν => ix0 (k := 0) ν qE3_un_36 qE3_sz_70 vc (hlt := (by omega)))
     refine zd ?_ (h := fun ν => acts_field (off' := (0 * 2 + 1)) ν qE3_fo_70_1 rfl)
     refine zd ?_ (h := fun ν => acts_load_own ν qE3_ti_3 (by exact pl_get (csl_y (k := 0) (by omega))))
     refine zdm ?_
     refine zd ?_ (h := fun ν => acts_bin ν vt vc (r_eql rfl))
     refine zd ?_ (h := fun ν => bD ν qE3_bs_62 vt vt vt)
     refine zd ?_ (h := fun ν => acts_alloc' (h := 10) (cap := 1) (s := 3) (cells := [aI 0, aI 0, aB false]) ν qE3_zi_62 rfl rfl (by decide))
     refine zd ?_ (h := fun _ => acts_store (cells := [aI ((gC (unc l P) 0).x), aI ((gC (unc l P) 0).y), aB (decide (((k : Nat) : Int) = 1))]) qE3_ti_62 xt (by exact rfl) (by decide) (by exact ob1 rfl) (by exact Nat.le_of_ble_eq_true rfl) (by exact rfl))
     refine dw_nil (sq (rg ?_))
     refine z ?_ (h := fun ν => acts_load_owns (xs := [vI ((gC (unc l P) 0).x), vI ((gC (unc l P) 0).y), .bool (decide (((k : Nat) : Int) = 1))].map A.val) ν qE3_ti_62 rfl (by decide) rfl)
     refine z ?_ (h := fun ν => acts_call1 ν (l05Second_b (⟨(gC (unc l P) 0).x, (gC (unc l P) 0).y, decide (((k : Nat) : Int) = 1)⟩ : Dom) (by omega)) (ac (ArgV.va va) an) (ResV.agg [vI ((cb (⟨(gC (unc l P) 0).x, (gC (unc l P) 0).y, decide (((k : Nat) : Int) = 1)⟩ : Dom)).x), vI ((cb (⟨(gC (unc l P) 0).x, (gC (unc l P) 0).y, decide (((k : Nat) : Int) = 1)⟩ : Dom)).y)]))
     refine z ?_ (h := fun ν => acts_alloc' (h := 11) (cap := 1) (s := 2) (cells := [aI 0, aI 0]) ν qE3_zi_70 rfl rfl (by decide))
     refine z ?_ (h := fun _ => acts_store (cells := [aI ((cb (⟨(gC (unc l P) 0).x, (gC (unc l P) 0).y, decide (((k : Nat) : Int) = 1)⟩ : Dom)).x), aI ((cb (⟨(gC (unc l P) 0).x, (gC (unc l P) 0).y, decide (((k : Nat) : Int) = 1)⟩ : Dom)).y)]) qE3_ti_70 xt (by exact rfl) (by decide) (by exact ob1 rfl) (by exact Nat.le_of_ble_eq_true rfl) (by exact rfl))
     refine nl (sq (sq ?_))
     rcases Bool.eq_false_or_eq_true ((okD (⟨(gC (unc l P) 0).x, (gC (unc l P) 0).y, decide (((k : Nat) : Int) = 1)⟩ : Dom))) with c5 | c5
     ·skip
      have hok := c5
      rcases Bool.eq_false_or_eq_true ((hasC l (cb (⟨(gC (unc l P) 0).x, (gC (unc l P) 0).y, decide (((k : Nat) : Int) = 1)⟩ : Dom)))) with c6 | c6
      ·skip
       have hhc := c6
       refine rg ?_
       refine z ?_ (h := fun ν => acts_load_owns (xs := [vI ((gC (unc l P) 0).x), vI ((gC (unc l P) 0).y), .bool (decide (((k : Nat) : Int) = 1))].map A.val) ν qE3_ti_62 rfl (by decide) rfl)
       refine z ?_ (h := fun ν => acts_call1 ν (spec_DominoOk_fn (⟨(gC (unc l P) 0).x, (gC (unc l P) 0).y, decide (((k : Nat) : Int) = 1)⟩ : Dom) ) (ac (ArgV.va va) an) (resval (congrArg Value.bool c5)))
       refine z ?_ (h := fun ν => acts_un ν vt (r_not (c := false) rfl))
       refine zm ?_
       refine zg ?_ (h := fun ν => step_on rfl rfl (acts_load_owns (xs := [(.sl 800 0 l.length : A)]) ν qE3_ti_29 rfl (by decide) rfl))
       refine zg ?_ (h := fun ν => step_on rfl rfl (acts_load_owns (xs := [vI ((cb (⟨(gC (unc l P) 0).x, (gC (unc l P) 0).y, decide (((k : Nat) : Int) = 1)⟩ : Dom)).x), vI ((cb (⟨(gC (unc l P) 0).x, (gC (unc l P) 0).y, decide (((k : Nat) : Int) = 1)⟩ : Dom)).y)].map A.val) ν qE3_ti_70 rfl (by decide) rfl))
       refine zg ?_ (h := fun ν => step_on rfl rfl (acts_call1 ν (spec_HasCell_fn l (cb (⟨(gC (unc l P) 0).x, (gC (unc l P) 0).y, decide (((k : Nat) : Int) = 1)⟩ : Dom)) (by omega)) (ac (ArgV.reg _ _ _ (s := 1) (by simp [isl]) (by exact List.take_of_length_le (by simp [isl]))) (ac (ArgV.va va) an)) (resval (congrArg Value.bool c6))))
       refine zg ?_ (h := fun ν => step_on rfl rfl (acts_un ν vt (r_not (c := false) rfl)))
       refine z ?_ (h := fun ν => acts_pick_f ν vt xt)
       refine zm ?_
       refine zg ?_ (h := fun ν => step_on rfl rfl (mt ν))
       refine zg ?_ (h := fun ν => step_on rfl rfl (acts_load_owns (xs := [vI ((cb (⟨(gC (unc l P) 0).x, (gC (unc l P) 0).y, decide (((k : Nat) : Int) = 1)⟩ : Dom)).x), vI ((cb (⟨(gC (unc l P) 0).x, (gC (unc l P) 0).y, decide (((k : Nat) : Int) = 1)⟩ : Dom)).y)].map A.val) ν qE3_ti_70 rfl (by decide) rfl))
       refine zg ?_ (h := fun ν => step_on rfl rfl (acts_call1 ν (spec_DominoAt_fn P (cb (⟨(gC (unc l P) 0).x, (gC (unc l P) 0).y, decide (((k : Nat) : Int) = 1)⟩ : Dom)) (by omega)) (ac (argv_own (by exact dsl_len _)) (ac (ArgV.va va) an)) rv))
       refine zg ?_ (h := fun ν => step_on rfl rfl (acts_bin ν vt vc (r_geq rfl)))
       refine z ?_ (h := fun ν => acts_pick_f ν vt xt)
       refine nl ?_
       refine wi (fun c7 => ?_) (fun c7 => ?_)
       ·skip
        have c7P := of_decide_eq_true c7
        have hno : fitD (lft l P) (⟨(gC (unc l P) 0).x, (gC (unc l P) 0).y, decide (((k : Nat) : Int) = 1)⟩ : Dom) = false := l08_no ho hok hbt (by rw [c7]; simp)
        refine wp_exit' (rg (zm ?_))
        refine z ?_ (h := fun ν => acts_bin ν vt vc (rA (by omega) (by omega)))
        refine za (nl ?_)
        exact loop_back ((k + 1)) (by show _ ≤ _; omega) (by show 2 - (k + 1) < 2 - k; omega) (wkf id (wS <| wS <| wS <| wE (e := (vsl (by (exact congrArg List.length (by first | rfl | omega | (rw [hls]; exact tlv_round hd hft) | (rw [hls]; exact Eq.symm (tlv_round hd hft)) | exact tlv_skip hd hno | exact Eq.symm (tlv_skip hd hno) | (simp [tlk]; done)))) rfl)) <| wS <| wE (e := (vint (by rfl))) <| wX <| wQV (e := (by exact Eq.symm (tlv_skip hd hno))) <| wP <| wP <| wP <| by (iterate 23 refine wF ?_); exact wN))
       ·skip
        have c7P := of_decide_eq_false c7
        have hft : fitD (lft l P) (⟨(gC (unc l P) 0).x, (gC (unc l P) 0).y, decide (((k : Nat) : Int) = 1)⟩ : Dom) = true := l08_yes ho hok hbt hhc (by have := of_decide_eq_false c7; omega)
        have hls := lft_snoc (l := l) (P := P) hok
        have hln := tl_len (n := n) hd hft h0 hk2
        have hpc := popc_sub hft
        refine sk (wp_dr (zdm ?_))
        refine zd ?_ (h := fun ν => acts_load_owns (xs := [(.sl 800 0 l.length : A)]) ν qE3_ti_29 rfl (by decide) rfl)
        refine zd ?_ (h := fun ν => b0D (h := 65) ν qE3_un_31 qE3_zi_62)
        refine zdm ?_
        refine zd ?_ (h := fun ν => aD_ (h2 := 67) (L3 := P) ν qE3_un_31 qE3_zi_62 (by exact rfl) rfl (by exact rfl) (by omega))
        refine zd ?_ (h := fun ν => acts_load_owns (xs := [vI ((gC (unc l P) 0).x), vI ((gC (unc l P) 0).y), .bool (decide (((k : Nat) : Int) = 1))].map A.val) ν qE3_ti_62 rfl (by decide) rfl)
        refine zd ?_ (h := fun ν => acts_buildSlice' (h := 69) (xs := dsl ([(⟨(gC (unc l P) 0).x, (gC (unc l P) 0).y, decide (((k : Nat) : Int) = 1)⟩ : Dom)] : List Dom)) ν qE3_un_31 qE3_zi_62 (.cons va OpVs.nil) (by decide) (by decide) (by kernel_rfl) rfl)
        refine zd ?_ (h := fun ν => aD_ (h2 := 70) (L3 := (P ++ [(⟨(gC (unc l P) 0).x, (gC (unc l P) 0).y, decide (((k : Nat) : Int) = 1)⟩ : Dom)])) ν qE3_un_31 qE3_zi_62 (by exact rfl) rfl (by exact rfl) (by (simp; omega)))
        refine zdm (zdm ?_)
        refine zd ?_ (h := fun ν => lnS ν qE3_un_58)
        refine zd ?_ (h := fun ν => acts_bin ν vt vt (rS (by omega) (by omega)))
        refine zd ?_ (h := fun ν => acts_callO (d := 75) (f := 60) (os := [(.o 800, some (.o ⟨3, 1, true, pl (isl l)⟩)), (.o 70, some (.o ⟨62, 3, true, pl (dsl (P ++ [(⟨(gC (unc l P) 0).x, (gC (unc l P) 0).y, decide (((k : Nat) : Int) = 1)⟩ : Dom)]))⟩))]) (os' := [(.o 800, some (.o ⟨3, 1, true, pl (isl l)⟩)), (.o 70, some (.o ⟨62, 3, true, pl (dsl (P ++ [(⟨(gC (unc l P) 0).x, (gC (unc l P) 0).y, decide (((k : Nat) : Int) = 1)⟩ : Dom)]))⟩))]) (r := V.b (.a (.slvv 3 (vwD ((tls n (lft l (P ++ [(⟨(gC (unc l P) 0).x, (gC (unc l P) 0).y, decide (((k : Nat) : Int) = 1)⟩ : Dom)]))).map ((P ++ [(⟨(gC (unc l P) 0).x, (gC (unc l P) 0).y, decide (((k : Nat) : Int) = 1)⟩ : Dom)]) ++ ·)))))) (bs := [.agg [(.sl 800 0 l.length : A)], .a (.sl 70 0 ((P ++ [(⟨(gC (unc l P) 0).x, (gC (unc l P) 0).y, decide (((k : Nat) : Int) = 1)⟩ : Dom)]).length)), .a (.val (.int .i64 (most - ((((tlk n (lft l P) k).map (P ++ ·)).length : Nat) : Int))))]) (keep := [800, 70]) (new := []) (dead := []) ν (FnO.ren' (ih l (P ++ [(⟨(gC (unc l P) 0).x, (gC (unc l P) 0).y, decide (((k : Nat) : Int) = 1)⟩ : Dom)]) (most - ((((tlk n (lft l P) k).map (P ++ ·)).length : Nat) : Int)) (by omega) (by omega) (by (rw [hls]; omega)) (by (rw [hls]; omega)) (by omega) (by (simp only [List.length_append, List.length_singleton]; omega))) (subst1 [(900, 70)]) rfl rfl (by kernel_rfl) (by kernel_rfl) ⟨oc_pl (fun _ => rfl), oc_pl (fun _ => rfl), trivial⟩ (by kernel_rfl) rfl (by simp only [renS, Ob.ren, pl_ren, rws_ren_doms, rws_ren_ints, rws_ren_cels, rwI_ren, rwD_ren]; first | done | rfl) (by simp only [renS, Ob.ren, pl_ren, rws_ren_doms, rws_ren_ints, rws_ren_cels, rwI_ren, rwD_ren]; first | done | rfl) rfl rfl) (by kernel_rfl) ⟨oc_pl (fun _ => rfl), oc_pl (fun _ => rfl), trivial⟩ (by kernel_rfl) (ArgOs.cons (ArgO.slot 64 (.agg [(.sl 800 0 l.length : A)])) (ArgOs.cons (ArgO.slot 70 (.a (.sl 70 0 ((P ++ [(⟨(gC (unc l P) 0).x, (gC (unc l P) 0).y, decide (((k : Nat) : Int) = 1)⟩ : Dom)]).length)))) (ArgOs.cons ((ArgO.v vt)) (ArgOs.nil)))))
        refine zd ?_ (h := fun ν => aV (h2 := 76) (nm := (((tlk n (lft l P) k).map (P ++ ·)) ++ ((tls n (lft l (P ++ [(⟨(gC (unc l P) 0).x, (gC (unc l P) 0).y, decide (((k : Nat) : Int) = 1)⟩ : Dom)]))).map ((P ++ [(⟨(gC (unc l P) 0).x, (gC (unc l P) 0).y, decide (((k : Nat) : Int) = 1)⟩ : Dom)]) ++ ·))).length) (L := ((tlk n (lft l P) k).map (P ++ ·))) (M := ((tls n (lft l (P ++ [(⟨(gC (unc l P) 0).x, (gC (unc l P) 0).y, decide (((k : Nat) : Int) = 1)⟩ : Dom)]))).map ((P ++ [(⟨(gC (unc l P) 0).x, (gC (unc l P) 0).y, decide (((k : Nat) : Int) = 1)⟩ : Dom)]) ++ ·))) ν qE3_un_58 qE3_zi_31 (by rfl) (by (first | omega | assumption | (simp only [List.length_map]; omega) | (rw [hls]; simp only [List.length_map]; omega) | (rw [hls]; omega))) (by simp))
        refine zd ?_ (h := fun ν => gt ν)
        refine dw_nil (rg (zm ?_))
        refine z ?_ (h := fun ν => acts_bin ν vt vc (rA (by omega) (by omega)))
        refine za (nl ?_)
        exact loop_back ((k + 1)) (by show _ ≤ _; omega) (by show 2 - (k + 1) < 2 - k; omega) (wkf (subst1 [(12, 76)]) (wS <| wS <| wS <| wE (e := (vsl (by (exact congrArg List.length (by first | rfl | omega | (rw [hls]; exact tlv_round hd hft) | (rw [hls]; exact Eq.symm (tlv_round hd hft)) | exact tlv_skip hd hno | exact Eq.symm (tlv_skip hd hno) | (simp [tlk]; done)))) rfl)) <| wS <| wE (e := (vint (by rfl))) <| wX <| wQV (e := (by (rw [hls]; exact Eq.symm (tlv_round hd hft)))) <| wP <| wP <| wP <| by (iterate 23 refine wF ?_); exact wN))
      ·skip
       have hno : fitD (lft l P) (⟨(gC (unc l P) 0).x, (gC (unc l P) 0).y, decide (((k : Nat) : Int) = 1)⟩ : Dom) = false := l08_no ho hok hbt (by rw [c6]; rfl)
       refine rg ?_
       refine z ?_ (h := fun ν => acts_load_owns (xs := [vI ((gC (unc l P) 0).x), vI ((gC (unc l P) 0).y), .bool (decide (((k : Nat) : Int) = 1))].map A.val) ν qE3_ti_62 rfl (by decide) rfl)
       refine z ?_ (h := fun ν => acts_call1 ν (spec_DominoOk_fn (⟨(gC (unc l P) 0).x, (gC (unc l P) 0).y, decide (((k : Nat) : Int) = 1)⟩ : Dom) ) (ac (ArgV.va va) an) (resval (congrArg Value.bool c5)))
       refine z ?_ (h := fun ν => acts_un ν vt (r_not (c := false) rfl))
       refine zm ?_
       refine zg ?_ (h := fun ν => step_on rfl rfl (acts_load_owns (xs := [(.sl 800 0 l.length : A)]) ν qE3_ti_29 rfl (by decide) rfl))
       refine zg ?_ (h := fun ν => step_on rfl rfl (acts_load_owns (xs := [vI ((cb (⟨(gC (unc l P) 0).x, (gC (unc l P) 0).y, decide (((k : Nat) : Int) = 1)⟩ : Dom)).x), vI ((cb (⟨(gC (unc l P) 0).x, (gC (unc l P) 0).y, decide (((k : Nat) : Int) = 1)⟩ : Dom)).y)].map A.val) ν qE3_ti_70 rfl (by decide) rfl))
       refine zg ?_ (h := fun ν => step_on rfl rfl (acts_call1 ν (spec_HasCell_fn l (cb (⟨(gC (unc l P) 0).x, (gC (unc l P) 0).y, decide (((k : Nat) : Int) = 1)⟩ : Dom)) (by omega)) (ac (ArgV.reg _ _ _ (s := 1) (by simp [isl]) (by exact List.take_of_length_le (by simp [isl]))) (ac (ArgV.va va) an)) (resval (congrArg Value.bool c6))))
       refine zg ?_ (h := fun ν => step_on rfl rfl (acts_un ν vt (r_not (c := true) rfl)))
       refine z ?_ (h := fun ν => acts_pick_f ν vt xt)
       refine zm (zo (zo (zo (zo ?_))))
       refine z ?_ (h := fun ν => acts_pick_t ν vt xc)
       refine nl (wt (wp_exit' (rg (zm ?_))))
       refine z ?_ (h := fun ν => acts_bin ν vt vc (rA (by omega) (by omega)))
       refine za (nl ?_)
       exact loop_back ((k + 1)) (by show _ ≤ _; omega) (by show 2 - (k + 1) < 2 - k; omega) (wkf id (wS <| wS <| wS <| wE (e := (vsl (by (exact congrArg List.length (by first | rfl | omega | (rw [hls]; exact tlv_round hd hft) | (rw [hls]; exact Eq.symm (tlv_round hd hft)) | exact tlv_skip hd hno | exact Eq.symm (tlv_skip hd hno) | (simp [tlk]; done)))) rfl)) <| wS <| wE (e := (vint (by rfl))) <| wX <| wQV (e := (by exact Eq.symm (tlv_skip hd hno))) <| wP <| wP <| wP <| by (iterate 23 refine wF ?_); exact wN))
     ·skip
      have hno := fit_no1 (s := lft l P) c5
      refine rg ?_
      refine z ?_ (h := fun ν => acts_load_owns (xs := [vI ((gC (unc l P) 0).x), vI ((gC (unc l P) 0).y), .bool (decide (((k : Nat) : Int) = 1))].map A.val) ν qE3_ti_62 rfl (by decide) rfl)
      refine z ?_ (h := fun ν => acts_call1 ν (spec_DominoOk_fn (⟨(gC (unc l P) 0).x, (gC (unc l P) 0).y, decide (((k : Nat) : Int) = 1)⟩ : Dom) ) (ac (ArgV.va va) an) (resval (congrArg Value.bool c5)))
      refine z ?_ (h := fun ν => acts_un ν vt (r_not (c := true) rfl))
      refine zm (zo (zo (zo (zo ?_))))
      refine z ?_ (h := fun ν => acts_pick_t ν vt xc)
      refine zm (zo (zo (zo (zo ?_))))
      refine z ?_ (h := fun ν => acts_pick_t ν vt xc)
      refine nl (wt (wp_exit' (rg (zm ?_))))
      refine z ?_ (h := fun ν => acts_bin ν vt vc (rA (by omega) (by omega)))
      refine za (nl ?_)
      exact loop_back ((k + 1)) (by show _ ≤ _; omega) (by show 2 - (k + 1) < 2 - k; omega) (wkf id (wS <| wS <| wS <| wE (e := (vsl (by (exact congrArg List.length (by first | rfl | omega | (rw [hls]; exact tlv_round hd hft) | (rw [hls]; exact Eq.symm (tlv_round hd hft)) | exact tlv_skip hd hno | exact Eq.symm (tlv_skip hd hno) | (simp [tlk]; done)))) rfl)) <| wS <| wE (e := (vint (by rfl))) <| wX <| wQV (e := (by exact Eq.symm (tlv_skip hd hno))) <| wP <| wP <| wP <| by (iterate 23 refine wF ?_); exact wN))
    ·skip
     have c4P := of_decide_eq_false c4
     refine wp_exit' (sq (rg (zm (za (nl ?_)))))
     refine wp_weak (fzV (k := 6) (h := 12) (T0 := 31) (ex0 := true) (n := (((tlk n (lft l P) k).map (P ++ ·)).length)) (L := ((tlk n (lft l P) k).map (P ++ ·))) (hn := by rfl)) ?_
     refine wp_ret' ?_
     exact ⟨_, weak_id, ⟨by kernel_rfl, by kernel_rfl, trivial⟩, vo_eq 6 (.a (.slvv 3 (vwD ((tlk n (lft l P) k).map (P ++ ·))))) (.a (.slvv 3 (vwD ((tls (n + 1) (lft l P)).map (P ++ ·))))) (by kernel_rfl) (congrArg (fun z => B.a (.slvv 3 (vwD z))) (by exact tlv_end h0 (by omega) (by omega)))⟩
   ·skip
    have c3P := of_decide_eq_false c3
    refine rg (zm ?_)
    refine z ?_ (h := fun ν => acts_bin ν vt vc (r_lss (c := false) c3))
    refine zm (zo (zo (zo (zo ?_))))
    refine z ?_ (h := fun ν => acts_pick_f ν vt xc)
    refine nl (wf (wp_exit' (sq (rg (zm (za (nl ?_)))))))
    refine wp_weak (fzV (k := 6) (h := 12) (T0 := 31) (ex0 := true) (n := (((tlk n (lft l P) k).map (P ++ ·)).length)) (L := ((tlk n (lft l P) k).map (P ++ ·))) (hn := by rfl)) ?_
    refine wp_ret' ?_
    exact ⟨_, weak_id, ⟨by kernel_rfl, by kernel_rfl, trivial⟩, vo_eq 6 (.a (.slvv 3 (vwD ((tlk n (lft l P) k).map (P ++ ·))))) (.a (.slvv 3 (vwD ((tls (n + 1) (lft l P)).map (P ++ ·))))) (by kernel_rfl) (congrArg (fun z => B.a (.slvv 3 (vwD z))) (by exact tlv_end h0 (by omega) (by omega)))⟩

set_option maxHeartbeats 4000000 in
set_option maxRecDepth 100000 in
theorem spec_ListTilings_fn (l : List Int) (hl : l.length ≤ 4194304) : FnO Tryz.prog 34 [.agg [(.sl 800 0 l.length : A)]] [(.o 800, some (.o ⟨3, 1, true, pl (isl l)⟩))] (V.b (.a (.slvv 3 (vwD (ltR l))))) [(.o 800, some (.o ⟨3, 1, true, pl (isl l)⟩))] [800] := by
 refine fn_introO (N := 11) Tryz.func34 rfl (by kernel_rfl) rfl (Nat.le_of_ble_eq_true rfl) rfl rfl (by kernel_rfl) (by kernel_rfl) ⟨oc_pl (fun _ => rfl), trivial⟩ [1, 4, 5, 7, 9, 10, 11, 12, 13, 14] (retO1 rfl) (fun W own kp im0 => ?_)
 show Wp _ _ _ [kV 0 (V.b (.agg [(.sl 800 0 l.length : A)])), kO 800 3 1 true (pl (isl l)), kF 1, kF 4, kF 5, kF 7, kF 9, kF 10, kF 11, kF 12, kF 13, kF 14]
 refine sq (rg ?_)
 refine z ?_ (h := fun ν => acts_box (h := 1) ν xt (by exact ob1 rfl))
 refine zk (nl (sq (sq (rg ?_))))
 refine z ?_ (h := fun ν => acts_load_owns (xs := [(.sl 800 0 l.length : A)]) ν qE3_ti_29 rfl (by decide) rfl)
 refine z ?_ (h := fun ν => acts_call1 ν (spec_CountTilings_fn l (by omega)) (ac (ArgV.reg _ _ _ (s := 1) (by simp [isl]) (by exact List.take_of_length_le (by simp [isl]))) an) rv)
 refine z ?_ (h := fun ν => acts_call1 ν (spec_l01In_fn (((cntR l) : Nat) : Int) 1 300 ) (ac (ArgV.v vt) (ac (ArgV.v vc) (ac (ArgV.v vc) an))) rv)
 refine z ?_ (h := fun ν => acts_un ν vt (r_not rfl))
 refine nl ?_
 refine wi (b := (!(inB (((cntR l) : Nat) : Int) 1 300))) (fun c1 => ?_) (fun c1 => ?_)
 ·skip
  have c2 : (inB (((cntR l) : Nat) : Int) 1 300) = false := by first | (rw [← Bool.not_eq_true']; exact c1) | simpa using c1
  have hlt := ltR_no c2
  refine sq (rg ?_)
  refine z ?_ (h := fun ν => b0P (h := 7) (T := 62) ν qE3_un_58 qE3_zi_31)
  refine za (nl ?_)
  refine wp_weak (fzD (k := 2) (h := 7) (T0 := 31) (T := 62) (ex0 := true) (n := 0) (L := []) (hn := by simp)) ?_
  refine wp_ret' ?_
  exact ⟨_, weak_id, ⟨by kernel_rfl, trivial⟩, vo_eq 2 (.a (.slvv 3 (vwD []))) (.a (.slvv 3 (vwD (ltR l)))) (by kernel_rfl) (congrArg (fun z => B.a (.slvv 3 (vwD z))) (by exact hlt.symm))⟩
 ·skip
  have c3 : (inB (((cntR l) : Nat) : Int) 1 300) = true := by first | (rw [← Bool.not_eq_false']; exact c1) | simpa using c1
  obtain ⟨hlt, hro, hl3⟩ := ltR_yes c3
  have hrp := popc_le (regSet l)
  have hln := lft_nil l
  refine sk (sq (rg ?_))
  refine z ?_ (h := fun ν => acts_load_owns (xs := [(.sl 800 0 l.length : A)]) ν qE3_ti_29 rfl (by decide) rfl)
  refine z ?_ (h := fun ν => b0D (h := 9) ν qE3_un_31 qE3_zi_62)
  refine z ?_ (h := fun ν => acts_callO (d := 10) (f := 60) (os := [(.o 800, some (.o ⟨3, 1, true, pl (isl l)⟩)), (.o 9, some (.o ⟨62, 3, true, pl (dsl [])⟩))]) (os' := [(.o 800, some (.o ⟨3, 1, true, pl (isl l)⟩)), (.o 9, some (.o ⟨62, 3, true, pl (dsl [])⟩))]) (r := V.b (.a (.slvv 3 (vwD ((tls 33 (lft l [])).map ([] ++ ·)))))) (bs := [.agg [(.sl 800 0 l.length : A)], .a (.sl 9 0 0), .a (.val (.int .i64 300))]) (keep := [800, 9]) (new := []) (dead := []) ν (FnO.ren' (spec_l08List_fn 33 l [] 300 (by omega) (by omega) (by (rw [hln]; omega)) (by (rw [hln]; omega)) (by omega) (by (simp; done))) (subst1 [(900, 9)]) rfl rfl (by kernel_rfl) (by kernel_rfl) ⟨oc_pl (fun _ => rfl), oc_pl (fun _ => rfl), trivial⟩ (by kernel_rfl) rfl (by simp only [renS, Ob.ren, pl_ren, rws_ren_doms, rws_ren_ints, rws_ren_cels, rwI_ren, rwD_ren]; first | done | rfl) (by simp only [renS, Ob.ren, pl_ren, rws_ren_doms, rws_ren_ints, rws_ren_cels, rwI_ren, rwD_ren]; first | done | rfl) rfl rfl) (by kernel_rfl) ⟨oc_pl (fun _ => rfl), oc_pl (fun _ => rfl), trivial⟩ (by kernel_rfl) (ArgOs.cons (ArgO.slot 8 (.agg [(.sl 800 0 l.length : A)])) (ArgOs.cons (ArgO.slot 9 (.a (.sl 9 0 0))) (ArgOs.cons ((ArgO.v vc)) (ArgOs.nil)))))
  refine za (nl (wp_ret' ?_))
  exact ⟨_, weak_id, ⟨by kernel_rfl, trivial⟩, vo_eq 2 (.a (.slvv 3 (vwD ((tls 33 (lft l [])).map ([] ++ ·))))) (.a (.slvv 3 (vwD (ltR l)))) (by kernel_rfl) (congrArg (fun z => B.a (.slvv 3 (vwD z))) (by (rw [hlt, hln]; exact mp_nil)))⟩
end Cl
end Go.Proofs.YtgmkkfdnmdohlaaGreatDoor

namespace Go.Proofs.YtgmkkfdnmdohlaaGreatDoor
namespace Cl
open Go.ChangeShapes Go.WideShapes Go.ChangeAt Go.RowKit
set_option maxRecDepth 20000
/-! tilings as lists of dominoes -/
def cin (d : Dom) (i : Nat) : Bool := decide (idx (ca d) = i) || decide (idx (cb d) = i)
theorem cin_bit (d : Dom) (i : Nat) : (domS d).testBit i = cin d i := domS_bit d i
def cvN (P : List Dom) (i : Nat) : Nat := P.countP (fun d => cin d i)
theorem cvN_cons (d : Dom) (P : List Dom) (i : Nat) : cvN (d :: P) i = cvN P i + (if cin d i = true then 1 else 0) := by unfold cvN; rw [List.countP_cons]
theorem cvN_pos {P : List Dom} {d : Dom} {i : Nat} (h : d ∈ P) (hc : cin d i = true) : 0 < cvN P i := List.countP_pos_iff.2 ⟨d, h, hc⟩
theorem cvN_ex {P : List Dom} {i : Nat} (h : 0 < cvN P i) : ∃ d ∈ P, cin d i = true := List.countP_pos_iff.1 h
def SO (P : List Dom) : Prop := P.Pairwise (fun a b => ord a < ord b)
structure TilS (s : Nat) (P : List Dom) : Prop where
  ok : ∀ d ∈ P, okD d = true
  cv : ∀ i, cvN P i = if s.testBit i = true then 1 else 0
  so : SO P
def TilR : Nat → List Dom → Prop
  | s, [] => s = 0
  | s, d :: P => s ≠ 0 ∧ fitD s d = true ∧ d = dmn (firstI s) d.d ∧ TilR (andn s (domS d)) P
theorem tls_two {n s : Nat} (h : s ≠ 0) : tls (n + 1) s = tlb n s false ++ tlb n s true := by rw [tls, if_neg h]; rfl
theorem tlb_mem {n s : Nat} {b : Bool} {d : Dom} {P : List Dom} : (d :: P) ∈ tlb n s b ↔ fitD s (dmn (firstI s) b) = true ∧ d = dmn (firstI s) b ∧ P ∈ tls n (andn s (domS (dmn (firstI s) b))) := by
  unfold tlb
  split
  · rename_i h
    rw [List.mem_map]
    constructor
    · rintro ⟨Q, hQ, e⟩
      injection e with e1 e2
      subst e2
      exact ⟨h, e1.symm, hQ⟩
    · rintro ⟨_, rfl, hP⟩; exact ⟨P, hP, rfl⟩
  · rename_i h
    constructor
    · intro e; cases e
    · intro e; exact absurd e.1 h
theorem tlb_nil {n s : Nat} {b : Bool} : ¬ [] ∈ tlb n s b := by
  unfold tlb
  split
  · rw [List.mem_map]; rintro ⟨Q, _, e⟩; cases e
  · intro e; cases e
theorem tls_mem : ∀ (n s : Nat) (P : List Dom), s < 18446744073709551616 → popc s < 2 * n → (P ∈ tls n s ↔ TilR s P) := by
  intro n
  induction n with
  | zero => intro s P _ h; omega
  | succ n ih =>
    intro s P hs hp
    by_cases h0 : s = 0
    · rw [tls_zero h0]
      cases P with
      | nil => simp [TilR, h0]
      | cons d P => simp [TilR, h0]
    · rw [tls_two h0, List.mem_append]
      cases P with
      | nil =>
        constructor
        · rintro (h | h) <;> exact absurd h tlb_nil
        · intro h; exact absurd h h0
      | cons d P =>
        rw [tlb_mem, tlb_mem]
        have key : ∀ b, (fitD s (dmn (firstI s) b) = true ∧ d = dmn (firstI s) b ∧ P ∈ tls n (andn s (domS (dmn (firstI s) b)))) ↔ (d.d = b ∧ TilR s (d :: P)) := by
          intro b
          constructor
          · rintro ⟨h1, rfl, h3⟩
            have := popc_sub h1
            exact ⟨rfl, h0, h1, rfl, (ih _ _ (andn_lt hs) (by omega)).1 h3⟩
          · rintro ⟨rfl, _, h1, h2, h3⟩
            have := popc_sub h1
            rw [← h2]
            exact ⟨h1, rfl, (ih _ _ (andn_lt hs) (by omega)).2 h3⟩
        rw [key, key]
        constructor
        · rintro (h | h) <;> exact h.2
        · intro h; cases e : d.d
          · exact .inl ⟨rfl, h⟩
          · exact .inr ⟨rfl, h⟩
theorem tls_nodup : ∀ (n s : Nat), (tls n s).Nodup := by
  intro n
  induction n with
  | zero => intro s; simp [tls]
  | succ n ih =>
    intro s
    by_cases h0 : s = 0
    · rw [tls_zero h0]; simp
    · rw [tls_two h0]
      have hb : ∀ b, (tlb n s b).Nodup := by
        intro b; unfold tlb; split
        · exact List.Pairwise.map _ (fun a c h e => h (by injection e)) (ih _)
        · simp
      refine List.nodup_append.2 ⟨hb _, hb _, ?_⟩
      intro P hP Q hQ e
      subst e
      cases P with
      | nil => exact tlb_nil hP
      | cons d P =>
        have h1 := (tlb_mem.1 hP).2.1
        have h2 := (tlb_mem.1 hQ).2.1
        rw [h1] at h2
        unfold dmn at h2; simp at h2
theorem cin_a (d : Dom) : cin d (idx (ca d)) = true := by simp [cin]
theorem cin_b (d : Dom) : cin d (idx (cb d)) = true := by simp [cin]
theorem ca_lt_cb {d : Dom} (h : okD d = true) : idx (ca d) < idx (cb d) := by
  have hb := okD_bd h
  unfold idx ca cb; cases e : d.d <;> simp [e] <;> omega
theorem fit_cin {s : Nat} {d : Dom} (h : fitD s d = true) {i : Nat} (hc : cin d i = true) : s.testBit i = true := by
  obtain ⟨_, h1, h2⟩ := fit_ok h
  unfold cin at hc; simp only [Bool.or_eq_true, decide_eq_true_eq] at hc
  rcases hc with rfl | rfl
  · exact h1
  · exact h2
theorem first_le {s i : Nat} (h : s.testBit i = true) : firstI s ≤ i := by
  rcases Nat.lt_or_ge i (firstI s) with h1 | h1
  · rw [firstI_min h1] at h; cases h
  · exact h1
theorem dmn_ord {d : Dom} {i : Nat} (hi : i < 64) (h : d = dmn i d.d) : idx (ca d) = i := by rw [h]; exact ca_dmn _ hi
theorem tilR_S : ∀ (P : List Dom) (s : Nat), s < 18446744073709551616 → TilR s P → TilS s P := by
  intro P
  induction P with
  | nil =>
    intro s _ h
    have h : s = 0 := h
    subst h
    exact ⟨by simp, fun i => by rw [Nat.zero_testBit]; rfl, List.Pairwise.nil⟩
  | cons d P ih =>
    intro s hs ⟨h0, hf, hd, hr⟩
    have hI := ih _ (andn_lt hs) hr
    have hfi := firstI_lt hs h0
    have hda : idx (ca d) = firstI s := dmn_ord hfi.1 hd
    refine ⟨fun e he => ?_, fun i => ?_, List.pairwise_cons.2 ⟨fun e he => ?_, hI.so⟩⟩
    · rcases List.mem_cons.1 he with rfl | he
      · exact (fit_ok hf).1
      · exact hI.ok e he
    · rw [cvN_cons, hI.cv, andn_bit, cin_bit]
      cases hc : cin d i
      · simp
      · have := fit_cin hf hc
        simp [this]
    · have hp := cvN_pos he (cin_a e)
      rw [hI.cv, andn_bit, cin_bit] at hp
      have hq : (s.testBit (idx (ca e)) && !cin d (idx (ca e))) = true := by
        cases hz : (s.testBit (idx (ca e)) && !cin d (idx (ca e)))
        · rw [hz] at hp; simp at hp
        · rfl
      simp only [Bool.and_eq_true, Bool.not_eq_true'] at hq
      have h1 := first_le hq.1
      have h2 : idx (ca e) ≠ firstI s := fun e' => by
        rw [e', ← hda, cin_a] at hq; exact absurd hq.2 (by simp)
      unfold ord; rw [hda]
      split <;> split <;> omega
theorem tilS_R : ∀ (P : List Dom) (s : Nat), s < 18446744073709551616 → TilS s P → TilR s P := by
  intro P
  induction P with
  | nil =>
    intro s hs h
    rcases Nat.eq_zero_or_pos s with h0 | h0
    · exact h0
    · have hf := firstI_lt hs (by omega)
      have := h.cv (firstI s)
      rw [hf.2] at this; simp [cvN] at this
  | cons d P ih =>
    intro s hs h
    have hbit : ∀ e ∈ d :: P, ∀ i, cin e i = true → s.testBit i = true := fun e he i hc => by
      have hp := cvN_pos he hc
      rw [h.cv] at hp
      cases hz : s.testBit i
      · rw [hz] at hp; simp at hp
      · rfl
    have hda := hbit d (by simp) _ (cin_a d)
    have hdb := hbit d (by simp) _ (cin_b d)
    have h0 : s ≠ 0 := fun e => by rw [e, Nat.zero_testBit] at hda; cases hda
    have hfi := firstI_lt hs h0
    have hokd := h.ok d (by simp)
    have hfit : fitD s d = true := by unfold fitD; rw [hokd, fit_bits, hda, hdb]; rfl
    obtain ⟨hhead, hso⟩ := List.pairwise_cons.1 h.so
    have hd : idx (ca d) = firstI s := by
      have hp : 0 < cvN (d :: P) (firstI s) := by rw [h.cv, hfi.2]; simp
      obtain ⟨e, he, hc⟩ := cvN_ex hp
      have hoe := h.ok e he
      have hea : idx (ca e) = firstI s := by
        unfold cin at hc; simp only [Bool.or_eq_true, decide_eq_true_eq] at hc
        rcases hc with hc | hc
        · exact hc
        · have h1 := first_le (hbit e he _ (cin_a e))
          have h2 := ca_lt_cb hoe
          omega
      rcases List.mem_cons.1 he with rfl | he'
      · exact hea
      · have h1 := hhead e he'
        have h2 := first_le hda
        unfold ord at h1
        rw [hea] at h1
        cases e1 : d.d <;> cases e2 : e.d <;> simp [e1, e2] at h1 <;> omega
    have hdm : d = dmn (firstI s) d.d := by
      have hc : ca d = cN (firstI s) := idx_inj (ok_ca hokd) (cN_ok hfi.1) (by rw [hd, idx_cN hfi.1])
      unfold ca at hc; unfold dmn; rw [← hc]
    refine ⟨h0, hfit, hdm, ih _ (andn_lt hs) ⟨fun e he => h.ok e (by simp [he]), fun i => ?_, hso⟩⟩
    have := h.cv i
    rw [cvN_cons] at this
    rw [andn_bit, cin_bit]
    cases hc : cin d i
    · rw [hc] at this; simpa using this
    · rw [hc, hbit d (by simp) i hc] at this
      simp at this; simp [this]
theorem til_iff {s : Nat} {P : List Dom} (hs : s < 18446744073709551616) : TilR s P ↔ TilS s P := ⟨tilR_S P s hs, tilS_R P s hs⟩
theorem ltR_mem {l : List Int} {P : List Dom} (h : P ∈ ltR l) : regOk l = true ∧ TilS (regSet l) P := by
  rcases Bool.eq_false_or_eq_true (inB ((cntR l : Nat) : Int) 1 300) with e | e
  · obtain ⟨h1, h2, h3⟩ := ltR_yes e
    rw [h1] at h
    have hs := regSet_lt h2
    exact ⟨h2, (til_iff hs).1 ((tls_mem 33 _ P hs (by have := popc_le (regSet l); omega)).1 h)⟩
  · rw [ltR_no e] at h; cases h
theorem ltR_of {l : List Int} {P Q : List Dom} (h : P ∈ ltR l) (hQ : TilS (regSet l) Q) : Q ∈ ltR l := by
  rcases Bool.eq_false_or_eq_true (inB ((cntR l : Nat) : Int) 1 300) with e | e
  · obtain ⟨h1, h2, h3⟩ := ltR_yes e
    have hs := regSet_lt h2
    rw [h1]
    exact (tls_mem 33 _ Q hs (by have := popc_le (regSet l); omega)).2 ((til_iff hs).2 hQ)
  · rw [ltR_no e] at h; cases h
theorem ltR_nodup (l : List Int) : (ltR l).Nodup := by
  unfold ltR; split
  · exact tls_nodup _ _
  · simp
theorem SO_nodup {P : List Dom} (h : SO P) : P.Nodup := h.imp fun {a b} h e => by rw [e] at h; omega


end Cl
end Go.Proofs.YtgmkkfdnmdohlaaGreatDoor
