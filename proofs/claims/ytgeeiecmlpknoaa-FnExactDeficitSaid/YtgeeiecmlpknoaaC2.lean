/- Walks over clean states, printed by wg.py. No statement is proved here. -/
import Derived.Test.YtgeeiecmlpknoaaC1
import Derived.Test.YtgeeiecmlpknoaaCels
namespace Go.Proofs.Ytgeeiecmlpknoaa
namespace Cl
open Go.ChangeShapes Go.WideShapes Go.ChangeAt Go.RowKit

def blks (l : List Int) (bs : List Cel) : Bool := regOk l && bs.all fun c => black c && hasC l c
theorem blks_no {l : List Int} {bs : List Cel} {k : Nat} (hk : k < bs.length) (h : (black (gC bs k) && hasC l (gC bs k)) = false) : blks l bs = false := by
  unfold blks
  have : (bs.all fun c => black c && hasC l c) = false := by
    rw [List.all_eq_false]; exact ⟨bs[k], List.getElem_mem hk, by rw [gC_eq hk] at h; simp [h]⟩
  rw [this]; simp
def blkT (l : List Int) (bs : List Cel) (k : Nat) : Bool := (bs.take k).all fun c => black c && hasC l c
theorem blkT_snoc {l : List Int} {bs : List Cel} {k : Nat} (hk : k < bs.length) (h : blkT l bs k = true) (h2 : (black (gC bs k) && hasC l (gC bs k)) = true) : blkT l bs (k+1) = true := by
  unfold blkT at *; rw [List.take_succ_eq_append_getElem hk, List.all_append, h, ← gC_eq hk]; simpa using h2
theorem blkT_end {l : List Int} {bs : List Cel} {k : Nat} (hk : ¬ (k : Int) < (bs.length : Int)) (h : blkT l bs k = true) : regOk l = blks l bs := by
  unfold blkT at h; rw [List.take_of_length_le (by omega)] at h; unfold blks; rw [h]; simp
theorem blks_ok {l : List Int} {bs : List Cel} (h : blks l bs = true) : regOk l = true ∧ ∀ k, k < bs.length → okc (gC bs k).x (gC bs k).y = true := by
  unfold blks at h
  simp only [Bool.and_eq_true, List.all_eq_true] at h
  refine ⟨h.1, fun k hk => ?_⟩
  have := (h.2 (gC bs k) (gC_mem hk)).1
  unfold black at this; simp only [Bool.and_eq_true] at this; exact this.1
def addIf (s t : Nat) (w : Cel) : Nat := if hasS s w then addC t w else t
def arB (s t : Nat) (b : Cel) : Nat := (nbs b).foldl (addIf s) t
def aroundS (s : Nat) (bs : List Cel) : Nat := bs.foldl (arB s) 0
theorem addIf_lt {s t : Nat} (ht : t < 18446744073709551616) (w : Cel) : addIf s t w < 18446744073709551616 := by
  unfold addIf; split
  · rename_i h; unfold hasS at h; simp only [Bool.and_eq_true] at h; exact addC_lt ht h.1
  · exact ht
theorem foldl_addIf_lt {s : Nat} (ws : List Cel) : ∀ t, t < 18446744073709551616 → ws.foldl (addIf s) t < 18446744073709551616 := by
  induction ws with
  | nil => intro t h; exact h
  | cons w ws ih => intro t h; exact ih _ (addIf_lt h w)
theorem foldl_arB_lt {s : Nat} (bs : List Cel) : ∀ t, t < 18446744073709551616 → bs.foldl (arB s) t < 18446744073709551616 := by
  induction bs with
  | nil => intro t h; exact h
  | cons b bs ih => intro t h; exact ih _ (foldl_addIf_lt _ _ h)
theorem foldl_snoc {α : Type} (f : Nat → α → Nat) (t : Nat) {l : List α} {k : Nat} (h : k < l.length) : (l.take (k+1)).foldl f t = f ((l.take k).foldl f t) l[k] := by
  rw [List.take_succ_eq_append_getElem h, List.foldl_append]; rfl
theorem foldl_snocC (f : Nat → Cel → Nat) (t : Nat) {l : List Cel} {k : Nat} (h : k < l.length) : (l.take (k+1)).foldl f t = f ((l.take k).foldl f t) (gC l k) := by
  rw [foldl_snoc f t h, gC_eq h]
theorem foldl_endC (f : Nat → Cel → Nat) (t : Nat) {l : List Cel} {k : Nat} (h : ¬ (k : Int) < (l.length : Int)) : (l.take k).foldl f t = l.foldl f t := by
  rw [List.take_of_length_le (by omega)]
theorem addIf_bit (s t : Nat) (w : Cel) (i : Nat) : (addIf s t w).testBit i = (t.testBit i || (hasS s w && decide (idx w = i))) := by
  unfold addIf; split
  · rename_i h; rw [addC_bit, h]; simp
  · rename_i h; simp only [Bool.not_eq_true] at h; rw [h]; simp
theorem foldl_addIf_bit (s : Nat) (ws : List Cel) : ∀ t i, (ws.foldl (addIf s) t).testBit i = (t.testBit i || decide (∃ w ∈ ws, hasS s w = true ∧ idx w = i)) := by
  induction ws with
  | nil => intro t i; simp
  | cons w ws ih =>
    intro t i
    rw [List.foldl_cons, ih, addIf_bit, Bool.or_assoc]
    congr 1
    rw [Bool.eq_iff_iff]; simp
theorem foldl_arB_bit (s : Nat) (bs : List Cel) : ∀ t i, (bs.foldl (arB s) t).testBit i = (t.testBit i || decide (∃ b ∈ bs, ∃ w ∈ nbs b, hasS s w = true ∧ idx w = i)) := by
  induction bs with
  | nil => intro t i; simp
  | cons b bs ih =>
    intro t i
    rw [List.foldl_cons, ih, arB, foldl_addIf_bit, Bool.or_assoc]
    congr 1
    rw [Bool.eq_iff_iff]; simp
theorem mem_nbs {b w : Cel} : w ∈ nbs b ↔ nbr b w = true := by
  rw [← nbs_scan, List.mem_map]
  constructor
  · rintro ⟨k, hk, rfl⟩; exact (List.mem_filter.1 hk).2
  · intro h
    have hw : okc w.x w.y = true := by unfold nbr at h; simp only [Bool.and_eq_true] at h; exact h.1.2
    exact ⟨idx w, List.mem_filter.2 ⟨by simpa using idx_lt hw, by rw [cN_idx hw]; exact h⟩, cN_idx hw⟩
theorem iabs_neg (z : Int) : iabs (-z) = iabs z := by unfold iabs; split <;> split <;> omega
theorem nbr_comm (a b : Cel) : nbr a b = nbr b a := by
  unfold nbr
  rw [show a.x - b.x = -(b.x - a.x) by omega, show a.y - b.y = -(b.y - a.y) by omega, iabs_neg, iabs_neg, Bool.and_comm (okc a.x a.y)]
theorem idx_inj {a b : Cel} (ha : okc a.x a.y = true) (hb : okc b.x b.y = true) (h : idx a = idx b) : a = b := by
  rw [← cN_idx ha, ← cN_idx hb, h]
theorem around_bit {s : Nat} {bs : List Cel} {i : Nat} (hi : i < 64) : (aroundS s bs).testBit i = (s.testBit i && bs.any (nbr (cN i))) := by
  unfold aroundS; rw [foldl_arB_bit, Bool.eq_iff_iff]
  simp only [Nat.zero_testBit, Bool.false_or, decide_eq_true_eq, Bool.and_eq_true, List.any_eq_true]
  constructor
  · rintro ⟨b, hb, w, hw, hs, rfl⟩
    have h := mem_nbs.1 hw
    unfold hasS at hs; simp only [Bool.and_eq_true] at hs
    exact ⟨hs.2, b, hb, by rw [cN_idx hs.1, nbr_comm]; exact h⟩
  · rintro ⟨h1, b, hb, h2⟩
    exact ⟨b, hb, cN i, mem_nbs.2 (by rw [nbr_comm]; exact h2), by unfold hasS; rw [cN_ok hi, idx_cN hi, h1]; rfl, idx_cN hi⟩
def wa (l : List Int) (bs : List Cel) : List Cel := if blks l bs then (cellsOf l).filter (fun c => bs.any (nbr c)) else []
theorem filter_setCells (s : Nat) (p : Cel → Bool) : (setCells s).filter p = ((List.range 64).filter (fun i => s.testBit i && p (cN i))).map cN := by
  unfold setCells
  rw [List.filter_map, List.filter_filter]
  congr 1
  exact List.filter_congr fun k _ => by simp [Bool.and_comm]
theorem wa_around {l : List Int} {bs : List Cel} (h : blks l bs = true) : setCells (aroundS (regSet l) bs) = wa l bs := by
  unfold wa cellsOf; rw [if_pos h, (blks_ok h).1, if_pos rfl, filter_setCells]
  unfold setCells
  congr 1
  exact List.filter_congr fun k hk => around_bit (by simpa using hk)
theorem wa_len (l : List Int) (bs : List Cel) : (wa l bs).length ≤ 64 := by
  unfold wa; split
  · exact Nat.le_trans (List.length_filter_le _ _) (cellsOf_len l)
  · simp
theorem aroundS_lt (s : Nat) (bs : List Cel) : aroundS s bs < 18446744073709551616 := foldl_arB_lt bs 0 (by decide)
theorem any_snocC {p : Cel → Bool} {l : List Cel} {k : Nat} (h : k < l.length) (h1 : (l.take k).any p = false) (h2 : p (gC l k) = false) : (l.take (k+1)).any p = false := by
  rw [List.take_succ_eq_append_getElem h, List.any_append, h1, ← gC_eq h]; simp [h2]
theorem any_atC {p : Cel → Bool} {l : List Cel} {k : Nat} (h : k < l.length) (h2 : p (gC l k) = true) : l.any p = true := List.any_eq_true.2 ⟨gC l k, gC_mem h, h2⟩
theorem any_endC {p : Cel → Bool} {l : List Cel} {k : Nat} (h : ¬ (k : Int) < (l.length : Int)) (h1 : (l.take k).any p = false) : l.any p = false := by rwa [List.take_of_length_le (by omega)] at h1
def hasCel (l : List Cel) (c : Cel) : Bool := decide (c ∈ l)
theorem hasCel_snoc {l : List Cel} {k : Nat} (h : k < l.length) (c : Cel) : hasCel (l.take (k+1)) c = (hasCel (l.take k) c || decide (gC l k = c)) := by
  unfold hasCel
  rw [List.take_succ_eq_append_getElem h, gC_eq h, Bool.eq_iff_iff]
  simp only [decide_eq_true_eq, Bool.or_eq_true, List.mem_append, List.mem_singleton]
  constructor
  · rintro (h | h)
    · exact .inl h
    · exact .inr h.symm
  · rintro (h | h)
    · exact .inl h
    · exact .inr h.symm
theorem hasCel_of {l : List Cel} {k : Nat} (h : k < l.length) {c : Cel} (he : gC l k = c) : hasCel l c = true := by
  unfold hasCel; rw [← he]; simpa using gC_mem h
/-- how many cells a list has, each once -/
def dcount (bs : List Cel) : Nat := (setCells (setL bs)).length
theorem count_add (s : Nat) (j : Nat) (n : Nat) : ((List.range n).filter (s ||| 2 ^ j).testBit).length = ((List.range n).filter s.testBit).length + (if s.testBit j = false ∧ j < n then 1 else 0) := by
  induction n with
  | zero => simp
  | succ n ih =>
    rw [List.range_succ, List.filter_append, List.filter_append, List.length_append, List.length_append, ih]
    have hb : (s ||| 2 ^ j).testBit n = (s.testBit n || decide (j = n)) := by rw [Nat.testBit_or, Nat.testBit_two_pow]
    by_cases hj : j = n
    · subst hj
      rw [List.filter_cons, List.filter_cons, hb]; simp only [decide_true, Bool.or_true, if_true, List.filter_nil]
      cases h : s.testBit j <;> simp
    · have h1 : (j < n + 1) = (j < n) := by rw [eq_iff_iff]; omega
      cases h : s.testBit n <;> simp [hb, h, hj, h1] <;> omega
theorem dcount_snoc {bs : List Cel} {k : Nat} (hk : k < bs.length) (ho : ∀ k, k < bs.length → okc (gC bs k).x (gC bs k).y = true) : dcount (bs.take (k+1)) = dcount (bs.take k) + (if hasCel (bs.take k) (gC bs k) then 0 else 1) := by
  unfold dcount
  rw [setL_snoc hk]
  unfold setCells addC
  rw [List.length_map, List.length_map, count_add]
  congr 1
  have hb : (setL (bs.take k)).testBit (idx (gC bs k)) = hasCel (bs.take k) (gC bs k) := by
    rw [setL_bit]; unfold hasCel
    rw [Bool.eq_iff_iff]; simp only [decide_eq_true_eq]
    constructor
    · rintro ⟨c, hc, he⟩
      obtain ⟨j, hj, rfl⟩ := List.getElem_of_mem hc
      have hj' : j < k ∧ j < bs.length := by simp at hj; omega
      have e : (bs.take k)[j] = gC bs j := by rw [List.getElem_take, gC_eq hj'.2]
      rw [e] at he hc
      rw [← idx_inj (ho j hj'.2) (ho k hk) he]; exact hc
    · intro h; exact ⟨_, h, rfl⟩
  have hlt := idx_lt (ho k hk)
  rw [hb]
  cases hasCel (bs.take k) (gC bs k) <;> simp [hlt]
theorem dcount_le {bs : List Cel} : dcount bs ≤ 64 := setCells_len _
theorem dcount_zero (bs : List Cel) : dcount (bs.take 0) = 0 := by simp [dcount, setL, setCells]
def defi (l : List Int) (bs : List Cel) : Int := if blks l bs then (dcount bs : Int) - (wa l bs).length else 0


theorem cEq_dec {x y x' y' : Int} : cEq x y x' y' = decide ((⟨x, y⟩ : Cel) = ⟨x', y'⟩) := by unfold cEq; simp

theorem qC2_eg_53 : Try.prog.eqGuardType Try.prog.depth 53 = false := by kernel_rfl
theorem qC2_sz_53 : (Try.prog.info? 53).map (·.size) = some 2 := by kernel_rfl
theorem qC2_ti_28 : TI Try.prog 28 true 1 := ⟨⟨_, Try.underlying28, rfl⟩, by kernel_rfl⟩
theorem qC2_ti_53 : TI Try.prog 53 true 2 := ⟨⟨_, Try.underlying53, rfl⟩, by kernel_rfl⟩
theorem qC2_un_38 : Try.prog.underlying 38 = some (.slice 53) := Try.underlying38
theorem qC2_zi_53 : ZI Try.prog 53 (.agg #[.int .i64 0, .int .i64 0]) 2 16 := by unfold ZI; kernel_rfl
set_option maxHeartbeats 4000000 in
set_option maxRecDepth 100000 in
theorem impl_areBlacks_fn (l : List Int) (bs : List Cel) (hl : l.length ≤ 4194304) (hb : bs.length ≤ 2097152) : Fn Try.prog 56 [.agg [(.slv l.length 1 (isl l) : A)], .a (.slv bs.length 2 (csl bs))] [.val (.bool (blks l bs))] := by
  refine fn_intro (N := 25) Try.func56 rfl (by kernel_rfl) rfl (Nat.le_of_ble_eq_true rfl) [2, 6, 8, 14, 19, 24] (ret1 rfl) (fun W => ?_)
  show Wp _ _ _ [(.s 0, some (.s (V.b (.agg [(.slv l.length 1 (isl l) : A)])))), (.s 1, some (.s (V.b (.a (.slv bs.length 2 (csl bs)))))), (.o 2, some .free), (.o 6, some .free), (.o 8, some .free), (.o 14, some .free), (.o 19, some .free), (.o 24, some .free)]
  refine wp_seq' ?_
  refine wp_region_t ?_
  refine wpc (step_plain rfl (acts_box (d := 2) (h := 2) (b := .agg [(.slv l.length 1 (isl l) : A)]) (ltN rfl) (OpX.tmp 0 (V.b (.agg [(.slv l.length 1 (isl l) : A)]))) (by intro y hy; simp [B.cs] at hy; subst hy; rfl))) (by kernel_rfl) ?_
  refine wpc (step_plain rfl (acts_assign (d := 4) (ltN rfl) (OpX.const (.bool false)))) (by kernel_rfl) ?_
  refine wpl_nil ?_
  refine wp_seq' ?_
  refine wp_seq' ?_
  refine wp_region_t ?_
  refine wpc (step_plain rfl (acts_move (d := 7) (ltN rfl) (OpX.tmp 1 (V.b (.a (.slv bs.length 2 (csl bs))))))) (by kernel_rfl) ?_
  refine wpc (step_plain rfl (acts_len (d := 8) (X := .slv bs.length 2 (csl bs)) (n := bs.length) (iv := ((bs.length : Nat) : Int)) (ltN rfl) qC2_un_38 (OpX.tmp 7 (V.b (.a (.slv bs.length 2 (csl bs))))) (LenOf.slv _ _ _) rfl)) (by kernel_rfl) ?_
  refine wpc (step_plain rfl (acts_move (d := 9) (ltN rfl) (OpX.const (.int .i64 0)))) (by kernel_rfl) ?_
  refine wpl_nil ?_
  refine wp_block' ?_
  refine wp_loop' (fun (k : Nat) => k ≤ bs.length ∧ blkT l bs k = true) (fun (k : Nat) => [(.s 2, some (.s (V.p 2 0))), (.s 7, some (.s (V.b (.a (.slv bs.length 2 (csl bs)))))), (.s 8, some (.s (V.v (.int .i64 ((bs.length : Nat) : Int))))), (.s 9, some (.s (V.v (.int .i64 ((k : Nat) : Int))))), (.o 2, some (.o ⟨28, 1, true, [(.slv l.length 1 (isl l) : A)]⟩)), (.o 6, some .free), (.o 8, some .free), (.o 14, some .free), (.o 19, some .free), (.o 24, some .free)]) (fun (k : Nat) => bs.length - k) ((0 : Nat)) (by exact ⟨Nat.zero_le _, rfl⟩) (weak_of id [6, 8, 14, 19, 24] (by kernel_rfl) (wk_s (v' := V.p 2 0) (by kernel_rfl) rfl rfl (wk_s (v' := V.b (.a (.slv bs.length 2 (csl bs)))) (by kernel_rfl) rfl rfl (wk_s (v' := V.v (.int .i64 ((bs.length : Nat) : Int))) (by kernel_rfl) rfl rfl (wk_s (v' := V.v (.int .i64 0)) (by kernel_rfl) (vint (by first | rfl | omega | (simp; done) | (simp; omega))) rfl (wk_o (o' := ⟨28, 1, true, [(.slv l.length 1 (isl l) : A)]⟩) (by kernel_rfl) (renob_l (fun h => h) rfl rfl) rfl (wk_f rfl (wk_f rfl (wk_f rfl (wk_f rfl (wk_f rfl (wk_nil)))))))))))) ?_
  rintro k inv1
  replace inv1 : k ≤ bs.length ∧ blkT l bs k = true := inv1
  obtain ⟨inv1_0, inv1_1⟩ := inv1
  show Wp _ _ _ [(.s 2, some (.s (V.p 2 0))), (.s 7, some (.s (V.b (.a (.slv bs.length 2 (csl bs)))))), (.s 8, some (.s (V.v (.int .i64 ((bs.length : Nat) : Int))))), (.s 9, some (.s (V.v (.int .i64 ((k : Nat) : Int))))), (.o 2, some (.o ⟨28, 1, true, [(.slv l.length 1 (isl l) : A)]⟩)), (.o 6, some .free), (.o 8, some .free), (.o 14, some .free), (.o 19, some .free), (.o 24, some .free)]
  refine wp_seq' ?_
  refine wp_region_t ?_
  refine wpc (step_plain rfl (acts_bin (d := 10) (ltN rfl) (OpV.tmp 9 (.int .i64 ((k : Nat) : Int))) (OpV.tmp 8 (.int .i64 ((bs.length : Nat) : Int))) (r_lss (c := (decide (((k : Nat) : Int) < ((bs.length : Nat) : Int)))) rfl))) (by kernel_rfl) ?_
  refine wpl_nil ?_
  refine wp_seq' ?_
  refine wp_if (t := 10) (decide (((k : Nat) : Int) < ((bs.length : Nat) : Int))) (by kernel_rfl) (fun c2 => ?_) (fun c2 => ?_)
  · skip
    have c2P := of_decide_eq_true c2
    refine wp_skip' ?_
    refine wp_seq' ?_
    refine wp_block' ?_
    refine wp_seq' ?_
    refine wp_region_t ?_
    refine wpc (step_plain rfl (acts_index_v (d := 11) (x := 7) (n := bs.length) (s := 2) (k := k) (xs := csl bs) (ltN rfl) qC2_un_38 qC2_sz_53 (OpV.tmp 9 (.int .i64 ((k : Nat) : Int))) rfl (by omega))) (by kernel_rfl) ?_
    refine wpc (step_plain rfl (acts_load_vs (d := 12) (t := 11) (s := 2) (off := (k * 2)) (xs := csl bs)  (vs := [(.int .i64 ((gC bs k).x) : Value), .int .i64 ((gC bs k).y)]) (ltN rfl) qC2_ti_53 rfl (csl_at (k := k) (by omega)))) (by kernel_rfl) ?_
    refine wpc (step_plain rfl (acts_alloc' (d := 6) (h := 6) (cap := 1) (s := 2) (cells := [(.val (.int .i64 0) : A), .val (.int .i64 0)]) (ltN rfl) qC2_zi_53 rfl rfl (by decide))) (by kernel_rfl) ?_
    refine wpc (step_plain rfl (acts_store (t := 6) (h := 6) (off := 0) (o := ⟨53, 2, true, [(.val (.int .i64 0) : A), .val (.int .i64 0)]⟩) (b := .agg ([(.int .i64 ((gC bs k).x) : Value), .int .i64 ((gC bs k).y)].map A.val)) (cells := [(.val (.int .i64 ((gC bs k).x)) : A), .val (.int .i64 ((gC bs k).y))]) qC2_ti_53 (OpX.tmp 12 (V.av [(.int .i64 ((gC bs k).x) : Value), .int .i64 ((gC bs k).y)])) rfl (by decide) (by intro y hy; simp [B.cs] at hy; rcases hy with rfl | rfl <;> rfl) (Nat.le_of_ble_eq_true rfl) rfl)) (by kernel_rfl) ?_
    refine wpl_nil ?_
    refine wp_seq' ?_
    rcases Bool.eq_false_or_eq_true ((black (gC bs k))) with c3 | c3
    · skip
      refine wp_region_t ?_
      refine wpc (step_plain rfl (acts_load_owns (d := 13) (t := 6) (h := 6) (off := 0) (o := ⟨53, 2, true, [(.val (.int .i64 ((gC bs k).x)) : A), .val (.int .i64 ((gC bs k).y))]⟩)  (xs := [(.int .i64 ((gC bs k).x) : Value), .int .i64 ((gC bs k).y)].map A.val) (ltN rfl) qC2_ti_53 rfl (by decide) rfl)) (by kernel_rfl) ?_
      refine wpc (step_plain rfl (acts_call1 (d := 14) (ltN rfl) (impl_IsBlack_fn (gC bs k) ) (ArgVs.cons (ArgV.va (vs := [(.int .i64 ((gC bs k).x) : Value), .int .i64 ((gC bs k).y)]) (OpV.agg 13 [(.int .i64 ((gC bs k).x) : Value), .int .i64 ((gC bs k).y)])) (ArgVs.nil)) ((resval (congrArg Value.bool c3))))) (by kernel_rfl) ?_
      refine wpc (step_plain rfl (acts_un (d := 15) (ltN rfl) (OpV.tmp 14 (.bool true)) (r_not (c := false) rfl))) (by kernel_rfl) ?_
      refine wpc (step_plain rfl (acts_move (d := 16) (ltN rfl) (OpX.tmp 15 (V.v (.bool false))))) (by kernel_rfl) ?_
      refine wpc (step_on (dj := 16) rfl rfl (acts_load_owns (d := 17) (t := 2) (h := 2) (off := 0) (o := ⟨28, 1, true, [(.slv l.length 1 (isl l) : A)]⟩)  (xs := [(.slv l.length 1 (isl l) : A)]) (ltN rfl) qC2_ti_28 rfl (by decide) rfl)) (by kernel_rfl) ?_
      refine wpc (step_on (dj := 16) rfl rfl (acts_load_owns (d := 18) (t := 6) (h := 6) (off := 0) (o := ⟨53, 2, true, [(.val (.int .i64 ((gC bs k).x)) : A), .val (.int .i64 ((gC bs k).y))]⟩)  (xs := [(.int .i64 ((gC bs k).x) : Value), .int .i64 ((gC bs k).y)].map A.val) (ltN rfl) qC2_ti_53 rfl (by decide) rfl)) (by kernel_rfl) ?_
      refine wpc (step_on (dj := 16) rfl rfl (acts_call1 (d := 19) (ltN rfl) (impl_HasCell_fn l (gC bs k) (by omega)) (ArgVs.cons (ArgV.regv 17 l.length 1 (isl l)) (ArgVs.cons (ArgV.va (vs := [(.int .i64 ((gC bs k).x) : Value), .int .i64 ((gC bs k).y)]) (OpV.agg 18 [(.int .i64 ((gC bs k).x) : Value), .int .i64 ((gC bs k).y)])) (ArgVs.nil))) (ResV.val _))) (by kernel_rfl) ?_
      refine wpc (step_on (dj := 16) rfl rfl (acts_un (d := 20) (ltN rfl) (OpV.tmp 19 (.bool (hasC l (gC bs k)))) (r_not (c := (!(hasC l (gC bs k)))) rfl))) (by kernel_rfl) ?_
      refine wpc (step_plain rfl (acts_pick_f (d := 21) (ltN rfl) (OpV.tmp 16 (.bool false)) (OpX.tmp 20 (V.v (.bool (!(hasC l (gC bs k)))))))) (by kernel_rfl) ?_
      refine wpl_nil ?_
      refine wp_if (t := 21) ((!(hasC l (gC bs k)))) (by kernel_rfl) (fun c4 => ?_) (fun c4 => ?_)
      · skip
        have c5 : (hasC l (gC bs k)) = false := by simpa using c4
        refine wp_seq' ?_
        refine wp_region_t ?_
        refine wpc (step_plain rfl (acts_assign (d := 4) (ltN rfl) (OpX.const (.bool false)))) (by kernel_rfl) ?_
        refine wpl_nil ?_
        refine wp_ret' ?_
        exact VRes.tmp 4 (.a (.val (.bool false))) _ (by kernel_rfl) (bval (congrArg Value.bool (by exact (blks_no (k := k) (by omega) (by simp_all)).symm)))
      · skip
        have c6 : (hasC l (gC bs k)) = true := by simpa using c4
        refine wp_skip' ?_
        refine wp_region_t ?_
        refine wpc (step_plain rfl (acts_bin (d := 22) (ltN rfl) (OpV.tmp 9 (.int .i64 ((k : Nat) : Int))) (OpV.const (.int .i64 1)) (r_add (c := (((k : Nat) : Int) + 1)) (w64 (by omega) (by omega))))) (by kernel_rfl) ?_
        refine wpc (step_plain rfl (acts_move (d := 9) (ltN rfl) (OpX.tmp 22 (V.v (.int .i64 (((k : Nat) : Int) + 1)))))) (by kernel_rfl) ?_
        refine wpl_nil ?_
        exact loop_back ((k + 1)) (by exact ⟨by omega, blkT_snoc (by omega) (by assumption) (by simp_all)⟩) (by show bs.length - (k + 1) < bs.length - k; omega) (weak_of id [6, 8, 14, 19, 24] (by kernel_rfl) (wk_s (v' := V.p 2 0) (by kernel_rfl) rfl rfl (wk_s (v' := V.b (.a (.slv bs.length 2 (csl bs)))) (by kernel_rfl) rfl rfl (wk_s (v' := V.v (.int .i64 ((bs.length : Nat) : Int))) (by kernel_rfl) rfl rfl (wk_s (v' := V.v (.int .i64 (((k : Nat) : Int) + 1))) (by kernel_rfl) (vint (by first | rfl | omega | (simp; done) | (simp; omega))) rfl (wk_o (o' := ⟨28, 1, true, [(.slv l.length 1 (isl l) : A)]⟩) (by kernel_rfl) (renob_l (fun h => h) rfl rfl) rfl (wk_f rfl (wk_f rfl (wk_f rfl (wk_f rfl (wk_f rfl (wk_nil))))))))))))
    · skip
      refine wp_region_t ?_
      refine wpc (step_plain rfl (acts_load_owns (d := 13) (t := 6) (h := 6) (off := 0) (o := ⟨53, 2, true, [(.val (.int .i64 ((gC bs k).x)) : A), .val (.int .i64 ((gC bs k).y))]⟩)  (xs := [(.int .i64 ((gC bs k).x) : Value), .int .i64 ((gC bs k).y)].map A.val) (ltN rfl) qC2_ti_53 rfl (by decide) rfl)) (by kernel_rfl) ?_
      refine wpc (step_plain rfl (acts_call1 (d := 14) (ltN rfl) (impl_IsBlack_fn (gC bs k) ) (ArgVs.cons (ArgV.va (vs := [(.int .i64 ((gC bs k).x) : Value), .int .i64 ((gC bs k).y)]) (OpV.agg 13 [(.int .i64 ((gC bs k).x) : Value), .int .i64 ((gC bs k).y)])) (ArgVs.nil)) ((resval (congrArg Value.bool c3))))) (by kernel_rfl) ?_
      refine wpc (step_plain rfl (acts_un (d := 15) (ltN rfl) (OpV.tmp 14 (.bool false)) (r_not (c := true) rfl))) (by kernel_rfl) ?_
      refine wpc (step_plain rfl (acts_move (d := 16) (ltN rfl) (OpX.tmp 15 (V.v (.bool true))))) (by kernel_rfl) ?_
      refine wpc (step_off (dj := 16) (b' := true) rfl rfl (by decide) rfl (ltN rfl)) (by kernel_rfl) ?_
      refine wpc (step_off (dj := 16) (b' := true) rfl rfl (by decide) rfl (ltN rfl)) (by kernel_rfl) ?_
      refine wpc (step_off (dj := 16) (b' := true) rfl rfl (by decide) rfl (ltN rfl)) (by kernel_rfl) ?_
      refine wpc (step_off (dj := 16) (b' := true) rfl rfl (by decide) rfl (ltN rfl)) (by kernel_rfl) ?_
      refine wpc (step_plain rfl (acts_pick_t (d := 21) (ltN rfl) (OpV.tmp 16 (.bool true)) (OpX.const (.bool true)))) (by kernel_rfl) ?_
      refine wpl_nil ?_
      refine wp_if_t (t := 21) (by kernel_rfl) ?_
      refine wp_seq' ?_
      refine wp_region_t ?_
      refine wpc (step_plain rfl (acts_assign (d := 4) (ltN rfl) (OpX.const (.bool false)))) (by kernel_rfl) ?_
      refine wpl_nil ?_
      refine wp_ret' ?_
      exact VRes.tmp 4 (.a (.val (.bool false))) _ (by kernel_rfl) (bval (congrArg Value.bool (by exact (blks_no (k := k) (by omega) (by simp_all)).symm)))
  · skip
    have c2P := of_decide_eq_false c2
    refine wp_exit' ?_
    refine wp_seq' ?_
    refine wp_region_t ?_
    refine wpc (step_plain rfl (acts_load_owns (d := 23) (t := 2) (h := 2) (off := 0) (o := ⟨28, 1, true, [(.slv l.length 1 (isl l) : A)]⟩)  (xs := [(.slv l.length 1 (isl l) : A)]) (ltN rfl) qC2_ti_28 rfl (by decide) rfl)) (by kernel_rfl) ?_
    refine wpc (step_plain rfl (acts_call1 (d := 24) (ltN rfl) (impl_RegionOk_fn l (by omega)) (ArgVs.cons (ArgV.regv 23 l.length 1 (isl l)) (ArgVs.nil)) (ResV.val _))) (by kernel_rfl) ?_
    refine wpc (step_plain rfl (acts_assign (d := 4) (ltN rfl) (OpX.tmp 24 (V.v (.bool (regOk l)))))) (by kernel_rfl) ?_
    refine wpl_nil ?_
    refine wp_ret' ?_
    exact VRes.tmp 4 (.a (.val (.bool (regOk l)))) _ (by kernel_rfl) (bval (congrArg Value.bool (by exact blkT_end (by omega) (by assumption))))

set_option maxHeartbeats 4000000 in
set_option maxRecDepth 100000 in
theorem spec_l10Blacks_fn (l : List Int) (bs : List Cel) (hl : l.length ≤ 4194304) (hb : bs.length ≤ 2097152) : Fn Try.prog 53 [.agg [(.slv l.length 1 (isl l) : A)], .a (.slv bs.length 2 (csl bs))] [.val (.bool (blks l bs))] := by
  refine fn_intro (N := 29) Try.func53 rfl (by kernel_rfl) rfl (Nat.le_of_ble_eq_true rfl) [2, 8, 17, 24, 28] (ret1 rfl) (fun W => ?_)
  show Wp _ _ _ [(.s 0, some (.s (V.b (.agg [(.slv l.length 1 (isl l) : A)])))), (.s 1, some (.s (V.b (.a (.slv bs.length 2 (csl bs)))))), (.o 2, some .free), (.o 8, some .free), (.o 17, some .free), (.o 24, some .free), (.o 28, some .free)]
  refine wp_seq' ?_
  refine wp_region_t ?_
  refine wpc (step_plain rfl (acts_box (d := 2) (h := 2) (b := .agg [(.slv l.length 1 (isl l) : A)]) (ltN rfl) (OpX.tmp 0 (V.b (.agg [(.slv l.length 1 (isl l) : A)]))) (by intro y hy; simp [B.cs] at hy; subst hy; rfl))) (by kernel_rfl) ?_
  refine wpc (step_plain rfl (acts_assign (d := 4) (ltN rfl) (OpX.const (.bool false)))) (by kernel_rfl) ?_
  refine wpl_nil ?_
  refine wp_seq' ?_
  refine wp_seq' ?_
  refine wp_region_t ?_
  refine wpc (step_plain rfl (acts_assign (d := 5) (ltN rfl) (OpX.const (.int .i64 0)))) (by kernel_rfl) ?_
  refine wpl_nil ?_
  refine wp_block' ?_
  refine wp_loop' (fun (k : Nat) => k ≤ bs.length ∧ blkT l bs k = true) (fun (k : Nat) => [(.s 1, some (.s (V.b (.a (.slv bs.length 2 (csl bs)))))), (.s 2, some (.s (V.p 2 0))), (.s 5, some (.s (V.v (.int .i64 ((k : Nat) : Int))))), (.o 2, some (.o ⟨28, 1, true, [(.slv l.length 1 (isl l) : A)]⟩)), (.o 8, some .free), (.o 17, some .free), (.o 24, some .free), (.o 28, some .free)]) (fun (k : Nat) => bs.length - k) ((0 : Nat)) (by exact ⟨Nat.zero_le _, rfl⟩) (weak_of id [8, 17, 24, 28] (by kernel_rfl) (wk_s (v' := V.b (.a (.slv bs.length 2 (csl bs)))) (by kernel_rfl) rfl rfl (wk_s (v' := V.p 2 0) (by kernel_rfl) rfl rfl (wk_s (v' := V.v (.int .i64 0)) (by kernel_rfl) (vint (by first | rfl | omega | (simp; done) | (simp; omega))) rfl (wk_o (o' := ⟨28, 1, true, [(.slv l.length 1 (isl l) : A)]⟩) (by kernel_rfl) (renob_l (fun h => h) rfl rfl) rfl (wk_f rfl (wk_f rfl (wk_f rfl (wk_f rfl (wk_nil)))))))))) ?_
  rintro k inv1
  replace inv1 : k ≤ bs.length ∧ blkT l bs k = true := inv1
  obtain ⟨inv1_0, inv1_1⟩ := inv1
  show Wp _ _ _ [(.s 1, some (.s (V.b (.a (.slv bs.length 2 (csl bs)))))), (.s 2, some (.s (V.p 2 0))), (.s 5, some (.s (V.v (.int .i64 ((k : Nat) : Int))))), (.o 2, some (.o ⟨28, 1, true, [(.slv l.length 1 (isl l) : A)]⟩)), (.o 8, some .free), (.o 17, some .free), (.o 24, some .free), (.o 28, some .free)]
  refine wp_seq' ?_
  refine wp_seq' ?_
  refine wp_region_t ?_
  refine wpc (step_plain rfl (acts_move (d := 6) (ltN rfl) (OpX.tmp 5 (V.v (.int .i64 ((k : Nat) : Int)))))) (by kernel_rfl) ?_
  refine wpc (step_plain rfl (acts_move (d := 7) (ltN rfl) (OpX.tmp 1 (V.b (.a (.slv bs.length 2 (csl bs))))))) (by kernel_rfl) ?_
  refine wpc (step_plain rfl (acts_len (d := 8) (X := .slv bs.length 2 (csl bs)) (n := bs.length) (iv := ((bs.length : Nat) : Int)) (ltN rfl) qC2_un_38 (OpX.tmp 7 (V.b (.a (.slv bs.length 2 (csl bs))))) (LenOf.slv _ _ _) rfl)) (by kernel_rfl) ?_
  refine wpc (step_plain rfl (acts_bin (d := 9) (ltN rfl) (OpV.tmp 6 (.int .i64 ((k : Nat) : Int))) (OpV.tmp 8 (.int .i64 ((bs.length : Nat) : Int))) (r_lss (c := (decide (((k : Nat) : Int) < ((bs.length : Nat) : Int)))) rfl))) (by kernel_rfl) ?_
  refine wpl_nil ?_
  refine wp_if (t := 9) (decide (((k : Nat) : Int) < ((bs.length : Nat) : Int))) (by kernel_rfl) (fun c2 => ?_) (fun c2 => ?_)
  · skip
    have c2P := of_decide_eq_true c2
    refine wp_skip' ?_
    refine wp_seq' ?_
    refine wp_block' ?_
    refine wp_seq' ?_
    rcases Bool.eq_false_or_eq_true ((hasC l (gC bs k))) with c3 | c3
    · skip
      refine wp_drawn' (by kernel_rfl) (AllSteps.cons (step_plain rfl (acts_load_owns (d := 12) (t := 2) (h := 2) (off := 0) (o := ⟨28, 1, true, [(.slv l.length 1 (isl l) : A)]⟩)  (xs := [(.slv l.length 1 (isl l) : A)]) (ltN rfl) qC2_ti_28 rfl (by decide) rfl)) (AllSteps.cons (step_plain rfl (acts_move (d := 13) (ltN rfl) (OpX.tmp 1 (V.b (.a (.slv bs.length 2 (csl bs))))))) (AllSteps.cons (step_plain rfl (acts_move (d := 14) (ltN rfl) (OpX.tmp 5 (V.v (.int .i64 ((k : Nat) : Int)))))) (AllSteps.cons (step_plain rfl (acts_index_v (d := 15) (x := 13) (n := bs.length) (s := 2) (k := k) (xs := csl bs) (ltN rfl) qC2_un_38 qC2_sz_53 (OpV.tmp 14 (.int .i64 ((k : Nat) : Int))) rfl (by omega))) (AllSteps.cons (step_plain rfl (acts_load_vs (d := 16) (t := 15) (s := 2) (off := (k * 2)) (xs := csl bs)  (vs := [(.int .i64 ((gC bs k).x) : Value), .int .i64 ((gC bs k).y)]) (ltN rfl) qC2_ti_53 rfl (csl_at (k := k) (by omega)))) (AllSteps.cons (step_plain rfl (acts_call1 (d := 17) (ltN rfl) (spec_HasCell_fn l (gC bs k) (by omega)) (ArgVs.cons (ArgV.regv 12 l.length 1 (isl l)) (ArgVs.cons (ArgV.va (vs := [(.int .i64 ((gC bs k).x) : Value), .int .i64 ((gC bs k).y)]) (OpV.agg 16 [(.int .i64 ((gC bs k).x) : Value), .int .i64 ((gC bs k).y)])) (ArgVs.nil))) ((resval (congrArg Value.bool c3))))) (AllSteps.cons (step_plain rfl (acts_un (d := 18) (ltN rfl) (OpV.tmp 17 (.bool true)) (r_not (c := false) rfl))) (AllSteps.cons (step_plain rfl (acts_move (d := 19) (ltN rfl) (OpX.tmp 18 (V.v (.bool false))))) (AllSteps.cons (step_on (dj := 19) rfl rfl (acts_move (d := 20) (ltN rfl) (OpX.tmp 1 (V.b (.a (.slv bs.length 2 (csl bs))))))) (AllSteps.cons (step_on (dj := 19) rfl rfl (acts_move (d := 21) (ltN rfl) (OpX.tmp 5 (V.v (.int .i64 ((k : Nat) : Int)))))) (AllSteps.cons (step_on (dj := 19) rfl rfl (acts_index_v (d := 22) (x := 20) (n := bs.length) (s := 2) (k := k) (xs := csl bs) (ltN rfl) qC2_un_38 qC2_sz_53 (OpV.tmp 21 (.int .i64 ((k : Nat) : Int))) rfl (by omega))) (AllSteps.cons (step_on (dj := 19) rfl rfl (acts_load_vs (d := 23) (t := 22) (s := 2) (off := (k * 2)) (xs := csl bs)  (vs := [(.int .i64 ((gC bs k).x) : Value), .int .i64 ((gC bs k).y)]) (ltN rfl) qC2_ti_53 rfl (csl_at (k := k) (by omega)))) (AllSteps.cons (step_on (dj := 19) rfl rfl (acts_call1 (d := 24) (ltN rfl) (spec_IsBlack_fn (gC bs k) ) (ArgVs.cons (ArgV.va (vs := [(.int .i64 ((gC bs k).x) : Value), .int .i64 ((gC bs k).y)]) (OpV.agg 23 [(.int .i64 ((gC bs k).x) : Value), .int .i64 ((gC bs k).y)])) (ArgVs.nil)) (ResV.val _))) (AllSteps.cons (step_on (dj := 19) rfl rfl (acts_un (d := 25) (ltN rfl) (OpV.tmp 24 (.bool (black (gC bs k)))) (r_not (c := (!(black (gC bs k)))) rfl))) (AllSteps.cons (step_plain rfl (acts_pick_f (d := 26) (ltN rfl) (OpV.tmp 19 (.bool false)) (OpX.tmp 25 (V.v (.bool (!(black (gC bs k)))))))) (AllSteps.nil)))))))))))))))) (by kernel_rfl) (by kernel_rfl) (by kernel_rfl) ?_
      refine wp_if (t := 26) ((!(black (gC bs k)))) (by kernel_rfl) (fun c4 => ?_) (fun c4 => ?_)
      · skip
        have c5 : (black (gC bs k)) = false := by simpa using c4
        refine wp_seq' ?_
        refine wp_region_t ?_
        refine wpc (step_plain rfl (acts_assign (d := 4) (ltN rfl) (OpX.const (.bool false)))) (by kernel_rfl) ?_
        refine wpl_nil ?_
        refine wp_ret' ?_
        exact VRes.tmp 4 (.a (.val (.bool false))) _ (by kernel_rfl) (bval (congrArg Value.bool (by exact (blks_no (k := k) (by omega) (by simp_all)).symm)))
      · skip
        have c6 : (black (gC bs k)) = true := by simpa using c4
        refine wp_skip' ?_
        refine wp_region_t ?_
        refine wpc (step_plain rfl (acts_move (d := 10) (ltN rfl) (OpX.tmp 5 (V.v (.int .i64 ((k : Nat) : Int)))))) (by kernel_rfl) ?_
        refine wpc (step_plain rfl (acts_bin (d := 11) (ltN rfl) (OpV.tmp 10 (.int .i64 ((k : Nat) : Int))) (OpV.const (.int .i64 1)) (r_add (c := (((k : Nat) : Int) + 1)) (w64 (by omega) (by omega))))) (by kernel_rfl) ?_
        refine wpc (step_plain rfl (acts_assign (d := 5) (ltN rfl) (OpX.tmp 11 (V.v (.int .i64 (((k : Nat) : Int) + 1)))))) (by kernel_rfl) ?_
        refine wpl_nil ?_
        exact loop_back ((k + 1)) (by exact ⟨by omega, blkT_snoc (by omega) (by assumption) (by simp_all)⟩) (by show bs.length - (k + 1) < bs.length - k; omega) (weak_of id [8, 17, 24, 28] (by kernel_rfl) (wk_s (v' := V.b (.a (.slv bs.length 2 (csl bs)))) (by kernel_rfl) rfl rfl (wk_s (v' := V.p 2 0) (by kernel_rfl) rfl rfl (wk_s (v' := V.v (.int .i64 (((k : Nat) : Int) + 1))) (by kernel_rfl) (vint (by first | rfl | omega | (simp; done) | (simp; omega))) rfl (wk_o (o' := ⟨28, 1, true, [(.slv l.length 1 (isl l) : A)]⟩) (by kernel_rfl) (renob_l (fun h => h) rfl rfl) rfl (wk_f rfl (wk_f rfl (wk_f rfl (wk_f rfl (wk_nil))))))))))
    · skip
      refine wp_drawn' (by kernel_rfl) (AllSteps.cons (step_plain rfl (acts_load_owns (d := 12) (t := 2) (h := 2) (off := 0) (o := ⟨28, 1, true, [(.slv l.length 1 (isl l) : A)]⟩)  (xs := [(.slv l.length 1 (isl l) : A)]) (ltN rfl) qC2_ti_28 rfl (by decide) rfl)) (AllSteps.cons (step_plain rfl (acts_move (d := 13) (ltN rfl) (OpX.tmp 1 (V.b (.a (.slv bs.length 2 (csl bs))))))) (AllSteps.cons (step_plain rfl (acts_move (d := 14) (ltN rfl) (OpX.tmp 5 (V.v (.int .i64 ((k : Nat) : Int)))))) (AllSteps.cons (step_plain rfl (acts_index_v (d := 15) (x := 13) (n := bs.length) (s := 2) (k := k) (xs := csl bs) (ltN rfl) qC2_un_38 qC2_sz_53 (OpV.tmp 14 (.int .i64 ((k : Nat) : Int))) rfl (by omega))) (AllSteps.cons (step_plain rfl (acts_load_vs (d := 16) (t := 15) (s := 2) (off := (k * 2)) (xs := csl bs)  (vs := [(.int .i64 ((gC bs k).x) : Value), .int .i64 ((gC bs k).y)]) (ltN rfl) qC2_ti_53 rfl (csl_at (k := k) (by omega)))) (AllSteps.cons (step_plain rfl (acts_call1 (d := 17) (ltN rfl) (spec_HasCell_fn l (gC bs k) (by omega)) (ArgVs.cons (ArgV.regv 12 l.length 1 (isl l)) (ArgVs.cons (ArgV.va (vs := [(.int .i64 ((gC bs k).x) : Value), .int .i64 ((gC bs k).y)]) (OpV.agg 16 [(.int .i64 ((gC bs k).x) : Value), .int .i64 ((gC bs k).y)])) (ArgVs.nil))) ((resval (congrArg Value.bool c3))))) (AllSteps.cons (step_plain rfl (acts_un (d := 18) (ltN rfl) (OpV.tmp 17 (.bool false)) (r_not (c := true) rfl))) (AllSteps.cons (step_plain rfl (acts_move (d := 19) (ltN rfl) (OpX.tmp 18 (V.v (.bool true))))) (AllSteps.cons (step_off (dj := 19) (b' := true) rfl rfl (by decide) rfl (ltN rfl)) (AllSteps.cons (step_off (dj := 19) (b' := true) rfl rfl (by decide) rfl (ltN rfl)) (AllSteps.cons (step_off (dj := 19) (b' := true) rfl rfl (by decide) rfl (ltN rfl)) (AllSteps.cons (step_off (dj := 19) (b' := true) rfl rfl (by decide) rfl (ltN rfl)) (AllSteps.cons (step_off (dj := 19) (b' := true) rfl rfl (by decide) rfl (ltN rfl)) (AllSteps.cons (step_off (dj := 19) (b' := true) rfl rfl (by decide) rfl (ltN rfl)) (AllSteps.cons (step_plain rfl (acts_pick_t (d := 26) (ltN rfl) (OpV.tmp 19 (.bool true)) (OpX.const (.bool true)))) (AllSteps.nil)))))))))))))))) (by kernel_rfl) (by kernel_rfl) (by kernel_rfl) ?_
      refine wp_if_t (t := 26) (by kernel_rfl) ?_
      refine wp_seq' ?_
      refine wp_region_t ?_
      refine wpc (step_plain rfl (acts_assign (d := 4) (ltN rfl) (OpX.const (.bool false)))) (by kernel_rfl) ?_
      refine wpl_nil ?_
      refine wp_ret' ?_
      exact VRes.tmp 4 (.a (.val (.bool false))) _ (by kernel_rfl) (bval (congrArg Value.bool (by exact (blks_no (k := k) (by omega) (by simp_all)).symm)))
  · skip
    have c2P := of_decide_eq_false c2
    refine wp_exit' ?_
    refine wp_seq' ?_
    refine wp_region_t ?_
    refine wpc (step_plain rfl (acts_load_owns (d := 27) (t := 2) (h := 2) (off := 0) (o := ⟨28, 1, true, [(.slv l.length 1 (isl l) : A)]⟩)  (xs := [(.slv l.length 1 (isl l) : A)]) (ltN rfl) qC2_ti_28 rfl (by decide) rfl)) (by kernel_rfl) ?_
    refine wpc (step_plain rfl (acts_call1 (d := 28) (ltN rfl) (spec_RegionOk_fn l (by omega)) (ArgVs.cons (ArgV.regv 27 l.length 1 (isl l)) (ArgVs.nil)) (ResV.val _))) (by kernel_rfl) ?_
    refine wpc (step_plain rfl (acts_assign (d := 4) (ltN rfl) (OpX.tmp 28 (V.v (.bool (regOk l)))))) (by kernel_rfl) ?_
    refine wpl_nil ?_
    refine wp_ret' ?_
    exact VRes.tmp 4 (.a (.val (.bool (regOk l)))) _ (by kernel_rfl) (bval (congrArg Value.bool (by exact blkT_end (by omega) (by assumption))))

set_option maxHeartbeats 4000000 in
set_option maxRecDepth 100000 in
theorem impl_set__around_fn (s : Nat) (bs : List Cel) (hs : s < 18446744073709551616) (hb : bs.length ≤ 2097152) : Fn Try.prog 58 [.a (.val (.int .u64 ((s : Nat) : Int))), .a (.slv bs.length 2 (csl bs))] [.val (.int .u64 (((aroundS s bs) : Nat) : Int))] := by
  refine fn_intro (N := 32) Try.func58 rfl (by kernel_rfl) rfl (Nat.le_of_ble_eq_true rfl) [7, 9, 11, 17, 18, 25, 28] (ret1 rfl) (fun W => ?_)
  show Wp _ _ _ [(.s 0, some (.s (V.v (.int .u64 ((s : Nat) : Int))))), (.s 1, some (.s (V.b (.a (.slv bs.length 2 (csl bs)))))), (.o 7, some .free), (.o 9, some .free), (.o 11, some .free), (.o 17, some .free), (.o 18, some .free), (.o 25, some .free), (.o 28, some .free)]
  refine wp_seq' ?_
  refine wp_region_t ?_
  refine wpc (step_plain rfl (acts_assign (d := 4) (ltN rfl) (OpX.const (.int .u64 0)))) (by kernel_rfl) ?_
  refine wpl_nil ?_
  refine wp_seq' ?_
  refine wp_region_t ?_
  refine wpc (step_plain rfl (acts_assign (d := 5) (ltN rfl) (OpX.const (.int .u64 0)))) (by kernel_rfl) ?_
  refine wpl_nil ?_
  refine wp_seq' ?_
  refine wp_seq' ?_
  refine wp_region_t ?_
  refine wpc (step_plain rfl (acts_move (d := 10) (ltN rfl) (OpX.tmp 1 (V.b (.a (.slv bs.length 2 (csl bs))))))) (by kernel_rfl) ?_
  refine wpc (step_plain rfl (acts_len (d := 11) (X := .slv bs.length 2 (csl bs)) (n := bs.length) (iv := ((bs.length : Nat) : Int)) (ltN rfl) qC2_un_38 (OpX.tmp 10 (V.b (.a (.slv bs.length 2 (csl bs))))) (LenOf.slv _ _ _) rfl)) (by kernel_rfl) ?_
  refine wpc (step_plain rfl (acts_move (d := 12) (ltN rfl) (OpX.const (.int .i64 0)))) (by kernel_rfl) ?_
  refine wpl_nil ?_
  refine wp_block' ?_
  refine wp_loop' (fun (k : Nat) => k ≤ bs.length) (fun (k : Nat) => [(.s 0, some (.s (V.v (.int .u64 ((s : Nat) : Int))))), (.s 4, some (.s (V.v (.int .u64 0)))), (.s 5, some (.s (V.v (.int .u64 ((((bs.take k).foldl (arB s) 0) : Nat) : Int))))), (.s 10, some (.s (V.b (.a (.slv bs.length 2 (csl bs)))))), (.s 11, some (.s (V.v (.int .i64 ((bs.length : Nat) : Int))))), (.s 12, some (.s (V.v (.int .i64 ((k : Nat) : Int))))), (.o 7, some .free), (.o 9, some .free), (.o 11, some .free), (.o 17, some .free), (.o 18, some .free), (.o 25, some .free), (.o 28, some .free)]) (fun (k : Nat) => bs.length - k) ((0 : Nat)) (by exact (Nat.zero_le _ : 0 ≤ _)) (weak_of id [7, 9, 11, 17, 18, 25, 28] (by kernel_rfl) (wk_s (v' := V.v (.int .u64 ((s : Nat) : Int))) (by kernel_rfl) rfl rfl (wk_s (v' := V.v (.int .u64 0)) (by kernel_rfl) rfl rfl (wk_s (v' := V.v (.int .u64 0)) (by kernel_rfl) (vint (by first | rfl | (rw [foldl_snocC _ _ (by omega), arB, ← foldl_endC _ _ (by assumption)]) | omega)) rfl (wk_s (v' := V.b (.a (.slv bs.length 2 (csl bs)))) (by kernel_rfl) rfl rfl (wk_s (v' := V.v (.int .i64 ((bs.length : Nat) : Int))) (by kernel_rfl) rfl rfl (wk_s (v' := V.v (.int .i64 0)) (by kernel_rfl) (vint (by first | rfl | (rw [foldl_snocC _ _ (by omega), arB, ← foldl_endC _ _ (by assumption)]) | omega)) rfl (wk_f rfl (wk_f rfl (wk_f rfl (wk_f rfl (wk_f rfl (wk_f rfl (wk_f rfl (wk_nil))))))))))))))) ?_
  rintro k inv1
  replace inv1 : k ≤ bs.length := inv1
  have inv := inv1
  show Wp _ _ _ [(.s 0, some (.s (V.v (.int .u64 ((s : Nat) : Int))))), (.s 4, some (.s (V.v (.int .u64 0)))), (.s 5, some (.s (V.v (.int .u64 ((((bs.take k).foldl (arB s) 0) : Nat) : Int))))), (.s 10, some (.s (V.b (.a (.slv bs.length 2 (csl bs)))))), (.s 11, some (.s (V.v (.int .i64 ((bs.length : Nat) : Int))))), (.s 12, some (.s (V.v (.int .i64 ((k : Nat) : Int))))), (.o 7, some .free), (.o 9, some .free), (.o 11, some .free), (.o 17, some .free), (.o 18, some .free), (.o 25, some .free), (.o 28, some .free)]
  have hlt := foldl_arB_lt (s := s) (bs.take k) 0 (by decide)
  have hn4 := nbs_len (gC bs k)
  refine wp_seq' ?_
  refine wp_region_t ?_
  refine wpc (step_plain rfl (acts_bin (d := 13) (ltN rfl) (OpV.tmp 12 (.int .i64 ((k : Nat) : Int))) (OpV.tmp 11 (.int .i64 ((bs.length : Nat) : Int))) (r_lss (c := (decide (((k : Nat) : Int) < ((bs.length : Nat) : Int)))) rfl))) (by kernel_rfl) ?_
  refine wpl_nil ?_
  refine wp_seq' ?_
  refine wp_if (t := 13) (decide (((k : Nat) : Int) < ((bs.length : Nat) : Int))) (by kernel_rfl) (fun c2 => ?_) (fun c2 => ?_)
  · skip
    have c2P := of_decide_eq_true c2
    refine wp_skip' ?_
    refine wp_seq' ?_
    refine wp_block' ?_
    refine wp_seq' ?_
    refine wp_region_t ?_
    refine wpc (step_plain rfl (acts_index_v (d := 14) (x := 10) (n := bs.length) (s := 2) (k := k) (xs := csl bs) (ltN rfl) qC2_un_38 qC2_sz_53 (OpV.tmp 12 (.int .i64 ((k : Nat) : Int))) rfl (by first | omega | assumption | (unfold hasS at *; simp_all; done)))) (by kernel_rfl) ?_
    refine wpc (step_plain rfl (acts_load_vs (d := 15) (t := 14) (s := 2) (off := (k * 2)) (xs := csl bs)  (vs := [(.int .i64 ((gC bs k).x) : Value), .int .i64 ((gC bs k).y)]) (ltN rfl) qC2_ti_53 rfl (csl_at (k := k) (by first | omega | assumption | (unfold hasS at *; simp_all; done))))) (by kernel_rfl) ?_
    refine wpc (step_plain rfl (acts_alloc' (d := 7) (h := 7) (cap := 1) (s := 2) (cells := [(.val (.int .i64 0) : A), .val (.int .i64 0)]) (ltN rfl) qC2_zi_53 rfl rfl (by decide))) (by kernel_rfl) ?_
    refine wpc (step_plain rfl (acts_store (t := 7) (h := 7) (off := 0) (o := ⟨53, 2, true, [(.val (.int .i64 0) : A), .val (.int .i64 0)]⟩) (b := .agg ([(.int .i64 ((gC bs k).x) : Value), .int .i64 ((gC bs k).y)].map A.val)) (cells := [(.val (.int .i64 ((gC bs k).x)) : A), .val (.int .i64 ((gC bs k).y))]) qC2_ti_53 (OpX.tmp 15 (V.av [(.int .i64 ((gC bs k).x) : Value), .int .i64 ((gC bs k).y)])) rfl (by decide) (by intro y hy; simp [B.cs] at hy; rcases hy with rfl | rfl <;> rfl) (Nat.le_of_ble_eq_true rfl) rfl)) (by kernel_rfl) ?_
    refine wpl_nil ?_
    refine wp_seq' ?_
    refine wp_region_t ?_
    refine wpc (step_plain rfl (acts_load_owns (d := 16) (t := 7) (h := 7) (off := 0) (o := ⟨53, 2, true, [(.val (.int .i64 ((gC bs k).x)) : A), .val (.int .i64 ((gC bs k).y))]⟩)  (xs := [(.int .i64 ((gC bs k).x) : Value), .int .i64 ((gC bs k).y)].map A.val) (ltN rfl) qC2_ti_53 rfl (by decide) rfl)) (by kernel_rfl) ?_
    refine wpc (step_plain rfl (acts_call1 (d := 17) (ltN rfl) (impl_NeighborsOf_fn (gC bs k) ) (ArgVs.cons (ArgV.va (vs := [(.int .i64 ((gC bs k).x) : Value), .int .i64 ((gC bs k).y)]) (OpV.agg 16 [(.int .i64 ((gC bs k).x) : Value), .int .i64 ((gC bs k).y)])) (ArgVs.nil)) (ResV.row 53 2 ((nbs (gC bs k)).length) (csl (nbs (gC bs k))) 17))) (by kernel_rfl) ?_
    refine wpc (step_plain rfl (acts_len (d := 18) (X := .sl 17 0 ((nbs (gC bs k)).length)) (n := ((nbs (gC bs k)).length)) (iv := (((nbs (gC bs k)).length : Nat) : Int)) (ltN rfl) qC2_un_38 (OpX.tmp 17 (V.b (.a (.sl 17 0 ((nbs (gC bs k)).length))))) (LenOf.sl _ _ _) rfl)) (by kernel_rfl) ?_
    refine wpc (step_plain rfl (acts_move (d := 19) (ltN rfl) (OpX.const (.int .i64 0)))) (by kernel_rfl) ?_
    refine wpl_nil ?_
    refine wp_block' ?_
    refine wp_loop' (fun (j : Nat) => j ≤ (nbs (gC bs k)).length) (fun (j : Nat) => [(.s 0, some (.s (V.v (.int .u64 ((s : Nat) : Int))))), (.s 4, some (.s (V.v (.int .u64 0)))), (.s 5, some (.s (V.v (.int .u64 (((((nbs (gC bs k)).take j).foldl (addIf s) ((bs.take k).foldl (arB s) 0)) : Nat) : Int))))), (.s 7, some (.s (V.p 7 0))), (.s 10, some (.s (V.b (.a (.slv bs.length 2 (csl bs)))))), (.s 11, some (.s (V.v (.int .i64 ((bs.length : Nat) : Int))))), (.s 12, some (.s (V.v (.int .i64 ((k : Nat) : Int))))), (.s 13, some (.s (V.v (.bool (decide (((k : Nat) : Int) < ((bs.length : Nat) : Int))))))), (.s 14, some (.s (V.b (.a (.ptrv 2 (csl bs) (k * 2)))))), (.s 15, some (.s (V.av [(.int .i64 ((gC bs k).x) : Value), .int .i64 ((gC bs k).y)]))), (.s 16, some (.s (V.av [(.int .i64 ((gC bs k).x) : Value), .int .i64 ((gC bs k).y)]))), (.s 17, some (.s (V.b (.a (.sl 17 0 ((nbs (gC bs k)).length)))))), (.s 18, some (.s (V.v (.int .i64 (((nbs (gC bs k)).length : Nat) : Int))))), (.s 19, some (.s (V.v (.int .i64 ((j : Nat) : Int))))), (.o 7, some (.o ⟨53, 2, true, [(.val (.int .i64 ((gC bs k).x)) : A), .val (.int .i64 ((gC bs k).y))]⟩)), (.o 17, some (.o ⟨53, 2, true, pl (csl (nbs (gC bs k)))⟩)), (.o 9, some .free), (.o 11, some .free), (.o 18, some .free), (.o 25, some .free), (.o 28, some .free)]) (fun (j : Nat) => (nbs (gC bs k)).length - j) ((0 : Nat)) (by exact (Nat.zero_le _ : 0 ≤ _)) (weak_of id [9, 11, 18, 25, 28] (by kernel_rfl) (wk_s (v' := V.v (.int .u64 ((s : Nat) : Int))) (by kernel_rfl) rfl rfl (wk_s (v' := V.v (.int .u64 0)) (by kernel_rfl) rfl rfl (wk_s (v' := V.v (.int .u64 ((((bs.take k).foldl (arB s) 0) : Nat) : Int))) (by kernel_rfl) (vint (by first | rfl | (rw [foldl_snocC _ _ (by omega)]; unfold addIf; rw [if_pos (by assumption)]) | (rw [foldl_snocC _ _ (by omega)]; unfold addIf; rw [if_neg (by simp_all)]) | omega)) rfl (wk_s (v' := V.p 7 0) (by kernel_rfl) rfl rfl (wk_s (v' := V.b (.a (.slv bs.length 2 (csl bs)))) (by kernel_rfl) rfl rfl (wk_s (v' := V.v (.int .i64 ((bs.length : Nat) : Int))) (by kernel_rfl) rfl rfl (wk_s (v' := V.v (.int .i64 ((k : Nat) : Int))) (by kernel_rfl) rfl rfl (wk_s (v' := V.v (.bool (decide (((k : Nat) : Int) < ((bs.length : Nat) : Int))))) (by kernel_rfl) rfl rfl (wk_s (v' := V.b (.a (.ptrv 2 (csl bs) (k * 2)))) (by kernel_rfl) rfl rfl (wk_s (v' := V.av [(.int .i64 ((gC bs k).x) : Value), .int .i64 ((gC bs k).y)]) (by kernel_rfl) rfl rfl (wk_s (v' := V.av [(.int .i64 ((gC bs k).x) : Value), .int .i64 ((gC bs k).y)]) (by kernel_rfl) rfl rfl (wk_s (v' := V.b (.a (.sl 17 0 ((nbs (gC bs k)).length)))) (by kernel_rfl) rfl rfl (wk_s (v' := V.v (.int .i64 (((nbs (gC bs k)).length : Nat) : Int))) (by kernel_rfl) rfl rfl (wk_s (v' := V.v (.int .i64 0)) (by kernel_rfl) (vint (by first | rfl | (rw [foldl_snocC _ _ (by omega)]; unfold addIf; rw [if_pos (by assumption)]) | (rw [foldl_snocC _ _ (by omega)]; unfold addIf; rw [if_neg (by simp_all)]) | omega)) rfl (wk_o (o' := ⟨53, 2, true, [(.val (.int .i64 ((gC bs k).x)) : A), .val (.int .i64 ((gC bs k).y))]⟩) (by kernel_rfl) (renob_l (fun h => h) rfl rfl) rfl (wk_o (o' := ⟨53, 2, true, pl (csl (nbs (gC bs k)))⟩) (by kernel_rfl) (renob_pl (fun h => h)) rfl (wk_f rfl (wk_f rfl (wk_f rfl (wk_f rfl (wk_f rfl (wk_nil))))))))))))))))))))))) ?_
    rintro j inv3
    replace inv3 : j ≤ (nbs (gC bs k)).length := inv3
    have invj := inv3
    show Wp _ _ _ [(.s 0, some (.s (V.v (.int .u64 ((s : Nat) : Int))))), (.s 4, some (.s (V.v (.int .u64 0)))), (.s 5, some (.s (V.v (.int .u64 (((((nbs (gC bs k)).take j).foldl (addIf s) ((bs.take k).foldl (arB s) 0)) : Nat) : Int))))), (.s 7, some (.s (V.p 7 0))), (.s 10, some (.s (V.b (.a (.slv bs.length 2 (csl bs)))))), (.s 11, some (.s (V.v (.int .i64 ((bs.length : Nat) : Int))))), (.s 12, some (.s (V.v (.int .i64 ((k : Nat) : Int))))), (.s 13, some (.s (V.v (.bool (decide (((k : Nat) : Int) < ((bs.length : Nat) : Int))))))), (.s 14, some (.s (V.b (.a (.ptrv 2 (csl bs) (k * 2)))))), (.s 15, some (.s (V.av [(.int .i64 ((gC bs k).x) : Value), .int .i64 ((gC bs k).y)]))), (.s 16, some (.s (V.av [(.int .i64 ((gC bs k).x) : Value), .int .i64 ((gC bs k).y)]))), (.s 17, some (.s (V.b (.a (.sl 17 0 ((nbs (gC bs k)).length)))))), (.s 18, some (.s (V.v (.int .i64 (((nbs (gC bs k)).length : Nat) : Int))))), (.s 19, some (.s (V.v (.int .i64 ((j : Nat) : Int))))), (.o 7, some (.o ⟨53, 2, true, [(.val (.int .i64 ((gC bs k).x)) : A), .val (.int .i64 ((gC bs k).y))]⟩)), (.o 17, some (.o ⟨53, 2, true, pl (csl (nbs (gC bs k)))⟩)), (.o 9, some .free), (.o 11, some .free), (.o 18, some .free), (.o 25, some .free), (.o 28, some .free)]
    have hlt2 := foldl_addIf_lt (s := s) ((nbs (gC bs k)).take j) _ hlt
    refine wp_seq' ?_
    refine wp_region_t ?_
    refine wpc (step_plain rfl (acts_bin (d := 20) (ltN rfl) (OpV.tmp 19 (.int .i64 ((j : Nat) : Int))) (OpV.tmp 18 (.int .i64 (((nbs (gC bs k)).length : Nat) : Int))) (r_lss (c := (decide (((j : Nat) : Int) < (((nbs (gC bs k)).length : Nat) : Int)))) rfl))) (by kernel_rfl) ?_
    refine wpl_nil ?_
    refine wp_seq' ?_
    refine wp_if (t := 20) (decide (((j : Nat) : Int) < (((nbs (gC bs k)).length : Nat) : Int))) (by kernel_rfl) (fun c4 => ?_) (fun c4 => ?_)
    · skip
      have c4P := of_decide_eq_true c4
      refine wp_skip' ?_
      refine wp_seq' ?_
      refine wp_block' ?_
      refine wp_seq' ?_
      refine wp_region_t ?_
      refine wpc (step_plain rfl (acts_index_sl (d := 21) (x := 17) (h := 17) (off := 0) (n := ((nbs (gC bs k)).length)) (k := j) (off' := (j * 2)) (o := ⟨53, 2, true, pl (csl (nbs (gC bs k)))⟩) (ltN rfl) qC2_un_38 qC2_sz_53 (OpV.tmp 19 (.int .i64 ((j : Nat) : Int))) rfl (by first | omega | assumption | (unfold hasS at *; simp_all; done)) (by first | (simp; done) | (simp; omega) | omega))) (by kernel_rfl) ?_
      refine wpc (step_plain rfl (acts_load_owns (d := 22) (t := 21) (h := 17) (off := (j * 2)) (o := ⟨53, 2, true, pl (csl (nbs (gC bs k)))⟩)  (xs := [(.int .i64 ((gC (nbs (gC bs k)) j).x) : Value), .int .i64 ((gC (nbs (gC bs k)) j).y)].map A.val) (ltN rfl) qC2_ti_53 rfl (by decide) (pl_at (csl_at (k := j) (by first | omega | assumption | (unfold hasS at *; simp_all; done)))))) (by kernel_rfl) ?_
      refine wpc (step_plain rfl (acts_alloc' (d := 9) (h := 9) (cap := 1) (s := 2) (cells := [(.val (.int .i64 0) : A), .val (.int .i64 0)]) (ltN rfl) qC2_zi_53 rfl rfl (by decide))) (by kernel_rfl) ?_
      refine wpc (step_plain rfl (acts_store (t := 9) (h := 9) (off := 0) (o := ⟨53, 2, true, [(.val (.int .i64 0) : A), .val (.int .i64 0)]⟩) (b := .agg ([(.int .i64 ((gC (nbs (gC bs k)) j).x) : Value), .int .i64 ((gC (nbs (gC bs k)) j).y)].map A.val)) (cells := [(.val (.int .i64 ((gC (nbs (gC bs k)) j).x)) : A), .val (.int .i64 ((gC (nbs (gC bs k)) j).y))]) qC2_ti_53 (OpX.tmp 22 (V.av [(.int .i64 ((gC (nbs (gC bs k)) j).x) : Value), .int .i64 ((gC (nbs (gC bs k)) j).y)])) rfl (by decide) (by intro y hy; simp [B.cs] at hy; rcases hy with rfl | rfl <;> rfl) (Nat.le_of_ble_eq_true rfl) rfl)) (by kernel_rfl) ?_
      refine wpl_nil ?_
      refine wp_seq' ?_
      refine wp_region_t ?_
      refine wpc (step_plain rfl (acts_move (d := 23) (ltN rfl) (OpX.tmp 0 (V.v (.int .u64 ((s : Nat) : Int)))))) (by kernel_rfl) ?_
      refine wpc (step_plain rfl (acts_load_owns (d := 24) (t := 9) (h := 9) (off := 0) (o := ⟨53, 2, true, [(.val (.int .i64 ((gC (nbs (gC bs k)) j).x)) : A), .val (.int .i64 ((gC (nbs (gC bs k)) j).y))]⟩)  (xs := [(.int .i64 ((gC (nbs (gC bs k)) j).x) : Value), .int .i64 ((gC (nbs (gC bs k)) j).y)].map A.val) (ltN rfl) qC2_ti_53 rfl (by decide) rfl)) (by kernel_rfl) ?_
      refine wpc (step_plain rfl (acts_call1 (d := 25) (ltN rfl) (impl_set__has_fn s (gC (nbs (gC bs k)) j) (by first | omega | assumption | (unfold hasS at *; simp_all; done))) (ArgVs.cons (ArgV.v (OpV.tmp 23 (.int .u64 ((s : Nat) : Int)))) (ArgVs.cons (ArgV.va (vs := [(.int .i64 ((gC (nbs (gC bs k)) j).x) : Value), .int .i64 ((gC (nbs (gC bs k)) j).y)]) (OpV.agg 24 [(.int .i64 ((gC (nbs (gC bs k)) j).x) : Value), .int .i64 ((gC (nbs (gC bs k)) j).y)])) (ArgVs.nil))) (ResV.val _))) (by kernel_rfl) ?_
      refine wpl_nil ?_
      refine wp_if (t := 25) ((hasS s (gC (nbs (gC bs k)) j))) (by kernel_rfl) (fun c5 => ?_) (fun c5 => ?_)
      · skip
        refine wp_region_t ?_
        refine wpc (step_plain rfl (acts_move (d := 26) (ltN rfl) (OpX.tmp 5 (V.v (.int .u64 (((((nbs (gC bs k)).take j).foldl (addIf s) ((bs.take k).foldl (arB s) 0)) : Nat) : Int)))))) (by kernel_rfl) ?_
        refine wpc (step_plain rfl (acts_load_owns (d := 27) (t := 9) (h := 9) (off := 0) (o := ⟨53, 2, true, [(.val (.int .i64 ((gC (nbs (gC bs k)) j).x)) : A), .val (.int .i64 ((gC (nbs (gC bs k)) j).y))]⟩)  (xs := [(.int .i64 ((gC (nbs (gC bs k)) j).x) : Value), .int .i64 ((gC (nbs (gC bs k)) j).y)].map A.val) (ltN rfl) qC2_ti_53 rfl (by decide) rfl)) (by kernel_rfl) ?_
        refine wpc (step_plain rfl (acts_call1 (d := 28) (ltN rfl) (impl_set__with_fn (((nbs (gC bs k)).take j).foldl (addIf s) ((bs.take k).foldl (arB s) 0)) (gC (nbs (gC bs k)) j) (by first | omega | assumption | (unfold hasS at *; simp_all; done)) (by first | omega | assumption | (unfold hasS at *; simp_all; done))) (ArgVs.cons (ArgV.v (OpV.tmp 26 (.int .u64 (((((nbs (gC bs k)).take j).foldl (addIf s) ((bs.take k).foldl (arB s) 0)) : Nat) : Int)))) (ArgVs.cons (ArgV.va (vs := [(.int .i64 ((gC (nbs (gC bs k)) j).x) : Value), .int .i64 ((gC (nbs (gC bs k)) j).y)]) (OpV.agg 27 [(.int .i64 ((gC (nbs (gC bs k)) j).x) : Value), .int .i64 ((gC (nbs (gC bs k)) j).y)])) (ArgVs.nil))) (ResV.val _))) (by kernel_rfl) ?_
        refine wpc (step_plain rfl (acts_assign (d := 5) (ltN rfl) (OpX.tmp 28 (V.v (.int .u64 (((addC (((nbs (gC bs k)).take j).foldl (addIf s) ((bs.take k).foldl (arB s) 0)) (gC (nbs (gC bs k)) j)) : Nat) : Int)))))) (by kernel_rfl) ?_
        refine wpl_nil ?_
        refine wp_region_t ?_
        refine wpc (step_plain rfl (acts_bin (d := 29) (ltN rfl) (OpV.tmp 19 (.int .i64 ((j : Nat) : Int))) (OpV.const (.int .i64 1)) (r_add (c := (((j : Nat) : Int) + 1)) (w64 (by first | omega | assumption | (unfold hasS at *; simp_all; done)) (by first | omega | assumption | (unfold hasS at *; simp_all; done)))))) (by kernel_rfl) ?_
        refine wpc (step_plain rfl (acts_move (d := 19) (ltN rfl) (OpX.tmp 29 (V.v (.int .i64 (((j : Nat) : Int) + 1)))))) (by kernel_rfl) ?_
        refine wpl_nil ?_
        exact loop_back ((j + 1)) (by show _ ≤ _; omega) (by show (nbs (gC bs k)).length - (j + 1) < (nbs (gC bs k)).length - j; omega) (weak_of id [9, 11, 18, 25, 28] (by kernel_rfl) (wk_s (v' := V.v (.int .u64 ((s : Nat) : Int))) (by kernel_rfl) rfl rfl (wk_s (v' := V.v (.int .u64 0)) (by kernel_rfl) rfl rfl (wk_s (v' := V.v (.int .u64 (((addC (((nbs (gC bs k)).take j).foldl (addIf s) ((bs.take k).foldl (arB s) 0)) (gC (nbs (gC bs k)) j)) : Nat) : Int))) (by kernel_rfl) (vint (by first | rfl | (rw [foldl_snocC _ _ (by omega)]; unfold addIf; rw [if_pos (by assumption)]) | (rw [foldl_snocC _ _ (by omega)]; unfold addIf; rw [if_neg (by simp_all)]) | omega)) rfl (wk_s (v' := V.p 7 0) (by kernel_rfl) rfl rfl (wk_s (v' := V.b (.a (.slv bs.length 2 (csl bs)))) (by kernel_rfl) rfl rfl (wk_s (v' := V.v (.int .i64 ((bs.length : Nat) : Int))) (by kernel_rfl) rfl rfl (wk_s (v' := V.v (.int .i64 ((k : Nat) : Int))) (by kernel_rfl) rfl rfl (wk_s (v' := V.v (.bool (decide (((k : Nat) : Int) < ((bs.length : Nat) : Int))))) (by kernel_rfl) rfl rfl (wk_s (v' := V.b (.a (.ptrv 2 (csl bs) (k * 2)))) (by kernel_rfl) rfl rfl (wk_s (v' := V.av [(.int .i64 ((gC bs k).x) : Value), .int .i64 ((gC bs k).y)]) (by kernel_rfl) rfl rfl (wk_s (v' := V.av [(.int .i64 ((gC bs k).x) : Value), .int .i64 ((gC bs k).y)]) (by kernel_rfl) rfl rfl (wk_s (v' := V.b (.a (.sl 17 0 ((nbs (gC bs k)).length)))) (by kernel_rfl) rfl rfl (wk_s (v' := V.v (.int .i64 (((nbs (gC bs k)).length : Nat) : Int))) (by kernel_rfl) rfl rfl (wk_s (v' := V.v (.int .i64 (((j : Nat) : Int) + 1))) (by kernel_rfl) (vint (by first | rfl | (rw [foldl_snocC _ _ (by omega)]; unfold addIf; rw [if_pos (by assumption)]) | (rw [foldl_snocC _ _ (by omega)]; unfold addIf; rw [if_neg (by simp_all)]) | omega)) rfl (wk_o (o' := ⟨53, 2, true, [(.val (.int .i64 ((gC bs k).x)) : A), .val (.int .i64 ((gC bs k).y))]⟩) (by kernel_rfl) (renob_l (fun h => h) rfl rfl) rfl (wk_o (o' := ⟨53, 2, true, pl (csl (nbs (gC bs k)))⟩) (by kernel_rfl) (renob_pl (fun h => h)) rfl (wk_f rfl (wk_f rfl (wk_f rfl (wk_f rfl (wk_f rfl (wk_nil)))))))))))))))))))))))
      · skip
        refine wp_skip' ?_
        refine wp_region_t ?_
        refine wpc (step_plain rfl (acts_bin (d := 29) (ltN rfl) (OpV.tmp 19 (.int .i64 ((j : Nat) : Int))) (OpV.const (.int .i64 1)) (r_add (c := (((j : Nat) : Int) + 1)) (w64 (by first | omega | assumption | (unfold hasS at *; simp_all; done)) (by first | omega | assumption | (unfold hasS at *; simp_all; done)))))) (by kernel_rfl) ?_
        refine wpc (step_plain rfl (acts_move (d := 19) (ltN rfl) (OpX.tmp 29 (V.v (.int .i64 (((j : Nat) : Int) + 1)))))) (by kernel_rfl) ?_
        refine wpl_nil ?_
        exact loop_back ((j + 1)) (by show _ ≤ _; omega) (by show (nbs (gC bs k)).length - (j + 1) < (nbs (gC bs k)).length - j; omega) (weak_of id [9, 11, 18, 25, 28] (by kernel_rfl) (wk_s (v' := V.v (.int .u64 ((s : Nat) : Int))) (by kernel_rfl) rfl rfl (wk_s (v' := V.v (.int .u64 0)) (by kernel_rfl) rfl rfl (wk_s (v' := V.v (.int .u64 (((((nbs (gC bs k)).take j).foldl (addIf s) ((bs.take k).foldl (arB s) 0)) : Nat) : Int))) (by kernel_rfl) (vint (by first | rfl | (rw [foldl_snocC _ _ (by omega)]; unfold addIf; rw [if_pos (by assumption)]) | (rw [foldl_snocC _ _ (by omega)]; unfold addIf; rw [if_neg (by simp_all)]) | omega)) rfl (wk_s (v' := V.p 7 0) (by kernel_rfl) rfl rfl (wk_s (v' := V.b (.a (.slv bs.length 2 (csl bs)))) (by kernel_rfl) rfl rfl (wk_s (v' := V.v (.int .i64 ((bs.length : Nat) : Int))) (by kernel_rfl) rfl rfl (wk_s (v' := V.v (.int .i64 ((k : Nat) : Int))) (by kernel_rfl) rfl rfl (wk_s (v' := V.v (.bool (decide (((k : Nat) : Int) < ((bs.length : Nat) : Int))))) (by kernel_rfl) rfl rfl (wk_s (v' := V.b (.a (.ptrv 2 (csl bs) (k * 2)))) (by kernel_rfl) rfl rfl (wk_s (v' := V.av [(.int .i64 ((gC bs k).x) : Value), .int .i64 ((gC bs k).y)]) (by kernel_rfl) rfl rfl (wk_s (v' := V.av [(.int .i64 ((gC bs k).x) : Value), .int .i64 ((gC bs k).y)]) (by kernel_rfl) rfl rfl (wk_s (v' := V.b (.a (.sl 17 0 ((nbs (gC bs k)).length)))) (by kernel_rfl) rfl rfl (wk_s (v' := V.v (.int .i64 (((nbs (gC bs k)).length : Nat) : Int))) (by kernel_rfl) rfl rfl (wk_s (v' := V.v (.int .i64 (((j : Nat) : Int) + 1))) (by kernel_rfl) (vint (by first | rfl | (rw [foldl_snocC _ _ (by omega)]; unfold addIf; rw [if_pos (by assumption)]) | (rw [foldl_snocC _ _ (by omega)]; unfold addIf; rw [if_neg (by simp_all)]) | omega)) rfl (wk_o (o' := ⟨53, 2, true, [(.val (.int .i64 ((gC bs k).x)) : A), .val (.int .i64 ((gC bs k).y))]⟩) (by kernel_rfl) (renob_l (fun h => h) rfl rfl) rfl (wk_o (o' := ⟨53, 2, true, pl (csl (nbs (gC bs k)))⟩) (by kernel_rfl) (renob_pl (fun h => h)) rfl (wk_f rfl (wk_f rfl (wk_f rfl (wk_f rfl (wk_f rfl (wk_nil)))))))))))))))))))))))
    · skip
      have c4P := of_decide_eq_false c4
      refine wp_exit' ?_
      refine wp_region_t ?_
      refine wpc (step_plain rfl (acts_bin (d := 30) (ltN rfl) (OpV.tmp 12 (.int .i64 ((k : Nat) : Int))) (OpV.const (.int .i64 1)) (r_add (c := (((k : Nat) : Int) + 1)) (w64 (by first | omega | assumption | (unfold hasS at *; simp_all; done)) (by first | omega | assumption | (unfold hasS at *; simp_all; done)))))) (by kernel_rfl) ?_
      refine wpc (step_plain rfl (acts_move (d := 12) (ltN rfl) (OpX.tmp 30 (V.v (.int .i64 (((k : Nat) : Int) + 1)))))) (by kernel_rfl) ?_
      refine wpl_nil ?_
      exact loop_back ((k + 1)) (by show _ ≤ _; omega) (by show bs.length - (k + 1) < bs.length - k; omega) (weak_of id [7, 9, 11, 17, 18, 25, 28] (by kernel_rfl) (wk_s (v' := V.v (.int .u64 ((s : Nat) : Int))) (by kernel_rfl) rfl rfl (wk_s (v' := V.v (.int .u64 0)) (by kernel_rfl) rfl rfl (wk_s (v' := V.v (.int .u64 (((((nbs (gC bs k)).take j).foldl (addIf s) ((bs.take k).foldl (arB s) 0)) : Nat) : Int))) (by kernel_rfl) (vint (by first | rfl | (rw [foldl_snocC _ _ (by omega), arB, ← foldl_endC _ _ (by assumption)]) | omega)) rfl (wk_s (v' := V.b (.a (.slv bs.length 2 (csl bs)))) (by kernel_rfl) rfl rfl (wk_s (v' := V.v (.int .i64 ((bs.length : Nat) : Int))) (by kernel_rfl) rfl rfl (wk_s (v' := V.v (.int .i64 (((k : Nat) : Int) + 1))) (by kernel_rfl) (vint (by first | rfl | (rw [foldl_snocC _ _ (by omega), arB, ← foldl_endC _ _ (by assumption)]) | omega)) rfl (wk_f rfl (wk_f rfl (wk_f rfl (wk_f rfl (wk_f rfl (wk_f rfl (wk_f rfl (wk_nil)))))))))))))))
  · skip
    have c2P := of_decide_eq_false c2
    refine wp_exit' ?_
    refine wp_seq' ?_
    refine wp_region_t ?_
    refine wpc (step_plain rfl (acts_move (d := 31) (ltN rfl) (OpX.tmp 5 (V.v (.int .u64 ((((bs.take k).foldl (arB s) 0) : Nat) : Int)))))) (by kernel_rfl) ?_
    refine wpc (step_plain rfl (acts_assign (d := 4) (ltN rfl) (OpX.tmp 31 (V.v (.int .u64 ((((bs.take k).foldl (arB s) 0) : Nat) : Int)))))) (by kernel_rfl) ?_
    refine wpl_nil ?_
    refine wp_ret' ?_
    exact VRes.tmp 4 (.a (.val (.int .u64 ((((bs.take k).foldl (arB s) 0) : Nat) : Int)))) _ (by kernel_rfl) (bval (congrArg (Value.int .u64) (by rw [foldl_endC _ _ (by assumption)]; rfl)))

set_option maxHeartbeats 4000000 in
set_option maxRecDepth 100000 in
theorem impl_WhiteAround_fn (l : List Int) (bs : List Cel) (hl : l.length ≤ 4194304) (hb : bs.length ≤ 2097152) : Fn Try.prog 25 [.agg [(.slv l.length 1 (isl l) : A)], .a (.slv bs.length 2 (csl bs))] [.row 53 2 (wa l bs).length (csl (wa l bs))] := by
  refine fn_intro (N := 14) Try.func25 rfl (by kernel_rfl) rfl (Nat.le_of_ble_eq_true rfl) [2, 7, 10, 12, 13] (ret1 rfl) (fun W => ?_)
  show Wp _ _ _ [(.s 0, some (.s (V.b (.agg [(.slv l.length 1 (isl l) : A)])))), (.s 1, some (.s (V.b (.a (.slv bs.length 2 (csl bs)))))), (.o 2, some .free), (.o 7, some .free), (.o 10, some .free), (.o 12, some .free), (.o 13, some .free)]
  refine wp_seq' ?_
  refine wp_region_t ?_
  refine wpc (step_plain rfl (acts_box (d := 2) (h := 2) (b := .agg [(.slv l.length 1 (isl l) : A)]) (ltN rfl) (OpX.tmp 0 (V.b (.agg [(.slv l.length 1 (isl l) : A)]))) (by intro y hy; simp [B.cs] at hy; subst hy; rfl))) (by kernel_rfl) ?_
  refine wpc (step_plain rfl (acts_assign (d := 4) (ltN rfl) (OpX.const (.slice none 0 0)))) (by kernel_rfl) ?_
  refine wpl_nil ?_
  refine wp_seq' ?_
  refine wp_seq' ?_
  refine wp_region_t ?_
  refine wpc (step_plain rfl (acts_load_owns (d := 5) (t := 2) (h := 2) (off := 0) (o := ⟨28, 1, true, [(.slv l.length 1 (isl l) : A)]⟩)  (xs := [(.slv l.length 1 (isl l) : A)]) (ltN rfl) qC2_ti_28 rfl (by decide) rfl)) (by kernel_rfl) ?_
  refine wpc (step_plain rfl (acts_move (d := 6) (ltN rfl) (OpX.tmp 1 (V.b (.a (.slv bs.length 2 (csl bs))))))) (by kernel_rfl) ?_
  refine wpc (step_plain rfl (acts_call1 (d := 7) (ltN rfl) (impl_areBlacks_fn l bs (by first | omega | assumption | exact (blks_ok (by assumption)).1 | exact regSet_lt (blks_ok (by assumption)).1 | exact aroundS_lt _ _) (by first | omega | assumption | exact (blks_ok (by assumption)).1 | exact regSet_lt (blks_ok (by assumption)).1 | exact aroundS_lt _ _)) (ArgVs.cons (ArgV.regv 5 l.length 1 (isl l)) (ArgVs.cons (ArgV.slv 6 bs.length 2 (csl bs)) (ArgVs.nil))) (ResV.val _))) (by kernel_rfl) ?_
  refine wpc (step_plain rfl (acts_un (d := 8) (ltN rfl) (OpV.tmp 7 (.bool (blks l bs))) (r_not (c := (!(blks l bs))) rfl))) (by kernel_rfl) ?_
  refine wpl_nil ?_
  refine wp_if (t := 8) ((!(blks l bs))) (by kernel_rfl) (fun c1 => ?_) (fun c1 => ?_)
  · skip
    have c2 : (blks l bs) = false := by simpa using c1
    refine wp_seq' ?_
    refine wp_region_t ?_
    refine wpc (step_plain rfl (acts_assign (d := 4) (ltN rfl) (OpX.const (.slice none 0 0)))) (by kernel_rfl) ?_
    refine wpl_nil ?_
    refine wp_ret' ?_
    exact VRes.tmp 4 (.a (.val (.slice none 0 0))) _ (by kernel_rfl) (bnil_cels (L := (wa l bs)) (by unfold wa; simp_all))
  · skip
    have c3 : (blks l bs) = true := by simpa using c1
    refine wp_skip' ?_
    refine wp_seq' ?_
    refine wp_region_t ?_
    refine wpc (step_plain rfl (acts_load_owns (d := 9) (t := 2) (h := 2) (off := 0) (o := ⟨28, 1, true, [(.slv l.length 1 (isl l) : A)]⟩)  (xs := [(.slv l.length 1 (isl l) : A)]) (ltN rfl) qC2_ti_28 rfl (by decide) rfl)) (by kernel_rfl) ?_
    refine wpc (step_plain rfl (acts_call1 (d := 10) (ltN rfl) (impl_Region__set_fn l (by first | omega | assumption | exact (blks_ok (by assumption)).1 | exact regSet_lt (blks_ok (by assumption)).1 | exact aroundS_lt _ _)) (ArgVs.cons (ArgV.regv 9 l.length 1 (isl l)) (ArgVs.nil)) (ResV.val _))) (by kernel_rfl) ?_
    refine wpc (step_plain rfl (acts_move (d := 11) (ltN rfl) (OpX.tmp 1 (V.b (.a (.slv bs.length 2 (csl bs))))))) (by kernel_rfl) ?_
    refine wpc (step_plain rfl (acts_call1 (d := 12) (ltN rfl) (impl_set__around_fn (regSet l) bs (by first | omega | assumption | exact (blks_ok (by assumption)).1 | exact regSet_lt (blks_ok (by assumption)).1 | exact aroundS_lt _ _) (by first | omega | assumption | exact (blks_ok (by assumption)).1 | exact regSet_lt (blks_ok (by assumption)).1 | exact aroundS_lt _ _)) (ArgVs.cons (ArgV.v (OpV.tmp 10 (.int .u64 (((regSet l) : Nat) : Int)))) (ArgVs.cons (ArgV.slv 11 bs.length 2 (csl bs)) (ArgVs.nil))) (ResV.val _))) (by kernel_rfl) ?_
    refine wpc (step_plain rfl (acts_call1 (d := 13) (ltN rfl) (impl_set__cells_fn (aroundS (regSet l) bs) (by first | omega | assumption | exact (blks_ok (by assumption)).1 | exact regSet_lt (blks_ok (by assumption)).1 | exact aroundS_lt _ _)) (ArgVs.cons (ArgV.v (OpV.tmp 12 (.int .u64 (((aroundS (regSet l) bs) : Nat) : Int)))) (ArgVs.nil)) (ResV.row 53 2 ((setCells (aroundS (regSet l) bs)).length) (csl (setCells (aroundS (regSet l) bs))) 13))) (by kernel_rfl) ?_
    refine wpc (step_plain rfl (acts_assign (d := 4) (ltN rfl) (OpX.tmp 13 (V.b (.a (.sl 13 0 ((setCells (aroundS (regSet l) bs)).length))))))) (by kernel_rfl) ?_
    refine wpl_nil ?_
    refine wp_ret' ?_
    exact VRes.tmp 4 (.a (.sl 13 0 ((setCells (aroundS (regSet l) bs)).length))) _ (by kernel_rfl) (brow_cels (h := 13) (L := (setCells (aroundS (regSet l) bs))) (by kernel_rfl) (by exact wa_around (by assumption)) (by first | rfl | (simp; done) | (simp; omega)))

set_option maxHeartbeats 4000000 in
set_option maxRecDepth 100000 in
theorem spec_l10Has_fn (l : List Cel) (c : Cel) (hl : l.length ≤ 4194304) : Fn Try.prog 61 [.a (.slv l.length 2 (csl l)), .agg ([(.int .i64 c.x : Value), .int .i64 c.y].map A.val)] [.val (.bool (hasCel l c))] := by
  refine fn_intro (N := 18) Try.func61 rfl (by kernel_rfl) rfl (Nat.le_of_ble_eq_true rfl) [3, 8] (ret1 rfl) (fun W => ?_)
  show Wp _ _ _ [(.s 0, some (.s (V.b (.a (.slv l.length 2 (csl l)))))), (.s 1, some (.s (V.av [(.int .i64 c.x : Value), .int .i64 c.y]))), (.o 3, some .free), (.o 8, some .free)]
  refine wp_seq' ?_
  refine wp_region_t ?_
  refine wpc (step_plain rfl (acts_box (d := 3) (h := 3) (b := .agg ([(.int .i64 c.x : Value), .int .i64 c.y].map A.val)) (ltN rfl) (OpX.tmp 1 (V.av [(.int .i64 c.x : Value), .int .i64 c.y])) (by intro y hy; simp [B.cs] at hy; rcases hy with rfl | rfl <;> rfl))) (by kernel_rfl) ?_
  refine wpc (step_plain rfl (acts_assign (d := 4) (ltN rfl) (OpX.const (.bool false)))) (by kernel_rfl) ?_
  refine wpl_nil ?_
  refine wp_seq' ?_
  refine wp_seq' ?_
  refine wp_region_t ?_
  refine wpc (step_plain rfl (acts_assign (d := 5) (ltN rfl) (OpX.const (.int .i64 0)))) (by kernel_rfl) ?_
  refine wpl_nil ?_
  refine wp_block' ?_
  refine wp_loop' (fun (k : Nat) => k ≤ l.length ∧ hasCel (l.take k) c = false) (fun (k : Nat) => [(.s 0, some (.s (V.b (.a (.slv l.length 2 (csl l)))))), (.s 3, some (.s (V.p 3 0))), (.s 5, some (.s (V.v (.int .i64 ((k : Nat) : Int))))), (.o 3, some (.o ⟨53, 2, true, [(.val (.int .i64 c.x) : A), .val (.int .i64 c.y)]⟩)), (.o 8, some .free)]) (fun (k : Nat) => l.length - k) ((0 : Nat)) (by exact ⟨Nat.zero_le _, by simp [hasCel]⟩) (weak_of id [8] (by kernel_rfl) (wk_s (v' := V.b (.a (.slv l.length 2 (csl l)))) (by kernel_rfl) rfl rfl (wk_s (v' := V.p 3 0) (by kernel_rfl) rfl rfl (wk_s (v' := V.v (.int .i64 0)) (by kernel_rfl) (vint (by first | rfl | omega | (simp; done) | (simp; omega))) rfl (wk_o (o' := ⟨53, 2, true, [(.val (.int .i64 c.x) : A), .val (.int .i64 c.y)]⟩) (by kernel_rfl) (renob_l (fun h => h) rfl rfl) rfl (wk_f rfl (wk_nil))))))) ?_
  rintro k inv1
  replace inv1 : k ≤ l.length ∧ hasCel (l.take k) c = false := inv1
  obtain ⟨inv1_0, inv1_1⟩ := inv1
  show Wp _ _ _ [(.s 0, some (.s (V.b (.a (.slv l.length 2 (csl l)))))), (.s 3, some (.s (V.p 3 0))), (.s 5, some (.s (V.v (.int .i64 ((k : Nat) : Int))))), (.o 3, some (.o ⟨53, 2, true, [(.val (.int .i64 c.x) : A), .val (.int .i64 c.y)]⟩)), (.o 8, some .free)]
  refine wp_seq' ?_
  refine wp_seq' ?_
  refine wp_region_t ?_
  refine wpc (step_plain rfl (acts_move (d := 6) (ltN rfl) (OpX.tmp 5 (V.v (.int .i64 ((k : Nat) : Int)))))) (by kernel_rfl) ?_
  refine wpc (step_plain rfl (acts_move (d := 7) (ltN rfl) (OpX.tmp 0 (V.b (.a (.slv l.length 2 (csl l))))))) (by kernel_rfl) ?_
  refine wpc (step_plain rfl (acts_len (d := 8) (X := .slv l.length 2 (csl l)) (n := l.length) (iv := ((l.length : Nat) : Int)) (ltN rfl) qC2_un_38 (OpX.tmp 7 (V.b (.a (.slv l.length 2 (csl l))))) (LenOf.slv _ _ _) rfl)) (by kernel_rfl) ?_
  refine wpc (step_plain rfl (acts_bin (d := 9) (ltN rfl) (OpV.tmp 6 (.int .i64 ((k : Nat) : Int))) (OpV.tmp 8 (.int .i64 ((l.length : Nat) : Int))) (r_lss (c := (decide (((k : Nat) : Int) < ((l.length : Nat) : Int)))) rfl))) (by kernel_rfl) ?_
  refine wpl_nil ?_
  refine wp_if (t := 9) (decide (((k : Nat) : Int) < ((l.length : Nat) : Int))) (by kernel_rfl) (fun c2 => ?_) (fun c2 => ?_)
  · skip
    have c2P := of_decide_eq_true c2
    refine wp_skip' ?_
    refine wp_seq' ?_
    refine wp_block' ?_
    refine wp_seq' ?_
    refine wp_drawn' (by kernel_rfl) (AllSteps.cons (step_plain rfl (acts_move (d := 12) (ltN rfl) (OpX.tmp 0 (V.b (.a (.slv l.length 2 (csl l))))))) (AllSteps.cons (step_plain rfl (acts_move (d := 13) (ltN rfl) (OpX.tmp 5 (V.v (.int .i64 ((k : Nat) : Int)))))) (AllSteps.cons (step_plain rfl (acts_index_v (d := 14) (x := 12) (n := l.length) (s := 2) (k := k) (xs := csl l) (ltN rfl) qC2_un_38 qC2_sz_53 (OpV.tmp 13 (.int .i64 ((k : Nat) : Int))) rfl (by omega))) (AllSteps.cons (step_plain rfl (acts_load_vs (d := 15) (t := 14) (s := 2) (off := (k * 2)) (xs := csl l)  (vs := [(.int .i64 ((gC l k).x) : Value), .int .i64 ((gC l k).y)]) (ltN rfl) qC2_ti_53 rfl (csl_at (k := k) (by omega)))) (AllSteps.cons (step_plain rfl (acts_load_owns (d := 16) (t := 3) (h := 3) (off := 0) (o := ⟨53, 2, true, [(.val (.int .i64 c.x) : A), .val (.int .i64 c.y)]⟩)  (xs := [(.int .i64 c.x : Value), .int .i64 c.y].map A.val) (ltN rfl) qC2_ti_53 rfl (by decide) rfl)) (AllSteps.cons (step_plain rfl (acts_bin (d := 17) (ltN rfl) (OpV.agg 15 [(.int .i64 ((gC l k).x) : Value), .int .i64 ((gC l k).y)]) (OpV.agg 16 [(.int .i64 c.x : Value), .int .i64 c.y]) (r_aggeq qC2_eg_53 (fun w => (run_eql_cel ((gC l k).x) ((gC l k).y) c.x c.y w).trans (congrArg (fun z => Result.ok (Value.bool z) w) (rfl : (cEq ((gC l k).x) ((gC l k).y) c.x c.y) = (cEq ((gC l k).x) ((gC l k).y) c.x c.y))))))) (AllSteps.nil))))))) (by kernel_rfl) (by kernel_rfl) (by kernel_rfl) ?_
    refine wp_if (t := 17) ((cEq ((gC l k).x) ((gC l k).y) c.x c.y)) (by kernel_rfl) (fun c3 => ?_) (fun c3 => ?_)
    · skip
      refine wp_seq' ?_
      refine wp_region_t ?_
      refine wpc (step_plain rfl (acts_assign (d := 4) (ltN rfl) (OpX.const (.bool true)))) (by kernel_rfl) ?_
      refine wpl_nil ?_
      refine wp_ret' ?_
      exact VRes.tmp 4 (.a (.val (.bool true))) _ (by kernel_rfl) (bval (congrArg Value.bool (by exact (hasCel_of (k := k) (by omega) (by simp_all [cEq_cel])).symm)))
    · skip
      refine wp_skip' ?_
      refine wp_region_t ?_
      refine wpc (step_plain rfl (acts_move (d := 10) (ltN rfl) (OpX.tmp 5 (V.v (.int .i64 ((k : Nat) : Int)))))) (by kernel_rfl) ?_
      refine wpc (step_plain rfl (acts_bin (d := 11) (ltN rfl) (OpV.tmp 10 (.int .i64 ((k : Nat) : Int))) (OpV.const (.int .i64 1)) (r_add (c := (((k : Nat) : Int) + 1)) (w64 (by omega) (by omega))))) (by kernel_rfl) ?_
      refine wpc (step_plain rfl (acts_assign (d := 5) (ltN rfl) (OpX.tmp 11 (V.v (.int .i64 (((k : Nat) : Int) + 1)))))) (by kernel_rfl) ?_
      refine wpl_nil ?_
      exact loop_back ((k + 1)) (by refine ⟨by omega, ?_⟩; rw [hasCel_snoc (by omega)]; simp_all [cEq_cel]) (by show l.length - (k + 1) < l.length - k; omega) (weak_of id [8] (by kernel_rfl) (wk_s (v' := V.b (.a (.slv l.length 2 (csl l)))) (by kernel_rfl) rfl rfl (wk_s (v' := V.p 3 0) (by kernel_rfl) rfl rfl (wk_s (v' := V.v (.int .i64 (((k : Nat) : Int) + 1))) (by kernel_rfl) (vint (by first | rfl | omega | (simp; done) | (simp; omega))) rfl (wk_o (o' := ⟨53, 2, true, [(.val (.int .i64 c.x) : A), .val (.int .i64 c.y)]⟩) (by kernel_rfl) (renob_l (fun h => h) rfl rfl) rfl (wk_f rfl (wk_nil)))))))
  · skip
    have c2P := of_decide_eq_false c2
    refine wp_exit' ?_
    refine wp_seq' ?_
    refine wp_region_t ?_
    refine wpc (step_plain rfl (acts_assign (d := 4) (ltN rfl) (OpX.const (.bool false)))) (by kernel_rfl) ?_
    refine wpl_nil ?_
    refine wp_ret' ?_
    exact VRes.tmp 4 (.a (.val (.bool false))) _ (by kernel_rfl) (bval (congrArg Value.bool (by (have e : k = l.length := by omega); subst e; simp_all)))

set_option maxHeartbeats 4000000 in
set_option maxRecDepth 100000 in
theorem spec_WhiteAround_fn (l : List Int) (bs : List Cel) (hl : l.length ≤ 4194304) (hb : bs.length ≤ 2097152) : Fn Try.prog 23 [.agg [(.slv l.length 1 (isl l) : A)], .a (.slv bs.length 2 (csl bs))] [.row 53 2 (wa l bs).length (csl (wa l bs))] := by
  refine fn_intro (N := 46) Try.func23 rfl (by kernel_rfl) rfl (Nat.le_of_ble_eq_true rfl) [2, 9, 12, 16, 19, 25, 37, 43, 44] (ret1 rfl) (fun W => ?_)
  show Wp _ _ _ [(.s 0, some (.s (V.b (.agg [(.slv l.length 1 (isl l) : A)])))), (.s 1, some (.s (V.b (.a (.slv bs.length 2 (csl bs)))))), (.o 2, some .free), (.o 9, some .free), (.o 12, some .free), (.o 16, some .free), (.o 19, some .free), (.o 25, some .free), (.o 37, some .free), (.o 43, some .free), (.o 44, some .free)]
  refine wp_seq' ?_
  refine wp_region_t ?_
  refine wpc (step_plain rfl (acts_box (d := 2) (h := 2) (b := .agg [(.slv l.length 1 (isl l) : A)]) (ltN rfl) (OpX.tmp 0 (V.b (.agg [(.slv l.length 1 (isl l) : A)]))) (by intro y hy; simp [B.cs] at hy; subst hy; rfl))) (by kernel_rfl) ?_
  refine wpc (step_plain rfl (acts_assign (d := 4) (ltN rfl) (OpX.const (.slice none 0 0)))) (by kernel_rfl) ?_
  refine wpl_nil ?_
  refine wp_seq' ?_
  refine wp_region_t ?_
  refine wpc (step_plain rfl (acts_buildSlice0' (d := 9) (h := 9) (s := 2) (ltN rfl) qC2_un_38 qC2_zi_53)) (by kernel_rfl) ?_
  refine wpc (step_plain rfl (acts_assign (d := 5) (ltN rfl) (OpX.tmp 9 (V.b (.a (.sl 9 0 0)))))) (by kernel_rfl) ?_
  refine wpl_nil ?_
  refine wp_seq' ?_
  refine wp_seq' ?_
  refine wp_region_t ?_
  refine wpc (step_plain rfl (acts_load_owns (d := 10) (t := 2) (h := 2) (off := 0) (o := ⟨28, 1, true, [(.slv l.length 1 (isl l) : A)]⟩)  (xs := [(.slv l.length 1 (isl l) : A)]) (ltN rfl) qC2_ti_28 rfl (by decide) rfl)) (by kernel_rfl) ?_
  refine wpc (step_plain rfl (acts_move (d := 11) (ltN rfl) (OpX.tmp 1 (V.b (.a (.slv bs.length 2 (csl bs))))))) (by kernel_rfl) ?_
  refine wpc (step_plain rfl (acts_call1 (d := 12) (ltN rfl) (spec_l10Blacks_fn l bs (by first | omega | assumption | exact (blks_ok (by assumption)).1) (by first | omega | assumption | exact (blks_ok (by assumption)).1)) (ArgVs.cons (ArgV.regv 10 l.length 1 (isl l)) (ArgVs.cons (ArgV.slv 11 bs.length 2 (csl bs)) (ArgVs.nil))) (ResV.val _))) (by kernel_rfl) ?_
  refine wpc (step_plain rfl (acts_un (d := 13) (ltN rfl) (OpV.tmp 12 (.bool (blks l bs))) (r_not (c := (!(blks l bs))) rfl))) (by kernel_rfl) ?_
  refine wpl_nil ?_
  refine wp_if (t := 13) ((!(blks l bs))) (by kernel_rfl) (fun c1 => ?_) (fun c1 => ?_)
  · skip
    have c2 : (blks l bs) = false := by simpa using c1
    refine wp_seq' ?_
    refine wp_region_t ?_
    refine wpc (step_plain rfl (acts_move (d := 14) (ltN rfl) (OpX.tmp 5 (V.b (.a (.sl 9 0 0)))))) (by kernel_rfl) ?_
    refine wpc (step_plain rfl (acts_assign (d := 4) (ltN rfl) (OpX.tmp 14 (V.b (.a (.sl 9 0 0)))))) (by kernel_rfl) ?_
    refine wpl_nil ?_
    refine wp_ret' ?_
    exact VRes.tmp 4 (.a (.sl 9 0 0)) _ (by kernel_rfl) (brow_cels (h := 9) (L := []) (by kernel_rfl) (by unfold wa; simp_all) (by first | rfl | (simp; done) | (simp; omega)))
  · skip
    have c3 : (blks l bs) = true := by simpa using c1
    refine wp_skip' ?_
    refine wp_seq' ?_
    refine wp_region_t ?_
    refine wpc (step_plain rfl (acts_load_owns (d := 15) (t := 2) (h := 2) (off := 0) (o := ⟨28, 1, true, [(.slv l.length 1 (isl l) : A)]⟩)  (xs := [(.slv l.length 1 (isl l) : A)]) (ltN rfl) qC2_ti_28 rfl (by decide) rfl)) (by kernel_rfl) ?_
    refine wpc (step_plain rfl (acts_call1 (d := 16) (ltN rfl) (spec_CellsOf_fn l (by first | omega | assumption | exact (blks_ok (by assumption)).1)) (ArgVs.cons (ArgV.regv 15 l.length 1 (isl l)) (ArgVs.nil)) (ResV.row 53 2 ((cellsOf l).length) (csl (cellsOf l)) 16))) (by kernel_rfl) ?_
    refine wpc (step_plain rfl (acts_assign (d := 6) (ltN rfl) (OpX.tmp 16 (V.b (.a (.sl 16 0 ((cellsOf l).length))))))) (by kernel_rfl) ?_
    refine wpl_nil ?_
    refine wp_seq' ?_
    refine wp_seq' ?_
    refine wp_region_t ?_
    refine wpc (step_plain rfl (acts_assign (d := 7) (ltN rfl) (OpX.const (.int .i64 0)))) (by kernel_rfl) ?_
    refine wpl_nil ?_
    refine wp_block' ?_
    refine wp_loop' (fun (k : Nat) => k ≤ (cellsOf l).length) (fun (k : Nat) => [(.s 1, some (.s (V.b (.a (.slv bs.length 2 (csl bs)))))), (.s 4, some (.s (V.v (.slice none 0 0)))), (.s 5, some (.s (V.b (.a (.sl 9 0 ((((cellsOf l).take k).filter (fun c : Cel => bs.any (nbr c))).length)))))), (.s 6, some (.s (V.b (.a (.sl 16 0 ((cellsOf l).length)))))), (.s 7, some (.s (V.v (.int .i64 ((k : Nat) : Int))))), (.o 9, some (.o ⟨53, 2, true, pl (csl (((cellsOf l).take k).filter (fun c : Cel => bs.any (nbr c))))⟩)), (.o 16, some (.o ⟨53, 2, true, pl (csl (cellsOf l))⟩)), (.o 2, some .free), (.o 12, some .free), (.o 19, some .free), (.o 25, some .free), (.o 37, some .free), (.o 43, some .free), (.o 44, some .free)]) (fun (k : Nat) => (cellsOf l).length - k) ((0 : Nat)) (by exact (Nat.zero_le _ : 0 ≤ _)) (weak_of id [2, 12, 19, 25, 37, 43, 44] (by kernel_rfl) (wk_s (v' := V.b (.a (.slv bs.length 2 (csl bs)))) (by kernel_rfl) rfl rfl (wk_s (v' := V.v (.slice none 0 0)) (by kernel_rfl) rfl rfl (wk_s (v' := V.b (.a (.sl 9 0 0))) (by kernel_rfl) (vsl (by first | rfl | (simp; done) | (simp; omega) | omega | (exact congrArg List.length (by first | rfl | (refine cfilt_yes (p := (fun c : Cel => bs.any (nbr c))) ?_ (any_atC (p := nbr (gC (cellsOf l) k)) (k := j) ?_ ?_) <;> first | omega | assumption) | (refine cfilt_no (p := (fun c : Cel => bs.any (nbr c))) ?_ (any_endC (p := nbr (gC (cellsOf l) k)) (k := j) ?_ ?_) <;> first | omega | assumption) | omega))) rfl) rfl (wk_s (v' := V.b (.a (.sl 16 0 ((cellsOf l).length)))) (by kernel_rfl) rfl rfl (wk_s (v' := V.v (.int .i64 0)) (by kernel_rfl) (vint (by first | rfl | (refine cfilt_yes (p := (fun c : Cel => bs.any (nbr c))) ?_ (any_atC (p := nbr (gC (cellsOf l) k)) (k := j) ?_ ?_) <;> first | omega | assumption) | (refine cfilt_no (p := (fun c : Cel => bs.any (nbr c))) ?_ (any_endC (p := nbr (gC (cellsOf l) k)) (k := j) ?_ ?_) <;> first | omega | assumption) | omega)) rfl (wk_o (o' := ⟨53, 2, true, pl (csl [])⟩) (by kernel_rfl) (renob_eq (fun h => h) (congrArg csl (by first | rfl | (refine cfilt_yes (p := (fun c : Cel => bs.any (nbr c))) ?_ (any_atC (p := nbr (gC (cellsOf l) k)) (k := j) ?_ ?_) <;> first | omega | assumption) | (refine cfilt_no (p := (fun c : Cel => bs.any (nbr c))) ?_ (any_endC (p := nbr (gC (cellsOf l) k)) (k := j) ?_ ?_) <;> first | omega | assumption) | omega))) rfl (wk_o (o' := ⟨53, 2, true, pl (csl (cellsOf l))⟩) (by kernel_rfl) (renob_pl (fun h => h)) rfl (wk_f rfl (wk_f rfl (wk_f rfl (wk_f rfl (wk_f rfl (wk_f rfl (wk_f rfl (wk_nil)))))))))))))))) ?_
    rintro k inv4
    replace inv4 : k ≤ (cellsOf l).length := inv4
    have inv := inv4
    show Wp _ _ _ [(.s 1, some (.s (V.b (.a (.slv bs.length 2 (csl bs)))))), (.s 4, some (.s (V.v (.slice none 0 0)))), (.s 5, some (.s (V.b (.a (.sl 9 0 ((((cellsOf l).take k).filter (fun c : Cel => bs.any (nbr c))).length)))))), (.s 6, some (.s (V.b (.a (.sl 16 0 ((cellsOf l).length)))))), (.s 7, some (.s (V.v (.int .i64 ((k : Nat) : Int))))), (.o 9, some (.o ⟨53, 2, true, pl (csl (((cellsOf l).take k).filter (fun c : Cel => bs.any (nbr c))))⟩)), (.o 16, some (.o ⟨53, 2, true, pl (csl (cellsOf l))⟩)), (.o 2, some .free), (.o 12, some .free), (.o 19, some .free), (.o 25, some .free), (.o 37, some .free), (.o 43, some .free), (.o 44, some .free)]
    have hlt := cfilt_len (fun c : Cel => bs.any (nbr c)) (cellsOf l) k
    have h64 := cellsOf_len l
    refine wp_seq' ?_
    refine wp_seq' ?_
    refine wp_region_t ?_
    refine wpc (step_plain rfl (acts_move (d := 17) (ltN rfl) (OpX.tmp 7 (V.v (.int .i64 ((k : Nat) : Int)))))) (by kernel_rfl) ?_
    refine wpc (step_plain rfl (acts_move (d := 18) (ltN rfl) (OpX.tmp 6 (V.b (.a (.sl 16 0 ((cellsOf l).length))))))) (by kernel_rfl) ?_
    refine wpc (step_plain rfl (acts_len (d := 19) (X := .sl 16 0 ((cellsOf l).length)) (n := ((cellsOf l).length)) (iv := (((cellsOf l).length : Nat) : Int)) (ltN rfl) qC2_un_38 (OpX.tmp 18 (V.b (.a (.sl 16 0 ((cellsOf l).length))))) (LenOf.sl _ _ _) rfl)) (by kernel_rfl) ?_
    refine wpc (step_plain rfl (acts_bin (d := 20) (ltN rfl) (OpV.tmp 17 (.int .i64 ((k : Nat) : Int))) (OpV.tmp 19 (.int .i64 (((cellsOf l).length : Nat) : Int))) (r_lss (c := (decide (((k : Nat) : Int) < (((cellsOf l).length : Nat) : Int)))) rfl))) (by kernel_rfl) ?_
    refine wpl_nil ?_
    refine wp_if (t := 20) (decide (((k : Nat) : Int) < (((cellsOf l).length : Nat) : Int))) (by kernel_rfl) (fun c5 => ?_) (fun c5 => ?_)
    · skip
      have c5P := of_decide_eq_true c5
      refine wp_skip' ?_
      refine wp_seq' ?_
      refine wp_block' ?_
      refine wp_seq' ?_
      refine wp_region_t ?_
      refine wpc (step_plain rfl (acts_assign (d := 8) (ltN rfl) (OpX.const (.int .i64 0)))) (by kernel_rfl) ?_
      refine wpl_nil ?_
      refine wp_block' ?_
      refine wp_loop' (fun (j : Nat) => j ≤ bs.length ∧ (bs.take j).any (nbr (gC (cellsOf l) k)) = false) (fun (j : Nat) => [(.s 1, some (.s (V.b (.a (.slv bs.length 2 (csl bs)))))), (.s 4, some (.s (V.v (.slice none 0 0)))), (.s 5, some (.s (V.b (.a (.sl 9 0 ((((cellsOf l).take k).filter (fun c : Cel => bs.any (nbr c))).length)))))), (.s 6, some (.s (V.b (.a (.sl 16 0 ((cellsOf l).length)))))), (.s 7, some (.s (V.v (.int .i64 ((k : Nat) : Int))))), (.s 8, some (.s (V.v (.int .i64 ((j : Nat) : Int))))), (.s 17, some (.s (V.v (.int .i64 ((k : Nat) : Int))))), (.s 18, some (.s (V.b (.a (.sl 16 0 ((cellsOf l).length)))))), (.s 19, some (.s (V.v (.int .i64 (((cellsOf l).length : Nat) : Int))))), (.s 20, some (.s (V.v (.bool (decide (((k : Nat) : Int) < (((cellsOf l).length : Nat) : Int))))))), (.o 9, some (.o ⟨53, 2, true, pl (csl (((cellsOf l).take k).filter (fun c : Cel => bs.any (nbr c))))⟩)), (.o 16, some (.o ⟨53, 2, true, pl (csl (cellsOf l))⟩)), (.o 2, some .free), (.o 12, some .free), (.o 19, some .free), (.o 25, some .free), (.o 37, some .free), (.o 43, some .free), (.o 44, some .free)]) (fun (j : Nat) => bs.length - j) ((0 : Nat)) (by exact ⟨Nat.zero_le _, rfl⟩) (weak_of id [2, 12, 19, 25, 37, 43, 44] (by kernel_rfl) (wk_s (v' := V.b (.a (.slv bs.length 2 (csl bs)))) (by kernel_rfl) rfl rfl (wk_s (v' := V.v (.slice none 0 0)) (by kernel_rfl) rfl rfl (wk_s (v' := V.b (.a (.sl 9 0 ((((cellsOf l).take k).filter (fun c : Cel => bs.any (nbr c))).length)))) (by kernel_rfl) rfl rfl (wk_s (v' := V.b (.a (.sl 16 0 ((cellsOf l).length)))) (by kernel_rfl) rfl rfl (wk_s (v' := V.v (.int .i64 ((k : Nat) : Int))) (by kernel_rfl) rfl rfl (wk_s (v' := V.v (.int .i64 0)) (by kernel_rfl) (vint (by first | rfl | omega | (simp; done) | (simp; omega))) rfl (wk_s (v' := V.v (.int .i64 ((k : Nat) : Int))) (by kernel_rfl) rfl rfl (wk_s (v' := V.b (.a (.sl 16 0 ((cellsOf l).length)))) (by kernel_rfl) rfl rfl (wk_s (v' := V.v (.int .i64 (((cellsOf l).length : Nat) : Int))) (by kernel_rfl) rfl rfl (wk_s (v' := V.v (.bool (decide (((k : Nat) : Int) < (((cellsOf l).length : Nat) : Int))))) (by kernel_rfl) rfl rfl (wk_o (o' := ⟨53, 2, true, pl (csl (((cellsOf l).take k).filter (fun c : Cel => bs.any (nbr c))))⟩) (by kernel_rfl) (renob_pl (fun h => h)) rfl (wk_o (o' := ⟨53, 2, true, pl (csl (cellsOf l))⟩) (by kernel_rfl) (renob_pl (fun h => h)) rfl (wk_f rfl (wk_f rfl (wk_f rfl (wk_f rfl (wk_f rfl (wk_f rfl (wk_f rfl (wk_nil))))))))))))))))))))) ?_
      rintro j inv6
      replace inv6 : j ≤ bs.length ∧ (bs.take j).any (nbr (gC (cellsOf l) k)) = false := inv6
      obtain ⟨inv6_0, inv6_1⟩ := inv6
      show Wp _ _ _ [(.s 1, some (.s (V.b (.a (.slv bs.length 2 (csl bs)))))), (.s 4, some (.s (V.v (.slice none 0 0)))), (.s 5, some (.s (V.b (.a (.sl 9 0 ((((cellsOf l).take k).filter (fun c : Cel => bs.any (nbr c))).length)))))), (.s 6, some (.s (V.b (.a (.sl 16 0 ((cellsOf l).length)))))), (.s 7, some (.s (V.v (.int .i64 ((k : Nat) : Int))))), (.s 8, some (.s (V.v (.int .i64 ((j : Nat) : Int))))), (.s 17, some (.s (V.v (.int .i64 ((k : Nat) : Int))))), (.s 18, some (.s (V.b (.a (.sl 16 0 ((cellsOf l).length)))))), (.s 19, some (.s (V.v (.int .i64 (((cellsOf l).length : Nat) : Int))))), (.s 20, some (.s (V.v (.bool (decide (((k : Nat) : Int) < (((cellsOf l).length : Nat) : Int))))))), (.o 9, some (.o ⟨53, 2, true, pl (csl (((cellsOf l).take k).filter (fun c : Cel => bs.any (nbr c))))⟩)), (.o 16, some (.o ⟨53, 2, true, pl (csl (cellsOf l))⟩)), (.o 2, some .free), (.o 12, some .free), (.o 19, some .free), (.o 25, some .free), (.o 37, some .free), (.o 43, some .free), (.o 44, some .free)]
      refine wp_seq' ?_
      refine wp_seq' ?_
      refine wp_region_t ?_
      refine wpc (step_plain rfl (acts_move (d := 23) (ltN rfl) (OpX.tmp 8 (V.v (.int .i64 ((j : Nat) : Int)))))) (by kernel_rfl) ?_
      refine wpc (step_plain rfl (acts_move (d := 24) (ltN rfl) (OpX.tmp 1 (V.b (.a (.slv bs.length 2 (csl bs))))))) (by kernel_rfl) ?_
      refine wpc (step_plain rfl (acts_len (d := 25) (X := .slv bs.length 2 (csl bs)) (n := bs.length) (iv := ((bs.length : Nat) : Int)) (ltN rfl) qC2_un_38 (OpX.tmp 24 (V.b (.a (.slv bs.length 2 (csl bs))))) (LenOf.slv _ _ _) rfl)) (by kernel_rfl) ?_
      refine wpc (step_plain rfl (acts_bin (d := 26) (ltN rfl) (OpV.tmp 23 (.int .i64 ((j : Nat) : Int))) (OpV.tmp 25 (.int .i64 ((bs.length : Nat) : Int))) (r_lss (c := (decide (((j : Nat) : Int) < ((bs.length : Nat) : Int)))) rfl))) (by kernel_rfl) ?_
      refine wpl_nil ?_
      refine wp_if (t := 26) (decide (((j : Nat) : Int) < ((bs.length : Nat) : Int))) (by kernel_rfl) (fun c7 => ?_) (fun c7 => ?_)
      · skip
        have c7P := of_decide_eq_true c7
        refine wp_skip' ?_
        refine wp_seq' ?_
        refine wp_block' ?_
        refine wp_seq' ?_
        refine wp_drawn' (by kernel_rfl) (AllSteps.cons (step_plain rfl (acts_move (d := 29) (ltN rfl) (OpX.tmp 6 (V.b (.a (.sl 16 0 ((cellsOf l).length))))))) (AllSteps.cons (step_plain rfl (acts_move (d := 30) (ltN rfl) (OpX.tmp 7 (V.v (.int .i64 ((k : Nat) : Int)))))) (AllSteps.cons (step_plain rfl (acts_index_sl (d := 31) (x := 29) (h := 16) (off := 0) (n := ((cellsOf l).length)) (k := k) (off' := (k * 2)) (o := ⟨53, 2, true, pl (csl (cellsOf l))⟩) (ltN rfl) qC2_un_38 qC2_sz_53 (OpV.tmp 30 (.int .i64 ((k : Nat) : Int))) rfl (by first | omega | assumption | exact (blks_ok (by assumption)).1) (by first | (simp; done) | (simp; omega) | omega))) (AllSteps.cons (step_plain rfl (acts_load_owns (d := 32) (t := 31) (h := 16) (off := (k * 2)) (o := ⟨53, 2, true, pl (csl (cellsOf l))⟩)  (xs := [(.int .i64 ((gC (cellsOf l) k).x) : Value), .int .i64 ((gC (cellsOf l) k).y)].map A.val) (ltN rfl) qC2_ti_53 rfl (by decide) (pl_at (csl_at (k := k) (by first | omega | assumption | exact (blks_ok (by assumption)).1))))) (AllSteps.cons (step_plain rfl (acts_move (d := 33) (ltN rfl) (OpX.tmp 1 (V.b (.a (.slv bs.length 2 (csl bs))))))) (AllSteps.cons (step_plain rfl (acts_move (d := 34) (ltN rfl) (OpX.tmp 8 (V.v (.int .i64 ((j : Nat) : Int)))))) (AllSteps.cons (step_plain rfl (acts_index_v (d := 35) (x := 33) (n := bs.length) (s := 2) (k := j) (xs := csl bs) (ltN rfl) qC2_un_38 qC2_sz_53 (OpV.tmp 34 (.int .i64 ((j : Nat) : Int))) rfl (by first | omega | assumption | exact (blks_ok (by assumption)).1))) (AllSteps.cons (step_plain rfl (acts_load_vs (d := 36) (t := 35) (s := 2) (off := (j * 2)) (xs := csl bs)  (vs := [(.int .i64 ((gC bs j).x) : Value), .int .i64 ((gC bs j).y)]) (ltN rfl) qC2_ti_53 rfl (csl_at (k := j) (by first | omega | assumption | exact (blks_ok (by assumption)).1)))) (AllSteps.cons (step_plain rfl (acts_call1 (d := 37) (ltN rfl) (spec_AreNeighbors_fn (gC (cellsOf l) k) (gC bs j) ) (ArgVs.cons (ArgV.va (vs := [(.int .i64 ((gC (cellsOf l) k).x) : Value), .int .i64 ((gC (cellsOf l) k).y)]) (OpV.agg 32 [(.int .i64 ((gC (cellsOf l) k).x) : Value), .int .i64 ((gC (cellsOf l) k).y)])) (ArgVs.cons (ArgV.va (vs := [(.int .i64 ((gC bs j).x) : Value), .int .i64 ((gC bs j).y)]) (OpV.agg 36 [(.int .i64 ((gC bs j).x) : Value), .int .i64 ((gC bs j).y)])) (ArgVs.nil))) (ResV.val _))) (AllSteps.nil)))))))))) (by kernel_rfl) (by kernel_rfl) (by kernel_rfl) ?_
        refine wp_if (t := 37) ((nbr (gC (cellsOf l) k) (gC bs j))) (by kernel_rfl) (fun c8 => ?_) (fun c8 => ?_)
        · skip
          refine wp_seq' ?_
          refine wp_region_t ?_
          refine wpc (step_plain rfl (acts_move (d := 38) (ltN rfl) (OpX.tmp 5 (V.b (.a (.sl 9 0 ((((cellsOf l).take k).filter (fun c : Cel => bs.any (nbr c))).length))))))) (by kernel_rfl) ?_
          refine wpc (step_plain rfl (acts_move (d := 39) (ltN rfl) (OpX.tmp 6 (V.b (.a (.sl 16 0 ((cellsOf l).length))))))) (by kernel_rfl) ?_
          refine wpc (step_plain rfl (acts_move (d := 40) (ltN rfl) (OpX.tmp 7 (V.v (.int .i64 ((k : Nat) : Int)))))) (by kernel_rfl) ?_
          refine wpc (step_plain rfl (acts_index_sl (d := 41) (x := 39) (h := 16) (off := 0) (n := ((cellsOf l).length)) (k := k) (off' := (k * 2)) (o := ⟨53, 2, true, pl (csl (cellsOf l))⟩) (ltN rfl) qC2_un_38 qC2_sz_53 (OpV.tmp 40 (.int .i64 ((k : Nat) : Int))) rfl (by first | omega | assumption | exact (blks_ok (by assumption)).1) (by first | (simp; done) | (simp; omega) | omega))) (by kernel_rfl) ?_
          refine wpc (step_plain rfl (acts_load_owns (d := 42) (t := 41) (h := 16) (off := (k * 2)) (o := ⟨53, 2, true, pl (csl (cellsOf l))⟩)  (xs := [(.int .i64 ((gC (cellsOf l) k).x) : Value), .int .i64 ((gC (cellsOf l) k).y)].map A.val) (ltN rfl) qC2_ti_53 rfl (by decide) (pl_at (csl_at (k := k) (by first | omega | assumption | exact (blks_ok (by assumption)).1))))) (by kernel_rfl) ?_
          refine wpc (step_plain rfl (acts_buildSlice' (d := 43) (h := 43) (n := 1) (s := 2) (xs := csl ([(gC (cellsOf l) k)] : List Cel)) (ltN rfl) qC2_un_38 qC2_zi_53 (OpVs.cons (i := 0) (OpV.agg 42 [(.int .i64 ((gC (cellsOf l) k).x) : Value), .int .i64 ((gC (cellsOf l) k).y)]) (OpVs.nil)) (by decide) (by decide) (by kernel_rfl) rfl)) (by kernel_rfl) ?_
          refine wpc (step_plain rfl (acts_app (d := 44) (x := 38) (h := 9) (h2 := 44) (n := ((((cellsOf l).take k).filter (fun c : Cel => bs.any (nbr c))).length)) (m := 1) (nm := (((((cellsOf l).take k).filter (fun c : Cel => bs.any (nbr c))) ++ [(gC (cellsOf l) k)]).length)) (X := .sl 43 0 1) (xs := csl (((cellsOf l).take k).filter (fun c : Cel => bs.any (nbr c)))) (ys := csl [(gC (cellsOf l) k)]) (zs := csl ((((cellsOf l).take k).filter (fun c : Cel => bs.any (nbr c))) ++ [(gC (cellsOf l) k)])) (ltN rfl) qC2_un_38 qC2_zi_53 rfl (by decide) (by decide) (by first | exact csl_len _ | (simp [isl_len, bsl_len, dsl_len, csl_len]; done) | (simp [isl_len, bsl_len, dsl_len, csl_len]; omega)) (OpX.tmp 43 (V.b (.a (.sl 43 0 1)))) (src_own (h := 43) (T := 53) (s := 2) (ex := true) (n := 1) (by first | exact csl_len _ | (simp [isl_len, bsl_len, dsl_len, csl_len]; done) | (simp [isl_len, bsl_len, dsl_len, csl_len]; omega))) (csl_one' _) (by first | omega | (simp; omega) | (simp at *; omega)) (by first | exact (csl_append _ _).symm | rfl | simp [csl_append]) (by first | rfl | (simp; done) | (simp; omega) | omega))) (by kernel_rfl) ?_
          refine wpc (step_plain rfl (acts_assign (d := 5) (ltN rfl) (OpX.tmp 44 (V.b (.a (.sl 44 0 (((((cellsOf l).take k).filter (fun c : Cel => bs.any (nbr c))) ++ [(gC (cellsOf l) k)]).length))))))) (by kernel_rfl) ?_
          refine wpl_nil ?_
          refine wp_exit' ?_
          refine wp_region_t ?_
          refine wpc (step_plain rfl (acts_move (d := 21) (ltN rfl) (OpX.tmp 7 (V.v (.int .i64 ((k : Nat) : Int)))))) (by kernel_rfl) ?_
          refine wpc (step_plain rfl (acts_bin (d := 22) (ltN rfl) (OpV.tmp 21 (.int .i64 ((k : Nat) : Int))) (OpV.const (.int .i64 1)) (r_add (c := (((k : Nat) : Int) + 1)) (w64 (by first | omega | assumption | exact (blks_ok (by assumption)).1) (by first | omega | assumption | exact (blks_ok (by assumption)).1))))) (by kernel_rfl) ?_
          refine wpc (step_plain rfl (acts_assign (d := 7) (ltN rfl) (OpX.tmp 22 (V.v (.int .i64 (((k : Nat) : Int) + 1)))))) (by kernel_rfl) ?_
          refine wpl_nil ?_
          exact loop_back ((k + 1)) (by show _ ≤ _; omega) (by show (cellsOf l).length - (k + 1) < (cellsOf l).length - k; omega) (weak_of (subst1 [(9, 44)]) [2, 12, 19, 25, 37, 43, 44] (by kernel_rfl) (wk_s (v' := V.b (.a (.slv bs.length 2 (csl bs)))) (by kernel_rfl) rfl rfl (wk_s (v' := V.v (.slice none 0 0)) (by kernel_rfl) rfl rfl (wk_s (v' := V.b (.a (.sl 44 0 (((((cellsOf l).take k).filter (fun c : Cel => bs.any (nbr c))) ++ [(gC (cellsOf l) k)]).length)))) (by kernel_rfl) (vsl (by first | rfl | (simp; done) | (simp; omega) | omega | (exact congrArg List.length (by first | rfl | (refine cfilt_yes (p := (fun c : Cel => bs.any (nbr c))) ?_ (any_atC (p := nbr (gC (cellsOf l) k)) (k := j) ?_ ?_) <;> first | omega | assumption) | (refine cfilt_no (p := (fun c : Cel => bs.any (nbr c))) ?_ (any_endC (p := nbr (gC (cellsOf l) k)) (k := j) ?_ ?_) <;> first | omega | assumption) | omega))) rfl) rfl (wk_s (v' := V.b (.a (.sl 16 0 ((cellsOf l).length)))) (by kernel_rfl) rfl rfl (wk_s (v' := V.v (.int .i64 (((k : Nat) : Int) + 1))) (by kernel_rfl) (vint (by first | rfl | (refine cfilt_yes (p := (fun c : Cel => bs.any (nbr c))) ?_ (any_atC (p := nbr (gC (cellsOf l) k)) (k := j) ?_ ?_) <;> first | omega | assumption) | (refine cfilt_no (p := (fun c : Cel => bs.any (nbr c))) ?_ (any_endC (p := nbr (gC (cellsOf l) k)) (k := j) ?_ ?_) <;> first | omega | assumption) | omega)) rfl (wk_o (o' := ⟨53, 2, true, pl (csl ((((cellsOf l).take k).filter (fun c : Cel => bs.any (nbr c))) ++ [(gC (cellsOf l) k)]))⟩) (by kernel_rfl) (renob_eq (fun h => h) (congrArg csl (by first | rfl | (refine cfilt_yes (p := (fun c : Cel => bs.any (nbr c))) ?_ (any_atC (p := nbr (gC (cellsOf l) k)) (k := j) ?_ ?_) <;> first | omega | assumption) | (refine cfilt_no (p := (fun c : Cel => bs.any (nbr c))) ?_ (any_endC (p := nbr (gC (cellsOf l) k)) (k := j) ?_ ?_) <;> first | omega | assumption) | omega))) rfl (wk_o (o' := ⟨53, 2, true, pl (csl (cellsOf l))⟩) (by kernel_rfl) (renob_pl (fun h => h)) rfl (wk_f rfl (wk_f rfl (wk_f rfl (wk_f rfl (wk_f rfl (wk_f rfl (wk_f rfl (wk_nil))))))))))))))))
        · skip
          refine wp_skip' ?_
          refine wp_region_t ?_
          refine wpc (step_plain rfl (acts_move (d := 27) (ltN rfl) (OpX.tmp 8 (V.v (.int .i64 ((j : Nat) : Int)))))) (by kernel_rfl) ?_
          refine wpc (step_plain rfl (acts_bin (d := 28) (ltN rfl) (OpV.tmp 27 (.int .i64 ((j : Nat) : Int))) (OpV.const (.int .i64 1)) (r_add (c := (((j : Nat) : Int) + 1)) (w64 (by first | omega | assumption | exact (blks_ok (by assumption)).1) (by first | omega | assumption | exact (blks_ok (by assumption)).1))))) (by kernel_rfl) ?_
          refine wpc (step_plain rfl (acts_assign (d := 8) (ltN rfl) (OpX.tmp 28 (V.v (.int .i64 (((j : Nat) : Int) + 1)))))) (by kernel_rfl) ?_
          refine wpl_nil ?_
          exact loop_back ((j + 1)) (by exact ⟨by omega, any_snocC (by omega) (by assumption) (by assumption)⟩) (by show bs.length - (j + 1) < bs.length - j; omega) (weak_of id [2, 12, 19, 25, 37, 43, 44] (by kernel_rfl) (wk_s (v' := V.b (.a (.slv bs.length 2 (csl bs)))) (by kernel_rfl) rfl rfl (wk_s (v' := V.v (.slice none 0 0)) (by kernel_rfl) rfl rfl (wk_s (v' := V.b (.a (.sl 9 0 ((((cellsOf l).take k).filter (fun c : Cel => bs.any (nbr c))).length)))) (by kernel_rfl) rfl rfl (wk_s (v' := V.b (.a (.sl 16 0 ((cellsOf l).length)))) (by kernel_rfl) rfl rfl (wk_s (v' := V.v (.int .i64 ((k : Nat) : Int))) (by kernel_rfl) rfl rfl (wk_s (v' := V.v (.int .i64 (((j : Nat) : Int) + 1))) (by kernel_rfl) (vint (by first | rfl | omega | (simp; done) | (simp; omega))) rfl (wk_s (v' := V.v (.int .i64 ((k : Nat) : Int))) (by kernel_rfl) rfl rfl (wk_s (v' := V.b (.a (.sl 16 0 ((cellsOf l).length)))) (by kernel_rfl) rfl rfl (wk_s (v' := V.v (.int .i64 (((cellsOf l).length : Nat) : Int))) (by kernel_rfl) rfl rfl (wk_s (v' := V.v (.bool (decide (((k : Nat) : Int) < (((cellsOf l).length : Nat) : Int))))) (by kernel_rfl) rfl rfl (wk_o (o' := ⟨53, 2, true, pl (csl (((cellsOf l).take k).filter (fun c : Cel => bs.any (nbr c))))⟩) (by kernel_rfl) (renob_pl (fun h => h)) rfl (wk_o (o' := ⟨53, 2, true, pl (csl (cellsOf l))⟩) (by kernel_rfl) (renob_pl (fun h => h)) rfl (wk_f rfl (wk_f rfl (wk_f rfl (wk_f rfl (wk_f rfl (wk_f rfl (wk_f rfl (wk_nil)))))))))))))))))))))
      · skip
        have c7P := of_decide_eq_false c7
        refine wp_exit' ?_
        refine wp_region_t ?_
        refine wpc (step_plain rfl (acts_move (d := 21) (ltN rfl) (OpX.tmp 7 (V.v (.int .i64 ((k : Nat) : Int)))))) (by kernel_rfl) ?_
        refine wpc (step_plain rfl (acts_bin (d := 22) (ltN rfl) (OpV.tmp 21 (.int .i64 ((k : Nat) : Int))) (OpV.const (.int .i64 1)) (r_add (c := (((k : Nat) : Int) + 1)) (w64 (by first | omega | assumption | exact (blks_ok (by assumption)).1) (by first | omega | assumption | exact (blks_ok (by assumption)).1))))) (by kernel_rfl) ?_
        refine wpc (step_plain rfl (acts_assign (d := 7) (ltN rfl) (OpX.tmp 22 (V.v (.int .i64 (((k : Nat) : Int) + 1)))))) (by kernel_rfl) ?_
        refine wpl_nil ?_
        exact loop_back ((k + 1)) (by show _ ≤ _; omega) (by show (cellsOf l).length - (k + 1) < (cellsOf l).length - k; omega) (weak_of id [2, 12, 19, 25, 37, 43, 44] (by kernel_rfl) (wk_s (v' := V.b (.a (.slv bs.length 2 (csl bs)))) (by kernel_rfl) rfl rfl (wk_s (v' := V.v (.slice none 0 0)) (by kernel_rfl) rfl rfl (wk_s (v' := V.b (.a (.sl 9 0 ((((cellsOf l).take k).filter (fun c : Cel => bs.any (nbr c))).length)))) (by kernel_rfl) (vsl (by first | rfl | (simp; done) | (simp; omega) | omega | (exact congrArg List.length (by first | rfl | (refine cfilt_yes (p := (fun c : Cel => bs.any (nbr c))) ?_ (any_atC (p := nbr (gC (cellsOf l) k)) (k := j) ?_ ?_) <;> first | omega | assumption) | (refine cfilt_no (p := (fun c : Cel => bs.any (nbr c))) ?_ (any_endC (p := nbr (gC (cellsOf l) k)) (k := j) ?_ ?_) <;> first | omega | assumption) | omega))) rfl) rfl (wk_s (v' := V.b (.a (.sl 16 0 ((cellsOf l).length)))) (by kernel_rfl) rfl rfl (wk_s (v' := V.v (.int .i64 (((k : Nat) : Int) + 1))) (by kernel_rfl) (vint (by first | rfl | (refine cfilt_yes (p := (fun c : Cel => bs.any (nbr c))) ?_ (any_atC (p := nbr (gC (cellsOf l) k)) (k := j) ?_ ?_) <;> first | omega | assumption) | (refine cfilt_no (p := (fun c : Cel => bs.any (nbr c))) ?_ (any_endC (p := nbr (gC (cellsOf l) k)) (k := j) ?_ ?_) <;> first | omega | assumption) | omega)) rfl (wk_o (o' := ⟨53, 2, true, pl (csl (((cellsOf l).take k).filter (fun c : Cel => bs.any (nbr c))))⟩) (by kernel_rfl) (renob_eq (fun h => h) (congrArg csl (by first | rfl | (refine cfilt_yes (p := (fun c : Cel => bs.any (nbr c))) ?_ (any_atC (p := nbr (gC (cellsOf l) k)) (k := j) ?_ ?_) <;> first | omega | assumption) | (refine cfilt_no (p := (fun c : Cel => bs.any (nbr c))) ?_ (any_endC (p := nbr (gC (cellsOf l) k)) (k := j) ?_ ?_) <;> first | omega | assumption) | omega))) rfl (wk_o (o' := ⟨53, 2, true, pl (csl (cellsOf l))⟩) (by kernel_rfl) (renob_pl (fun h => h)) rfl (wk_f rfl (wk_f rfl (wk_f rfl (wk_f rfl (wk_f rfl (wk_f rfl (wk_f rfl (wk_nil))))))))))))))))
    · skip
      have c5P := of_decide_eq_false c5
      refine wp_exit' ?_
      refine wp_seq' ?_
      refine wp_region_t ?_
      refine wpc (step_plain rfl (acts_move (d := 45) (ltN rfl) (OpX.tmp 5 (V.b (.a (.sl 9 0 ((((cellsOf l).take k).filter (fun c : Cel => bs.any (nbr c))).length))))))) (by kernel_rfl) ?_
      refine wpc (step_plain rfl (acts_assign (d := 4) (ltN rfl) (OpX.tmp 45 (V.b (.a (.sl 9 0 ((((cellsOf l).take k).filter (fun c : Cel => bs.any (nbr c))).length))))))) (by kernel_rfl) ?_
      refine wpl_nil ?_
      refine wp_ret' ?_
      exact VRes.tmp 4 (.a (.sl 9 0 ((((cellsOf l).take k).filter (fun c : Cel => bs.any (nbr c))).length))) _ (by kernel_rfl) (brow_cels (h := 9) (L := (((cellsOf l).take k).filter (fun c : Cel => bs.any (nbr c)))) (by kernel_rfl) (by unfold wa; rw [if_pos (by simp_all), List.take_of_length_le (by omega)]) (by first | rfl | (simp; done) | (simp; omega)))

set_option maxHeartbeats 4000000 in
set_option maxRecDepth 100000 in
theorem impl_Deficit_fn (l : List Int) (bs : List Cel) (hl : l.length ≤ 4194304) (hb : bs.length ≤ 1048576) : Fn Try.prog 30 [.agg [(.slv l.length 1 (isl l) : A)], .a (.slv bs.length 2 (csl bs))] [.val (.int .i64 (defi l bs))] := by
  refine fn_intro (N := 18) Try.func30 rfl (by kernel_rfl) rfl (Nat.le_of_ble_eq_true rfl) [2, 7, 10, 11, 12, 15, 16] (ret1 rfl) (fun W => ?_)
  show Wp _ _ _ [(.s 0, some (.s (V.b (.agg [(.slv l.length 1 (isl l) : A)])))), (.s 1, some (.s (V.b (.a (.slv bs.length 2 (csl bs)))))), (.o 2, some .free), (.o 7, some .free), (.o 10, some .free), (.o 11, some .free), (.o 12, some .free), (.o 15, some .free), (.o 16, some .free)]
  refine wp_seq' ?_
  refine wp_region_t ?_
  refine wpc (step_plain rfl (acts_box (d := 2) (h := 2) (b := .agg [(.slv l.length 1 (isl l) : A)]) (ltN rfl) (OpX.tmp 0 (V.b (.agg [(.slv l.length 1 (isl l) : A)]))) (by intro y hy; simp [B.cs] at hy; subst hy; rfl))) (by kernel_rfl) ?_
  refine wpc (step_plain rfl (acts_assign (d := 4) (ltN rfl) (OpX.const (.int .i64 0)))) (by kernel_rfl) ?_
  refine wpl_nil ?_
  refine wp_seq' ?_
  refine wp_seq' ?_
  refine wp_region_t ?_
  refine wpc (step_plain rfl (acts_load_owns (d := 5) (t := 2) (h := 2) (off := 0) (o := ⟨28, 1, true, [(.slv l.length 1 (isl l) : A)]⟩)  (xs := [(.slv l.length 1 (isl l) : A)]) (ltN rfl) qC2_ti_28 rfl (by decide) rfl)) (by kernel_rfl) ?_
  refine wpc (step_plain rfl (acts_move (d := 6) (ltN rfl) (OpX.tmp 1 (V.b (.a (.slv bs.length 2 (csl bs))))))) (by kernel_rfl) ?_
  refine wpc (step_plain rfl (acts_call1 (d := 7) (ltN rfl) (impl_areBlacks_fn l bs (by first | omega | assumption | (have q1 := wa_len l bs; have q2 := setCells_len (setL bs); omega) | exact (blks_ok (by assumption)).2 | (have := (blks_ok (l := l) (bs := bs) (by assumption)).2; exact setL_lt (fun c hc => by obtain ⟨j, hj, rfl⟩ := List.getElem_of_mem hc; rw [← gC_eq hj]; exact this j hj))) (by first | omega | assumption | (have q1 := wa_len l bs; have q2 := setCells_len (setL bs); omega) | exact (blks_ok (by assumption)).2 | (have := (blks_ok (l := l) (bs := bs) (by assumption)).2; exact setL_lt (fun c hc => by obtain ⟨j, hj, rfl⟩ := List.getElem_of_mem hc; rw [← gC_eq hj]; exact this j hj)))) (ArgVs.cons (ArgV.regv 5 l.length 1 (isl l)) (ArgVs.cons (ArgV.slv 6 bs.length 2 (csl bs)) (ArgVs.nil))) (ResV.val _))) (by kernel_rfl) ?_
  refine wpc (step_plain rfl (acts_un (d := 8) (ltN rfl) (OpV.tmp 7 (.bool (blks l bs))) (r_not (c := (!(blks l bs))) rfl))) (by kernel_rfl) ?_
  refine wpl_nil ?_
  refine wp_if (t := 8) ((!(blks l bs))) (by kernel_rfl) (fun c1 => ?_) (fun c1 => ?_)
  · skip
    have c2 : (blks l bs) = false := by simpa using c1
    refine wp_seq' ?_
    refine wp_region_t ?_
    refine wpc (step_plain rfl (acts_assign (d := 4) (ltN rfl) (OpX.const (.int .i64 0)))) (by kernel_rfl) ?_
    refine wpl_nil ?_
    refine wp_ret' ?_
    exact VRes.tmp 4 (.a (.val (.int .i64 0))) _ (by kernel_rfl) (bval (congrArg (Value.int .i64) (by first | (unfold defi; simp_all; done))))
  · skip
    have c3 : (blks l bs) = true := by simpa using c1
    refine wp_skip' ?_
    refine wp_seq' ?_
    refine wp_drawn' (by kernel_rfl) (AllSteps.cons (step_plain rfl (acts_move (d := 9) (ltN rfl) (OpX.tmp 1 (V.b (.a (.slv bs.length 2 (csl bs))))))) (AllSteps.cons (step_plain rfl (acts_call1 (d := 10) (ltN rfl) (impl_setOf_fn bs (by first | omega | assumption | (have q1 := wa_len l bs; have q2 := setCells_len (setL bs); omega) | exact (blks_ok (by assumption)).2 | (have := (blks_ok (l := l) (bs := bs) (by assumption)).2; exact setL_lt (fun c hc => by obtain ⟨j, hj, rfl⟩ := List.getElem_of_mem hc; rw [← gC_eq hj]; exact this j hj))) (by first | omega | assumption | (have q1 := wa_len l bs; have q2 := setCells_len (setL bs); omega) | exact (blks_ok (by assumption)).2 | (have := (blks_ok (l := l) (bs := bs) (by assumption)).2; exact setL_lt (fun c hc => by obtain ⟨j, hj, rfl⟩ := List.getElem_of_mem hc; rw [← gC_eq hj]; exact this j hj)))) (ArgVs.cons (ArgV.slv 9 bs.length 2 (csl bs)) (ArgVs.nil)) (ResV.val _))) (AllSteps.cons (step_plain rfl (acts_call1 (d := 11) (ltN rfl) (impl_set__cells_fn (setL bs) (by first | omega | assumption | (have q1 := wa_len l bs; have q2 := setCells_len (setL bs); omega) | exact (blks_ok (by assumption)).2 | (have := (blks_ok (l := l) (bs := bs) (by assumption)).2; exact setL_lt (fun c hc => by obtain ⟨j, hj, rfl⟩ := List.getElem_of_mem hc; rw [← gC_eq hj]; exact this j hj)))) (ArgVs.cons (ArgV.v (OpV.tmp 10 (.int .u64 (((setL bs) : Nat) : Int)))) (ArgVs.nil)) (ResV.row 53 2 ((setCells (setL bs)).length) (csl (setCells (setL bs))) 11))) (AllSteps.cons (step_plain rfl (acts_len (d := 12) (X := .sl 11 0 ((setCells (setL bs)).length)) (n := ((setCells (setL bs)).length)) (iv := (((setCells (setL bs)).length : Nat) : Int)) (ltN rfl) qC2_un_38 (OpX.tmp 11 (V.b (.a (.sl 11 0 ((setCells (setL bs)).length))))) (LenOf.sl _ _ _) rfl)) (AllSteps.cons (step_plain rfl (acts_load_owns (d := 13) (t := 2) (h := 2) (off := 0) (o := ⟨28, 1, true, [(.slv l.length 1 (isl l) : A)]⟩)  (xs := [(.slv l.length 1 (isl l) : A)]) (ltN rfl) qC2_ti_28 rfl (by decide) rfl)) (AllSteps.cons (step_plain rfl (acts_move (d := 14) (ltN rfl) (OpX.tmp 1 (V.b (.a (.slv bs.length 2 (csl bs))))))) (AllSteps.cons (step_plain rfl (acts_call1 (d := 15) (ltN rfl) (impl_WhiteAround_fn l bs (by first | omega | assumption | (have q1 := wa_len l bs; have q2 := setCells_len (setL bs); omega) | exact (blks_ok (by assumption)).2 | (have := (blks_ok (l := l) (bs := bs) (by assumption)).2; exact setL_lt (fun c hc => by obtain ⟨j, hj, rfl⟩ := List.getElem_of_mem hc; rw [← gC_eq hj]; exact this j hj))) (by first | omega | assumption | (have q1 := wa_len l bs; have q2 := setCells_len (setL bs); omega) | exact (blks_ok (by assumption)).2 | (have := (blks_ok (l := l) (bs := bs) (by assumption)).2; exact setL_lt (fun c hc => by obtain ⟨j, hj, rfl⟩ := List.getElem_of_mem hc; rw [← gC_eq hj]; exact this j hj)))) (ArgVs.cons (ArgV.regv 13 l.length 1 (isl l)) (ArgVs.cons (ArgV.slv 14 bs.length 2 (csl bs)) (ArgVs.nil))) (ResV.row 53 2 ((wa l bs).length) (csl (wa l bs)) 15))) (AllSteps.cons (step_plain rfl (acts_len (d := 16) (X := .sl 15 0 ((wa l bs).length)) (n := ((wa l bs).length)) (iv := (((wa l bs).length : Nat) : Int)) (ltN rfl) qC2_un_38 (OpX.tmp 15 (V.b (.a (.sl 15 0 ((wa l bs).length))))) (LenOf.sl _ _ _) rfl)) (AllSteps.cons (step_plain rfl (acts_bin (d := 17) (ltN rfl) (OpV.tmp 12 (.int .i64 (((setCells (setL bs)).length : Nat) : Int))) (OpV.tmp 16 (.int .i64 (((wa l bs).length : Nat) : Int))) (r_sub (c := ((((setCells (setL bs)).length : Nat) : Int) - (((wa l bs).length : Nat) : Int))) (w64 (by first | omega | assumption | (have q1 := wa_len l bs; have q2 := setCells_len (setL bs); omega) | exact (blks_ok (by assumption)).2 | (have := (blks_ok (l := l) (bs := bs) (by assumption)).2; exact setL_lt (fun c hc => by obtain ⟨j, hj, rfl⟩ := List.getElem_of_mem hc; rw [← gC_eq hj]; exact this j hj))) (by first | omega | assumption | (have q1 := wa_len l bs; have q2 := setCells_len (setL bs); omega) | exact (blks_ok (by assumption)).2 | (have := (blks_ok (l := l) (bs := bs) (by assumption)).2; exact setL_lt (fun c hc => by obtain ⟨j, hj, rfl⟩ := List.getElem_of_mem hc; rw [← gC_eq hj]; exact this j hj))))))) (AllSteps.cons (step_plain rfl (acts_assign (d := 4) (ltN rfl) (OpX.tmp 17 (V.v (.int .i64 ((((setCells (setL bs)).length : Nat) : Int) - (((wa l bs).length : Nat) : Int))))))) (AllSteps.nil))))))))))) (by kernel_rfl) (by kernel_rfl) (by kernel_rfl) ?_
    refine wp_ret' ?_
    exact VRes.tmp 4 (.a (.val (.int .i64 ((((setCells (setL bs)).length : Nat) : Int) - (((wa l bs).length : Nat) : Int))))) _ (by kernel_rfl) (bval (congrArg (Value.int .i64) (by unfold defi; rw [if_pos (by assumption)]; (try rfl))))

set_option maxHeartbeats 4000000 in
set_option maxRecDepth 100000 in
theorem spec_Deficit_fn (l : List Int) (bs : List Cel) (hl : l.length ≤ 4194304) (hb : bs.length ≤ 1048576) : Fn Try.prog 29 [.agg [(.slv l.length 1 (isl l) : A)], .a (.slv bs.length 2 (csl bs))] [.val (.int .i64 (defi l bs))] := by
  refine fn_intro (N := 34) Try.func29 rfl (by kernel_rfl) rfl (Nat.le_of_ble_eq_true rfl) [2, 9, 13, 24, 31, 32] (ret1 rfl) (fun W => ?_)
  show Wp _ _ _ [(.s 0, some (.s (V.b (.agg [(.slv l.length 1 (isl l) : A)])))), (.s 1, some (.s (V.b (.a (.slv bs.length 2 (csl bs)))))), (.o 2, some .free), (.o 9, some .free), (.o 13, some .free), (.o 24, some .free), (.o 31, some .free), (.o 32, some .free)]
  refine wp_seq' ?_
  refine wp_region_t ?_
  refine wpc (step_plain rfl (acts_box (d := 2) (h := 2) (b := .agg [(.slv l.length 1 (isl l) : A)]) (ltN rfl) (OpX.tmp 0 (V.b (.agg [(.slv l.length 1 (isl l) : A)]))) (by intro y hy; simp [B.cs] at hy; subst hy; rfl))) (by kernel_rfl) ?_
  refine wpc (step_plain rfl (acts_assign (d := 4) (ltN rfl) (OpX.const (.int .i64 0)))) (by kernel_rfl) ?_
  refine wpl_nil ?_
  refine wp_seq' ?_
  refine wp_seq' ?_
  refine wp_region_t ?_
  refine wpc (step_plain rfl (acts_load_owns (d := 7) (t := 2) (h := 2) (off := 0) (o := ⟨28, 1, true, [(.slv l.length 1 (isl l) : A)]⟩)  (xs := [(.slv l.length 1 (isl l) : A)]) (ltN rfl) qC2_ti_28 rfl (by decide) rfl)) (by kernel_rfl) ?_
  refine wpc (step_plain rfl (acts_move (d := 8) (ltN rfl) (OpX.tmp 1 (V.b (.a (.slv bs.length 2 (csl bs))))))) (by kernel_rfl) ?_
  refine wpc (step_plain rfl (acts_call1 (d := 9) (ltN rfl) (spec_l10Blacks_fn l bs (by first | omega | assumption | (have q1 := wa_len l bs; have q2 := setCells_len (setL (bs.take k)); unfold dcount at *; omega) | (simp; omega)) (by first | omega | assumption | (have q1 := wa_len l bs; have q2 := setCells_len (setL (bs.take k)); unfold dcount at *; omega) | (simp; omega))) (ArgVs.cons (ArgV.regv 7 l.length 1 (isl l)) (ArgVs.cons (ArgV.slv 8 bs.length 2 (csl bs)) (ArgVs.nil))) (ResV.val _))) (by kernel_rfl) ?_
  refine wpc (step_plain rfl (acts_un (d := 10) (ltN rfl) (OpV.tmp 9 (.bool (blks l bs))) (r_not (c := (!(blks l bs))) rfl))) (by kernel_rfl) ?_
  refine wpl_nil ?_
  refine wp_if (t := 10) ((!(blks l bs))) (by kernel_rfl) (fun c1 => ?_) (fun c1 => ?_)
  · skip
    have c2 : (blks l bs) = false := by simpa using c1
    refine wp_seq' ?_
    refine wp_region_t ?_
    refine wpc (step_plain rfl (acts_assign (d := 4) (ltN rfl) (OpX.const (.int .i64 0)))) (by kernel_rfl) ?_
    refine wpl_nil ?_
    refine wp_ret' ?_
    exact VRes.tmp 4 (.a (.val (.int .i64 0))) _ (by kernel_rfl) (bval (congrArg (Value.int .i64) (by first | (unfold defi; simp_all; done))))
  · skip
    have c3 : (blks l bs) = true := by simpa using c1
    refine wp_skip' ?_
    refine wp_seq' ?_
    refine wp_region_t ?_
    refine wpc (step_plain rfl (acts_assign (d := 5) (ltN rfl) (OpX.const (.int .i64 0)))) (by kernel_rfl) ?_
    refine wpl_nil ?_
    refine wp_seq' ?_
    refine wp_seq' ?_
    refine wp_region_t ?_
    refine wpc (step_plain rfl (acts_assign (d := 6) (ltN rfl) (OpX.const (.int .i64 0)))) (by kernel_rfl) ?_
    refine wpl_nil ?_
    refine wp_block' ?_
    refine wp_loop' (fun (k : Nat) => k ≤ bs.length) (fun (k : Nat) => [(.s 1, some (.s (V.b (.a (.slv bs.length 2 (csl bs)))))), (.s 2, some (.s (V.p 2 0))), (.s 4, some (.s (V.v (.int .i64 0)))), (.s 5, some (.s (V.v (.int .i64 ((dcount (bs.take k) : Nat) : Int))))), (.s 6, some (.s (V.v (.int .i64 ((k : Nat) : Int))))), (.o 2, some (.o ⟨28, 1, true, [(.slv l.length 1 (isl l) : A)]⟩)), (.o 9, some .free), (.o 13, some .free), (.o 24, some .free), (.o 31, some .free), (.o 32, some .free)]) (fun (k : Nat) => bs.length - k) ((0 : Nat)) (by exact (Nat.zero_le _ : 0 ≤ _)) (weak_of id [9, 13, 24, 31, 32] (by kernel_rfl) (wk_s (v' := V.b (.a (.slv bs.length 2 (csl bs)))) (by kernel_rfl) rfl rfl (wk_s (v' := V.p 2 0) (by kernel_rfl) rfl rfl (wk_s (v' := V.v (.int .i64 0)) (by kernel_rfl) rfl rfl (wk_s (v' := V.v (.int .i64 0)) (by kernel_rfl) (vint (by first | rfl | (rw [dcount_zero]; rfl) | (rw [dcount_snoc (by omega) hoo, if_pos (by assumption)]; simp; done) | (rw [dcount_snoc (by omega) hoo, if_neg (by simp_all)]; simp; done) | omega)) rfl (wk_s (v' := V.v (.int .i64 0)) (by kernel_rfl) (vint (by first | rfl | (rw [dcount_zero]; rfl) | (rw [dcount_snoc (by omega) hoo, if_pos (by assumption)]; simp; done) | (rw [dcount_snoc (by omega) hoo, if_neg (by simp_all)]; simp; done) | omega)) rfl (wk_o (o' := ⟨28, 1, true, [(.slv l.length 1 (isl l) : A)]⟩) (by kernel_rfl) (renob_l (fun h => h) rfl rfl) rfl (wk_f rfl (wk_f rfl (wk_f rfl (wk_f rfl (wk_f rfl (wk_nil))))))))))))) ?_
    rintro k inv4
    replace inv4 : k ≤ bs.length := inv4
    have inv := inv4
    show Wp _ _ _ [(.s 1, some (.s (V.b (.a (.slv bs.length 2 (csl bs)))))), (.s 2, some (.s (V.p 2 0))), (.s 4, some (.s (V.v (.int .i64 0)))), (.s 5, some (.s (V.v (.int .i64 ((dcount (bs.take k) : Nat) : Int))))), (.s 6, some (.s (V.v (.int .i64 ((k : Nat) : Int))))), (.o 2, some (.o ⟨28, 1, true, [(.slv l.length 1 (isl l) : A)]⟩)), (.o 9, some .free), (.o 13, some .free), (.o 24, some .free), (.o 31, some .free), (.o 32, some .free)]
    have hd64 : dcount (bs.take k) ≤ 64 := dcount_le
    have hoo := (blks_ok (l := l) (bs := bs) (by assumption)).2
    refine wp_seq' ?_
    refine wp_seq' ?_
    refine wp_region_t ?_
    refine wpc (step_plain rfl (acts_move (d := 11) (ltN rfl) (OpX.tmp 6 (V.v (.int .i64 ((k : Nat) : Int)))))) (by kernel_rfl) ?_
    refine wpc (step_plain rfl (acts_move (d := 12) (ltN rfl) (OpX.tmp 1 (V.b (.a (.slv bs.length 2 (csl bs))))))) (by kernel_rfl) ?_
    refine wpc (step_plain rfl (acts_len (d := 13) (X := .slv bs.length 2 (csl bs)) (n := bs.length) (iv := ((bs.length : Nat) : Int)) (ltN rfl) qC2_un_38 (OpX.tmp 12 (V.b (.a (.slv bs.length 2 (csl bs))))) (LenOf.slv _ _ _) rfl)) (by kernel_rfl) ?_
    refine wpc (step_plain rfl (acts_bin (d := 14) (ltN rfl) (OpV.tmp 11 (.int .i64 ((k : Nat) : Int))) (OpV.tmp 13 (.int .i64 ((bs.length : Nat) : Int))) (r_lss (c := (decide (((k : Nat) : Int) < ((bs.length : Nat) : Int)))) rfl))) (by kernel_rfl) ?_
    refine wpl_nil ?_
    refine wp_if (t := 14) (decide (((k : Nat) : Int) < ((bs.length : Nat) : Int))) (by kernel_rfl) (fun c5 => ?_) (fun c5 => ?_)
    · skip
      have c5P := of_decide_eq_true c5
      refine wp_skip' ?_
      refine wp_seq' ?_
      refine wp_block' ?_
      refine wp_seq' ?_
      refine wp_drawn' (by kernel_rfl) (AllSteps.cons (step_plain rfl (acts_move (d := 17) (ltN rfl) (OpX.tmp 1 (V.b (.a (.slv bs.length 2 (csl bs))))))) (AllSteps.cons (step_plain rfl (acts_move (d := 18) (ltN rfl) (OpX.tmp 6 (V.v (.int .i64 ((k : Nat) : Int)))))) (AllSteps.cons (step_plain rfl (acts_slice_v (d := 19) (x := 17) (n := bs.length) (l := 0) (h := k) (m := ((bs.take k).length)) (xs := csl bs) (ys := csl (bs.take k)) (ltN rfl) qC2_un_38 qC2_sz_53 (OpB.no 0) (OpB.so bs.length k (OpV.tmp 18 (.int .i64 ((k : Nat) : Int))) rfl) (by first | omega | assumption | (have q1 := wa_len l bs; have q2 := setCells_len (setL (bs.take k)); unfold dcount at *; omega) | (simp; omega)) (by first | omega | assumption | (have q1 := wa_len l bs; have q2 := setCells_len (setL (bs.take k)); unfold dcount at *; omega) | (simp; omega)) (by first | (simp; done) | (simp; omega)) (sub_cels_take _ _))) (AllSteps.cons (step_plain rfl (acts_move (d := 20) (ltN rfl) (OpX.tmp 1 (V.b (.a (.slv bs.length 2 (csl bs))))))) (AllSteps.cons (step_plain rfl (acts_move (d := 21) (ltN rfl) (OpX.tmp 6 (V.v (.int .i64 ((k : Nat) : Int)))))) (AllSteps.cons (step_plain rfl (acts_index_v (d := 22) (x := 20) (n := bs.length) (s := 2) (k := k) (xs := csl bs) (ltN rfl) qC2_un_38 qC2_sz_53 (OpV.tmp 21 (.int .i64 ((k : Nat) : Int))) rfl (by first | omega | assumption | (have q1 := wa_len l bs; have q2 := setCells_len (setL (bs.take k)); unfold dcount at *; omega) | (simp; omega)))) (AllSteps.cons (step_plain rfl (acts_load_vs (d := 23) (t := 22) (s := 2) (off := (k * 2)) (xs := csl bs)  (vs := [(.int .i64 ((gC bs k).x) : Value), .int .i64 ((gC bs k).y)]) (ltN rfl) qC2_ti_53 rfl (csl_at (k := k) (by first | omega | assumption | (have q1 := wa_len l bs; have q2 := setCells_len (setL (bs.take k)); unfold dcount at *; omega) | (simp; omega))))) (AllSteps.cons (step_plain rfl (acts_call1 (d := 24) (ltN rfl) (spec_l10Has_fn (bs.take k) (gC bs k) (by first | omega | assumption | (have q1 := wa_len l bs; have q2 := setCells_len (setL (bs.take k)); unfold dcount at *; omega) | (simp; omega))) (ArgVs.cons (ArgV.slv 19 ((bs.take k).length) 2 (csl (bs.take k))) (ArgVs.cons (ArgV.va (vs := [(.int .i64 ((gC bs k).x) : Value), .int .i64 ((gC bs k).y)]) (OpV.agg 23 [(.int .i64 ((gC bs k).x) : Value), .int .i64 ((gC bs k).y)])) (ArgVs.nil))) (ResV.val _))) (AllSteps.cons (step_plain rfl (acts_un (d := 25) (ltN rfl) (OpV.tmp 24 (.bool (hasCel (bs.take k) (gC bs k)))) (r_not (c := (!(hasCel (bs.take k) (gC bs k)))) rfl))) (AllSteps.nil)))))))))) (by kernel_rfl) (by kernel_rfl) (by kernel_rfl) ?_
      refine wp_if (t := 25) ((!(hasCel (bs.take k) (gC bs k)))) (by kernel_rfl) (fun c6 => ?_) (fun c6 => ?_)
      · skip
        have c7 : (hasCel (bs.take k) (gC bs k)) = false := by simpa using c6
        refine wp_region_t ?_
        refine wpc (step_plain rfl (acts_move (d := 26) (ltN rfl) (OpX.tmp 5 (V.v (.int .i64 ((dcount (bs.take k) : Nat) : Int)))))) (by kernel_rfl) ?_
        refine wpc (step_plain rfl (acts_bin (d := 27) (ltN rfl) (OpV.tmp 26 (.int .i64 ((dcount (bs.take k) : Nat) : Int))) (OpV.const (.int .i64 1)) (r_add (c := (((dcount (bs.take k) : Nat) : Int) + 1)) (w64 (by first | omega | assumption | (have q1 := wa_len l bs; have q2 := setCells_len (setL (bs.take k)); unfold dcount at *; omega) | (simp; omega)) (by first | omega | assumption | (have q1 := wa_len l bs; have q2 := setCells_len (setL (bs.take k)); unfold dcount at *; omega) | (simp; omega)))))) (by kernel_rfl) ?_
        refine wpc (step_plain rfl (acts_assign (d := 5) (ltN rfl) (OpX.tmp 27 (V.v (.int .i64 (((dcount (bs.take k) : Nat) : Int) + 1)))))) (by kernel_rfl) ?_
        refine wpl_nil ?_
        refine wp_region_t ?_
        refine wpc (step_plain rfl (acts_move (d := 15) (ltN rfl) (OpX.tmp 6 (V.v (.int .i64 ((k : Nat) : Int)))))) (by kernel_rfl) ?_
        refine wpc (step_plain rfl (acts_bin (d := 16) (ltN rfl) (OpV.tmp 15 (.int .i64 ((k : Nat) : Int))) (OpV.const (.int .i64 1)) (r_add (c := (((k : Nat) : Int) + 1)) (w64 (by first | omega | assumption | (have q1 := wa_len l bs; have q2 := setCells_len (setL (bs.take k)); unfold dcount at *; omega) | (simp; omega)) (by first | omega | assumption | (have q1 := wa_len l bs; have q2 := setCells_len (setL (bs.take k)); unfold dcount at *; omega) | (simp; omega)))))) (by kernel_rfl) ?_
        refine wpc (step_plain rfl (acts_assign (d := 6) (ltN rfl) (OpX.tmp 16 (V.v (.int .i64 (((k : Nat) : Int) + 1)))))) (by kernel_rfl) ?_
        refine wpl_nil ?_
        exact loop_back ((k + 1)) (by show _ ≤ _; omega) (by show bs.length - (k + 1) < bs.length - k; omega) (weak_of id [9, 13, 24, 31, 32] (by kernel_rfl) (wk_s (v' := V.b (.a (.slv bs.length 2 (csl bs)))) (by kernel_rfl) rfl rfl (wk_s (v' := V.p 2 0) (by kernel_rfl) rfl rfl (wk_s (v' := V.v (.int .i64 0)) (by kernel_rfl) rfl rfl (wk_s (v' := V.v (.int .i64 (((dcount (bs.take k) : Nat) : Int) + 1))) (by kernel_rfl) (vint (by first | rfl | (rw [dcount_zero]; rfl) | (rw [dcount_snoc (by omega) hoo, if_pos (by assumption)]; simp; done) | (rw [dcount_snoc (by omega) hoo, if_neg (by simp_all)]; simp; done) | omega)) rfl (wk_s (v' := V.v (.int .i64 (((k : Nat) : Int) + 1))) (by kernel_rfl) (vint (by first | rfl | (rw [dcount_zero]; rfl) | (rw [dcount_snoc (by omega) hoo, if_pos (by assumption)]; simp; done) | (rw [dcount_snoc (by omega) hoo, if_neg (by simp_all)]; simp; done) | omega)) rfl (wk_o (o' := ⟨28, 1, true, [(.slv l.length 1 (isl l) : A)]⟩) (by kernel_rfl) (renob_l (fun h => h) rfl rfl) rfl (wk_f rfl (wk_f rfl (wk_f rfl (wk_f rfl (wk_f rfl (wk_nil)))))))))))))
      · skip
        have c8 : (hasCel (bs.take k) (gC bs k)) = true := by simpa using c6
        refine wp_skip' ?_
        refine wp_region_t ?_
        refine wpc (step_plain rfl (acts_move (d := 15) (ltN rfl) (OpX.tmp 6 (V.v (.int .i64 ((k : Nat) : Int)))))) (by kernel_rfl) ?_
        refine wpc (step_plain rfl (acts_bin (d := 16) (ltN rfl) (OpV.tmp 15 (.int .i64 ((k : Nat) : Int))) (OpV.const (.int .i64 1)) (r_add (c := (((k : Nat) : Int) + 1)) (w64 (by first | omega | assumption | (have q1 := wa_len l bs; have q2 := setCells_len (setL (bs.take k)); unfold dcount at *; omega) | (simp; omega)) (by first | omega | assumption | (have q1 := wa_len l bs; have q2 := setCells_len (setL (bs.take k)); unfold dcount at *; omega) | (simp; omega)))))) (by kernel_rfl) ?_
        refine wpc (step_plain rfl (acts_assign (d := 6) (ltN rfl) (OpX.tmp 16 (V.v (.int .i64 (((k : Nat) : Int) + 1)))))) (by kernel_rfl) ?_
        refine wpl_nil ?_
        exact loop_back ((k + 1)) (by show _ ≤ _; omega) (by show bs.length - (k + 1) < bs.length - k; omega) (weak_of id [9, 13, 24, 31, 32] (by kernel_rfl) (wk_s (v' := V.b (.a (.slv bs.length 2 (csl bs)))) (by kernel_rfl) rfl rfl (wk_s (v' := V.p 2 0) (by kernel_rfl) rfl rfl (wk_s (v' := V.v (.int .i64 0)) (by kernel_rfl) rfl rfl (wk_s (v' := V.v (.int .i64 ((dcount (bs.take k) : Nat) : Int))) (by kernel_rfl) (vint (by first | rfl | (rw [dcount_zero]; rfl) | (rw [dcount_snoc (by omega) hoo, if_pos (by assumption)]; simp; done) | (rw [dcount_snoc (by omega) hoo, if_neg (by simp_all)]; simp; done) | omega)) rfl (wk_s (v' := V.v (.int .i64 (((k : Nat) : Int) + 1))) (by kernel_rfl) (vint (by first | rfl | (rw [dcount_zero]; rfl) | (rw [dcount_snoc (by omega) hoo, if_pos (by assumption)]; simp; done) | (rw [dcount_snoc (by omega) hoo, if_neg (by simp_all)]; simp; done) | omega)) rfl (wk_o (o' := ⟨28, 1, true, [(.slv l.length 1 (isl l) : A)]⟩) (by kernel_rfl) (renob_l (fun h => h) rfl rfl) rfl (wk_f rfl (wk_f rfl (wk_f rfl (wk_f rfl (wk_f rfl (wk_nil)))))))))))))
    · skip
      have c5P := of_decide_eq_false c5
      refine wp_exit' ?_
      refine wp_seq' ?_
      refine wp_region_t ?_
      refine wpc (step_plain rfl (acts_move (d := 28) (ltN rfl) (OpX.tmp 5 (V.v (.int .i64 ((dcount (bs.take k) : Nat) : Int)))))) (by kernel_rfl) ?_
      refine wpc (step_plain rfl (acts_load_owns (d := 29) (t := 2) (h := 2) (off := 0) (o := ⟨28, 1, true, [(.slv l.length 1 (isl l) : A)]⟩)  (xs := [(.slv l.length 1 (isl l) : A)]) (ltN rfl) qC2_ti_28 rfl (by decide) rfl)) (by kernel_rfl) ?_
      refine wpc (step_plain rfl (acts_move (d := 30) (ltN rfl) (OpX.tmp 1 (V.b (.a (.slv bs.length 2 (csl bs))))))) (by kernel_rfl) ?_
      refine wpc (step_plain rfl (acts_call1 (d := 31) (ltN rfl) (spec_WhiteAround_fn l bs (by first | omega | assumption | (have q1 := wa_len l bs; have q2 := setCells_len (setL (bs.take k)); unfold dcount at *; omega) | (simp; omega)) (by first | omega | assumption | (have q1 := wa_len l bs; have q2 := setCells_len (setL (bs.take k)); unfold dcount at *; omega) | (simp; omega))) (ArgVs.cons (ArgV.regv 29 l.length 1 (isl l)) (ArgVs.cons (ArgV.slv 30 bs.length 2 (csl bs)) (ArgVs.nil))) (ResV.row 53 2 ((wa l bs).length) (csl (wa l bs)) 31))) (by kernel_rfl) ?_
      refine wpc (step_plain rfl (acts_len (d := 32) (X := .sl 31 0 ((wa l bs).length)) (n := ((wa l bs).length)) (iv := (((wa l bs).length : Nat) : Int)) (ltN rfl) qC2_un_38 (OpX.tmp 31 (V.b (.a (.sl 31 0 ((wa l bs).length))))) (LenOf.sl _ _ _) rfl)) (by kernel_rfl) ?_
      refine wpc (step_plain rfl (acts_bin (d := 33) (ltN rfl) (OpV.tmp 28 (.int .i64 ((dcount (bs.take k) : Nat) : Int))) (OpV.tmp 32 (.int .i64 (((wa l bs).length : Nat) : Int))) (r_sub (c := (((dcount (bs.take k) : Nat) : Int) - (((wa l bs).length : Nat) : Int))) (w64 (by first | omega | assumption | (have q1 := wa_len l bs; have q2 := setCells_len (setL (bs.take k)); unfold dcount at *; omega) | (simp; omega)) (by first | omega | assumption | (have q1 := wa_len l bs; have q2 := setCells_len (setL (bs.take k)); unfold dcount at *; omega) | (simp; omega)))))) (by kernel_rfl) ?_
      refine wpc (step_plain rfl (acts_assign (d := 4) (ltN rfl) (OpX.tmp 33 (V.v (.int .i64 (((dcount (bs.take k) : Nat) : Int) - (((wa l bs).length : Nat) : Int))))))) (by kernel_rfl) ?_
      refine wpl_nil ?_
      refine wp_ret' ?_
      exact VRes.tmp 4 (.a (.val (.int .i64 (((dcount (bs.take k) : Nat) : Int) - (((wa l bs).length : Nat) : Int))))) _ (by kernel_rfl) (bval (congrArg (Value.int .i64) (by unfold defi; rw [if_pos (by assumption), List.take_of_length_le (by omega)])))

set_option maxHeartbeats 4000000 in
set_option maxRecDepth 100000 in
theorem impl_IsProofOf_fn (l : List Int) (bs : List Cel) (n : Int) (hl : l.length ≤ 4194304) (hb : bs.length ≤ 1048576) : Fn Try.prog 32 [.agg [(.slv l.length 1 (isl l) : A)], .a (.slv bs.length 2 (csl bs)), .a (.val (.int .i64 n))] [.val (.bool (decide (0 < n) && decide (n ≤ defi l bs)))] := by
  refine fn_intro (N := 16) Try.func32 rfl (by kernel_rfl) rfl (Nat.le_of_ble_eq_true rfl) [3, 12] (ret1 rfl) (fun W => ?_)
  show Wp _ _ _ [(.s 0, some (.s (V.b (.agg [(.slv l.length 1 (isl l) : A)])))), (.s 1, some (.s (V.b (.a (.slv bs.length 2 (csl bs)))))), (.s 2, some (.s (V.v (.int .i64 n)))), (.o 3, some .free), (.o 12, some .free)]
  refine wp_seq' ?_
  refine wp_region_t ?_
  refine wpc (step_plain rfl (acts_box (d := 3) (h := 3) (b := .agg [(.slv l.length 1 (isl l) : A)]) (ltN rfl) (OpX.tmp 0 (V.b (.agg [(.slv l.length 1 (isl l) : A)]))) (by intro y hy; simp [B.cs] at hy; subst hy; rfl))) (by kernel_rfl) ?_
  refine wpc (step_plain rfl (acts_assign (d := 6) (ltN rfl) (OpX.const (.bool false)))) (by kernel_rfl) ?_
  refine wpl_nil ?_
  refine wp_seq' ?_
  rcases Bool.eq_false_or_eq_true (decide (0 < n)) with c1 | c1
  · skip
    have c1P := of_decide_eq_true c1
    refine wp_region_t ?_
    refine wpc (step_plain rfl (acts_move (d := 7) (ltN rfl) (OpX.tmp 2 (V.v (.int .i64 n))))) (by kernel_rfl) ?_
    refine wpc (step_plain rfl (acts_bin (d := 8) (ltN rfl) (OpV.tmp 7 (.int .i64 n)) (OpV.const (.int .i64 0)) (r_gtr (c := true) c1))) (by kernel_rfl) ?_
    refine wpc (step_plain rfl (acts_move (d := 9) (ltN rfl) (OpX.tmp 8 (V.v (.bool true))))) (by kernel_rfl) ?_
    refine wpc (step_on (dj := 9) rfl rfl (acts_load_owns (d := 10) (t := 3) (h := 3) (off := 0) (o := ⟨28, 1, true, [(.slv l.length 1 (isl l) : A)]⟩)  (xs := [(.slv l.length 1 (isl l) : A)]) (ltN rfl) qC2_ti_28 rfl (by decide) rfl)) (by kernel_rfl) ?_
    refine wpc (step_on (dj := 9) rfl rfl (acts_move (d := 11) (ltN rfl) (OpX.tmp 1 (V.b (.a (.slv bs.length 2 (csl bs))))))) (by kernel_rfl) ?_
    refine wpc (step_on (dj := 9) rfl rfl (acts_call1 (d := 12) (ltN rfl) (impl_Deficit_fn l bs (by omega) (by omega)) (ArgVs.cons (ArgV.regv 10 l.length 1 (isl l)) (ArgVs.cons (ArgV.slv 11 bs.length 2 (csl bs)) (ArgVs.nil))) (ResV.val _))) (by kernel_rfl) ?_
    refine wpc (step_on (dj := 9) rfl rfl (acts_move (d := 13) (ltN rfl) (OpX.tmp 2 (V.v (.int .i64 n))))) (by kernel_rfl) ?_
    refine wpc (step_on (dj := 9) rfl rfl (acts_bin (d := 14) (ltN rfl) (OpV.tmp 12 (.int .i64 (defi l bs))) (OpV.tmp 13 (.int .i64 n)) (r_geq (c := (decide (n ≤ (defi l bs)))) rfl))) (by kernel_rfl) ?_
    refine wpc (step_plain rfl (acts_pick_t (d := 15) (ltN rfl) (OpV.tmp 9 (.bool true)) (OpX.tmp 14 (V.v (.bool (decide (n ≤ (defi l bs)))))))) (by kernel_rfl) ?_
    refine wpc (step_plain rfl (acts_assign (d := 6) (ltN rfl) (OpX.tmp 15 (V.v (.bool (decide (n ≤ (defi l bs)))))))) (by kernel_rfl) ?_
    refine wpl_nil ?_
    refine wp_ret' ?_
    exact VRes.tmp 6 (.a (.val (.bool (decide (n ≤ (defi l bs)))))) _ (by kernel_rfl) (bval (congrArg Value.bool (by first | (simp_all; done) | (simp_all; omega))))
  · skip
    have c1P := of_decide_eq_false c1
    refine wp_region_t ?_
    refine wpc (step_plain rfl (acts_move (d := 7) (ltN rfl) (OpX.tmp 2 (V.v (.int .i64 n))))) (by kernel_rfl) ?_
    refine wpc (step_plain rfl (acts_bin (d := 8) (ltN rfl) (OpV.tmp 7 (.int .i64 n)) (OpV.const (.int .i64 0)) (r_gtr (c := false) c1))) (by kernel_rfl) ?_
    refine wpc (step_plain rfl (acts_move (d := 9) (ltN rfl) (OpX.tmp 8 (V.v (.bool false))))) (by kernel_rfl) ?_
    refine wpc (step_off (dj := 9) (b' := false) rfl rfl (by decide) rfl (ltN rfl)) (by kernel_rfl) ?_
    refine wpc (step_off (dj := 9) (b' := false) rfl rfl (by decide) rfl (ltN rfl)) (by kernel_rfl) ?_
    refine wpc (step_off (dj := 9) (b' := false) rfl rfl (by decide) rfl (ltN rfl)) (by kernel_rfl) ?_
    refine wpc (step_off (dj := 9) (b' := false) rfl rfl (by decide) rfl (ltN rfl)) (by kernel_rfl) ?_
    refine wpc (step_off (dj := 9) (b' := false) rfl rfl (by decide) rfl (ltN rfl)) (by kernel_rfl) ?_
    refine wpc (step_plain rfl (acts_pick_f (d := 15) (ltN rfl) (OpV.tmp 9 (.bool false)) (OpX.const (.bool false)))) (by kernel_rfl) ?_
    refine wpc (step_plain rfl (acts_assign (d := 6) (ltN rfl) (OpX.tmp 15 (V.v (.bool false))))) (by kernel_rfl) ?_
    refine wpl_nil ?_
    refine wp_ret' ?_
    exact VRes.tmp 6 (.a (.val (.bool false))) _ (by kernel_rfl) (bval (congrArg Value.bool (by first | (simp_all; done) | (simp_all; omega))))

set_option maxHeartbeats 4000000 in
set_option maxRecDepth 100000 in
theorem spec_IsProofOf_fn (l : List Int) (bs : List Cel) (n : Int) (hl : l.length ≤ 4194304) (hb : bs.length ≤ 1048576) : Fn Try.prog 31 [.agg [(.slv l.length 1 (isl l) : A)], .a (.slv bs.length 2 (csl bs)), .a (.val (.int .i64 n))] [.val (.bool (decide (0 < n) && decide (n ≤ defi l bs)))] := by
  refine fn_intro (N := 16) Try.func31 rfl (by kernel_rfl) rfl (Nat.le_of_ble_eq_true rfl) [3, 12] (ret1 rfl) (fun W => ?_)
  show Wp _ _ _ [(.s 0, some (.s (V.b (.agg [(.slv l.length 1 (isl l) : A)])))), (.s 1, some (.s (V.b (.a (.slv bs.length 2 (csl bs)))))), (.s 2, some (.s (V.v (.int .i64 n)))), (.o 3, some .free), (.o 12, some .free)]
  refine wp_seq' ?_
  refine wp_region_t ?_
  refine wpc (step_plain rfl (acts_box (d := 3) (h := 3) (b := .agg [(.slv l.length 1 (isl l) : A)]) (ltN rfl) (OpX.tmp 0 (V.b (.agg [(.slv l.length 1 (isl l) : A)]))) (by intro y hy; simp [B.cs] at hy; subst hy; rfl))) (by kernel_rfl) ?_
  refine wpc (step_plain rfl (acts_assign (d := 6) (ltN rfl) (OpX.const (.bool false)))) (by kernel_rfl) ?_
  refine wpl_nil ?_
  refine wp_seq' ?_
  rcases Bool.eq_false_or_eq_true (decide (0 < n)) with c1 | c1
  · skip
    have c1P := of_decide_eq_true c1
    refine wp_region_t ?_
    refine wpc (step_plain rfl (acts_move (d := 7) (ltN rfl) (OpX.tmp 2 (V.v (.int .i64 n))))) (by kernel_rfl) ?_
    refine wpc (step_plain rfl (acts_bin (d := 8) (ltN rfl) (OpV.tmp 7 (.int .i64 n)) (OpV.const (.int .i64 0)) (r_gtr (c := true) c1))) (by kernel_rfl) ?_
    refine wpc (step_plain rfl (acts_move (d := 9) (ltN rfl) (OpX.tmp 8 (V.v (.bool true))))) (by kernel_rfl) ?_
    refine wpc (step_on (dj := 9) rfl rfl (acts_load_owns (d := 10) (t := 3) (h := 3) (off := 0) (o := ⟨28, 1, true, [(.slv l.length 1 (isl l) : A)]⟩)  (xs := [(.slv l.length 1 (isl l) : A)]) (ltN rfl) qC2_ti_28 rfl (by decide) rfl)) (by kernel_rfl) ?_
    refine wpc (step_on (dj := 9) rfl rfl (acts_move (d := 11) (ltN rfl) (OpX.tmp 1 (V.b (.a (.slv bs.length 2 (csl bs))))))) (by kernel_rfl) ?_
    refine wpc (step_on (dj := 9) rfl rfl (acts_call1 (d := 12) (ltN rfl) (spec_Deficit_fn l bs (by omega) (by omega)) (ArgVs.cons (ArgV.regv 10 l.length 1 (isl l)) (ArgVs.cons (ArgV.slv 11 bs.length 2 (csl bs)) (ArgVs.nil))) (ResV.val _))) (by kernel_rfl) ?_
    refine wpc (step_on (dj := 9) rfl rfl (acts_move (d := 13) (ltN rfl) (OpX.tmp 2 (V.v (.int .i64 n))))) (by kernel_rfl) ?_
    refine wpc (step_on (dj := 9) rfl rfl (acts_bin (d := 14) (ltN rfl) (OpV.tmp 12 (.int .i64 (defi l bs))) (OpV.tmp 13 (.int .i64 n)) (r_geq (c := (decide (n ≤ (defi l bs)))) rfl))) (by kernel_rfl) ?_
    refine wpc (step_plain rfl (acts_pick_t (d := 15) (ltN rfl) (OpV.tmp 9 (.bool true)) (OpX.tmp 14 (V.v (.bool (decide (n ≤ (defi l bs)))))))) (by kernel_rfl) ?_
    refine wpc (step_plain rfl (acts_assign (d := 6) (ltN rfl) (OpX.tmp 15 (V.v (.bool (decide (n ≤ (defi l bs)))))))) (by kernel_rfl) ?_
    refine wpl_nil ?_
    refine wp_ret' ?_
    exact VRes.tmp 6 (.a (.val (.bool (decide (n ≤ (defi l bs)))))) _ (by kernel_rfl) (bval (congrArg Value.bool (by first | (simp_all; done) | (simp_all; omega))))
  · skip
    have c1P := of_decide_eq_false c1
    refine wp_region_t ?_
    refine wpc (step_plain rfl (acts_move (d := 7) (ltN rfl) (OpX.tmp 2 (V.v (.int .i64 n))))) (by kernel_rfl) ?_
    refine wpc (step_plain rfl (acts_bin (d := 8) (ltN rfl) (OpV.tmp 7 (.int .i64 n)) (OpV.const (.int .i64 0)) (r_gtr (c := false) c1))) (by kernel_rfl) ?_
    refine wpc (step_plain rfl (acts_move (d := 9) (ltN rfl) (OpX.tmp 8 (V.v (.bool false))))) (by kernel_rfl) ?_
    refine wpc (step_off (dj := 9) (b' := false) rfl rfl (by decide) rfl (ltN rfl)) (by kernel_rfl) ?_
    refine wpc (step_off (dj := 9) (b' := false) rfl rfl (by decide) rfl (ltN rfl)) (by kernel_rfl) ?_
    refine wpc (step_off (dj := 9) (b' := false) rfl rfl (by decide) rfl (ltN rfl)) (by kernel_rfl) ?_
    refine wpc (step_off (dj := 9) (b' := false) rfl rfl (by decide) rfl (ltN rfl)) (by kernel_rfl) ?_
    refine wpc (step_off (dj := 9) (b' := false) rfl rfl (by decide) rfl (ltN rfl)) (by kernel_rfl) ?_
    refine wpc (step_plain rfl (acts_pick_f (d := 15) (ltN rfl) (OpV.tmp 9 (.bool false)) (OpX.const (.bool false)))) (by kernel_rfl) ?_
    refine wpc (step_plain rfl (acts_assign (d := 6) (ltN rfl) (OpX.tmp 15 (V.v (.bool false))))) (by kernel_rfl) ?_
    refine wpl_nil ?_
    refine wp_ret' ?_
    exact VRes.tmp 6 (.a (.val (.bool false))) _ (by kernel_rfl) (bval (congrArg Value.bool (by first | (simp_all; done) | (simp_all; omega))))
end Cl
end Go.Proofs.Ytgeeiecmlpknoaa
