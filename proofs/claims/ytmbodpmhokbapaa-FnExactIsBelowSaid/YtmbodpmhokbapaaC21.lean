/- Walks over clean states, printed by wg.py. No statement is proved here. -/
import Derived.Test.YtmbodpmhokbapaaCl18
import Derived.Test.YtmbodpmhokbapaaC20
import Derived.Test.YtmbodpmhokbapaaC1
namespace Go.Proofs.Ytmbodpmhokbapaa
namespace Cl
open Go.ChangeShapes Go.WideShapes Go.ChangeAt Go.RowKit

theorem hasS_andn (a b : Nat) (w : Cel) : hasS (andn a b) w = (hasS a w && !(hasS b w)) := by
  unfold hasS; rw [andn_bit]; cases okc w.x w.y <;> simp
structure RIn (s : Nat) (c : Cel) (L : List Cel) (k : Nat) (M : List Cel) (j : Nat) : Prop where
  eq : M = ((nbs (gC L k)).take j).foldl (gst (okS s) (gC L k)) L
  nd : M.Nodup
  ok : ∀ x, x ∈ M → hasS s x = true
  kl : k + 1 ≤ M.length
theorem ginv_has {s : Nat} {c : Cel} {L : List Cel} {k : Nat} (hc : hasS s c = true) (h : GInv nbs (okS s) c L k) {x : Cel} (hx : x ∈ L) : hasS s x = true := PR.has hc (h.rc x hx)
theorem RIn.zero {s : Nat} {c : Cel} {L : List Cel} {k : Nat} (hc : hasS s c = true) (h : GInv nbs (okS s) c L k) (hk : k < L.length) : RIn s c L k L 0 :=
  ⟨rfl, h.nd, fun x hx => ginv_has hc h hx, hk⟩
theorem RIn.len {s : Nat} {c : Cel} {L M : List Cel} {k j : Nat} (h : RIn s c L k M j) : M.length ≤ 64 := by
  have h1 : (M.map idx).Nodup := by
    rw [List.Nodup, List.pairwise_map]
    refine List.Pairwise.imp_of_mem (fun {a b} ha hb hab e => hab ?_) h.nd
    exact idx_inj (hasS_ok (h.ok a ha)) (hasS_ok (h.ok b hb)) e
  have := nodup_len 64 (M.map idx) h1 (fun x hx => by
    obtain ⟨d, hd, rfl⟩ := List.mem_map.1 hx
    exact idx_lt (hasS_ok (h.ok d hd)))
  simpa using this
theorem RIn.lt {s : Nat} {c : Cel} {L M : List Cel} {k j : Nat} (h : RIn s c L k M j) : setL M < 18446744073709551616 := setL_lt fun x hx => hasS_ok (h.ok x hx)
theorem RIn.mem {s : Nat} {c : Cel} {L M : List Cel} {k j : Nat} (h : RIn s c L k M j) {w : Cel} (hw : okc w.x w.y = true) : hasS (setL M) w = true ↔ w ∈ M := setL_has (fun x hx => hasS_ok (h.ok x hx)) hw
theorem nbs_snoc (s : Nat) (own : Cel) (L : List Cel) {j : Nat} (hj : j < (nbs own).length) : ((nbs own).take (j + 1)).foldl (gst (okS s) own) L = gst (okS s) own (((nbs own).take j).foldl (gst (okS s) own) L) (gC (nbs own) j) := by
  rw [List.take_succ_eq_append_getElem hj, List.foldl_append, gC_eq hj]; rfl
theorem RIn.yes {s : Nat} {c : Cel} {L M : List Cel} {k j : Nat} (h : RIn s c L k M j) (hj : j < (nbs (gC L k)).length) (h1 : hasS s (gC (nbs (gC L k)) j) = true) (h2 : hasS (setL M) (gC (nbs (gC L k)) j) = false) : RIn s c L k (M ++ [gC (nbs (gC L k)) j]) (j + 1) := by
  have hn : gC (nbs (gC L k)) j ∉ M := fun hm => by
    rw [(h.mem (hasS_ok h1)).2 hm] at h2; cases h2
  refine ⟨?_, ?_, fun x hx => ?_, by rw [List.length_append]; have := h.kl; omega⟩
  · rw [nbs_snoc s _ L hj, ← h.eq, gst_yes (ok := okS s) (show okS s _ _ = true from h1) hn]
  · rw [List.nodup_append]
    refine ⟨h.nd, by simp, fun a ha b hb e => ?_⟩
    rw [List.mem_singleton] at hb
    subst hb; subst e; exact hn ha
  · rw [List.mem_append, List.mem_singleton] at hx
    rcases hx with hx | rfl
    · exact h.ok x hx
    · exact h1
theorem RIn.no {s : Nat} {c : Cel} {L M : List Cel} {k j : Nat} (h : RIn s c L k M j) (hj : j < (nbs (gC L k)).length) (h1 : hasS s (gC (nbs (gC L k)) j) = false ∨ hasS (setL M) (gC (nbs (gC L k)) j) = true) : RIn s c L k M (j + 1) := by
  refine ⟨?_, h.nd, h.ok, h.kl⟩
  rw [nbs_snoc s _ L hj, ← h.eq, gst_no]
  exact h1.imp id fun h2 => (h.mem (nbs_ok hj)).1 h2
theorem RIn.out {s : Nat} {c : Cel} {L M : List Cel} {k j : Nat} (hg : GInv nbs (okS s) c L k) (hk : k < L.length) (h : RIn s c L k M j) (hj : ¬ j < (nbs (gC L k)).length) : GInv nbs (okS s) c M (k + 1) := by
  have e := h.eq
  rw [List.take_of_length_le (by omega)] at e
  rw [e, gC_eq hk]
  exact hg.next hk
theorem rinit {s : Nat} {c : Cel} : GInv nbs (okS s) c [c] 0 := GInv.init _ _ _
noncomputable def pcs (l : List Int) (c : Cel) : List Cel := if hasC l c = true then setCells (rchS (regSet l) c) else []
theorem hasC_S {l : List Int} {c : Cel} (h : hasC l c = true) : regOk l = true ∧ hasS (regSet l) c = true := by
  unfold hasC at h; unfold hasS; simp only [Bool.and_eq_true] at *; exact ⟨h.1, h.2⟩
structure PInv (S t m : Nat) : Prop where
  lt : t < 18446744073709551616
  mem : ∀ w, hasS t w = true ↔ hasS S w = true ∧ ¬ seenP S m w
theorem PInv.zero {S : Nat} (hS : S < 18446744073709551616) : PInv S S 0 := ⟨hS, fun w => ⟨fun h => ⟨h, fun ⟨d, _, h, _⟩ => by omega⟩, fun h => h.1⟩⟩
theorem cells_pos {t : Nat} (ht : t < 18446744073709551616) (h0 : t ≠ 0) : 0 < (setCells t).length := by
  have hf := firstI_lt ht h0
  have hm : cN (firstI t) ∈ setCells t := set_mem.2 (by unfold hasS; rw [cN_ok hf.1, idx_cN hf.1, hf.2]; rfl)
  exact List.length_pos_of_mem hm
theorem cells_min {t : Nat} {d : Cel} (hd : hasS t d = true) : idx (gC (setCells t) 0) ≤ idx d := by
  obtain ⟨j, hj, e⟩ := List.getElem_of_mem (set_mem.2 hd)
  rw [← gC_eq hj] at e
  rcases Nat.eq_zero_or_pos j with rfl | hp
  · rw [e]; exact Nat.le_refl _
  · have := setCells_lt (s := t) hp hj
    rw [e] at this; omega
theorem PInv.next {S t m : Nat} (h : PInv S t m) (h0 : t ≠ 0) : m ≤ idx (gC (setCells t) 0) ∧ idx (gC (setCells t) 0) < 64 ∧ rootsP S (idx (gC (setCells t) 0) + 1) = rootsP S m + 1 ∧ PInv S (andn t (rchS t (gC (setCells t) 0))) (idx (gC (setCells t) 0) + 1) := by
  have hp := cells_pos h.lt h0
  have hc : hasS t (gC (setCells t) 0) = true := set_mem.1 (gC_mem hp)
  obtain ⟨h1, _, h3, h4, h5⟩ := root_of_first h.mem hc fun d hd => cells_min hd
  refine ⟨h1, idx_lt (hasS_ok hc), h3, andn_lt h.lt, fun w => ?_⟩
  rw [hasS_andn, Bool.and_eq_true, Bool.not_eq_true', h.mem w, h4 w]
  have h6 : hasS (rchS t (gC (setCells t) 0)) w = false ↔ ¬ PR S (gC (setCells t) 0) w := by
    rw [← h5 w, ← rchS_has hc]; simp
  rw [h6]
  constructor
  · rintro ⟨⟨a, b⟩, c⟩; exact ⟨a, fun q => q.elim b c⟩
  · rintro ⟨a, b⟩; exact ⟨⟨a, fun q => b (.inl q)⟩, fun q => b (.inr q)⟩
open Classical in
noncomputable def rootD (S : Nat) (c : Cel) : Bool := decide (rootC S c)
theorem pieces_eq (S : Nat) : piecesN S = ((setCells S).filter (rootD S)).length := by
  unfold piecesN rootsP
  congr 1
  refine List.filter_congr fun c hc => ?_
  unfold rootD
  rw [decide_eq_decide]
  exact ⟨fun h => h.2, fun h => ⟨idx_lt (hasS_ok (set_mem.1 hc)), h⟩⟩
noncomputable def pcN (l : List Int) : Nat := if regOk l = true then piecesN (regSet l) else 0
theorem pcN_no {l : List Int} (h : regOk l = false) : pcN l = 0 := by unfold pcN; rw [h]; rfl
theorem pcN_yes {l : List Int} (h : regOk l = true) : pcN l = piecesN (regSet l) := by unfold pcN; rw [if_pos h]
theorem pcN_eq (l : List Int) : pcN l = ((cellsOf l).filter (rootD (regSet l))).length := by
  unfold pcN cellsOf; split
  · exact pieces_eq _
  · rfl
theorem cell_has {l : List Int} {k : Nat} (h : k < (cellsOf l).length) : hasC l (gC (cellsOf l) k) = true ∧ hasS (regSet l) (gC (cellsOf l) k) = true := by
  have h1 := gC_mem h
  have hr : regOk l = true := by
    rcases Bool.eq_false_or_eq_true (regOk l) with hr | hr
    · exact hr
    · unfold cellsOf at h; rw [if_neg (by rw [hr]; simp)] at h; simp at h
  have h2 : hasS (regSet l) (gC (cellsOf l) k) = true := by
    unfold cellsOf at h1 ⊢
    rw [if_pos hr] at h1 ⊢
    exact set_mem.1 h1
  refine ⟨?_, h2⟩
  unfold hasC; unfold hasS at h2; rw [hr, h2]; rfl
theorem pcs_first {l : List Int} {k : Nat} (h : k < (cellsOf l).length) : 0 < (pcs l (gC (cellsOf l) k)).length ∧ ∀ b : Bool, (decide (gC (pcs l (gC (cellsOf l) k)) 0 = gC (cellsOf l) k) = b) → rootD (regSet l) (gC (cellsOf l) k) = b := by
  obtain ⟨h1, h2⟩ := cell_has h
  obtain ⟨h3, h4⟩ := first_piece h2
  unfold pcs; rw [if_pos h1]
  refine ⟨h4, fun b hb => ?_⟩
  unfold rootD; rw [← hb, decide_eq_decide]; exact h3.symm

theorem qC21_sz_53 : (Try.prog.info? 53).map (·.size) = some 2 := by kernel_rfl
theorem qC21_ti_53 : TI Try.prog 53 true 2 := ⟨⟨_, Try.underlying53, rfl⟩, by kernel_rfl⟩
theorem qC21_un_69 : Try.prog.underlying 69 = some (.slice 53) := Try.underlying69
theorem qC21_zi_53 : ZI Try.prog 53 (.agg #[.int .i64 0, .int .i64 0]) 2 16 := by unfold ZI; kernel_rfl
set_option maxHeartbeats 4000000 in
set_option maxRecDepth 100000 in
theorem impl_set__reach_fn (s : Nat) (c : Cel) (hs : s < 18446744073709551616) (hc : hasS s c = true) : Fn Try.prog 93 [.a (.val (.int .u64 ((s : Nat) : Int))), .agg ([(.int .i64 c.x : Value), .int .i64 c.y].map A.val)] [.val (.int .u64 (((rchS s c) : Nat) : Int))] := by
 have hcx := hasS_ok hc
 refine fn_intro (N := 47) Try.func93 rfl (by kernel_rfl) rfl (Nat.le_of_ble_eq_true rfl) [3, 7, 9, 11, 13, 15, 23, 24, 31, 35, 40, 43, 44] (ret1 rfl) (fun W => ?_)
 show Wp _ _ _ [(.s 0, some (.s (V.v (.int .u64 ((s : Nat) : Int))))), (.s 1, some (.s (V.av [(.int .i64 c.x : Value), .int .i64 c.y]))), (.o 3, some .free), (.o 7, some .free), (.o 9, some .free), (.o 11, some .free), (.o 13, some .free), (.o 15, some .free), (.o 23, some .free), (.o 24, some .free), (.o 31, some .free), (.o 35, some .free), (.o 40, some .free), (.o 43, some .free), (.o 44, some .free)]
 refine wp_seq' ?_
 refine wp_region_t ?_
 refine w1 (acts_box (d := 3) (h := 3) (b := .agg ([(.int .i64 c.x : Value), .int .i64 c.y].map A.val)) (ltN rfl) (OpX.tmp 1 (V.av [(.int .i64 c.x : Value), .int .i64 c.y])) (by intro y hy; simp [B.cs] at hy; rcases hy with rfl | rfl <;> rfl)) ?_
 refine w1 (acts_assign (d := 4) (ltN rfl) (OpX.const (.int .u64 0))) ?_
 refine wpl_nil ?_
 refine wp_seq' ?_
 refine wp_drawn' (by kernel_rfl) (AllSteps.cons (step_plain rfl (acts_load_owns (d := 10) (t := 3) (h := 3) (off := 0) (o := ⟨53, 2, true, [(.val (.int .i64 c.x) : A), .val (.int .i64 c.y)]⟩)  (xs := [(.int .i64 c.x : Value), .int .i64 c.y].map A.val) (ltN rfl) qC21_ti_53 rfl (by decide) rfl)) (AllSteps.cons (step_plain rfl (acts_call1 (d := 11) (ltN rfl) (impl_set__with_fn 0 c (by omega) (by omega)) (ArgVs.cons (ArgV.v (OpV.const (.int .u64 0))) (ArgVs.cons (ArgV.va (vs := [(.int .i64 c.x : Value), .int .i64 c.y]) (OpV.agg 10 [(.int .i64 c.x : Value), .int .i64 c.y])) (ArgVs.nil))) (ResV.val _))) (AllSteps.cons (step_plain rfl (acts_load_owns (d := 12) (t := 3) (h := 3) (off := 0) (o := ⟨53, 2, true, [(.val (.int .i64 c.x) : A), .val (.int .i64 c.y)]⟩)  (xs := [(.int .i64 c.x : Value), .int .i64 c.y].map A.val) (ltN rfl) qC21_ti_53 rfl (by decide) rfl)) (AllSteps.cons (step_plain rfl (acts_buildSlice' (d := 13) (h := 13) (n := 1) (s := 2) (xs := csl ([c] : List Cel)) (ltN rfl) qC21_un_69 qC21_zi_53 (OpVs.cons (i := 0) (OpV.agg 12 [(.int .i64 c.x : Value), .int .i64 c.y]) (OpVs.nil)) (by decide) (by decide) (by kernel_rfl) rfl)) (AllSteps.cons (step_plain rfl (asg 5 11 (V.v (.int .u64 (((addC 0 c) : Nat) : Int))))) (AllSteps.cons (step_plain rfl (asg 6 13 (V.b (.a (.sl 13 0 1))))) (AllSteps.nil))))))) (by kernel_rfl) (by kernel_rfl) (by kernel_rfl) ?_
 refine wp_seq' ?_
 refine wp_block' ?_
 refine wp_loop' (fun (x : Nat × Nat × (List Cel) × (List Cel)) => match x with | (k, off, L, Lw) => off ≤ Lw.length ∧ Lw.drop off = L.drop k ∧ GInv nbs (okS s) c L k) (fun (x : Nat × Nat × (List Cel) × (List Cel)) => match x with | (k, off, L, Lw) => [(.s 0, some (.s (V.v (.int .u64 ((s : Nat) : Int))))), (.s 5, some (.s (V.v (.int .u64 (((setL L) : Nat) : Int))))), (.s 6, some (.s (V.b (.a (.sl 13 off (Lw.length - off)))))), (.o 13, some (.o ⟨53, 2, false, pl (csl Lw)⟩)), (.o 3, some .free), (.o 7, some .free), (.o 9, some .free), (.o 11, some .free), (.o 15, some .free), (.o 23, some .free), (.o 24, some .free), (.o 31, some .free), (.o 35, some .free), (.o 40, some .free), (.o 43, some .free), (.o 44, some .free)]) (fun (x : Nat × Nat × (List Cel) × (List Cel)) => match x with | (k, off, L, Lw) => 64 - k) ((0 : Nat), (0 : Nat), ([c] : List Cel), ([c] : List Cel)) (by exact ⟨Nat.zero_le _, rfl, rinit⟩) (weak_of id [3, 7, 9, 11, 15, 23, 24, 31, 35, 40, 43, 44] (by kernel_rfl) (wk_s (v' := V.v (.int .u64 ((s : Nat) : Int))) (by kernel_rfl) rfl rfl (wk_s (v' := V.v (.int .u64 (((addC 0 c) : Nat) : Int))) (by kernel_rfl) (vint (by rfl)) rfl (wk_s (v' := V.b (.a (.sl 13 0 1))) (by kernel_rfl) (vsl (by rfl) rfl) rfl (wk_o (o' := ⟨53, 2, true, pl (csl [c])⟩) (by kernel_rfl) (renob_pl (fun h => by cases h)) rfl (wk_f rfl (wk_f rfl (wk_f rfl (wk_f rfl (wk_f rfl (wk_f rfl (wk_f rfl (wk_f rfl (wk_f rfl (wk_f rfl (wk_f rfl (wk_f rfl (wk_nil)))))))))))))))))) ?_
 rintro ⟨k, off, L, Lw⟩ inv1
 replace inv1 : off ≤ Lw.length ∧ Lw.drop off = L.drop k ∧ GInv nbs (okS s) c L k := inv1
 obtain ⟨inv1_0, inv1_1, inv1_2⟩ := inv1
 show Wp _ _ _ [(.s 0, some (.s (V.v (.int .u64 ((s : Nat) : Int))))), (.s 5, some (.s (V.v (.int .u64 (((setL L) : Nat) : Int))))), (.s 6, some (.s (V.b (.a (.sl 13 off (Lw.length - off)))))), (.o 13, some (.o ⟨53, 2, false, pl (csl Lw)⟩)), (.o 3, some .free), (.o 7, some .free), (.o 9, some .free), (.o 11, some .free), (.o 15, some .free), (.o 23, some .free), (.o 24, some .free), (.o 31, some .free), (.o 35, some .free), (.o 40, some .free), (.o 43, some .free), (.o 44, some .free)]
 have hg : GInv nbs (okS s) c L k := by assumption
 have hgl := ginv_len hc hg
 have hlt : setL L < 18446744073709551616 := setL_lt fun x hx => hasS_ok (ginv_has hc hg hx)
 refine wp_seq' ?_
 refine wp_seq' ?_
 refine wp_region_t ?_
 refine w1 (mv 14 6 (V.b (.a (.sl 13 off (Lw.length - off))))) ?_
 refine w1 (acts_len (d := 15) (X := .sl 13 off (Lw.length - off)) (n := (Lw.length - off)) (iv := (((Lw.length - off) : Nat) : Int)) (ltN rfl) qC21_un_69 (OpX.tmp 14 (V.b (.a (.sl 13 off (Lw.length - off))))) (LenOf.sl _ _ _) rfl) ?_
 refine w1 (bn 16 (OpV.tmp 15 (.int .i64 (((Lw.length - off) : Nat) : Int))) (OpV.const (.int .i64 0)) (r_gtr (c := (decide (0 < (((Lw.length - off) : Nat) : Int)))) rfl)) ?_
 refine wpl_nil ?_
 refine wp_if (t := 16) (decide (0 < (((Lw.length - off) : Nat) : Int))) (by kernel_rfl) (fun c2 => ?_) (fun c2 => ?_)
 ·skip
  have c2P := of_decide_eq_true c2
  have hdg := drop_get (L := Lw) (M := L) (i := off) (j := k) (by assumption) (by omega)
  obtain ⟨hk2, hown⟩ := hdg
  have hR0 := RIn.zero hc hg hk2
  refine wp_skip' ?_
  refine wp_block' ?_
  refine wp_seq' ?_
  refine wp_region_t ?_
  refine w1 (mv 17 6 (V.b (.a (.sl 13 off (Lw.length - off))))) ?_
  refine w1 (acts_index_sl (d := 18) (x := 17) (h := 13) (off := off) (n := (Lw.length - off)) (k := 0) (off' := (off * 2)) (o := ⟨53, 2, false, pl (csl Lw)⟩) (ltN rfl) qC21_un_69 qC21_sz_53 (OpV.const (.int .i64 0)) rfl (by omega) (by (simp; done))) ?_
  refine w1 (acts_load_owns (d := 19) (t := 18) (h := 13) (off := (off * 2)) (o := ⟨53, 2, false, pl (csl Lw)⟩)  (xs := [(.int .i64 ((gC Lw off).x) : Value), .int .i64 ((gC Lw off).y)].map A.val) (ltN rfl) qC21_ti_53 rfl (by decide) (pl_at (csl_at (k := off) (by omega)))) ?_
  refine w1 (acts_alloc' (d := 7) (h := 7) (cap := 1) (s := 2) (cells := [(.val (.int .i64 0) : A), .val (.int .i64 0)]) (ltN rfl) qC21_zi_53 rfl rfl (by decide)) ?_
  refine w1 (acts_store (t := 7) (h := 7) (off := 0) (o := ⟨53, 2, true, [(.val (.int .i64 0) : A), .val (.int .i64 0)]⟩) (b := .agg ([(.int .i64 ((gC Lw off).x) : Value), .int .i64 ((gC Lw off).y)].map A.val)) (cells := [(.val (.int .i64 ((gC Lw off).x)) : A), .val (.int .i64 ((gC Lw off).y))]) qC21_ti_53 (OpX.tmp 19 (V.av [(.int .i64 ((gC Lw off).x) : Value), .int .i64 ((gC Lw off).y)])) rfl (by decide) (by intro y hy; simp [B.cs] at hy; rcases hy with rfl | rfl <;> rfl) (Nat.le_of_ble_eq_true rfl) rfl) ?_
  refine wpl_nil ?_
  refine wp_seq' ?_
  refine wp_region_t ?_
  refine w1 (mv 20 6 (V.b (.a (.sl 13 off (Lw.length - off))))) ?_
  refine w1 (acts_slice_sl (d := 21) (x := 20) (h0 := 13) (off := off) (n := (Lw.length - off)) (l := 1) (h := (Lw.length - off)) (m := ((Lw.length - off) - 1)) (off' := (off + 1)) (o := ⟨53, 2, false, pl (csl Lw)⟩) (ltN rfl) qC21_un_69 qC21_sz_53 (OpB.so 0 1 (OpV.const (.int .i64 1)) rfl) (OpB.no (Lw.length - off)) (by omega) (by omega) rfl (by omega)) ?_
  refine w1 (asg 6 21 (V.b (.a (.sl 13 (off + 1) ((Lw.length - off) - 1))))) ?_
  refine wpl_nil ?_
  refine wp_seq' ?_
  refine wp_region_t ?_
  refine w1 (acts_load_owns (d := 22) (t := 7) (h := 7) (off := 0) (o := ⟨53, 2, true, [(.val (.int .i64 ((gC Lw off).x)) : A), .val (.int .i64 ((gC Lw off).y))]⟩)  (xs := [(.int .i64 ((gC Lw off).x) : Value), .int .i64 ((gC Lw off).y)].map A.val) (ltN rfl) qC21_ti_53 rfl (by decide) rfl) ?_
  refine w1 (acts_call1 (d := 23) (ltN rfl) (impl_NeighborsOf_fn (gC Lw off) ) (ArgVs.cons (ArgV.va (vs := [(.int .i64 ((gC Lw off).x) : Value), .int .i64 ((gC Lw off).y)]) (OpV.agg 22 [(.int .i64 ((gC Lw off).x) : Value), .int .i64 ((gC Lw off).y)])) (ArgVs.nil)) (ResV.row 53 2 ((nbs (gC Lw off)).length) (csl (nbs (gC Lw off))) 23)) ?_
  refine w1 (acts_len (d := 24) (X := .sl 23 0 ((nbs (gC Lw off)).length)) (n := ((nbs (gC Lw off)).length)) (iv := (((nbs (gC Lw off)).length : Nat) : Int)) (ltN rfl) qC21_un_69 (OpX.tmp 23 (V.b (.a (.sl 23 0 ((nbs (gC Lw off)).length))))) (LenOf.sl _ _ _) rfl) ?_
  refine w1 (acts_move (d := 25) (ltN rfl) (OpX.const (.int .i64 0))) ?_
  refine wpl_nil ?_
  refine wp_block' ?_
  refine wp_loop' (fun (x : Nat × Nat × (List Cel) × (List Cel)) => match x with | (j, off2, M, Lw2) => off2 ≤ Lw2.length ∧ Lw2.drop off2 = M.drop (k + 1) ∧ j ≤ (nbs (gC L k)).length ∧ RIn s c L k M j) (fun (x : Nat × Nat × (List Cel) × (List Cel)) => match x with | (j, off2, M, Lw2) => [(.s 0, some (.s (V.v (.int .u64 ((s : Nat) : Int))))), (.s 5, some (.s (V.v (.int .u64 (((setL M) : Nat) : Int))))), (.s 6, some (.s (V.b (.a (.sl 13 off2 (Lw2.length - off2)))))), (.s 23, some (.s (V.b (.a (.sl 23 0 ((nbs (gC Lw off)).length)))))), (.s 24, some (.s (V.v (.int .i64 (((nbs (gC Lw off)).length : Nat) : Int))))), (.s 25, some (.s (V.v (.int .i64 ((j : Nat) : Int))))), (.o 13, some (.o ⟨53, 2, false, pl (csl Lw2)⟩)), (.o 23, some (.o ⟨53, 2, true, pl (csl (nbs (gC Lw off)))⟩)), (.o 3, some .free), (.o 7, some .free), (.o 9, some .free), (.o 11, some .free), (.o 15, some .free), (.o 24, some .free), (.o 31, some .free), (.o 35, some .free), (.o 40, some .free), (.o 43, some .free), (.o 44, some .free)]) (fun (x : Nat × Nat × (List Cel) × (List Cel)) => match x with | (j, off2, M, Lw2) => (nbs (gC L k)).length - j) ((0 : Nat), ((off + 1) : Nat), (L : List Cel), (Lw : List Cel)) (by exact ⟨by omega, drop_more (by assumption), Nat.zero_le _, hR0⟩) (weak_of id [3, 7, 9, 11, 15, 24, 31, 35, 40, 43, 44] (by kernel_rfl) (wk_s (v' := V.v (.int .u64 ((s : Nat) : Int))) (by kernel_rfl) rfl rfl (wk_s (v' := V.v (.int .u64 (((setL L) : Nat) : Int))) (by kernel_rfl) rfl rfl (wk_s (v' := V.b (.a (.sl 13 (off + 1) ((Lw.length - off) - 1)))) (by kernel_rfl) (vsl (by rfl) rfl) rfl (wk_s (v' := V.b (.a (.sl 23 0 ((nbs (gC Lw off)).length)))) (by kernel_rfl) rfl rfl (wk_s (v' := V.v (.int .i64 (((nbs (gC Lw off)).length : Nat) : Int))) (by kernel_rfl) rfl rfl (wk_s (v' := V.v (.int .i64 0)) (by kernel_rfl) (vint (by rfl)) rfl (wk_o (o' := ⟨53, 2, false, pl (csl Lw)⟩) (by kernel_rfl) (renob_pl (fun h => h)) rfl (wk_o (o' := ⟨53, 2, true, pl (csl (nbs (gC Lw off)))⟩) (by kernel_rfl) (renob_pl (fun h => h)) rfl (wk_f rfl (wk_f rfl (wk_f rfl (wk_f rfl (wk_f rfl (wk_f rfl (wk_f rfl (wk_f rfl (wk_f rfl (wk_f rfl (wk_f rfl (wk_nil))))))))))))))))))))) ?_
  rintro ⟨j, off2, M, Lw2⟩ inv3
  replace inv3 : off2 ≤ Lw2.length ∧ Lw2.drop off2 = M.drop (k + 1) ∧ j ≤ (nbs (gC L k)).length ∧ RIn s c L k M j := inv3
  obtain ⟨inv3_0, inv3_1, inv3_2, inv3_3⟩ := inv3
  show Wp _ _ _ [(.s 0, some (.s (V.v (.int .u64 ((s : Nat) : Int))))), (.s 5, some (.s (V.v (.int .u64 (((setL M) : Nat) : Int))))), (.s 6, some (.s (V.b (.a (.sl 13 off2 (Lw2.length - off2)))))), (.s 23, some (.s (V.b (.a (.sl 23 0 ((nbs (gC Lw off)).length)))))), (.s 24, some (.s (V.v (.int .i64 (((nbs (gC Lw off)).length : Nat) : Int))))), (.s 25, some (.s (V.v (.int .i64 ((j : Nat) : Int))))), (.o 13, some (.o ⟨53, 2, false, pl (csl Lw2)⟩)), (.o 23, some (.o ⟨53, 2, true, pl (csl (nbs (gC Lw off)))⟩)), (.o 3, some .free), (.o 7, some .free), (.o 9, some .free), (.o 11, some .free), (.o 15, some .free), (.o 24, some .free), (.o 31, some .free), (.o 35, some .free), (.o 40, some .free), (.o 43, some .free), (.o 44, some .free)]
  have hR : RIn s c L k M j := by assumption
  have hml := hR.len
  have hmlt := hR.lt
  have hkl := hR.kl
  have hdr3 : Lw2.drop off2 = M.drop (k + 1) := by assumption
  have hdl3 := congrArg List.length hdr3
  simp only [List.length_drop] at hdl3
  have hn4 := nbs_len (gC Lw off)
  have hje : (nbs (gC Lw off)).length = (nbs (gC L k)).length := by rw [hown]
  refine wp_seq' ?_
  refine wp_region_t ?_
  refine w1 (bn 26 (OpV.tmp 25 (.int .i64 ((j : Nat) : Int))) (OpV.tmp 24 (.int .i64 (((nbs (gC Lw off)).length : Nat) : Int))) (r_lss (c := (decide (((j : Nat) : Int) < (((nbs (gC Lw off)).length : Nat) : Int)))) rfl)) ?_
  refine wpl_nil ?_
  refine wp_seq' ?_
  refine wp_if (t := 26) (decide (((j : Nat) : Int) < (((nbs (gC Lw off)).length : Nat) : Int))) (by kernel_rfl) (fun c4 => ?_) (fun c4 => ?_)
  ·skip
   have c4P := of_decide_eq_true c4
   have hO := nbs_ok (b := gC Lw off) (k := j) (by omega)
   refine wp_skip' ?_
   refine wp_seq' ?_
   refine wp_block' ?_
   refine wp_seq' ?_
   refine wp_region_t ?_
   refine w1 (acts_index_sl (d := 27) (x := 23) (h := 23) (off := 0) (n := ((nbs (gC Lw off)).length)) (k := j) (off' := (j * 2)) (o := ⟨53, 2, true, pl (csl (nbs (gC Lw off)))⟩) (ltN rfl) qC21_un_69 qC21_sz_53 (OpV.tmp 25 (.int .i64 ((j : Nat) : Int))) rfl (by omega) (by (simp; done))) ?_
   refine w1 (acts_load_owns (d := 28) (t := 27) (h := 23) (off := (j * 2)) (o := ⟨53, 2, true, pl (csl (nbs (gC Lw off)))⟩)  (xs := [(.int .i64 ((gC (nbs (gC Lw off)) j).x) : Value), .int .i64 ((gC (nbs (gC Lw off)) j).y)].map A.val) (ltN rfl) qC21_ti_53 rfl (by decide) (pl_at (csl_at (k := j) (by omega)))) ?_
   refine w1 (acts_alloc' (d := 9) (h := 9) (cap := 1) (s := 2) (cells := [(.val (.int .i64 0) : A), .val (.int .i64 0)]) (ltN rfl) qC21_zi_53 rfl rfl (by decide)) ?_
   refine w1 (acts_store (t := 9) (h := 9) (off := 0) (o := ⟨53, 2, true, [(.val (.int .i64 0) : A), .val (.int .i64 0)]⟩) (b := .agg ([(.int .i64 ((gC (nbs (gC Lw off)) j).x) : Value), .int .i64 ((gC (nbs (gC Lw off)) j).y)].map A.val)) (cells := [(.val (.int .i64 ((gC (nbs (gC Lw off)) j).x)) : A), .val (.int .i64 ((gC (nbs (gC Lw off)) j).y))]) qC21_ti_53 (OpX.tmp 28 (V.av [(.int .i64 ((gC (nbs (gC Lw off)) j).x) : Value), .int .i64 ((gC (nbs (gC Lw off)) j).y)])) rfl (by decide) (by intro y hy; simp [B.cs] at hy; rcases hy with rfl | rfl <;> rfl) (Nat.le_of_ble_eq_true rfl) rfl) ?_
   refine wpl_nil ?_
   refine wp_seq' ?_
   rcases Bool.eq_false_or_eq_true ((hasS s (gC (nbs (gC Lw off)) j))) with c5 | c5
   ·skip
    refine wp_region_t ?_
    refine w1 (mv 29 0 (V.v (.int .u64 ((s : Nat) : Int)))) ?_
    refine w1 (acts_load_owns (d := 30) (t := 9) (h := 9) (off := 0) (o := ⟨53, 2, true, [(.val (.int .i64 ((gC (nbs (gC Lw off)) j).x)) : A), .val (.int .i64 ((gC (nbs (gC Lw off)) j).y))]⟩)  (xs := [(.int .i64 ((gC (nbs (gC Lw off)) j).x) : Value), .int .i64 ((gC (nbs (gC Lw off)) j).y)].map A.val) (ltN rfl) qC21_ti_53 rfl (by decide) rfl) ?_
    refine w1 (acts_call1 (d := 31) (ltN rfl) (impl_set__has_fn s (gC (nbs (gC Lw off)) j) (by omega)) (ArgVs.cons (ArgV.v (OpV.tmp 29 (.int .u64 ((s : Nat) : Int)))) (ArgVs.cons (ArgV.va (vs := [(.int .i64 ((gC (nbs (gC Lw off)) j).x) : Value), .int .i64 ((gC (nbs (gC Lw off)) j).y)]) (OpV.agg 30 [(.int .i64 ((gC (nbs (gC Lw off)) j).x) : Value), .int .i64 ((gC (nbs (gC Lw off)) j).y)])) (ArgVs.nil))) ((resval (congrArg Value.bool c5)))) ?_
    refine w1 (mv 32 31 (V.v (.bool true))) ?_
    refine w2 (step_on (dj := 32) rfl rfl (mv 33 5 (V.v (.int .u64 (((setL M) : Nat) : Int))))) ?_
    refine w2 (step_on (dj := 32) rfl rfl (acts_load_owns (d := 34) (t := 9) (h := 9) (off := 0) (o := ⟨53, 2, true, [(.val (.int .i64 ((gC (nbs (gC Lw off)) j).x)) : A), .val (.int .i64 ((gC (nbs (gC Lw off)) j).y))]⟩)  (xs := [(.int .i64 ((gC (nbs (gC Lw off)) j).x) : Value), .int .i64 ((gC (nbs (gC Lw off)) j).y)].map A.val) (ltN rfl) qC21_ti_53 rfl (by decide) rfl)) ?_
    refine w2 (step_on (dj := 32) rfl rfl (acts_call1 (d := 35) (ltN rfl) (impl_set__has_fn (setL M) (gC (nbs (gC Lw off)) j) (by omega)) (ArgVs.cons (ArgV.v (OpV.tmp 33 (.int .u64 (((setL M) : Nat) : Int)))) (ArgVs.cons (ArgV.va (vs := [(.int .i64 ((gC (nbs (gC Lw off)) j).x) : Value), .int .i64 ((gC (nbs (gC Lw off)) j).y)]) (OpV.agg 34 [(.int .i64 ((gC (nbs (gC Lw off)) j).x) : Value), .int .i64 ((gC (nbs (gC Lw off)) j).y)])) (ArgVs.nil))) (ResV.val _))) ?_
    refine w2 (step_on (dj := 32) rfl rfl (acts_un (d := 36) (ltN rfl) (OpV.tmp 35 (.bool (hasS (setL M) (gC (nbs (gC Lw off)) j)))) (r_not (c := (!(hasS (setL M) (gC (nbs (gC Lw off)) j)))) rfl))) ?_
    refine w1 (acts_pick_t (d := 37) (ltN rfl) (OpV.tmp 32 (.bool true)) (OpX.tmp 36 (V.v (.bool (!(hasS (setL M) (gC (nbs (gC Lw off)) j))))))) ?_
    refine wpl_nil ?_
    refine wp_if (t := 37) ((!(hasS (setL M) (gC (nbs (gC Lw off)) j)))) (by kernel_rfl) (fun c6 => ?_) (fun c6 => ?_)
    ·skip
     have c7 : (hasS (setL M) (gC (nbs (gC Lw off)) j)) = false := by simpa using c6
     refine wp_seq' ?_
     refine wp_region_t ?_
     refine w1 (mv 38 5 (V.v (.int .u64 (((setL M) : Nat) : Int)))) ?_
     refine w1 (acts_load_owns (d := 39) (t := 9) (h := 9) (off := 0) (o := ⟨53, 2, true, [(.val (.int .i64 ((gC (nbs (gC Lw off)) j).x)) : A), .val (.int .i64 ((gC (nbs (gC Lw off)) j).y))]⟩)  (xs := [(.int .i64 ((gC (nbs (gC Lw off)) j).x) : Value), .int .i64 ((gC (nbs (gC Lw off)) j).y)].map A.val) (ltN rfl) qC21_ti_53 rfl (by decide) rfl) ?_
     refine w1 (acts_call1 (d := 40) (ltN rfl) (impl_set__with_fn (setL M) (gC (nbs (gC Lw off)) j) (by omega) (by omega)) (ArgVs.cons (ArgV.v (OpV.tmp 38 (.int .u64 (((setL M) : Nat) : Int)))) (ArgVs.cons (ArgV.va (vs := [(.int .i64 ((gC (nbs (gC Lw off)) j).x) : Value), .int .i64 ((gC (nbs (gC Lw off)) j).y)]) (OpV.agg 39 [(.int .i64 ((gC (nbs (gC Lw off)) j).x) : Value), .int .i64 ((gC (nbs (gC Lw off)) j).y)])) (ArgVs.nil))) (ResV.val _)) ?_
     refine w1 (asg 5 40 (V.v (.int .u64 (((addC (setL M) (gC (nbs (gC Lw off)) j)) : Nat) : Int)))) ?_
     refine wpl_nil ?_
     refine wp_region_t ?_
     refine w1 (mv 41 6 (V.b (.a (.sl 13 off2 (Lw2.length - off2))))) ?_
     refine w1 (acts_load_owns (d := 42) (t := 9) (h := 9) (off := 0) (o := ⟨53, 2, true, [(.val (.int .i64 ((gC (nbs (gC Lw off)) j).x)) : A), .val (.int .i64 ((gC (nbs (gC Lw off)) j).y))]⟩)  (xs := [(.int .i64 ((gC (nbs (gC Lw off)) j).x) : Value), .int .i64 ((gC (nbs (gC Lw off)) j).y)].map A.val) (ltN rfl) qC21_ti_53 rfl (by decide) rfl) ?_
     refine w1 (acts_buildSlice' (d := 43) (h := 43) (n := 1) (s := 2) (xs := csl ([(gC (nbs (gC Lw off)) j)] : List Cel)) (ltN rfl) qC21_un_69 qC21_zi_53 (OpVs.cons (i := 0) (OpV.agg 42 [(.int .i64 ((gC (nbs (gC Lw off)) j).x) : Value), .int .i64 ((gC (nbs (gC Lw off)) j).y)]) (OpVs.nil)) (by decide) (by decide) (by kernel_rfl) rfl) ?_
     refine w1 (acts_app_cels (d := 44) (x := 41) (h := 13) (off := off2) (h2 := 44) (n := (Lw2.length - off2)) (m := 1) (nm := ((Lw2.drop off2 ++ [(gC (nbs (gC Lw off)) j)]).length)) (X := .sl 43 0 1) (L := Lw2) (L2 := [(gC (nbs (gC Lw off)) j)]) (ex := false) (ltN rfl) qC21_un_69 qC21_zi_53 (by omega) (OpX.tmp 43 (V.b (.a (.sl 43 0 1)))) (src_own (h := 43) (T := 53) (s := 2) (ex := true) (n := 1) (by exact csl_len _)) (by omega) (by (simp; done))) ?_
     refine w1 (asg 6 44 (V.b (.a (.sl 44 0 ((Lw2.drop off2 ++ [(gC (nbs (gC Lw off)) j)]).length))))) ?_
     refine wpl_nil ?_
     refine wp_region_t ?_
     refine w1 (bn 45 (OpV.tmp 25 (.int .i64 ((j : Nat) : Int))) (OpV.const (.int .i64 1)) (r_add (c := (((j : Nat) : Int) + 1)) (w64 (by omega) (by omega)))) ?_
     refine w1 (mv 25 45 (V.v (.int .i64 (((j : Nat) : Int) + 1)))) ?_
     refine wpl_nil ?_
     exact loop_back ((j + 1), 0, (M ++ [(gC (nbs (gC Lw off)) j)]), (Lw2.drop off2 ++ [(gC (nbs (gC Lw off)) j)])) (by (refine ⟨Nat.zero_le _, drop_app (by assumption) (by assumption) _, by omega, ?_⟩; rw [hown] at *; exact hR.yes (by omega) (by assumption) (by assumption))) (by show (nbs (gC L k)).length - (j + 1) < (nbs (gC L k)).length - j; omega) (weak_of (subst1 [(13, 44)]) [3, 7, 9, 11, 15, 24, 31, 35, 40, 43, 44] (by kernel_rfl) (wk_s (v' := V.v (.int .u64 ((s : Nat) : Int))) (by kernel_rfl) rfl rfl (wk_s (v' := V.v (.int .u64 (((addC (setL M) (gC (nbs (gC Lw off)) j)) : Nat) : Int))) (by kernel_rfl) (vint (by (rw [setL_app]; done))) rfl (wk_s (v' := V.b (.a (.sl 44 0 ((Lw2.drop off2 ++ [(gC (nbs (gC Lw off)) j)]).length)))) (by kernel_rfl) (vsl (by rfl) rfl) rfl (wk_s (v' := V.b (.a (.sl 23 0 ((nbs (gC Lw off)).length)))) (by kernel_rfl) rfl rfl (wk_s (v' := V.v (.int .i64 (((nbs (gC Lw off)).length : Nat) : Int))) (by kernel_rfl) rfl rfl (wk_s (v' := V.v (.int .i64 (((j : Nat) : Int) + 1))) (by kernel_rfl) (vint (by rfl)) rfl (wk_o (o' := ⟨53, 2, false, pl (csl (Lw2.drop off2 ++ [(gC (nbs (gC Lw off)) j)]))⟩) (by kernel_rfl) (renob_pl (fun h => h)) rfl (wk_o (o' := ⟨53, 2, true, pl (csl (nbs (gC Lw off)))⟩) (by kernel_rfl) (renob_pl (fun h => h)) rfl (wk_f rfl (wk_f rfl (wk_f rfl (wk_f rfl (wk_f rfl (wk_f rfl (wk_f rfl (wk_f rfl (wk_f rfl (wk_f rfl (wk_f rfl (wk_nil)))))))))))))))))))))
    ·skip
     have c8 : (hasS (setL M) (gC (nbs (gC Lw off)) j)) = true := by simpa using c6
     refine wp_skip' ?_
     refine wp_region_t ?_
     refine w1 (bn 45 (OpV.tmp 25 (.int .i64 ((j : Nat) : Int))) (OpV.const (.int .i64 1)) (r_add (c := (((j : Nat) : Int) + 1)) (w64 (by omega) (by omega)))) ?_
     refine w1 (mv 25 45 (V.v (.int .i64 (((j : Nat) : Int) + 1)))) ?_
     refine wpl_nil ?_
     exact loop_back ((j + 1), off2, M, Lw2) (by (refine ⟨by assumption, by assumption, by omega, ?_⟩; rw [hown] at *; first | exact hR.no (by omega) (.inl (by assumption)) | exact hR.no (by omega) (.inr (by assumption)))) (by show (nbs (gC L k)).length - (j + 1) < (nbs (gC L k)).length - j; omega) (weak_of id [3, 7, 9, 11, 15, 24, 31, 35, 40, 43, 44] (by kernel_rfl) (wk_s (v' := V.v (.int .u64 ((s : Nat) : Int))) (by kernel_rfl) rfl rfl (wk_s (v' := V.v (.int .u64 (((setL M) : Nat) : Int))) (by kernel_rfl) rfl rfl (wk_s (v' := V.b (.a (.sl 13 off2 (Lw2.length - off2)))) (by kernel_rfl) rfl rfl (wk_s (v' := V.b (.a (.sl 23 0 ((nbs (gC Lw off)).length)))) (by kernel_rfl) rfl rfl (wk_s (v' := V.v (.int .i64 (((nbs (gC Lw off)).length : Nat) : Int))) (by kernel_rfl) rfl rfl (wk_s (v' := V.v (.int .i64 (((j : Nat) : Int) + 1))) (by kernel_rfl) (vint (by rfl)) rfl (wk_o (o' := ⟨53, 2, false, pl (csl Lw2)⟩) (by kernel_rfl) (renob_pl (fun h => h)) rfl (wk_o (o' := ⟨53, 2, true, pl (csl (nbs (gC Lw off)))⟩) (by kernel_rfl) (renob_pl (fun h => h)) rfl (wk_f rfl (wk_f rfl (wk_f rfl (wk_f rfl (wk_f rfl (wk_f rfl (wk_f rfl (wk_f rfl (wk_f rfl (wk_f rfl (wk_f rfl (wk_nil)))))))))))))))))))))
   ·skip
    refine wp_region_t ?_
    refine w1 (mv 29 0 (V.v (.int .u64 ((s : Nat) : Int)))) ?_
    refine w1 (acts_load_owns (d := 30) (t := 9) (h := 9) (off := 0) (o := ⟨53, 2, true, [(.val (.int .i64 ((gC (nbs (gC Lw off)) j).x)) : A), .val (.int .i64 ((gC (nbs (gC Lw off)) j).y))]⟩)  (xs := [(.int .i64 ((gC (nbs (gC Lw off)) j).x) : Value), .int .i64 ((gC (nbs (gC Lw off)) j).y)].map A.val) (ltN rfl) qC21_ti_53 rfl (by decide) rfl) ?_
    refine w1 (acts_call1 (d := 31) (ltN rfl) (impl_set__has_fn s (gC (nbs (gC Lw off)) j) (by omega)) (ArgVs.cons (ArgV.v (OpV.tmp 29 (.int .u64 ((s : Nat) : Int)))) (ArgVs.cons (ArgV.va (vs := [(.int .i64 ((gC (nbs (gC Lw off)) j).x) : Value), .int .i64 ((gC (nbs (gC Lw off)) j).y)]) (OpV.agg 30 [(.int .i64 ((gC (nbs (gC Lw off)) j).x) : Value), .int .i64 ((gC (nbs (gC Lw off)) j).y)])) (ArgVs.nil))) ((resval (congrArg Value.bool c5)))) ?_
    refine w1 (mv 32 31 (V.v (.bool false))) ?_
    refine w2 (step_off (dj := 32) (b' := false) rfl rfl (by decide) rfl (ltN rfl)) ?_
    refine w2 (step_off (dj := 32) (b' := false) rfl rfl (by decide) rfl (ltN rfl)) ?_
    refine w2 (step_off (dj := 32) (b' := false) rfl rfl (by decide) rfl (ltN rfl)) ?_
    refine w2 (step_off (dj := 32) (b' := false) rfl rfl (by decide) rfl (ltN rfl)) ?_
    refine w1 (acts_pick_f (d := 37) (ltN rfl) (OpV.tmp 32 (.bool false)) (OpX.const (.bool false))) ?_
    refine wpl_nil ?_
    refine wp_if_f (t := 37) (by kernel_rfl) ?_
    refine wp_skip' ?_
    refine wp_region_t ?_
    refine w1 (bn 45 (OpV.tmp 25 (.int .i64 ((j : Nat) : Int))) (OpV.const (.int .i64 1)) (r_add (c := (((j : Nat) : Int) + 1)) (w64 (by omega) (by omega)))) ?_
    refine w1 (mv 25 45 (V.v (.int .i64 (((j : Nat) : Int) + 1)))) ?_
    refine wpl_nil ?_
    exact loop_back ((j + 1), off2, M, Lw2) (by (refine ⟨by assumption, by assumption, by omega, ?_⟩; rw [hown] at *; first | exact hR.no (by omega) (.inl (by assumption)) | exact hR.no (by omega) (.inr (by assumption)))) (by show (nbs (gC L k)).length - (j + 1) < (nbs (gC L k)).length - j; omega) (weak_of id [3, 7, 9, 11, 15, 24, 31, 35, 40, 43, 44] (by kernel_rfl) (wk_s (v' := V.v (.int .u64 ((s : Nat) : Int))) (by kernel_rfl) rfl rfl (wk_s (v' := V.v (.int .u64 (((setL M) : Nat) : Int))) (by kernel_rfl) rfl rfl (wk_s (v' := V.b (.a (.sl 13 off2 (Lw2.length - off2)))) (by kernel_rfl) rfl rfl (wk_s (v' := V.b (.a (.sl 23 0 ((nbs (gC Lw off)).length)))) (by kernel_rfl) rfl rfl (wk_s (v' := V.v (.int .i64 (((nbs (gC Lw off)).length : Nat) : Int))) (by kernel_rfl) rfl rfl (wk_s (v' := V.v (.int .i64 (((j : Nat) : Int) + 1))) (by kernel_rfl) (vint (by rfl)) rfl (wk_o (o' := ⟨53, 2, false, pl (csl Lw2)⟩) (by kernel_rfl) (renob_pl (fun h => h)) rfl (wk_o (o' := ⟨53, 2, true, pl (csl (nbs (gC Lw off)))⟩) (by kernel_rfl) (renob_pl (fun h => h)) rfl (wk_f rfl (wk_f rfl (wk_f rfl (wk_f rfl (wk_f rfl (wk_f rfl (wk_f rfl (wk_f rfl (wk_f rfl (wk_f rfl (wk_f rfl (wk_nil)))))))))))))))))))))
  ·skip
   have c4P := of_decide_eq_false c4
   refine wp_exit' ?_
   exact Exists.intro ((k + 1), off2, M, Lw2) (And.intro (by exact ⟨by assumption, by assumption, RIn.out hg hk2 hR (by omega)⟩) (And.intro (by show 64 - (k + 1) < 64 - k; omega) (weak_of id [3, 7, 9, 11, 15, 23, 24, 31, 35, 40, 43, 44] (by kernel_rfl) (wk_s (v' := V.v (.int .u64 ((s : Nat) : Int))) (by kernel_rfl) rfl rfl (wk_s (v' := V.v (.int .u64 (((setL M) : Nat) : Int))) (by kernel_rfl) rfl rfl (wk_s (v' := V.b (.a (.sl 13 off2 (Lw2.length - off2)))) (by kernel_rfl) rfl rfl (wk_o (o' := ⟨53, 2, false, pl (csl Lw2)⟩) (by kernel_rfl) (renob_pl (fun h => h)) rfl (wk_f rfl (wk_f rfl (wk_f rfl (wk_f rfl (wk_f rfl (wk_f rfl (wk_f rfl (wk_f rfl (wk_f rfl (wk_f rfl (wk_f rfl (wk_f rfl (wk_nil))))))))))))))))))))
 ·skip
  have c2P := of_decide_eq_false c2
  have hend := drop_none (L := Lw) (M := L) (i := off) (j := k) (by assumption) (by assumption)
  refine wp_exit' ?_
  refine wp_seq' ?_
  refine wp_region_t ?_
  refine w1 (mv 46 5 (V.v (.int .u64 (((setL L) : Nat) : Int)))) ?_
  refine w1 (asg 4 46 (V.v (.int .u64 (((setL L) : Nat) : Int)))) ?_
  refine wpl_nil ?_
  refine wp_ret' ?_
  exact VRes.tmp 4 (.a (.val (.int .u64 (((setL L) : Nat) : Int)))) _ (by kernel_rfl) (bval (congrArg (Value.int .u64) (by rw [rch_end hc hg hend])))
end Cl
end Go.Proofs.Ytmbodpmhokbapaa
