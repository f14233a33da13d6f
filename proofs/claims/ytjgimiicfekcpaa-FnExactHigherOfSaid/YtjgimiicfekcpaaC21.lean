/- Walks over clean states, printed by wg.py. No statement is proved here. -/
import Derived.Test.YtjgimiicfekcpaaC20
import Derived.Test.YtjgimiicfekcpaaC1
import Derived.Test.YtjgimiicfekcpaaCl19
namespace Go.Proofs.Ytjgimiicfekcpaa
namespace Cl
open Go.ChangeShapes Go.WideShapes Go.ChangeAt Go.RowKit

theorem hasS_andn (a b : Nat) (w : Cel) : hasS (andn a b) w = (hasS a w && !(hasS b w)) := by
  unfold hasS; rw [andn_bit]; cases okc w.x w.y <;> simp
structure RIn (s : Nat) (c : Cel) (L : List Cel) (k : Nat) (M : List Cel) (j : Nat) : Prop where
  eq : M = ((nbs (gC L k)).take j).foldl (gst (okS s) (gC L k)) L
  nd : M.Nodup
  ok : ∀ x, x ∈ M → hasS s x = true
  kl : k + 1 ≤ M.length
theorem ginv_has {s : Nat} {c : Cel} {L : List Cel} {k : Nat} (hc : hasS s c = true) (h : GInv nbs (okS s) c L k) {x : Cel} (hx : x ∈ L) : hasS s x = true := PR.has hc (h.rc x hx)
theorem RIn.zero {s : Nat} {c : Cel} {L : List Cel} {k : Nat} (hc : hasS s c = true) (h : GInv nbs (okS s) c L k) (hk : k < L.length) : RIn s c L k L 0 :=
  ⟨rfl, h.nd, fun x hx => ginv_has hc h hx, hk⟩
theorem RIn.len {s : Nat} {c : Cel} {L M : List Cel} {k j : Nat} (h : RIn s c L k M j) : M.length ≤ 64 := by
  have h1 : (M.map idx).Nodup := by
    rw [List.Nodup, List.pairwise_map]
    refine List.Pairwise.imp_of_mem (fun {a b} ha hb hab e => hab ?_) h.nd
    exact idx_inj (hasS_ok (h.ok a ha)) (hasS_ok (h.ok b hb)) e
  have := nodup_len 64 (M.map idx) h1 (fun x hx => by
    obtain ⟨d, hd, rfl⟩ := List.mem_map.1 hx
    exact idx_lt (hasS_ok (h.ok d hd)))
  simpa using this
theorem RIn.lt {s : Nat} {c : Cel} {L M : List Cel} {k j : Nat} (h : RIn s c L k M j) : setL M < 18446744073709551616 := setL_lt fun x hx => hasS_ok (h.ok x hx)
theorem RIn.mem {s : Nat} {c : Cel} {L M : List Cel} {k j : Nat} (h : RIn s c L k M j) {w : Cel} (hw : okc w.x w.y = true) : hasS (setL M) w = true ↔ w ∈ M := setL_has (fun x hx => hasS_ok (h.ok x hx)) hw
theorem nbs_snoc (s : Nat) (own : Cel) (L : List Cel) {j : Nat} (hj : j < (nbs own).length) : ((nbs own).take (j + 1)).foldl (gst (okS s) own) L = gst (okS s) own (((nbs own).take j).foldl (gst (okS s) own) L) (gC (nbs own) j) := by
  rw [List.take_succ_eq_append_getElem hj, List.foldl_append, gC_eq hj]; rfl
theorem RIn.yes {s : Nat} {c : Cel} {L M : List Cel} {k j : Nat} (h : RIn s c L k M j) (hj : j < (nbs (gC L k)).length) (h1 : hasS s (gC (nbs (gC L k)) j) = true) (h2 : hasS (setL M) (gC (nbs (gC L k)) j) = false) : RIn s c L k (M ++ [gC (nbs (gC L k)) j]) (j + 1) := by
  have hn : gC (nbs (gC L k)) j ∉ M := fun hm => by
    rw [(h.mem (hasS_ok h1)).2 hm] at h2; cases h2
  refine ⟨?_, ?_, fun x hx => ?_, by rw [List.length_append]; have := h.kl; omega⟩
  · rw [nbs_snoc s _ L hj, ← h.eq, gst_yes (ok := okS s) (show okS s _ _ = true from h1) hn]
  · rw [List.nodup_append]
    refine ⟨h.nd, by simp, fun a ha b hb e => ?_⟩
    rw [List.mem_singleton] at hb
    subst hb; subst e; exact hn ha
  · rw [List.mem_append, List.mem_singleton] at hx
    rcases hx with hx | rfl
    · exact h.ok x hx
    · exact h1
theorem RIn.no {s : Nat} {c : Cel} {L M : List Cel} {k j : Nat} (h : RIn s c L k M j) (hj : j < (nbs (gC L k)).length) (h1 : hasS s (gC (nbs (gC L k)) j) = false ∨ hasS (setL M) (gC (nbs (gC L k)) j) = true) : RIn s c L k M (j + 1) := by
  refine ⟨?_, h.nd, h.ok, h.kl⟩
  rw [nbs_snoc s _ L hj, ← h.eq, gst_no]
  exact h1.imp id fun h2 => (h.mem (nbs_ok hj)).1 h2
theorem RIn.out {s : Nat} {c : Cel} {L M : List Cel} {k j : Nat} (hg : GInv nbs (okS s) c L k) (hk : k < L.length) (h : RIn s c L k M j) (hj : ¬ j < (nbs (gC L k)).length) : GInv nbs (okS s) c M (k + 1) := by
  have e := h.eq
  rw [List.take_of_length_le (by omega)] at e
  rw [e, gC_eq hk]
  exact hg.next hk
theorem rinit {s : Nat} {c : Cel} : GInv nbs (okS s) c [c] 0 := GInv.init _ _ _
theorem setL_one (c : Cel) : setL [c] = addC 0 c := rfl
/-- the reference's piece -/
noncomputable def pcs (l : List Int) (c : Cel) : List Cel := if hasC l c = true then setCells (rchS (regSet l) c) else []
theorem hasC_S {l : List Int} {c : Cel} (h : hasC l c = true) : regOk l = true ∧ hasS (regSet l) c = true := by
  unfold hasC at h; unfold hasS; simp only [Bool.and_eq_true] at *; exact ⟨h.1, h.2⟩
structure PInv (S t m : Nat) : Prop where
  lt : t < 18446744073709551616
  mem : ∀ w, hasS t w = true ↔ hasS S w = true ∧ ¬ seenP S m w
theorem PInv.zero {S : Nat} (hS : S < 18446744073709551616) : PInv S S 0 := ⟨hS, fun w => ⟨fun h => ⟨h, fun ⟨d, _, h, _⟩ => by omega⟩, fun h => h.1⟩⟩
theorem cells_pos {t : Nat} (ht : t < 18446744073709551616) (h0 : t ≠ 0) : 0 < (setCells t).length := by
  have hf := firstI_lt ht h0
  have hm : cN (firstI t) ∈ setCells t := set_mem.2 (by unfold hasS; rw [cN_ok hf.1, idx_cN hf.1, hf.2]; rfl)
  exact List.length_pos_of_mem hm
theorem cells_min {t : Nat} {d : Cel} (hd : hasS t d = true) : idx (gC (setCells t) 0) ≤ idx d := by
  obtain ⟨j, hj, e⟩ := List.getElem_of_mem (set_mem.2 hd)
  rw [← gC_eq hj] at e
  rcases Nat.eq_zero_or_pos j with rfl | hp
  · rw [e]; exact Nat.le_refl _
  · have := setCells_lt (s := t) hp hj
    rw [e] at this; omega
theorem PInv.next {S t m : Nat} (h : PInv S t m) (h0 : t ≠ 0) : m ≤ idx (gC (setCells t) 0) ∧ idx (gC (setCells t) 0) < 64 ∧ rootsP S (idx (gC (setCells t) 0) + 1) = rootsP S m + 1 ∧ PInv S (andn t (rchS t (gC (setCells t) 0))) (idx (gC (setCells t) 0) + 1) := by
  have hp := cells_pos h.lt h0
  have hc : hasS t (gC (setCells t) 0) = true := set_mem.1 (gC_mem hp)
  obtain ⟨h1, _, h3, h4, h5⟩ := root_of_first h.mem hc fun d hd => cells_min hd
  refine ⟨h1, idx_lt (hasS_ok hc), h3, andn_lt h.lt, fun w => ?_⟩
  rw [hasS_andn, Bool.and_eq_true, Bool.not_eq_true', h.mem w, h4 w]
  have h6 : hasS (rchS t (gC (setCells t) 0)) w = false ↔ ¬ PR S (gC (setCells t) 0) w := by
    rw [← h5 w, ← rchS_has hc]; simp
  rw [h6]
  constructor
  · rintro ⟨⟨a, b⟩, c⟩; exact ⟨a, fun q => q.elim b c⟩
  · rintro ⟨a, b⟩; exact ⟨⟨a, fun q => b (.inl q)⟩, fun q => b (.inr q)⟩
open Classical in
noncomputable def rootD (S : Nat) (c : Cel) : Bool := decide (rootC S c)
theorem pieces_eq (S : Nat) : piecesN S = ((setCells S).filter (rootD S)).length := by
  unfold piecesN rootsP
  congr 1
  refine List.filter_congr fun c hc => ?_
  unfold rootD
  rw [decide_eq_decide]
  exact ⟨fun h => h.2, fun h => ⟨idx_lt (hasS_ok (set_mem.1 hc)), h⟩⟩
noncomputable def pcN (l : List Int) : Nat := if regOk l = true then piecesN (regSet l) else 0
theorem pcN_no {l : List Int} (h : regOk l = false) : pcN l = 0 := by unfold pcN; rw [h]; rfl
theorem pcN_yes {l : List Int} (h : regOk l = true) : pcN l = piecesN (regSet l) := by unfold pcN; rw [if_pos h]
theorem pcN_eq (l : List Int) : pcN l = ((cellsOf l).filter (rootD (regSet l))).length := by
  unfold pcN cellsOf; split
  · exact pieces_eq _
  · rfl
theorem cell_has {l : List Int} {k : Nat} (h : k < (cellsOf l).length) : hasC l (gC (cellsOf l) k) = true ∧ hasS (regSet l) (gC (cellsOf l) k) = true := by
  have h1 := gC_mem h
  have hr : regOk l = true := by
    rcases Bool.eq_false_or_eq_true (regOk l) with hr | hr
    · exact hr
    · unfold cellsOf at h; rw [if_neg (by rw [hr]; simp)] at h; simp at h
  have h2 : hasS (regSet l) (gC (cellsOf l) k) = true := by
    unfold cellsOf at h1 ⊢
    rw [if_pos hr] at h1 ⊢
    exact set_mem.1 h1
  refine ⟨?_, h2⟩
  unfold hasC; unfold hasS at h2; rw [hr, h2]; rfl
theorem pcs_first {l : List Int} {k : Nat} (h : k < (cellsOf l).length) : 0 < (pcs l (gC (cellsOf l) k)).length ∧ ∀ b : Bool, (decide (gC (pcs l (gC (cellsOf l) k)) 0 = gC (cellsOf l) k) = b) → rootD (regSet l) (gC (cellsOf l) k) = b := by
  obtain ⟨h1, h2⟩ := cell_has h
  obtain ⟨h3, h4⟩ := first_piece h2
  unfold pcs; rw [if_pos h1]
  refine ⟨h4, fun b hb => ?_⟩
  unfold rootD; rw [← hb, decide_eq_decide]; exact h3.symm

theorem qC21_sz_52 : (Try.prog.info? 52).map (·.size) = some 2 := by kernel_rfl
theorem qC21_ti_52 : TI Try.prog 52 true 2 := ⟨⟨_, Try.underlying52, rfl⟩, by kernel_rfl⟩
theorem qC21_un_45 : Try.prog.underlying 45 = some (.slice 52) := Try.underlying45
theorem qC21_zi_52 : ZI Try.prog 52 (.agg #[.int .i64 0, .int .i64 0]) 2 16 := by unfold ZI; kernel_rfl
set_option maxHeartbeats 4000000 in
set_option maxRecDepth 100000 in
theorem impl_set__reach_fn (s : Nat) (c : Cel) (hs : s < 18446744073709551616) (hc : hasS s c = true) : Fn Try.prog 86 [.a (.val (.int .u64 ((s : Nat) : Int))), .agg ([vI c.x, vI c.y].map A.val)] [.val (.int .u64 (((rchS s c) : Nat) : Int))] := by
 have hcx := hasS_ok hc
 refine fn_intro (N := 47) Try.func86 rfl (by kernel_rfl) rfl (Nat.le_of_ble_eq_true rfl) [3, 7, 9, 11, 13, 15, 23, 24, 31, 35, 40, 43, 44] (ret1 rfl) (fun W => ?_)
 show Wp _ _ _ [kU 0 ((s : Nat) : Int), kV 1 (V.av [vI c.x, vI c.y]), kF 3, kF 7, kF 9, kF 11, kF 13, kF 15, kF 23, kF 24, kF 31, kF 35, kF 40, kF 43, kF 44]
 refine sq (rg ?_)
 refine z ?_ (h := fun ν => acts_box (h := 3) ν xt (by exact ob1 rfl))
 refine zk (nl (sq (wp_dr ?_)))
 refine zd ?_ (h := fun ν => acts_load_owns (xs := [vI c.x, vI c.y].map A.val) ν qC21_ti_52 rfl (by decide) rfl)
 refine zd ?_ (h := fun ν => acts_call1 ν (impl_set__with_fn 0 c (by first | omega | assumption | (simp; done)) (by first | omega | assumption | (simp; done))) (ac (ArgV.v vc) (ac (ArgV.va va) an)) rv)
 refine zd ?_ (h := fun ν => acts_load_owns (xs := [vI c.x, vI c.y].map A.val) ν qC21_ti_52 rfl (by decide) rfl)
 refine zd ?_ (h := fun ν => acts_buildSlice' (h := 13) (xs := csl ([c] : List Cel)) ν qC21_un_45 qC21_zi_52 (.cons va OpVs.nil) (by decide) (by decide) (by kernel_rfl) rfl)
 refine zd ?_ (h := fun ν => gt ν)
 refine zd ?_ (h := fun ν => gt ν)
 refine dw_nil (sq (bkk ?_))
 refine wp_loop' (fun ((k, off, L, Lw) : Nat × Nat × (List Cel) × (List Cel)) => off ≤ Lw.length ∧ Lw.drop off = L.drop k ∧ GInv nbs (okS s) c L k) (fun ((k, off, L, Lw) : Nat × Nat × (List Cel) × (List Cel)) => [kU 0 ((s : Nat) : Int), kU 5 (((setL L) : Nat) : Int), kS 6 13 off (Lw.length - off), kO 13 52 2 false (pl (csl Lw)), kF 3, kF 7, kF 9, kF 11, kF 15, kF 23, kF 24, kF 31, kF 35, kF 40, kF 43, kF 44]) (fun ((k, off, L, Lw) : Nat × Nat × (List Cel) × (List Cel)) => 64 - k) ((0 : Nat), (0 : Nat), ([c] : List Cel), ([c] : List Cel)) (by exact ⟨Nat.zero_le _, rfl, rinit⟩) (wkf id (wS <| wE (e := (vint (by first | rfl | exact (setL_one _).symm | exact setL_one _ | omega | (simp; done) | (simp; omega)))) <| wE (e := (vsl (by first | rfl | (simp; done) | (simp; omega) | omega | (exact congrArg List.length (by first | rfl | exact (setL_one _).symm | exact setL_one _ | omega | (simp; done) | (simp; omega)))) rfl)) <| wO (e := renob_pl (fun h => by cases h)) <| by (iterate 12 refine wF ?_); exact wN)) ?_
 rintro ⟨k, off, L, Lw⟩ inv1
 replace inv1 : off ≤ Lw.length ∧ Lw.drop off = L.drop k ∧ GInv nbs (okS s) c L k := inv1
 obtain ⟨inv1_0, inv1_1, inv1_2⟩ := inv1
 have hg : GInv nbs (okS s) c L k := by assumption
 have hgl := ginv_len hc hg
 have hlt : setL L < 18446744073709551616 := setL_lt fun x hx => hasS_ok (ginv_has hc hg hx)
 refine sq (sq (rg (zm ?_)))
 refine z ?_ (h := fun ν => lnS ν qC21_un_45)
 refine z ?_ (h := fun ν => acts_bin ν vt vc (r_gtr rfl))
 refine nl ?_
 refine wi (fun c2 => ?_) (fun c2 => ?_)
 ·skip
  have c2P := of_decide_eq_true c2
  have hdg := drop_get (L := Lw) (M := L) (i := off) (j := k) (by assumption) (by omega)
  obtain ⟨hk2, hown⟩ := hdg
  have hR0 := RIn.zero hc hg hk2
  refine sk (bkk (sq (rg (zm ?_))))
  refine z ?_ (h := fun ν => ixz ν qC21_un_45 qC21_sz_52 vc (by first | omega | assumption | (simp; done)))
  refine z ?_ (h := fun ν => lC ν qC21_ti_52 (by first | omega | assumption | (simp; done)))
  refine z ?_ (h := fun ν => acts_alloc' (h := 7) (cap := 1) (s := 2) (cells := [aI 0, aI 0]) ν qC21_zi_52 rfl rfl (by decide))
  refine z ?_ (h := fun _ => acts_store (cells := [aI ((gC Lw off).x), aI ((gC Lw off).y)]) qC21_ti_52 xt (by exact rfl) (by decide) (by exact ob1 rfl) (by exact Nat.le_of_ble_eq_true rfl) (by exact rfl))
  refine nl (sq (rg (zm ?_)))
  refine z ?_ (h := fun ν => slS (m := ((Lw.length - off) - 1)) (off' := (off + 1)) ν qC21_un_45 qC21_sz_52 (OpB.so _ 1 vc rfl) (OpB.no _) (by first | omega | assumption | (simp; done)) (by first | omega | assumption | (simp; done)) (by exact rfl) (by omega))
  refine za (nl (sq (rg ?_)))
  refine z ?_ (h := fun ν => acts_load_owns (xs := [vI ((gC Lw off).x), vI ((gC Lw off).y)].map A.val) ν qC21_ti_52 rfl (by decide) rfl)
  refine z ?_ (h := fun ν => acts_call1 ν (impl_NeighborsOf_fn (gC Lw off) ) (ac (ArgV.va va) an) (ResV.row _ _ _ _ 23))
  refine z ?_ (h := fun ν => lnS ν qC21_un_45)
  refine z ?_ (h := fun ν => mc ν)
  refine nl (bkk ?_)
  refine wp_loop' (fun ((j, off2, M, Lw2) : Nat × Nat × (List Cel) × (List Cel)) => off2 ≤ Lw2.length ∧ Lw2.drop off2 = M.drop (k + 1) ∧ j ≤ (nbs (gC L k)).length ∧ RIn s c L k M j) (fun ((j, off2, M, Lw2) : Nat × Nat × (List Cel) × (List Cel)) => [kU 0 ((s : Nat) : Int), kU 5 (((setL M) : Nat) : Int), kS 6 13 off2 (Lw2.length - off2), kS 23 23 0 ((nbs (gC Lw off)).length), kI 24 (((nbs (gC Lw off)).length : Nat) : Int), kI 25 ((j : Nat) : Int), kO 13 52 2 false (pl (csl Lw2)), kO 23 52 2 true (pl (csl (nbs (gC Lw off)))), kF 3, kF 7, kF 9, kF 11, kF 15, kF 24, kF 31, kF 35, kF 40, kF 43, kF 44]) (fun ((j, off2, M, Lw2) : Nat × Nat × (List Cel) × (List Cel)) => (nbs (gC L k)).length - j) ((0 : Nat), ((off + 1) : Nat), (L : List Cel), (Lw : List Cel)) (by exact ⟨by omega, drop_more (by assumption), Nat.zero_le _, hR0⟩) (wkf id (wS <| wS <| wE (e := (vsl (by first | rfl | (simp; done) | (simp; omega) | omega | (exact congrArg List.length (by first | rfl | omega | (rw [setL_app]; done) | (simp; done) | (simp; omega)))) rfl)) <| wS <| wS <| wE (e := (vint (by first | rfl | omega | (rw [setL_app]; done) | (simp; done) | (simp; omega)))) <| wP <| wP <| by (iterate 11 refine wF ?_); exact wN)) ?_
  rintro ⟨j, off2, M, Lw2⟩ inv3
  replace inv3 : off2 ≤ Lw2.length ∧ Lw2.drop off2 = M.drop (k + 1) ∧ j ≤ (nbs (gC L k)).length ∧ RIn s c L k M j := inv3
  obtain ⟨inv3_0, inv3_1, inv3_2, inv3_3⟩ := inv3
  have hR : RIn s c L k M j := by assumption
  have hml := hR.len
  have hmlt := hR.lt
  have hkl := hR.kl
  have hdr3 : Lw2.drop off2 = M.drop (k + 1) := by assumption
  have hdl3 := congrArg List.length hdr3
  simp only [List.length_drop] at hdl3
  have hn4 := nbs_len (gC Lw off)
  have hje : (nbs (gC Lw off)).length = (nbs (gC L k)).length := by rw [hown]
  refine sq (rg ?_)
  refine z ?_ (h := fun ν => acts_bin ν vt vt (r_lss rfl))
  refine nl (sq ?_)
  refine wi (fun c4 => ?_) (fun c4 => ?_)
  ·skip
   have c4P := of_decide_eq_true c4
   have hO := nbs_ok (b := gC Lw off) (k := j) (by omega)
   refine sk (sq (bkk (sq (rg ?_))))
   refine z ?_ (h := fun ν => ix0 ν qC21_un_45 qC21_sz_52 vt (hlt := (by first | omega | assumption | (simp; done))))
   refine z ?_ (h := fun ν => lC ν qC21_ti_52 (by first | omega | assumption | (simp; done)))
   refine z ?_ (h := fun ν => acts_alloc' (h := 9) (cap := 1) (s := 2) (cells := [aI 0, aI 0]) ν qC21_zi_52 rfl rfl (by decide))
   refine z ?_ (h := fun _ => acts_store (cells := [aI ((gC (nbs (gC Lw off)) j).x), aI ((gC (nbs (gC Lw off)) j).y)]) qC21_ti_52 xt (by exact rfl) (by decide) (by exact ob1 rfl) (by exact Nat.le_of_ble_eq_true rfl) (by exact rfl))
   refine nl (sq ?_)
   rcases Bool.eq_false_or_eq_true ((hasS s (gC (nbs (gC Lw off)) j))) with c5 | c5
   ·skip
    refine rg (zm ?_)
    refine z ?_ (h := fun ν => acts_load_owns (xs := [vI ((gC (nbs (gC Lw off)) j).x), vI ((gC (nbs (gC Lw off)) j).y)].map A.val) ν qC21_ti_52 rfl (by decide) rfl)
    refine z ?_ (h := fun ν => acts_call1 ν (impl_set__has_fn s (gC (nbs (gC Lw off)) j) (by first | omega | assumption | (simp; done))) (ac (ArgV.v vt) (ac (ArgV.va va) an)) (resval (congrArg Value.bool c5)))
    refine zm ?_
    refine zg ?_ (h := fun ν => step_on rfl rfl (mt ν))
    refine zg ?_ (h := fun ν => step_on rfl rfl (acts_load_owns (xs := [vI ((gC (nbs (gC Lw off)) j).x), vI ((gC (nbs (gC Lw off)) j).y)].map A.val) ν qC21_ti_52 rfl (by decide) rfl))
    refine zg ?_ (h := fun ν => step_on rfl rfl (acts_call1 ν (impl_set__has_fn (setL M) (gC (nbs (gC Lw off)) j) (by first | omega | assumption | (simp; done))) (ac (ArgV.v vt) (ac (ArgV.va va) an)) rv))
    refine zg ?_ (h := fun ν => step_on rfl rfl (acts_un ν vt (r_not rfl)))
    refine z ?_ (h := fun ν => acts_pick_t ν vt xt)
    refine nl ?_
    refine wi (b := (!(hasS (setL M) (gC (nbs (gC Lw off)) j)))) (fun c6 => ?_) (fun c6 => ?_)
    ·skip
     have c7 : (hasS (setL M) (gC (nbs (gC Lw off)) j)) = false := by first | simpa using c6 | (rw [← Bool.not_eq_true']; exact c6)
     refine sq (rg (zm ?_))
     refine z ?_ (h := fun ν => acts_load_owns (xs := [vI ((gC (nbs (gC Lw off)) j).x), vI ((gC (nbs (gC Lw off)) j).y)].map A.val) ν qC21_ti_52 rfl (by decide) rfl)
     refine z ?_ (h := fun ν => acts_call1 ν (impl_set__with_fn (setL M) (gC (nbs (gC Lw off)) j) (by first | omega | assumption | (simp; done)) (by first | omega | assumption | (simp; done))) (ac (ArgV.v vt) (ac (ArgV.va va) an)) rv)
     refine za (nl (rg (zm ?_)))
     refine z ?_ (h := fun ν => acts_load_owns (xs := [vI ((gC (nbs (gC Lw off)) j).x), vI ((gC (nbs (gC Lw off)) j).y)].map A.val) ν qC21_ti_52 rfl (by decide) rfl)
     refine z ?_ (h := fun ν => acts_buildSlice' (h := 43) (xs := csl ([(gC (nbs (gC Lw off)) j)] : List Cel)) ν qC21_un_45 qC21_zi_52 (.cons va OpVs.nil) (by decide) (by decide) (by kernel_rfl) rfl)
     refine z ?_ (h := fun ν => acts_app_cels (h2 := 44) (m := 1) (nm := ((Lw2.drop off2 ++ [(gC (nbs (gC Lw off)) j)]).length)) (X := .sl 43 0 1) (L := Lw2) (L2 := [(gC (nbs (gC Lw off)) j)]) ν qC21_un_45 qC21_zi_52 (by first | omega | (simp; omega)) xt (src_own (h := 43) (T := 52) (s := 2) (ex := true) (n := 1) (by first | exact csl_len _ | (simp [isl_len, bsl_len, dsl_len, csl_len]; done) | (simp [isl_len, bsl_len, dsl_len, csl_len]; omega))) (by first | omega | (simp; omega) | (simp at *; omega)) (by first | (simp; done) | (simp; omega) | omega))
     refine za (nl (rg ?_))
     refine z ?_ (h := fun ν => acts_bin ν vt vc (rA (by first | omega | assumption | (simp; done)) (by first | omega | assumption | (simp; done))))
     refine zm (nl ?_)
     exact loop_back ((j + 1), 0, (M ++ [(gC (nbs (gC Lw off)) j)]), (Lw2.drop off2 ++ [(gC (nbs (gC Lw off)) j)])) (by first | (refine ⟨Nat.zero_le _, drop_app (by assumption) (by assumption) _, by omega, ?_⟩; rw [hown] at *; exact hR.yes (by omega) (by assumption) (by assumption)) | (refine ⟨by assumption, by assumption, by omega, ?_⟩; rw [hown] at *; first | exact hR.no (by omega) (.inl (by assumption)) | exact hR.no (by omega) (.inr (by assumption)))) (by show (nbs (gC L k)).length - (j + 1) < (nbs (gC L k)).length - j; omega) (wkf (subst1 [(13, 44)]) (wS <| wE (e := (vint (by first | rfl | omega | (rw [setL_app]; done) | (simp; done) | (simp; omega)))) <| wE (e := (vsl (by first | rfl | (simp; done) | (simp; omega) | omega | (exact congrArg List.length (by first | rfl | omega | (rw [setL_app]; done) | (simp; done) | (simp; omega)))) rfl)) <| wS <| wS <| wE (e := (vint (by first | rfl | omega | (rw [setL_app]; done) | (simp; done) | (simp; omega)))) <| wP <| wP <| by (iterate 11 refine wF ?_); exact wN))
    ·skip
     have c8 : (hasS (setL M) (gC (nbs (gC Lw off)) j)) = true := by first | simpa using c6 | (rw [← Bool.not_eq_false']; exact c6)
     refine sk (rg ?_)
     refine z ?_ (h := fun ν => acts_bin ν vt vc (rA (by first | omega | assumption | (simp; done)) (by first | omega | assumption | (simp; done))))
     refine zm (nl ?_)
     exact loop_back ((j + 1), off2, M, Lw2) (by first | (refine ⟨Nat.zero_le _, drop_app (by assumption) (by assumption) _, by omega, ?_⟩; rw [hown] at *; exact hR.yes (by omega) (by assumption) (by assumption)) | (refine ⟨by assumption, by assumption, by omega, ?_⟩; rw [hown] at *; first | exact hR.no (by omega) (.inl (by assumption)) | exact hR.no (by omega) (.inr (by assumption)))) (by show (nbs (gC L k)).length - (j + 1) < (nbs (gC L k)).length - j; omega) (wkf id (wS <| wS <| wS <| wS <| wS <| wE (e := (vint (by first | rfl | omega | (rw [setL_app]; done) | (simp; done) | (simp; omega)))) <| wP <| wP <| by (iterate 11 refine wF ?_); exact wN))
   ·skip
    refine rg (zm ?_)
    refine z ?_ (h := fun ν => acts_load_owns (xs := [vI ((gC (nbs (gC Lw off)) j).x), vI ((gC (nbs (gC Lw off)) j).y)].map A.val) ν qC21_ti_52 rfl (by decide) rfl)
    refine z ?_ (h := fun ν => acts_call1 ν (impl_set__has_fn s (gC (nbs (gC Lw off)) j) (by first | omega | assumption | (simp; done))) (ac (ArgV.v vt) (ac (ArgV.va va) an)) (resval (congrArg Value.bool c5)))
    refine zm (zo (zo (zo (zo ?_))))
    refine z ?_ (h := fun ν => acts_pick_f ν vt xc)
    refine nl (wf (sk (rg ?_)))
    refine z ?_ (h := fun ν => acts_bin ν vt vc (rA (by first | omega | assumption | (simp; done)) (by first | omega | assumption | (simp; done))))
    refine zm (nl ?_)
    exact loop_back ((j + 1), off2, M, Lw2) (by first | (refine ⟨Nat.zero_le _, drop_app (by assumption) (by assumption) _, by omega, ?_⟩; rw [hown] at *; exact hR.yes (by omega) (by assumption) (by assumption)) | (refine ⟨by assumption, by assumption, by omega, ?_⟩; rw [hown] at *; first | exact hR.no (by omega) (.inl (by assumption)) | exact hR.no (by omega) (.inr (by assumption)))) (by show (nbs (gC L k)).length - (j + 1) < (nbs (gC L k)).length - j; omega) (wkf id (wS <| wS <| wS <| wS <| wS <| wE (e := (vint (by first | rfl | omega | (rw [setL_app]; done) | (simp; done) | (simp; omega)))) <| wP <| wP <| by (iterate 11 refine wF ?_); exact wN))
  ·skip
   have c4P := of_decide_eq_false c4
   refine wp_exit' ?_
   exact Exists.intro ((k + 1), off2, M, Lw2) (And.intro (by exact ⟨by assumption, by assumption, RIn.out hg hk2 hR (by omega)⟩) (And.intro (by show 64 - (k + 1) < 64 - k; omega) (wkf id (wS <| wS <| wS <| wP <| by (iterate 12 refine wF ?_); exact wN))))
 ·skip
  have c2P := of_decide_eq_false c2
  have hend := drop_none (L := Lw) (M := L) (i := off) (j := k) (by assumption) (by assumption)
  refine wp_exit' (sq (rg (zm (za (nl (wp_ret' ?_))))))
  exact VRes.tmp _ _ _ (by exact rfl) (bval (congrArg (Value.int .u64) (by rw [rch_end hc hg hend])))
end Cl
end Go.Proofs.Ytjgimiicfekcpaa
