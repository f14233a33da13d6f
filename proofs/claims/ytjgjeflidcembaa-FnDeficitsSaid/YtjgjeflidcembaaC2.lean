/- Walks over clean states, printed by wg.py. No statement is proved here. -/
import Derived.Test.YtjgjeflidcembaaC1
import Derived.Test.YtjgjeflidcembaaCels
import Derived.Test.YtjgjeflidcembaaClB
namespace Go.Proofs.Ytjgjeflidcembaa
namespace Cl
open Go.ChangeShapes Go.WideShapes Go.ChangeAt Go.RowKit
set_option maxRecDepth 20000

def blks (l : List Int) (bs : List Cel) : Bool := regOk l && bs.all fun c => black c && hasC l c
theorem blks_no {l : List Int} {bs : List Cel} {k : Nat} (hk : k < bs.length) (h : (black (gC bs k) && hasC l (gC bs k)) = false) : blks l bs = false := by
  unfold blks
  have : (bs.all fun c => black c && hasC l c) = false := by
    rw [List.all_eq_false]; exact ⟨bs[k], List.getElem_mem hk, by rw [gC_eq hk] at h; simp [h]⟩
  rw [this]; simp
def blkT (l : List Int) (bs : List Cel) (k : Nat) : Bool := (bs.take k).all fun c => black c && hasC l c
theorem blkT_snoc {l : List Int} {bs : List Cel} {k : Nat} (hk : k < bs.length) (h : blkT l bs k = true) (h2 : (black (gC bs k) && hasC l (gC bs k)) = true) : blkT l bs (k+1) = true := by
  unfold blkT at *; rw [List.take_succ_eq_append_getElem hk, List.all_append, h, ← gC_eq hk]; simpa using h2
theorem blkT_end {l : List Int} {bs : List Cel} {k : Nat} (hk : ¬ (k : Int) < (bs.length : Int)) (h : blkT l bs k = true) : regOk l = blks l bs := by
  unfold blkT at h; rw [List.take_of_length_le (by omega)] at h; unfold blks; rw [h]; simp
theorem blks_ok {l : List Int} {bs : List Cel} (h : blks l bs = true) : regOk l = true ∧ ∀ k, k < bs.length → okc (gC bs k).x (gC bs k).y = true := by
  unfold blks at h
  simp only [Bool.and_eq_true, List.all_eq_true] at h
  refine ⟨h.1, fun k hk => ?_⟩
  have := (h.2 (gC bs k) (gC_mem hk)).1
  unfold black at this; simp only [Bool.and_eq_true] at this; exact this.1
def addIf (s t : Nat) (w : Cel) : Nat := if hasS s w then addC t w else t
def arB (s t : Nat) (b : Cel) : Nat := (nbs b).foldl (addIf s) t
def aroundS (s : Nat) (bs : List Cel) : Nat := bs.foldl (arB s) 0
theorem addIf_lt {s t : Nat} (ht : t < 18446744073709551616) (w : Cel) : addIf s t w < 18446744073709551616 := by
  unfold addIf; split
  · rename_i h; unfold hasS at h; simp only [Bool.and_eq_true] at h; exact addC_lt ht h.1
  · exact ht
theorem foldl_addIf_lt {s : Nat} (ws : List Cel) : ∀ t, t < 18446744073709551616 → ws.foldl (addIf s) t < 18446744073709551616 := by
  induction ws with
  | nil => intro t h; exact h
  | cons w ws ih => intro t h; exact ih _ (addIf_lt h w)
theorem foldl_arB_lt {s : Nat} (bs : List Cel) : ∀ t, t < 18446744073709551616 → bs.foldl (arB s) t < 18446744073709551616 := by
  induction bs with
  | nil => intro t h; exact h
  | cons b bs ih => intro t h; exact ih _ (foldl_addIf_lt _ _ h)
theorem foldl_snoc {α : Type} (f : Nat → α → Nat) (t : Nat) {l : List α} {k : Nat} (h : k < l.length) : (l.take (k+1)).foldl f t = f ((l.take k).foldl f t) l[k] := by
  rw [List.take_succ_eq_append_getElem h, List.foldl_append]; rfl
theorem foldl_snocC (f : Nat → Cel → Nat) (t : Nat) {l : List Cel} {k : Nat} (h : k < l.length) : (l.take (k+1)).foldl f t = f ((l.take k).foldl f t) (gC l k) := by
  rw [foldl_snoc f t h, gC_eq h]
theorem foldl_endC (f : Nat → Cel → Nat) (t : Nat) {l : List Cel} {k : Nat} (h : ¬ (k : Int) < (l.length : Int)) : (l.take k).foldl f t = l.foldl f t := by
  rw [List.take_of_length_le (by omega)]
theorem addIf_bit (s t : Nat) (w : Cel) (i : Nat) : (addIf s t w).testBit i = (t.testBit i || (hasS s w && decide (idx w = i))) := by
  unfold addIf; split
  · rename_i h; rw [addC_bit, h]; simp
  · rename_i h; simp only [Bool.not_eq_true] at h; rw [h]; simp
theorem foldl_addIf_bit (s : Nat) (ws : List Cel) : ∀ t i, (ws.foldl (addIf s) t).testBit i = (t.testBit i || decide (∃ w ∈ ws, hasS s w = true ∧ idx w = i)) := by
  induction ws with
  | nil => intro t i; simp
  | cons w ws ih =>
    intro t i
    rw [List.foldl_cons, ih, addIf_bit, Bool.or_assoc]
    congr 1
    rw [Bool.eq_iff_iff]; simp
theorem foldl_arB_bit (s : Nat) (bs : List Cel) : ∀ t i, (bs.foldl (arB s) t).testBit i = (t.testBit i || decide (∃ b ∈ bs, ∃ w ∈ nbs b, hasS s w = true ∧ idx w = i)) := by
  induction bs with
  | nil => intro t i; simp
  | cons b bs ih =>
    intro t i
    rw [List.foldl_cons, ih, arB, foldl_addIf_bit, Bool.or_assoc]
    congr 1
    rw [Bool.eq_iff_iff]; simp
theorem mem_nbs {b w : Cel} : w ∈ nbs b ↔ nbr b w = true := by
  rw [← nbs_scan, List.mem_map]
  constructor
  · rintro ⟨k, hk, rfl⟩; exact (List.mem_filter.1 hk).2
  · intro h
    have hw : okc w.x w.y = true := by unfold nbr at h; simp only [Bool.and_eq_true] at h; exact h.1.2
    exact ⟨idx w, List.mem_filter.2 ⟨by simpa using idx_lt hw, by rw [cN_idx hw]; exact h⟩, cN_idx hw⟩
theorem iabs_neg (z : Int) : iabs (-z) = iabs z := by unfold iabs; split <;> split <;> omega
theorem nbr_comm (a b : Cel) : nbr a b = nbr b a := by
  unfold nbr
  rw [show a.x - b.x = -(b.x - a.x) by omega, show a.y - b.y = -(b.y - a.y) by omega, iabs_neg, iabs_neg, Bool.and_comm (okc a.x a.y)]
theorem idx_inj {a b : Cel} (ha : okc a.x a.y = true) (hb : okc b.x b.y = true) (h : idx a = idx b) : a = b := by
  rw [← cN_idx ha, ← cN_idx hb, h]
theorem around_bit {s : Nat} {bs : List Cel} {i : Nat} (hi : i < 64) : (aroundS s bs).testBit i = (s.testBit i && bs.any (nbr (cN i))) := by
  unfold aroundS; rw [foldl_arB_bit, Bool.eq_iff_iff]
  simp only [Nat.zero_testBit, Bool.false_or, decide_eq_true_eq, Bool.and_eq_true, List.any_eq_true]
  constructor
  · rintro ⟨b, hb, w, hw, hs, rfl⟩
    have h := mem_nbs.1 hw
    unfold hasS at hs; simp only [Bool.and_eq_true] at hs
    exact ⟨hs.2, b, hb, by rw [cN_idx hs.1, nbr_comm]; exact h⟩
  · rintro ⟨h1, b, hb, h2⟩
    exact ⟨b, hb, cN i, mem_nbs.2 (by rw [nbr_comm]; exact h2), by unfold hasS; rw [cN_ok hi, idx_cN hi, h1]; rfl, idx_cN hi⟩
def wa (l : List Int) (bs : List Cel) : List Cel := if blks l bs then (cellsOf l).filter (fun c => bs.any (nbr c)) else []
theorem filter_setCells (s : Nat) (p : Cel → Bool) : (setCells s).filter p = ((List.range 64).filter (fun i => s.testBit i && p (cN i))).map cN := by
  unfold setCells
  rw [List.filter_map, List.filter_filter]
  congr 1
  exact List.filter_congr fun k _ => by simp [Bool.and_comm]
theorem wa_around {l : List Int} {bs : List Cel} (h : blks l bs = true) : setCells (aroundS (regSet l) bs) = wa l bs := by
  unfold wa cellsOf; rw [if_pos h, (blks_ok h).1, if_pos rfl, filter_setCells]
  unfold setCells
  congr 1
  exact List.filter_congr fun k hk => around_bit (by simpa using hk)
theorem wa_len (l : List Int) (bs : List Cel) : (wa l bs).length ≤ 64 := by
  unfold wa; split
  · exact Nat.le_trans (List.length_filter_le _ _) (cellsOf_len l)
  · simp
theorem aroundS_lt (s : Nat) (bs : List Cel) : aroundS s bs < 18446744073709551616 := foldl_arB_lt bs 0 (by decide)
def dcount (bs : List Cel) : Nat := (setCells (setL bs)).length
theorem count_add (s : Nat) (j : Nat) (n : Nat) : ((List.range n).filter (s ||| 2 ^ j).testBit).length = ((List.range n).filter s.testBit).length + (if s.testBit j = false ∧ j < n then 1 else 0) := by
  induction n with
  | zero => simp
  | succ n ih =>
    rw [List.range_succ, List.filter_append, List.filter_append, List.length_append, List.length_append, ih]
    have hb : (s ||| 2 ^ j).testBit n = (s.testBit n || decide (j = n)) := by rw [Nat.testBit_or, Nat.testBit_two_pow]
    by_cases hj : j = n
    · subst hj
      rw [List.filter_cons, List.filter_cons, hb]; simp only [decide_true, Bool.or_true, if_true, List.filter_nil]
      cases h : s.testBit j <;> simp
    · have h1 : (j < n + 1) = (j < n) := by rw [eq_iff_iff]; omega
      cases h : s.testBit n <;> simp [hb, h, hj, h1] <;> omega
def defi (l : List Int) (bs : List Cel) : Int := if blks l bs then (dcount bs : Int) - (wa l bs).length else 0


theorem qC2_sz_46 : (Try.prog.info? 46).map (·.size) = some 2 := by kernel_rfl
theorem qC2_ti_26 : TI Try.prog 26 true 1 := ⟨⟨_, Try.underlying26, rfl⟩, by kernel_rfl⟩
theorem qC2_ti_46 : TI Try.prog 46 true 2 := ⟨⟨_, Try.underlying46, rfl⟩, by kernel_rfl⟩
theorem qC2_un_42 : Try.prog.underlying 42 = some (.slice 46) := Try.underlying42
theorem qC2_zi_46 : ZI Try.prog 46 (.agg #[.int .i64 0, .int .i64 0]) 2 16 := by unfold ZI; kernel_rfl
set_option maxHeartbeats 4000000 in
set_option maxRecDepth 100000 in
theorem impl_areBlacks_fn (l : List Int) (bs : List Cel) (hl : l.length ≤ 4194304) (hb : bs.length ≤ 2097152) : Fn Try.prog 83 [.agg [(.slv l.length 1 (isl l) : A)], .a (.slv bs.length 2 (csl bs))] [.val (.bool (blks l bs))] := by
 refine fn_intro (N := 25) Try.func83 rfl (by kernel_rfl) rfl (Nat.le_of_ble_eq_true rfl) [2, 6, 8, 14, 19, 24] (ret1 rfl) (fun W => ?_)
 show Wp _ _ _ [kV 0 (V.b (.agg [(.slv l.length 1 (isl l) : A)])), kV 1 (V.b (.a (.slv bs.length 2 (csl bs)))), kF 2, kF 6, kF 8, kF 14, kF 19, kF 24]
 refine sq (rg ?_)
 refine z ?_ (h := fun ν => acts_box (h := 2) ν xt (by exact ob1 rfl))
 refine zk (nl (sq (sq (rg (zm ?_)))))
 refine z ?_ (h := fun ν => lnV ν qC2_un_42)
 refine z ?_ (h := fun ν => mc ν)
 refine nl (bkk ?_)
 refine wp_loop' (fun (k : Nat) => k ≤ bs.length ∧ blkT l bs k = true) (fun (k : Nat) => [kP 2 2 0, kV 7 (V.b (.a (.slv bs.length 2 (csl bs)))), kI 8 ((bs.length : Nat) : Int), kI 9 ((k : Nat) : Int), kO 2 26 1 true [(.slv l.length 1 (isl l) : A)], kF 6, kF 8, kF 14, kF 19, kF 24]) (fun (k : Nat) => bs.length - k) ((0 : Nat)) (by exact ⟨Nat.zero_le _, rfl⟩) (wkf id (wS <| wS <| wS <| wE (e := (vint (by first | rfl | omega | (simp; done) | (simp; omega)))) <| wX <| wF <| wF <| wF <| wF <| wF <| wN)) ?_
 rintro k inv1
 replace inv1 : k ≤ bs.length ∧ blkT l bs k = true := inv1
 obtain ⟨inv1_0, inv1_1⟩ := inv1
 refine sq (rg ?_)
 refine z ?_ (h := fun ν => acts_bin ν vt vt (r_lss rfl))
 refine nl (sq ?_)
 refine wi (fun c2 => ?_) (fun c2 => ?_)
 ·skip
  have c2P := of_decide_eq_true c2
  refine sk (sq (bkk (sq (rg ?_))))
  refine z ?_ (h := fun ν => ixv ν qC2_un_42 qC2_sz_46 vt)
  refine z ?_ (h := fun ν => uC ν qC2_ti_46)
  refine z ?_ (h := fun ν => acts_alloc' (h := 6) (cap := 1) (s := 2) (cells := [aI 0, aI 0]) ν qC2_zi_46 rfl rfl (by decide))
  refine z ?_ (h := fun _ => acts_store (cells := [aI ((gC bs k).x), aI ((gC bs k).y)]) qC2_ti_46 xt (by exact rfl) (by decide) (by exact ob1 rfl) (by exact Nat.le_of_ble_eq_true rfl) (by exact rfl))
  refine nl (sq ?_)
  rcases Bool.eq_false_or_eq_true ((black (gC bs k))) with c3 | c3
  ·skip
   refine rg ?_
   refine z ?_ (h := fun ν => acts_load_owns (xs := [vI ((gC bs k).x), vI ((gC bs k).y)].map A.val) ν qC2_ti_46 rfl (by decide) rfl)
   refine z ?_ (h := fun ν => acts_call1 ν (impl_IsBlack_fn (gC bs k) ) (ac (ArgV.va va) an) (resval (congrArg Value.bool c3)))
   refine z ?_ (h := fun ν => acts_un ν vt (r_not (c := false) rfl))
   refine zm ?_
   refine zg ?_ (h := fun ν => step_on rfl rfl (acts_load_owns (xs := [(.slv l.length 1 (isl l) : A)]) ν qC2_ti_26 rfl (by decide) rfl))
   refine zg ?_ (h := fun ν => step_on rfl rfl (acts_load_owns (xs := [vI ((gC bs k).x), vI ((gC bs k).y)].map A.val) ν qC2_ti_46 rfl (by decide) rfl))
   refine zg ?_ (h := fun ν => step_on rfl rfl (acts_call1 ν (impl_HasCell_fn l (gC bs k) (by omega)) (ac (ArgV.regv _ _ 1 _) (ac (ArgV.va va) an)) rv))
   refine zg ?_ (h := fun ν => step_on rfl rfl (acts_un ν vt (r_not rfl)))
   refine z ?_ (h := fun ν => acts_pick_f ν vt xt)
   refine nl ?_
   refine wi (b := (!(hasC l (gC bs k)))) (fun c4 => ?_) (fun c4 => ?_)
   ·skip
    have c5 : (hasC l (gC bs k)) = false := by first | (rw [← Bool.not_eq_true']; exact c4) | simpa using c4
    refine sq (rg (zk (nl (wp_ret' ?_))))
    exact VRes.tmp _ _ _ (by exact rfl) (bval (congrArg Value.bool (by exact (blks_no (k := k) (by omega) (by simp_all)).symm)))
   ·skip
    have c6 : (hasC l (gC bs k)) = true := by first | (rw [← Bool.not_eq_false']; exact c4) | simpa using c4
    refine sk (rg ?_)
    refine z ?_ (h := fun ν => acts_bin ν vt vc rA)
    refine zm (nl ?_)
    exact loop_back ((k + 1)) (by exact ⟨by omega, blkT_snoc (by omega) (by assumption) (by simp_all)⟩) (by show bs.length - (k + 1) < bs.length - k; omega) (wkf id (wS <| wS <| wS <| wE (e := (vint (by first | rfl | omega | (simp; done) | (simp; omega)))) <| wX <| wF <| wF <| wF <| wF <| wF <| wN))
  ·skip
   refine rg ?_
   refine z ?_ (h := fun ν => acts_load_owns (xs := [vI ((gC bs k).x), vI ((gC bs k).y)].map A.val) ν qC2_ti_46 rfl (by decide) rfl)
   refine z ?_ (h := fun ν => acts_call1 ν (impl_IsBlack_fn (gC bs k) ) (ac (ArgV.va va) an) (resval (congrArg Value.bool c3)))
   refine z ?_ (h := fun ν => acts_un ν vt (r_not (c := true) rfl))
   refine zm (zo (zo (zo (zo ?_))))
   refine z ?_ (h := fun ν => acts_pick_t ν vt xc)
   refine nl (wt (sq (rg (zk (nl (wp_ret' ?_))))))
   exact VRes.tmp _ _ _ (by exact rfl) (bval (congrArg Value.bool (by exact (blks_no (k := k) (by omega) (by simp_all)).symm)))
 ·skip
  have c2P := of_decide_eq_false c2
  refine wp_exit' (sq (rg ?_))
  refine z ?_ (h := fun ν => acts_load_owns (xs := [(.slv l.length 1 (isl l) : A)]) ν qC2_ti_26 rfl (by decide) rfl)
  refine z ?_ (h := fun ν => acts_call1 ν (impl_RegionOk_fn l (by omega)) (ac (ArgV.regv _ _ 1 _) an) rv)
  refine za (nl (wp_ret' ?_))
  exact VRes.tmp _ _ _ (by exact rfl) (bval (congrArg Value.bool (by exact blkT_end (by omega) (by assumption))))

set_option maxHeartbeats 4000000 in
set_option maxRecDepth 100000 in
theorem impl_set__around_fn (s : Nat) (bs : List Cel) (hs : s < 18446744073709551616) (hb : bs.length ≤ 2097152) : Fn Try.prog 79 [.a (.val (.int .u64 ((s : Nat) : Int))), .a (.slv bs.length 2 (csl bs))] [.val (.int .u64 (((aroundS s bs) : Nat) : Int))] := by
 refine fn_intro (N := 32) Try.func79 rfl (by kernel_rfl) rfl (Nat.le_of_ble_eq_true rfl) [7, 9, 11, 17, 18, 25, 28] (ret1 rfl) (fun W => ?_)
 show Wp _ _ _ [kU 0 ((s : Nat) : Int), kV 1 (V.b (.a (.slv bs.length 2 (csl bs)))), kF 7, kF 9, kF 11, kF 17, kF 18, kF 25, kF 28]
 refine sq (rg (zk (nl (sq (rg (zk (nl (sq (sq (rg (zm ?_)))))))))))
 refine z ?_ (h := fun ν => lnV ν qC2_un_42)
 refine z ?_ (h := fun ν => mc ν)
 refine nl (bkk ?_)
 refine wp_loop' (fun (k : Nat) => k ≤ bs.length) (fun (k : Nat) => [kU 0 ((s : Nat) : Int), kU 5 ((((bs.take k).foldl (arB s) 0) : Nat) : Int), kV 10 (V.b (.a (.slv bs.length 2 (csl bs)))), kI 11 ((bs.length : Nat) : Int), kI 12 ((k : Nat) : Int), kF 7, kF 9, kF 11, kF 17, kF 18, kF 25, kF 28]) (fun (k : Nat) => bs.length - k) ((0 : Nat)) (by exact (Nat.zero_le _ : 0 ≤ _)) (wkf id (wS <| wE (e := (vint (by first | rfl | (rw [foldl_snocC _ _ (by omega), arB, ← foldl_endC _ _ (by assumption)]) | omega))) <| wS <| wS <| wE (e := (vint (by first | rfl | (rw [foldl_snocC _ _ (by omega), arB, ← foldl_endC _ _ (by assumption)]) | omega))) <| wF <| wF <| wF <| wF <| wF <| wF <| wF <| wN)) ?_
 rintro k inv1
 replace inv1 : k ≤ bs.length := inv1
 have inv := inv1
 have hlt := foldl_arB_lt (s := s) (bs.take k) 0 (by decide)
 have hn4 := nbs_len (gC bs k)
 refine sq (rg ?_)
 refine z ?_ (h := fun ν => acts_bin ν vt vt (r_lss rfl))
 refine nl (sq ?_)
 refine wi (fun c2 => ?_) (fun c2 => ?_)
 ·skip
  have c2P := of_decide_eq_true c2
  refine sk (sq (bkk (sq (rg ?_))))
  refine z ?_ (h := fun ν => ixv ν qC2_un_42 qC2_sz_46 vt (hlt := (by first | omega | assumption | (unfold hasS at *; simp_all; done))))
  refine z ?_ (h := fun ν => uC ν qC2_ti_46 (by first | omega | assumption | (unfold hasS at *; simp_all; done)))
  refine z ?_ (h := fun ν => acts_alloc' (h := 7) (cap := 1) (s := 2) (cells := [aI 0, aI 0]) ν qC2_zi_46 rfl rfl (by decide))
  refine z ?_ (h := fun _ => acts_store (cells := [aI ((gC bs k).x), aI ((gC bs k).y)]) qC2_ti_46 xt (by exact rfl) (by decide) (by exact ob1 rfl) (by exact Nat.le_of_ble_eq_true rfl) (by exact rfl))
  refine nl (sq (rg ?_))
  refine z ?_ (h := fun ν => acts_load_owns (xs := [vI ((gC bs k).x), vI ((gC bs k).y)].map A.val) ν qC2_ti_46 rfl (by decide) rfl)
  refine z ?_ (h := fun ν => acts_call1 ν (impl_NeighborsOf_fn (gC bs k) ) (ac (ArgV.va va) an) (ResV.row _ _ _ _ 17))
  refine z ?_ (h := fun ν => lnS ν qC2_un_42)
  refine z ?_ (h := fun ν => mc ν)
  refine nl (bkk ?_)
  refine wp_loop' (fun (j : Nat) => j ≤ (nbs (gC bs k)).length) (fun (j : Nat) => [kU 0 ((s : Nat) : Int), kU 5 (((((nbs (gC bs k)).take j).foldl (addIf s) ((bs.take k).foldl (arB s) 0)) : Nat) : Int), kV 10 (V.b (.a (.slv bs.length 2 (csl bs)))), kI 11 ((bs.length : Nat) : Int), kI 12 ((k : Nat) : Int), kS 17 17 0 ((nbs (gC bs k)).length), kI 18 (((nbs (gC bs k)).length : Nat) : Int), kI 19 ((j : Nat) : Int), kO 17 46 2 true (pl (csl (nbs (gC bs k)))), kF 7, kF 9, kF 11, kF 18, kF 25, kF 28]) (fun (j : Nat) => (nbs (gC bs k)).length - j) ((0 : Nat)) (by exact (Nat.zero_le _ : 0 ≤ _)) (wkf id (wS <| wE (e := (vint (by first | rfl | (rw [foldl_snocC _ _ (by omega)]; unfold addIf; rw [if_pos (by assumption)]) | (rw [foldl_snocC _ _ (by omega)]; unfold addIf; rw [if_neg (by simp_all)]) | omega))) <| wS <| wS <| wS <| wS <| wS <| wE (e := (vint (by first | rfl | (rw [foldl_snocC _ _ (by omega)]; unfold addIf; rw [if_pos (by assumption)]) | (rw [foldl_snocC _ _ (by omega)]; unfold addIf; rw [if_neg (by simp_all)]) | omega))) <| wP <| wF <| wF <| wF <| wF <| wF <| wF <| wN)) ?_
  rintro j inv3
  replace inv3 : j ≤ (nbs (gC bs k)).length := inv3
  have invj := inv3
  have hlt2 := foldl_addIf_lt (s := s) ((nbs (gC bs k)).take j) _ hlt
  refine sq (rg ?_)
  refine z ?_ (h := fun ν => acts_bin ν vt vt (r_lss rfl))
  refine nl (sq ?_)
  refine wi (fun c4 => ?_) (fun c4 => ?_)
  ·skip
   have c4P := of_decide_eq_true c4
   refine sk (sq (bkk (sq (rg ?_))))
   refine z ?_ (h := fun ν => ix0 ν qC2_un_42 qC2_sz_46 vt (hlt := (by first | omega | assumption | (unfold hasS at *; simp_all; done))))
   refine z ?_ (h := fun ν => lC ν qC2_ti_46 (by first | omega | assumption | (unfold hasS at *; simp_all; done)))
   refine z ?_ (h := fun ν => acts_alloc' (h := 9) (cap := 1) (s := 2) (cells := [aI 0, aI 0]) ν qC2_zi_46 rfl rfl (by decide))
   refine z ?_ (h := fun _ => acts_store (cells := [aI ((gC (nbs (gC bs k)) j).x), aI ((gC (nbs (gC bs k)) j).y)]) qC2_ti_46 xt (by exact rfl) (by decide) (by exact ob1 rfl) (by exact Nat.le_of_ble_eq_true rfl) (by exact rfl))
   refine nl (sq (rg (zm ?_)))
   refine z ?_ (h := fun ν => acts_load_owns (xs := [vI ((gC (nbs (gC bs k)) j).x), vI ((gC (nbs (gC bs k)) j).y)].map A.val) ν qC2_ti_46 rfl (by decide) rfl)
   refine z ?_ (h := fun ν => acts_call1 ν (impl_set__has_fn s (gC (nbs (gC bs k)) j) (by first | omega | assumption | (unfold hasS at *; simp_all; done))) (ac (ArgV.v vt) (ac (ArgV.va va) an)) rv)
   refine nl ?_
   refine wi (b := (hasS s (gC (nbs (gC bs k)) j))) (fun c5 => ?_) (fun c5 => ?_)
   ·skip
    refine rg (zm ?_)
    refine z ?_ (h := fun ν => acts_load_owns (xs := [vI ((gC (nbs (gC bs k)) j).x), vI ((gC (nbs (gC bs k)) j).y)].map A.val) ν qC2_ti_46 rfl (by decide) rfl)
    refine z ?_ (h := fun ν => acts_call1 ν (impl_set__with_fn (((nbs (gC bs k)).take j).foldl (addIf s) ((bs.take k).foldl (arB s) 0)) (gC (nbs (gC bs k)) j) (by first | omega | assumption | (unfold hasS at *; simp_all; done)) (by first | omega | assumption | (unfold hasS at *; simp_all; done))) (ac (ArgV.v vt) (ac (ArgV.va va) an)) rv)
    refine za (nl (rg ?_))
    refine z ?_ (h := fun ν => acts_bin ν vt vc (rA (by first | omega | assumption | (unfold hasS at *; simp_all; done)) (by first | omega | assumption | (unfold hasS at *; simp_all; done))))
    refine zm (nl ?_)
    exact loop_back ((j + 1)) (by show _ ≤ _; omega) (by show (nbs (gC bs k)).length - (j + 1) < (nbs (gC bs k)).length - j; omega) (wkf id (wS <| wE (e := (vint (by first | rfl | (rw [foldl_snocC _ _ (by omega)]; unfold addIf; rw [if_pos (by assumption)]) | (rw [foldl_snocC _ _ (by omega)]; unfold addIf; rw [if_neg (by simp_all)]) | omega))) <| wS <| wS <| wS <| wS <| wS <| wE (e := (vint (by first | rfl | (rw [foldl_snocC _ _ (by omega)]; unfold addIf; rw [if_pos (by assumption)]) | (rw [foldl_snocC _ _ (by omega)]; unfold addIf; rw [if_neg (by simp_all)]) | omega))) <| wP <| wF <| wF <| wF <| wF <| wF <| wF <| wN))
   ·skip
    refine sk (rg ?_)
    refine z ?_ (h := fun ν => acts_bin ν vt vc (rA (by first | omega | assumption | (unfold hasS at *; simp_all; done)) (by first | omega | assumption | (unfold hasS at *; simp_all; done))))
    refine zm (nl ?_)
    exact loop_back ((j + 1)) (by show _ ≤ _; omega) (by show (nbs (gC bs k)).length - (j + 1) < (nbs (gC bs k)).length - j; omega) (wkf id (wS <| wE (e := (vint (by first | rfl | (rw [foldl_snocC _ _ (by omega)]; unfold addIf; rw [if_pos (by assumption)]) | (rw [foldl_snocC _ _ (by omega)]; unfold addIf; rw [if_neg (by simp_all)]) | omega))) <| wS <| wS <| wS <| wS <| wS <| wE (e := (vint (by first | rfl | (rw [foldl_snocC _ _ (by omega)]; unfold addIf; rw [if_pos (by assumption)]) | (rw [foldl_snocC _ _ (by omega)]; unfold addIf; rw [if_neg (by simp_all)]) | omega))) <| wP <| wF <| wF <| wF <| wF <| wF <| wF <| wN))
  ·skip
   have c4P := of_decide_eq_false c4
   refine wp_exit' (rg ?_)
   refine z ?_ (h := fun ν => acts_bin ν vt vc (rA (by first | omega | assumption | (unfold hasS at *; simp_all; done)) (by first | omega | assumption | (unfold hasS at *; simp_all; done))))
   refine zm (nl ?_)
   exact loop_back ((k + 1)) (by show _ ≤ _; omega) (by show bs.length - (k + 1) < bs.length - k; omega) (wkf id (wS <| wE (e := (vint (by first | rfl | (rw [foldl_snocC _ _ (by omega), arB, ← foldl_endC _ _ (by assumption)]) | omega))) <| wS <| wS <| wE (e := (vint (by first | rfl | (rw [foldl_snocC _ _ (by omega), arB, ← foldl_endC _ _ (by assumption)]) | omega))) <| wF <| wF <| wF <| wF <| wF <| wF <| wF <| wN))
 ·skip
  have c2P := of_decide_eq_false c2
  refine wp_exit' (sq (rg (zm (za (nl (wp_ret' ?_))))))
  exact VRes.tmp _ _ _ (by exact rfl) (bval (congrArg (Value.int .u64) (by rw [foldl_endC _ _ (by assumption)]; rfl)))

set_option maxHeartbeats 4000000 in
set_option maxRecDepth 100000 in
theorem impl_WhiteAround_fn (l : List Int) (bs : List Cel) (hl : l.length ≤ 4194304) (hb : bs.length ≤ 2097152) : Fn Try.prog 40 [.agg [(.slv l.length 1 (isl l) : A)], .a (.slv bs.length 2 (csl bs))] [.row 46 2 (wa l bs).length (csl (wa l bs))] := by
 refine fn_intro (N := 14) Try.func40 rfl (by kernel_rfl) rfl (Nat.le_of_ble_eq_true rfl) [2, 7, 10, 12, 13] (ret1 rfl) (fun W => ?_)
 show Wp _ _ _ [kV 0 (V.b (.agg [(.slv l.length 1 (isl l) : A)])), kV 1 (V.b (.a (.slv bs.length 2 (csl bs)))), kF 2, kF 7, kF 10, kF 12, kF 13]
 refine sq (rg ?_)
 refine z ?_ (h := fun ν => acts_box (h := 2) ν xt (by exact ob1 rfl))
 refine zk (nl (sq (sq (rg ?_))))
 refine z ?_ (h := fun ν => acts_load_owns (xs := [(.slv l.length 1 (isl l) : A)]) ν qC2_ti_26 rfl (by decide) rfl)
 refine zm ?_
 refine z ?_ (h := fun ν => acts_call1 ν (impl_areBlacks_fn l bs (by first | omega | assumption | exact (blks_ok (by assumption)).1 | exact regSet_lt (blks_ok (by assumption)).1 | exact aroundS_lt _ _) (by first | omega | assumption | exact (blks_ok (by assumption)).1 | exact regSet_lt (blks_ok (by assumption)).1 | exact aroundS_lt _ _)) (ac (ArgV.regv _ _ 1 _) (ac (ArgV.slv _ _ _ _) an)) rv)
 refine z ?_ (h := fun ν => acts_un ν vt (r_not rfl))
 refine nl ?_
 refine wi (b := (!(blks l bs))) (fun c1 => ?_) (fun c1 => ?_)
 ·skip
  have c2 : (blks l bs) = false := by first | (rw [← Bool.not_eq_true']; exact c1) | simpa using c1
  refine sq (rg (zk (nl (wp_ret' ?_))))
  exact VRes.tmp _ _ _ (by exact rfl) (bnil_cels (L := (wa l bs)) (by unfold wa; simp_all))
 ·skip
  have c3 : (blks l bs) = true := by first | (rw [← Bool.not_eq_false']; exact c1) | simpa using c1
  refine sk (sq (rg ?_))
  refine z ?_ (h := fun ν => acts_load_owns (xs := [(.slv l.length 1 (isl l) : A)]) ν qC2_ti_26 rfl (by decide) rfl)
  refine z ?_ (h := fun ν => acts_call1 ν (impl_Region__set_fn l (by first | omega | assumption | exact (blks_ok (by assumption)).1 | exact regSet_lt (blks_ok (by assumption)).1 | exact aroundS_lt _ _)) (ac (ArgV.regv _ _ 1 _) an) rv)
  refine zm ?_
  refine z ?_ (h := fun ν => acts_call1 ν (impl_set__around_fn (regSet l) bs (by first | omega | assumption | exact (blks_ok (by assumption)).1 | exact regSet_lt (blks_ok (by assumption)).1 | exact aroundS_lt _ _) (by first | omega | assumption | exact (blks_ok (by assumption)).1 | exact regSet_lt (blks_ok (by assumption)).1 | exact aroundS_lt _ _)) (ac (ArgV.v vt) (ac (ArgV.slv _ _ _ _) an)) rv)
  refine z ?_ (h := fun ν => acts_call1 ν (impl_set__cells_fn (aroundS (regSet l) bs) (by first | omega | assumption | exact (blks_ok (by assumption)).1 | exact regSet_lt (blks_ok (by assumption)).1 | exact aroundS_lt _ _)) (ac (ArgV.v vt) an) (ResV.row _ _ _ _ 13))
  refine za (nl (wp_ret' ?_))
  exact VRes.tmp _ _ _ (by exact rfl) (brow_cels (h := 13) (L := (setCells (aroundS (regSet l) bs))) (by kernel_rfl) (by exact wa_around (by assumption)) (by first | rfl | (simp; done) | (simp; omega)))

set_option maxHeartbeats 4000000 in
set_option maxRecDepth 100000 in
theorem impl_Deficit_fn (l : List Int) (bs : List Cel) (hl : l.length ≤ 4194304) (hb : bs.length ≤ 1048576) : Fn Try.prog 38 [.agg [(.slv l.length 1 (isl l) : A)], .a (.slv bs.length 2 (csl bs))] [.val (.int .i64 (defi l bs))] := by
 refine fn_intro (N := 18) Try.func38 rfl (by kernel_rfl) rfl (Nat.le_of_ble_eq_true rfl) [2, 7, 10, 11, 12, 15, 16] (ret1 rfl) (fun W => ?_)
 show Wp _ _ _ [kV 0 (V.b (.agg [(.slv l.length 1 (isl l) : A)])), kV 1 (V.b (.a (.slv bs.length 2 (csl bs)))), kF 2, kF 7, kF 10, kF 11, kF 12, kF 15, kF 16]
 refine sq (rg ?_)
 refine z ?_ (h := fun ν => acts_box (h := 2) ν xt (by exact ob1 rfl))
 refine zk (nl (sq (sq (rg ?_))))
 refine z ?_ (h := fun ν => acts_load_owns (xs := [(.slv l.length 1 (isl l) : A)]) ν qC2_ti_26 rfl (by decide) rfl)
 refine zm ?_
 refine z ?_ (h := fun ν => acts_call1 ν (impl_areBlacks_fn l bs (by first | omega | assumption | (have q1 := wa_len l bs; have q2 := setCells_len (setL bs); omega) | exact (blks_ok (by assumption)).2 | (have := (blks_ok (l := l) (bs := bs) (by assumption)).2; exact setL_lt (fun c hc => by obtain ⟨j, hj, rfl⟩ := List.getElem_of_mem hc; rw [← gC_eq hj]; exact this j hj))) (by first | omega | assumption | (have q1 := wa_len l bs; have q2 := setCells_len (setL bs); omega) | exact (blks_ok (by assumption)).2 | (have := (blks_ok (l := l) (bs := bs) (by assumption)).2; exact setL_lt (fun c hc => by obtain ⟨j, hj, rfl⟩ := List.getElem_of_mem hc; rw [← gC_eq hj]; exact this j hj)))) (ac (ArgV.regv _ _ 1 _) (ac (ArgV.slv _ _ _ _) an)) rv)
 refine z ?_ (h := fun ν => acts_un ν vt (r_not rfl))
 refine nl ?_
 refine wi (b := (!(blks l bs))) (fun c1 => ?_) (fun c1 => ?_)
 ·skip
  have c2 : (blks l bs) = false := by first | (rw [← Bool.not_eq_true']; exact c1) | simpa using c1
  refine sq (rg (zk (nl (wp_ret' ?_))))
  exact VRes.tmp _ _ _ (by exact rfl) (bval (congrArg (Value.int .i64) (by first | (unfold defi; simp_all; done))))
 ·skip
  have c3 : (blks l bs) = true := by first | (rw [← Bool.not_eq_false']; exact c1) | simpa using c1
  refine sk (sq (wp_dr (zdm ?_)))
  refine zd ?_ (h := fun ν => acts_call1 ν (impl_setOf_fn bs (by first | omega | assumption | (have q1 := wa_len l bs; have q2 := setCells_len (setL bs); omega) | exact (blks_ok (by assumption)).2 | (have := (blks_ok (l := l) (bs := bs) (by assumption)).2; exact setL_lt (fun c hc => by obtain ⟨j, hj, rfl⟩ := List.getElem_of_mem hc; rw [← gC_eq hj]; exact this j hj))) (by first | omega | assumption | (have q1 := wa_len l bs; have q2 := setCells_len (setL bs); omega) | exact (blks_ok (by assumption)).2 | (have := (blks_ok (l := l) (bs := bs) (by assumption)).2; exact setL_lt (fun c hc => by obtain ⟨j, hj, rfl⟩ := List.getElem_of_mem hc; rw [← gC_eq hj]; exact this j hj)))) (ac (ArgV.slv _ _ _ _) an) rv)
  refine zd ?_ (h := fun ν => acts_call1 ν (impl_set__cells_fn (setL bs) (by first | omega | assumption | (have q1 := wa_len l bs; have q2 := setCells_len (setL bs); omega) | exact (blks_ok (by assumption)).2 | (have := (blks_ok (l := l) (bs := bs) (by assumption)).2; exact setL_lt (fun c hc => by obtain ⟨j, hj, rfl⟩ := List.getElem_of_mem hc; rw [← gC_eq hj]; exact this j hj)))) (ac (ArgV.v vt) an) (ResV.row _ _ _ _ 11))
  refine zd ?_ (h := fun ν => lnS ν qC2_un_42)
  refine zd ?_ (h := fun ν => acts_load_owns (xs := [(.slv l.length 1 (isl l) : A)]) ν qC2_ti_26 rfl (by decide) rfl)
  refine zdm ?_
  refine zd ?_ (h := fun ν => acts_call1 ν (impl_WhiteAround_fn l bs (by first | omega | assumption | (have q1 := wa_len l bs; have q2 := setCells_len (setL bs); omega) | exact (blks_ok (by assumption)).2 | (have := (blks_ok (l := l) (bs := bs) (by assumption)).2; exact setL_lt (fun c hc => by obtain ⟨j, hj, rfl⟩ := List.getElem_of_mem hc; rw [← gC_eq hj]; exact this j hj))) (by first | omega | assumption | (have q1 := wa_len l bs; have q2 := setCells_len (setL bs); omega) | exact (blks_ok (by assumption)).2 | (have := (blks_ok (l := l) (bs := bs) (by assumption)).2; exact setL_lt (fun c hc => by obtain ⟨j, hj, rfl⟩ := List.getElem_of_mem hc; rw [← gC_eq hj]; exact this j hj)))) (ac (ArgV.regv _ _ 1 _) (ac (ArgV.slv _ _ _ _) an)) (ResV.row _ _ _ _ 15))
  refine zd ?_ (h := fun ν => lnS ν qC2_un_42)
  refine zd ?_ (h := fun ν => acts_bin ν vt vt (rS (by first | omega | assumption | (have q1 := wa_len l bs; have q2 := setCells_len (setL bs); omega) | exact (blks_ok (by assumption)).2 | (have := (blks_ok (l := l) (bs := bs) (by assumption)).2; exact setL_lt (fun c hc => by obtain ⟨j, hj, rfl⟩ := List.getElem_of_mem hc; rw [← gC_eq hj]; exact this j hj))) (by first | omega | assumption | (have q1 := wa_len l bs; have q2 := setCells_len (setL bs); omega) | exact (blks_ok (by assumption)).2 | (have := (blks_ok (l := l) (bs := bs) (by assumption)).2; exact setL_lt (fun c hc => by obtain ⟨j, hj, rfl⟩ := List.getElem_of_mem hc; rw [← gC_eq hj]; exact this j hj)))))
  refine zd ?_ (h := fun ν => gt ν)
  refine dw_nil (wp_ret' ?_)
  exact VRes.tmp _ _ _ (by exact rfl) (bval (congrArg (Value.int .i64) (by unfold defi; rw [if_pos (by assumption)]; (try rfl))))

set_option maxHeartbeats 4000000 in
set_option maxRecDepth 100000 in
theorem impl_IsProofOf_fn (l : List Int) (bs : List Cel) (n : Int) (hl : l.length ≤ 4194304) (hb : bs.length ≤ 1048576) : Fn Try.prog 39 [.agg [(.slv l.length 1 (isl l) : A)], .a (.slv bs.length 2 (csl bs)), .a (.val (.int .i64 n))] [.val (.bool (decide (0 < n) && decide (n ≤ defi l bs)))] := by
 refine fn_intro (N := 16) Try.func39 rfl (by kernel_rfl) rfl (Nat.le_of_ble_eq_true rfl) [3, 12] (ret1 rfl) (fun W => ?_)
 show Wp _ _ _ [kV 0 (V.b (.agg [(.slv l.length 1 (isl l) : A)])), kV 1 (V.b (.a (.slv bs.length 2 (csl bs)))), kI 2 n, kF 3, kF 12]
 refine sq (rg ?_)
 refine z ?_ (h := fun ν => acts_box (h := 3) ν xt (by exact ob1 rfl))
 refine zk (nl (sq ?_))
 rcases Bool.eq_false_or_eq_true (decide (0 < n)) with c1 | c1
 ·skip
  have c1P := of_decide_eq_true c1
  refine rg (zm ?_)
  refine z ?_ (h := fun ν => acts_bin ν vt vc (r_gtr (c := true) c1))
  refine zm ?_
  refine zg ?_ (h := fun ν => step_on rfl rfl (acts_load_owns (xs := [(.slv l.length 1 (isl l) : A)]) ν qC2_ti_26 rfl (by decide) rfl))
  refine zg ?_ (h := fun ν => step_on rfl rfl (mt ν))
  refine zg ?_ (h := fun ν => step_on rfl rfl (acts_call1 ν (impl_Deficit_fn l bs (by omega) (by omega)) (ac (ArgV.regv _ _ 1 _) (ac (ArgV.slv _ _ _ _) an)) rv))
  refine zg ?_ (h := fun ν => step_on rfl rfl (mt ν))
  refine zg ?_ (h := fun ν => step_on rfl rfl (acts_bin ν vt vt (r_geq rfl)))
  refine z ?_ (h := fun ν => acts_pick_t ν vt xt)
  refine za (nl (wp_ret' ?_))
  exact VRes.tmp _ _ _ (by exact rfl) (bval (congrArg Value.bool (by first | (simp_all; done) | (simp_all; omega))))
 ·skip
  have c1P := of_decide_eq_false c1
  refine rg (zm ?_)
  refine z ?_ (h := fun ν => acts_bin ν vt vc (r_gtr (c := false) c1))
  refine zm (zo (zo (zo (zo (zo ?_)))))
  refine z ?_ (h := fun ν => acts_pick_f ν vt xc)
  refine za (nl (wp_ret' ?_))
  exact VRes.tmp _ _ _ (by exact rfl) (bval (congrArg Value.bool (by first | (simp_all; done) | (simp_all; omega))))
end Cl
end Go.Proofs.Ytjgjeflidcembaa
