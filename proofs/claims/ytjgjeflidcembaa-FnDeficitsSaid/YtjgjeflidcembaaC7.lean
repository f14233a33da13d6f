/- Walks over clean states, printed by wg.py. No statement is proved here. -/
import Derived.Test.YtjgjeflidcembaaC6
import Derived.Test.YtjgjeflidcembaaClB
namespace Go.Proofs.Ytjgjeflidcembaa
namespace Cl
open Go.ChangeShapes Go.WideShapes Go.ChangeAt Go.RowKit
set_option maxRecDepth 20000

def dOv (a b : Cel) : Dom := if nbr a b then ⟨min a.x b.x, min a.y b.y, decide (a.x = b.x)⟩ else ⟨0, 0, false⟩
def matT (jo : List Int) (k : Nat) : List Dom := ((List.range k).filter (fun i => decide (0 ≤ gI jo i))).map (fun i => dOv (cN i) (cN (gI jo i).toNat))
theorem matT_yes {jo : List Int} {k : Nat} (h : 0 ≤ gI jo k) : matT jo (k+1) = matT jo k ++ [dOv (cN k) (cN (gI jo k).toNat)] := by
  unfold matT; rw [List.range_succ, List.filter_append, List.map_append]; simp [h]
theorem matT_no {jo : List Int} {k : Nat} (h : ¬ 0 ≤ gI jo k) : matT jo (k+1) = matT jo k := by
  unfold matT; rw [List.range_succ, List.filter_append, List.map_append]; simp [h]
theorem matT_len (jo : List Int) (k : Nat) : (matT jo k).length ≤ k := by
  unfold matT; rw [List.length_map]; exact Nat.le_trans (List.length_filter_le _ _) (by simp)
theorem popc_zero : popc 0 = 0 := by simp [popc]
/-- first index of a number -/
def posI (l : List Int) (n : Int) : Int := if n ∈ l then (l.findIdx (fun x => decide (x = n)) : Int) else -1
theorem gI_mem {l : List Int} {k : Nat} (h : k < l.length) : gI l k ∈ l := by rw [gI_eq h]; exact List.getElem_mem h
theorem posI_yes {l : List Int} {n : Int} {k : Nat} (hk : k < l.length) (h1 : n ∉ l.take k) (h2 : gI l k = n) : (k : Int) = posI l n := by
  unfold posI
  rw [if_pos (by rw [← h2]; exact gI_mem hk)]
  have : l.findIdx (fun x => decide (x = n)) = k := by
    rw [List.findIdx_eq hk]
    refine ⟨by rw [← gI_eq hk]; simpa using h2, fun j hj => ?_⟩
    simp only [decide_eq_false_iff_not]
    intro e
    exact h1 (List.mem_take_iff_getElem.2 ⟨j, by omega, e⟩)
  rw [this]
theorem posI_no {l : List Int} {n : Int} {k : Nat} (hk : ¬ (k : Int) < (l.length : Int)) (h1 : n ∉ l.take k) : (-1 : Int) = posI l n := by
  rw [List.take_of_length_le (by omega)] at h1
  unfold posI; rw [if_neg h1]
theorem posI_neg (l : List Int) (n : Int) : decide (posI l n < 0) = !(decide (n ∈ l)) := by
  unfold posI; split
  · rename_i h; simp [h]
  · rename_i h; simp [h]
theorem notin_snoc {l : List Int} {n : Int} {k : Nat} (hk : k < l.length) (h1 : n ∉ l.take k) (h2 : gI l k ≠ n) : n ∉ l.take (k+1) := by
  rw [List.take_succ_eq_append_getElem hk, List.mem_append, List.mem_singleton, ← gI_eq hk]
  rintro (h | h)
  · exact h1 h
  · exact h2 h.symm


/-- witnesses -/
def tk (jo : List Int) (i : Nat) : Bool := decide ((i : Int) ∈ jo)
def wini (jo : List Int) (st : Nat × List Cel) (c : Cel) : Nat × List Cel := if (black c && !tk jo (idx c)) = true then (addC st.1 c, st.2 ++ [c]) else st
def winiT (s : Nat) (jo : List Int) (k : Nat) : Nat × List Cel := ((setCells s).take k).foldl (wini jo) (0, [])
def wst (s : Nat) (jo : List Int) (st : Nat × List Cel) (w : Cel) : Nat × List Cel := if (hasS s w && (decide (0 ≤ gI jo (idx w)) && !st.1.testBit (gI jo (idx w)).toNat)) = true then (addC st.1 (cN (gI jo (idx w)).toNat), st.2 ++ [cN (gI jo (idx w)).toNat]) else st
def wrnd (s : Nat) (jo : List Int) (st : Nat × List Cel) (own : Cel) : Nat × List Cel := (nbs own).foldl (wst s jo) st
def wgo (s : Nat) (jo : List Int) : Nat → Nat × List Cel → Nat → Nat
  | 0, st, _ => st.1
  | n + 1, st, k => if k < st.2.length then wgo s jo n (wrnd s jo st (gC st.2 k)) (k + 1) else st.1
def witS (s : Nat) : Nat := wgo s (joined s) 65 (winiT s (joined s) (setCells s).length) 0
def wit (l : List Int) : List Cel := if regOk l then setCells (witS (regSet l)) else []
theorem wit_len (l : List Int) : (wit l).length ≤ 64 := by unfold wit; split; exact setCells_len _; simp
structure WG (st : Nat × List Cel) : Prop where
  lt : st.1 < 18446744073709551616
  pc : st.2.length = popc st.1
  ok : ∀ c ∈ st.2, okc c.x c.y = true
theorem WG.len {st : Nat × List Cel} (h : WG st) : st.2.length ≤ 64 := by rw [h.pc]; exact popc_le _
theorem WG.at {st : Nat × List Cel} (h : WG st) {k : Nat} (hk : k < st.2.length) : okc (gC st.2 k).x (gC st.2 k).y = true := h.ok _ (gC_mem hk)
theorem WG.push {st : Nat × List Cel} (h : WG st) {c : Cel} (hc : okc c.x c.y = true) (hn : st.1.testBit (idx c) = false) : WG (addC st.1 c, st.2 ++ [c]) := by
  refine ⟨addC_lt h.lt hc, ?_, fun d hd => ?_⟩
  · simp only [List.length_append, List.length_singleton]; rw [h.pc, popc_add hc hn]
  · simp only [List.mem_append, List.mem_singleton] at hd
    rcases hd with hd | rfl
    · exact h.ok d hd
    · exact hc
theorem winiT_snoc {s : Nat} {jo : List Int} {k : Nat} (h : k < (setCells s).length) : winiT s jo (k+1) = wini jo (winiT s jo k) (gC (setCells s) k) := by
  unfold winiT; rw [List.take_succ_eq_append_getElem h, List.foldl_append, gC_eq h]; rfl
theorem winiT_good (s : Nat) (jo : List Int) : ∀ k, k ≤ (setCells s).length → WG (winiT s jo k) ∧ ∀ i, (winiT s jo k).1.testBit i = true → ∃ j, j < k ∧ idx (gC (setCells s) j) = i := by
  intro k
  induction k with
  | zero => intro _; refine ⟨⟨by simp [winiT], ?_, fun c hc => by cases hc⟩, fun i hi => by simp [winiT] at hi⟩; rw [show (winiT s jo 0).1 = 0 from rfl, popc_zero]; rfl
  | succ k ih =>
    intro hk
    obtain ⟨h1, h2⟩ := ih (by omega)
    rw [winiT_snoc (by omega)]
    have hc : okc (gC (setCells s) k).x (gC (setCells s) k).y = true := set_in (by omega)
    unfold wini
    split
    · refine ⟨h1.push hc ?_, fun i hi => ?_⟩
      · rcases Bool.eq_false_or_eq_true ((winiT s jo k).1.testBit (idx (gC (setCells s) k))) with e | e
        · obtain ⟨j, hj, he⟩ := h2 _ e
          have := setCells_lt (s := s) hj (by omega)
          omega
        · exact e
      · simp only [addC_bit, Bool.or_eq_true, decide_eq_true_eq] at hi
        rcases hi with hi | hi
        · obtain ⟨j, hj, he⟩ := h2 i hi; exact ⟨j, by omega, he⟩
        · exact ⟨k, by omega, hi⟩
    · exact ⟨h1, fun i hi => by obtain ⟨j, hj, he⟩ := h2 i hi; exact ⟨j, by omega, he⟩⟩
theorem wst_good {s : Nat} {jo : List Int} (hj : joOk jo) {st : Nat × List Cel} (h : WG st) {w : Cel} : WG (wst s jo st w) := by
  unfold wst; split
  · rename_i hc
    simp only [Bool.and_eq_true, decide_eq_true_eq, Bool.not_eq_true'] at hc
    have hw := hj.2 (idx w) (idx_lt (hasS_ok hc.1))
    refine h.push (cN_ok (by omega)) ?_
    rw [idx_cN (by omega)]; exact hc.2.2
  · exact h
theorem foldl_wst_good {s : Nat} {jo : List Int} (hj : joOk jo) : ∀ (ws : List Cel) (st : Nat × List Cel), WG st → WG (ws.foldl (wst s jo) st) := by
  intro ws
  induction ws with
  | nil => intro st h; exact h
  | cons w ws ih => intro st h; exact ih _ (wst_good hj h)
theorem wst_len (s : Nat) (jo : List Int) (st : Nat × List Cel) (w : Cel) : ∃ e, (wst s jo st w).2 = st.2 ++ e := by
  unfold wst; split
  · exact ⟨_, rfl⟩
  · exact ⟨[], by simp⟩
theorem foldl_wst_app (s : Nat) (jo : List Int) : ∀ (ws : List Cel) (st : Nat × List Cel), ∃ e, (ws.foldl (wst s jo) st).2 = st.2 ++ e := by
  intro ws
  induction ws with
  | nil => intro st; exact ⟨[], by simp⟩
  | cons w ws ih =>
    intro st
    obtain ⟨e1, h1⟩ := wst_len s jo st w
    obtain ⟨e2, h2⟩ := ih (wst s jo st w)
    exact ⟨e1 ++ e2, by rw [List.foldl_cons, h2, h1, List.append_assoc]⟩
theorem around_one (s : Nat) (b : Cel) : setCells (aroundS s [b]) = (nbs b).filter (hasS s) := by
  rw [← nbs_scan, List.filter_map, List.filter_filter]
  unfold setCells
  congr 1
  refine List.filter_congr fun k hk => ?_
  have hk : k < 64 := by simpa using hk
  rw [around_bit hk]
  simp only [List.any_cons, List.any_nil, Bool.or_false, Function.comp]
  rw [has_cN hk, nbr_comm, Bool.and_comm]
theorem foldl_around (s : Nat) (jo : List Int) (st : Nat × List Cel) (b : Cel) : (setCells (aroundS s [b])).foldl (wst s jo) st = wrnd s jo st b := by
  rw [around_one, List.foldl_filter]
  unfold wrnd
  congr 1
  funext st w
  split
  · rfl
  · rename_i h; unfold wst; rw [if_neg (by simp_all)]
theorem around_has {s : Nat} {b : Cel} {j : Nat} (h : j < (setCells (aroundS s [b])).length) : hasS s (gC (setCells (aroundS s [b])) j) = true := by
  have := gC_mem h
  rw [around_one] at this
  rw [around_one]
  exact (List.mem_filter.1 this).2
theorem foldl_wst_snoc (s : Nat) (jo : List Int) (st : Nat × List Cel) {C : List Cel} {j : Nat} (h : j < C.length) : (C.take (j+1)).foldl (wst s jo) st = wst s jo ((C.take j).foldl (wst s jo) st) (gC C j) := by
  rw [List.take_succ_eq_append_getElem h, List.foldl_append, gC_eq h]; rfl
theorem wgo_step {s : Nat} {jo : List Int} {k : Nat} {st : Nat × List Cel} (h : k < st.2.length) (h2 : st.2.length ≤ 64) : wgo s jo (65 - k) st k = wgo s jo (65 - (k+1)) (wrnd s jo st (gC st.2 k)) (k+1) := by
  rw [show 65 - k = (65 - (k+1)) + 1 by omega, wgo, if_pos h]
theorem wgo_end {s : Nat} {jo : List Int} {k : Nat} {st : Nat × List Cel} (h : ¬ k < st.2.length) (hk : k ≤ 64) : wgo s jo (65 - k) st k = st.1 := by
  rw [show 65 - k = (64 - k) + 1 by omega, wgo, if_neg h]
/-- the marks of the reference -/
theorem wini_no1 {jo : List Int} {st : Nat × List Cel} {c : Cel} (h : black c = false) : wini jo st c = st := by unfold wini; rw [if_neg (by simp [h])]
theorem wini_no2 {jo : List Int} {st : Nat × List Cel} {c : Cel} (h : tk jo (idx c) = true) : wini jo st c = st := by unfold wini; rw [if_neg (by simp [h])]
theorem wini_yes {jo : List Int} {st : Nat × List Cel} {c : Cel} (h : black c = true) (h2 : tk jo (idx c) = false) : wini jo st c = (addC st.1 c, st.2 ++ [c]) := by unfold wini; rw [if_pos (by simp [h, h2])]
theorem tk_pos {jo : List Int} {i : Nat} {b : Bool} (h : decide (posI jo (i : Int) < 0) = b) : tk jo i = !b := by rw [posI_neg] at h; unfold tk; rw [← h]; simp
theorem wst_yes {s : Nat} {jo : List Int} {st : Nat × List Cel} {w : Cel} (h1 : hasS s w = true) (h2 : 0 ≤ gI jo (idx w)) (h3 : st.1.testBit (gI jo (idx w)).toNat = false) : wst s jo st w = (addC st.1 (cN (gI jo (idx w)).toNat), st.2 ++ [cN (gI jo (idx w)).toNat]) := by
  unfold wst; rw [if_pos (by simp [h1, h2, h3])]
theorem wst_no2 {s : Nat} {jo : List Int} {st : Nat × List Cel} {w : Cel} (h1 : ¬ 0 ≤ gI jo (idx w)) : wst s jo st w = st := by unfold wst; rw [if_neg (by simp [h1])]
theorem wst_no3 {s : Nat} {jo : List Int} {st : Nat × List Cel} {w : Cel} (h1 : st.1.testBit (gI jo (idx w)).toNat = true) : wst s jo st w = st := by unfold wst; rw [if_neg (by simp [h1])]

theorem qC7_bs_37 : ∀ (a b : Int) (c : Bool), Try.prog.built 37 [(0, .int .i64 a), (1, .int .i64 b), (2, .bool c)] = some ([.int .i64 a, .int .i64 b, .bool c] : List Value).toArray := fun _ _ _ => rfl
theorem qC7_fo_46_0 : fieldOff Try.prog 46 0 = some 0 := by kernel_rfl
theorem qC7_fo_46_1 : fieldOff Try.prog 46 1 = some 1 := by kernel_rfl
theorem qC7_sz_3 : (Try.prog.info? 3).map (·.size) = some 1 := by kernel_rfl
theorem qC7_ti_3 : TI Try.prog 3 false 1 := ⟨⟨_, Try.underlying3, rfl⟩, by kernel_rfl⟩
theorem qC7_ti_37 : TI Try.prog 37 true 3 := ⟨⟨_, Try.underlying37, rfl⟩, by kernel_rfl⟩
theorem qC7_ti_46 : TI Try.prog 46 true 2 := ⟨⟨_, Try.underlying46, rfl⟩, by kernel_rfl⟩
theorem qC7_un_24 : Try.prog.underlying 24 = some (.slice 3) := Try.underlying24
theorem qC7_zi_37 : ZI Try.prog 37 (.agg #[.int .i64 0, .int .i64 0, .bool false]) 3 24 := by unfold ZI; kernel_rfl
set_option maxHeartbeats 4000000 in
set_option maxRecDepth 100000 in
theorem impl_DominoOver_fn (a b : Cel) : Fn Try.prog 68 [.agg ([vI a.x, vI a.y].map A.val), .agg ([vI b.x, vI b.y].map A.val)] [.val (.agg ([.int .i64 (dOv a b).x, .int .i64 (dOv a b).y, .bool (dOv a b).d] : List Value).toArray), .val (.bool (nbr a b))] := by
 refine fn_intro (N := 27) Try.func68 rfl (by kernel_rfl) rfl (Nat.le_of_ble_eq_true rfl) [2, 3, 4, 8, 15, 20] (ret2 rfl rfl (by intro u hu; injection hu with hu; subst hu; rfl)) (fun W => ?_)
 show Wp _ _ _ [kV 0 (V.av [vI a.x, vI a.y]), kV 1 (V.av [vI b.x, vI b.y]), kF 2, kF 3, kF 4, kF 8, kF 15, kF 20]
 refine sq (rg ?_)
 refine z ?_ (h := fun ν => acts_box (h := 2) ν xt (by exact ob1 rfl))
 refine z ?_ (h := fun ν => acts_box (h := 3) ν xt (by exact ob1 rfl))
 refine z ?_ (h := fun ν => acts_alloc' (h := 4) (cap := 1) (s := 3) (cells := [aI 0, aI 0, aB false]) ν qC7_zi_37 rfl rfl (by decide))
 refine zk (nl (sq (sq (rg ?_))))
 refine z ?_ (h := fun ν => acts_load_owns (xs := [vI a.x, vI a.y].map A.val) ν qC7_ti_46 rfl (by decide) rfl)
 refine z ?_ (h := fun ν => acts_load_owns (xs := [vI b.x, vI b.y].map A.val) ν qC7_ti_46 rfl (by decide) rfl)
 refine z ?_ (h := fun ν => acts_call1 ν (impl_AreNeighbors_fn a b ) (ac (ArgV.va va) (ac (ArgV.va va) an)) rv)
 refine z ?_ (h := fun ν => acts_un ν vt (r_not rfl))
 refine nl ?_
 refine wi (b := (!(nbr a b))) (fun c1 => ?_) (fun c1 => ?_)
 ·skip
  have c2 : (nbr a b) = false := by first | (rw [← Bool.not_eq_true']; exact c1) | simpa using c1
  refine sq (rg ?_)
  refine z ?_ (h := fun ν => acts_build (cells := [vI 0, vI 0, .bool false]) ν OpVs.nil rfl)
  refine z ?_ (h := fun _ => acts_store (cells := [aI 0, aI 0, aB false]) qC7_ti_37 xt (by exact rfl) (by decide) (by exact ob1 rfl) (by exact Nat.le_of_ble_eq_true rfl) (by exact rfl))
  refine zk (nl (wp_ret' ?_))
  exact ⟨VRes.cells 4 37 4 ⟨37, 3, true, [aI 0, aI 0, aB false]⟩ _ (by kernel_rfl) (by kernel_rfl) qC7_ti_37 (Nat.le_of_ble_eq_true rfl) (bagg (vs := [vI 0, vI 0, .bool false]) (by simp_all [dOv])), VRes.tmp _ _ _ (by exact rfl) (bval (congrArg Value.bool (by simp_all [dOv])))⟩
 ·skip
  have c3 : (nbr a b) = true := by first | (rw [← Bool.not_eq_false']; exact c1) | simpa using c1
  refine sk (sq (rg ?_))
  refine z ?_ (h := fun ν => acts_field (off' := 0) ν qC7_fo_46_0 rfl)
  refine z ?_ (h := fun ν => acts_load_own (x := .val (.int .i64 a.x)) ν qC7_ti_3 (by exact rfl))
  refine z ?_ (h := fun ν => acts_field (off' := 0) ν qC7_fo_46_0 rfl)
  refine z ?_ (h := fun ν => acts_load_own (x := .val (.int .i64 b.x)) ν qC7_ti_3 (by exact rfl))
  refine z ?_ (h := fun ν => acts_min (c := (min a.x b.x)) ν vt vt (by omega))
  refine z ?_ (h := fun ν => acts_field (off' := 1) ν qC7_fo_46_1 rfl)
  refine z ?_ (h := fun ν => acts_load_own (x := .val (.int .i64 a.y)) ν qC7_ti_3 (by exact rfl))
  refine z ?_ (h := fun ν => acts_field (off' := 1) ν qC7_fo_46_1 rfl)
  refine z ?_ (h := fun ν => acts_load_own (x := .val (.int .i64 b.y)) ν qC7_ti_3 (by exact rfl))
  refine z ?_ (h := fun ν => acts_min (c := (min a.y b.y)) ν vt vt (by omega))
  refine z ?_ (h := fun ν => acts_field (off' := 0) ν qC7_fo_46_0 rfl)
  refine z ?_ (h := fun ν => acts_load_own (x := .val (.int .i64 a.x)) ν qC7_ti_3 (by exact rfl))
  refine z ?_ (h := fun ν => acts_field (off' := 0) ν qC7_fo_46_0 rfl)
  refine z ?_ (h := fun ν => acts_load_own (x := .val (.int .i64 b.x)) ν qC7_ti_3 (by exact rfl))
  refine z ?_ (h := fun ν => acts_bin ν vt vt (r_eql rfl))
  refine z ?_ (h := fun ν => bD ν qC7_bs_37 vt vt vt)
  refine z ?_ (h := fun _ => acts_store (cells := [aI (min a.x b.x), aI (min a.y b.y), aB (decide (a.x = b.x))]) qC7_ti_37 xt (by exact rfl) (by decide) (by exact ob1 rfl) (by exact Nat.le_of_ble_eq_true rfl) (by exact rfl))
  refine zk (nl (wp_ret' ?_))
  exact ⟨VRes.cells 4 37 4 ⟨37, 3, true, [aI (min a.x b.x), aI (min a.y b.y), aB (decide (a.x = b.x))]⟩ _ (by kernel_rfl) (by kernel_rfl) qC7_ti_37 (Nat.le_of_ble_eq_true rfl) (bagg (vs := [vI (min a.x b.x), vI (min a.y b.y), .bool (decide (a.x = b.x))]) (by simp_all [dOv])), VRes.tmp _ _ _ (by exact rfl) (bval (congrArg Value.bool (by simp_all [dOv])))⟩

set_option maxHeartbeats 4000000 in
set_option maxRecDepth 100000 in
theorem impl_indexOf_fn (l : List Int) (n : Int) (hl : l.length ≤ 4194304) : Fn Try.prog 76 [.a (.slv l.length 1 (isl l)), .a (.val (.int .i64 n))] [.val (.int .i64 (posI l n))] := by
 refine fn_intro (N := 19) Try.func76 rfl (by kernel_rfl) rfl (Nat.le_of_ble_eq_true rfl) [8] (ret1 rfl) (fun W => ?_)
 show Wp _ _ _ [kV 0 (V.b (.a (.slv l.length 1 (isl l)))), kI 1 n, kF 8]
 refine sq (rg (zk (nl (sq (sq (rg (zm ?_)))))))
 refine z ?_ (h := fun ν => lnV ν qC7_un_24)
 refine z ?_ (h := fun ν => mc ν)
 refine nl (bkk ?_)
 refine wp_loop' (fun (k : Nat) => k ≤ l.length ∧ n ∉ l.take k) (fun (k : Nat) => [kI 1 n, kV 7 (V.b (.a (.slv l.length 1 (isl l)))), kI 8 ((l.length : Nat) : Int), kI 9 ((k : Nat) : Int), kF 8]) (fun (k : Nat) => l.length - k) ((0 : Nat)) (by exact ⟨Nat.zero_le _, by simp⟩) (wkf id (wS <| wS <| wS <| wE (e := (vint (by first | rfl | omega | (simp; done) | (simp; omega)))) <| wF <| wN)) ?_
 rintro k inv1
 replace inv1 : k ≤ l.length ∧ n ∉ l.take k := inv1
 obtain ⟨inv1_0, inv1_1⟩ := inv1
 refine sq (rg ?_)
 refine z ?_ (h := fun ν => acts_bin ν vt vt (r_lss rfl))
 refine nl (sq ?_)
 refine wi (fun c2 => ?_) (fun c2 => ?_)
 ·skip
  have c2P := of_decide_eq_true c2
  refine sk (sq (bkk (sq (rg (zm ?_)))))
  refine z ?_ (h := fun ν => ixv ν qC7_un_24 qC7_sz_3 vt)
  refine z ?_ (h := fun ν => uI ν qC7_ti_3)
  refine za (za (nl (sq (rg (zm (zm ?_))))))
  refine z ?_ (h := fun ν => acts_bin ν vt vt (r_eql rfl))
  refine nl ?_
  refine wi (fun c3 => ?_) (fun c3 => ?_)
  ·skip
   have c3P := of_decide_eq_true c3
   refine sq (rg (zm (za (nl (wp_ret' ?_)))))
   exact VRes.tmp _ _ _ (by exact rfl) (bval (congrArg (Value.int .i64) (by exact posI_yes (by omega) (by assumption) (by assumption))))
  ·skip
   have c3P := of_decide_eq_false c3
   refine sk (rg ?_)
   refine z ?_ (h := fun ν => acts_bin ν vt vc rA)
   refine zm (nl ?_)
   exact loop_back ((k + 1)) (by exact ⟨by omega, notin_snoc (by omega) (by assumption) (by assumption)⟩) (by show l.length - (k + 1) < l.length - k; omega) (wkf id (wS <| wS <| wS <| wE (e := (vint (by first | rfl | omega | (simp; done) | (simp; omega)))) <| wF <| wN))
 ·skip
  have c2P := of_decide_eq_false c2
  refine wp_exit' (sq (rg (zk (nl (wp_ret' ?_)))))
  exact VRes.tmp _ _ _ (by exact rfl) (bval (congrArg (Value.int .i64) (by exact posI_no (by assumption) (by assumption))))
end Cl
end Go.Proofs.Ytjgjeflidcembaa
