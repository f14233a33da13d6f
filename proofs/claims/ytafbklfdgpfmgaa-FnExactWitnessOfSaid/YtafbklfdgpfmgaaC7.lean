/- Walks over clean states, printed by wg.py. No statement is proved here. -/
import Derived.Test.YtafbklfdgpfmgaaC6
namespace Go.Proofs.Ytafbklfdgpfmgaa
namespace Cl
open Go.ChangeShapes Go.WideShapes Go.ChangeAt Go.RowKit

theorem hasR_S {l : List Int} {c : Cel} (ho : regOk l = true) (hc : okc c.x c.y = true) : hasR l c = hasS (regSet l) c := by unfold hasS; rw [hc, ← regSet_has ho hc]; rfl
theorem nbs_ok {b : Cel} {k : Nat} (h : k < (nbs b).length) : okc (gC (nbs b) k).x (gC (nbs b) k).y = true := by
  have := mem_nbs.1 (gC_mem h)
  unfold nbr at this; simp only [Bool.and_eq_true] at this; exact this.1.2
theorem gB_bitS {s : Nat} {w : Cel} (h : okc w.x w.y = true) : gB (bitsL s) (idx w) = hasS s w := by rw [gB_bits (idx_lt h)]; unfold hasS; rw [h]; rfl
theorem bits_ne {s : Nat} {sb : List Bool} (h : sb = bitsL s) (w : Cel) : sb.set (idx w) true = bitsL (addC s w) := by rw [h, bitsL_set]
theorem has_cN {s i : Nat} (h : i < 64) : hasS s (cN i) = s.testBit i := by unfold hasS; rw [cN_ok h, idx_cN h]; rfl
def dOv (a b : Cel) : Dom := if nbr a b then ⟨min a.x b.x, min a.y b.y, decide (a.x = b.x)⟩ else ⟨0, 0, false⟩
def matT (jo : List Int) (k : Nat) : List Dom := ((List.range k).filter (fun i => decide (0 ≤ gI jo i))).map (fun i => dOv (cN i) (cN (gI jo i).toNat))
theorem matT_yes {jo : List Int} {k : Nat} (h : 0 ≤ gI jo k) : matT jo (k+1) = matT jo k ++ [dOv (cN k) (cN (gI jo k).toNat)] := by
  unfold matT; rw [List.range_succ, List.filter_append, List.map_append]; simp [h]
theorem matT_no {jo : List Int} {k : Nat} (h : ¬ 0 ≤ gI jo k) : matT jo (k+1) = matT jo k := by
  unfold matT; rw [List.range_succ, List.filter_append, List.map_append]; simp [h]
theorem matT_len (jo : List Int) (k : Nat) : (matT jo k).length ≤ k := by
  unfold matT; rw [List.length_map]; exact Nat.le_trans (List.length_filter_le _ _) (by simp)
theorem popc_zero : popc 0 = 0 := by simp [popc]
/-- first index of a number -/
def posI (l : List Int) (n : Int) : Int := if n ∈ l then (l.findIdx (fun x => decide (x = n)) : Int) else -1
theorem gI_mem {l : List Int} {k : Nat} (h : k < l.length) : gI l k ∈ l := by rw [gI_eq h]; exact List.getElem_mem h
theorem posI_yes {l : List Int} {n : Int} {k : Nat} (hk : k < l.length) (h1 : n ∉ l.take k) (h2 : gI l k = n) : (k : Int) = posI l n := by
  unfold posI
  rw [if_pos (by rw [← h2]; exact gI_mem hk)]
  have : l.findIdx (fun x => decide (x = n)) = k := by
    rw [List.findIdx_eq hk]
    refine ⟨by rw [← gI_eq hk]; simpa using h2, fun j hj => ?_⟩
    simp only [decide_eq_false_iff_not]
    intro e
    exact h1 (List.mem_take_iff_getElem.2 ⟨j, by omega, e⟩)
  rw [this]
theorem posI_no {l : List Int} {n : Int} {k : Nat} (hk : ¬ (k : Int) < (l.length : Int)) (h1 : n ∉ l.take k) : (-1 : Int) = posI l n := by
  rw [List.take_of_length_le (by omega)] at h1
  unfold posI; rw [if_neg h1]
theorem posI_neg (l : List Int) (n : Int) : decide (posI l n < 0) = !(decide (n ∈ l)) := by
  unfold posI; split
  · rename_i h; simp [h]
  · rename_i h; simp [h]
theorem notin_snoc {l : List Int} {n : Int} {k : Nat} (hk : k < l.length) (h1 : n ∉ l.take k) (h2 : gI l k ≠ n) : n ∉ l.take (k+1) := by
  rw [List.take_succ_eq_append_getElem hk, List.mem_append, List.mem_singleton, ← gI_eq hk]
  rintro (h | h)
  · exact h1 h
  · exact h2 h.symm


/-- witnesses -/
def tk (jo : List Int) (i : Nat) : Bool := decide ((i : Int) ∈ jo)
def wini (jo : List Int) (st : Nat × List Cel) (c : Cel) : Nat × List Cel := if (black c && !tk jo (idx c)) = true then (addC st.1 c, st.2 ++ [c]) else st
def winiT (s : Nat) (jo : List Int) (k : Nat) : Nat × List Cel := ((setCells s).take k).foldl (wini jo) (0, [])
def wst (s : Nat) (jo : List Int) (st : Nat × List Cel) (w : Cel) : Nat × List Cel := if (hasS s w && (decide (0 ≤ gI jo (idx w)) && !st.1.testBit (gI jo (idx w)).toNat)) = true then (addC st.1 (cN (gI jo (idx w)).toNat), st.2 ++ [cN (gI jo (idx w)).toNat]) else st
def wrnd (s : Nat) (jo : List Int) (st : Nat × List Cel) (own : Cel) : Nat × List Cel := (nbs own).foldl (wst s jo) st
def wgo (s : Nat) (jo : List Int) : Nat → Nat × List Cel → Nat → Nat
  | 0, st, _ => st.1
  | n + 1, st, k => if k < st.2.length then wgo s jo n (wrnd s jo st (gC st.2 k)) (k + 1) else st.1
def witS (s : Nat) : Nat := wgo s (joined s) 65 (winiT s (joined s) (setCells s).length) 0
def wit (l : List Int) : List Cel := if regOk l then setCells (witS (regSet l)) else []
theorem wit_len (l : List Int) : (wit l).length ≤ 64 := by unfold wit; split; exact setCells_len _; simp
structure WG (st : Nat × List Cel) : Prop where
  lt : st.1 < 18446744073709551616
  pc : st.2.length = popc st.1
  ok : ∀ c ∈ st.2, okc c.x c.y = true
theorem WG.len {st : Nat × List Cel} (h : WG st) : st.2.length ≤ 64 := by rw [h.pc]; exact popc_le _
theorem WG.at {st : Nat × List Cel} (h : WG st) {k : Nat} (hk : k < st.2.length) : okc (gC st.2 k).x (gC st.2 k).y = true := h.ok _ (gC_mem hk)
theorem WG.push {st : Nat × List Cel} (h : WG st) {c : Cel} (hc : okc c.x c.y = true) (hn : st.1.testBit (idx c) = false) : WG (addC st.1 c, st.2 ++ [c]) := by
  refine ⟨addC_lt h.lt hc, ?_, fun d hd => ?_⟩
  · simp only [List.length_append, List.length_singleton]; rw [h.pc, popc_add hc hn]
  · simp only [List.mem_append, List.mem_singleton] at hd
    rcases hd with hd | rfl
    · exact h.ok d hd
    · exact hc
theorem winiT_snoc {s : Nat} {jo : List Int} {k : Nat} (h : k < (setCells s).length) : winiT s jo (k+1) = wini jo (winiT s jo k) (gC (setCells s) k) := by
  unfold winiT; rw [List.take_succ_eq_append_getElem h, List.foldl_append, gC_eq h]; rfl
theorem winiT_good (s : Nat) (jo : List Int) : ∀ k, k ≤ (setCells s).length → WG (winiT s jo k) ∧ ∀ i, (winiT s jo k).1.testBit i = true → ∃ j, j < k ∧ idx (gC (setCells s) j) = i := by
  intro k
  induction k with
  | zero => intro _; refine ⟨⟨by simp [winiT], ?_, fun c hc => by cases hc⟩, fun i hi => by simp [winiT] at hi⟩; rw [show (winiT s jo 0).1 = 0 from rfl, popc_zero]; rfl
  | succ k ih =>
    intro hk
    obtain ⟨h1, h2⟩ := ih (by omega)
    rw [winiT_snoc (by omega)]
    have hc : okc (gC (setCells s) k).x (gC (setCells s) k).y = true := set_in (by omega)
    unfold wini
    split
    · refine ⟨h1.push hc ?_, fun i hi => ?_⟩
      · rcases Bool.eq_false_or_eq_true ((winiT s jo k).1.testBit (idx (gC (setCells s) k))) with e | e
        · obtain ⟨j, hj, he⟩ := h2 _ e
          have := setCells_lt (s := s) hj (by omega)
          omega
        · exact e
      · simp only [addC_bit, Bool.or_eq_true, decide_eq_true_eq] at hi
        rcases hi with hi | hi
        · obtain ⟨j, hj, he⟩ := h2 i hi; exact ⟨j, by omega, he⟩
        · exact ⟨k, by omega, hi⟩
    · exact ⟨h1, fun i hi => by obtain ⟨j, hj, he⟩ := h2 i hi; exact ⟨j, by omega, he⟩⟩
theorem wst_good {s : Nat} {jo : List Int} (hj : joOk jo) {st : Nat × List Cel} (h : WG st) {w : Cel} : WG (wst s jo st w) := by
  unfold wst; split
  · rename_i hc
    simp only [Bool.and_eq_true, decide_eq_true_eq, Bool.not_eq_true'] at hc
    have hw := hj.2 (idx w) (idx_lt (hasS_ok hc.1))
    refine h.push (cN_ok (by omega)) ?_
    rw [idx_cN (by omega)]; exact hc.2.2
  · exact h
theorem foldl_wst_good {s : Nat} {jo : List Int} (hj : joOk jo) : ∀ (ws : List Cel) (st : Nat × List Cel), WG st → WG (ws.foldl (wst s jo) st) := by
  intro ws
  induction ws with
  | nil => intro st h; exact h
  | cons w ws ih => intro st h; exact ih _ (wst_good hj h)
theorem wst_len (s : Nat) (jo : List Int) (st : Nat × List Cel) (w : Cel) : ∃ e, (wst s jo st w).2 = st.2 ++ e := by
  unfold wst; split
  · exact ⟨_, rfl⟩
  · exact ⟨[], by simp⟩
theorem foldl_wst_app (s : Nat) (jo : List Int) : ∀ (ws : List Cel) (st : Nat × List Cel), ∃ e, (ws.foldl (wst s jo) st).2 = st.2 ++ e := by
  intro ws
  induction ws with
  | nil => intro st; exact ⟨[], by simp⟩
  | cons w ws ih =>
    intro st
    obtain ⟨e1, h1⟩ := wst_len s jo st w
    obtain ⟨e2, h2⟩ := ih (wst s jo st w)
    exact ⟨e1 ++ e2, by rw [List.foldl_cons, h2, h1, List.append_assoc]⟩
theorem around_one (s : Nat) (b : Cel) : setCells (aroundS s [b]) = (nbs b).filter (hasS s) := by
  rw [← nbs_scan, List.filter_map, List.filter_filter]
  unfold setCells
  congr 1
  refine List.filter_congr fun k hk => ?_
  have hk : k < 64 := by simpa using hk
  rw [around_bit hk]
  simp only [List.any_cons, List.any_nil, Bool.or_false, Function.comp]
  rw [has_cN hk, nbr_comm, Bool.and_comm]
theorem foldl_around (s : Nat) (jo : List Int) (st : Nat × List Cel) (b : Cel) : (setCells (aroundS s [b])).foldl (wst s jo) st = wrnd s jo st b := by
  rw [around_one, List.foldl_filter]
  unfold wrnd
  congr 1
  funext st w
  split
  · rfl
  · rename_i h; unfold wst; rw [if_neg (by simp_all)]
theorem around_has {s : Nat} {b : Cel} {j : Nat} (h : j < (setCells (aroundS s [b])).length) : hasS s (gC (setCells (aroundS s [b])) j) = true := by
  have := gC_mem h
  rw [around_one] at this
  rw [around_one]
  exact (List.mem_filter.1 this).2
theorem foldl_wst_snoc (s : Nat) (jo : List Int) (st : Nat × List Cel) {C : List Cel} {j : Nat} (h : j < C.length) : (C.take (j+1)).foldl (wst s jo) st = wst s jo ((C.take j).foldl (wst s jo) st) (gC C j) := by
  rw [List.take_succ_eq_append_getElem h, List.foldl_append, gC_eq h]; rfl
theorem wgo_step {s : Nat} {jo : List Int} {k : Nat} {st : Nat × List Cel} (h : k < st.2.length) (h2 : st.2.length ≤ 64) : wgo s jo (65 - k) st k = wgo s jo (65 - (k+1)) (wrnd s jo st (gC st.2 k)) (k+1) := by
  rw [show 65 - k = (65 - (k+1)) + 1 by omega, wgo, if_pos h]
theorem wgo_end {s : Nat} {jo : List Int} {k : Nat} {st : Nat × List Cel} (h : ¬ k < st.2.length) (hk : k ≤ 64) : wgo s jo (65 - k) st k = st.1 := by
  rw [show 65 - k = (64 - k) + 1 by omega, wgo, if_neg h]
theorem drop_get {L M : List Cel} {i j : Nat} (h : L.drop i = M.drop j) (hi : i < L.length) : j < M.length ∧ gC L i = gC M j := by
  have e := congrArg List.length h
  simp only [List.length_drop] at e
  have hj : j < M.length := by omega
  refine ⟨hj, ?_⟩
  rw [gC_eq hi, gC_eq hj]
  have h1 := congrArg (fun x => x[0]?) h
  simp only [List.getElem?_drop, Nat.add_zero] at h1
  rw [List.getElem?_eq_getElem hi, List.getElem?_eq_getElem hj] at h1
  exact Option.some.inj h1
theorem drop_more {L M : List Cel} {i j : Nat} (h : L.drop i = M.drop j) : L.drop (i+1) = M.drop (j+1) := by
  rw [← List.drop_drop, h, List.drop_drop]
theorem drop_app {L M : List Cel} {i j : Nat} (h : L.drop i = M.drop j) (hj : j ≤ M.length) (c : List Cel) : (L.drop i ++ c).drop 0 = (M ++ c).drop j := by
  rw [List.drop_zero, h, List.drop_append_of_le_length hj]
theorem drop_none {L M : List Cel} {i j : Nat} (h : L.drop i = M.drop j) (hi : ¬ ((0 : Int) < ((L.length - i : Nat) : Int))) : ¬ j < M.length := by
  have e := congrArg List.length h
  simp only [List.length_drop] at e
  omega
/-- the marks of the reference -/
def mtB (jo : List Int) (k : Nat) : List Bool := (List.range k).foldl (fun m i => if 0 ≤ gI jo i then m.set (gI jo i).toNat true else m) (List.replicate jo.length false)
theorem mtB_yes {jo : List Int} {k : Nat} (h : 0 ≤ gI jo k) : mtB jo (k+1) = (mtB jo k).set (gI jo k).toNat true := by unfold mtB; rw [List.range_succ, List.foldl_append]; simp [h]
theorem mtB_no {jo : List Int} {k : Nat} (h : ¬ 0 ≤ gI jo k) : mtB jo (k+1) = mtB jo k := by unfold mtB; rw [List.range_succ, List.foldl_append]; simp [h]
theorem mtB_len (jo : List Int) : ∀ k, (mtB jo k).length = jo.length := by
  intro k
  induction k with
  | zero => simp [mtB]
  | succ k ih =>
    by_cases h : 0 ≤ gI jo k
    · rw [mtB_yes h, List.length_set, ih]
    · rw [mtB_no h, ih]
theorem gB_set {l : List Bool} {i k : Nat} {v : Bool} (h : k < l.length) : gB (l.set i v) k = if i = k then v else gB l k := by
  rw [gB_eq (by simpa using h), gB_eq h, List.getElem_set]
theorem mtB_at (jo : List Int) {i : Nat} (hi : i < jo.length) : ∀ k, gB (mtB jo k) i = decide (∃ j, j < k ∧ 0 ≤ gI jo j ∧ gI jo j = i) := by
  intro k
  induction k with
  | zero => rw [gB_eq (by rw [mtB_len]; exact hi)]; simp [mtB]
  | succ k ih =>
    by_cases h : 0 ≤ gI jo k
    · rw [mtB_yes h, gB_set (by rw [mtB_len]; exact hi), ih]
      split
      · rename_i e; symm; simp only [decide_eq_true_eq]; exact ⟨k, by omega, h, by omega⟩
      · rename_i e
        rw [decide_eq_decide]
        constructor
        · rintro ⟨j, h1, h2, h3⟩; exact ⟨j, by omega, h2, h3⟩
        · rintro ⟨j, h1, h2, h3⟩
          rcases Nat.lt_or_ge j k with h4 | h4
          · exact ⟨j, h4, h2, h3⟩
          · have : j = k := by omega
            subst this; omega
    · rw [mtB_no h, ih, decide_eq_decide]
      constructor
      · rintro ⟨j, h1, h2, h3⟩; exact ⟨j, by omega, h2, h3⟩
      · rintro ⟨j, h1, h2, h3⟩
        rcases Nat.lt_or_ge j k with h4 | h4
        · exact ⟨j, h4, h2, h3⟩
        · have : j = k := by omega
          subst this; omega
theorem mtB_tk (jo : List Int) {i : Nat} (hi : i < jo.length) : gB (mtB jo jo.length) i = tk jo i := by
  rw [mtB_at jo hi]; unfold tk; rw [decide_eq_decide]
  constructor
  · rintro ⟨j, h1, h2, h3⟩; rw [← h3]; exact gI_mem h1
  · intro h
    obtain ⟨j, hj, e⟩ := List.getElem_of_mem h
    exact ⟨j, hj, by rw [gI_eq hj, e]; omega, by rw [gI_eq hj, e]⟩
theorem wini_no1 {jo : List Int} {st : Nat × List Cel} {c : Cel} (h : black c = false) : wini jo st c = st := by unfold wini; rw [if_neg (by simp [h])]
theorem wini_no2 {jo : List Int} {st : Nat × List Cel} {c : Cel} (h : tk jo (idx c) = true) : wini jo st c = st := by unfold wini; rw [if_neg (by simp [h])]
theorem wini_yes {jo : List Int} {st : Nat × List Cel} {c : Cel} (h : black c = true) (h2 : tk jo (idx c) = false) : wini jo st c = (addC st.1 c, st.2 ++ [c]) := by unfold wini; rw [if_pos (by simp [h, h2])]
theorem tk_pos {jo : List Int} {i : Nat} {b : Bool} (h : decide (posI jo (i : Int) < 0) = b) : tk jo i = !b := by rw [posI_neg] at h; unfold tk; rw [← h]; simp
theorem wst_yes {s : Nat} {jo : List Int} {st : Nat × List Cel} {w : Cel} (h1 : hasS s w = true) (h2 : 0 ≤ gI jo (idx w)) (h3 : st.1.testBit (gI jo (idx w)).toNat = false) : wst s jo st w = (addC st.1 (cN (gI jo (idx w)).toNat), st.2 ++ [cN (gI jo (idx w)).toNat]) := by
  unfold wst; rw [if_pos (by simp [h1, h2, h3])]
theorem wst_no1 {s : Nat} {jo : List Int} {st : Nat × List Cel} {w : Cel} (h1 : hasS s w = false) : wst s jo st w = st := by unfold wst; rw [if_neg (by simp [h1])]
theorem wst_no2 {s : Nat} {jo : List Int} {st : Nat × List Cel} {w : Cel} (h1 : ¬ 0 ≤ gI jo (idx w)) : wst s jo st w = st := by unfold wst; rw [if_neg (by simp [h1])]
theorem wst_no3 {s : Nat} {jo : List Int} {st : Nat × List Cel} {w : Cel} (h1 : st.1.testBit (gI jo (idx w)).toNat = true) : wst s jo st w = st := by unfold wst; rw [if_neg (by simp [h1])]

theorem qC7_fo_49_0 : fieldOff Try.prog 49 0 = some 0 := by kernel_rfl
theorem qC7_fo_49_1 : fieldOff Try.prog 49 1 = some 1 := by kernel_rfl
theorem qC7_sz_3 : (Try.prog.info? 3).map (·.size) = some 1 := by kernel_rfl
theorem qC7_sz_4 : (Try.prog.info? 4).map (·.size) = some 1 := by kernel_rfl
theorem qC7_sz_49 : (Try.prog.info? 49).map (·.size) = some 2 := by kernel_rfl
theorem qC7_ti_29 : TI Try.prog 29 true 1 := ⟨⟨_, Try.underlying29, rfl⟩, by kernel_rfl⟩
theorem qC7_ti_3 : TI Try.prog 3 false 1 := ⟨⟨_, Try.underlying3, rfl⟩, by kernel_rfl⟩
theorem qC7_ti_4 : TI Try.prog 4 false 1 := ⟨⟨_, Try.underlying4, rfl⟩, by kernel_rfl⟩
theorem qC7_ti_49 : TI Try.prog 49 true 2 := ⟨⟨_, Try.underlying49, rfl⟩, by kernel_rfl⟩
theorem qC7_ti_52 : TI Try.prog 52 true 3 := ⟨⟨_, Try.underlying52, rfl⟩, by kernel_rfl⟩
theorem qC7_un_22 : Try.prog.underlying 22 = some (.slice 3) := Try.underlying22
theorem qC7_un_41 : Try.prog.underlying 41 = some (.slice 49) := Try.underlying41
theorem qC7_un_74 : Try.prog.underlying 74 = some (.slice 4) := Try.underlying74
theorem qC7_zi_3 : ZI Try.prog 3 (.int .i64 0) 1 8 := by unfold ZI; kernel_rfl
theorem qC7_zi_4 : ZI Try.prog 4 (.bool false) 1 1 := by unfold ZI; kernel_rfl
theorem qC7_zi_49 : ZI Try.prog 49 (.agg #[.int .i64 0, .int .i64 0]) 2 16 := by unfold ZI; kernel_rfl
theorem qC7_zi_52 : ZI Try.prog 52 (.agg #[.int .i64 0, .int .i64 0, .bool false]) 3 24 := by unfold ZI; kernel_rfl
set_option maxHeartbeats 4000000 in
set_option maxRecDepth 100000 in
theorem spec_l09Find_fn : ∀ (n : Nat) (l : List Int) (seen m1 m2 : Nat) (sb : List Bool) (jo : List Int) (b : Cel) (ho : regOk l = true) (hseen : seen < 18446744073709551616) (hsb : sb = bitsL seen) (h1 : m1 = 64) (h2 : m2 = 64) (hj : joOk jo) (hb : okc b.x b.y = true) (hn : 64 < n + popc seen), FnO Try.prog 81 [.agg [(.slv l.length 1 (isl l) : A)], .a (.sl 1 0 m1), .a (.sl 2 0 m2), .agg ([(.int .i64 b.x : Value), .int .i64 b.y].map A.val)] [(.o 1, some (.o ⟨3, 1, true, pl (isl jo)⟩)), (.o 2, some (.o ⟨4, 1, true, pl (bsl sb)⟩))] (V.v (.bool ((find (regSet l) n seen jo b).1))) [(.o 1, some (.o ⟨3, 1, true, pl (isl ((find (regSet l) n seen jo b).2.2))⟩)), (.o 2, some (.o ⟨4, 1, true, pl (bsl (bitsL (find (regSet l) n seen jo b).2.1))⟩))] [1, 2] := by
  intro n
  induction n with
  | zero => intro l seen m1 m2 sb jo b ho hseen hsb h1 h2 hj hb hn; exfalso; (have := popc_le seen; omega)
  | succ n ih =>
    intro l seen m1 m2 sb jo b ho hseen hsb h1 h2 hj hb hn
    have hrl := (regOk_true ho).1
    refine fn_introO (N := 70) Try.func81 rfl (by kernel_rfl) rfl (Nat.le_of_ble_eq_true rfl) rfl rfl (by kernel_rfl) (by kernel_rfl) ⟨oc_pl (fun _ => rfl), oc_pl (fun _ => rfl), trivial⟩ [4, 7, 13, 16, 19, 27, 33, 56, 63, 68] (retO1 rfl) (fun W own kp im0 => ?_)
    show Wp _ _ _ [(.s 0, some (.s (V.b (.agg [(.slv l.length 1 (isl l) : A)])))), (.s 1, some (.s (V.b (.a (.sl 1 0 m1))))), (.s 2, some (.s (V.b (.a (.sl 2 0 m2))))), (.s 3, some (.s (V.av [(.int .i64 b.x : Value), .int .i64 b.y]))), (.o 1, some (.o ⟨3, 1, true, pl (isl jo)⟩)), (.o 2, some (.o ⟨4, 1, true, pl (bsl sb)⟩)), (.o 4, some .free), (.o 7, some .free), (.o 13, some .free), (.o 16, some .free), (.o 19, some .free), (.o 27, some .free), (.o 33, some .free), (.o 56, some .free), (.o 63, some .free), (.o 68, some .free)]
    refine wp_seq' ?_
    refine wp_region_t ?_
    refine wpc (step_plain rfl (acts_box (d := 4) (h := 4) (b := .agg [(.slv l.length 1 (isl l) : A)]) (ltN rfl) (OpX.tmp 0 (V.b (.agg [(.slv l.length 1 (isl l) : A)]))) (by intro y hy; simp [B.cs] at hy; subst hy; rfl))) (by kernel_rfl) ?_
    refine wpc (step_plain rfl (acts_box (d := 7) (h := 7) (b := .agg ([(.int .i64 b.x : Value), .int .i64 b.y].map A.val)) (ltN rfl) (OpX.tmp 3 (V.av [(.int .i64 b.x : Value), .int .i64 b.y])) (by intro y hy; simp [B.cs] at hy; rcases hy with rfl | rfl <;> rfl))) (by kernel_rfl) ?_
    refine wpc (step_plain rfl (acts_assign (d := 8) (ltN rfl) (OpX.const (.bool false)))) (by kernel_rfl) ?_
    refine wpl_nil ?_
    refine wp_seq' ?_
    refine wp_region_t ?_
    refine wpc (step_plain rfl (acts_load_owns (d := 15) (t := 7) (h := 7) (off := 0) (o := ⟨49, 2, true, [(.val (.int .i64 b.x) : A), .val (.int .i64 b.y)]⟩)  (xs := [(.int .i64 b.x : Value), .int .i64 b.y].map A.val) (ltN rfl) qC7_ti_49 rfl (by decide) rfl)) (by kernel_rfl) ?_
    refine wpc (step_plain rfl (acts_call1 (d := 16) (ltN rfl) (spec_NeighborsOf_fn b ) (ArgVs.cons (ArgV.va (vs := [(.int .i64 b.x : Value), .int .i64 b.y]) (OpV.agg 15 [(.int .i64 b.x : Value), .int .i64 b.y])) (ArgVs.nil)) (ResV.row 49 2 ((nbs b).length) (csl (nbs b)) 16))) (by kernel_rfl) ?_
    refine wpc (step_plain rfl (acts_assign (d := 9) (ltN rfl) (OpX.tmp 16 (V.b (.a (.sl 16 0 ((nbs b).length))))))) (by kernel_rfl) ?_
    refine wpl_nil ?_
    refine wp_seq' ?_
    refine wp_seq' ?_
    refine wp_region_t ?_
    refine wpc (step_plain rfl (acts_assign (d := 10) (ltN rfl) (OpX.const (.int .i64 0)))) (by kernel_rfl) ?_
    refine wpl_nil ?_
    refine wp_block' ?_
    refine wp_loop' (fun (x : Nat × Nat × (List Bool) × (List Int)) => match x with | (k, seen2, sb2, jo2) => k ≤ (nbs b).length ∧ seen2 < 18446744073709551616 ∧ sb2 = bitsL seen2 ∧ joOk jo2 ∧ popc seen ≤ popc seen2 ∧ findL (find (regSet l) n) (regSet l) b ((nbs b).drop k) seen2 jo2 = find (regSet l) (n + 1) seen jo b) (fun (x : Nat × Nat × (List Bool) × (List Int)) => match x with | (k, seen2, sb2, jo2) => [(.s 1, some (.s (V.b (.a (.sl 1 0 m1))))), (.s 2, some (.s (V.b (.a (.sl 2 0 m2))))), (.s 4, some (.s (V.p 4 0))), (.s 7, some (.s (V.p 7 0))), (.s 9, some (.s (V.b (.a (.sl 16 0 ((nbs b).length)))))), (.s 10, some (.s (V.v (.int .i64 ((k : Nat) : Int))))), (.o 1, some (.o ⟨3, 1, true, pl (isl jo2)⟩)), (.o 2, some (.o ⟨4, 1, true, pl (bsl sb2)⟩)), (.o 4, some (.o ⟨29, 1, true, [(.slv l.length 1 (isl l) : A)]⟩)), (.o 7, some (.o ⟨49, 2, true, [(.val (.int .i64 b.x) : A), .val (.int .i64 b.y)]⟩)), (.o 16, some (.o ⟨49, 2, true, pl (csl (nbs b))⟩)), (.o 13, some .free), (.o 19, some .free), (.o 27, some .free), (.o 33, some .free), (.o 56, some .free), (.o 63, some .free), (.o 68, some .free)]) (fun (x : Nat × Nat × (List Bool) × (List Int)) => match x with | (k, seen2, sb2, jo2) => (nbs b).length - k) ((0 : Nat), (seen : Nat), (sb : List Bool), (jo : List Int)) (by exact ⟨Nat.zero_le _, hseen, hsb, hj, Nat.le_refl _, rfl⟩) (weak_of id [13, 19, 27, 33, 56, 63, 68] (by kernel_rfl) (wk_s (v' := V.b (.a (.sl 1 0 m1))) (by kernel_rfl) rfl rfl (wk_s (v' := V.b (.a (.sl 2 0 m2))) (by kernel_rfl) rfl rfl (wk_s (v' := V.p 4 0) (by kernel_rfl) rfl rfl (wk_s (v' := V.p 7 0) (by kernel_rfl) rfl rfl (wk_s (v' := V.b (.a (.sl 16 0 ((nbs b).length)))) (by kernel_rfl) rfl rfl (wk_s (v' := V.v (.int .i64 0)) (by kernel_rfl) (vint (by first | rfl | omega | (simp; done) | (simp; omega))) rfl (wk_o (o' := ⟨3, 1, true, pl (isl jo)⟩) (by kernel_rfl) (renob_pl (fun h => h)) rfl (wk_o (o' := ⟨4, 1, true, pl (bsl sb)⟩) (by kernel_rfl) (renob_pl (fun h => h)) rfl (wk_o (o' := ⟨29, 1, true, [(.slv l.length 1 (isl l) : A)]⟩) (by kernel_rfl) (renob_l (fun h => h) rfl rfl) rfl (wk_o (o' := ⟨49, 2, true, [(.val (.int .i64 b.x) : A), .val (.int .i64 b.y)]⟩) (by kernel_rfl) (renob_l (fun h => h) rfl rfl) rfl (wk_o (o' := ⟨49, 2, true, pl (csl (nbs b))⟩) (by kernel_rfl) (renob_pl (fun h => h)) rfl (wk_f rfl (wk_f rfl (wk_f rfl (wk_f rfl (wk_f rfl (wk_f rfl (wk_f rfl (wk_nil)))))))))))))))))))) ?_
    rintro ⟨k, seen2, sb2, jo2⟩ inv1
    replace inv1 : k ≤ (nbs b).length ∧ seen2 < 18446744073709551616 ∧ sb2 = bitsL seen2 ∧ joOk jo2 ∧ popc seen ≤ popc seen2 ∧ findL (find (regSet l) n) (regSet l) b ((nbs b).drop k) seen2 jo2 = find (regSet l) (n + 1) seen jo b := inv1
    obtain ⟨inv1_0, inv1_1, inv1_2, inv1_3, inv1_4, inv1_5⟩ := inv1
    show Wp _ _ _ [(.s 1, some (.s (V.b (.a (.sl 1 0 m1))))), (.s 2, some (.s (V.b (.a (.sl 2 0 m2))))), (.s 4, some (.s (V.p 4 0))), (.s 7, some (.s (V.p 7 0))), (.s 9, some (.s (V.b (.a (.sl 16 0 ((nbs b).length)))))), (.s 10, some (.s (V.v (.int .i64 ((k : Nat) : Int))))), (.o 1, some (.o ⟨3, 1, true, pl (isl jo2)⟩)), (.o 2, some (.o ⟨4, 1, true, pl (bsl sb2)⟩)), (.o 4, some (.o ⟨29, 1, true, [(.slv l.length 1 (isl l) : A)]⟩)), (.o 7, some (.o ⟨49, 2, true, [(.val (.int .i64 b.x) : A), .val (.int .i64 b.y)]⟩)), (.o 16, some (.o ⟨49, 2, true, pl (csl (nbs b))⟩)), (.o 13, some .free), (.o 19, some .free), (.o 27, some .free), (.o 33, some .free), (.o 56, some .free), (.o 63, some .free), (.o 68, some .free)]
    have hsb2 : sb2 = bitsL seen2 := by assumption
    have hfin : findL (find (regSet l) n) (regSet l) b ((nbs b).drop k) seen2 jo2 = find (regSet l) (n + 1) seen jo b := by assumption
    have hj2 : joOk jo2 := by assumption
    obtain ⟨hjl, hjr⟩ := hj2
    have h4 := nbs_len b
    refine wp_seq' ?_
    refine wp_seq' ?_
    refine wp_region_t ?_
    refine wpc (step_plain rfl (acts_move (d := 17) (ltN rfl) (OpX.tmp 10 (V.v (.int .i64 ((k : Nat) : Int)))))) (by kernel_rfl) ?_
    refine wpc (step_plain rfl (acts_move (d := 18) (ltN rfl) (OpX.tmp 9 (V.b (.a (.sl 16 0 ((nbs b).length))))))) (by kernel_rfl) ?_
    refine wpc (step_plain rfl (acts_len (d := 19) (X := .sl 16 0 ((nbs b).length)) (n := ((nbs b).length)) (iv := (((nbs b).length : Nat) : Int)) (ltN rfl) qC7_un_41 (OpX.tmp 18 (V.b (.a (.sl 16 0 ((nbs b).length))))) (LenOf.sl _ _ _) rfl)) (by kernel_rfl) ?_
    refine wpc (step_plain rfl (acts_bin (d := 20) (ltN rfl) (OpV.tmp 17 (.int .i64 ((k : Nat) : Int))) (OpV.tmp 19 (.int .i64 (((nbs b).length : Nat) : Int))) (r_lss (c := (decide (((k : Nat) : Int) < (((nbs b).length : Nat) : Int)))) rfl))) (by kernel_rfl) ?_
    refine wpl_nil ?_
    refine wp_if (t := 20) (decide (((k : Nat) : Int) < (((nbs b).length : Nat) : Int))) (by kernel_rfl) (fun c2 => ?_) (fun c2 => ?_)
    · skip
      have c2P := of_decide_eq_true c2
      refine wp_skip' ?_
      refine wp_seq' ?_
      refine wp_block' ?_
      refine wp_seq' ?_
      refine wp_region_t ?_
      refine wpc (step_plain rfl (acts_move (d := 23) (ltN rfl) (OpX.tmp 9 (V.b (.a (.sl 16 0 ((nbs b).length))))))) (by kernel_rfl) ?_
      refine wpc (step_plain rfl (acts_move (d := 24) (ltN rfl) (OpX.tmp 10 (V.v (.int .i64 ((k : Nat) : Int)))))) (by kernel_rfl) ?_
      refine wpc (step_plain rfl (acts_index_sl (d := 25) (x := 23) (h := 16) (off := 0) (n := ((nbs b).length)) (k := k) (off' := (k * 2)) (o := ⟨49, 2, true, pl (csl (nbs b))⟩) (ltN rfl) qC7_un_41 qC7_sz_49 (OpV.tmp 24 (.int .i64 ((k : Nat) : Int))) rfl (by first | omega | assumption | exact addC_lt (by assumption) (by assumption) | exact nbs_ok (by omega) | exact cN_ok (by omega) | exact bits_ne (by assumption) _ | (have := popc_add (s := seen2) (c := (gC (nbs b) k)) (by assumption) (sk4 (by assumption) (by assumption)); omega) | (have := (find_kept (s := regSet l) n (addC seen2 (gC (nbs b) k)) jo2 (cN (gI jo2 (idx (gC (nbs b) k))).toNat) (by first | assumption | exact addC_lt (by assumption) (by assumption)) (by assumption) (cN_ok (by omega))).jo.1; omega) | (simp only [bitsL_len]; omega) | (rw [hsb2, bitsL_len]; omega)) (by first | (simp; done) | (simp; omega) | omega))) (by kernel_rfl) ?_
      refine wpc (step_plain rfl (acts_load_owns (d := 26) (t := 25) (h := 16) (off := (k * 2)) (o := ⟨49, 2, true, pl (csl (nbs b))⟩)  (xs := [(.int .i64 ((gC (nbs b) k).x) : Value), .int .i64 ((gC (nbs b) k).y)].map A.val) (ltN rfl) qC7_ti_49 rfl (by decide) (pl_at (csl_at (k := k) (by first | omega | assumption | exact addC_lt (by assumption) (by assumption) | exact nbs_ok (by omega) | exact cN_ok (by omega) | exact bits_ne (by assumption) _ | (have := popc_add (s := seen2) (c := (gC (nbs b) k)) (by assumption) (sk4 (by assumption) (by assumption)); omega) | (have := (find_kept (s := regSet l) n (addC seen2 (gC (nbs b) k)) jo2 (cN (gI jo2 (idx (gC (nbs b) k))).toNat) (by first | assumption | exact addC_lt (by assumption) (by assumption)) (by assumption) (cN_ok (by omega))).jo.1; omega) | (simp only [bitsL_len]; omega) | (rw [hsb2, bitsL_len]; omega)))))) (by kernel_rfl) ?_
      refine wpc (step_plain rfl (acts_call1 (d := 27) (ltN rfl) (spec_CellIndex_fn (gC (nbs b) k) (by first | omega | assumption | exact addC_lt (by assumption) (by assumption) | exact nbs_ok (by omega) | exact cN_ok (by omega) | exact bits_ne (by assumption) _ | (have := popc_add (s := seen2) (c := (gC (nbs b) k)) (by assumption) (sk4 (by assumption) (by assumption)); omega) | (have := (find_kept (s := regSet l) n (addC seen2 (gC (nbs b) k)) jo2 (cN (gI jo2 (idx (gC (nbs b) k))).toNat) (by first | assumption | exact addC_lt (by assumption) (by assumption)) (by assumption) (cN_ok (by omega))).jo.1; omega) | (simp only [bitsL_len]; omega) | (rw [hsb2, bitsL_len]; omega))) (ArgVs.cons (ArgV.va (vs := [(.int .i64 ((gC (nbs b) k).x) : Value), .int .i64 ((gC (nbs b) k).y)]) (OpV.agg 26 [(.int .i64 ((gC (nbs b) k).x) : Value), .int .i64 ((gC (nbs b) k).y)])) (ArgVs.nil)) (ResV.val _))) (by kernel_rfl) ?_
      refine wpc (step_plain rfl (acts_assign (d := 11) (ltN rfl) (OpX.tmp 27 (V.v (.int .i64 (((idx (gC (nbs b) k)) : Nat) : Int)))))) (by kernel_rfl) ?_
      refine wpl_nil ?_
      refine wp_seq' ?_
      refine wp_seq' ?_
      rcases Bool.eq_false_or_eq_true ((hasR l (gC (nbs b) k))) with c3 | c3
      · skip
        have hS1 : hasS (regSet l) (gC (nbs b) k) = true := (hasR_S ho (nbs_ok (by omega))).symm.trans c3
        have hC := hasS_ok hS1
        have hB := idx_lt hC
        have hD := hjr _ hB
        refine wp_drawn' (by kernel_rfl) (AllSteps.cons (step_plain rfl (acts_load_owns (d := 28) (t := 4) (h := 4) (off := 0) (o := ⟨29, 1, true, [(.slv l.length 1 (isl l) : A)]⟩)  (xs := [(.slv l.length 1 (isl l) : A)]) (ltN rfl) qC7_ti_29 rfl (by decide) rfl)) (AllSteps.cons (step_plain rfl (acts_move (d := 29) (ltN rfl) (OpX.tmp 9 (V.b (.a (.sl 16 0 ((nbs b).length))))))) (AllSteps.cons (step_plain rfl (acts_move (d := 30) (ltN rfl) (OpX.tmp 10 (V.v (.int .i64 ((k : Nat) : Int)))))) (AllSteps.cons (step_plain rfl (acts_index_sl (d := 31) (x := 29) (h := 16) (off := 0) (n := ((nbs b).length)) (k := k) (off' := (k * 2)) (o := ⟨49, 2, true, pl (csl (nbs b))⟩) (ltN rfl) qC7_un_41 qC7_sz_49 (OpV.tmp 30 (.int .i64 ((k : Nat) : Int))) rfl (by first | omega | assumption | exact addC_lt (by assumption) (by assumption) | exact nbs_ok (by omega) | exact cN_ok (by omega) | exact bits_ne (by assumption) _ | (have := popc_add (s := seen2) (c := (gC (nbs b) k)) (by assumption) (sk4 (by assumption) (by assumption)); omega) | (have := (find_kept (s := regSet l) n (addC seen2 (gC (nbs b) k)) jo2 (cN (gI jo2 (idx (gC (nbs b) k))).toNat) (by first | assumption | exact addC_lt (by assumption) (by assumption)) (by assumption) (cN_ok (by omega))).jo.1; omega) | (simp only [bitsL_len]; omega) | (rw [hsb2, bitsL_len]; omega)) (by first | (simp; done) | (simp; omega) | omega))) (AllSteps.cons (step_plain rfl (acts_load_owns (d := 32) (t := 31) (h := 16) (off := (k * 2)) (o := ⟨49, 2, true, pl (csl (nbs b))⟩)  (xs := [(.int .i64 ((gC (nbs b) k).x) : Value), .int .i64 ((gC (nbs b) k).y)].map A.val) (ltN rfl) qC7_ti_49 rfl (by decide) (pl_at (csl_at (k := k) (by first | omega | assumption | exact addC_lt (by assumption) (by assumption) | exact nbs_ok (by omega) | exact cN_ok (by omega) | exact bits_ne (by assumption) _ | (have := popc_add (s := seen2) (c := (gC (nbs b) k)) (by assumption) (sk4 (by assumption) (by assumption)); omega) | (have := (find_kept (s := regSet l) n (addC seen2 (gC (nbs b) k)) jo2 (cN (gI jo2 (idx (gC (nbs b) k))).toNat) (by first | assumption | exact addC_lt (by assumption) (by assumption)) (by assumption) (cN_ok (by omega))).jo.1; omega) | (simp only [bitsL_len]; omega) | (rw [hsb2, bitsL_len]; omega)))))) (AllSteps.cons (step_plain rfl (acts_call1 (d := 33) (ltN rfl) (spec_l03Has_fn l (gC (nbs b) k) (by first | omega | assumption | exact addC_lt (by assumption) (by assumption) | exact nbs_ok (by omega) | exact cN_ok (by omega) | exact bits_ne (by assumption) _ | (have := popc_add (s := seen2) (c := (gC (nbs b) k)) (by assumption) (sk4 (by assumption) (by assumption)); omega) | (have := (find_kept (s := regSet l) n (addC seen2 (gC (nbs b) k)) jo2 (cN (gI jo2 (idx (gC (nbs b) k))).toNat) (by first | assumption | exact addC_lt (by assumption) (by assumption)) (by assumption) (cN_ok (by omega))).jo.1; omega) | (simp only [bitsL_len]; omega) | (rw [hsb2, bitsL_len]; omega)) (by first | omega | assumption | exact addC_lt (by assumption) (by assumption) | exact nbs_ok (by omega) | exact cN_ok (by omega) | exact bits_ne (by assumption) _ | (have := popc_add (s := seen2) (c := (gC (nbs b) k)) (by assumption) (sk4 (by assumption) (by assumption)); omega) | (have := (find_kept (s := regSet l) n (addC seen2 (gC (nbs b) k)) jo2 (cN (gI jo2 (idx (gC (nbs b) k))).toNat) (by first | assumption | exact addC_lt (by assumption) (by assumption)) (by assumption) (cN_ok (by omega))).jo.1; omega) | (simp only [bitsL_len]; omega) | (rw [hsb2, bitsL_len]; omega))) (ArgVs.cons (ArgV.regv 28 l.length 1 (isl l)) (ArgVs.cons (ArgV.va (vs := [(.int .i64 ((gC (nbs b) k).x) : Value), .int .i64 ((gC (nbs b) k).y)]) (OpV.agg 32 [(.int .i64 ((gC (nbs b) k).x) : Value), .int .i64 ((gC (nbs b) k).y)])) (ArgVs.nil))) ((resval (congrArg Value.bool c3))))) (AllSteps.cons (step_plain rfl (acts_un (d := 34) (ltN rfl) (OpV.tmp 33 (.bool true)) (r_not (c := false) rfl))) (AllSteps.cons (step_plain rfl (acts_move (d := 35) (ltN rfl) (OpX.tmp 34 (V.v (.bool false))))) (AllSteps.cons (step_on (dj := 35) rfl rfl (acts_move (d := 36) (ltN rfl) (OpX.tmp 2 (V.b (.a (.sl 2 0 m2)))))) (AllSteps.cons (step_on (dj := 35) rfl rfl (acts_move (d := 37) (ltN rfl) (OpX.tmp 11 (V.v (.int .i64 (((idx (gC (nbs b) k)) : Nat) : Int)))))) (AllSteps.cons (step_on (dj := 35) rfl rfl (acts_index_sl (d := 38) (x := 36) (h := 2) (off := 0) (n := m2) (k := (idx (gC (nbs b) k))) (off' := ((idx (gC (nbs b) k)) * 1)) (o := ⟨4, 1, true, pl (bsl sb2)⟩) (ltN rfl) qC7_un_74 qC7_sz_4 (OpV.tmp 37 (.int .i64 (((idx (gC (nbs b) k)) : Nat) : Int))) rfl (by first | omega | assumption | exact addC_lt (by assumption) (by assumption) | exact nbs_ok (by omega) | exact cN_ok (by omega) | exact bits_ne (by assumption) _ | (have := popc_add (s := seen2) (c := (gC (nbs b) k)) (by assumption) (sk4 (by assumption) (by assumption)); omega) | (have := (find_kept (s := regSet l) n (addC seen2 (gC (nbs b) k)) jo2 (cN (gI jo2 (idx (gC (nbs b) k))).toNat) (by first | assumption | exact addC_lt (by assumption) (by assumption)) (by assumption) (cN_ok (by omega))).jo.1; omega) | (simp only [bitsL_len]; omega) | (rw [hsb2, bitsL_len]; omega)) (by first | (simp; done) | (simp; omega) | omega))) (AllSteps.cons (step_on (dj := 35) rfl rfl (acts_load_own (d := 39) (t := 38) (h := 2) (off := ((idx (gC (nbs b) k)) * 1)) (o := ⟨4, 1, true, pl (bsl sb2)⟩)  (x := .val (.bool (gB sb2 (idx (gC (nbs b) k))))) (ltN rfl) qC7_ti_4 (pl_get (bsl_get1 (k := (idx (gC (nbs b) k))) (by first | omega | assumption | exact addC_lt (by assumption) (by assumption) | exact nbs_ok (by omega) | exact cN_ok (by omega) | exact bits_ne (by assumption) _ | (have := popc_add (s := seen2) (c := (gC (nbs b) k)) (by assumption) (sk4 (by assumption) (by assumption)); omega) | (have := (find_kept (s := regSet l) n (addC seen2 (gC (nbs b) k)) jo2 (cN (gI jo2 (idx (gC (nbs b) k))).toNat) (by first | assumption | exact addC_lt (by assumption) (by assumption)) (by assumption) (cN_ok (by omega))).jo.1; omega) | (simp only [bitsL_len]; omega) | (rw [hsb2, bitsL_len]; omega)))))) (AllSteps.cons (step_plain rfl (acts_pick_f (d := 40) (ltN rfl) (OpV.tmp 35 (.bool false)) (OpX.tmp 39 (V.v (.bool (gB sb2 (idx (gC (nbs b) k)))))))) (AllSteps.nil)))))))))))))) (by kernel_rfl) (by kernel_rfl) (by kernel_rfl) ?_
        refine wp_if (t := 40) ((gB sb2 (idx (gC (nbs b) k)))) (by kernel_rfl) (fun c4 => ?_) (fun c4 => ?_)
        · skip
          have hS2 : hasS seen2 (gC (nbs b) k) = true := (gB_bitS hC).symm.trans (by rw [← hsb2]; exact c4)
          refine wp_exit' ?_
          refine wp_region_t ?_
          refine wpc (step_plain rfl (acts_move (d := 21) (ltN rfl) (OpX.tmp 10 (V.v (.int .i64 ((k : Nat) : Int)))))) (by kernel_rfl) ?_
          refine wpc (step_plain rfl (acts_bin (d := 22) (ltN rfl) (OpV.tmp 21 (.int .i64 ((k : Nat) : Int))) (OpV.const (.int .i64 1)) (r_add (c := (((k : Nat) : Int) + 1)) (w64 (by first | omega | assumption | exact addC_lt (by assumption) (by assumption) | exact nbs_ok (by omega) | exact cN_ok (by omega) | exact bits_ne (by assumption) _ | (have := popc_add (s := seen2) (c := (gC (nbs b) k)) (by assumption) (sk4 (by assumption) (by assumption)); omega) | (have := (find_kept (s := regSet l) n (addC seen2 (gC (nbs b) k)) jo2 (cN (gI jo2 (idx (gC (nbs b) k))).toNat) (by first | assumption | exact addC_lt (by assumption) (by assumption)) (by assumption) (cN_ok (by omega))).jo.1; omega) | (simp only [bitsL_len]; omega) | (rw [hsb2, bitsL_len]; omega)) (by first | omega | assumption | exact addC_lt (by assumption) (by assumption) | exact nbs_ok (by omega) | exact cN_ok (by omega) | exact bits_ne (by assumption) _ | (have := popc_add (s := seen2) (c := (gC (nbs b) k)) (by assumption) (sk4 (by assumption) (by assumption)); omega) | (have := (find_kept (s := regSet l) n (addC seen2 (gC (nbs b) k)) jo2 (cN (gI jo2 (idx (gC (nbs b) k))).toNat) (by first | assumption | exact addC_lt (by assumption) (by assumption)) (by assumption) (cN_ok (by omega))).jo.1; omega) | (simp only [bitsL_len]; omega) | (rw [hsb2, bitsL_len]; omega)))))) (by kernel_rfl) ?_
          refine wpc (step_plain rfl (acts_assign (d := 10) (ltN rfl) (OpX.tmp 22 (V.v (.int .i64 (((k : Nat) : Int) + 1)))))) (by kernel_rfl) ?_
          refine wpl_nil ?_
          exact loop_back ((k + 1), seen2, sb2, jo2) (by first | (refine ⟨by omega, by assumption, by assumption, by assumption, by assumption, ?_⟩; rw [← hfin]; refine (findL_skip (by omega) ?_).symm; first | exact sk1 (by assumption) | exact sk2 (by assumption)) | (have hkp := find_kept (s := regSet l) n (addC seen2 (gC (nbs b) k)) jo2 (cN (gI jo2 (idx (gC (nbs b) k))).toNat) (addC_lt (by assumption) (by assumption)) (by assumption) (cN_ok (by omega)); have hpa := popc_add (s := seen2) (c := (gC (nbs b) k)) (by assumption) (sk4 hS1 hS2); refine ⟨by omega, hkp.lt, rfl, hkp.jo, by have := hkp.pc; omega, ?_⟩; rw [← hfin]; exact (findL_no (by omega) (sk3 hS1 hS2) (by omega) (by assumption)).symm)) (by show (nbs b).length - (k + 1) < (nbs b).length - k; omega) (weak_of id [13, 19, 27, 33, 56, 63, 68] (by kernel_rfl) (wk_s (v' := V.b (.a (.sl 1 0 m1))) (by kernel_rfl) rfl rfl (wk_s (v' := V.b (.a (.sl 2 0 m2))) (by kernel_rfl) rfl rfl (wk_s (v' := V.p 4 0) (by kernel_rfl) rfl rfl (wk_s (v' := V.p 7 0) (by kernel_rfl) rfl rfl (wk_s (v' := V.b (.a (.sl 16 0 ((nbs b).length)))) (by kernel_rfl) rfl rfl (wk_s (v' := V.v (.int .i64 (((k : Nat) : Int) + 1))) (by kernel_rfl) (vint (by first | rfl | omega | (simp; done) | (simp; omega))) rfl (wk_o (o' := ⟨3, 1, true, pl (isl jo2)⟩) (by kernel_rfl) (renob_pl (fun h => h)) rfl (wk_o (o' := ⟨4, 1, true, pl (bsl sb2)⟩) (by kernel_rfl) (renob_pl (fun h => h)) rfl (wk_o (o' := ⟨29, 1, true, [(.slv l.length 1 (isl l) : A)]⟩) (by kernel_rfl) (renob_l (fun h => h) rfl rfl) rfl (wk_o (o' := ⟨49, 2, true, [(.val (.int .i64 b.x) : A), .val (.int .i64 b.y)]⟩) (by kernel_rfl) (renob_l (fun h => h) rfl rfl) rfl (wk_o (o' := ⟨49, 2, true, pl (csl (nbs b))⟩) (by kernel_rfl) (renob_pl (fun h => h)) rfl (wk_f rfl (wk_f rfl (wk_f rfl (wk_f rfl (wk_f rfl (wk_f rfl (wk_f rfl (wk_nil))))))))))))))))))))
        · skip
          have hS2 : hasS seen2 (gC (nbs b) k) = false := (gB_bitS hC).symm.trans (by rw [← hsb2]; exact c4)
          refine wp_skip' ?_
          refine wp_seq' ?_
          refine wp_region_t ?_
          refine wpc (step_plain rfl (acts_move (d := 41) (ltN rfl) (OpX.tmp 2 (V.b (.a (.sl 2 0 m2)))))) (by kernel_rfl) ?_
          refine wpc (step_plain rfl (acts_move (d := 42) (ltN rfl) (OpX.tmp 11 (V.v (.int .i64 (((idx (gC (nbs b) k)) : Nat) : Int)))))) (by kernel_rfl) ?_
          refine wpc (step_plain rfl (acts_index_sl (d := 43) (x := 41) (h := 2) (off := 0) (n := m2) (k := (idx (gC (nbs b) k))) (off' := ((idx (gC (nbs b) k)) * 1)) (o := ⟨4, 1, true, pl (bsl sb2)⟩) (ltN rfl) qC7_un_74 qC7_sz_4 (OpV.tmp 42 (.int .i64 (((idx (gC (nbs b) k)) : Nat) : Int))) rfl (by first | omega | assumption | exact addC_lt (by assumption) (by assumption) | exact nbs_ok (by omega) | exact cN_ok (by omega) | exact bits_ne (by assumption) _ | (have := popc_add (s := seen2) (c := (gC (nbs b) k)) (by assumption) (sk4 (by assumption) (by assumption)); omega) | (have := (find_kept (s := regSet l) n (addC seen2 (gC (nbs b) k)) jo2 (cN (gI jo2 (idx (gC (nbs b) k))).toNat) (by first | assumption | exact addC_lt (by assumption) (by assumption)) (by assumption) (cN_ok (by omega))).jo.1; omega) | (simp only [bitsL_len]; omega) | (rw [hsb2, bitsL_len]; omega)) (by first | (simp; done) | (simp; omega) | omega))) (by kernel_rfl) ?_
          refine wpc (step_plain rfl (acts_store (t := 43) (h := 2) (off := ((idx (gC (nbs b) k)) * 1)) (o := ⟨4, 1, true, pl (bsl sb2)⟩) (b := .a (.val (.bool true))) (cells := pl (bsl (sb2.set (idx (gC (nbs b) k)) true))) qC7_ti_4 (OpX.const (.bool true)) rfl (by decide) (by intro y hy; simp [B.cs] at hy; subst hy; rfl) (by simp only [pl_len, bsl_len]; first | omega | assumption | exact addC_lt (by assumption) (by assumption) | exact nbs_ok (by omega) | exact cN_ok (by omega) | exact bits_ne (by assumption) _ | (have := popc_add (s := seen2) (c := (gC (nbs b) k)) (by assumption) (sk4 (by assumption) (by assumption)); omega) | (have := (find_kept (s := regSet l) n (addC seen2 (gC (nbs b) k)) jo2 (cN (gI jo2 (idx (gC (nbs b) k))).toNat) (by first | assumption | exact addC_lt (by assumption) (by assumption)) (by assumption) (cN_ok (by omega))).jo.1; omega) | (simp only [bitsL_len]; omega) | (rw [hsb2, bitsL_len]; omega)) (bsl_put (k := (idx (gC (nbs b) k))) (by first | omega | assumption | exact addC_lt (by assumption) (by assumption) | exact nbs_ok (by omega) | exact cN_ok (by omega) | exact bits_ne (by assumption) _ | (have := popc_add (s := seen2) (c := (gC (nbs b) k)) (by assumption) (sk4 (by assumption) (by assumption)); omega) | (have := (find_kept (s := regSet l) n (addC seen2 (gC (nbs b) k)) jo2 (cN (gI jo2 (idx (gC (nbs b) k))).toNat) (by first | assumption | exact addC_lt (by assumption) (by assumption)) (by assumption) (cN_ok (by omega))).jo.1; omega) | (simp only [bitsL_len]; omega) | (rw [hsb2, bitsL_len]; omega))))) (by kernel_rfl) ?_
          refine wpl_nil ?_
          refine wp_seq' ?_
          refine wp_region_t ?_
          refine wpc (step_plain rfl (acts_move (d := 44) (ltN rfl) (OpX.tmp 1 (V.b (.a (.sl 1 0 m1)))))) (by kernel_rfl) ?_
          refine wpc (step_plain rfl (acts_move (d := 45) (ltN rfl) (OpX.tmp 11 (V.v (.int .i64 (((idx (gC (nbs b) k)) : Nat) : Int)))))) (by kernel_rfl) ?_
          refine wpc (step_plain rfl (acts_index_sl (d := 46) (x := 44) (h := 1) (off := 0) (n := m1) (k := (idx (gC (nbs b) k))) (off' := ((idx (gC (nbs b) k)) * 1)) (o := ⟨3, 1, true, pl (isl jo2)⟩) (ltN rfl) qC7_un_22 qC7_sz_3 (OpV.tmp 45 (.int .i64 (((idx (gC (nbs b) k)) : Nat) : Int))) rfl (by first | omega | assumption | exact addC_lt (by assumption) (by assumption) | exact nbs_ok (by omega) | exact cN_ok (by omega) | exact bits_ne (by assumption) _ | (have := popc_add (s := seen2) (c := (gC (nbs b) k)) (by assumption) (sk4 (by assumption) (by assumption)); omega) | (have := (find_kept (s := regSet l) n (addC seen2 (gC (nbs b) k)) jo2 (cN (gI jo2 (idx (gC (nbs b) k))).toNat) (by first | assumption | exact addC_lt (by assumption) (by assumption)) (by assumption) (cN_ok (by omega))).jo.1; omega) | (simp only [bitsL_len]; omega) | (rw [hsb2, bitsL_len]; omega)) (by first | (simp; done) | (simp; omega) | omega))) (by kernel_rfl) ?_
          refine wpc (step_plain rfl (acts_load_own (d := 47) (t := 46) (h := 1) (off := ((idx (gC (nbs b) k)) * 1)) (o := ⟨3, 1, true, pl (isl jo2)⟩)  (x := .val (.int .i64 (gI jo2 (idx (gC (nbs b) k))))) (ltN rfl) qC7_ti_3 (pl_get (isl_get1 (k := (idx (gC (nbs b) k))) (by first | omega | assumption | exact addC_lt (by assumption) (by assumption) | exact nbs_ok (by omega) | exact cN_ok (by omega) | exact bits_ne (by assumption) _ | (have := popc_add (s := seen2) (c := (gC (nbs b) k)) (by assumption) (sk4 (by assumption) (by assumption)); omega) | (have := (find_kept (s := regSet l) n (addC seen2 (gC (nbs b) k)) jo2 (cN (gI jo2 (idx (gC (nbs b) k))).toNat) (by first | assumption | exact addC_lt (by assumption) (by assumption)) (by assumption) (cN_ok (by omega))).jo.1; omega) | (simp only [bitsL_len]; omega) | (rw [hsb2, bitsL_len]; omega)))))) (by kernel_rfl) ?_
          refine wpc (step_plain rfl (acts_bin (d := 48) (ltN rfl) (OpV.tmp 47 (.int .i64 (gI jo2 (idx (gC (nbs b) k))))) (OpV.const (.int .i64 0)) (r_lss (c := (decide ((gI jo2 (idx (gC (nbs b) k))) < 0))) rfl))) (by kernel_rfl) ?_
          refine wpc (step_plain rfl (acts_assign (d := 12) (ltN rfl) (OpX.tmp 48 (V.v (.bool (decide ((gI jo2 (idx (gC (nbs b) k))) < 0))))))) (by kernel_rfl) ?_
          refine wpl_nil ?_
          refine wp_seq' ?_
          refine wp_seq' ?_
          refine wp_region_t ?_
          refine wpc (step_plain rfl (acts_move (d := 49) (ltN rfl) (OpX.tmp 12 (V.v (.bool (decide ((gI jo2 (idx (gC (nbs b) k))) < 0))))))) (by kernel_rfl) ?_
          refine wpc (step_plain rfl (acts_un (d := 50) (ltN rfl) (OpV.tmp 49 (.bool (decide ((gI jo2 (idx (gC (nbs b) k))) < 0)))) (r_not (c := (!(decide ((gI jo2 (idx (gC (nbs b) k))) < 0)))) rfl))) (by kernel_rfl) ?_
          refine wpl_nil ?_
          refine wp_if (t := 50) ((!(decide ((gI jo2 (idx (gC (nbs b) k))) < 0)))) (by kernel_rfl) (fun c5 => ?_) (fun c5 => ?_)
          · skip
            have c6 : decide ((gI jo2 (idx (gC (nbs b) k))) < 0) = false := by simpa using c5
            have c6P := of_decide_eq_false c6
            refine wp_seq' ?_
            refine wp_region_t ?_
            refine wpc (step_plain rfl (acts_move (d := 52) (ltN rfl) (OpX.tmp 1 (V.b (.a (.sl 1 0 m1)))))) (by kernel_rfl) ?_
            refine wpc (step_plain rfl (acts_move (d := 53) (ltN rfl) (OpX.tmp 11 (V.v (.int .i64 (((idx (gC (nbs b) k)) : Nat) : Int)))))) (by kernel_rfl) ?_
            refine wpc (step_plain rfl (acts_index_sl (d := 54) (x := 52) (h := 1) (off := 0) (n := m1) (k := (idx (gC (nbs b) k))) (off' := ((idx (gC (nbs b) k)) * 1)) (o := ⟨3, 1, true, pl (isl jo2)⟩) (ltN rfl) qC7_un_22 qC7_sz_3 (OpV.tmp 53 (.int .i64 (((idx (gC (nbs b) k)) : Nat) : Int))) rfl (by first | omega | assumption | exact addC_lt (by assumption) (by assumption) | exact nbs_ok (by omega) | exact cN_ok (by omega) | exact bits_ne (by assumption) _ | (have := popc_add (s := seen2) (c := (gC (nbs b) k)) (by assumption) (sk4 (by assumption) (by assumption)); omega) | (have := (find_kept (s := regSet l) n (addC seen2 (gC (nbs b) k)) jo2 (cN (gI jo2 (idx (gC (nbs b) k))).toNat) (by first | assumption | exact addC_lt (by assumption) (by assumption)) (by assumption) (cN_ok (by omega))).jo.1; omega) | (simp only [bitsL_len]; omega) | (rw [hsb2, bitsL_len]; omega)) (by first | (simp; done) | (simp; omega) | omega))) (by kernel_rfl) ?_
            refine wpc (step_plain rfl (acts_load_own (d := 55) (t := 54) (h := 1) (off := ((idx (gC (nbs b) k)) * 1)) (o := ⟨3, 1, true, pl (isl jo2)⟩)  (x := .val (.int .i64 (gI jo2 (idx (gC (nbs b) k))))) (ltN rfl) qC7_ti_3 (pl_get (isl_get1 (k := (idx (gC (nbs b) k))) (by first | omega | assumption | exact addC_lt (by assumption) (by assumption) | exact nbs_ok (by omega) | exact cN_ok (by omega) | exact bits_ne (by assumption) _ | (have := popc_add (s := seen2) (c := (gC (nbs b) k)) (by assumption) (sk4 (by assumption) (by assumption)); omega) | (have := (find_kept (s := regSet l) n (addC seen2 (gC (nbs b) k)) jo2 (cN (gI jo2 (idx (gC (nbs b) k))).toNat) (by first | assumption | exact addC_lt (by assumption) (by assumption)) (by assumption) (cN_ok (by omega))).jo.1; omega) | (simp only [bitsL_len]; omega) | (rw [hsb2, bitsL_len]; omega)))))) (by kernel_rfl) ?_
            refine wpc (step_plain rfl (acts_call2 (d := 56) (ltN rfl) (spec_CellAt_fn ((gI jo2 (idx (gC (nbs b) k))).toNat) (by first | omega | assumption | exact addC_lt (by assumption) (by assumption) | exact nbs_ok (by omega) | exact cN_ok (by omega) | exact bits_ne (by assumption) _ | (have := popc_add (s := seen2) (c := (gC (nbs b) k)) (by assumption) (sk4 (by assumption) (by assumption)); omega) | (have := (find_kept (s := regSet l) n (addC seen2 (gC (nbs b) k)) jo2 (cN (gI jo2 (idx (gC (nbs b) k))).toNat) (by first | assumption | exact addC_lt (by assumption) (by assumption)) (by assumption) (cN_ok (by omega))).jo.1; omega) | (simp only [bitsL_len]; omega) | (rw [hsb2, bitsL_len]; omega))) (ArgVs.cons ((argv_int (b := (((gI jo2 (idx (gC (nbs b) k))).toNat : Nat) : Int)) (by omega) (ArgV.v (OpV.tmp 55 (.int .i64 (gI jo2 (idx (gC (nbs b) k)))))))) (ArgVs.nil)) (ResV.agg [(.int .i64 ((cN ((gI jo2 (idx (gC (nbs b) k))).toNat)).x) : Value), .int .i64 ((cN ((gI jo2 (idx (gC (nbs b) k))).toNat)).y)]) (ResV.val _))) (by kernel_rfl) ?_
            refine wpc (step_plain rfl (acts_move (d := 51) (ltN rfl) (OpX.tmp 56 (V.tup [.agg ([(.int .i64 ((cN ((gI jo2 (idx (gC (nbs b) k))).toNat)).x) : Value), .int .i64 ((cN ((gI jo2 (idx (gC (nbs b) k))).toNat)).y)].map A.val), .a (.val (.bool true))])))) (by kernel_rfl) ?_
            refine wpc (step_plain rfl (acts_extract (d := 57) (t := 51) (ix := 0) (xs := [.agg ([(.int .i64 ((cN ((gI jo2 (idx (gC (nbs b) k))).toNat)).x) : Value), .int .i64 ((cN ((gI jo2 (idx (gC (nbs b) k))).toNat)).y)].map A.val), .a (.val (.bool true))]) (X := .agg ([(.int .i64 ((cN ((gI jo2 (idx (gC (nbs b) k))).toNat)).x) : Value), .int .i64 ((cN ((gI jo2 (idx (gC (nbs b) k))).toNat)).y)].map A.val)) (ltN rfl) rfl)) (by kernel_rfl) ?_
            refine wpc (step_plain rfl (acts_extract (d := 58) (t := 51) (ix := 1) (xs := [.agg ([(.int .i64 ((cN ((gI jo2 (idx (gC (nbs b) k))).toNat)).x) : Value), .int .i64 ((cN ((gI jo2 (idx (gC (nbs b) k))).toNat)).y)].map A.val), .a (.val (.bool true))]) (X := .a (.val (.bool true))) (ltN rfl) rfl)) (by kernel_rfl) ?_
            refine wpc (step_plain rfl (acts_alloc' (d := 13) (h := 13) (cap := 1) (s := 2) (cells := [(.val (.int .i64 0) : A), .val (.int .i64 0)]) (ltN rfl) qC7_zi_49 rfl rfl (by decide))) (by kernel_rfl) ?_
            refine wpc (step_plain rfl (acts_store (t := 13) (h := 13) (off := 0) (o := ⟨49, 2, true, [(.val (.int .i64 0) : A), .val (.int .i64 0)]⟩) (b := .agg ([(.int .i64 ((cN ((gI jo2 (idx (gC (nbs b) k))).toNat)).x) : Value), .int .i64 ((cN ((gI jo2 (idx (gC (nbs b) k))).toNat)).y)].map A.val)) (cells := [(.val (.int .i64 ((cN ((gI jo2 (idx (gC (nbs b) k))).toNat)).x)) : A), .val (.int .i64 ((cN ((gI jo2 (idx (gC (nbs b) k))).toNat)).y))]) qC7_ti_49 (OpX.tmp 57 (V.av [(.int .i64 ((cN ((gI jo2 (idx (gC (nbs b) k))).toNat)).x) : Value), .int .i64 ((cN ((gI jo2 (idx (gC (nbs b) k))).toNat)).y)])) rfl (by decide) (by intro y hy; simp [B.cs] at hy; rcases hy with rfl | rfl <;> rfl) (Nat.le_of_ble_eq_true rfl) rfl)) (by kernel_rfl) ?_
            refine wpc (step_plain rfl (acts_assign (d := 14) (ltN rfl) (OpX.tmp 58 (V.v (.bool true))))) (by kernel_rfl) ?_
            refine wpl_nil ?_
            refine wp_region_t ?_
            refine wpc (step_plain rfl (acts_load_owns (d := 59) (t := 4) (h := 4) (off := 0) (o := ⟨29, 1, true, [(.slv l.length 1 (isl l) : A)]⟩)  (xs := [(.slv l.length 1 (isl l) : A)]) (ltN rfl) qC7_ti_29 rfl (by decide) rfl)) (by kernel_rfl) ?_
            refine wpc (step_plain rfl (acts_move (d := 60) (ltN rfl) (OpX.tmp 1 (V.b (.a (.sl 1 0 m1)))))) (by kernel_rfl) ?_
            refine wpc (step_plain rfl (acts_move (d := 61) (ltN rfl) (OpX.tmp 2 (V.b (.a (.sl 2 0 m2)))))) (by kernel_rfl) ?_
            refine wpc (step_plain rfl (acts_load_owns (d := 62) (t := 13) (h := 13) (off := 0) (o := ⟨49, 2, true, [(.val (.int .i64 ((cN ((gI jo2 (idx (gC (nbs b) k))).toNat)).x)) : A), .val (.int .i64 ((cN ((gI jo2 (idx (gC (nbs b) k))).toNat)).y))]⟩)  (xs := [(.int .i64 ((cN ((gI jo2 (idx (gC (nbs b) k))).toNat)).x) : Value), .int .i64 ((cN ((gI jo2 (idx (gC (nbs b) k))).toNat)).y)].map A.val) (ltN rfl) qC7_ti_49 rfl (by decide) rfl)) (by kernel_rfl) ?_
            refine wpc (step_plain rfl (acts_callO (d := 63) (f := 81) (os := [(.o 1, some (.o ⟨3, 1, true, pl (isl jo2)⟩)), (.o 2, some (.o ⟨4, 1, true, pl (bsl (sb2.set (idx (gC (nbs b) k)) true))⟩))]) (os' := [(.o 1, some (.o ⟨3, 1, true, pl (isl ((find (regSet l) n (addC seen2 (gC (nbs b) k)) jo2 (cN ((gI jo2 (idx (gC (nbs b) k))).toNat))).2.2))⟩)), (.o 2, some (.o ⟨4, 1, true, pl (bsl (bitsL (find (regSet l) n (addC seen2 (gC (nbs b) k)) jo2 (cN ((gI jo2 (idx (gC (nbs b) k))).toNat))).2.1))⟩))]) (r := V.v (.bool ((find (regSet l) n (addC seen2 (gC (nbs b) k)) jo2 (cN ((gI jo2 (idx (gC (nbs b) k))).toNat))).1))) (bs := [.agg [(.slv l.length 1 (isl l) : A)], .a (.sl 1 0 m1), .a (.sl 2 0 m2), .agg ([(.int .i64 ((cN ((gI jo2 (idx (gC (nbs b) k))).toNat)).x) : Value), .int .i64 ((cN ((gI jo2 (idx (gC (nbs b) k))).toNat)).y)].map A.val)]) (keep := [1, 2]) (new := []) (dead := []) (ltN rfl) ((ih l (addC seen2 (gC (nbs b) k)) m1 m2 (sb2.set (idx (gC (nbs b) k)) true) jo2 (cN ((gI jo2 (idx (gC (nbs b) k))).toNat)) (by first | omega | assumption | exact addC_lt (by assumption) (by assumption) | exact nbs_ok (by omega) | exact cN_ok (by omega) | exact bits_ne (by assumption) _ | (have := popc_add (s := seen2) (c := (gC (nbs b) k)) (by assumption) (sk4 (by assumption) (by assumption)); omega) | (have := (find_kept (s := regSet l) n (addC seen2 (gC (nbs b) k)) jo2 (cN (gI jo2 (idx (gC (nbs b) k))).toNat) (by first | assumption | exact addC_lt (by assumption) (by assumption)) (by assumption) (cN_ok (by omega))).jo.1; omega) | (simp only [bitsL_len]; omega) | (rw [hsb2, bitsL_len]; omega)) (by first | omega | assumption | exact addC_lt (by assumption) (by assumption) | exact nbs_ok (by omega) | exact cN_ok (by omega) | exact bits_ne (by assumption) _ | (have := popc_add (s := seen2) (c := (gC (nbs b) k)) (by assumption) (sk4 (by assumption) (by assumption)); omega) | (have := (find_kept (s := regSet l) n (addC seen2 (gC (nbs b) k)) jo2 (cN (gI jo2 (idx (gC (nbs b) k))).toNat) (by first | assumption | exact addC_lt (by assumption) (by assumption)) (by assumption) (cN_ok (by omega))).jo.1; omega) | (simp only [bitsL_len]; omega) | (rw [hsb2, bitsL_len]; omega)) (by first | omega | assumption | exact addC_lt (by assumption) (by assumption) | exact nbs_ok (by omega) | exact cN_ok (by omega) | exact bits_ne (by assumption) _ | (have := popc_add (s := seen2) (c := (gC (nbs b) k)) (by assumption) (sk4 (by assumption) (by assumption)); omega) | (have := (find_kept (s := regSet l) n (addC seen2 (gC (nbs b) k)) jo2 (cN (gI jo2 (idx (gC (nbs b) k))).toNat) (by first | assumption | exact addC_lt (by assumption) (by assumption)) (by assumption) (cN_ok (by omega))).jo.1; omega) | (simp only [bitsL_len]; omega) | (rw [hsb2, bitsL_len]; omega)) (by first | omega | assumption | exact addC_lt (by assumption) (by assumption) | exact nbs_ok (by omega) | exact cN_ok (by omega) | exact bits_ne (by assumption) _ | (have := popc_add (s := seen2) (c := (gC (nbs b) k)) (by assumption) (sk4 (by assumption) (by assumption)); omega) | (have := (find_kept (s := regSet l) n (addC seen2 (gC (nbs b) k)) jo2 (cN (gI jo2 (idx (gC (nbs b) k))).toNat) (by first | assumption | exact addC_lt (by assumption) (by assumption)) (by assumption) (cN_ok (by omega))).jo.1; omega) | (simp only [bitsL_len]; omega) | (rw [hsb2, bitsL_len]; omega)) (by first | omega | assumption | exact addC_lt (by assumption) (by assumption) | exact nbs_ok (by omega) | exact cN_ok (by omega) | exact bits_ne (by assumption) _ | (have := popc_add (s := seen2) (c := (gC (nbs b) k)) (by assumption) (sk4 (by assumption) (by assumption)); omega) | (have := (find_kept (s := regSet l) n (addC seen2 (gC (nbs b) k)) jo2 (cN (gI jo2 (idx (gC (nbs b) k))).toNat) (by first | assumption | exact addC_lt (by assumption) (by assumption)) (by assumption) (cN_ok (by omega))).jo.1; omega) | (simp only [bitsL_len]; omega) | (rw [hsb2, bitsL_len]; omega)) (by first | omega | assumption | exact addC_lt (by assumption) (by assumption) | exact nbs_ok (by omega) | exact cN_ok (by omega) | exact bits_ne (by assumption) _ | (have := popc_add (s := seen2) (c := (gC (nbs b) k)) (by assumption) (sk4 (by assumption) (by assumption)); omega) | (have := (find_kept (s := regSet l) n (addC seen2 (gC (nbs b) k)) jo2 (cN (gI jo2 (idx (gC (nbs b) k))).toNat) (by first | assumption | exact addC_lt (by assumption) (by assumption)) (by assumption) (cN_ok (by omega))).jo.1; omega) | (simp only [bitsL_len]; omega) | (rw [hsb2, bitsL_len]; omega)) (by first | omega | assumption | exact addC_lt (by assumption) (by assumption) | exact nbs_ok (by omega) | exact cN_ok (by omega) | exact bits_ne (by assumption) _ | (have := popc_add (s := seen2) (c := (gC (nbs b) k)) (by assumption) (sk4 (by assumption) (by assumption)); omega) | (have := (find_kept (s := regSet l) n (addC seen2 (gC (nbs b) k)) jo2 (cN (gI jo2 (idx (gC (nbs b) k))).toNat) (by first | assumption | exact addC_lt (by assumption) (by assumption)) (by assumption) (cN_ok (by omega))).jo.1; omega) | (simp only [bitsL_len]; omega) | (rw [hsb2, bitsL_len]; omega)) (by first | omega | assumption | exact addC_lt (by assumption) (by assumption) | exact nbs_ok (by omega) | exact cN_ok (by omega) | exact bits_ne (by assumption) _ | (have := popc_add (s := seen2) (c := (gC (nbs b) k)) (by assumption) (sk4 (by assumption) (by assumption)); omega) | (have := (find_kept (s := regSet l) n (addC seen2 (gC (nbs b) k)) jo2 (cN (gI jo2 (idx (gC (nbs b) k))).toNat) (by first | assumption | exact addC_lt (by assumption) (by assumption)) (by assumption) (cN_ok (by omega))).jo.1; omega) | (simp only [bitsL_len]; omega) | (rw [hsb2, bitsL_len]; omega)))) (by kernel_rfl) ⟨oc_pl (fun _ => rfl), oc_pl (fun _ => rfl), trivial⟩ (by kernel_rfl) (ArgOs.cons (ArgO.slot 59 (.agg [(.slv l.length 1 (isl l) : A)])) (ArgOs.cons (ArgO.slot 60 (.a (.sl 1 0 m1))) (ArgOs.cons (ArgO.slot 61 (.a (.sl 2 0 m2))) (ArgOs.cons (ArgO.va (vs := [(.int .i64 ((cN ((gI jo2 (idx (gC (nbs b) k))).toNat)).x) : Value), .int .i64 ((cN ((gI jo2 (idx (gC (nbs b) k))).toNat)).y)]) (OpV.agg 62 [(.int .i64 ((cN ((gI jo2 (idx (gC (nbs b) k))).toNat)).x) : Value), .int .i64 ((cN ((gI jo2 (idx (gC (nbs b) k))).toNat)).y)])) (ArgOs.nil))))))) (by kernel_rfl) ?_
            refine wpc (step_plain rfl (acts_assign (d := 12) (ltN rfl) (OpX.tmp 63 (V.v (.bool ((find (regSet l) n (addC seen2 (gC (nbs b) k)) jo2 (cN ((gI jo2 (idx (gC (nbs b) k))).toNat))).1)))))) (by kernel_rfl) ?_
            refine wpl_nil ?_
            refine wp_seq' ?_
            refine wp_region_t ?_
            refine wpc (step_plain rfl (acts_move (d := 64) (ltN rfl) (OpX.tmp 12 (V.v (.bool ((find (regSet l) n (addC seen2 (gC (nbs b) k)) jo2 (cN ((gI jo2 (idx (gC (nbs b) k))).toNat))).1)))))) (by kernel_rfl) ?_
            refine wpl_nil ?_
            refine wp_if (t := 64) ((find (regSet l) n (addC seen2 (gC (nbs b) k)) jo2 (cN ((gI jo2 (idx (gC (nbs b) k))).toNat))).1) (by kernel_rfl) (fun c7 => ?_) (fun c7 => ?_)
            · skip
              refine wp_seq' ?_
              refine wp_region_t ?_
              refine wpc (step_plain rfl (acts_move (d := 65) (ltN rfl) (OpX.tmp 1 (V.b (.a (.sl 1 0 m1)))))) (by kernel_rfl) ?_
              refine wpc (step_plain rfl (acts_move (d := 66) (ltN rfl) (OpX.tmp 11 (V.v (.int .i64 (((idx (gC (nbs b) k)) : Nat) : Int)))))) (by kernel_rfl) ?_
              refine wpc (step_plain rfl (acts_load_owns (d := 67) (t := 7) (h := 7) (off := 0) (o := ⟨49, 2, true, [(.val (.int .i64 b.x) : A), .val (.int .i64 b.y)]⟩)  (xs := [(.int .i64 b.x : Value), .int .i64 b.y].map A.val) (ltN rfl) qC7_ti_49 rfl (by decide) rfl)) (by kernel_rfl) ?_
              refine wpc (step_plain rfl (acts_call1 (d := 68) (ltN rfl) (spec_CellIndex_fn b (by first | omega | assumption | exact addC_lt (by assumption) (by assumption) | exact nbs_ok (by omega) | exact cN_ok (by omega) | exact bits_ne (by assumption) _ | (have := popc_add (s := seen2) (c := (gC (nbs b) k)) (by assumption) (sk4 (by assumption) (by assumption)); omega) | (have := (find_kept (s := regSet l) n (addC seen2 (gC (nbs b) k)) jo2 (cN (gI jo2 (idx (gC (nbs b) k))).toNat) (by first | assumption | exact addC_lt (by assumption) (by assumption)) (by assumption) (cN_ok (by omega))).jo.1; omega) | (simp only [bitsL_len]; omega) | (rw [hsb2, bitsL_len]; omega))) (ArgVs.cons (ArgV.va (vs := [(.int .i64 b.x : Value), .int .i64 b.y]) (OpV.agg 67 [(.int .i64 b.x : Value), .int .i64 b.y])) (ArgVs.nil)) (ResV.val _))) (by kernel_rfl) ?_
              refine wpc (step_plain rfl (acts_index_sl (d := 69) (x := 65) (h := 1) (off := 0) (n := m1) (k := (idx (gC (nbs b) k))) (off' := ((idx (gC (nbs b) k)) * 1)) (o := ⟨3, 1, true, pl (isl ((find (regSet l) n (addC seen2 (gC (nbs b) k)) jo2 (cN ((gI jo2 (idx (gC (nbs b) k))).toNat))).2.2))⟩) (ltN rfl) qC7_un_22 qC7_sz_3 (OpV.tmp 66 (.int .i64 (((idx (gC (nbs b) k)) : Nat) : Int))) rfl (by first | omega | assumption | exact addC_lt (by assumption) (by assumption) | exact nbs_ok (by omega) | exact cN_ok (by omega) | exact bits_ne (by assumption) _ | (have := popc_add (s := seen2) (c := (gC (nbs b) k)) (by assumption) (sk4 (by assumption) (by assumption)); omega) | (have := (find_kept (s := regSet l) n (addC seen2 (gC (nbs b) k)) jo2 (cN (gI jo2 (idx (gC (nbs b) k))).toNat) (by first | assumption | exact addC_lt (by assumption) (by assumption)) (by assumption) (cN_ok (by omega))).jo.1; omega) | (simp only [bitsL_len]; omega) | (rw [hsb2, bitsL_len]; omega)) (by first | (simp; done) | (simp; omega) | omega))) (by kernel_rfl) ?_
              refine wpc (step_plain rfl (acts_store (t := 69) (h := 1) (off := ((idx (gC (nbs b) k)) * 1)) (o := ⟨3, 1, true, pl (isl ((find (regSet l) n (addC seen2 (gC (nbs b) k)) jo2 (cN ((gI jo2 (idx (gC (nbs b) k))).toNat))).2.2))⟩) (b := .a (.val (.int .i64 (((idx b) : Nat) : Int)))) (cells := pl (isl (((find (regSet l) n (addC seen2 (gC (nbs b) k)) jo2 (cN ((gI jo2 (idx (gC (nbs b) k))).toNat))).2.2).set (idx (gC (nbs b) k)) (((idx b) : Nat) : Int)))) qC7_ti_3 (OpX.tmp 68 (V.v (.int .i64 (((idx b) : Nat) : Int)))) rfl (by decide) (by intro y hy; simp [B.cs] at hy; subst hy; rfl) (by simp only [pl_len, isl_len]; first | omega | assumption | exact addC_lt (by assumption) (by assumption) | exact nbs_ok (by omega) | exact cN_ok (by omega) | exact bits_ne (by assumption) _ | (have := popc_add (s := seen2) (c := (gC (nbs b) k)) (by assumption) (sk4 (by assumption) (by assumption)); omega) | (have := (find_kept (s := regSet l) n (addC seen2 (gC (nbs b) k)) jo2 (cN (gI jo2 (idx (gC (nbs b) k))).toNat) (by first | assumption | exact addC_lt (by assumption) (by assumption)) (by assumption) (cN_ok (by omega))).jo.1; omega) | (simp only [bitsL_len]; omega) | (rw [hsb2, bitsL_len]; omega)) (isl_put (k := (idx (gC (nbs b) k))) (by first | omega | assumption | exact addC_lt (by assumption) (by assumption) | exact nbs_ok (by omega) | exact cN_ok (by omega) | exact bits_ne (by assumption) _ | (have := popc_add (s := seen2) (c := (gC (nbs b) k)) (by assumption) (sk4 (by assumption) (by assumption)); omega) | (have := (find_kept (s := regSet l) n (addC seen2 (gC (nbs b) k)) jo2 (cN (gI jo2 (idx (gC (nbs b) k))).toNat) (by first | assumption | exact addC_lt (by assumption) (by assumption)) (by assumption) (cN_ok (by omega))).jo.1; omega) | (simp only [bitsL_len]; omega) | (rw [hsb2, bitsL_len]; omega))))) (by kernel_rfl) ?_
              refine wpl_nil ?_
              refine wp_seq' ?_
              refine wp_region_t ?_
              refine wpc (step_plain rfl (acts_assign (d := 8) (ltN rfl) (OpX.const (.bool true)))) (by kernel_rfl) ?_
              refine wpl_nil ?_
              refine wp_ret' ?_
              exact ⟨_, weak_id, ⟨obj_eq (c := pl (isl (((find (regSet l) n (addC seen2 (gC (nbs b) k)) jo2 (cN ((gI jo2 (idx (gC (nbs b) k))).toNat))).2.2).set (idx (gC (nbs b) k)) (((idx b) : Nat) : Int)))) (by kernel_rfl) (congrArg (fun z => pl (isl z)) (by first | rfl | (rw [← hfin]; first | (rw [findL_end (by omega)]; first | done | exact hsb2) | (rw [findL_free (by omega) (sk3 hS1 hS2) (by omega)]; first | done | exact bits_ne hsb2 _) | (rw [findL_yes (by omega) (sk3 hS1 hS2) (by omega) (by assumption)]; done)))), obj_eq (c := pl (bsl (bitsL (find (regSet l) n (addC seen2 (gC (nbs b) k)) jo2 (cN ((gI jo2 (idx (gC (nbs b) k))).toNat))).2.1))) (by kernel_rfl) (congrArg (fun z => pl (bsl z)) (by first | rfl | (rw [← hfin]; first | (rw [findL_end (by omega)]; first | done | exact hsb2) | (rw [findL_free (by omega) (sk3 hS1 hS2) (by omega)]; first | done | exact bits_ne hsb2 _) | (rw [findL_yes (by omega) (sk3 hS1 hS2) (by omega) (by assumption)]; done)))), trivial⟩, vo_eq 8 (.a (.val (.bool true))) (.a (.val (.bool ((find (regSet l) (n + 1) seen jo b).1)))) (by kernel_rfl) (congrArg (fun z : Bool => B.a (.val (.bool z))) (by first | rfl | (rw [← hfin]; first | (rw [findL_end (by omega)]; first | done | exact hsb2) | (rw [findL_free (by omega) (sk3 hS1 hS2) (by omega)]; first | done | exact bits_ne hsb2 _) | (rw [findL_yes (by omega) (sk3 hS1 hS2) (by omega) (by assumption)]; done))))⟩
            · skip
              refine wp_skip' ?_
              refine wp_region_t ?_
              refine wpc (step_plain rfl (acts_move (d := 21) (ltN rfl) (OpX.tmp 10 (V.v (.int .i64 ((k : Nat) : Int)))))) (by kernel_rfl) ?_
              refine wpc (step_plain rfl (acts_bin (d := 22) (ltN rfl) (OpV.tmp 21 (.int .i64 ((k : Nat) : Int))) (OpV.const (.int .i64 1)) (r_add (c := (((k : Nat) : Int) + 1)) (w64 (by first | omega | assumption | exact addC_lt (by assumption) (by assumption) | exact nbs_ok (by omega) | exact cN_ok (by omega) | exact bits_ne (by assumption) _ | (have := popc_add (s := seen2) (c := (gC (nbs b) k)) (by assumption) (sk4 (by assumption) (by assumption)); omega) | (have := (find_kept (s := regSet l) n (addC seen2 (gC (nbs b) k)) jo2 (cN (gI jo2 (idx (gC (nbs b) k))).toNat) (by first | assumption | exact addC_lt (by assumption) (by assumption)) (by assumption) (cN_ok (by omega))).jo.1; omega) | (simp only [bitsL_len]; omega) | (rw [hsb2, bitsL_len]; omega)) (by first | omega | assumption | exact addC_lt (by assumption) (by assumption) | exact nbs_ok (by omega) | exact cN_ok (by omega) | exact bits_ne (by assumption) _ | (have := popc_add (s := seen2) (c := (gC (nbs b) k)) (by assumption) (sk4 (by assumption) (by assumption)); omega) | (have := (find_kept (s := regSet l) n (addC seen2 (gC (nbs b) k)) jo2 (cN (gI jo2 (idx (gC (nbs b) k))).toNat) (by first | assumption | exact addC_lt (by assumption) (by assumption)) (by assumption) (cN_ok (by omega))).jo.1; omega) | (simp only [bitsL_len]; omega) | (rw [hsb2, bitsL_len]; omega)))))) (by kernel_rfl) ?_
              refine wpc (step_plain rfl (acts_assign (d := 10) (ltN rfl) (OpX.tmp 22 (V.v (.int .i64 (((k : Nat) : Int) + 1)))))) (by kernel_rfl) ?_
              refine wpl_nil ?_
              exact loop_back ((k + 1), (find (regSet l) n (addC seen2 (gC (nbs b) k)) jo2 (cN (gI jo2 (idx (gC (nbs b) k))).toNat)).2.1, (bitsL (find (regSet l) n (addC seen2 (gC (nbs b) k)) jo2 (cN (gI jo2 (idx (gC (nbs b) k))).toNat)).2.1), (find (regSet l) n (addC seen2 (gC (nbs b) k)) jo2 (cN (gI jo2 (idx (gC (nbs b) k))).toNat)).2.2) (by first | (refine ⟨by omega, by assumption, by assumption, by assumption, by assumption, ?_⟩; rw [← hfin]; refine (findL_skip (by omega) ?_).symm; first | exact sk1 (by assumption) | exact sk2 (by assumption)) | (have hkp := find_kept (s := regSet l) n (addC seen2 (gC (nbs b) k)) jo2 (cN (gI jo2 (idx (gC (nbs b) k))).toNat) (addC_lt (by assumption) (by assumption)) (by assumption) (cN_ok (by omega)); have hpa := popc_add (s := seen2) (c := (gC (nbs b) k)) (by assumption) (sk4 hS1 hS2); refine ⟨by omega, hkp.lt, rfl, hkp.jo, by have := hkp.pc; omega, ?_⟩; rw [← hfin]; exact (findL_no (by omega) (sk3 hS1 hS2) (by omega) (by assumption)).symm)) (by show (nbs b).length - (k + 1) < (nbs b).length - k; omega) (weak_of id [13, 19, 27, 33, 56, 63, 68] (by kernel_rfl) (wk_s (v' := V.b (.a (.sl 1 0 m1))) (by kernel_rfl) rfl rfl (wk_s (v' := V.b (.a (.sl 2 0 m2))) (by kernel_rfl) rfl rfl (wk_s (v' := V.p 4 0) (by kernel_rfl) rfl rfl (wk_s (v' := V.p 7 0) (by kernel_rfl) rfl rfl (wk_s (v' := V.b (.a (.sl 16 0 ((nbs b).length)))) (by kernel_rfl) rfl rfl (wk_s (v' := V.v (.int .i64 (((k : Nat) : Int) + 1))) (by kernel_rfl) (vint (by first | rfl | omega | (simp; done) | (simp; omega))) rfl (wk_o (o' := ⟨3, 1, true, pl (isl ((find (regSet l) n (addC seen2 (gC (nbs b) k)) jo2 (cN ((gI jo2 (idx (gC (nbs b) k))).toNat))).2.2))⟩) (by kernel_rfl) (renob_eq (fun h => h) (congrArg isl (by first | rfl | omega | (simp; done) | (simp; omega)))) rfl (wk_o (o' := ⟨4, 1, true, pl (bsl (bitsL (find (regSet l) n (addC seen2 (gC (nbs b) k)) jo2 (cN ((gI jo2 (idx (gC (nbs b) k))).toNat))).2.1))⟩) (by kernel_rfl) (renob_eq (fun h => h) (congrArg bsl (by first | rfl | omega | (simp; done) | (simp; omega)))) rfl (wk_o (o' := ⟨29, 1, true, [(.slv l.length 1 (isl l) : A)]⟩) (by kernel_rfl) (renob_l (fun h => h) rfl rfl) rfl (wk_o (o' := ⟨49, 2, true, [(.val (.int .i64 b.x) : A), .val (.int .i64 b.y)]⟩) (by kernel_rfl) (renob_l (fun h => h) rfl rfl) rfl (wk_o (o' := ⟨49, 2, true, pl (csl (nbs b))⟩) (by kernel_rfl) (renob_pl (fun h => h)) rfl (wk_f rfl (wk_f rfl (wk_f rfl (wk_f rfl (wk_f rfl (wk_f rfl (wk_f rfl (wk_nil))))))))))))))))))))
          · skip
            have c8 : decide ((gI jo2 (idx (gC (nbs b) k))) < 0) = true := by simpa using c5
            have c8P := of_decide_eq_true c8
            refine wp_skip' ?_
            refine wp_seq' ?_
            refine wp_region_t ?_
            refine wpc (step_plain rfl (acts_move (d := 64) (ltN rfl) (OpX.tmp 12 (V.v (.bool (decide ((gI jo2 (idx (gC (nbs b) k))) < 0))))))) (by kernel_rfl) ?_
            refine wpl_nil ?_
            refine wp_if (t := 64) (decide ((gI jo2 (idx (gC (nbs b) k))) < 0)) (by kernel_rfl) (fun c9 => ?_) (fun c9 => ?_)
            · skip
              have c9P := of_decide_eq_true c9
              refine wp_seq' ?_
              refine wp_region_t ?_
              refine wpc (step_plain rfl (acts_move (d := 65) (ltN rfl) (OpX.tmp 1 (V.b (.a (.sl 1 0 m1)))))) (by kernel_rfl) ?_
              refine wpc (step_plain rfl (acts_move (d := 66) (ltN rfl) (OpX.tmp 11 (V.v (.int .i64 (((idx (gC (nbs b) k)) : Nat) : Int)))))) (by kernel_rfl) ?_
              refine wpc (step_plain rfl (acts_load_owns (d := 67) (t := 7) (h := 7) (off := 0) (o := ⟨49, 2, true, [(.val (.int .i64 b.x) : A), .val (.int .i64 b.y)]⟩)  (xs := [(.int .i64 b.x : Value), .int .i64 b.y].map A.val) (ltN rfl) qC7_ti_49 rfl (by decide) rfl)) (by kernel_rfl) ?_
              refine wpc (step_plain rfl (acts_call1 (d := 68) (ltN rfl) (spec_CellIndex_fn b (by first | omega | assumption | exact addC_lt (by assumption) (by assumption) | exact nbs_ok (by omega) | exact cN_ok (by omega) | exact bits_ne (by assumption) _ | (have := popc_add (s := seen2) (c := (gC (nbs b) k)) (by assumption) (sk4 (by assumption) (by assumption)); omega) | (have := (find_kept (s := regSet l) n (addC seen2 (gC (nbs b) k)) jo2 (cN (gI jo2 (idx (gC (nbs b) k))).toNat) (by first | assumption | exact addC_lt (by assumption) (by assumption)) (by assumption) (cN_ok (by omega))).jo.1; omega) | (simp only [bitsL_len]; omega) | (rw [hsb2, bitsL_len]; omega))) (ArgVs.cons (ArgV.va (vs := [(.int .i64 b.x : Value), .int .i64 b.y]) (OpV.agg 67 [(.int .i64 b.x : Value), .int .i64 b.y])) (ArgVs.nil)) (ResV.val _))) (by kernel_rfl) ?_
              refine wpc (step_plain rfl (acts_index_sl (d := 69) (x := 65) (h := 1) (off := 0) (n := m1) (k := (idx (gC (nbs b) k))) (off' := ((idx (gC (nbs b) k)) * 1)) (o := ⟨3, 1, true, pl (isl jo2)⟩) (ltN rfl) qC7_un_22 qC7_sz_3 (OpV.tmp 66 (.int .i64 (((idx (gC (nbs b) k)) : Nat) : Int))) rfl (by first | omega | assumption | exact addC_lt (by assumption) (by assumption) | exact nbs_ok (by omega) | exact cN_ok (by omega) | exact bits_ne (by assumption) _ | (have := popc_add (s := seen2) (c := (gC (nbs b) k)) (by assumption) (sk4 (by assumption) (by assumption)); omega) | (have := (find_kept (s := regSet l) n (addC seen2 (gC (nbs b) k)) jo2 (cN (gI jo2 (idx (gC (nbs b) k))).toNat) (by first | assumption | exact addC_lt (by assumption) (by assumption)) (by assumption) (cN_ok (by omega))).jo.1; omega) | (simp only [bitsL_len]; omega) | (rw [hsb2, bitsL_len]; omega)) (by first | (simp; done) | (simp; omega) | omega))) (by kernel_rfl) ?_
              refine wpc (step_plain rfl (acts_store (t := 69) (h := 1) (off := ((idx (gC (nbs b) k)) * 1)) (o := ⟨3, 1, true, pl (isl jo2)⟩) (b := .a (.val (.int .i64 (((idx b) : Nat) : Int)))) (cells := pl (isl (jo2.set (idx (gC (nbs b) k)) (((idx b) : Nat) : Int)))) qC7_ti_3 (OpX.tmp 68 (V.v (.int .i64 (((idx b) : Nat) : Int)))) rfl (by decide) (by intro y hy; simp [B.cs] at hy; subst hy; rfl) (by simp only [pl_len, isl_len]; first | omega | assumption | exact addC_lt (by assumption) (by assumption) | exact nbs_ok (by omega) | exact cN_ok (by omega) | exact bits_ne (by assumption) _ | (have := popc_add (s := seen2) (c := (gC (nbs b) k)) (by assumption) (sk4 (by assumption) (by assumption)); omega) | (have := (find_kept (s := regSet l) n (addC seen2 (gC (nbs b) k)) jo2 (cN (gI jo2 (idx (gC (nbs b) k))).toNat) (by first | assumption | exact addC_lt (by assumption) (by assumption)) (by assumption) (cN_ok (by omega))).jo.1; omega) | (simp only [bitsL_len]; omega) | (rw [hsb2, bitsL_len]; omega)) (isl_put (k := (idx (gC (nbs b) k))) (by first | omega | assumption | exact addC_lt (by assumption) (by assumption) | exact nbs_ok (by omega) | exact cN_ok (by omega) | exact bits_ne (by assumption) _ | (have := popc_add (s := seen2) (c := (gC (nbs b) k)) (by assumption) (sk4 (by assumption) (by assumption)); omega) | (have := (find_kept (s := regSet l) n (addC seen2 (gC (nbs b) k)) jo2 (cN (gI jo2 (idx (gC (nbs b) k))).toNat) (by first | assumption | exact addC_lt (by assumption) (by assumption)) (by assumption) (cN_ok (by omega))).jo.1; omega) | (simp only [bitsL_len]; omega) | (rw [hsb2, bitsL_len]; omega))))) (by kernel_rfl) ?_
              refine wpl_nil ?_
              refine wp_seq' ?_
              refine wp_region_t ?_
              refine wpc (step_plain rfl (acts_assign (d := 8) (ltN rfl) (OpX.const (.bool true)))) (by kernel_rfl) ?_
              refine wpl_nil ?_
              refine wp_ret' ?_
              exact ⟨_, weak_id, ⟨obj_eq (c := pl (isl (jo2.set (idx (gC (nbs b) k)) (((idx b) : Nat) : Int)))) (by kernel_rfl) (congrArg (fun z => pl (isl z)) (by first | rfl | (rw [← hfin]; first | (rw [findL_end (by omega)]; first | done | exact hsb2) | (rw [findL_free (by omega) (sk3 hS1 hS2) (by omega)]; first | done | exact bits_ne hsb2 _) | (rw [findL_yes (by omega) (sk3 hS1 hS2) (by omega) (by assumption)]; done)))), obj_eq (c := pl (bsl (sb2.set (idx (gC (nbs b) k)) true))) (by kernel_rfl) (congrArg (fun z => pl (bsl z)) (by first | rfl | (rw [← hfin]; first | (rw [findL_end (by omega)]; first | done | exact hsb2) | (rw [findL_free (by omega) (sk3 hS1 hS2) (by omega)]; first | done | exact bits_ne hsb2 _) | (rw [findL_yes (by omega) (sk3 hS1 hS2) (by omega) (by assumption)]; done)))), trivial⟩, vo_eq 8 (.a (.val (.bool true))) (.a (.val (.bool ((find (regSet l) (n + 1) seen jo b).1)))) (by kernel_rfl) (congrArg (fun z : Bool => B.a (.val (.bool z))) (by first | rfl | (rw [← hfin]; first | (rw [findL_end (by omega)]; first | done | exact hsb2) | (rw [findL_free (by omega) (sk3 hS1 hS2) (by omega)]; first | done | exact bits_ne hsb2 _) | (rw [findL_yes (by omega) (sk3 hS1 hS2) (by omega) (by assumption)]; done))))⟩
            · skip
              have c9P := of_decide_eq_false c9
              exact absurd (c8.symm.trans c9) (by decide)
      · skip
        have hS1 : hasS (regSet l) (gC (nbs b) k) = false := (hasR_S ho (nbs_ok (by omega))).symm.trans c3
        refine wp_drawn' (by kernel_rfl) (AllSteps.cons (step_plain rfl (acts_load_owns (d := 28) (t := 4) (h := 4) (off := 0) (o := ⟨29, 1, true, [(.slv l.length 1 (isl l) : A)]⟩)  (xs := [(.slv l.length 1 (isl l) : A)]) (ltN rfl) qC7_ti_29 rfl (by decide) rfl)) (AllSteps.cons (step_plain rfl (acts_move (d := 29) (ltN rfl) (OpX.tmp 9 (V.b (.a (.sl 16 0 ((nbs b).length))))))) (AllSteps.cons (step_plain rfl (acts_move (d := 30) (ltN rfl) (OpX.tmp 10 (V.v (.int .i64 ((k : Nat) : Int)))))) (AllSteps.cons (step_plain rfl (acts_index_sl (d := 31) (x := 29) (h := 16) (off := 0) (n := ((nbs b).length)) (k := k) (off' := (k * 2)) (o := ⟨49, 2, true, pl (csl (nbs b))⟩) (ltN rfl) qC7_un_41 qC7_sz_49 (OpV.tmp 30 (.int .i64 ((k : Nat) : Int))) rfl (by first | omega | assumption | exact addC_lt (by assumption) (by assumption) | exact nbs_ok (by omega) | exact cN_ok (by omega) | exact bits_ne (by assumption) _ | (have := popc_add (s := seen2) (c := (gC (nbs b) k)) (by assumption) (sk4 (by assumption) (by assumption)); omega) | (have := (find_kept (s := regSet l) n (addC seen2 (gC (nbs b) k)) jo2 (cN (gI jo2 (idx (gC (nbs b) k))).toNat) (by first | assumption | exact addC_lt (by assumption) (by assumption)) (by assumption) (cN_ok (by omega))).jo.1; omega) | (simp only [bitsL_len]; omega) | (rw [hsb2, bitsL_len]; omega)) (by first | (simp; done) | (simp; omega) | omega))) (AllSteps.cons (step_plain rfl (acts_load_owns (d := 32) (t := 31) (h := 16) (off := (k * 2)) (o := ⟨49, 2, true, pl (csl (nbs b))⟩)  (xs := [(.int .i64 ((gC (nbs b) k).x) : Value), .int .i64 ((gC (nbs b) k).y)].map A.val) (ltN rfl) qC7_ti_49 rfl (by decide) (pl_at (csl_at (k := k) (by first | omega | assumption | exact addC_lt (by assumption) (by assumption) | exact nbs_ok (by omega) | exact cN_ok (by omega) | exact bits_ne (by assumption) _ | (have := popc_add (s := seen2) (c := (gC (nbs b) k)) (by assumption) (sk4 (by assumption) (by assumption)); omega) | (have := (find_kept (s := regSet l) n (addC seen2 (gC (nbs b) k)) jo2 (cN (gI jo2 (idx (gC (nbs b) k))).toNat) (by first | assumption | exact addC_lt (by assumption) (by assumption)) (by assumption) (cN_ok (by omega))).jo.1; omega) | (simp only [bitsL_len]; omega) | (rw [hsb2, bitsL_len]; omega)))))) (AllSteps.cons (step_plain rfl (acts_call1 (d := 33) (ltN rfl) (spec_l03Has_fn l (gC (nbs b) k) (by first | omega | assumption | exact addC_lt (by assumption) (by assumption) | exact nbs_ok (by omega) | exact cN_ok (by omega) | exact bits_ne (by assumption) _ | (have := popc_add (s := seen2) (c := (gC (nbs b) k)) (by assumption) (sk4 (by assumption) (by assumption)); omega) | (have := (find_kept (s := regSet l) n (addC seen2 (gC (nbs b) k)) jo2 (cN (gI jo2 (idx (gC (nbs b) k))).toNat) (by first | assumption | exact addC_lt (by assumption) (by assumption)) (by assumption) (cN_ok (by omega))).jo.1; omega) | (simp only [bitsL_len]; omega) | (rw [hsb2, bitsL_len]; omega)) (by first | omega | assumption | exact addC_lt (by assumption) (by assumption) | exact nbs_ok (by omega) | exact cN_ok (by omega) | exact bits_ne (by assumption) _ | (have := popc_add (s := seen2) (c := (gC (nbs b) k)) (by assumption) (sk4 (by assumption) (by assumption)); omega) | (have := (find_kept (s := regSet l) n (addC seen2 (gC (nbs b) k)) jo2 (cN (gI jo2 (idx (gC (nbs b) k))).toNat) (by first | assumption | exact addC_lt (by assumption) (by assumption)) (by assumption) (cN_ok (by omega))).jo.1; omega) | (simp only [bitsL_len]; omega) | (rw [hsb2, bitsL_len]; omega))) (ArgVs.cons (ArgV.regv 28 l.length 1 (isl l)) (ArgVs.cons (ArgV.va (vs := [(.int .i64 ((gC (nbs b) k).x) : Value), .int .i64 ((gC (nbs b) k).y)]) (OpV.agg 32 [(.int .i64 ((gC (nbs b) k).x) : Value), .int .i64 ((gC (nbs b) k).y)])) (ArgVs.nil))) ((resval (congrArg Value.bool c3))))) (AllSteps.cons (step_plain rfl (acts_un (d := 34) (ltN rfl) (OpV.tmp 33 (.bool false)) (r_not (c := true) rfl))) (AllSteps.cons (step_plain rfl (acts_move (d := 35) (ltN rfl) (OpX.tmp 34 (V.v (.bool true))))) (AllSteps.cons (step_off (dj := 35) (b' := true) rfl rfl (by decide) rfl (ltN rfl)) (AllSteps.cons (step_off (dj := 35) (b' := true) rfl rfl (by decide) rfl (ltN rfl)) (AllSteps.cons (step_off (dj := 35) (b' := true) rfl rfl (by decide) rfl (ltN rfl)) (AllSteps.cons (step_off (dj := 35) (b' := true) rfl rfl (by decide) rfl (ltN rfl)) (AllSteps.cons (step_plain rfl (acts_pick_t (d := 40) (ltN rfl) (OpV.tmp 35 (.bool true)) (OpX.const (.bool true)))) (AllSteps.nil)))))))))))))) (by kernel_rfl) (by kernel_rfl) (by kernel_rfl) ?_
        refine wp_if_t (t := 40) (by kernel_rfl) ?_
        refine wp_exit' ?_
        refine wp_region_t ?_
        refine wpc (step_plain rfl (acts_move (d := 21) (ltN rfl) (OpX.tmp 10 (V.v (.int .i64 ((k : Nat) : Int)))))) (by kernel_rfl) ?_
        refine wpc (step_plain rfl (acts_bin (d := 22) (ltN rfl) (OpV.tmp 21 (.int .i64 ((k : Nat) : Int))) (OpV.const (.int .i64 1)) (r_add (c := (((k : Nat) : Int) + 1)) (w64 (by first | omega | assumption | exact addC_lt (by assumption) (by assumption) | exact nbs_ok (by omega) | exact cN_ok (by omega) | exact bits_ne (by assumption) _ | (have := popc_add (s := seen2) (c := (gC (nbs b) k)) (by assumption) (sk4 (by assumption) (by assumption)); omega) | (have := (find_kept (s := regSet l) n (addC seen2 (gC (nbs b) k)) jo2 (cN (gI jo2 (idx (gC (nbs b) k))).toNat) (by first | assumption | exact addC_lt (by assumption) (by assumption)) (by assumption) (cN_ok (by omega))).jo.1; omega) | (simp only [bitsL_len]; omega) | (rw [hsb2, bitsL_len]; omega)) (by first | omega | assumption | exact addC_lt (by assumption) (by assumption) | exact nbs_ok (by omega) | exact cN_ok (by omega) | exact bits_ne (by assumption) _ | (have := popc_add (s := seen2) (c := (gC (nbs b) k)) (by assumption) (sk4 (by assumption) (by assumption)); omega) | (have := (find_kept (s := regSet l) n (addC seen2 (gC (nbs b) k)) jo2 (cN (gI jo2 (idx (gC (nbs b) k))).toNat) (by first | assumption | exact addC_lt (by assumption) (by assumption)) (by assumption) (cN_ok (by omega))).jo.1; omega) | (simp only [bitsL_len]; omega) | (rw [hsb2, bitsL_len]; omega)))))) (by kernel_rfl) ?_
        refine wpc (step_plain rfl (acts_assign (d := 10) (ltN rfl) (OpX.tmp 22 (V.v (.int .i64 (((k : Nat) : Int) + 1)))))) (by kernel_rfl) ?_
        refine wpl_nil ?_
        exact loop_back ((k + 1), seen2, sb2, jo2) (by first | (refine ⟨by omega, by assumption, by assumption, by assumption, by assumption, ?_⟩; rw [← hfin]; refine (findL_skip (by omega) ?_).symm; first | exact sk1 (by assumption) | exact sk2 (by assumption)) | (have hkp := find_kept (s := regSet l) n (addC seen2 (gC (nbs b) k)) jo2 (cN (gI jo2 (idx (gC (nbs b) k))).toNat) (addC_lt (by assumption) (by assumption)) (by assumption) (cN_ok (by omega)); have hpa := popc_add (s := seen2) (c := (gC (nbs b) k)) (by assumption) (sk4 hS1 hS2); refine ⟨by omega, hkp.lt, rfl, hkp.jo, by have := hkp.pc; omega, ?_⟩; rw [← hfin]; exact (findL_no (by omega) (sk3 hS1 hS2) (by omega) (by assumption)).symm)) (by show (nbs b).length - (k + 1) < (nbs b).length - k; omega) (weak_of id [13, 19, 27, 33, 56, 63, 68] (by kernel_rfl) (wk_s (v' := V.b (.a (.sl 1 0 m1))) (by kernel_rfl) rfl rfl (wk_s (v' := V.b (.a (.sl 2 0 m2))) (by kernel_rfl) rfl rfl (wk_s (v' := V.p 4 0) (by kernel_rfl) rfl rfl (wk_s (v' := V.p 7 0) (by kernel_rfl) rfl rfl (wk_s (v' := V.b (.a (.sl 16 0 ((nbs b).length)))) (by kernel_rfl) rfl rfl (wk_s (v' := V.v (.int .i64 (((k : Nat) : Int) + 1))) (by kernel_rfl) (vint (by first | rfl | omega | (simp; done) | (simp; omega))) rfl (wk_o (o' := ⟨3, 1, true, pl (isl jo2)⟩) (by kernel_rfl) (renob_pl (fun h => h)) rfl (wk_o (o' := ⟨4, 1, true, pl (bsl sb2)⟩) (by kernel_rfl) (renob_pl (fun h => h)) rfl (wk_o (o' := ⟨29, 1, true, [(.slv l.length 1 (isl l) : A)]⟩) (by kernel_rfl) (renob_l (fun h => h) rfl rfl) rfl (wk_o (o' := ⟨49, 2, true, [(.val (.int .i64 b.x) : A), .val (.int .i64 b.y)]⟩) (by kernel_rfl) (renob_l (fun h => h) rfl rfl) rfl (wk_o (o' := ⟨49, 2, true, pl (csl (nbs b))⟩) (by kernel_rfl) (renob_pl (fun h => h)) rfl (wk_f rfl (wk_f rfl (wk_f rfl (wk_f rfl (wk_f rfl (wk_f rfl (wk_f rfl (wk_nil))))))))))))))))))))
    · skip
      have c2P := of_decide_eq_false c2
      refine wp_exit' ?_
      refine wp_seq' ?_
      refine wp_region_t ?_
      refine wpc (step_plain rfl (acts_assign (d := 8) (ltN rfl) (OpX.const (.bool false)))) (by kernel_rfl) ?_
      refine wpl_nil ?_
      refine wp_ret' ?_
      exact ⟨_, weak_id, ⟨obj_eq (c := pl (isl jo2)) (by kernel_rfl) (congrArg (fun z => pl (isl z)) (by first | rfl | (rw [← hfin]; first | (rw [findL_end (by omega)]; first | done | exact hsb2) | (rw [findL_free (by omega) (sk3 hS1 hS2) (by omega)]; first | done | exact bits_ne hsb2 _) | (rw [findL_yes (by omega) (sk3 hS1 hS2) (by omega) (by assumption)]; done)))), obj_eq (c := pl (bsl sb2)) (by kernel_rfl) (congrArg (fun z => pl (bsl z)) (by first | rfl | (rw [← hfin]; first | (rw [findL_end (by omega)]; first | done | exact hsb2) | (rw [findL_free (by omega) (sk3 hS1 hS2) (by omega)]; first | done | exact bits_ne hsb2 _) | (rw [findL_yes (by omega) (sk3 hS1 hS2) (by omega) (by assumption)]; done)))), trivial⟩, vo_eq 8 (.a (.val (.bool false))) (.a (.val (.bool ((find (regSet l) (n + 1) seen jo b).1)))) (by kernel_rfl) (congrArg (fun z : Bool => B.a (.val (.bool z))) (by first | rfl | (rw [← hfin]; first | (rw [findL_end (by omega)]; first | done | exact hsb2) | (rw [findL_free (by omega) (sk3 hS1 hS2) (by omega)]; first | done | exact bits_ne hsb2 _) | (rw [findL_yes (by omega) (sk3 hS1 hS2) (by omega) (by assumption)]; done))))⟩

set_option maxHeartbeats 4000000 in
set_option maxRecDepth 100000 in
theorem spec_l09Joined_fn (l : List Int) (ho : regOk l = true) : Fn Try.prog 51 [.agg [(.slv l.length 1 (isl l) : A)]] [.row 3 1 (joined (regSet l)).length (isl (joined (regSet l)))] := by
  have hrl := (regOk_true ho).1
  have hce : cellsOf l = setCells (regSet l) := by unfold cellsOf; rw [if_pos ho]
  refine fn_intro (N := 40) Try.func51 rfl (by kernel_rfl) rfl (Nat.le_of_ble_eq_true rfl) [1, 8, 15, 16, 18, 21, 29, 33, 38] (ret1 rfl) (fun W => ?_)
  show Wp _ _ _ [(.s 0, some (.s (V.b (.agg [(.slv l.length 1 (isl l) : A)])))), (.o 1, some .free), (.o 8, some .free), (.o 15, some .free), (.o 16, some .free), (.o 18, some .free), (.o 21, some .free), (.o 29, some .free), (.o 33, some .free), (.o 38, some .free)]
  refine wp_seq' ?_
  refine wp_region_t ?_
  refine wpc (step_plain rfl (acts_box (d := 1) (h := 1) (b := .agg [(.slv l.length 1 (isl l) : A)]) (ltN rfl) (OpX.tmp 0 (V.b (.agg [(.slv l.length 1 (isl l) : A)]))) (by intro y hy; simp [B.cs] at hy; subst hy; rfl))) (by kernel_rfl) ?_
  refine wpc (step_plain rfl (acts_assign (d := 2) (ltN rfl) (OpX.const (.slice none 0 0)))) (by kernel_rfl) ?_
  refine wpl_nil ?_
  refine wp_seq' ?_
  refine wp_region_t ?_
  refine wpc (step_plain rfl (acts_assign (d := 3) (ltN rfl) (OpX.const (.int .i64 64)))) (by kernel_rfl) ?_
  refine wpl_nil ?_
  refine wp_seq' ?_
  refine wp_region_t ?_
  refine wpc (step_plain rfl (acts_buildSlice0' (d := 8) (h := 8) (s := 1) (ltN rfl) qC7_un_22 qC7_zi_3)) (by kernel_rfl) ?_
  refine wpc (step_plain rfl (acts_assign (d := 4) (ltN rfl) (OpX.tmp 8 (V.b (.a (.sl 8 0 0)))))) (by kernel_rfl) ?_
  refine wpl_nil ?_
  refine wp_seq' ?_
  refine wp_seq' ?_
  refine wp_region_t ?_
  refine wpc (step_plain rfl (acts_assign (d := 5) (ltN rfl) (OpX.const (.int .i64 0)))) (by kernel_rfl) ?_
  refine wpl_nil ?_
  refine wp_block' ?_
  refine wp_loop' (fun (i : Nat) => i ≤ 64) (fun (i : Nat) => [(.s 1, some (.s (V.p 1 0))), (.s 3, some (.s (V.v (.int .i64 64)))), (.s 4, some (.s (V.b (.a (.sl 8 0 ((List.replicate i (-1)).length)))))), (.s 5, some (.s (V.v (.int .i64 ((i : Nat) : Int))))), (.o 1, some (.o ⟨29, 1, true, [(.slv l.length 1 (isl l) : A)]⟩)), (.o 8, some (.o ⟨3, 1, true, pl (isl (List.replicate i (-1)))⟩)), (.o 15, some .free), (.o 16, some .free), (.o 18, some .free), (.o 21, some .free), (.o 29, some .free), (.o 33, some .free), (.o 38, some .free)]) (fun (i : Nat) => 64 - i) ((0 : Nat)) (by exact (Nat.zero_le _ : 0 ≤ _)) (weak_of id [15, 16, 18, 21, 29, 33, 38] (by kernel_rfl) (wk_s (v' := V.p 1 0) (by kernel_rfl) rfl rfl (wk_s (v' := V.v (.int .i64 64)) (by kernel_rfl) rfl rfl (wk_s (v' := V.b (.a (.sl 8 0 0))) (by kernel_rfl) (vsl (by first | rfl | (simp; done) | (simp; omega) | omega | (exact congrArg List.length (by first | rfl | omega | exact (List.replicate_succ' ..).symm | exact List.replicate_succ' .. | (simp; done) | (simp; omega)))) rfl) rfl (wk_s (v' := V.v (.int .i64 0)) (by kernel_rfl) (vint (by first | rfl | omega | exact (List.replicate_succ' ..).symm | exact List.replicate_succ' .. | (simp; done) | (simp; omega))) rfl (wk_o (o' := ⟨29, 1, true, [(.slv l.length 1 (isl l) : A)]⟩) (by kernel_rfl) (renob_l (fun h => h) rfl rfl) rfl (wk_o (o' := ⟨3, 1, true, pl (isl [])⟩) (by kernel_rfl) (renob_eq (fun h => h) (congrArg isl (by first | rfl | omega | exact (List.replicate_succ' ..).symm | exact List.replicate_succ' .. | (simp; done) | (simp; omega)))) rfl (wk_f rfl (wk_f rfl (wk_f rfl (wk_f rfl (wk_f rfl (wk_f rfl (wk_f rfl (wk_nil))))))))))))))) ?_
  rintro i inv1
  replace inv1 : i ≤ 64 := inv1
  have inv := inv1
  show Wp _ _ _ [(.s 1, some (.s (V.p 1 0))), (.s 3, some (.s (V.v (.int .i64 64)))), (.s 4, some (.s (V.b (.a (.sl 8 0 ((List.replicate i (-1)).length)))))), (.s 5, some (.s (V.v (.int .i64 ((i : Nat) : Int))))), (.o 1, some (.o ⟨29, 1, true, [(.slv l.length 1 (isl l) : A)]⟩)), (.o 8, some (.o ⟨3, 1, true, pl (isl (List.replicate i (-1)))⟩)), (.o 15, some .free), (.o 16, some .free), (.o 18, some .free), (.o 21, some .free), (.o 29, some .free), (.o 33, some .free), (.o 38, some .free)]
  refine wp_seq' ?_
  refine wp_seq' ?_
  refine wp_region_t ?_
  refine wpc (step_plain rfl (acts_move (d := 9) (ltN rfl) (OpX.tmp 5 (V.v (.int .i64 ((i : Nat) : Int)))))) (by kernel_rfl) ?_
  refine wpc (step_plain rfl (acts_move (d := 10) (ltN rfl) (OpX.tmp 3 (V.v (.int .i64 64))))) (by kernel_rfl) ?_
  refine wpc (step_plain rfl (acts_bin (d := 11) (ltN rfl) (OpV.tmp 9 (.int .i64 ((i : Nat) : Int))) (OpV.tmp 10 (.int .i64 64)) (r_lss (c := (decide (((i : Nat) : Int) < 64))) rfl))) (by kernel_rfl) ?_
  refine wpl_nil ?_
  refine wp_if (t := 11) (decide (((i : Nat) : Int) < 64)) (by kernel_rfl) (fun c2 => ?_) (fun c2 => ?_)
  · skip
    have c2P := of_decide_eq_true c2
    refine wp_skip' ?_
    refine wp_seq' ?_
    refine wp_block' ?_
    refine wp_region_t ?_
    refine wpc (step_plain rfl (acts_move (d := 14) (ltN rfl) (OpX.tmp 4 (V.b (.a (.sl 8 0 ((List.replicate i (-1)).length))))))) (by kernel_rfl) ?_
    refine wpc (step_plain rfl (acts_buildSlice' (d := 15) (h := 15) (n := 1) (s := 1) (xs := isl ([(-1)] : List Int)) (ltN rfl) qC7_un_22 qC7_zi_3 (OpVs.cons (i := 0) (OpV.const (.int .i64 (-1))) (OpVs.nil)) (by decide) (by decide) (by kernel_rfl) rfl)) (by kernel_rfl) ?_
    refine wpc (step_plain rfl (acts_app (d := 16) (x := 14) (h := 8) (h2 := 16) (n := ((List.replicate i (-1)).length)) (m := 1) (nm := (((List.replicate i (-1)) ++ [(-1)]).length)) (X := .sl 15 0 1) (xs := isl (List.replicate i (-1))) (ys := isl [(-1)]) (zs := isl ((List.replicate i (-1)) ++ [(-1)])) (ltN rfl) qC7_un_22 qC7_zi_3 rfl (by decide) (by decide) (by first | exact isl_len _ | (simp [isl_len, bsl_len, dsl_len, csl_len]; done) | (simp [isl_len, bsl_len, dsl_len, csl_len]; omega)) (OpX.tmp 15 (V.b (.a (.sl 15 0 1)))) (src_own (h := 15) (T := 3) (s := 1) (ex := true) (n := 1) (by first | exact isl_len _ | (simp [isl_len, bsl_len, dsl_len, csl_len]; done) | (simp [isl_len, bsl_len, dsl_len, csl_len]; omega))) (isl_one' _) (by first | omega | (simp; omega) | (simp at *; omega)) (by first | exact (isl_append _ _).symm | rfl | simp [isl_append]) (by first | rfl | (simp; done) | (simp; omega) | omega))) (by kernel_rfl) ?_
    refine wpc (step_plain rfl (acts_assign (d := 4) (ltN rfl) (OpX.tmp 16 (V.b (.a (.sl 16 0 (((List.replicate i (-1)) ++ [(-1)]).length))))))) (by kernel_rfl) ?_
    refine wpl_nil ?_
    refine wp_region_t ?_
    refine wpc (step_plain rfl (acts_move (d := 12) (ltN rfl) (OpX.tmp 5 (V.v (.int .i64 ((i : Nat) : Int)))))) (by kernel_rfl) ?_
    refine wpc (step_plain rfl (acts_bin (d := 13) (ltN rfl) (OpV.tmp 12 (.int .i64 ((i : Nat) : Int))) (OpV.const (.int .i64 1)) (r_add (c := (((i : Nat) : Int) + 1)) (w64 (by first | omega | assumption | exact regSet_lt ho | exact cell_in (by omega) | exact bitsL_zero | exact jo0_ok | decide | (simp; omega) | (simp; done) | (rw [popc_zero]; done)) (by first | omega | assumption | exact regSet_lt ho | exact cell_in (by omega) | exact bitsL_zero | exact jo0_ok | decide | (simp; omega) | (simp; done) | (rw [popc_zero]; done)))))) (by kernel_rfl) ?_
    refine wpc (step_plain rfl (acts_assign (d := 5) (ltN rfl) (OpX.tmp 13 (V.v (.int .i64 (((i : Nat) : Int) + 1)))))) (by kernel_rfl) ?_
    refine wpl_nil ?_
    exact loop_back ((i + 1)) (by show _ ≤ _; omega) (by show 64 - (i + 1) < 64 - i; omega) (weak_of (subst1 [(8, 16)]) [15, 16, 18, 21, 29, 33, 38] (by kernel_rfl) (wk_s (v' := V.p 1 0) (by kernel_rfl) rfl rfl (wk_s (v' := V.v (.int .i64 64)) (by kernel_rfl) rfl rfl (wk_s (v' := V.b (.a (.sl 16 0 (((List.replicate i (-1)) ++ [(-1)]).length)))) (by kernel_rfl) (vsl (by first | rfl | (simp; done) | (simp; omega) | omega | (exact congrArg List.length (by first | rfl | omega | exact (List.replicate_succ' ..).symm | exact List.replicate_succ' .. | (simp; done) | (simp; omega)))) rfl) rfl (wk_s (v' := V.v (.int .i64 (((i : Nat) : Int) + 1))) (by kernel_rfl) (vint (by first | rfl | omega | exact (List.replicate_succ' ..).symm | exact List.replicate_succ' .. | (simp; done) | (simp; omega))) rfl (wk_o (o' := ⟨29, 1, true, [(.slv l.length 1 (isl l) : A)]⟩) (by kernel_rfl) (renob_l (fun h => h) rfl rfl) rfl (wk_o (o' := ⟨3, 1, true, pl (isl ((List.replicate i (-1)) ++ [(-1)]))⟩) (by kernel_rfl) (renob_eq (fun h => h) (congrArg isl (by first | rfl | omega | exact (List.replicate_succ' ..).symm | exact List.replicate_succ' .. | (simp; done) | (simp; omega)))) rfl (wk_f rfl (wk_f rfl (wk_f rfl (wk_f rfl (wk_f rfl (wk_f rfl (wk_f rfl (wk_nil)))))))))))))))
  · skip
    have c2P := of_decide_eq_false c2
    refine wp_exit' ?_
    refine wp_seq' ?_
    refine wp_region_t ?_
    refine wpc (step_plain rfl (acts_load_owns (d := 17) (t := 1) (h := 1) (off := 0) (o := ⟨29, 1, true, [(.slv l.length 1 (isl l) : A)]⟩)  (xs := [(.slv l.length 1 (isl l) : A)]) (ltN rfl) qC7_ti_29 rfl (by decide) rfl)) (by kernel_rfl) ?_
    refine wpc (step_plain rfl (acts_call1 (d := 18) (ltN rfl) (spec_CellsOf_fn l (by first | omega | assumption | exact regSet_lt ho | exact cell_in (by omega) | exact bitsL_zero | exact jo0_ok | decide | (simp; omega) | (simp; done) | (rw [popc_zero]; done))) (ArgVs.cons (ArgV.regv 17 l.length 1 (isl l)) (ArgVs.nil)) (ResV.row 49 2 ((cellsOf l).length) (csl (cellsOf l)) 18))) (by kernel_rfl) ?_
    refine wpc (step_plain rfl (acts_assign (d := 6) (ltN rfl) (OpX.tmp 18 (V.b (.a (.sl 18 0 ((cellsOf l).length))))))) (by kernel_rfl) ?_
    refine wpl_nil ?_
    refine wp_seq' ?_
    refine wp_seq' ?_
    refine wp_region_t ?_
    refine wpc (step_plain rfl (acts_assign (d := 7) (ltN rfl) (OpX.const (.int .i64 0)))) (by kernel_rfl) ?_
    refine wpl_nil ?_
    refine wp_block' ?_
    refine wp_loop' (fun (k : Nat) => k ≤ (cellsOf l).length) (fun (k : Nat) => [(.s 1, some (.s (V.p 1 0))), (.s 3, some (.s (V.v (.int .i64 64)))), (.s 4, some (.s (V.b (.a (.sl 8 0 ((List.replicate i (-1)).length)))))), (.s 6, some (.s (V.b (.a (.sl 18 0 ((cellsOf l).length)))))), (.s 7, some (.s (V.v (.int .i64 ((k : Nat) : Int))))), (.o 1, some (.o ⟨29, 1, true, [(.slv l.length 1 (isl l) : A)]⟩)), (.o 8, some (.o ⟨3, 1, true, pl (isl (((cellsOf l).take k).foldl (joStep (regSet l)) jo0))⟩)), (.o 18, some (.o ⟨49, 2, true, pl (csl (cellsOf l))⟩)), (.o 15, some .free), (.o 16, some .free), (.o 21, some .free), (.o 29, some .free), (.o 33, some .free), (.o 38, some .free)]) (fun (k : Nat) => (cellsOf l).length - k) ((0 : Nat)) (by exact (Nat.zero_le _ : 0 ≤ _)) (weak_of id [15, 16, 21, 29, 33, 38] (by kernel_rfl) (wk_s (v' := V.p 1 0) (by kernel_rfl) rfl rfl (wk_s (v' := V.v (.int .i64 64)) (by kernel_rfl) rfl rfl (wk_s (v' := V.b (.a (.sl 8 0 ((List.replicate i (-1)).length)))) (by kernel_rfl) rfl rfl (wk_s (v' := V.b (.a (.sl 18 0 ((cellsOf l).length)))) (by kernel_rfl) rfl rfl (wk_s (v' := V.v (.int .i64 0)) (by kernel_rfl) (vint (by first | rfl | (have e : i = 64 := by omega); subst e; rfl | (rw [foldl_snocJ _ _ (by omega), joStep, if_pos (by assumption)]; done) | (rw [foldl_snocJ _ _ (by omega), joStep, if_neg (by simp_all)]; done) | omega)) rfl (wk_o (o' := ⟨29, 1, true, [(.slv l.length 1 (isl l) : A)]⟩) (by kernel_rfl) (renob_l (fun h => h) rfl rfl) rfl (wk_o (o' := ⟨3, 1, true, pl (isl (List.replicate i (-1)))⟩) (by kernel_rfl) (renob_eq (fun h => h) (congrArg isl (by first | rfl | (have e : i = 64 := by omega); subst e; rfl | (rw [foldl_snocJ _ _ (by omega), joStep, if_pos (by assumption)]; done) | (rw [foldl_snocJ _ _ (by omega), joStep, if_neg (by simp_all)]; done) | omega))) rfl (wk_o (o' := ⟨49, 2, true, pl (csl (cellsOf l))⟩) (by kernel_rfl) (renob_pl (fun h => h)) rfl (wk_f rfl (wk_f rfl (wk_f rfl (wk_f rfl (wk_f rfl (wk_f rfl (wk_nil)))))))))))))))) ?_
    rintro k inv3
    replace inv3 : k ≤ (cellsOf l).length := inv3
    have inv := inv3
    show Wp _ _ _ [(.s 1, some (.s (V.p 1 0))), (.s 3, some (.s (V.v (.int .i64 64)))), (.s 4, some (.s (V.b (.a (.sl 8 0 ((List.replicate i (-1)).length)))))), (.s 6, some (.s (V.b (.a (.sl 18 0 ((cellsOf l).length)))))), (.s 7, some (.s (V.v (.int .i64 ((k : Nat) : Int))))), (.o 1, some (.o ⟨29, 1, true, [(.slv l.length 1 (isl l) : A)]⟩)), (.o 8, some (.o ⟨3, 1, true, pl (isl (((cellsOf l).take k).foldl (joStep (regSet l)) jo0))⟩)), (.o 18, some (.o ⟨49, 2, true, pl (csl (cellsOf l))⟩)), (.o 15, some .free), (.o 16, some .free), (.o 21, some .free), (.o 29, some .free), (.o 33, some .free), (.o 38, some .free)]
    have h64 := cellsOf_len l
    have hjo : joOk (((cellsOf l).take k).foldl (joStep (regSet l)) jo0) := foldl_jo_ok _ (fun c hc => cellsOf_ok (List.mem_of_mem_take hc)) _ jo0_ok
    have hjl := hjo.1
    refine wp_seq' ?_
    refine wp_seq' ?_
    refine wp_region_t ?_
    refine wpc (step_plain rfl (acts_move (d := 19) (ltN rfl) (OpX.tmp 7 (V.v (.int .i64 ((k : Nat) : Int)))))) (by kernel_rfl) ?_
    refine wpc (step_plain rfl (acts_move (d := 20) (ltN rfl) (OpX.tmp 6 (V.b (.a (.sl 18 0 ((cellsOf l).length))))))) (by kernel_rfl) ?_
    refine wpc (step_plain rfl (acts_len (d := 21) (X := .sl 18 0 ((cellsOf l).length)) (n := ((cellsOf l).length)) (iv := (((cellsOf l).length : Nat) : Int)) (ltN rfl) qC7_un_41 (OpX.tmp 20 (V.b (.a (.sl 18 0 ((cellsOf l).length))))) (LenOf.sl _ _ _) rfl)) (by kernel_rfl) ?_
    refine wpc (step_plain rfl (acts_bin (d := 22) (ltN rfl) (OpV.tmp 19 (.int .i64 ((k : Nat) : Int))) (OpV.tmp 21 (.int .i64 (((cellsOf l).length : Nat) : Int))) (r_lss (c := (decide (((k : Nat) : Int) < (((cellsOf l).length : Nat) : Int)))) rfl))) (by kernel_rfl) ?_
    refine wpl_nil ?_
    refine wp_if (t := 22) (decide (((k : Nat) : Int) < (((cellsOf l).length : Nat) : Int))) (by kernel_rfl) (fun c4 => ?_) (fun c4 => ?_)
    · skip
      have c4P := of_decide_eq_true c4
      refine wp_skip' ?_
      refine wp_seq' ?_
      refine wp_block' ?_
      refine wp_seq' ?_
      refine wp_region_t ?_
      refine wpc (step_plain rfl (acts_move (d := 25) (ltN rfl) (OpX.tmp 6 (V.b (.a (.sl 18 0 ((cellsOf l).length))))))) (by kernel_rfl) ?_
      refine wpc (step_plain rfl (acts_move (d := 26) (ltN rfl) (OpX.tmp 7 (V.v (.int .i64 ((k : Nat) : Int)))))) (by kernel_rfl) ?_
      refine wpc (step_plain rfl (acts_index_sl (d := 27) (x := 25) (h := 18) (off := 0) (n := ((cellsOf l).length)) (k := k) (off' := (k * 2)) (o := ⟨49, 2, true, pl (csl (cellsOf l))⟩) (ltN rfl) qC7_un_41 qC7_sz_49 (OpV.tmp 26 (.int .i64 ((k : Nat) : Int))) rfl (by first | omega | assumption | exact regSet_lt ho | exact cell_in (by omega) | exact bitsL_zero | exact jo0_ok | decide | (simp; omega) | (simp; done) | (rw [popc_zero]; done)) (by first | (simp; done) | (simp; omega) | omega))) (by kernel_rfl) ?_
      refine wpc (step_plain rfl (acts_load_owns (d := 28) (t := 27) (h := 18) (off := (k * 2)) (o := ⟨49, 2, true, pl (csl (cellsOf l))⟩)  (xs := [(.int .i64 ((gC (cellsOf l) k).x) : Value), .int .i64 ((gC (cellsOf l) k).y)].map A.val) (ltN rfl) qC7_ti_49 rfl (by decide) (pl_at (csl_at (k := k) (by first | omega | assumption | exact regSet_lt ho | exact cell_in (by omega) | exact bitsL_zero | exact jo0_ok | decide | (simp; omega) | (simp; done) | (rw [popc_zero]; done)))))) (by kernel_rfl) ?_
      refine wpc (step_plain rfl (acts_call1 (d := 29) (ltN rfl) (spec_IsBlack_fn (gC (cellsOf l) k) ) (ArgVs.cons (ArgV.va (vs := [(.int .i64 ((gC (cellsOf l) k).x) : Value), .int .i64 ((gC (cellsOf l) k).y)]) (OpV.agg 28 [(.int .i64 ((gC (cellsOf l) k).x) : Value), .int .i64 ((gC (cellsOf l) k).y)])) (ArgVs.nil)) (ResV.val _))) (by kernel_rfl) ?_
      refine wpl_nil ?_
      refine wp_if (t := 29) ((black (gC (cellsOf l) k))) (by kernel_rfl) (fun c5 => ?_) (fun c5 => ?_)
      · skip
        refine wp_drawn' (by kernel_rfl) (AllSteps.cons (step_plain rfl (acts_load_owns (d := 30) (t := 1) (h := 1) (off := 0) (o := ⟨29, 1, true, [(.slv l.length 1 (isl l) : A)]⟩)  (xs := [(.slv l.length 1 (isl l) : A)]) (ltN rfl) qC7_ti_29 rfl (by decide) rfl)) (AllSteps.cons (step_plain rfl (acts_move (d := 31) (ltN rfl) (OpX.tmp 4 (V.b (.a (.sl 8 0 ((List.replicate i (-1)).length))))))) (AllSteps.cons (step_plain rfl (acts_move (d := 32) (ltN rfl) (OpX.tmp 3 (V.v (.int .i64 64))))) (AllSteps.cons (step_plain rfl (acts_make' (d := 33) (h := 33) (n := 64) (s := 1) (xs := bsl (List.replicate 64 false)) (ltN rfl) qC7_un_74 qC7_zi_4 (OpV.tmp 32 (.int .i64 64)) (OpV.tmp 32 (.int .i64 64)) rfl rfl (by decide) (by first | omega | assumption | exact regSet_lt ho | exact cell_in (by omega) | exact bitsL_zero | exact jo0_ok | decide | (simp; omega) | (simp; done) | (rw [popc_zero]; done)) (made_bools 64))) (AllSteps.cons (step_plain rfl (acts_move (d := 34) (ltN rfl) (OpX.tmp 6 (V.b (.a (.sl 18 0 ((cellsOf l).length))))))) (AllSteps.cons (step_plain rfl (acts_move (d := 35) (ltN rfl) (OpX.tmp 7 (V.v (.int .i64 ((k : Nat) : Int)))))) (AllSteps.cons (step_plain rfl (acts_index_sl (d := 36) (x := 34) (h := 18) (off := 0) (n := ((cellsOf l).length)) (k := k) (off' := (k * 2)) (o := ⟨49, 2, true, pl (csl (cellsOf l))⟩) (ltN rfl) qC7_un_41 qC7_sz_49 (OpV.tmp 35 (.int .i64 ((k : Nat) : Int))) rfl (by first | omega | assumption | exact regSet_lt ho | exact cell_in (by omega) | exact bitsL_zero | exact jo0_ok | decide | (simp; omega) | (simp; done) | (rw [popc_zero]; done)) (by first | (simp; done) | (simp; omega) | omega))) (AllSteps.cons (step_plain rfl (acts_load_owns (d := 37) (t := 36) (h := 18) (off := (k * 2)) (o := ⟨49, 2, true, pl (csl (cellsOf l))⟩)  (xs := [(.int .i64 ((gC (cellsOf l) k).x) : Value), .int .i64 ((gC (cellsOf l) k).y)].map A.val) (ltN rfl) qC7_ti_49 rfl (by decide) (pl_at (csl_at (k := k) (by first | omega | assumption | exact regSet_lt ho | exact cell_in (by omega) | exact bitsL_zero | exact jo0_ok | decide | (simp; omega) | (simp; done) | (rw [popc_zero]; done)))))) (AllSteps.cons (step_plain rfl (acts_callO (d := 38) (f := 81) (os := [(.o 8, some (.o ⟨3, 1, true, pl (isl (((cellsOf l).take k).foldl (joStep (regSet l)) jo0))⟩)), (.o 33, some (.o ⟨4, 1, true, pl (bsl (List.replicate 64 false))⟩))]) (os' := [(.o 8, some (.o ⟨3, 1, true, pl (isl ((find (regSet l) 65 0 (((cellsOf l).take k).foldl (joStep (regSet l)) jo0) (gC (cellsOf l) k)).2.2))⟩)), (.o 33, some (.o ⟨4, 1, true, pl (bsl (bitsL (find (regSet l) 65 0 (((cellsOf l).take k).foldl (joStep (regSet l)) jo0) (gC (cellsOf l) k)).2.1))⟩))]) (r := V.v (.bool ((find (regSet l) 65 0 (((cellsOf l).take k).foldl (joStep (regSet l)) jo0) (gC (cellsOf l) k)).1))) (bs := [.agg [(.slv l.length 1 (isl l) : A)], .a (.sl 8 0 ((List.replicate i (-1)).length)), .a (.sl 33 0 64), .agg ([(.int .i64 ((gC (cellsOf l) k).x) : Value), .int .i64 ((gC (cellsOf l) k).y)].map A.val)]) (keep := [8, 33]) (new := []) (dead := []) (ltN rfl) (FnO.ren' (spec_l09Find_fn 65 l 0 ((List.replicate i (-1)).length) 64 (List.replicate 64 false) (((cellsOf l).take k).foldl (joStep (regSet l)) jo0) (gC (cellsOf l) k) (by first | omega | assumption | exact regSet_lt ho | exact cell_in (by omega) | exact bitsL_zero | exact jo0_ok | decide | (simp; omega) | (simp; done) | (rw [popc_zero]; done)) (by first | omega | assumption | exact regSet_lt ho | exact cell_in (by omega) | exact bitsL_zero | exact jo0_ok | decide | (simp; omega) | (simp; done) | (rw [popc_zero]; done)) (by first | omega | assumption | exact regSet_lt ho | exact cell_in (by omega) | exact bitsL_zero | exact jo0_ok | decide | (simp; omega) | (simp; done) | (rw [popc_zero]; done)) (by first | omega | assumption | exact regSet_lt ho | exact cell_in (by omega) | exact bitsL_zero | exact jo0_ok | decide | (simp; omega) | (simp; done) | (rw [popc_zero]; done)) (by first | omega | assumption | exact regSet_lt ho | exact cell_in (by omega) | exact bitsL_zero | exact jo0_ok | decide | (simp; omega) | (simp; done) | (rw [popc_zero]; done)) (by first | omega | assumption | exact regSet_lt ho | exact cell_in (by omega) | exact bitsL_zero | exact jo0_ok | decide | (simp; omega) | (simp; done) | (rw [popc_zero]; done)) (by first | omega | assumption | exact regSet_lt ho | exact cell_in (by omega) | exact bitsL_zero | exact jo0_ok | decide | (simp; omega) | (simp; done) | (rw [popc_zero]; done)) (by first | omega | assumption | exact regSet_lt ho | exact cell_in (by omega) | exact bitsL_zero | exact jo0_ok | decide | (simp; omega) | (simp; done) | (rw [popc_zero]; done))) (subst1 [(1, 8), (2, 33)]) rfl rfl (by kernel_rfl) (by kernel_rfl) ⟨oc_pl (fun _ => rfl), oc_pl (fun _ => rfl), trivial⟩ (by kernel_rfl) rfl (by simp only [renS, Ob.ren, pl_ren, rws_ren_doms, rws_ren_ints, rws_ren_cels]; rfl) (by simp only [renS, Ob.ren, pl_ren, rws_ren_doms, rws_ren_ints, rws_ren_cels]; rfl) rfl rfl) (by kernel_rfl) ⟨oc_pl (fun _ => rfl), oc_pl (fun _ => rfl), trivial⟩ (by kernel_rfl) (ArgOs.cons (ArgO.slot 30 (.agg [(.slv l.length 1 (isl l) : A)])) (ArgOs.cons (ArgO.slot 31 (.a (.sl 8 0 ((List.replicate i (-1)).length)))) (ArgOs.cons (ArgO.slot 33 (.a (.sl 33 0 64))) (ArgOs.cons (ArgO.va (vs := [(.int .i64 ((gC (cellsOf l) k).x) : Value), .int .i64 ((gC (cellsOf l) k).y)]) (OpV.agg 37 [(.int .i64 ((gC (cellsOf l) k).x) : Value), .int .i64 ((gC (cellsOf l) k).y)])) (ArgOs.nil))))))) (AllSteps.nil)))))))))) (by kernel_rfl) (by kernel_rfl) (by kernel_rfl) ?_
        refine wp_region_t ?_
        refine wpc (step_plain rfl (acts_move (d := 23) (ltN rfl) (OpX.tmp 7 (V.v (.int .i64 ((k : Nat) : Int)))))) (by kernel_rfl) ?_
        refine wpc (step_plain rfl (acts_bin (d := 24) (ltN rfl) (OpV.tmp 23 (.int .i64 ((k : Nat) : Int))) (OpV.const (.int .i64 1)) (r_add (c := (((k : Nat) : Int) + 1)) (w64 (by first | omega | assumption | exact regSet_lt ho | exact cell_in (by omega) | exact bitsL_zero | exact jo0_ok | decide | (simp; omega) | (simp; done) | (rw [popc_zero]; done)) (by first | omega | assumption | exact regSet_lt ho | exact cell_in (by omega) | exact bitsL_zero | exact jo0_ok | decide | (simp; omega) | (simp; done) | (rw [popc_zero]; done)))))) (by kernel_rfl) ?_
        refine wpc (step_plain rfl (acts_assign (d := 7) (ltN rfl) (OpX.tmp 24 (V.v (.int .i64 (((k : Nat) : Int) + 1)))))) (by kernel_rfl) ?_
        refine wpl_nil ?_
        exact loop_back ((k + 1)) (by show _ ≤ _; omega) (by show (cellsOf l).length - (k + 1) < (cellsOf l).length - k; omega) (weak_of id [15, 16, 21, 29, 33, 38] (by kernel_rfl) (wk_s (v' := V.p 1 0) (by kernel_rfl) rfl rfl (wk_s (v' := V.v (.int .i64 64)) (by kernel_rfl) rfl rfl (wk_s (v' := V.b (.a (.sl 8 0 ((List.replicate i (-1)).length)))) (by kernel_rfl) rfl rfl (wk_s (v' := V.b (.a (.sl 18 0 ((cellsOf l).length)))) (by kernel_rfl) rfl rfl (wk_s (v' := V.v (.int .i64 (((k : Nat) : Int) + 1))) (by kernel_rfl) (vint (by first | rfl | (have e : i = 64 := by omega); subst e; rfl | (rw [foldl_snocJ _ _ (by omega), joStep, if_pos (by assumption)]; done) | (rw [foldl_snocJ _ _ (by omega), joStep, if_neg (by simp_all)]; done) | omega)) rfl (wk_o (o' := ⟨29, 1, true, [(.slv l.length 1 (isl l) : A)]⟩) (by kernel_rfl) (renob_l (fun h => h) rfl rfl) rfl (wk_o (o' := ⟨3, 1, true, pl (isl ((find (regSet l) 65 0 (((cellsOf l).take k).foldl (joStep (regSet l)) jo0) (gC (cellsOf l) k)).2.2))⟩) (by kernel_rfl) (renob_eq (fun h => h) (congrArg isl (by first | rfl | (have e : i = 64 := by omega); subst e; rfl | (rw [foldl_snocJ _ _ (by omega), joStep, if_pos (by assumption)]; done) | (rw [foldl_snocJ _ _ (by omega), joStep, if_neg (by simp_all)]; done) | omega))) rfl (wk_o (o' := ⟨49, 2, true, pl (csl (cellsOf l))⟩) (by kernel_rfl) (renob_pl (fun h => h)) rfl (wk_f rfl (wk_f rfl (wk_f rfl (wk_f rfl (wk_f rfl (wk_f rfl (wk_nil))))))))))))))))
      · skip
        refine wp_skip' ?_
        refine wp_region_t ?_
        refine wpc (step_plain rfl (acts_move (d := 23) (ltN rfl) (OpX.tmp 7 (V.v (.int .i64 ((k : Nat) : Int)))))) (by kernel_rfl) ?_
        refine wpc (step_plain rfl (acts_bin (d := 24) (ltN rfl) (OpV.tmp 23 (.int .i64 ((k : Nat) : Int))) (OpV.const (.int .i64 1)) (r_add (c := (((k : Nat) : Int) + 1)) (w64 (by first | omega | assumption | exact regSet_lt ho | exact cell_in (by omega) | exact bitsL_zero | exact jo0_ok | decide | (simp; omega) | (simp; done) | (rw [popc_zero]; done)) (by first | omega | assumption | exact regSet_lt ho | exact cell_in (by omega) | exact bitsL_zero | exact jo0_ok | decide | (simp; omega) | (simp; done) | (rw [popc_zero]; done)))))) (by kernel_rfl) ?_
        refine wpc (step_plain rfl (acts_assign (d := 7) (ltN rfl) (OpX.tmp 24 (V.v (.int .i64 (((k : Nat) : Int) + 1)))))) (by kernel_rfl) ?_
        refine wpl_nil ?_
        exact loop_back ((k + 1)) (by show _ ≤ _; omega) (by show (cellsOf l).length - (k + 1) < (cellsOf l).length - k; omega) (weak_of id [15, 16, 21, 29, 33, 38] (by kernel_rfl) (wk_s (v' := V.p 1 0) (by kernel_rfl) rfl rfl (wk_s (v' := V.v (.int .i64 64)) (by kernel_rfl) rfl rfl (wk_s (v' := V.b (.a (.sl 8 0 ((List.replicate i (-1)).length)))) (by kernel_rfl) rfl rfl (wk_s (v' := V.b (.a (.sl 18 0 ((cellsOf l).length)))) (by kernel_rfl) rfl rfl (wk_s (v' := V.v (.int .i64 (((k : Nat) : Int) + 1))) (by kernel_rfl) (vint (by first | rfl | (have e : i = 64 := by omega); subst e; rfl | (rw [foldl_snocJ _ _ (by omega), joStep, if_pos (by assumption)]; done) | (rw [foldl_snocJ _ _ (by omega), joStep, if_neg (by simp_all)]; done) | omega)) rfl (wk_o (o' := ⟨29, 1, true, [(.slv l.length 1 (isl l) : A)]⟩) (by kernel_rfl) (renob_l (fun h => h) rfl rfl) rfl (wk_o (o' := ⟨3, 1, true, pl (isl (((cellsOf l).take k).foldl (joStep (regSet l)) jo0))⟩) (by kernel_rfl) (renob_eq (fun h => h) (congrArg isl (by first | rfl | (have e : i = 64 := by omega); subst e; rfl | (rw [foldl_snocJ _ _ (by omega), joStep, if_pos (by assumption)]; done) | (rw [foldl_snocJ _ _ (by omega), joStep, if_neg (by simp_all)]; done) | omega))) rfl (wk_o (o' := ⟨49, 2, true, pl (csl (cellsOf l))⟩) (by kernel_rfl) (renob_pl (fun h => h)) rfl (wk_f rfl (wk_f rfl (wk_f rfl (wk_f rfl (wk_f rfl (wk_f rfl (wk_nil))))))))))))))))
    · skip
      have c4P := of_decide_eq_false c4
      refine wp_exit' ?_
      refine wp_seq' ?_
      refine wp_region_t ?_
      refine wpc (step_plain rfl (acts_move (d := 39) (ltN rfl) (OpX.tmp 4 (V.b (.a (.sl 8 0 ((List.replicate i (-1)).length))))))) (by kernel_rfl) ?_
      refine wpc (step_plain rfl (acts_assign (d := 2) (ltN rfl) (OpX.tmp 39 (V.b (.a (.sl 8 0 ((List.replicate i (-1)).length))))))) (by kernel_rfl) ?_
      refine wpl_nil ?_
      refine wp_ret' ?_
      exact VRes.tmp 2 (.a (.sl 8 0 ((List.replicate i (-1)).length))) _ (by kernel_rfl) (brow_ints (h := 8) (L := (((cellsOf l).take k).foldl (joStep (regSet l)) jo0)) (by kernel_rfl) (by (have e : k = (cellsOf l).length := by omega); subst e; rw [List.take_length, hce]; rfl) (by first | rfl | (simp; done) | (simp; omega)))

set_option maxHeartbeats 4000000 in
set_option maxRecDepth 100000 in
theorem impl_DominoOver_fn (a b : Cel) : Fn Try.prog 56 [.agg ([(.int .i64 a.x : Value), .int .i64 a.y].map A.val), .agg ([(.int .i64 b.x : Value), .int .i64 b.y].map A.val)] [.val (.agg ([.int .i64 (dOv a b).x, .int .i64 (dOv a b).y, .bool (dOv a b).d] : List Value).toArray), .val (.bool (nbr a b))] := by
  refine fn_intro (N := 27) Try.func56 rfl (by kernel_rfl) rfl (Nat.le_of_ble_eq_true rfl) [2, 3, 4, 8, 15, 20] (ret2 rfl rfl (by intro u hu; injection hu with hu; subst hu; rfl)) (fun W => ?_)
  show Wp _ _ _ [(.s 0, some (.s (V.av [(.int .i64 a.x : Value), .int .i64 a.y]))), (.s 1, some (.s (V.av [(.int .i64 b.x : Value), .int .i64 b.y]))), (.o 2, some .free), (.o 3, some .free), (.o 4, some .free), (.o 8, some .free), (.o 15, some .free), (.o 20, some .free)]
  refine wp_seq' ?_
  refine wp_region_t ?_
  refine wpc (step_plain rfl (acts_box (d := 2) (h := 2) (b := .agg ([(.int .i64 a.x : Value), .int .i64 a.y].map A.val)) (ltN rfl) (OpX.tmp 0 (V.av [(.int .i64 a.x : Value), .int .i64 a.y])) (by intro y hy; simp [B.cs] at hy; rcases hy with rfl | rfl <;> rfl))) (by kernel_rfl) ?_
  refine wpc (step_plain rfl (acts_box (d := 3) (h := 3) (b := .agg ([(.int .i64 b.x : Value), .int .i64 b.y].map A.val)) (ltN rfl) (OpX.tmp 1 (V.av [(.int .i64 b.x : Value), .int .i64 b.y])) (by intro y hy; simp [B.cs] at hy; rcases hy with rfl | rfl <;> rfl))) (by kernel_rfl) ?_
  refine wpc (step_plain rfl (acts_alloc' (d := 4) (h := 4) (cap := 1) (s := 3) (cells := [(.val (.int .i64 0) : A), .val (.int .i64 0), .val (.bool false)]) (ltN rfl) qC7_zi_52 rfl rfl (by decide))) (by kernel_rfl) ?_
  refine wpc (step_plain rfl (acts_assign (d := 5) (ltN rfl) (OpX.const (.bool false)))) (by kernel_rfl) ?_
  refine wpl_nil ?_
  refine wp_seq' ?_
  refine wp_seq' ?_
  refine wp_region_t ?_
  refine wpc (step_plain rfl (acts_load_owns (d := 6) (t := 2) (h := 2) (off := 0) (o := ⟨49, 2, true, [(.val (.int .i64 a.x) : A), .val (.int .i64 a.y)]⟩)  (xs := [(.int .i64 a.x : Value), .int .i64 a.y].map A.val) (ltN rfl) qC7_ti_49 rfl (by decide) rfl)) (by kernel_rfl) ?_
  refine wpc (step_plain rfl (acts_load_owns (d := 7) (t := 3) (h := 3) (off := 0) (o := ⟨49, 2, true, [(.val (.int .i64 b.x) : A), .val (.int .i64 b.y)]⟩)  (xs := [(.int .i64 b.x : Value), .int .i64 b.y].map A.val) (ltN rfl) qC7_ti_49 rfl (by decide) rfl)) (by kernel_rfl) ?_
  refine wpc (step_plain rfl (acts_call1 (d := 8) (ltN rfl) (impl_AreNeighbors_fn a b ) (ArgVs.cons (ArgV.va (vs := [(.int .i64 a.x : Value), .int .i64 a.y]) (OpV.agg 6 [(.int .i64 a.x : Value), .int .i64 a.y])) (ArgVs.cons (ArgV.va (vs := [(.int .i64 b.x : Value), .int .i64 b.y]) (OpV.agg 7 [(.int .i64 b.x : Value), .int .i64 b.y])) (ArgVs.nil))) (ResV.val _))) (by kernel_rfl) ?_
  refine wpc (step_plain rfl (acts_un (d := 9) (ltN rfl) (OpV.tmp 8 (.bool (nbr a b))) (r_not (c := (!(nbr a b))) rfl))) (by kernel_rfl) ?_
  refine wpl_nil ?_
  refine wp_if (t := 9) ((!(nbr a b))) (by kernel_rfl) (fun c1 => ?_) (fun c1 => ?_)
  · skip
    have c2 : (nbr a b) = false := by simpa using c1
    refine wp_seq' ?_
    refine wp_region_t ?_
    refine wpc (step_plain rfl (acts_build (d := 10) (t := 52) (cells := [(.int .i64 0 : Value), .int .i64 0, .bool false]) (ltN rfl) (OpVs.nil) rfl)) (by kernel_rfl) ?_
    refine wpc (step_plain rfl (acts_store (t := 4) (h := 4) (off := 0) (o := ⟨52, 3, true, [(.val (.int .i64 0) : A), .val (.int .i64 0), .val (.bool false)]⟩) (b := .agg ([(.int .i64 0 : Value), .int .i64 0, .bool false].map A.val)) (cells := [(.val (.int .i64 0) : A), .val (.int .i64 0), .val (.bool false)]) qC7_ti_52 (OpX.tmp 10 (V.av [(.int .i64 0 : Value), .int .i64 0, .bool false])) rfl (by decide) (by intro y hy; simp [B.cs] at hy; rcases hy with rfl | rfl | rfl <;> rfl) (Nat.le_of_ble_eq_true rfl) rfl)) (by kernel_rfl) ?_
    refine wpc (step_plain rfl (acts_assign (d := 5) (ltN rfl) (OpX.const (.bool false)))) (by kernel_rfl) ?_
    refine wpl_nil ?_
    refine wp_ret' ?_
    exact ⟨VRes.cells 4 52 4 ⟨52, 3, true, [(.val (.int .i64 0) : A), .val (.int .i64 0), .val (.bool false)]⟩ _ (by kernel_rfl) (by kernel_rfl) qC7_ti_52 (Nat.le_of_ble_eq_true rfl) (bagg (vs := [(.int .i64 0 : Value), .int .i64 0, .bool false]) (by simp_all [dOv])), VRes.tmp 5 (.a (.val (.bool false))) _ (by kernel_rfl) (bval (congrArg Value.bool (by simp_all [dOv])))⟩
  · skip
    have c3 : (nbr a b) = true := by simpa using c1
    refine wp_skip' ?_
    refine wp_seq' ?_
    refine wp_region_t ?_
    refine wpc (step_plain rfl (acts_field (d := 11) (t := 2) (h := 2) (off := 0) (off' := 0) (ltN rfl) qC7_fo_49_0 rfl)) (by kernel_rfl) ?_
    refine wpc (step_plain rfl (acts_load_own (d := 12) (t := 11) (h := 2) (off := 0) (o := ⟨49, 2, true, [(.val (.int .i64 a.x) : A), .val (.int .i64 a.y)]⟩)  (x := .val (.int .i64 a.x)) (ltN rfl) qC7_ti_3 rfl)) (by kernel_rfl) ?_
    refine wpc (step_plain rfl (acts_field (d := 13) (t := 3) (h := 3) (off := 0) (off' := 0) (ltN rfl) qC7_fo_49_0 rfl)) (by kernel_rfl) ?_
    refine wpc (step_plain rfl (acts_load_own (d := 14) (t := 13) (h := 3) (off := 0) (o := ⟨49, 2, true, [(.val (.int .i64 b.x) : A), .val (.int .i64 b.y)]⟩)  (x := .val (.int .i64 b.x)) (ltN rfl) qC7_ti_3 rfl)) (by kernel_rfl) ?_
    refine wpc (step_plain rfl (acts_min (d := 15) (c := (min a.x b.x)) (ltN rfl) (OpV.tmp 12 (.int .i64 a.x)) (OpV.tmp 14 (.int .i64 b.x)) (by omega))) (by kernel_rfl) ?_
    refine wpc (step_plain rfl (acts_field (d := 16) (t := 2) (h := 2) (off := 0) (off' := 1) (ltN rfl) qC7_fo_49_1 rfl)) (by kernel_rfl) ?_
    refine wpc (step_plain rfl (acts_load_own (d := 17) (t := 16) (h := 2) (off := 1) (o := ⟨49, 2, true, [(.val (.int .i64 a.x) : A), .val (.int .i64 a.y)]⟩)  (x := .val (.int .i64 a.y)) (ltN rfl) qC7_ti_3 rfl)) (by kernel_rfl) ?_
    refine wpc (step_plain rfl (acts_field (d := 18) (t := 3) (h := 3) (off := 0) (off' := 1) (ltN rfl) qC7_fo_49_1 rfl)) (by kernel_rfl) ?_
    refine wpc (step_plain rfl (acts_load_own (d := 19) (t := 18) (h := 3) (off := 1) (o := ⟨49, 2, true, [(.val (.int .i64 b.x) : A), .val (.int .i64 b.y)]⟩)  (x := .val (.int .i64 b.y)) (ltN rfl) qC7_ti_3 rfl)) (by kernel_rfl) ?_
    refine wpc (step_plain rfl (acts_min (d := 20) (c := (min a.y b.y)) (ltN rfl) (OpV.tmp 17 (.int .i64 a.y)) (OpV.tmp 19 (.int .i64 b.y)) (by omega))) (by kernel_rfl) ?_
    refine wpc (step_plain rfl (acts_field (d := 21) (t := 2) (h := 2) (off := 0) (off' := 0) (ltN rfl) qC7_fo_49_0 rfl)) (by kernel_rfl) ?_
    refine wpc (step_plain rfl (acts_load_own (d := 22) (t := 21) (h := 2) (off := 0) (o := ⟨49, 2, true, [(.val (.int .i64 a.x) : A), .val (.int .i64 a.y)]⟩)  (x := .val (.int .i64 a.x)) (ltN rfl) qC7_ti_3 rfl)) (by kernel_rfl) ?_
    refine wpc (step_plain rfl (acts_field (d := 23) (t := 3) (h := 3) (off := 0) (off' := 0) (ltN rfl) qC7_fo_49_0 rfl)) (by kernel_rfl) ?_
    refine wpc (step_plain rfl (acts_load_own (d := 24) (t := 23) (h := 3) (off := 0) (o := ⟨49, 2, true, [(.val (.int .i64 b.x) : A), .val (.int .i64 b.y)]⟩)  (x := .val (.int .i64 b.x)) (ltN rfl) qC7_ti_3 rfl)) (by kernel_rfl) ?_
    refine wpc (step_plain rfl (acts_bin (d := 25) (ltN rfl) (OpV.tmp 22 (.int .i64 a.x)) (OpV.tmp 24 (.int .i64 b.x)) (r_eql (c := (decide (a.x = b.x))) rfl))) (by kernel_rfl) ?_
    refine wpc (step_plain rfl (acts_build (d := 26) (t := 52) (cells := [(.int .i64 (min a.x b.x) : Value), .int .i64 (min a.y b.y), .bool (decide (a.x = b.x))]) (ltN rfl) (OpVs.cons (i := 0) (OpV.tmp 15 (.int .i64 (min a.x b.x))) (OpVs.cons (i := 1) (OpV.tmp 20 (.int .i64 (min a.y b.y))) (OpVs.cons (i := 2) (OpV.tmp 25 (.bool (decide (a.x = b.x)))) (OpVs.nil)))) rfl)) (by kernel_rfl) ?_
    refine wpc (step_plain rfl (acts_store (t := 4) (h := 4) (off := 0) (o := ⟨52, 3, true, [(.val (.int .i64 0) : A), .val (.int .i64 0), .val (.bool false)]⟩) (b := .agg ([(.int .i64 (min a.x b.x) : Value), .int .i64 (min a.y b.y), .bool (decide (a.x = b.x))].map A.val)) (cells := [(.val (.int .i64 (min a.x b.x)) : A), .val (.int .i64 (min a.y b.y)), .val (.bool (decide (a.x = b.x)))]) qC7_ti_52 (OpX.tmp 26 (V.av [(.int .i64 (min a.x b.x) : Value), .int .i64 (min a.y b.y), .bool (decide (a.x = b.x))])) rfl (by decide) (by intro y hy; simp [B.cs] at hy; rcases hy with rfl | rfl | rfl <;> rfl) (Nat.le_of_ble_eq_true rfl) rfl)) (by kernel_rfl) ?_
    refine wpc (step_plain rfl (acts_assign (d := 5) (ltN rfl) (OpX.const (.bool true)))) (by kernel_rfl) ?_
    refine wpl_nil ?_
    refine wp_ret' ?_
    exact ⟨VRes.cells 4 52 4 ⟨52, 3, true, [(.val (.int .i64 (min a.x b.x)) : A), .val (.int .i64 (min a.y b.y)), .val (.bool (decide (a.x = b.x)))]⟩ _ (by kernel_rfl) (by kernel_rfl) qC7_ti_52 (Nat.le_of_ble_eq_true rfl) (bagg (vs := [(.int .i64 (min a.x b.x) : Value), .int .i64 (min a.y b.y), .bool (decide (a.x = b.x))]) (by simp_all [dOv])), VRes.tmp 5 (.a (.val (.bool true))) _ (by kernel_rfl) (bval (congrArg Value.bool (by simp_all [dOv])))⟩

set_option maxHeartbeats 4000000 in
set_option maxRecDepth 100000 in
theorem spec_DominoOver_fn (a b : Cel) : Fn Try.prog 53 [.agg ([(.int .i64 a.x : Value), .int .i64 a.y].map A.val), .agg ([(.int .i64 b.x : Value), .int .i64 b.y].map A.val)] [.val (.agg ([.int .i64 (dOv a b).x, .int .i64 (dOv a b).y, .bool (dOv a b).d] : List Value).toArray), .val (.bool (nbr a b))] := by
  refine fn_intro (N := 27) Try.func53 rfl (by kernel_rfl) rfl (Nat.le_of_ble_eq_true rfl) [2, 3, 4, 8, 15, 20] (ret2 rfl rfl (by intro u hu; injection hu with hu; subst hu; rfl)) (fun W => ?_)
  show Wp _ _ _ [(.s 0, some (.s (V.av [(.int .i64 a.x : Value), .int .i64 a.y]))), (.s 1, some (.s (V.av [(.int .i64 b.x : Value), .int .i64 b.y]))), (.o 2, some .free), (.o 3, some .free), (.o 4, some .free), (.o 8, some .free), (.o 15, some .free), (.o 20, some .free)]
  refine wp_seq' ?_
  refine wp_region_t ?_
  refine wpc (step_plain rfl (acts_box (d := 2) (h := 2) (b := .agg ([(.int .i64 a.x : Value), .int .i64 a.y].map A.val)) (ltN rfl) (OpX.tmp 0 (V.av [(.int .i64 a.x : Value), .int .i64 a.y])) (by intro y hy; simp [B.cs] at hy; rcases hy with rfl | rfl <;> rfl))) (by kernel_rfl) ?_
  refine wpc (step_plain rfl (acts_box (d := 3) (h := 3) (b := .agg ([(.int .i64 b.x : Value), .int .i64 b.y].map A.val)) (ltN rfl) (OpX.tmp 1 (V.av [(.int .i64 b.x : Value), .int .i64 b.y])) (by intro y hy; simp [B.cs] at hy; rcases hy with rfl | rfl <;> rfl))) (by kernel_rfl) ?_
  refine wpc (step_plain rfl (acts_alloc' (d := 4) (h := 4) (cap := 1) (s := 3) (cells := [(.val (.int .i64 0) : A), .val (.int .i64 0), .val (.bool false)]) (ltN rfl) qC7_zi_52 rfl rfl (by decide))) (by kernel_rfl) ?_
  refine wpc (step_plain rfl (acts_assign (d := 5) (ltN rfl) (OpX.const (.bool false)))) (by kernel_rfl) ?_
  refine wpl_nil ?_
  refine wp_seq' ?_
  refine wp_seq' ?_
  refine wp_region_t ?_
  refine wpc (step_plain rfl (acts_load_owns (d := 6) (t := 2) (h := 2) (off := 0) (o := ⟨49, 2, true, [(.val (.int .i64 a.x) : A), .val (.int .i64 a.y)]⟩)  (xs := [(.int .i64 a.x : Value), .int .i64 a.y].map A.val) (ltN rfl) qC7_ti_49 rfl (by decide) rfl)) (by kernel_rfl) ?_
  refine wpc (step_plain rfl (acts_load_owns (d := 7) (t := 3) (h := 3) (off := 0) (o := ⟨49, 2, true, [(.val (.int .i64 b.x) : A), .val (.int .i64 b.y)]⟩)  (xs := [(.int .i64 b.x : Value), .int .i64 b.y].map A.val) (ltN rfl) qC7_ti_49 rfl (by decide) rfl)) (by kernel_rfl) ?_
  refine wpc (step_plain rfl (acts_call1 (d := 8) (ltN rfl) (spec_AreNeighbors_fn a b ) (ArgVs.cons (ArgV.va (vs := [(.int .i64 a.x : Value), .int .i64 a.y]) (OpV.agg 6 [(.int .i64 a.x : Value), .int .i64 a.y])) (ArgVs.cons (ArgV.va (vs := [(.int .i64 b.x : Value), .int .i64 b.y]) (OpV.agg 7 [(.int .i64 b.x : Value), .int .i64 b.y])) (ArgVs.nil))) (ResV.val _))) (by kernel_rfl) ?_
  refine wpc (step_plain rfl (acts_un (d := 9) (ltN rfl) (OpV.tmp 8 (.bool (nbr a b))) (r_not (c := (!(nbr a b))) rfl))) (by kernel_rfl) ?_
  refine wpl_nil ?_
  refine wp_if (t := 9) ((!(nbr a b))) (by kernel_rfl) (fun c1 => ?_) (fun c1 => ?_)
  · skip
    have c2 : (nbr a b) = false := by simpa using c1
    refine wp_seq' ?_
    refine wp_region_t ?_
    refine wpc (step_plain rfl (acts_build (d := 10) (t := 52) (cells := [(.int .i64 0 : Value), .int .i64 0, .bool false]) (ltN rfl) (OpVs.nil) rfl)) (by kernel_rfl) ?_
    refine wpc (step_plain rfl (acts_store (t := 4) (h := 4) (off := 0) (o := ⟨52, 3, true, [(.val (.int .i64 0) : A), .val (.int .i64 0), .val (.bool false)]⟩) (b := .agg ([(.int .i64 0 : Value), .int .i64 0, .bool false].map A.val)) (cells := [(.val (.int .i64 0) : A), .val (.int .i64 0), .val (.bool false)]) qC7_ti_52 (OpX.tmp 10 (V.av [(.int .i64 0 : Value), .int .i64 0, .bool false])) rfl (by decide) (by intro y hy; simp [B.cs] at hy; rcases hy with rfl | rfl | rfl <;> rfl) (Nat.le_of_ble_eq_true rfl) rfl)) (by kernel_rfl) ?_
    refine wpc (step_plain rfl (acts_assign (d := 5) (ltN rfl) (OpX.const (.bool false)))) (by kernel_rfl) ?_
    refine wpl_nil ?_
    refine wp_ret' ?_
    exact ⟨VRes.cells 4 52 4 ⟨52, 3, true, [(.val (.int .i64 0) : A), .val (.int .i64 0), .val (.bool false)]⟩ _ (by kernel_rfl) (by kernel_rfl) qC7_ti_52 (Nat.le_of_ble_eq_true rfl) (bagg (vs := [(.int .i64 0 : Value), .int .i64 0, .bool false]) (by simp_all [dOv])), VRes.tmp 5 (.a (.val (.bool false))) _ (by kernel_rfl) (bval (congrArg Value.bool (by simp_all [dOv])))⟩
  · skip
    have c3 : (nbr a b) = true := by simpa using c1
    refine wp_skip' ?_
    refine wp_seq' ?_
    refine wp_region_t ?_
    refine wpc (step_plain rfl (acts_field (d := 11) (t := 2) (h := 2) (off := 0) (off' := 0) (ltN rfl) qC7_fo_49_0 rfl)) (by kernel_rfl) ?_
    refine wpc (step_plain rfl (acts_load_own (d := 12) (t := 11) (h := 2) (off := 0) (o := ⟨49, 2, true, [(.val (.int .i64 a.x) : A), .val (.int .i64 a.y)]⟩)  (x := .val (.int .i64 a.x)) (ltN rfl) qC7_ti_3 rfl)) (by kernel_rfl) ?_
    refine wpc (step_plain rfl (acts_field (d := 13) (t := 3) (h := 3) (off := 0) (off' := 0) (ltN rfl) qC7_fo_49_0 rfl)) (by kernel_rfl) ?_
    refine wpc (step_plain rfl (acts_load_own (d := 14) (t := 13) (h := 3) (off := 0) (o := ⟨49, 2, true, [(.val (.int .i64 b.x) : A), .val (.int .i64 b.y)]⟩)  (x := .val (.int .i64 b.x)) (ltN rfl) qC7_ti_3 rfl)) (by kernel_rfl) ?_
    refine wpc (step_plain rfl (acts_min (d := 15) (c := (min a.x b.x)) (ltN rfl) (OpV.tmp 12 (.int .i64 a.x)) (OpV.tmp 14 (.int .i64 b.x)) (by omega))) (by kernel_rfl) ?_
    refine wpc (step_plain rfl (acts_field (d := 16) (t := 2) (h := 2) (off := 0) (off' := 1) (ltN rfl) qC7_fo_49_1 rfl)) (by kernel_rfl) ?_
    refine wpc (step_plain rfl (acts_load_own (d := 17) (t := 16) (h := 2) (off := 1) (o := ⟨49, 2, true, [(.val (.int .i64 a.x) : A), .val (.int .i64 a.y)]⟩)  (x := .val (.int .i64 a.y)) (ltN rfl) qC7_ti_3 rfl)) (by kernel_rfl) ?_
    refine wpc (step_plain rfl (acts_field (d := 18) (t := 3) (h := 3) (off := 0) (off' := 1) (ltN rfl) qC7_fo_49_1 rfl)) (by kernel_rfl) ?_
    refine wpc (step_plain rfl (acts_load_own (d := 19) (t := 18) (h := 3) (off := 1) (o := ⟨49, 2, true, [(.val (.int .i64 b.x) : A), .val (.int .i64 b.y)]⟩)  (x := .val (.int .i64 b.y)) (ltN rfl) qC7_ti_3 rfl)) (by kernel_rfl) ?_
    refine wpc (step_plain rfl (acts_min (d := 20) (c := (min a.y b.y)) (ltN rfl) (OpV.tmp 17 (.int .i64 a.y)) (OpV.tmp 19 (.int .i64 b.y)) (by omega))) (by kernel_rfl) ?_
    refine wpc (step_plain rfl (acts_field (d := 21) (t := 2) (h := 2) (off := 0) (off' := 0) (ltN rfl) qC7_fo_49_0 rfl)) (by kernel_rfl) ?_
    refine wpc (step_plain rfl (acts_load_own (d := 22) (t := 21) (h := 2) (off := 0) (o := ⟨49, 2, true, [(.val (.int .i64 a.x) : A), .val (.int .i64 a.y)]⟩)  (x := .val (.int .i64 a.x)) (ltN rfl) qC7_ti_3 rfl)) (by kernel_rfl) ?_
    refine wpc (step_plain rfl (acts_field (d := 23) (t := 3) (h := 3) (off := 0) (off' := 0) (ltN rfl) qC7_fo_49_0 rfl)) (by kernel_rfl) ?_
    refine wpc (step_plain rfl (acts_load_own (d := 24) (t := 23) (h := 3) (off := 0) (o := ⟨49, 2, true, [(.val (.int .i64 b.x) : A), .val (.int .i64 b.y)]⟩)  (x := .val (.int .i64 b.x)) (ltN rfl) qC7_ti_3 rfl)) (by kernel_rfl) ?_
    refine wpc (step_plain rfl (acts_bin (d := 25) (ltN rfl) (OpV.tmp 22 (.int .i64 a.x)) (OpV.tmp 24 (.int .i64 b.x)) (r_eql (c := (decide (a.x = b.x))) rfl))) (by kernel_rfl) ?_
    refine wpc (step_plain rfl (acts_build (d := 26) (t := 52) (cells := [(.int .i64 (min a.x b.x) : Value), .int .i64 (min a.y b.y), .bool (decide (a.x = b.x))]) (ltN rfl) (OpVs.cons (i := 0) (OpV.tmp 15 (.int .i64 (min a.x b.x))) (OpVs.cons (i := 1) (OpV.tmp 20 (.int .i64 (min a.y b.y))) (OpVs.cons (i := 2) (OpV.tmp 25 (.bool (decide (a.x = b.x)))) (OpVs.nil)))) rfl)) (by kernel_rfl) ?_
    refine wpc (step_plain rfl (acts_store (t := 4) (h := 4) (off := 0) (o := ⟨52, 3, true, [(.val (.int .i64 0) : A), .val (.int .i64 0), .val (.bool false)]⟩) (b := .agg ([(.int .i64 (min a.x b.x) : Value), .int .i64 (min a.y b.y), .bool (decide (a.x = b.x))].map A.val)) (cells := [(.val (.int .i64 (min a.x b.x)) : A), .val (.int .i64 (min a.y b.y)), .val (.bool (decide (a.x = b.x)))]) qC7_ti_52 (OpX.tmp 26 (V.av [(.int .i64 (min a.x b.x) : Value), .int .i64 (min a.y b.y), .bool (decide (a.x = b.x))])) rfl (by decide) (by intro y hy; simp [B.cs] at hy; rcases hy with rfl | rfl | rfl <;> rfl) (Nat.le_of_ble_eq_true rfl) rfl)) (by kernel_rfl) ?_
    refine wpc (step_plain rfl (acts_assign (d := 5) (ltN rfl) (OpX.const (.bool true)))) (by kernel_rfl) ?_
    refine wpl_nil ?_
    refine wp_ret' ?_
    exact ⟨VRes.cells 4 52 4 ⟨52, 3, true, [(.val (.int .i64 (min a.x b.x)) : A), .val (.int .i64 (min a.y b.y)), .val (.bool (decide (a.x = b.x)))]⟩ _ (by kernel_rfl) (by kernel_rfl) qC7_ti_52 (Nat.le_of_ble_eq_true rfl) (bagg (vs := [(.int .i64 (min a.x b.x) : Value), .int .i64 (min a.y b.y), .bool (decide (a.x = b.x))]) (by simp_all [dOv])), VRes.tmp 5 (.a (.val (.bool true))) _ (by kernel_rfl) (bval (congrArg Value.bool (by simp_all [dOv])))⟩

set_option maxHeartbeats 4000000 in
set_option maxRecDepth 100000 in
theorem impl_indexOf_fn (l : List Int) (n : Int) (hl : l.length ≤ 4194304) : Fn Try.prog 64 [.a (.slv l.length 1 (isl l)), .a (.val (.int .i64 n))] [.val (.int .i64 (posI l n))] := by
  refine fn_intro (N := 19) Try.func64 rfl (by kernel_rfl) rfl (Nat.le_of_ble_eq_true rfl) [8] (ret1 rfl) (fun W => ?_)
  show Wp _ _ _ [(.s 0, some (.s (V.b (.a (.slv l.length 1 (isl l)))))), (.s 1, some (.s (V.v (.int .i64 n)))), (.o 8, some .free)]
  refine wp_seq' ?_
  refine wp_region_t ?_
  refine wpc (step_plain rfl (acts_assign (d := 4) (ltN rfl) (OpX.const (.int .i64 0)))) (by kernel_rfl) ?_
  refine wpl_nil ?_
  refine wp_seq' ?_
  refine wp_seq' ?_
  refine wp_region_t ?_
  refine wpc (step_plain rfl (acts_move (d := 7) (ltN rfl) (OpX.tmp 0 (V.b (.a (.slv l.length 1 (isl l))))))) (by kernel_rfl) ?_
  refine wpc (step_plain rfl (acts_len (d := 8) (X := .slv l.length 1 (isl l)) (n := l.length) (iv := ((l.length : Nat) : Int)) (ltN rfl) qC7_un_22 (OpX.tmp 7 (V.b (.a (.slv l.length 1 (isl l))))) (LenOf.slv _ _ _) rfl)) (by kernel_rfl) ?_
  refine wpc (step_plain rfl (acts_move (d := 9) (ltN rfl) (OpX.const (.int .i64 0)))) (by kernel_rfl) ?_
  refine wpl_nil ?_
  refine wp_block' ?_
  refine wp_loop' (fun (k : Nat) => k ≤ l.length ∧ n ∉ l.take k) (fun (k : Nat) => [(.s 1, some (.s (V.v (.int .i64 n)))), (.s 7, some (.s (V.b (.a (.slv l.length 1 (isl l)))))), (.s 8, some (.s (V.v (.int .i64 ((l.length : Nat) : Int))))), (.s 9, some (.s (V.v (.int .i64 ((k : Nat) : Int))))), (.o 8, some .free)]) (fun (k : Nat) => l.length - k) ((0 : Nat)) (by exact ⟨Nat.zero_le _, by simp⟩) (weak_of id [8] (by kernel_rfl) (wk_s (v' := V.v (.int .i64 n)) (by kernel_rfl) rfl rfl (wk_s (v' := V.b (.a (.slv l.length 1 (isl l)))) (by kernel_rfl) rfl rfl (wk_s (v' := V.v (.int .i64 ((l.length : Nat) : Int))) (by kernel_rfl) rfl rfl (wk_s (v' := V.v (.int .i64 0)) (by kernel_rfl) (vint (by first | rfl | omega | (simp; done) | (simp; omega))) rfl (wk_f rfl (wk_nil))))))) ?_
  rintro k inv1
  replace inv1 : k ≤ l.length ∧ n ∉ l.take k := inv1
  obtain ⟨inv1_0, inv1_1⟩ := inv1
  show Wp _ _ _ [(.s 1, some (.s (V.v (.int .i64 n)))), (.s 7, some (.s (V.b (.a (.slv l.length 1 (isl l)))))), (.s 8, some (.s (V.v (.int .i64 ((l.length : Nat) : Int))))), (.s 9, some (.s (V.v (.int .i64 ((k : Nat) : Int))))), (.o 8, some .free)]
  refine wp_seq' ?_
  refine wp_region_t ?_
  refine wpc (step_plain rfl (acts_bin (d := 10) (ltN rfl) (OpV.tmp 9 (.int .i64 ((k : Nat) : Int))) (OpV.tmp 8 (.int .i64 ((l.length : Nat) : Int))) (r_lss (c := (decide (((k : Nat) : Int) < ((l.length : Nat) : Int)))) rfl))) (by kernel_rfl) ?_
  refine wpl_nil ?_
  refine wp_seq' ?_
  refine wp_if (t := 10) (decide (((k : Nat) : Int) < ((l.length : Nat) : Int))) (by kernel_rfl) (fun c2 => ?_) (fun c2 => ?_)
  · skip
    have c2P := of_decide_eq_true c2
    refine wp_skip' ?_
    refine wp_seq' ?_
    refine wp_block' ?_
    refine wp_seq' ?_
    refine wp_region_t ?_
    refine wpc (step_plain rfl (acts_move (d := 11) (ltN rfl) (OpX.tmp 9 (V.v (.int .i64 ((k : Nat) : Int)))))) (by kernel_rfl) ?_
    refine wpc (step_plain rfl (acts_index_v (d := 12) (x := 7) (n := l.length) (s := 1) (k := k) (xs := isl l) (ltN rfl) qC7_un_22 qC7_sz_3 (OpV.tmp 9 (.int .i64 ((k : Nat) : Int))) rfl (by omega))) (by kernel_rfl) ?_
    refine wpc (step_plain rfl (acts_load_v (d := 13) (t := 12) (s := 1) (off := (k * 1)) (xs := isl l)  (v := .int .i64 (gI l k)) (ltN rfl) qC7_ti_3 (isl_get1 (k := k) (by omega)))) (by kernel_rfl) ?_
    refine wpc (step_plain rfl (acts_assign (d := 5) (ltN rfl) (OpX.tmp 11 (V.v (.int .i64 ((k : Nat) : Int)))))) (by kernel_rfl) ?_
    refine wpc (step_plain rfl (acts_assign (d := 6) (ltN rfl) (OpX.tmp 13 (V.v (.int .i64 (gI l k)))))) (by kernel_rfl) ?_
    refine wpl_nil ?_
    refine wp_seq' ?_
    refine wp_region_t ?_
    refine wpc (step_plain rfl (acts_move (d := 14) (ltN rfl) (OpX.tmp 6 (V.v (.int .i64 (gI l k)))))) (by kernel_rfl) ?_
    refine wpc (step_plain rfl (acts_move (d := 15) (ltN rfl) (OpX.tmp 1 (V.v (.int .i64 n))))) (by kernel_rfl) ?_
    refine wpc (step_plain rfl (acts_bin (d := 16) (ltN rfl) (OpV.tmp 14 (.int .i64 (gI l k))) (OpV.tmp 15 (.int .i64 n)) (r_eql (c := (decide ((gI l k) = n))) rfl))) (by kernel_rfl) ?_
    refine wpl_nil ?_
    refine wp_if (t := 16) (decide ((gI l k) = n)) (by kernel_rfl) (fun c3 => ?_) (fun c3 => ?_)
    · skip
      have c3P := of_decide_eq_true c3
      refine wp_seq' ?_
      refine wp_region_t ?_
      refine wpc (step_plain rfl (acts_move (d := 17) (ltN rfl) (OpX.tmp 5 (V.v (.int .i64 ((k : Nat) : Int)))))) (by kernel_rfl) ?_
      refine wpc (step_plain rfl (acts_assign (d := 4) (ltN rfl) (OpX.tmp 17 (V.v (.int .i64 ((k : Nat) : Int)))))) (by kernel_rfl) ?_
      refine wpl_nil ?_
      refine wp_ret' ?_
      exact VRes.tmp 4 (.a (.val (.int .i64 ((k : Nat) : Int)))) _ (by kernel_rfl) (bval (congrArg (Value.int .i64) (by exact posI_yes (by omega) (by assumption) (by assumption))))
    · skip
      have c3P := of_decide_eq_false c3
      refine wp_skip' ?_
      refine wp_region_t ?_
      refine wpc (step_plain rfl (acts_bin (d := 18) (ltN rfl) (OpV.tmp 9 (.int .i64 ((k : Nat) : Int))) (OpV.const (.int .i64 1)) (r_add (c := (((k : Nat) : Int) + 1)) (w64 (by omega) (by omega))))) (by kernel_rfl) ?_
      refine wpc (step_plain rfl (acts_move (d := 9) (ltN rfl) (OpX.tmp 18 (V.v (.int .i64 (((k : Nat) : Int) + 1)))))) (by kernel_rfl) ?_
      refine wpl_nil ?_
      exact loop_back ((k + 1)) (by exact ⟨by omega, notin_snoc (by omega) (by assumption) (by assumption)⟩) (by show l.length - (k + 1) < l.length - k; omega) (weak_of id [8] (by kernel_rfl) (wk_s (v' := V.v (.int .i64 n)) (by kernel_rfl) rfl rfl (wk_s (v' := V.b (.a (.slv l.length 1 (isl l)))) (by kernel_rfl) rfl rfl (wk_s (v' := V.v (.int .i64 ((l.length : Nat) : Int))) (by kernel_rfl) rfl rfl (wk_s (v' := V.v (.int .i64 (((k : Nat) : Int) + 1))) (by kernel_rfl) (vint (by first | rfl | omega | (simp; done) | (simp; omega))) rfl (wk_f rfl (wk_nil)))))))
  · skip
    have c2P := of_decide_eq_false c2
    refine wp_exit' ?_
    refine wp_seq' ?_
    refine wp_region_t ?_
    refine wpc (step_plain rfl (acts_assign (d := 4) (ltN rfl) (OpX.const (.int .i64 (-1))))) (by kernel_rfl) ?_
    refine wpl_nil ?_
    refine wp_ret' ?_
    exact VRes.tmp 4 (.a (.val (.int .i64 (-1)))) _ (by kernel_rfl) (bval (congrArg (Value.int .i64) (by exact posI_no (by assumption) (by assumption))))
end Cl
end Go.Proofs.Ytafbklfdgpfmgaa
