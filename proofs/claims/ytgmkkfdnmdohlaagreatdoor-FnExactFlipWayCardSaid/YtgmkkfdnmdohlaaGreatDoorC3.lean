/- Walks over clean states, printed by wg.py. No statement is proved here. -/
import Derived.Test.YtgmkkfdnmdohlaaGreatDoorC2
import Derived.Test.YtgmkkfdnmdohlaaGreatDoorClB
set_option linter.unusedSimpArgs false
set_option linter.unusedVariables false
namespace Go.Proofs.YtgmkkfdnmdohlaaGreatDoor
namespace Cl
open Go.ChangeShapes Go.WideShapes Go.ChangeAt Go.RowKit
set_option maxRecDepth 20000

def ca (d : Dom) : Cel := ⟨d.x, d.y⟩
def cb (d : Dom) : Cel := ⟨if d.d then d.x else d.x + 1, if d.d then d.y + 1 else d.y⟩
def okD (d : Dom) : Bool := okd d.x d.y d.d
theorem okD_bd {d : Dom} (h : okD d = true) : (0 ≤ d.x ∧ d.x ≤ 7) ∧ (0 ≤ d.y ∧ d.y ≤ 7) ∧ (d.d = false → d.x ≤ 6) ∧ (d.d = true → d.y ≤ 6) := by
  have := okd_true.1 h
  cases e : d.d <;> simp [e] at this ⊢ <;> omega
theorem okD_iff (d : Dom) : okD d = (okc (ca d).x (ca d).y && okc (cb d).x (cb d).y) := by
  unfold okD okd ca cb; cases d.d <;> simp
theorem ok_ca {d : Dom} (h : okD d = true) : okc (ca d).x (ca d).y = true := by rw [okD_iff] at h; simp only [Bool.and_eq_true] at h; exact h.1
theorem ok_cb {d : Dom} (h : okD d = true) : okc (cb d).x (cb d).y = true := by rw [okD_iff] at h; simp only [Bool.and_eq_true] at h; exact h.2
theorem ca_ne_cb (d : Dom) : ca d ≠ cb d := by
  unfold ca cb; intro h; simp only [Cel.mk.injEq] at h
  cases e : d.d <;> simp [e] at h <;> omega
def domS (d : Dom) : Nat := addC (addC 0 (ca d)) (cb d)
theorem domS_lt {d : Dom} (h : okD d = true) : domS d < 18446744073709551616 := addC_lt (addC_lt (by decide) (ok_ca h)) (ok_cb h)
theorem domS_bit (d : Dom) (i : Nat) : (domS d).testBit i = (decide (idx (ca d) = i) || decide (idx (cb d) = i)) := by
  unfold domS; rw [addC_bit, addC_bit]; simp
def ord (d : Dom) : Nat := 2 * idx (ca d) + (if d.d then 1 else 0)
theorem ord_val {d : Dom} (h : okD d = true) : ((ord d : Nat) : Int) = 2 * (d.y * 8 + d.x) + (if d.d then 1 else 0) := by
  have := okD_bd h; unfold ord idx ca; cases e : d.d <;> simp [e] <;> omega
def bef (d e : Dom) : Bool := okD d && okD e && decide (ord d < ord e)
theorem ord_inj {d e : Dom} (hd : okD d = true) (he : okD e = true) (h : ord d = ord e) : d = e := by
  unfold ord at h
  have h1 : idx (ca d) = idx (ca e) ∧ d.d = e.d := by
    cases d1 : d.d <;> cases e1 : e.d <;> simp [d1, e1] at h ⊢ <;> omega
  have h2 := idx_inj (ok_ca hd) (ok_ca he) h1.1
  unfold ca at h2; simp only [Cel.mk.injEq] at h2
  cases d; cases e; simp_all
/-- the cells under the valid dominoes of a list -/
def cov1 (s : Nat) (d : Dom) : Nat := if okD d then s ||| domS d else s
def covS (ds : List Dom) : Nat := ds.foldl cov1 0
theorem gD_mem {l : List Dom} {k : Nat} (h : k < l.length) : gD l k ∈ l := by rw [gD_eq h]; exact List.getElem_mem h
def cvr (c : Cel) (d : Dom) : Bool := okD d && (decide (ca d = c) || decide (cb d = c))
theorem foldl_cov1_bit (ds : List Dom) {c : Cel} (hc : okc c.x c.y = true) : ∀ s, (ds.foldl cov1 s).testBit (idx c) = (s.testBit (idx c) || ds.any (cvr c)) := by
  induction ds with
  | nil => intro s; simp
  | cons d ds ih =>
    intro s
    rw [List.foldl_cons, ih, List.any_cons, ← Bool.or_assoc]
    congr 1
    unfold cov1 cvr
    by_cases ho : okD d = true
    · rw [if_pos ho, ho, Nat.testBit_or, domS_bit]
      have e1 : decide (idx (ca d) = idx c) = decide (ca d = c) := by
        rw [decide_eq_decide]; exact ⟨idx_inj (ok_ca ho) hc, fun h => by rw [h]⟩
      have e2 : decide (idx (cb d) = idx c) = decide (cb d = c) := by
        rw [decide_eq_decide]; exact ⟨idx_inj (ok_cb ho) hc, fun h => by rw [h]⟩
      rw [e1, e2]; simp
    · simp only [Bool.not_eq_true] at ho; rw [ho]; simp
theorem covS_bit (ds : List Dom) {c : Cel} (hc : okc c.x c.y = true) : (covS ds).testBit (idx c) = ds.any (cvr c) := by
  unfold covS; rw [foldl_cov1_bit ds hc]; simp
theorem andn_or (a b c : Nat) : andn (andn a b) c = andn a (b ||| c) := by
  refine Nat.eq_of_testBit_eq fun i => ?_
  rw [andn_bit, andn_bit, andn_bit, Nat.testBit_or]
  cases a.testBit i <;> cases b.testBit i <;> cases c.testBit i <;> rfl
theorem andn_cov0 (s : Nat) (ds : List Dom) : andn s (covS (ds.take 0)) = s := by simp [andn, covS]
def fits (s c : Nat) (d : Dom) : Bool := decide (andn s c &&& domS d = domS d)
theorem fits_iff (s c : Nat) (d : Dom) : fits s c d = ((s.testBit (idx (ca d)) && !c.testBit (idx (ca d))) && (s.testBit (idx (cb d)) && !c.testBit (idx (cb d)))) := by
  unfold fits
  rw [Bool.eq_iff_iff, decide_eq_true_eq]
  constructor
  · intro h
    have h1 := congrArg (fun n => n.testBit (idx (ca d))) h
    have h2 := congrArg (fun n => n.testBit (idx (cb d))) h
    simp only [Nat.testBit_and, andn_bit, domS_bit, decide_true, Bool.true_or, Bool.or_true, Bool.and_true] at h1 h2
    rw [h1, h2]; rfl
  · intro h
    simp only [Bool.and_eq_true] at h
    refine Nat.eq_of_testBit_eq fun i => ?_
    rw [Nat.testBit_and, andn_bit, domS_bit]
    by_cases e1 : idx (ca d) = i
    · subst e1; simp [h.1.1, h.1.2]
    · by_cases e2 : idx (cb d) = i
      · subst e2; simp [h.2.1, h.2.2]
      · simp [e1, e2]
def stepOk (s : Nat) (ds : List Dom) (j : Nat) : Bool := okD (gD ds j) && (fits s (covS (ds.take j)) (gD ds j) && (decide (j = 0) || bef (gD ds (j - 1)) (gD ds j)))
def parT (s : Nat) (ds : List Dom) (k : Nat) : Bool := (List.range k).all (stepOk s ds)
def isPar (l : List Int) (ds : List Dom) : Bool := regOk l && parT (regSet l) ds ds.length
theorem isPar_step {l : List Int} {ds : List Dom} (h : isPar l ds = true) : regOk l = true ∧ ∀ k, k < ds.length → stepOk (regSet l) ds k = true := by
  unfold isPar parT at h; simp only [Bool.and_eq_true, List.all_eq_true] at h
  exact ⟨h.1, fun k hk => h.2 k (by simpa using hk)⟩
theorem isPar_ok {l : List Int} {ds : List Dom} (h : isPar l ds = true) {k : Nat} (hk : k < ds.length) : okD (gD ds k) = true := by
  have := (isPar_step h).2 k hk
  unfold stepOk at this; simp only [Bool.and_eq_true] at this; exact this.1
/-- a list of marks -/
theorem addC_two (s : Nat) (d : Dom) : addC (addC s (ca d)) (cb d) = s ||| domS d := by
  refine Nat.eq_of_testBit_eq fun i => ?_
  rw [addC_bit, addC_bit, Nat.testBit_or, domS_bit, Bool.or_assoc]
def popc (s : Nat) : Nat := ((List.range 64).filter s.testBit).length
theorem popc_add {s : Nat} {c : Cel} (hc : okc c.x c.y = true) (h : s.testBit (idx c) = false) : popc (addC s c) = popc s + 1 := by
  unfold popc addC; rw [count_add, if_pos ⟨h, idx_lt hc⟩]
theorem popc_dom {s : Nat} {d : Dom} (ho : okD d = true) (h1 : s.testBit (idx (ca d)) = false) (h2 : s.testBit (idx (cb d)) = false) : popc (s ||| domS d) = popc s + 2 := by
  rw [← addC_two, popc_add (ok_cb ho), popc_add (ok_ca ho) h1]
  rw [addC_bit, h2]
  have : idx (ca d) ≠ idx (cb d) := fun h => ca_ne_cb d (idx_inj (ok_ca ho) (ok_cb ho) h)
  simp [this]
def isTil (l : List Int) (ds : List Dom) : Bool := isPar l ds && decide (covS ds = regSet l)
def atD (ds : List Dom) (c : Cel) : Int := if ds.any (cvr c) then (ds.findIdx (cvr c) : Int) else -1
theorem any_snocD {p : Dom → Bool} {l : List Dom} {k : Nat} (h : k < l.length) (h1 : (l.take k).any p = false) (h2 : p (gD l k) = false) : (l.take (k+1)).any p = false := by
  rw [List.take_succ_eq_append_getElem h, List.any_append, h1, ← gD_eq h]; simp [h2]
theorem atD_yes {ds : List Dom} {c : Cel} {k : Nat} (hk : k < ds.length) (h1 : (ds.take k).any (cvr c) = false) (h2 : cvr c (gD ds k) = true) : (k : Int) = atD ds c := by
  unfold atD
  rw [if_pos (List.any_eq_true.2 ⟨_, gD_mem hk, h2⟩)]
  have : ds.findIdx (cvr c) = k := by
    rw [List.findIdx_eq hk]
    refine ⟨by rw [← gD_eq hk]; exact h2, fun j hj => ?_⟩
    rw [List.any_eq_false] at h1
    have := h1 (ds[j]'(by omega)) (List.mem_take_iff_getElem.2 ⟨j, by omega, rfl⟩)
    simpa using this
  rw [this]
theorem atD_no {ds : List Dom} {c : Cel} {k : Nat} (hk : ¬ (k : Int) < (ds.length : Int)) (h1 : (ds.take k).any (cvr c) = false) : (-1 : Int) = atD ds c := by
  rw [List.take_of_length_le (by omega)] at h1
  unfold atD; rw [h1]; rfl
theorem atD_neg (ds : List Dom) (c : Cel) : decide (atD ds c < 0) = !(ds.any (cvr c)) := by
  unfold atD; cases ds.any (cvr c) <;> simp
theorem atD_t {ds : List Dom} {c : Cel} (h : decide (atD ds c < 0) = true) : (!(ds.any (cvr c))) = true := by rwa [atD_neg] at h
theorem atD_f {ds : List Dom} {c : Cel} (h : decide (atD ds c < 0) = false) : (!(ds.any (cvr c))) = false := by rwa [atD_neg] at h
def unc (l : List Int) (ds : List Dom) : List Cel := (cellsOf l).filter (fun c => !(ds.any (cvr c)))
theorem unc_len (l : List Int) (ds : List Dom) : (unc l ds).length ≤ 64 := Nat.le_trans (List.length_filter_le _ _) (cellsOf_len l)
theorem unc_set {l : List Int} (ds : List Dom) (h : regOk l = true) : setCells (andn (regSet l) (covS ds)) = unc l ds := by
  unfold unc cellsOf; rw [h, if_pos rfl, filter_setCells]
  unfold setCells
  congr 1
  refine List.filter_congr fun k hk => ?_
  rw [andn_bit]
  have hk : k < 64 := by simpa using hk
  have := covS_bit ds (cN_ok hk)
  rw [idx_cN hk] at this; rw [this]
def lft (l : List Int) (ds : List Dom) : Nat := andn (regSet l) (covS ds)
def prB (L : List Cel) (k : Nat) : Bool := (List.range k).any (fun i => nbr (gC L i) (gC L k))
def pairs (L : List Cel) : Bool := (List.range L.length).any (prB L)
theorem set_mem {s : Nat} {c : Cel} : c ∈ setCells s ↔ hasS s c = true := by
  unfold setCells hasS
  rw [List.mem_map]
  constructor
  · rintro ⟨k, hk, rfl⟩
    have h := List.mem_filter.1 hk
    have hlt : k < 64 := by simpa using h.1
    rw [cN_ok hlt, idx_cN hlt]; exact h.2
  · intro h; simp only [Bool.and_eq_true] at h
    exact ⟨idx c, List.mem_filter.2 ⟨by simpa using idx_lt h.1, h.2⟩, cN_idx h.1⟩
theorem setCells_lt {s i j : Nat} (hij : i < j) (hj : j < (setCells s).length) : idx (gC (setCells s) i) < idx (gC (setCells s) j) := by
  have hp : (setCells s).Pairwise (fun a b => idx a < idx b) := by
    unfold setCells
    rw [List.pairwise_map]
    have h0 : ((List.range 64).filter s.testBit).Pairwise (· < ·) := List.Pairwise.filter _ List.pairwise_lt_range
    refine h0.imp_of_mem ?_
    intro a b ha hb h
    have ha : a < 64 := by have := (List.mem_filter.1 ha).1; simpa using this
    have hb : b < 64 := by have := (List.mem_filter.1 hb).1; simpa using this
    rw [idx_cN ha, idx_cN hb]; exact h
  rw [gC_eq hj, gC_eq (by omega)]
  exact List.pairwise_iff_getElem.1 hp i j (by omega) hj hij
theorem hasS_ok {s : Nat} {c : Cel} (h : hasS s c = true) : okc c.x c.y = true := by unfold hasS at h; simp only [Bool.and_eq_true] at h; exact h.1
theorem gI_set {l : List Int} {i k : Nat} {v : Int} (h : k < l.length) : gI (l.set i v) k = if i = k then v else gI l k := by
  rw [gI_eq (by simpa using h), gI_eq h, List.getElem_set]
theorem popc_le (s : Nat) : popc s ≤ 64 := by
  unfold popc; exact Nat.le_trans (List.length_filter_le _ _) (by simp)
theorem nbs_ok {b : Cel} {k : Nat} (h : k < (nbs b).length) : okc (gC (nbs b) k).x (gC (nbs b) k).y = true := by
  have := mem_nbs.1 (gC_mem h)
  unfold nbr at this; simp only [Bool.and_eq_true] at this; exact this.1.2
end Cl
end Go.Proofs.YtgmkkfdnmdohlaaGreatDoor
