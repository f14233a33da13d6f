/- Walks over clean states, printed by wg.py. No statement is proved here. -/
import Derived.Test.YtafbklfdgpfmgaaC2
namespace Go.Proofs.Ytafbklfdgpfmgaa
namespace Cl
open Go.ChangeShapes Go.WideShapes Go.ChangeAt Go.RowKit

theorem step_offu {Γ : Cx} {ops : Array Oper} {o : Oper} {j dj d : Nat} {b b' : Bool} (hg : o.guard = some (j, b)) (hj : (ops[j]?).bind (·.dst) = some dj) (hb : b' ≠ b) (hd : o.dst = some d) (hN : Γ.ok d) :
    StepOk Γ ops o [(.s dj, .s (V.v (.bool b')))] [(.s d, some (.s (V.v (.tuple #[]))))] := by
  intro σ a w ⟨ρ, I, hs⟩ hR K Q hK
  rw [if_neg (by simp [Region.wanted, hg, yielded_of hs hj (hR (.s dj, .s (V.v (.bool b'))) (by simp)), hb]), hd]
  exact hK _ _ ⟨ρ, I, hs.put hN rfl⟩
theorem yielded_undef {Γ : Cx} {ops : Array Oper} {σ : St} {a : Act} {w : World} {ρ : Nat → Option Place} {I : Nat → Prop} (hs : Sat Γ σ a w ρ I) {j dj : Nat} (hj : (ops[j]?).bind (·.dst) = some dj) (hb : get σ (.s dj) = some (.s (V.v (.tuple #[])))) :
    yielded ops a.tmps j = none := by
  have h : a.tmps.getD dj undef = .tuple #[] := hs.sl dj _ hb
  unfold yielded
  rw [hj]
  cases hq : a.tmps[dj]? with
  | none => simp [hq]
  | some v =>
    rw [Array.getD_eq_getD_getElem?, hq] at h
    simp at h; subst h; simp [hq]
theorem step_offx {Γ : Cx} {ops : Array Oper} {o : Oper} {j dj d : Nat} {b : Bool} (hg : o.guard = some (j, b)) (hj : (ops[j]?).bind (·.dst) = some dj) (hd : o.dst = some d) (hN : Γ.ok d) :
    StepOk Γ ops o [(.s dj, .s (V.v (.tuple #[])))] [(.s d, some (.s (V.v (.tuple #[]))))] := by
  intro σ a w ⟨ρ, I, hs⟩ hR K Q hK
  rw [if_neg (by simp [Region.wanted, hg, yielded_undef hs hj (hR (.s dj, .s (V.v (.tuple #[]))) (by simp))]), hd]
  exact hK _ _ ⟨ρ, I, hs.put hN rfl⟩
theorem step_offxn {Γ : Cx} {ops : Array Oper} {o : Oper} {j dj : Nat} {b : Bool} (hg : o.guard = some (j, b)) (hj : (ops[j]?).bind (·.dst) = some dj) (hd : o.dst = none) :
    StepOk Γ ops o [(.s dj, .s (V.v (.tuple #[])))] [] := by
  intro σ a w ⟨ρ, I, hs⟩ hR K Q hK
  rw [if_neg (by simp [Region.wanted, hg, yielded_undef hs hj (hR (.s dj, .s (V.v (.tuple #[]))) (by simp))]), hd]
  exact hK _ _ ⟨ρ, I, hs⟩
def ca (d : Dom) : Cel := ⟨d.x, d.y⟩
def cb (d : Dom) : Cel := ⟨if d.d then d.x else d.x + 1, if d.d then d.y + 1 else d.y⟩
theorem hasC_reg {l : List Int} {c : Cel} (h : hasC l c = true) : regOk l = true := by unfold hasC at h; simp only [Bool.and_eq_true] at h; exact h.1
def okD (d : Dom) : Bool := okd d.x d.y d.d
theorem okD_bd {d : Dom} (h : okD d = true) : (0 ≤ d.x ∧ d.x ≤ 7) ∧ (0 ≤ d.y ∧ d.y ≤ 7) ∧ (d.d = false → d.x ≤ 6) ∧ (d.d = true → d.y ≤ 6) := by
  have := okd_true.1 h
  cases e : d.d <;> simp [e] at this ⊢ <;> omega
theorem okD_iff (d : Dom) : okD d = (okc (ca d).x (ca d).y && okc (cb d).x (cb d).y) := by
  unfold okD okd ca cb; cases d.d <;> simp
theorem ok_ca {d : Dom} (h : okD d = true) : okc (ca d).x (ca d).y = true := by rw [okD_iff] at h; simp only [Bool.and_eq_true] at h; exact h.1
theorem ok_cb {d : Dom} (h : okD d = true) : okc (cb d).x (cb d).y = true := by rw [okD_iff] at h; simp only [Bool.and_eq_true] at h; exact h.2
theorem ok_ca' {d : Dom} (h : okD d = true) : okc d.x d.y = true := ok_ca h
theorem ca_ne_cb (d : Dom) : ca d ≠ cb d := by
  unfold ca cb; intro h; simp only [Cel.mk.injEq] at h
  cases e : d.d <;> simp [e] at h <;> omega
def domS (d : Dom) : Nat := addC (addC 0 (ca d)) (cb d)
theorem domS_lt {d : Dom} (h : okD d = true) : domS d < 18446744073709551616 := addC_lt (addC_lt (by decide) (ok_ca h)) (ok_cb h)
theorem domS_bit (d : Dom) (i : Nat) : (domS d).testBit i = (decide (idx (ca d) = i) || decide (idx (cb d) = i)) := by
  unfold domS; rw [addC_bit, addC_bit]; simp
def ord (d : Dom) : Nat := 2 * idx (ca d) + (if d.d then 1 else 0)
theorem ord_val {d : Dom} (h : okD d = true) : ((ord d : Nat) : Int) = 2 * (d.y * 8 + d.x) + (if d.d then 1 else 0) := by
  have := okD_bd h; unfold ord idx ca; cases e : d.d <;> simp [e] <;> omega
def bef (d e : Dom) : Bool := okD d && okD e && decide (ord d < ord e)
theorem ord_inj {d e : Dom} (hd : okD d = true) (he : okD e = true) (h : ord d = ord e) : d = e := by
  unfold ord at h
  have h1 : idx (ca d) = idx (ca e) ∧ d.d = e.d := by
    cases d1 : d.d <;> cases e1 : e.d <;> simp [d1, e1] at h ⊢ <;> omega
  have h2 := idx_inj (ok_ca hd) (ok_ca he) h1.1
  unfold ca at h2; simp only [Cel.mk.injEq] at h2
  cases d; cases e; simp_all
/-- the cells under the valid dominoes of a list -/
def cov1 (s : Nat) (d : Dom) : Nat := if okD d then s ||| domS d else s
def covS (ds : List Dom) : Nat := ds.foldl cov1 0
theorem cov1_lt {s : Nat} (hs : s < 18446744073709551616) (d : Dom) : cov1 s d < 18446744073709551616 := by
  unfold cov1; split
  · rename_i h; exact nat_or_lt 64 hs (domS_lt h)
  · exact hs
theorem foldl_cov1_lt (ds : List Dom) : ∀ s, s < 18446744073709551616 → ds.foldl cov1 s < 18446744073709551616 := by
  induction ds with
  | nil => intro s h; exact h
  | cons d ds ih => intro s h; exact ih _ (cov1_lt h d)
theorem covS_lt (ds : List Dom) : covS ds < 18446744073709551616 := foldl_cov1_lt ds 0 (by decide)
theorem covS_snoc {ds : List Dom} {k : Nat} (h : k < ds.length) : covS (ds.take (k+1)) = cov1 (covS (ds.take k)) (gD ds k) := by
  unfold covS; rw [List.take_succ_eq_append_getElem h, List.foldl_append, gD_eq h]; rfl
theorem covS_yes {ds : List Dom} {k : Nat} (h : k < ds.length) (ho : okD (gD ds k) = true) : covS (ds.take (k+1)) = covS (ds.take k) ||| domS (gD ds k) := by
  rw [covS_snoc h, cov1, if_pos ho]
theorem covS_no {ds : List Dom} {k : Nat} (h : k < ds.length) (ho : okD (gD ds k) = false) : covS (ds.take (k+1)) = covS (ds.take k) := by
  rw [covS_snoc h, cov1, ho]; simp
theorem covS_end {ds : List Dom} {k : Nat} (h : ¬ (k : Int) < (ds.length : Int)) : covS (ds.take k) = covS ds := by rw [List.take_of_length_le (by omega)]
theorem gD_mem {l : List Dom} {k : Nat} (h : k < l.length) : gD l k ∈ l := by rw [gD_eq h]; exact List.getElem_mem h
def cvr (c : Cel) (d : Dom) : Bool := okD d && (decide (ca d = c) || decide (cb d = c))
theorem foldl_cov1_bit (ds : List Dom) {c : Cel} (hc : okc c.x c.y = true) : ∀ s, (ds.foldl cov1 s).testBit (idx c) = (s.testBit (idx c) || ds.any (cvr c)) := by
  induction ds with
  | nil => intro s; simp
  | cons d ds ih =>
    intro s
    rw [List.foldl_cons, ih, List.any_cons, ← Bool.or_assoc]
    congr 1
    unfold cov1 cvr
    by_cases ho : okD d = true
    · rw [if_pos ho, ho, Nat.testBit_or, domS_bit]
      have e1 : decide (idx (ca d) = idx c) = decide (ca d = c) := by
        rw [decide_eq_decide]; exact ⟨idx_inj (ok_ca ho) hc, fun h => by rw [h]⟩
      have e2 : decide (idx (cb d) = idx c) = decide (cb d = c) := by
        rw [decide_eq_decide]; exact ⟨idx_inj (ok_cb ho) hc, fun h => by rw [h]⟩
      rw [e1, e2]; simp
    · simp only [Bool.not_eq_true] at ho; rw [ho]; simp
theorem covS_bit (ds : List Dom) {c : Cel} (hc : okc c.x c.y = true) : (covS ds).testBit (idx c) = ds.any (cvr c) := by
  unfold covS; rw [foldl_cov1_bit ds hc]; simp
theorem cvr_set {d : Dom} (ho : okD d = true) (c : Cel) : hasS (domS d) c = cvr c d := by
  unfold hasS cvr; rw [ho, domS_bit, Bool.eq_iff_iff]
  simp only [Bool.and_eq_true, Bool.or_eq_true, decide_eq_true_eq, Bool.true_and]
  constructor
  · rintro ⟨hc, h | h⟩
    · exact .inl (idx_inj (ok_ca ho) hc h)
    · exact .inr (idx_inj (ok_cb ho) hc h)
  · rintro (rfl | rfl)
    · exact ⟨ok_ca ho, .inl rfl⟩
    · exact ⟨ok_cb ho, .inr rfl⟩
/-- dominoes that cover a part of a region -/
theorem andn_or (a b c : Nat) : andn (andn a b) c = andn a (b ||| c) := by
  refine Nat.eq_of_testBit_eq fun i => ?_
  rw [andn_bit, andn_bit, andn_bit, Nat.testBit_or]
  cases a.testBit i <;> cases b.testBit i <;> cases c.testBit i <;> rfl
theorem natI {a b : Nat} : ((a : Int) = (b : Int)) ↔ a = b := Int.ofNat_inj
theorem andn_cov0 (s : Nat) (ds : List Dom) : andn s (covS (ds.take 0)) = s := by simp [andn, covS]
def fits (s c : Nat) (d : Dom) : Bool := decide (andn s c &&& domS d = domS d)
theorem fits_iff (s c : Nat) (d : Dom) : fits s c d = ((s.testBit (idx (ca d)) && !c.testBit (idx (ca d))) && (s.testBit (idx (cb d)) && !c.testBit (idx (cb d)))) := by
  unfold fits
  rw [Bool.eq_iff_iff, decide_eq_true_eq]
  constructor
  · intro h
    have h1 := congrArg (fun n => n.testBit (idx (ca d))) h
    have h2 := congrArg (fun n => n.testBit (idx (cb d))) h
    simp only [Nat.testBit_and, andn_bit, domS_bit, decide_true, Bool.true_or, Bool.or_true, Bool.and_true] at h1 h2
    rw [h1, h2]; rfl
  · intro h
    simp only [Bool.and_eq_true] at h
    refine Nat.eq_of_testBit_eq fun i => ?_
    rw [Nat.testBit_and, andn_bit, domS_bit]
    by_cases e1 : idx (ca d) = i
    · subst e1; simp [h.1.1, h.1.2]
    · by_cases e2 : idx (cb d) = i
      · subst e2; simp [h.2.1, h.2.2]
      · simp [e1, e2]
def stepOk (s : Nat) (ds : List Dom) (j : Nat) : Bool := okD (gD ds j) && (fits s (covS (ds.take j)) (gD ds j) && (decide (j = 0) || bef (gD ds (j - 1)) (gD ds j)))
def parT (s : Nat) (ds : List Dom) (k : Nat) : Bool := (List.range k).all (stepOk s ds)
def isPar (l : List Int) (ds : List Dom) : Bool := regOk l && parT (regSet l) ds ds.length
theorem parT_zero (s : Nat) (ds : List Dom) : parT s ds 0 = true := rfl
theorem parT_snoc {s : Nat} {ds : List Dom} {k : Nat} (h : parT s ds k = true) (h2 : stepOk s ds k = true) : parT s ds (k + 1) = true := by
  unfold parT at *; rw [List.range_succ, List.all_append, h]; simp [h2]
theorem isPar_reg {l : List Int} {ds : List Dom} (h : regOk l = false) : isPar l ds = false := by unfold isPar; rw [h]; rfl
theorem isPar_no {l : List Int} {ds : List Dom} {k : Nat} (hk : k < ds.length) (h : regOk l = false ∨ stepOk (regSet l) ds k = false) : isPar l ds = false := by
  rcases h with h | h
  · exact isPar_reg h
  · unfold isPar parT
    have : (List.range ds.length).all (stepOk (regSet l) ds) = false := by
      rw [List.all_eq_false]; exact ⟨k, by simpa using hk, by rw [h]; simp⟩
    rw [this]; simp
theorem isPar_yes {l : List Int} {ds : List Dom} {k : Nat} (hk : ¬ (k : Int) < (ds.length : Int)) (hk2 : k ≤ ds.length) (h : regOk l = true) (h2 : parT (regSet l) ds k = true) : isPar l ds = true := by
  obtain rfl : k = ds.length := by omega
  unfold isPar; rw [h, h2]; rfl
theorem isPar_step {l : List Int} {ds : List Dom} (h : isPar l ds = true) : regOk l = true ∧ ∀ k, k < ds.length → stepOk (regSet l) ds k = true := by
  unfold isPar parT at h; simp only [Bool.and_eq_true, List.all_eq_true] at h
  exact ⟨h.1, fun k hk => h.2 k (by simpa using hk)⟩
theorem isPar_ok {l : List Int} {ds : List Dom} (h : isPar l ds = true) {k : Nat} (hk : k < ds.length) : okD (gD ds k) = true := by
  have := (isPar_step h).2 k hk
  unfold stepOk at this; simp only [Bool.and_eq_true] at this; exact this.1
/-- a list of marks -/
def bitsL (c : Nat) : List Bool := (List.range 64).map c.testBit
theorem bitsL_len (c : Nat) : (bitsL c).length = 64 := by simp [bitsL]
theorem gB_bits {c k : Nat} (h : k < 64) : gB (bitsL c) k = c.testBit k := by
  rw [gB_eq (by rw [bitsL_len]; exact h)]; simp [bitsL]
theorem bitsL_zero : List.replicate 64 false = bitsL 0 := by
  decide
theorem bits_cov0 (ds : List Dom) : List.replicate 64 false = bitsL (covS (ds.take 0)) := by rw [List.take_zero]; exact bitsL_zero
theorem bitsL_set (s : Nat) (c : Cel) : (bitsL s).set (idx c) true = bitsL (addC s c) := by
  refine List.ext_getElem (by simp [bitsL]) fun i h1 h2 => ?_
  simp only [bitsL, List.getElem_set, List.getElem_map, List.getElem_range, addC_bit]
  by_cases h : idx c = i <;> simp [h]
theorem addC_two (s : Nat) (d : Dom) : addC (addC s (ca d)) (cb d) = s ||| domS d := by
  refine Nat.eq_of_testBit_eq fun i => ?_
  rw [addC_bit, addC_bit, Nat.testBit_or, domS_bit, Bool.or_assoc]
theorem bits_step {ds : List Dom} {k : Nat} (h : k < ds.length) (ho : okD (gD ds k) = true) : ((bitsL (covS (ds.take k))).set (idx (ca (gD ds k))) true).set (idx (cb (gD ds k))) true = bitsL (covS (ds.take (k+1))) := by
  rw [bitsL_set, bitsL_set, addC_two, covS_yes h ho]
theorem step_eq {l : List Int} {ds : List Dom} {k : Nat} (hr : regOk l = true) (ho : okD (gD ds k) = true) : stepOk (regSet l) ds k =
    (((hasC l (ca (gD ds k)) && !gB (bitsL (covS (ds.take k))) (idx (ca (gD ds k)))) && (hasC l (cb (gD ds k)) && !gB (bitsL (covS (ds.take k))) (idx (cb (gD ds k))))) && (decide (k = 0) || bef (gD ds (k - 1)) (gD ds k))) := by
  unfold stepOk hasC
  rw [fits_iff, ho, hr, ok_ca ho, ok_cb ho, gB_bits (idx_lt (ok_ca ho)), gB_bits (idx_lt (ok_cb ho))]; simp
theorem isPar_no' {l : List Int} {ds : List Dom} {k : Nat} (hk : k < ds.length) (h : regOk l = true → stepOk (regSet l) ds k = false) : isPar l ds = false := by
  cases hr : regOk l
  · exact isPar_reg hr
  · exact isPar_no hk (.inr (h hr))
theorem isPar_end {l : List Int} {ds : List Dom} {k : Nat} (hk : ¬ (k : Int) < (ds.length : Int)) (hk2 : k ≤ ds.length) (h2 : parT (regSet l) ds k = true) : regOk l = isPar l ds := by
  obtain rfl : k = ds.length := by omega
  unfold isPar; rw [h2]; simp
/-- counting bits -/
def popc (s : Nat) : Nat := ((List.range 64).filter s.testBit).length
theorem popc_add {s : Nat} {c : Cel} (hc : okc c.x c.y = true) (h : s.testBit (idx c) = false) : popc (addC s c) = popc s + 1 := by
  unfold popc addC; rw [count_add, if_pos ⟨h, idx_lt hc⟩]
theorem popc_dom {s : Nat} {d : Dom} (ho : okD d = true) (h1 : s.testBit (idx (ca d)) = false) (h2 : s.testBit (idx (cb d)) = false) : popc (s ||| domS d) = popc s + 2 := by
  rw [← addC_two, popc_add (ok_cb ho), popc_add (ok_ca ho) h1]
  rw [addC_bit, h2]
  have : idx (ca d) ≠ idx (cb d) := fun h => ca_ne_cb d (idx_inj (ok_ca ho) (ok_cb ho) h)
  simp [this]
theorem popc_par {s : Nat} {ds : List Dom} {k : Nat} (hk : k ≤ ds.length) (h : parT s ds k = true) : popc (covS (ds.take k)) = 2 * k ∧ ∀ i, (covS (ds.take k)).testBit i = true → s.testBit i = true := by
  induction k with
  | zero => exact ⟨by rw [List.take_zero]; decide, fun i hi => by simp [covS] at hi⟩
  | succ k ih =>
    unfold parT at h; rw [List.range_succ, List.all_append] at h
    simp only [Bool.and_eq_true, List.all_cons, List.all_nil, Bool.and_true] at h
    obtain ⟨i1, i2⟩ := ih (by omega) h.1
    have hs := h.2
    unfold stepOk at hs; rw [fits_iff] at hs
    simp only [Bool.and_eq_true, Bool.not_eq_true'] at hs
    obtain ⟨ho, ⟨⟨a1, a2⟩, b1, b2⟩, _⟩ := hs
    rw [covS_yes (by omega) ho, popc_dom ho a2 b2, i1]
    refine ⟨by omega, fun i hi => ?_⟩
    rw [Nat.testBit_or, domS_bit] at hi
    simp only [Bool.or_eq_true, decide_eq_true_eq] at hi
    rcases hi with hi | rfl | rfl
    · exact i2 i hi
    · exact a1
    · exact b1
theorem filter_len_eq {p q : Nat → Bool} : ∀ {l : List Nat}, (∀ i ∈ l, p i = true → q i = true) → (l.filter p).length = (l.filter q).length → ∀ i ∈ l, p i = q i := by
  intro l
  induction l with
  | nil => intro _ _ i hi; cases hi
  | cons a l ih =>
    intro h he i hi
    have hle : (l.filter p).length ≤ (l.filter q).length := by
      have hh : ∀ i ∈ l, p i = true → q i = true := fun i hi => h i (by simp [hi])
      clear h he hi ih
      induction l with
      | nil => simp
      | cons b l ih =>
        have := ih (fun i hi => hh i (by simp [hi]))
        have hb := hh b (by simp)
        cases e1 : p b <;> cases e2 : q b <;> simp [e1, e2] at * <;> omega
    have ha := h a (by simp)
    cases e1 : p a <;> cases e2 : q a <;> simp [e1, e2] at he ha
    · rcases List.mem_cons.1 hi with rfl | hi
      · rw [e1, e2]
      · exact ih (fun i hi => h i (by simp [hi])) he i hi
    · omega
    · rcases List.mem_cons.1 hi with rfl | hi
      · rw [e1, e2]
      · exact ih (fun i hi => h i (by simp [hi])) he i hi
theorem eq_of_popc {a b : Nat} (ha : a < 18446744073709551616) (hb : b < 18446744073709551616) (h : ∀ i, a.testBit i = true → b.testBit i = true) (he : popc a = popc b) : a = b := by
  refine Nat.eq_of_testBit_eq fun i => ?_
  by_cases hi : i < 64
  · exact filter_len_eq (fun i _ => h i) he i (by simpa using hi)
  · rw [Nat.testBit_lt_two_pow (Nat.lt_of_lt_of_le (show a < 2 ^ 64 from ha) (Nat.pow_le_pow_right (by decide) (by omega))), Nat.testBit_lt_two_pow (Nat.lt_of_lt_of_le (show b < 2 ^ 64 from hb) (Nat.pow_le_pow_right (by decide) (by omega)))]
def isTil (l : List Int) (ds : List Dom) : Bool := isPar l ds && decide (covS ds = regSet l)
theorem isTil_count {l : List Int} {ds : List Dom} (h : isPar l ds = true) : isTil l ds = decide (2 * ds.length = (cellsOf l).length) := by
  unfold isTil; rw [h, Bool.true_and, decide_eq_decide]
  obtain ⟨hr, _⟩ := isPar_step h
  unfold isPar at h; rw [hr, Bool.true_and] at h
  obtain ⟨h1, h2⟩ := popc_par (Nat.le_refl _) h
  rw [List.take_of_length_le (Nat.le_refl _)] at h1 h2
  have e : (cellsOf l).length = popc (regSet l) := by unfold cellsOf setCells popc; rw [hr]; simp
  rw [e, ← h1]
  constructor
  · intro h; rw [h]
  · exact eq_of_popc (covS_lt _) (regSet_lt hr) h2
/-- the place of a domino over a cell -/
def atD (ds : List Dom) (c : Cel) : Int := if ds.any (cvr c) then (ds.findIdx (cvr c) : Int) else -1
theorem any_snocD {p : Dom → Bool} {l : List Dom} {k : Nat} (h : k < l.length) (h1 : (l.take k).any p = false) (h2 : p (gD l k) = false) : (l.take (k+1)).any p = false := by
  rw [List.take_succ_eq_append_getElem h, List.any_append, h1, ← gD_eq h]; simp [h2]
theorem atD_yes {ds : List Dom} {c : Cel} {k : Nat} (hk : k < ds.length) (h1 : (ds.take k).any (cvr c) = false) (h2 : cvr c (gD ds k) = true) : (k : Int) = atD ds c := by
  unfold atD
  rw [if_pos (List.any_eq_true.2 ⟨_, gD_mem hk, h2⟩)]
  have : ds.findIdx (cvr c) = k := by
    rw [List.findIdx_eq hk]
    refine ⟨by rw [← gD_eq hk]; exact h2, fun j hj => ?_⟩
    rw [List.any_eq_false] at h1
    have := h1 (ds[j]'(by omega)) (List.mem_take_iff_getElem.2 ⟨j, by omega, rfl⟩)
    simpa using this
  rw [this]
theorem atD_no {ds : List Dom} {c : Cel} {k : Nat} (hk : ¬ (k : Int) < (ds.length : Int)) (h1 : (ds.take k).any (cvr c) = false) : (-1 : Int) = atD ds c := by
  rw [List.take_of_length_le (by omega)] at h1
  unfold atD; rw [h1]; rfl
theorem atD_neg (ds : List Dom) (c : Cel) : decide (atD ds c < 0) = !(ds.any (cvr c)) := by
  unfold atD; cases ds.any (cvr c) <;> simp
theorem atD_t {ds : List Dom} {c : Cel} (h : decide (atD ds c < 0) = true) : (!(ds.any (cvr c))) = true := by rwa [atD_neg] at h
theorem atD_f {ds : List Dom} {c : Cel} (h : decide (atD ds c < 0) = false) : (!(ds.any (cvr c))) = false := by rwa [atD_neg] at h
def unc (l : List Int) (ds : List Dom) : List Cel := (cellsOf l).filter (fun c => !(ds.any (cvr c)))
theorem unc_len (l : List Int) (ds : List Dom) : (unc l ds).length ≤ 64 := Nat.le_trans (List.length_filter_le _ _) (cellsOf_len l)
theorem unc_set {l : List Int} (ds : List Dom) (h : regOk l = true) : setCells (andn (regSet l) (covS ds)) = unc l ds := by
  unfold unc cellsOf; rw [h, if_pos rfl, filter_setCells]
  unfold setCells
  congr 1
  refine List.filter_congr fun k hk => ?_
  rw [andn_bit]
  have hk : k < 64 := by simpa using hk
  have := covS_bit ds (cN_ok hk)
  rw [idx_cN hk] at this; rw [this]
theorem unc_reg {l : List Int} (ds : List Dom) (h : regOk l = false) : [] = unc l ds := by unfold unc cellsOf; rw [h]; rfl
/-- whether a domino can be added -/
def nxt (s : Nat) (c : Cel) : Bool := hasS s ⟨c.x + 1, c.y⟩ || hasS s ⟨c.x, c.y + 1⟩
def lft (l : List Int) (ds : List Dom) : Nat := andn (regSet l) (covS ds)
def canX (l : List Int) (ds : List Dom) : Bool := isPar l ds && (setCells (lft l ds)).any (nxt (lft l ds))
def prB (L : List Cel) (k : Nat) : Bool := (List.range k).any (fun i => nbr (gC L i) (gC L k))
def pairs (L : List Cel) : Bool := (List.range L.length).any (prB L)
theorem set_mem {s : Nat} {c : Cel} : c ∈ setCells s ↔ hasS s c = true := by
  unfold setCells hasS
  rw [List.mem_map]
  constructor
  · rintro ⟨k, hk, rfl⟩
    have h := List.mem_filter.1 hk
    have hlt : k < 64 := by simpa using h.1
    rw [cN_ok hlt, idx_cN hlt]; exact h.2
  · intro h; simp only [Bool.and_eq_true] at h
    exact ⟨idx c, List.mem_filter.2 ⟨by simpa using idx_lt h.1, h.2⟩, cN_idx h.1⟩
theorem setCells_lt {s i j : Nat} (hij : i < j) (hj : j < (setCells s).length) : idx (gC (setCells s) i) < idx (gC (setCells s) j) := by
  have hp : (setCells s).Pairwise (fun a b => idx a < idx b) := by
    unfold setCells
    rw [List.pairwise_map]
    have h0 : ((List.range 64).filter s.testBit).Pairwise (· < ·) := List.Pairwise.filter _ List.pairwise_lt_range
    refine h0.imp_of_mem ?_
    intro a b ha hb h
    have ha : a < 64 := by have := (List.mem_filter.1 ha).1; simpa using this
    have hb : b < 64 := by have := (List.mem_filter.1 hb).1; simpa using this
    rw [idx_cN ha, idx_cN hb]; exact h
  rw [gC_eq hj, gC_eq (by omega)]
  exact List.pairwise_iff_getElem.1 hp i j (by omega) hj hij
theorem nbr_lt {a b : Cel} (h : nbr a b = true) (hl : idx a < idx b) : b = ⟨a.x + 1, a.y⟩ ∨ b = ⟨a.x, a.y + 1⟩ := by
  unfold nbr at h; simp only [Bool.and_eq_true, decide_eq_true_eq] at h
  have h1 := okc_true.1 h.1.1; have h2 := okc_true.1 h.1.2
  have q1 := iabs_or (a.x - b.x); have q2 := iabs_or (a.y - b.y)
  have h3 := h.2
  unfold idx at hl
  cases a; cases b; simp only [Cel.mk.injEq] at *; omega
theorem nbr_right {a : Cel} (h : okc a.x a.y = true) (h2 : okc (a.x + 1) a.y = true) : nbr a ⟨a.x + 1, a.y⟩ = true := by
  unfold nbr; rw [h, show okc (⟨a.x + 1, a.y⟩ : Cel).x (⟨a.x + 1, a.y⟩ : Cel).y = true from h2]
  dsimp only
  rw [show a.x - (a.x + 1) = -1 by omega, show a.y - a.y = 0 by omega]; rfl
theorem nbr_below {a : Cel} (h : okc a.x a.y = true) (h2 : okc a.x (a.y + 1) = true) : nbr a ⟨a.x, a.y + 1⟩ = true := by
  unfold nbr; rw [h, show okc (⟨a.x, a.y + 1⟩ : Cel).x (⟨a.x, a.y + 1⟩ : Cel).y = true from h2]
  dsimp only
  rw [show a.y - (a.y + 1) = -1 by omega, show a.x - a.x = 0 by omega]; rfl
theorem setCells_idx {s : Nat} {c : Cel} (h : hasS s c = true) : ∃ k, k < (setCells s).length ∧ gC (setCells s) k = c := by
  obtain ⟨k, hk, e⟩ := List.getElem_of_mem (set_mem.2 h)
  exact ⟨k, hk, by rw [gC_eq hk, e]⟩
theorem hasS_ok {s : Nat} {c : Cel} (h : hasS s c = true) : okc c.x c.y = true := by unfold hasS at h; simp only [Bool.and_eq_true] at h; exact h.1
theorem pairs_set (s : Nat) : pairs (setCells s) = (setCells s).any (nxt s) := by
  rw [Bool.eq_iff_iff]
  unfold pairs prB
  simp only [List.any_eq_true, List.mem_range]
  constructor
  · rintro ⟨k, hk, i, hi, hn⟩
    have hlt := setCells_lt hi hk
    refine ⟨gC (setCells s) i, gC_mem (by omega), ?_⟩
    have hk' := set_mem.1 (gC_mem hk)
    unfold nxt
    rcases nbr_lt hn hlt with h | h
    · rw [h] at hk'; rw [hk']; rfl
    · rw [h] at hk'; rw [hk']; simp
  · rintro ⟨c, hc, hn⟩
    have hcs := set_mem.1 hc
    have hco := hasS_ok hcs
    have key : ∀ d : Cel, hasS s d = true → nbr c d = true → idx c < idx d → ∃ x, x < (setCells s).length ∧ ∃ x1, x1 < x ∧ nbr (gC (setCells s) x1) (gC (setCells s) x) = true := by
      intro d hd hn hl
      obtain ⟨j, hj, rfl⟩ := setCells_idx hd
      obtain ⟨i, hi, rfl⟩ := setCells_idx hcs
      refine ⟨j, hj, i, ?_, hn⟩
      rcases Nat.lt_trichotomy i j with h | h | h
      · exact h
      · subst h; omega
      · have := setCells_lt h hi; omega
    have hq := okc_true.1 hco
    unfold nxt at hn
    simp only [Bool.or_eq_true] at hn
    rcases hn with h | h
    · have h2 := hasS_ok h
      exact key _ h (nbr_right hco h2) (by have := okc_true.1 h2; unfold idx; dsimp only at *; omega)
    · have h2 := hasS_ok h
      exact key _ h (nbr_below hco h2) (by have := okc_true.1 h2; unfold idx; dsimp only at *; omega)
theorem canX_pairs {l : List Int} {ds : List Dom} (h : isPar l ds = true) : canX l ds = pairs (unc l ds) := by
  unfold canX; rw [h, Bool.true_and, ← unc_set ds (isPar_step h).1, pairs_set]; rfl
theorem canX_no {l : List Int} {ds : List Dom} (h : isPar l ds = false) : canX l ds = false := by unfold canX; rw [h]; rfl
theorem lft_lt {l : List Int} (ds : List Dom) (h : regOk l = true) : lft l ds < 18446744073709551616 := andn_lt (regSet_lt h)
theorem set_in {s k : Nat} (h : k < (setCells s).length) : okc (gC (setCells s) k).x (gC (setCells s) k).y = true := hasS_ok (set_mem.1 (gC_mem h))

theorem qC3_eg_49 : Try.prog.eqGuardType Try.prog.depth 49 = false := by kernel_rfl
theorem qC3_fo_52_0 : fieldOff Try.prog 52 0 = some 0 := by kernel_rfl
theorem qC3_fo_52_1 : fieldOff Try.prog 52 1 = some 1 := by kernel_rfl
theorem qC3_fo_52_2 : fieldOff Try.prog 52 2 = some 2 := by kernel_rfl
theorem qC3_sz_4 : (Try.prog.info? 4).map (·.size) = some 1 := by kernel_rfl
theorem qC3_sz_49 : (Try.prog.info? 49).map (·.size) = some 2 := by kernel_rfl
theorem qC3_sz_52 : (Try.prog.info? 52).map (·.size) = some 3 := by kernel_rfl
theorem qC3_ti_29 : TI Try.prog 29 true 1 := ⟨⟨_, Try.underlying29, rfl⟩, by kernel_rfl⟩
theorem qC3_ti_3 : TI Try.prog 3 false 1 := ⟨⟨_, Try.underlying3, rfl⟩, by kernel_rfl⟩
theorem qC3_ti_4 : TI Try.prog 4 false 1 := ⟨⟨_, Try.underlying4, rfl⟩, by kernel_rfl⟩
theorem qC3_ti_49 : TI Try.prog 49 true 2 := ⟨⟨_, Try.underlying49, rfl⟩, by kernel_rfl⟩
theorem qC3_ti_52 : TI Try.prog 52 true 3 := ⟨⟨_, Try.underlying52, rfl⟩, by kernel_rfl⟩
theorem qC3_un_31 : Try.prog.underlying 31 = some (.slice 52) := Try.underlying31
theorem qC3_un_41 : Try.prog.underlying 41 = some (.slice 49) := Try.underlying41
theorem qC3_un_74 : Try.prog.underlying 74 = some (.slice 4) := Try.underlying74
theorem qC3_zi_4 : ZI Try.prog 4 (.bool false) 1 1 := by unfold ZI; kernel_rfl
theorem qC3_zi_49 : ZI Try.prog 49 (.agg #[.int .i64 0, .int .i64 0]) 2 16 := by unfold ZI; kernel_rfl
theorem qC3_zi_52 : ZI Try.prog 52 (.agg #[.int .i64 0, .int .i64 0, .bool false]) 3 24 := by unfold ZI; kernel_rfl
theorem impl_DominoOk_fn (d : Dom) : Fn Try.prog 75 [.agg ([(.int .i64 d.x : Value), .int .i64 d.y, .bool d.d].map A.val)] [.val (.bool (okD d))] := by
  refine ⟨⟨_, Try.func75, by kernel_rfl, by kernel_rfl⟩, fun w args h => ?_⟩
  match args, args_iff.1 h with
  | [u0], ⟨h0, _⟩ =>
    obtain rfl := argB_av h0
    refine Calls.mono (dominoOk_impl d.x d.y d.d w) ?_
    rintro e w' ⟨rfl, hb⟩
    exact ⟨_, rfl, rfl, hb⟩

theorem spec_DominoOk_fn (d : Dom) : Fn Try.prog 69 [.agg ([(.int .i64 d.x : Value), .int .i64 d.y, .bool d.d].map A.val)] [.val (.bool (okD d))] := by
  refine ⟨⟨_, Try.func69, by kernel_rfl, by kernel_rfl⟩, fun w args h => ?_⟩
  match args, args_iff.1 h with
  | [u0], ⟨h0, _⟩ =>
    obtain rfl := argB_av h0
    refine Calls.mono (dominoOk_spec d.x d.y d.d w) ?_
    rintro e w' ⟨rfl, hb⟩
    exact ⟨_, rfl, rfl, hb⟩

set_option maxHeartbeats 4000000 in
set_option maxRecDepth 100000 in
theorem impl_Domino__ends_fn (d : Dom) (ho : okD d = true) : Fn Try.prog 87 [.agg ([(.int .i64 d.x : Value), .int .i64 d.y, .bool d.d].map A.val)] [.val (.agg ([.int .i64 (ca d).x, .int .i64 (ca d).y] : List Value).toArray), .val (.agg ([.int .i64 (cb d).x, .int .i64 (cb d).y] : List Value).toArray)] := by
  have hq := okD_bd ho
  refine fn_intro (N := 28) Try.func87 rfl (by kernel_rfl) rfl (Nat.le_of_ble_eq_true rfl) [1, 2, 3] (ret2 rfl rfl (by intro u hu; injection hu with hu; subst hu; rfl)) (fun W => ?_)
  show Wp _ _ _ [(.s 0, some (.s (V.av [(.int .i64 d.x : Value), .int .i64 d.y, .bool d.d]))), (.o 1, some .free), (.o 2, some .free), (.o 3, some .free)]
  refine wp_seq' ?_
  refine wp_region_t ?_
  refine wpc (step_plain rfl (acts_box (d := 1) (h := 1) (b := .agg ([(.int .i64 d.x : Value), .int .i64 d.y, .bool d.d].map A.val)) (ltN rfl) (OpX.tmp 0 (V.av [(.int .i64 d.x : Value), .int .i64 d.y, .bool d.d])) (by intro y hy; simp [B.cs] at hy; rcases hy with rfl | rfl | rfl <;> rfl))) (by kernel_rfl) ?_
  refine wpc (step_plain rfl (acts_alloc' (d := 2) (h := 2) (cap := 1) (s := 2) (cells := [(.val (.int .i64 0) : A), .val (.int .i64 0)]) (ltN rfl) qC3_zi_49 rfl rfl (by decide))) (by kernel_rfl) ?_
  refine wpc (step_plain rfl (acts_alloc' (d := 3) (h := 3) (cap := 1) (s := 2) (cells := [(.val (.int .i64 0) : A), .val (.int .i64 0)]) (ltN rfl) qC3_zi_49 rfl rfl (by decide))) (by kernel_rfl) ?_
  refine wpl_nil ?_
  refine wp_seq' ?_
  refine wp_seq' ?_
  refine wp_region_t ?_
  refine wpc (step_plain rfl (acts_field (d := 4) (t := 1) (h := 1) (off := 0) (off' := 2) (ltN rfl) qC3_fo_52_2 rfl)) (by kernel_rfl) ?_
  refine wpc (step_plain rfl (acts_load_own (d := 5) (t := 4) (h := 1) (off := 2) (o := ⟨52, 3, true, [(.val (.int .i64 d.x) : A), .val (.int .i64 d.y), .val (.bool d.d)]⟩)  (x := .val (.bool d.d)) (ltN rfl) qC3_ti_4 rfl)) (by kernel_rfl) ?_
  refine wpl_nil ?_
  refine wp_if (t := 5) (d.d) (by kernel_rfl) (fun c1 => ?_) (fun c1 => ?_)
  · skip
    refine wp_seq' ?_
    refine wp_drawn' (by kernel_rfl) (AllSteps.cons (step_plain rfl (acts_field (d := 6) (t := 1) (h := 1) (off := 0) (off' := 0) (ltN rfl) qC3_fo_52_0 rfl)) (AllSteps.cons (step_plain rfl (acts_load_own (d := 7) (t := 6) (h := 1) (off := 0) (o := ⟨52, 3, true, [(.val (.int .i64 d.x) : A), .val (.int .i64 d.y), .val (.bool d.d)]⟩)  (x := .val (.int .i64 d.x)) (ltN rfl) qC3_ti_3 rfl)) (AllSteps.cons (step_plain rfl (acts_field (d := 8) (t := 1) (h := 1) (off := 0) (off' := 1) (ltN rfl) qC3_fo_52_1 rfl)) (AllSteps.cons (step_plain rfl (acts_load_own (d := 9) (t := 8) (h := 1) (off := 1) (o := ⟨52, 3, true, [(.val (.int .i64 d.x) : A), .val (.int .i64 d.y), .val (.bool d.d)]⟩)  (x := .val (.int .i64 d.y)) (ltN rfl) qC3_ti_3 rfl)) (AllSteps.cons (step_plain rfl (acts_build (d := 10) (t := 49) (cells := [(.int .i64 d.x : Value), .int .i64 d.y]) (ltN rfl) (OpVs.cons (i := 0) (OpV.tmp 7 (.int .i64 d.x)) (OpVs.cons (i := 1) (OpV.tmp 9 (.int .i64 d.y)) (OpVs.nil))) rfl)) (AllSteps.cons (step_plain rfl (acts_field (d := 11) (t := 1) (h := 1) (off := 0) (off' := 0) (ltN rfl) qC3_fo_52_0 rfl)) (AllSteps.cons (step_plain rfl (acts_load_own (d := 12) (t := 11) (h := 1) (off := 0) (o := ⟨52, 3, true, [(.val (.int .i64 d.x) : A), .val (.int .i64 d.y), .val (.bool d.d)]⟩)  (x := .val (.int .i64 d.x)) (ltN rfl) qC3_ti_3 rfl)) (AllSteps.cons (step_plain rfl (acts_field (d := 13) (t := 1) (h := 1) (off := 0) (off' := 1) (ltN rfl) qC3_fo_52_1 rfl)) (AllSteps.cons (step_plain rfl (acts_load_own (d := 14) (t := 13) (h := 1) (off := 1) (o := ⟨52, 3, true, [(.val (.int .i64 d.x) : A), .val (.int .i64 d.y), .val (.bool d.d)]⟩)  (x := .val (.int .i64 d.y)) (ltN rfl) qC3_ti_3 rfl)) (AllSteps.cons (step_plain rfl (acts_bin (d := 15) (ltN rfl) (OpV.tmp 14 (.int .i64 d.y)) (OpV.const (.int .i64 1)) (r_add (c := (d.y + 1)) (w64 (by omega) (by omega))))) (AllSteps.cons (step_plain rfl (acts_build (d := 16) (t := 49) (cells := [(.int .i64 d.x : Value), .int .i64 (d.y + 1)]) (ltN rfl) (OpVs.cons (i := 0) (OpV.tmp 12 (.int .i64 d.x)) (OpVs.cons (i := 1) (OpV.tmp 15 (.int .i64 (d.y + 1))) (OpVs.nil))) rfl)) (AllSteps.cons (step_plain rfl (acts_store (t := 2) (h := 2) (off := 0) (o := ⟨49, 2, true, [(.val (.int .i64 0) : A), .val (.int .i64 0)]⟩) (b := .agg ([(.int .i64 d.x : Value), .int .i64 d.y].map A.val)) (cells := [(.val (.int .i64 d.x) : A), .val (.int .i64 d.y)]) qC3_ti_49 (OpX.tmp 10 (V.av [(.int .i64 d.x : Value), .int .i64 d.y])) rfl (by decide) (by intro y hy; simp [B.cs] at hy; rcases hy with rfl | rfl <;> rfl) (Nat.le_of_ble_eq_true rfl) rfl)) (AllSteps.cons (step_plain rfl (acts_store (t := 3) (h := 3) (off := 0) (o := ⟨49, 2, true, [(.val (.int .i64 0) : A), .val (.int .i64 0)]⟩) (b := .agg ([(.int .i64 d.x : Value), .int .i64 (d.y + 1)].map A.val)) (cells := [(.val (.int .i64 d.x) : A), .val (.int .i64 (d.y + 1))]) qC3_ti_49 (OpX.tmp 16 (V.av [(.int .i64 d.x : Value), .int .i64 (d.y + 1)])) rfl (by decide) (by intro y hy; simp [B.cs] at hy; rcases hy with rfl | rfl <;> rfl) (Nat.le_of_ble_eq_true rfl) rfl)) (AllSteps.nil)))))))))))))) (by kernel_rfl) (by kernel_rfl) (by kernel_rfl) ?_
    refine wp_ret' ?_
    exact ⟨VRes.cells 2 49 2 ⟨49, 2, true, [(.val (.int .i64 d.x) : A), .val (.int .i64 d.y)]⟩ _ (by kernel_rfl) (by kernel_rfl) qC3_ti_49 (Nat.le_of_ble_eq_true rfl) (bagg (vs := [(.int .i64 d.x : Value), .int .i64 d.y]) (by first | rfl | (unfold ca; simp_all; done) | (unfold cb; simp_all; done))), VRes.cells 3 49 3 ⟨49, 2, true, [(.val (.int .i64 d.x) : A), .val (.int .i64 (d.y + 1))]⟩ _ (by kernel_rfl) (by kernel_rfl) qC3_ti_49 (Nat.le_of_ble_eq_true rfl) (bagg (vs := [(.int .i64 d.x : Value), .int .i64 (d.y + 1)]) (by first | rfl | (unfold ca; simp_all; done) | (unfold cb; simp_all; done)))⟩
  · skip
    refine wp_skip' ?_
    refine wp_seq' ?_
    refine wp_drawn' (by kernel_rfl) (AllSteps.cons (step_plain rfl (acts_field (d := 17) (t := 1) (h := 1) (off := 0) (off' := 0) (ltN rfl) qC3_fo_52_0 rfl)) (AllSteps.cons (step_plain rfl (acts_load_own (d := 18) (t := 17) (h := 1) (off := 0) (o := ⟨52, 3, true, [(.val (.int .i64 d.x) : A), .val (.int .i64 d.y), .val (.bool d.d)]⟩)  (x := .val (.int .i64 d.x)) (ltN rfl) qC3_ti_3 rfl)) (AllSteps.cons (step_plain rfl (acts_field (d := 19) (t := 1) (h := 1) (off := 0) (off' := 1) (ltN rfl) qC3_fo_52_1 rfl)) (AllSteps.cons (step_plain rfl (acts_load_own (d := 20) (t := 19) (h := 1) (off := 1) (o := ⟨52, 3, true, [(.val (.int .i64 d.x) : A), .val (.int .i64 d.y), .val (.bool d.d)]⟩)  (x := .val (.int .i64 d.y)) (ltN rfl) qC3_ti_3 rfl)) (AllSteps.cons (step_plain rfl (acts_build (d := 21) (t := 49) (cells := [(.int .i64 d.x : Value), .int .i64 d.y]) (ltN rfl) (OpVs.cons (i := 0) (OpV.tmp 18 (.int .i64 d.x)) (OpVs.cons (i := 1) (OpV.tmp 20 (.int .i64 d.y)) (OpVs.nil))) rfl)) (AllSteps.cons (step_plain rfl (acts_field (d := 22) (t := 1) (h := 1) (off := 0) (off' := 0) (ltN rfl) qC3_fo_52_0 rfl)) (AllSteps.cons (step_plain rfl (acts_load_own (d := 23) (t := 22) (h := 1) (off := 0) (o := ⟨52, 3, true, [(.val (.int .i64 d.x) : A), .val (.int .i64 d.y), .val (.bool d.d)]⟩)  (x := .val (.int .i64 d.x)) (ltN rfl) qC3_ti_3 rfl)) (AllSteps.cons (step_plain rfl (acts_bin (d := 24) (ltN rfl) (OpV.tmp 23 (.int .i64 d.x)) (OpV.const (.int .i64 1)) (r_add (c := (d.x + 1)) (w64 (by omega) (by omega))))) (AllSteps.cons (step_plain rfl (acts_field (d := 25) (t := 1) (h := 1) (off := 0) (off' := 1) (ltN rfl) qC3_fo_52_1 rfl)) (AllSteps.cons (step_plain rfl (acts_load_own (d := 26) (t := 25) (h := 1) (off := 1) (o := ⟨52, 3, true, [(.val (.int .i64 d.x) : A), .val (.int .i64 d.y), .val (.bool d.d)]⟩)  (x := .val (.int .i64 d.y)) (ltN rfl) qC3_ti_3 rfl)) (AllSteps.cons (step_plain rfl (acts_build (d := 27) (t := 49) (cells := [(.int .i64 (d.x + 1) : Value), .int .i64 d.y]) (ltN rfl) (OpVs.cons (i := 0) (OpV.tmp 24 (.int .i64 (d.x + 1))) (OpVs.cons (i := 1) (OpV.tmp 26 (.int .i64 d.y)) (OpVs.nil))) rfl)) (AllSteps.cons (step_plain rfl (acts_store (t := 2) (h := 2) (off := 0) (o := ⟨49, 2, true, [(.val (.int .i64 0) : A), .val (.int .i64 0)]⟩) (b := .agg ([(.int .i64 d.x : Value), .int .i64 d.y].map A.val)) (cells := [(.val (.int .i64 d.x) : A), .val (.int .i64 d.y)]) qC3_ti_49 (OpX.tmp 21 (V.av [(.int .i64 d.x : Value), .int .i64 d.y])) rfl (by decide) (by intro y hy; simp [B.cs] at hy; rcases hy with rfl | rfl <;> rfl) (Nat.le_of_ble_eq_true rfl) rfl)) (AllSteps.cons (step_plain rfl (acts_store (t := 3) (h := 3) (off := 0) (o := ⟨49, 2, true, [(.val (.int .i64 0) : A), .val (.int .i64 0)]⟩) (b := .agg ([(.int .i64 (d.x + 1) : Value), .int .i64 d.y].map A.val)) (cells := [(.val (.int .i64 (d.x + 1)) : A), .val (.int .i64 d.y)]) qC3_ti_49 (OpX.tmp 27 (V.av [(.int .i64 (d.x + 1) : Value), .int .i64 d.y])) rfl (by decide) (by intro y hy; simp [B.cs] at hy; rcases hy with rfl | rfl <;> rfl) (Nat.le_of_ble_eq_true rfl) rfl)) (AllSteps.nil)))))))))))))) (by kernel_rfl) (by kernel_rfl) (by kernel_rfl) ?_
    refine wp_ret' ?_
    exact ⟨VRes.cells 2 49 2 ⟨49, 2, true, [(.val (.int .i64 d.x) : A), .val (.int .i64 d.y)]⟩ _ (by kernel_rfl) (by kernel_rfl) qC3_ti_49 (Nat.le_of_ble_eq_true rfl) (bagg (vs := [(.int .i64 d.x : Value), .int .i64 d.y]) (by first | rfl | (unfold ca; simp_all; done) | (unfold cb; simp_all; done))), VRes.cells 3 49 3 ⟨49, 2, true, [(.val (.int .i64 (d.x + 1)) : A), .val (.int .i64 d.y)]⟩ _ (by kernel_rfl) (by kernel_rfl) qC3_ti_49 (Nat.le_of_ble_eq_true rfl) (bagg (vs := [(.int .i64 (d.x + 1) : Value), .int .i64 d.y]) (by first | rfl | (unfold ca; simp_all; done) | (unfold cb; simp_all; done)))⟩

set_option maxHeartbeats 4000000 in
set_option maxRecDepth 100000 in
theorem spec_l05Second_fn (d : Dom) (ho : okD d = true) : Fn Try.prog 86 [.agg ([(.int .i64 d.x : Value), .int .i64 d.y, .bool d.d].map A.val)] [.val (.agg ([.int .i64 (cb d).x, .int .i64 (cb d).y] : List Value).toArray)] := by
  have hq := okD_bd ho
  refine fn_intro (N := 17) Try.func86 rfl (by kernel_rfl) rfl (Nat.le_of_ble_eq_true rfl) [1, 2] (ret1 rfl) (fun W => ?_)
  show Wp _ _ _ [(.s 0, some (.s (V.av [(.int .i64 d.x : Value), .int .i64 d.y, .bool d.d]))), (.o 1, some .free), (.o 2, some .free)]
  refine wp_seq' ?_
  refine wp_region_t ?_
  refine wpc (step_plain rfl (acts_box (d := 1) (h := 1) (b := .agg ([(.int .i64 d.x : Value), .int .i64 d.y, .bool d.d].map A.val)) (ltN rfl) (OpX.tmp 0 (V.av [(.int .i64 d.x : Value), .int .i64 d.y, .bool d.d])) (by intro y hy; simp [B.cs] at hy; rcases hy with rfl | rfl | rfl <;> rfl))) (by kernel_rfl) ?_
  refine wpc (step_plain rfl (acts_alloc' (d := 2) (h := 2) (cap := 1) (s := 2) (cells := [(.val (.int .i64 0) : A), .val (.int .i64 0)]) (ltN rfl) qC3_zi_49 rfl rfl (by decide))) (by kernel_rfl) ?_
  refine wpl_nil ?_
  refine wp_seq' ?_
  refine wp_seq' ?_
  refine wp_region_t ?_
  refine wpc (step_plain rfl (acts_field (d := 3) (t := 1) (h := 1) (off := 0) (off' := 2) (ltN rfl) qC3_fo_52_2 rfl)) (by kernel_rfl) ?_
  refine wpc (step_plain rfl (acts_load_own (d := 4) (t := 3) (h := 1) (off := 2) (o := ⟨52, 3, true, [(.val (.int .i64 d.x) : A), .val (.int .i64 d.y), .val (.bool d.d)]⟩)  (x := .val (.bool d.d)) (ltN rfl) qC3_ti_4 rfl)) (by kernel_rfl) ?_
  refine wpl_nil ?_
  refine wp_if (t := 4) (d.d) (by kernel_rfl) (fun c1 => ?_) (fun c1 => ?_)
  · skip
    refine wp_seq' ?_
    refine wp_region_t ?_
    refine wpc (step_plain rfl (acts_field (d := 5) (t := 1) (h := 1) (off := 0) (off' := 0) (ltN rfl) qC3_fo_52_0 rfl)) (by kernel_rfl) ?_
    refine wpc (step_plain rfl (acts_load_own (d := 6) (t := 5) (h := 1) (off := 0) (o := ⟨52, 3, true, [(.val (.int .i64 d.x) : A), .val (.int .i64 d.y), .val (.bool d.d)]⟩)  (x := .val (.int .i64 d.x)) (ltN rfl) qC3_ti_3 rfl)) (by kernel_rfl) ?_
    refine wpc (step_plain rfl (acts_field (d := 7) (t := 1) (h := 1) (off := 0) (off' := 1) (ltN rfl) qC3_fo_52_1 rfl)) (by kernel_rfl) ?_
    refine wpc (step_plain rfl (acts_load_own (d := 8) (t := 7) (h := 1) (off := 1) (o := ⟨52, 3, true, [(.val (.int .i64 d.x) : A), .val (.int .i64 d.y), .val (.bool d.d)]⟩)  (x := .val (.int .i64 d.y)) (ltN rfl) qC3_ti_3 rfl)) (by kernel_rfl) ?_
    refine wpc (step_plain rfl (acts_bin (d := 9) (ltN rfl) (OpV.tmp 8 (.int .i64 d.y)) (OpV.const (.int .i64 1)) (r_add (c := (d.y + 1)) (w64 (by omega) (by omega))))) (by kernel_rfl) ?_
    refine wpc (step_plain rfl (acts_build (d := 10) (t := 49) (cells := [(.int .i64 d.x : Value), .int .i64 (d.y + 1)]) (ltN rfl) (OpVs.cons (i := 0) (OpV.tmp 6 (.int .i64 d.x)) (OpVs.cons (i := 1) (OpV.tmp 9 (.int .i64 (d.y + 1))) (OpVs.nil))) rfl)) (by kernel_rfl) ?_
    refine wpc (step_plain rfl (acts_store (t := 2) (h := 2) (off := 0) (o := ⟨49, 2, true, [(.val (.int .i64 0) : A), .val (.int .i64 0)]⟩) (b := .agg ([(.int .i64 d.x : Value), .int .i64 (d.y + 1)].map A.val)) (cells := [(.val (.int .i64 d.x) : A), .val (.int .i64 (d.y + 1))]) qC3_ti_49 (OpX.tmp 10 (V.av [(.int .i64 d.x : Value), .int .i64 (d.y + 1)])) rfl (by decide) (by intro y hy; simp [B.cs] at hy; rcases hy with rfl | rfl <;> rfl) (Nat.le_of_ble_eq_true rfl) rfl)) (by kernel_rfl) ?_
    refine wpl_nil ?_
    refine wp_ret' ?_
    exact VRes.cells 2 49 2 ⟨49, 2, true, [(.val (.int .i64 d.x) : A), .val (.int .i64 (d.y + 1))]⟩ _ (by kernel_rfl) (by kernel_rfl) qC3_ti_49 (Nat.le_of_ble_eq_true rfl) (bagg (vs := [(.int .i64 d.x : Value), .int .i64 (d.y + 1)]) (by first | rfl | (unfold cb; simp_all; done)))
  · skip
    refine wp_skip' ?_
    refine wp_seq' ?_
    refine wp_region_t ?_
    refine wpc (step_plain rfl (acts_field (d := 11) (t := 1) (h := 1) (off := 0) (off' := 0) (ltN rfl) qC3_fo_52_0 rfl)) (by kernel_rfl) ?_
    refine wpc (step_plain rfl (acts_load_own (d := 12) (t := 11) (h := 1) (off := 0) (o := ⟨52, 3, true, [(.val (.int .i64 d.x) : A), .val (.int .i64 d.y), .val (.bool d.d)]⟩)  (x := .val (.int .i64 d.x)) (ltN rfl) qC3_ti_3 rfl)) (by kernel_rfl) ?_
    refine wpc (step_plain rfl (acts_bin (d := 13) (ltN rfl) (OpV.tmp 12 (.int .i64 d.x)) (OpV.const (.int .i64 1)) (r_add (c := (d.x + 1)) (w64 (by omega) (by omega))))) (by kernel_rfl) ?_
    refine wpc (step_plain rfl (acts_field (d := 14) (t := 1) (h := 1) (off := 0) (off' := 1) (ltN rfl) qC3_fo_52_1 rfl)) (by kernel_rfl) ?_
    refine wpc (step_plain rfl (acts_load_own (d := 15) (t := 14) (h := 1) (off := 1) (o := ⟨52, 3, true, [(.val (.int .i64 d.x) : A), .val (.int .i64 d.y), .val (.bool d.d)]⟩)  (x := .val (.int .i64 d.y)) (ltN rfl) qC3_ti_3 rfl)) (by kernel_rfl) ?_
    refine wpc (step_plain rfl (acts_build (d := 16) (t := 49) (cells := [(.int .i64 (d.x + 1) : Value), .int .i64 d.y]) (ltN rfl) (OpVs.cons (i := 0) (OpV.tmp 13 (.int .i64 (d.x + 1))) (OpVs.cons (i := 1) (OpV.tmp 15 (.int .i64 d.y)) (OpVs.nil))) rfl)) (by kernel_rfl) ?_
    refine wpc (step_plain rfl (acts_store (t := 2) (h := 2) (off := 0) (o := ⟨49, 2, true, [(.val (.int .i64 0) : A), .val (.int .i64 0)]⟩) (b := .agg ([(.int .i64 (d.x + 1) : Value), .int .i64 d.y].map A.val)) (cells := [(.val (.int .i64 (d.x + 1)) : A), .val (.int .i64 d.y)]) qC3_ti_49 (OpX.tmp 16 (V.av [(.int .i64 (d.x + 1) : Value), .int .i64 d.y])) rfl (by decide) (by intro y hy; simp [B.cs] at hy; rcases hy with rfl | rfl <;> rfl) (Nat.le_of_ble_eq_true rfl) rfl)) (by kernel_rfl) ?_
    refine wpl_nil ?_
    refine wp_ret' ?_
    exact VRes.cells 2 49 2 ⟨49, 2, true, [(.val (.int .i64 (d.x + 1)) : A), .val (.int .i64 d.y)]⟩ _ (by kernel_rfl) (by kernel_rfl) qC3_ti_49 (Nat.le_of_ble_eq_true rfl) (bagg (vs := [(.int .i64 (d.x + 1) : Value), .int .i64 d.y]) (by first | rfl | (unfold cb; simp_all; done)))

set_option maxHeartbeats 4000000 in
set_option maxRecDepth 100000 in
theorem impl_Domino__set_fn (d : Dom) (ho : okD d = true) : Fn Try.prog 76 [.agg ([(.int .i64 d.x : Value), .int .i64 d.y, .bool d.d].map A.val)] [.val (.int .u64 (((domS d) : Nat) : Int))] := by
  refine fn_intro (N := 14) Try.func76 rfl (by kernel_rfl) rfl (Nat.le_of_ble_eq_true rfl) [1, 3, 4, 7, 11, 13] (ret1 rfl) (fun W => ?_)
  show Wp _ _ _ [(.s 0, some (.s (V.av [(.int .i64 d.x : Value), .int .i64 d.y, .bool d.d]))), (.o 1, some .free), (.o 3, some .free), (.o 4, some .free), (.o 7, some .free), (.o 11, some .free), (.o 13, some .free)]
  refine wp_seq' ?_
  refine wp_region_t ?_
  refine wpc (step_plain rfl (acts_box (d := 1) (h := 1) (b := .agg ([(.int .i64 d.x : Value), .int .i64 d.y, .bool d.d].map A.val)) (ltN rfl) (OpX.tmp 0 (V.av [(.int .i64 d.x : Value), .int .i64 d.y, .bool d.d])) (by intro y hy; simp [B.cs] at hy; rcases hy with rfl | rfl | rfl <;> rfl))) (by kernel_rfl) ?_
  refine wpc (step_plain rfl (acts_assign (d := 2) (ltN rfl) (OpX.const (.int .u64 0)))) (by kernel_rfl) ?_
  refine wpl_nil ?_
  refine wp_seq' ?_
  refine wp_region_t ?_
  refine wpc (step_plain rfl (acts_load_owns (d := 6) (t := 1) (h := 1) (off := 0) (o := ⟨52, 3, true, [(.val (.int .i64 d.x) : A), .val (.int .i64 d.y), .val (.bool d.d)]⟩)  (xs := [(.int .i64 d.x : Value), .int .i64 d.y, .bool d.d].map A.val) (ltN rfl) qC3_ti_52 rfl (by decide) rfl)) (by kernel_rfl) ?_
  refine wpc (step_plain rfl (acts_call2 (d := 7) (ltN rfl) (impl_Domino__ends_fn d (by first | omega | assumption | exact ok_ca ho | exact ok_cb ho | exact addC_lt (by decide) (ok_ca ho))) (ArgVs.cons (ArgV.va (vs := [(.int .i64 d.x : Value), .int .i64 d.y, .bool d.d]) (OpV.agg 6 [(.int .i64 d.x : Value), .int .i64 d.y, .bool d.d])) (ArgVs.nil)) (ResV.agg [(.int .i64 ((ca d).x) : Value), .int .i64 ((ca d).y)]) (ResV.agg [(.int .i64 ((cb d).x) : Value), .int .i64 ((cb d).y)]))) (by kernel_rfl) ?_
  refine wpc (step_plain rfl (acts_move (d := 5) (ltN rfl) (OpX.tmp 7 (V.tup [.agg ([(.int .i64 ((ca d).x) : Value), .int .i64 ((ca d).y)].map A.val), .agg ([(.int .i64 ((cb d).x) : Value), .int .i64 ((cb d).y)].map A.val)])))) (by kernel_rfl) ?_
  refine wpc (step_plain rfl (acts_extract (d := 8) (t := 5) (ix := 0) (xs := [.agg ([(.int .i64 ((ca d).x) : Value), .int .i64 ((ca d).y)].map A.val), .agg ([(.int .i64 ((cb d).x) : Value), .int .i64 ((cb d).y)].map A.val)]) (X := .agg ([(.int .i64 ((ca d).x) : Value), .int .i64 ((ca d).y)].map A.val)) (ltN rfl) rfl)) (by kernel_rfl) ?_
  refine wpc (step_plain rfl (acts_extract (d := 9) (t := 5) (ix := 1) (xs := [.agg ([(.int .i64 ((ca d).x) : Value), .int .i64 ((ca d).y)].map A.val), .agg ([(.int .i64 ((cb d).x) : Value), .int .i64 ((cb d).y)].map A.val)]) (X := .agg ([(.int .i64 ((cb d).x) : Value), .int .i64 ((cb d).y)].map A.val)) (ltN rfl) rfl)) (by kernel_rfl) ?_
  refine wpc (step_plain rfl (acts_alloc' (d := 3) (h := 3) (cap := 1) (s := 2) (cells := [(.val (.int .i64 0) : A), .val (.int .i64 0)]) (ltN rfl) qC3_zi_49 rfl rfl (by decide))) (by kernel_rfl) ?_
  refine wpc (step_plain rfl (acts_alloc' (d := 4) (h := 4) (cap := 1) (s := 2) (cells := [(.val (.int .i64 0) : A), .val (.int .i64 0)]) (ltN rfl) qC3_zi_49 rfl rfl (by decide))) (by kernel_rfl) ?_
  refine wpc (step_plain rfl (acts_store (t := 3) (h := 3) (off := 0) (o := ⟨49, 2, true, [(.val (.int .i64 0) : A), .val (.int .i64 0)]⟩) (b := .agg ([(.int .i64 ((ca d).x) : Value), .int .i64 ((ca d).y)].map A.val)) (cells := [(.val (.int .i64 ((ca d).x)) : A), .val (.int .i64 ((ca d).y))]) qC3_ti_49 (OpX.tmp 8 (V.av [(.int .i64 ((ca d).x) : Value), .int .i64 ((ca d).y)])) rfl (by decide) (by intro y hy; simp [B.cs] at hy; rcases hy with rfl | rfl <;> rfl) (Nat.le_of_ble_eq_true rfl) rfl)) (by kernel_rfl) ?_
  refine wpc (step_plain rfl (acts_store (t := 4) (h := 4) (off := 0) (o := ⟨49, 2, true, [(.val (.int .i64 0) : A), .val (.int .i64 0)]⟩) (b := .agg ([(.int .i64 ((cb d).x) : Value), .int .i64 ((cb d).y)].map A.val)) (cells := [(.val (.int .i64 ((cb d).x)) : A), .val (.int .i64 ((cb d).y))]) qC3_ti_49 (OpX.tmp 9 (V.av [(.int .i64 ((cb d).x) : Value), .int .i64 ((cb d).y)])) rfl (by decide) (by intro y hy; simp [B.cs] at hy; rcases hy with rfl | rfl <;> rfl) (Nat.le_of_ble_eq_true rfl) rfl)) (by kernel_rfl) ?_
  refine wpl_nil ?_
  refine wp_seq' ?_
  refine wp_drawn' (by kernel_rfl) (AllSteps.cons (step_plain rfl (acts_load_owns (d := 10) (t := 3) (h := 3) (off := 0) (o := ⟨49, 2, true, [(.val (.int .i64 ((ca d).x)) : A), .val (.int .i64 ((ca d).y))]⟩)  (xs := [(.int .i64 ((ca d).x) : Value), .int .i64 ((ca d).y)].map A.val) (ltN rfl) qC3_ti_49 rfl (by decide) rfl)) (AllSteps.cons (step_plain rfl (acts_call1 (d := 11) (ltN rfl) (impl_set__with_fn 0 (ca d) (by first | omega | assumption | exact ok_ca ho | exact ok_cb ho | exact addC_lt (by decide) (ok_ca ho)) (by first | omega | assumption | exact ok_ca ho | exact ok_cb ho | exact addC_lt (by decide) (ok_ca ho))) (ArgVs.cons (ArgV.v (OpV.const (.int .u64 0))) (ArgVs.cons (ArgV.va (vs := [(.int .i64 ((ca d).x) : Value), .int .i64 ((ca d).y)]) (OpV.agg 10 [(.int .i64 ((ca d).x) : Value), .int .i64 ((ca d).y)])) (ArgVs.nil))) (ResV.val _))) (AllSteps.cons (step_plain rfl (acts_load_owns (d := 12) (t := 4) (h := 4) (off := 0) (o := ⟨49, 2, true, [(.val (.int .i64 ((cb d).x)) : A), .val (.int .i64 ((cb d).y))]⟩)  (xs := [(.int .i64 ((cb d).x) : Value), .int .i64 ((cb d).y)].map A.val) (ltN rfl) qC3_ti_49 rfl (by decide) rfl)) (AllSteps.cons (step_plain rfl (acts_call1 (d := 13) (ltN rfl) (impl_set__with_fn (addC 0 (ca d)) (cb d) (by first | omega | assumption | exact ok_ca ho | exact ok_cb ho | exact addC_lt (by decide) (ok_ca ho)) (by first | omega | assumption | exact ok_ca ho | exact ok_cb ho | exact addC_lt (by decide) (ok_ca ho))) (ArgVs.cons (ArgV.v (OpV.tmp 11 (.int .u64 (((addC 0 (ca d)) : Nat) : Int)))) (ArgVs.cons (ArgV.va (vs := [(.int .i64 ((cb d).x) : Value), .int .i64 ((cb d).y)]) (OpV.agg 12 [(.int .i64 ((cb d).x) : Value), .int .i64 ((cb d).y)])) (ArgVs.nil))) (ResV.val _))) (AllSteps.cons (step_plain rfl (acts_assign (d := 2) (ltN rfl) (OpX.tmp 13 (V.v (.int .u64 (((addC (addC 0 (ca d)) (cb d)) : Nat) : Int)))))) (AllSteps.nil)))))) (by kernel_rfl) (by kernel_rfl) (by kernel_rfl) ?_
  refine wp_ret' ?_
  exact VRes.tmp 2 (.a (.val (.int .u64 (((addC (addC 0 (ca d)) (cb d)) : Nat) : Int)))) _ (by kernel_rfl) (bval (congrArg (Value.int .u64) (by rfl)))

set_option maxHeartbeats 4000000 in
set_option maxRecDepth 100000 in
theorem spec_CellsUnder_fn (d : Dom) (ho : okD d = true) : Fn Try.prog 71 [.agg ([(.int .i64 d.x : Value), .int .i64 d.y, .bool d.d].map A.val)] [.val (.agg ([.int .i64 (ca d).x, .int .i64 (ca d).y] : List Value).toArray), .val (.agg ([.int .i64 (cb d).x, .int .i64 (cb d).y] : List Value).toArray)] := by
  refine fn_intro (N := 16) Try.func71 rfl (by kernel_rfl) rfl (Nat.le_of_ble_eq_true rfl) [1, 2, 3, 5, 15] (ret2 rfl rfl (by intro u hu; injection hu with hu; subst hu; rfl)) (fun W => ?_)
  show Wp _ _ _ [(.s 0, some (.s (V.av [(.int .i64 d.x : Value), .int .i64 d.y, .bool d.d]))), (.o 1, some .free), (.o 2, some .free), (.o 3, some .free), (.o 5, some .free), (.o 15, some .free)]
  refine wp_seq' ?_
  refine wp_region_t ?_
  refine wpc (step_plain rfl (acts_box (d := 1) (h := 1) (b := .agg ([(.int .i64 d.x : Value), .int .i64 d.y, .bool d.d].map A.val)) (ltN rfl) (OpX.tmp 0 (V.av [(.int .i64 d.x : Value), .int .i64 d.y, .bool d.d])) (by intro y hy; simp [B.cs] at hy; rcases hy with rfl | rfl | rfl <;> rfl))) (by kernel_rfl) ?_
  refine wpc (step_plain rfl (acts_alloc' (d := 2) (h := 2) (cap := 1) (s := 2) (cells := [(.val (.int .i64 0) : A), .val (.int .i64 0)]) (ltN rfl) qC3_zi_49 rfl rfl (by decide))) (by kernel_rfl) ?_
  refine wpc (step_plain rfl (acts_alloc' (d := 3) (h := 3) (cap := 1) (s := 2) (cells := [(.val (.int .i64 0) : A), .val (.int .i64 0)]) (ltN rfl) qC3_zi_49 rfl rfl (by decide))) (by kernel_rfl) ?_
  refine wpl_nil ?_
  refine wp_seq' ?_
  refine wp_seq' ?_
  refine wp_region_t ?_
  refine wpc (step_plain rfl (acts_load_owns (d := 4) (t := 1) (h := 1) (off := 0) (o := ⟨52, 3, true, [(.val (.int .i64 d.x) : A), .val (.int .i64 d.y), .val (.bool d.d)]⟩)  (xs := [(.int .i64 d.x : Value), .int .i64 d.y, .bool d.d].map A.val) (ltN rfl) qC3_ti_52 rfl (by decide) rfl)) (by kernel_rfl) ?_
  refine wpc (step_plain rfl (acts_call1 (d := 5) (ltN rfl) (spec_DominoOk_fn d ) (ArgVs.cons (ArgV.va (vs := [(.int .i64 d.x : Value), .int .i64 d.y, .bool d.d]) (OpV.agg 4 [(.int .i64 d.x : Value), .int .i64 d.y, .bool d.d])) (ArgVs.nil)) ((resval (congrArg Value.bool ho))))) (by kernel_rfl) ?_
  refine wpc (step_plain rfl (acts_un (d := 6) (ltN rfl) (OpV.tmp 5 (.bool true)) (r_not (c := false) rfl))) (by kernel_rfl) ?_
  refine wpl_nil ?_
  refine wp_if_f (t := 6) (by kernel_rfl) ?_
  refine wp_skip' ?_
  refine wp_seq' ?_
  refine wp_drawn' (by kernel_rfl) (AllSteps.cons (step_plain rfl (acts_field (d := 9) (t := 1) (h := 1) (off := 0) (off' := 0) (ltN rfl) qC3_fo_52_0 rfl)) (AllSteps.cons (step_plain rfl (acts_load_own (d := 10) (t := 9) (h := 1) (off := 0) (o := ⟨52, 3, true, [(.val (.int .i64 d.x) : A), .val (.int .i64 d.y), .val (.bool d.d)]⟩)  (x := .val (.int .i64 d.x)) (ltN rfl) qC3_ti_3 rfl)) (AllSteps.cons (step_plain rfl (acts_field (d := 11) (t := 1) (h := 1) (off := 0) (off' := 1) (ltN rfl) qC3_fo_52_1 rfl)) (AllSteps.cons (step_plain rfl (acts_load_own (d := 12) (t := 11) (h := 1) (off := 1) (o := ⟨52, 3, true, [(.val (.int .i64 d.x) : A), .val (.int .i64 d.y), .val (.bool d.d)]⟩)  (x := .val (.int .i64 d.y)) (ltN rfl) qC3_ti_3 rfl)) (AllSteps.cons (step_plain rfl (acts_build (d := 13) (t := 49) (cells := [(.int .i64 d.x : Value), .int .i64 d.y]) (ltN rfl) (OpVs.cons (i := 0) (OpV.tmp 10 (.int .i64 d.x)) (OpVs.cons (i := 1) (OpV.tmp 12 (.int .i64 d.y)) (OpVs.nil))) rfl)) (AllSteps.cons (step_plain rfl (acts_load_owns (d := 14) (t := 1) (h := 1) (off := 0) (o := ⟨52, 3, true, [(.val (.int .i64 d.x) : A), .val (.int .i64 d.y), .val (.bool d.d)]⟩)  (xs := [(.int .i64 d.x : Value), .int .i64 d.y, .bool d.d].map A.val) (ltN rfl) qC3_ti_52 rfl (by decide) rfl)) (AllSteps.cons (step_plain rfl (acts_call1 (d := 15) (ltN rfl) (spec_l05Second_fn d (by omega)) (ArgVs.cons (ArgV.va (vs := [(.int .i64 d.x : Value), .int .i64 d.y, .bool d.d]) (OpV.agg 14 [(.int .i64 d.x : Value), .int .i64 d.y, .bool d.d])) (ArgVs.nil)) (ResV.agg [(.int .i64 ((cb d).x) : Value), .int .i64 ((cb d).y)]))) (AllSteps.cons (step_plain rfl (acts_store (t := 2) (h := 2) (off := 0) (o := ⟨49, 2, true, [(.val (.int .i64 0) : A), .val (.int .i64 0)]⟩) (b := .agg ([(.int .i64 d.x : Value), .int .i64 d.y].map A.val)) (cells := [(.val (.int .i64 d.x) : A), .val (.int .i64 d.y)]) qC3_ti_49 (OpX.tmp 13 (V.av [(.int .i64 d.x : Value), .int .i64 d.y])) rfl (by decide) (by intro y hy; simp [B.cs] at hy; rcases hy with rfl | rfl <;> rfl) (Nat.le_of_ble_eq_true rfl) rfl)) (AllSteps.cons (step_plain rfl (acts_store (t := 3) (h := 3) (off := 0) (o := ⟨49, 2, true, [(.val (.int .i64 0) : A), .val (.int .i64 0)]⟩) (b := .agg ([(.int .i64 ((cb d).x) : Value), .int .i64 ((cb d).y)].map A.val)) (cells := [(.val (.int .i64 ((cb d).x)) : A), .val (.int .i64 ((cb d).y))]) qC3_ti_49 (OpX.tmp 15 (V.av [(.int .i64 ((cb d).x) : Value), .int .i64 ((cb d).y)])) rfl (by decide) (by intro y hy; simp [B.cs] at hy; rcases hy with rfl | rfl <;> rfl) (Nat.le_of_ble_eq_true rfl) rfl)) (AllSteps.nil)))))))))) (by kernel_rfl) (by kernel_rfl) (by kernel_rfl) ?_
  refine wp_ret' ?_
  exact ⟨VRes.cells 2 49 2 ⟨49, 2, true, [(.val (.int .i64 d.x) : A), .val (.int .i64 d.y)]⟩ _ (by kernel_rfl) (by kernel_rfl) qC3_ti_49 (Nat.le_of_ble_eq_true rfl) (bagg (vs := [(.int .i64 d.x : Value), .int .i64 d.y]) (by rfl)), VRes.cells 3 49 3 ⟨49, 2, true, [(.val (.int .i64 ((cb d).x)) : A), .val (.int .i64 ((cb d).y))]⟩ _ (by kernel_rfl) (by kernel_rfl) qC3_ti_49 (Nat.le_of_ble_eq_true rfl) (bagg (vs := [(.int .i64 ((cb d).x) : Value), .int .i64 ((cb d).y)]) (by rfl))⟩

set_option maxHeartbeats 4000000 in
set_option maxRecDepth 100000 in
theorem impl_Domino__order_fn (d : Dom) (ho : okD d = true) : Fn Try.prog 85 [.agg ([(.int .i64 d.x : Value), .int .i64 d.y, .bool d.d].map A.val)] [.val (.int .i64 (((ord d) : Nat) : Int))] := by
  have hi : idx (⟨d.x, d.y⟩ : Cel) < 64 := idx_lt (ok_ca ho)
  refine fn_intro (N := 16) Try.func85 rfl (by kernel_rfl) rfl (Nat.le_of_ble_eq_true rfl) [1, 9] (ret1 rfl) (fun W => ?_)
  show Wp _ _ _ [(.s 0, some (.s (V.av [(.int .i64 d.x : Value), .int .i64 d.y, .bool d.d]))), (.o 1, some .free), (.o 9, some .free)]
  refine wp_seq' ?_
  refine wp_region_t ?_
  refine wpc (step_plain rfl (acts_box (d := 1) (h := 1) (b := .agg ([(.int .i64 d.x : Value), .int .i64 d.y, .bool d.d].map A.val)) (ltN rfl) (OpX.tmp 0 (V.av [(.int .i64 d.x : Value), .int .i64 d.y, .bool d.d])) (by intro y hy; simp [B.cs] at hy; rcases hy with rfl | rfl | rfl <;> rfl))) (by kernel_rfl) ?_
  refine wpc (step_plain rfl (acts_assign (d := 2) (ltN rfl) (OpX.const (.int .i64 0)))) (by kernel_rfl) ?_
  refine wpl_nil ?_
  refine wp_seq' ?_
  refine wp_region_t ?_
  refine wpc (step_plain rfl (acts_field (d := 4) (t := 1) (h := 1) (off := 0) (off' := 0) (ltN rfl) qC3_fo_52_0 rfl)) (by kernel_rfl) ?_
  refine wpc (step_plain rfl (acts_load_own (d := 5) (t := 4) (h := 1) (off := 0) (o := ⟨52, 3, true, [(.val (.int .i64 d.x) : A), .val (.int .i64 d.y), .val (.bool d.d)]⟩)  (x := .val (.int .i64 d.x)) (ltN rfl) qC3_ti_3 rfl)) (by kernel_rfl) ?_
  refine wpc (step_plain rfl (acts_field (d := 6) (t := 1) (h := 1) (off := 0) (off' := 1) (ltN rfl) qC3_fo_52_1 rfl)) (by kernel_rfl) ?_
  refine wpc (step_plain rfl (acts_load_own (d := 7) (t := 6) (h := 1) (off := 1) (o := ⟨52, 3, true, [(.val (.int .i64 d.x) : A), .val (.int .i64 d.y), .val (.bool d.d)]⟩)  (x := .val (.int .i64 d.y)) (ltN rfl) qC3_ti_3 rfl)) (by kernel_rfl) ?_
  refine wpc (step_plain rfl (acts_build (d := 8) (t := 49) (cells := [(.int .i64 d.x : Value), .int .i64 d.y]) (ltN rfl) (OpVs.cons (i := 0) (OpV.tmp 5 (.int .i64 d.x)) (OpVs.cons (i := 1) (OpV.tmp 7 (.int .i64 d.y)) (OpVs.nil))) rfl)) (by kernel_rfl) ?_
  refine wpc (step_plain rfl (acts_call1 (d := 9) (ltN rfl) (impl_CellIndex_fn (⟨d.x, d.y⟩ : Cel) (by first | omega | assumption | exact ok_ca ho)) (ArgVs.cons (ArgV.va (vs := [(.int .i64 d.x : Value), .int .i64 d.y]) (OpV.agg 8 [(.int .i64 d.x : Value), .int .i64 d.y])) (ArgVs.nil)) (ResV.val _))) (by kernel_rfl) ?_
  refine wpc (step_plain rfl (acts_bin (d := 10) (ltN rfl) (OpV.const (.int .i64 2)) (OpV.tmp 9 (.int .i64 (((idx (⟨d.x, d.y⟩ : Cel)) : Nat) : Int))) (r_mul (c := (2 * (((idx (⟨d.x, d.y⟩ : Cel)) : Nat) : Int))) (w64 (by first | omega | assumption | exact ok_ca ho) (by first | omega | assumption | exact ok_ca ho))))) (by kernel_rfl) ?_
  refine wpc (step_plain rfl (acts_assign (d := 3) (ltN rfl) (OpX.tmp 10 (V.v (.int .i64 (2 * (((idx (⟨d.x, d.y⟩ : Cel)) : Nat) : Int))))))) (by kernel_rfl) ?_
  refine wpl_nil ?_
  refine wp_seq' ?_
  refine wp_seq' ?_
  refine wp_region_t ?_
  refine wpc (step_plain rfl (acts_field (d := 11) (t := 1) (h := 1) (off := 0) (off' := 2) (ltN rfl) qC3_fo_52_2 rfl)) (by kernel_rfl) ?_
  refine wpc (step_plain rfl (acts_load_own (d := 12) (t := 11) (h := 1) (off := 2) (o := ⟨52, 3, true, [(.val (.int .i64 d.x) : A), .val (.int .i64 d.y), .val (.bool d.d)]⟩)  (x := .val (.bool d.d)) (ltN rfl) qC3_ti_4 rfl)) (by kernel_rfl) ?_
  refine wpl_nil ?_
  refine wp_if (t := 12) (d.d) (by kernel_rfl) (fun c1 => ?_) (fun c1 => ?_)
  · skip
    refine wp_region_t ?_
    refine wpc (step_plain rfl (acts_move (d := 13) (ltN rfl) (OpX.tmp 3 (V.v (.int .i64 (2 * (((idx (⟨d.x, d.y⟩ : Cel)) : Nat) : Int))))))) (by kernel_rfl) ?_
    refine wpc (step_plain rfl (acts_bin (d := 14) (ltN rfl) (OpV.tmp 13 (.int .i64 (2 * (((idx (⟨d.x, d.y⟩ : Cel)) : Nat) : Int)))) (OpV.const (.int .i64 1)) (r_add (c := ((2 * (((idx (⟨d.x, d.y⟩ : Cel)) : Nat) : Int)) + 1)) (w64 (by first | omega | assumption | exact ok_ca ho) (by first | omega | assumption | exact ok_ca ho))))) (by kernel_rfl) ?_
    refine wpc (step_plain rfl (acts_assign (d := 3) (ltN rfl) (OpX.tmp 14 (V.v (.int .i64 ((2 * (((idx (⟨d.x, d.y⟩ : Cel)) : Nat) : Int)) + 1)))))) (by kernel_rfl) ?_
    refine wpl_nil ?_
    refine wp_seq' ?_
    refine wp_region_t ?_
    refine wpc (step_plain rfl (acts_move (d := 15) (ltN rfl) (OpX.tmp 3 (V.v (.int .i64 ((2 * (((idx (⟨d.x, d.y⟩ : Cel)) : Nat) : Int)) + 1)))))) (by kernel_rfl) ?_
    refine wpc (step_plain rfl (acts_assign (d := 2) (ltN rfl) (OpX.tmp 15 (V.v (.int .i64 ((2 * (((idx (⟨d.x, d.y⟩ : Cel)) : Nat) : Int)) + 1)))))) (by kernel_rfl) ?_
    refine wpl_nil ?_
    refine wp_ret' ?_
    exact VRes.tmp 2 (.a (.val (.int .i64 ((2 * (((idx (⟨d.x, d.y⟩ : Cel)) : Nat) : Int)) + 1)))) _ (by kernel_rfl) (bval (congrArg (Value.int .i64) (by unfold ord ca; simp_all)))
  · skip
    refine wp_skip' ?_
    refine wp_seq' ?_
    refine wp_region_t ?_
    refine wpc (step_plain rfl (acts_move (d := 15) (ltN rfl) (OpX.tmp 3 (V.v (.int .i64 (2 * (((idx (⟨d.x, d.y⟩ : Cel)) : Nat) : Int))))))) (by kernel_rfl) ?_
    refine wpc (step_plain rfl (acts_assign (d := 2) (ltN rfl) (OpX.tmp 15 (V.v (.int .i64 (2 * (((idx (⟨d.x, d.y⟩ : Cel)) : Nat) : Int))))))) (by kernel_rfl) ?_
    refine wpl_nil ?_
    refine wp_ret' ?_
    exact VRes.tmp 2 (.a (.val (.int .i64 (2 * (((idx (⟨d.x, d.y⟩ : Cel)) : Nat) : Int))))) _ (by kernel_rfl) (bval (congrArg (Value.int .i64) (by unfold ord ca; simp_all)))

set_option maxHeartbeats 4000000 in
set_option maxRecDepth 100000 in
theorem impl_IsDominoBefore_fn (d e : Dom) : Fn Try.prog 77 [.agg ([(.int .i64 d.x : Value), .int .i64 d.y, .bool d.d].map A.val), .agg ([(.int .i64 e.x : Value), .int .i64 e.y, .bool e.d].map A.val)] [.val (.bool (bef d e))] := by
  refine fn_intro (N := 18) Try.func77 rfl (by kernel_rfl) rfl (Nat.le_of_ble_eq_true rfl) [2, 3, 6, 9, 13, 15] (ret1 rfl) (fun W => ?_)
  show Wp _ _ _ [(.s 0, some (.s (V.av [(.int .i64 d.x : Value), .int .i64 d.y, .bool d.d]))), (.s 1, some (.s (V.av [(.int .i64 e.x : Value), .int .i64 e.y, .bool e.d]))), (.o 2, some .free), (.o 3, some .free), (.o 6, some .free), (.o 9, some .free), (.o 13, some .free), (.o 15, some .free)]
  refine wp_seq' ?_
  refine wp_region_t ?_
  refine wpc (step_plain rfl (acts_box (d := 2) (h := 2) (b := .agg ([(.int .i64 d.x : Value), .int .i64 d.y, .bool d.d].map A.val)) (ltN rfl) (OpX.tmp 0 (V.av [(.int .i64 d.x : Value), .int .i64 d.y, .bool d.d])) (by intro y hy; simp [B.cs] at hy; rcases hy with rfl | rfl | rfl <;> rfl))) (by kernel_rfl) ?_
  refine wpc (step_plain rfl (acts_box (d := 3) (h := 3) (b := .agg ([(.int .i64 e.x : Value), .int .i64 e.y, .bool e.d].map A.val)) (ltN rfl) (OpX.tmp 1 (V.av [(.int .i64 e.x : Value), .int .i64 e.y, .bool e.d])) (by intro y hy; simp [B.cs] at hy; rcases hy with rfl | rfl | rfl <;> rfl))) (by kernel_rfl) ?_
  refine wpc (step_plain rfl (acts_assign (d := 4) (ltN rfl) (OpX.const (.bool false)))) (by kernel_rfl) ?_
  refine wpl_nil ?_
  refine wp_seq' ?_
  rcases Bool.eq_false_or_eq_true ((okD d)) with c1 | c1
  · skip
    rcases Bool.eq_false_or_eq_true ((okD e)) with c2 | c2
    · skip
      refine wp_drawn' (by kernel_rfl) (AllSteps.cons (step_plain rfl (acts_load_owns (d := 5) (t := 2) (h := 2) (off := 0) (o := ⟨52, 3, true, [(.val (.int .i64 d.x) : A), .val (.int .i64 d.y), .val (.bool d.d)]⟩)  (xs := [(.int .i64 d.x : Value), .int .i64 d.y, .bool d.d].map A.val) (ltN rfl) qC3_ti_52 rfl (by decide) rfl)) (AllSteps.cons (step_plain rfl (acts_call1 (d := 6) (ltN rfl) (impl_DominoOk_fn d ) (ArgVs.cons (ArgV.va (vs := [(.int .i64 d.x : Value), .int .i64 d.y, .bool d.d]) (OpV.agg 5 [(.int .i64 d.x : Value), .int .i64 d.y, .bool d.d])) (ArgVs.nil)) ((resval (congrArg Value.bool c1))))) (AllSteps.cons (step_plain rfl (acts_move (d := 7) (ltN rfl) (OpX.tmp 6 (V.v (.bool true))))) (AllSteps.cons (step_on (dj := 7) rfl rfl (acts_load_owns (d := 8) (t := 3) (h := 3) (off := 0) (o := ⟨52, 3, true, [(.val (.int .i64 e.x) : A), .val (.int .i64 e.y), .val (.bool e.d)]⟩)  (xs := [(.int .i64 e.x : Value), .int .i64 e.y, .bool e.d].map A.val) (ltN rfl) qC3_ti_52 rfl (by decide) rfl)) (AllSteps.cons (step_on (dj := 7) rfl rfl (acts_call1 (d := 9) (ltN rfl) (impl_DominoOk_fn e ) (ArgVs.cons (ArgV.va (vs := [(.int .i64 e.x : Value), .int .i64 e.y, .bool e.d]) (OpV.agg 8 [(.int .i64 e.x : Value), .int .i64 e.y, .bool e.d])) (ArgVs.nil)) ((resval (congrArg Value.bool c2))))) (AllSteps.cons (step_plain rfl (acts_pick_t (d := 10) (ltN rfl) (OpV.tmp 7 (.bool true)) (OpX.tmp 9 (V.v (.bool true))))) (AllSteps.cons (step_plain rfl (acts_move (d := 11) (ltN rfl) (OpX.tmp 10 (V.v (.bool true))))) (AllSteps.cons (step_on (dj := 11) rfl rfl (acts_load_owns (d := 12) (t := 2) (h := 2) (off := 0) (o := ⟨52, 3, true, [(.val (.int .i64 d.x) : A), .val (.int .i64 d.y), .val (.bool d.d)]⟩)  (xs := [(.int .i64 d.x : Value), .int .i64 d.y, .bool d.d].map A.val) (ltN rfl) qC3_ti_52 rfl (by decide) rfl)) (AllSteps.cons (step_on (dj := 11) rfl rfl (acts_call1 (d := 13) (ltN rfl) (impl_Domino__order_fn d (by omega)) (ArgVs.cons (ArgV.va (vs := [(.int .i64 d.x : Value), .int .i64 d.y, .bool d.d]) (OpV.agg 12 [(.int .i64 d.x : Value), .int .i64 d.y, .bool d.d])) (ArgVs.nil)) (ResV.val _))) (AllSteps.cons (step_on (dj := 11) rfl rfl (acts_load_owns (d := 14) (t := 3) (h := 3) (off := 0) (o := ⟨52, 3, true, [(.val (.int .i64 e.x) : A), .val (.int .i64 e.y), .val (.bool e.d)]⟩)  (xs := [(.int .i64 e.x : Value), .int .i64 e.y, .bool e.d].map A.val) (ltN rfl) qC3_ti_52 rfl (by decide) rfl)) (AllSteps.cons (step_on (dj := 11) rfl rfl (acts_call1 (d := 15) (ltN rfl) (impl_Domino__order_fn e (by omega)) (ArgVs.cons (ArgV.va (vs := [(.int .i64 e.x : Value), .int .i64 e.y, .bool e.d]) (OpV.agg 14 [(.int .i64 e.x : Value), .int .i64 e.y, .bool e.d])) (ArgVs.nil)) (ResV.val _))) (AllSteps.cons (step_on (dj := 11) rfl rfl (acts_bin (d := 16) (ltN rfl) (OpV.tmp 13 (.int .i64 (((ord d) : Nat) : Int))) (OpV.tmp 15 (.int .i64 (((ord e) : Nat) : Int))) (r_lss (c := (decide ((((ord d) : Nat) : Int) < (((ord e) : Nat) : Int)))) rfl))) (AllSteps.cons (step_plain rfl (acts_pick_t (d := 17) (ltN rfl) (OpV.tmp 11 (.bool true)) (OpX.tmp 16 (V.v (.bool (decide ((((ord d) : Nat) : Int) < (((ord e) : Nat) : Int)))))))) (AllSteps.cons (step_plain rfl (acts_assign (d := 4) (ltN rfl) (OpX.tmp 17 (V.v (.bool (decide ((((ord d) : Nat) : Int) < (((ord e) : Nat) : Int)))))))) (AllSteps.nil))))))))))))))) (by kernel_rfl) (by kernel_rfl) (by kernel_rfl) ?_
      refine wp_ret' ?_
      exact VRes.tmp 4 (.a (.val (.bool (decide ((((ord d) : Nat) : Int) < (((ord e) : Nat) : Int)))))) _ (by kernel_rfl) (bval (congrArg Value.bool (by first | (simp_all [bef]; done) | (unfold bef; simp_all; done))))
    · skip
      refine wp_drawn' (by kernel_rfl) (AllSteps.cons (step_plain rfl (acts_load_owns (d := 5) (t := 2) (h := 2) (off := 0) (o := ⟨52, 3, true, [(.val (.int .i64 d.x) : A), .val (.int .i64 d.y), .val (.bool d.d)]⟩)  (xs := [(.int .i64 d.x : Value), .int .i64 d.y, .bool d.d].map A.val) (ltN rfl) qC3_ti_52 rfl (by decide) rfl)) (AllSteps.cons (step_plain rfl (acts_call1 (d := 6) (ltN rfl) (impl_DominoOk_fn d ) (ArgVs.cons (ArgV.va (vs := [(.int .i64 d.x : Value), .int .i64 d.y, .bool d.d]) (OpV.agg 5 [(.int .i64 d.x : Value), .int .i64 d.y, .bool d.d])) (ArgVs.nil)) ((resval (congrArg Value.bool c1))))) (AllSteps.cons (step_plain rfl (acts_move (d := 7) (ltN rfl) (OpX.tmp 6 (V.v (.bool true))))) (AllSteps.cons (step_on (dj := 7) rfl rfl (acts_load_owns (d := 8) (t := 3) (h := 3) (off := 0) (o := ⟨52, 3, true, [(.val (.int .i64 e.x) : A), .val (.int .i64 e.y), .val (.bool e.d)]⟩)  (xs := [(.int .i64 e.x : Value), .int .i64 e.y, .bool e.d].map A.val) (ltN rfl) qC3_ti_52 rfl (by decide) rfl)) (AllSteps.cons (step_on (dj := 7) rfl rfl (acts_call1 (d := 9) (ltN rfl) (impl_DominoOk_fn e ) (ArgVs.cons (ArgV.va (vs := [(.int .i64 e.x : Value), .int .i64 e.y, .bool e.d]) (OpV.agg 8 [(.int .i64 e.x : Value), .int .i64 e.y, .bool e.d])) (ArgVs.nil)) ((resval (congrArg Value.bool c2))))) (AllSteps.cons (step_plain rfl (acts_pick_t (d := 10) (ltN rfl) (OpV.tmp 7 (.bool true)) (OpX.tmp 9 (V.v (.bool false))))) (AllSteps.cons (step_plain rfl (acts_move (d := 11) (ltN rfl) (OpX.tmp 10 (V.v (.bool false))))) (AllSteps.cons (step_off (dj := 11) (b' := false) rfl rfl (by decide) rfl (ltN rfl)) (AllSteps.cons (step_off (dj := 11) (b' := false) rfl rfl (by decide) rfl (ltN rfl)) (AllSteps.cons (step_off (dj := 11) (b' := false) rfl rfl (by decide) rfl (ltN rfl)) (AllSteps.cons (step_off (dj := 11) (b' := false) rfl rfl (by decide) rfl (ltN rfl)) (AllSteps.cons (step_off (dj := 11) (b' := false) rfl rfl (by decide) rfl (ltN rfl)) (AllSteps.cons (step_plain rfl (acts_pick_f (d := 17) (ltN rfl) (OpV.tmp 11 (.bool false)) (OpX.const (.bool false)))) (AllSteps.cons (step_plain rfl (acts_assign (d := 4) (ltN rfl) (OpX.tmp 17 (V.v (.bool false))))) (AllSteps.nil))))))))))))))) (by kernel_rfl) (by kernel_rfl) (by kernel_rfl) ?_
      refine wp_ret' ?_
      exact VRes.tmp 4 (.a (.val (.bool false))) _ (by kernel_rfl) (bval (congrArg Value.bool (by first | (simp_all [bef]; done) | (unfold bef; simp_all; done))))
  · skip
    refine wp_drawn' (by kernel_rfl) (AllSteps.cons (step_plain rfl (acts_load_owns (d := 5) (t := 2) (h := 2) (off := 0) (o := ⟨52, 3, true, [(.val (.int .i64 d.x) : A), .val (.int .i64 d.y), .val (.bool d.d)]⟩)  (xs := [(.int .i64 d.x : Value), .int .i64 d.y, .bool d.d].map A.val) (ltN rfl) qC3_ti_52 rfl (by decide) rfl)) (AllSteps.cons (step_plain rfl (acts_call1 (d := 6) (ltN rfl) (impl_DominoOk_fn d ) (ArgVs.cons (ArgV.va (vs := [(.int .i64 d.x : Value), .int .i64 d.y, .bool d.d]) (OpV.agg 5 [(.int .i64 d.x : Value), .int .i64 d.y, .bool d.d])) (ArgVs.nil)) ((resval (congrArg Value.bool c1))))) (AllSteps.cons (step_plain rfl (acts_move (d := 7) (ltN rfl) (OpX.tmp 6 (V.v (.bool false))))) (AllSteps.cons (step_off (dj := 7) (b' := false) rfl rfl (by decide) rfl (ltN rfl)) (AllSteps.cons (step_off (dj := 7) (b' := false) rfl rfl (by decide) rfl (ltN rfl)) (AllSteps.cons (step_plain rfl (acts_pick_f (d := 10) (ltN rfl) (OpV.tmp 7 (.bool false)) (OpX.const (.bool false)))) (AllSteps.cons (step_plain rfl (acts_move (d := 11) (ltN rfl) (OpX.tmp 10 (V.v (.bool false))))) (AllSteps.cons (step_off (dj := 11) (b' := false) rfl rfl (by decide) rfl (ltN rfl)) (AllSteps.cons (step_off (dj := 11) (b' := false) rfl rfl (by decide) rfl (ltN rfl)) (AllSteps.cons (step_off (dj := 11) (b' := false) rfl rfl (by decide) rfl (ltN rfl)) (AllSteps.cons (step_off (dj := 11) (b' := false) rfl rfl (by decide) rfl (ltN rfl)) (AllSteps.cons (step_off (dj := 11) (b' := false) rfl rfl (by decide) rfl (ltN rfl)) (AllSteps.cons (step_plain rfl (acts_pick_f (d := 17) (ltN rfl) (OpV.tmp 11 (.bool false)) (OpX.const (.bool false)))) (AllSteps.cons (step_plain rfl (acts_assign (d := 4) (ltN rfl) (OpX.tmp 17 (V.v (.bool false))))) (AllSteps.nil))))))))))))))) (by kernel_rfl) (by kernel_rfl) (by kernel_rfl) ?_
    refine wp_ret' ?_
    exact VRes.tmp 4 (.a (.val (.bool false))) _ (by kernel_rfl) (bval (congrArg Value.bool (by first | (simp_all [bef]; done) | (unfold bef; simp_all; done))))

set_option maxHeartbeats 4000000 in
set_option maxRecDepth 100000 in
theorem spec_IsDominoBefore_fn (d e : Dom) : Fn Try.prog 70 [.agg ([(.int .i64 d.x : Value), .int .i64 d.y, .bool d.d].map A.val), .agg ([(.int .i64 e.x : Value), .int .i64 e.y, .bool e.d].map A.val)] [.val (.bool (bef d e))] := by
  refine fn_intro (N := 44) Try.func70 rfl (by kernel_rfl) rfl (Nat.le_of_ble_eq_true rfl) [2, 3, 8, 12] (ret1 rfl) (fun W => ?_)
  show Wp _ _ _ [(.s 0, some (.s (V.av [(.int .i64 d.x : Value), .int .i64 d.y, .bool d.d]))), (.s 1, some (.s (V.av [(.int .i64 e.x : Value), .int .i64 e.y, .bool e.d]))), (.o 2, some .free), (.o 3, some .free), (.o 8, some .free), (.o 12, some .free)]
  refine wp_seq' ?_
  refine wp_region_t ?_
  refine wpc (step_plain rfl (acts_box (d := 2) (h := 2) (b := .agg ([(.int .i64 d.x : Value), .int .i64 d.y, .bool d.d].map A.val)) (ltN rfl) (OpX.tmp 0 (V.av [(.int .i64 d.x : Value), .int .i64 d.y, .bool d.d])) (by intro y hy; simp [B.cs] at hy; rcases hy with rfl | rfl | rfl <;> rfl))) (by kernel_rfl) ?_
  refine wpc (step_plain rfl (acts_box (d := 3) (h := 3) (b := .agg ([(.int .i64 e.x : Value), .int .i64 e.y, .bool e.d].map A.val)) (ltN rfl) (OpX.tmp 1 (V.av [(.int .i64 e.x : Value), .int .i64 e.y, .bool e.d])) (by intro y hy; simp [B.cs] at hy; rcases hy with rfl | rfl | rfl <;> rfl))) (by kernel_rfl) ?_
  refine wpc (step_plain rfl (acts_assign (d := 4) (ltN rfl) (OpX.const (.bool false)))) (by kernel_rfl) ?_
  refine wpl_nil ?_
  refine wp_seq' ?_
  refine wp_seq' ?_
  rcases Bool.eq_false_or_eq_true ((okD d)) with c1 | c1
  · skip
    refine wp_region_t ?_
    refine wpc (step_plain rfl (acts_load_owns (d := 7) (t := 2) (h := 2) (off := 0) (o := ⟨52, 3, true, [(.val (.int .i64 d.x) : A), .val (.int .i64 d.y), .val (.bool d.d)]⟩)  (xs := [(.int .i64 d.x : Value), .int .i64 d.y, .bool d.d].map A.val) (ltN rfl) qC3_ti_52 rfl (by decide) rfl)) (by kernel_rfl) ?_
    refine wpc (step_plain rfl (acts_call1 (d := 8) (ltN rfl) (spec_DominoOk_fn d ) (ArgVs.cons (ArgV.va (vs := [(.int .i64 d.x : Value), .int .i64 d.y, .bool d.d]) (OpV.agg 7 [(.int .i64 d.x : Value), .int .i64 d.y, .bool d.d])) (ArgVs.nil)) ((resval (congrArg Value.bool c1))))) (by kernel_rfl) ?_
    refine wpc (step_plain rfl (acts_un (d := 9) (ltN rfl) (OpV.tmp 8 (.bool true)) (r_not (c := false) rfl))) (by kernel_rfl) ?_
    refine wpc (step_plain rfl (acts_move (d := 10) (ltN rfl) (OpX.tmp 9 (V.v (.bool false))))) (by kernel_rfl) ?_
    refine wpc (step_on (dj := 10) rfl rfl (acts_load_owns (d := 11) (t := 3) (h := 3) (off := 0) (o := ⟨52, 3, true, [(.val (.int .i64 e.x) : A), .val (.int .i64 e.y), .val (.bool e.d)]⟩)  (xs := [(.int .i64 e.x : Value), .int .i64 e.y, .bool e.d].map A.val) (ltN rfl) qC3_ti_52 rfl (by decide) rfl)) (by kernel_rfl) ?_
    refine wpc (step_on (dj := 10) rfl rfl (acts_call1 (d := 12) (ltN rfl) (spec_DominoOk_fn e ) (ArgVs.cons (ArgV.va (vs := [(.int .i64 e.x : Value), .int .i64 e.y, .bool e.d]) (OpV.agg 11 [(.int .i64 e.x : Value), .int .i64 e.y, .bool e.d])) (ArgVs.nil)) (ResV.val _))) (by kernel_rfl) ?_
    refine wpc (step_on (dj := 10) rfl rfl (acts_un (d := 13) (ltN rfl) (OpV.tmp 12 (.bool (okD e))) (r_not (c := (!(okD e))) rfl))) (by kernel_rfl) ?_
    refine wpc (step_plain rfl (acts_pick_f (d := 14) (ltN rfl) (OpV.tmp 10 (.bool false)) (OpX.tmp 13 (V.v (.bool (!(okD e))))))) (by kernel_rfl) ?_
    refine wpl_nil ?_
    refine wp_if (t := 14) ((!(okD e))) (by kernel_rfl) (fun c2 => ?_) (fun c2 => ?_)
    · skip
      have c3 : (okD e) = false := by simpa using c2
      refine wp_seq' ?_
      refine wp_region_t ?_
      refine wpc (step_plain rfl (acts_assign (d := 4) (ltN rfl) (OpX.const (.bool false)))) (by kernel_rfl) ?_
      refine wpl_nil ?_
      refine wp_ret' ?_
      exact VRes.tmp 4 (.a (.val (.bool false))) _ (by kernel_rfl) (bval (congrArg Value.bool (by first | (simp_all [bef]; done) | (have q1 := ord_val (d := d) (by assumption); have q2 := ord_val (d := e) (by assumption); unfold bef; cases hd1 : d.d <;> cases he1 : e.d <;> simp_all <;> omega))))
    · skip
      have c4 : (okD e) = true := by simpa using c2
      refine wp_skip' ?_
      refine wp_seq' ?_
      refine wp_region_t ?_
      refine wpc (step_plain rfl (acts_field (d := 15) (t := 2) (h := 2) (off := 0) (off' := 1) (ltN rfl) qC3_fo_52_1 rfl)) (by kernel_rfl) ?_
      refine wpc (step_plain rfl (acts_load_own (d := 16) (t := 15) (h := 2) (off := 1) (o := ⟨52, 3, true, [(.val (.int .i64 d.x) : A), .val (.int .i64 d.y), .val (.bool d.d)]⟩)  (x := .val (.int .i64 d.y)) (ltN rfl) qC3_ti_3 rfl)) (by kernel_rfl) ?_
      refine wpc (step_plain rfl (acts_bin (d := 17) (ltN rfl) (OpV.tmp 16 (.int .i64 d.y)) (OpV.const (.int .i64 8)) (r_mul (c := (d.y * 8)) (w64 (by (have q1 := okD_bd (d := d) (by assumption); have q2 := okD_bd (d := e) (by assumption); omega)) (by (have q1 := okD_bd (d := d) (by assumption); have q2 := okD_bd (d := e) (by assumption); omega)))))) (by kernel_rfl) ?_
      refine wpc (step_plain rfl (acts_field (d := 18) (t := 2) (h := 2) (off := 0) (off' := 0) (ltN rfl) qC3_fo_52_0 rfl)) (by kernel_rfl) ?_
      refine wpc (step_plain rfl (acts_load_own (d := 19) (t := 18) (h := 2) (off := 0) (o := ⟨52, 3, true, [(.val (.int .i64 d.x) : A), .val (.int .i64 d.y), .val (.bool d.d)]⟩)  (x := .val (.int .i64 d.x)) (ltN rfl) qC3_ti_3 rfl)) (by kernel_rfl) ?_
      refine wpc (step_plain rfl (acts_bin (d := 20) (ltN rfl) (OpV.tmp 17 (.int .i64 (d.y * 8))) (OpV.tmp 19 (.int .i64 d.x)) (r_add (c := ((d.y * 8) + d.x)) (w64 (by (have q1 := okD_bd (d := d) (by assumption); have q2 := okD_bd (d := e) (by assumption); omega)) (by (have q1 := okD_bd (d := d) (by assumption); have q2 := okD_bd (d := e) (by assumption); omega)))))) (by kernel_rfl) ?_
      refine wpc (step_plain rfl (acts_assign (d := 5) (ltN rfl) (OpX.tmp 20 (V.v (.int .i64 ((d.y * 8) + d.x)))))) (by kernel_rfl) ?_
      refine wpl_nil ?_
      refine wp_seq' ?_
      refine wp_region_t ?_
      refine wpc (step_plain rfl (acts_field (d := 21) (t := 3) (h := 3) (off := 0) (off' := 1) (ltN rfl) qC3_fo_52_1 rfl)) (by kernel_rfl) ?_
      refine wpc (step_plain rfl (acts_load_own (d := 22) (t := 21) (h := 3) (off := 1) (o := ⟨52, 3, true, [(.val (.int .i64 e.x) : A), .val (.int .i64 e.y), .val (.bool e.d)]⟩)  (x := .val (.int .i64 e.y)) (ltN rfl) qC3_ti_3 rfl)) (by kernel_rfl) ?_
      refine wpc (step_plain rfl (acts_bin (d := 23) (ltN rfl) (OpV.tmp 22 (.int .i64 e.y)) (OpV.const (.int .i64 8)) (r_mul (c := (e.y * 8)) (w64 (by (have q1 := okD_bd (d := d) (by assumption); have q2 := okD_bd (d := e) (by assumption); omega)) (by (have q1 := okD_bd (d := d) (by assumption); have q2 := okD_bd (d := e) (by assumption); omega)))))) (by kernel_rfl) ?_
      refine wpc (step_plain rfl (acts_field (d := 24) (t := 3) (h := 3) (off := 0) (off' := 0) (ltN rfl) qC3_fo_52_0 rfl)) (by kernel_rfl) ?_
      refine wpc (step_plain rfl (acts_load_own (d := 25) (t := 24) (h := 3) (off := 0) (o := ⟨52, 3, true, [(.val (.int .i64 e.x) : A), .val (.int .i64 e.y), .val (.bool e.d)]⟩)  (x := .val (.int .i64 e.x)) (ltN rfl) qC3_ti_3 rfl)) (by kernel_rfl) ?_
      refine wpc (step_plain rfl (acts_bin (d := 26) (ltN rfl) (OpV.tmp 23 (.int .i64 (e.y * 8))) (OpV.tmp 25 (.int .i64 e.x)) (r_add (c := ((e.y * 8) + e.x)) (w64 (by (have q1 := okD_bd (d := d) (by assumption); have q2 := okD_bd (d := e) (by assumption); omega)) (by (have q1 := okD_bd (d := d) (by assumption); have q2 := okD_bd (d := e) (by assumption); omega)))))) (by kernel_rfl) ?_
      refine wpc (step_plain rfl (acts_assign (d := 6) (ltN rfl) (OpX.tmp 26 (V.v (.int .i64 ((e.y * 8) + e.x)))))) (by kernel_rfl) ?_
      refine wpl_nil ?_
      refine wp_seq' ?_
      rcases Bool.eq_false_or_eq_true (decide (((d.y * 8) + d.x) < ((e.y * 8) + e.x))) with c5 | c5
      · skip
        have c5P := of_decide_eq_true c5
        refine wp_region_t ?_
        refine wpc (step_plain rfl (acts_move (d := 27) (ltN rfl) (OpX.tmp 5 (V.v (.int .i64 ((d.y * 8) + d.x)))))) (by kernel_rfl) ?_
        refine wpc (step_plain rfl (acts_move (d := 28) (ltN rfl) (OpX.tmp 6 (V.v (.int .i64 ((e.y * 8) + e.x)))))) (by kernel_rfl) ?_
        refine wpc (step_plain rfl (acts_bin (d := 29) (ltN rfl) (OpV.tmp 27 (.int .i64 ((d.y * 8) + d.x))) (OpV.tmp 28 (.int .i64 ((e.y * 8) + e.x))) (r_lss (c := true) c5))) (by kernel_rfl) ?_
        refine wpc (step_plain rfl (acts_move (d := 30) (ltN rfl) (OpX.tmp 29 (V.v (.bool true))))) (by kernel_rfl) ?_
        refine wpc (step_off (dj := 30) (b' := true) rfl rfl (by decide) rfl (ltN rfl)) (by kernel_rfl) ?_
        refine wpc (step_off (dj := 30) (b' := true) rfl rfl (by decide) rfl (ltN rfl)) (by kernel_rfl) ?_
        refine wpc (step_off (dj := 30) (b' := true) rfl rfl (by decide) rfl (ltN rfl)) (by kernel_rfl) ?_
        refine wpc (step_offu (dj := 30) (b' := true) rfl rfl (by decide) rfl (ltN rfl)) (by kernel_rfl) ?_
        refine wpc (step_offx (dj := 34) rfl rfl rfl (ltN rfl)) (by kernel_rfl) ?_
        refine wpc (step_offx (dj := 34) rfl rfl rfl (ltN rfl)) (by kernel_rfl) ?_
        refine wpc (step_offx (dj := 34) rfl rfl rfl (ltN rfl)) (by kernel_rfl) ?_
        refine wpc (step_off (dj := 30) (b' := true) rfl rfl (by decide) rfl (ltN rfl)) (by kernel_rfl) ?_
        refine wpc (step_offu (dj := 30) (b' := true) rfl rfl (by decide) rfl (ltN rfl)) (by kernel_rfl) ?_
        refine wpc (step_offx (dj := 39) rfl rfl rfl (ltN rfl)) (by kernel_rfl) ?_
        refine wpc (step_offx (dj := 39) rfl rfl rfl (ltN rfl)) (by kernel_rfl) ?_
        refine wpc (step_off (dj := 30) (b' := true) rfl rfl (by decide) rfl (ltN rfl)) (by kernel_rfl) ?_
        refine wpc (step_plain rfl (acts_pick_t (d := 43) (ltN rfl) (OpV.tmp 30 (.bool true)) (OpX.const (.bool true)))) (by kernel_rfl) ?_
        refine wpc (step_plain rfl (acts_assign (d := 4) (ltN rfl) (OpX.tmp 43 (V.v (.bool true))))) (by kernel_rfl) ?_
        refine wpl_nil ?_
        refine wp_ret' ?_
        exact VRes.tmp 4 (.a (.val (.bool true))) _ (by kernel_rfl) (bval (congrArg Value.bool (by first | (simp_all [bef]; done) | (have q1 := ord_val (d := d) (by assumption); have q2 := ord_val (d := e) (by assumption); unfold bef; cases hd1 : d.d <;> cases he1 : e.d <;> simp_all <;> omega))))
      · skip
        have c5P := of_decide_eq_false c5
        rcases Bool.eq_false_or_eq_true (decide (((d.y * 8) + d.x) = ((e.y * 8) + e.x))) with c6 | c6
        · skip
          have c6P := of_decide_eq_true c6
          rcases Bool.eq_false_or_eq_true (d.d) with c7 | c7
          · skip
            refine wp_region_t ?_
            refine wpc (step_plain rfl (acts_move (d := 27) (ltN rfl) (OpX.tmp 5 (V.v (.int .i64 ((d.y * 8) + d.x)))))) (by kernel_rfl) ?_
            refine wpc (step_plain rfl (acts_move (d := 28) (ltN rfl) (OpX.tmp 6 (V.v (.int .i64 ((e.y * 8) + e.x)))))) (by kernel_rfl) ?_
            refine wpc (step_plain rfl (acts_bin (d := 29) (ltN rfl) (OpV.tmp 27 (.int .i64 ((d.y * 8) + d.x))) (OpV.tmp 28 (.int .i64 ((e.y * 8) + e.x))) (r_lss (c := false) c5))) (by kernel_rfl) ?_
            refine wpc (step_plain rfl (acts_move (d := 30) (ltN rfl) (OpX.tmp 29 (V.v (.bool false))))) (by kernel_rfl) ?_
            refine wpc (step_on (dj := 30) rfl rfl (acts_move (d := 31) (ltN rfl) (OpX.tmp 5 (V.v (.int .i64 ((d.y * 8) + d.x)))))) (by kernel_rfl) ?_
            refine wpc (step_on (dj := 30) rfl rfl (acts_move (d := 32) (ltN rfl) (OpX.tmp 6 (V.v (.int .i64 ((e.y * 8) + e.x)))))) (by kernel_rfl) ?_
            refine wpc (step_on (dj := 30) rfl rfl (acts_bin (d := 33) (ltN rfl) (OpV.tmp 31 (.int .i64 ((d.y * 8) + d.x))) (OpV.tmp 32 (.int .i64 ((e.y * 8) + e.x))) (r_eql (c := true) c6))) (by kernel_rfl) ?_
            refine wpc (step_on (dj := 30) rfl rfl (acts_move (d := 34) (ltN rfl) (OpX.tmp 33 (V.v (.bool true))))) (by kernel_rfl) ?_
            refine wpc (step_on (dj := 34) rfl rfl (acts_field (d := 35) (t := 2) (h := 2) (off := 0) (off' := 2) (ltN rfl) qC3_fo_52_2 rfl)) (by kernel_rfl) ?_
            refine wpc (step_on (dj := 34) rfl rfl (acts_load_own (d := 36) (t := 35) (h := 2) (off := 2) (o := ⟨52, 3, true, [(.val (.int .i64 d.x) : A), .val (.int .i64 d.y), .val (.bool d.d)]⟩)  (x := .val (.bool d.d)) (ltN rfl) qC3_ti_4 rfl)) (by kernel_rfl) ?_
            refine wpc (step_on (dj := 34) rfl rfl (acts_un (d := 37) (ltN rfl) (OpV.tmp 36 (.bool d.d)) (r_not (c := false) (by first | (rw [c7]; done) | (rw [c7]; rfl))))) (by kernel_rfl) ?_
            refine wpc (step_on (dj := 30) rfl rfl (acts_pick_t (d := 38) (ltN rfl) (OpV.tmp 34 (.bool true)) (OpX.tmp 37 (V.v (.bool false))))) (by kernel_rfl) ?_
            refine wpc (step_on (dj := 30) rfl rfl (acts_move (d := 39) (ltN rfl) (OpX.tmp 38 (V.v (.bool false))))) (by kernel_rfl) ?_
            refine wpc (step_off (dj := 39) (b' := false) rfl rfl (by decide) rfl (ltN rfl)) (by kernel_rfl) ?_
            refine wpc (step_off (dj := 39) (b' := false) rfl rfl (by decide) rfl (ltN rfl)) (by kernel_rfl) ?_
            refine wpc (step_on (dj := 30) rfl rfl (acts_pick_f (d := 42) (ltN rfl) (OpV.tmp 39 (.bool false)) (OpX.const (.bool false)))) (by kernel_rfl) ?_
            refine wpc (step_plain rfl (acts_pick_f (d := 43) (ltN rfl) (OpV.tmp 30 (.bool false)) (OpX.tmp 42 (V.v (.bool false))))) (by kernel_rfl) ?_
            refine wpc (step_plain rfl (acts_assign (d := 4) (ltN rfl) (OpX.tmp 43 (V.v (.bool false))))) (by kernel_rfl) ?_
            refine wpl_nil ?_
            refine wp_ret' ?_
            exact VRes.tmp 4 (.a (.val (.bool false))) _ (by kernel_rfl) (bval (congrArg Value.bool (by first | (simp_all [bef]; done) | (have q1 := ord_val (d := d) (by assumption); have q2 := ord_val (d := e) (by assumption); unfold bef; cases hd1 : d.d <;> cases he1 : e.d <;> simp_all <;> omega))))
          · skip
            refine wp_region_t ?_
            refine wpc (step_plain rfl (acts_move (d := 27) (ltN rfl) (OpX.tmp 5 (V.v (.int .i64 ((d.y * 8) + d.x)))))) (by kernel_rfl) ?_
            refine wpc (step_plain rfl (acts_move (d := 28) (ltN rfl) (OpX.tmp 6 (V.v (.int .i64 ((e.y * 8) + e.x)))))) (by kernel_rfl) ?_
            refine wpc (step_plain rfl (acts_bin (d := 29) (ltN rfl) (OpV.tmp 27 (.int .i64 ((d.y * 8) + d.x))) (OpV.tmp 28 (.int .i64 ((e.y * 8) + e.x))) (r_lss (c := false) c5))) (by kernel_rfl) ?_
            refine wpc (step_plain rfl (acts_move (d := 30) (ltN rfl) (OpX.tmp 29 (V.v (.bool false))))) (by kernel_rfl) ?_
            refine wpc (step_on (dj := 30) rfl rfl (acts_move (d := 31) (ltN rfl) (OpX.tmp 5 (V.v (.int .i64 ((d.y * 8) + d.x)))))) (by kernel_rfl) ?_
            refine wpc (step_on (dj := 30) rfl rfl (acts_move (d := 32) (ltN rfl) (OpX.tmp 6 (V.v (.int .i64 ((e.y * 8) + e.x)))))) (by kernel_rfl) ?_
            refine wpc (step_on (dj := 30) rfl rfl (acts_bin (d := 33) (ltN rfl) (OpV.tmp 31 (.int .i64 ((d.y * 8) + d.x))) (OpV.tmp 32 (.int .i64 ((e.y * 8) + e.x))) (r_eql (c := true) c6))) (by kernel_rfl) ?_
            refine wpc (step_on (dj := 30) rfl rfl (acts_move (d := 34) (ltN rfl) (OpX.tmp 33 (V.v (.bool true))))) (by kernel_rfl) ?_
            refine wpc (step_on (dj := 34) rfl rfl (acts_field (d := 35) (t := 2) (h := 2) (off := 0) (off' := 2) (ltN rfl) qC3_fo_52_2 rfl)) (by kernel_rfl) ?_
            refine wpc (step_on (dj := 34) rfl rfl (acts_load_own (d := 36) (t := 35) (h := 2) (off := 2) (o := ⟨52, 3, true, [(.val (.int .i64 d.x) : A), .val (.int .i64 d.y), .val (.bool d.d)]⟩)  (x := .val (.bool d.d)) (ltN rfl) qC3_ti_4 rfl)) (by kernel_rfl) ?_
            refine wpc (step_on (dj := 34) rfl rfl (acts_un (d := 37) (ltN rfl) (OpV.tmp 36 (.bool d.d)) (r_not (c := true) (by first | (rw [c7]; done) | (rw [c7]; rfl))))) (by kernel_rfl) ?_
            refine wpc (step_on (dj := 30) rfl rfl (acts_pick_t (d := 38) (ltN rfl) (OpV.tmp 34 (.bool true)) (OpX.tmp 37 (V.v (.bool true))))) (by kernel_rfl) ?_
            refine wpc (step_on (dj := 30) rfl rfl (acts_move (d := 39) (ltN rfl) (OpX.tmp 38 (V.v (.bool true))))) (by kernel_rfl) ?_
            refine wpc (step_on (dj := 39) rfl rfl (acts_field (d := 40) (t := 3) (h := 3) (off := 0) (off' := 2) (ltN rfl) qC3_fo_52_2 rfl)) (by kernel_rfl) ?_
            refine wpc (step_on (dj := 39) rfl rfl (acts_load_own (d := 41) (t := 40) (h := 3) (off := 2) (o := ⟨52, 3, true, [(.val (.int .i64 e.x) : A), .val (.int .i64 e.y), .val (.bool e.d)]⟩)  (x := .val (.bool e.d)) (ltN rfl) qC3_ti_4 rfl)) (by kernel_rfl) ?_
            refine wpc (step_on (dj := 30) rfl rfl (acts_pick_t (d := 42) (ltN rfl) (OpV.tmp 39 (.bool true)) (OpX.tmp 41 (V.v (.bool e.d))))) (by kernel_rfl) ?_
            refine wpc (step_plain rfl (acts_pick_f (d := 43) (ltN rfl) (OpV.tmp 30 (.bool false)) (OpX.tmp 42 (V.v (.bool e.d))))) (by kernel_rfl) ?_
            refine wpc (step_plain rfl (acts_assign (d := 4) (ltN rfl) (OpX.tmp 43 (V.v (.bool e.d))))) (by kernel_rfl) ?_
            refine wpl_nil ?_
            refine wp_ret' ?_
            exact VRes.tmp 4 (.a (.val (.bool e.d))) _ (by kernel_rfl) (bval (congrArg Value.bool (by first | (simp_all [bef]; done) | (have q1 := ord_val (d := d) (by assumption); have q2 := ord_val (d := e) (by assumption); unfold bef; cases hd1 : d.d <;> cases he1 : e.d <;> simp_all <;> omega))))
        · skip
          have c6P := of_decide_eq_false c6
          refine wp_region_t ?_
          refine wpc (step_plain rfl (acts_move (d := 27) (ltN rfl) (OpX.tmp 5 (V.v (.int .i64 ((d.y * 8) + d.x)))))) (by kernel_rfl) ?_
          refine wpc (step_plain rfl (acts_move (d := 28) (ltN rfl) (OpX.tmp 6 (V.v (.int .i64 ((e.y * 8) + e.x)))))) (by kernel_rfl) ?_
          refine wpc (step_plain rfl (acts_bin (d := 29) (ltN rfl) (OpV.tmp 27 (.int .i64 ((d.y * 8) + d.x))) (OpV.tmp 28 (.int .i64 ((e.y * 8) + e.x))) (r_lss (c := false) c5))) (by kernel_rfl) ?_
          refine wpc (step_plain rfl (acts_move (d := 30) (ltN rfl) (OpX.tmp 29 (V.v (.bool false))))) (by kernel_rfl) ?_
          refine wpc (step_on (dj := 30) rfl rfl (acts_move (d := 31) (ltN rfl) (OpX.tmp 5 (V.v (.int .i64 ((d.y * 8) + d.x)))))) (by kernel_rfl) ?_
          refine wpc (step_on (dj := 30) rfl rfl (acts_move (d := 32) (ltN rfl) (OpX.tmp 6 (V.v (.int .i64 ((e.y * 8) + e.x)))))) (by kernel_rfl) ?_
          refine wpc (step_on (dj := 30) rfl rfl (acts_bin (d := 33) (ltN rfl) (OpV.tmp 31 (.int .i64 ((d.y * 8) + d.x))) (OpV.tmp 32 (.int .i64 ((e.y * 8) + e.x))) (r_eql (c := false) c6))) (by kernel_rfl) ?_
          refine wpc (step_on (dj := 30) rfl rfl (acts_move (d := 34) (ltN rfl) (OpX.tmp 33 (V.v (.bool false))))) (by kernel_rfl) ?_
          refine wpc (step_off (dj := 34) (b' := false) rfl rfl (by decide) rfl (ltN rfl)) (by kernel_rfl) ?_
          refine wpc (step_off (dj := 34) (b' := false) rfl rfl (by decide) rfl (ltN rfl)) (by kernel_rfl) ?_
          refine wpc (step_off (dj := 34) (b' := false) rfl rfl (by decide) rfl (ltN rfl)) (by kernel_rfl) ?_
          refine wpc (step_on (dj := 30) rfl rfl (acts_pick_f (d := 38) (ltN rfl) (OpV.tmp 34 (.bool false)) (OpX.const (.bool false)))) (by kernel_rfl) ?_
          refine wpc (step_on (dj := 30) rfl rfl (acts_move (d := 39) (ltN rfl) (OpX.tmp 38 (V.v (.bool false))))) (by kernel_rfl) ?_
          refine wpc (step_off (dj := 39) (b' := false) rfl rfl (by decide) rfl (ltN rfl)) (by kernel_rfl) ?_
          refine wpc (step_off (dj := 39) (b' := false) rfl rfl (by decide) rfl (ltN rfl)) (by kernel_rfl) ?_
          refine wpc (step_on (dj := 30) rfl rfl (acts_pick_f (d := 42) (ltN rfl) (OpV.tmp 39 (.bool false)) (OpX.const (.bool false)))) (by kernel_rfl) ?_
          refine wpc (step_plain rfl (acts_pick_f (d := 43) (ltN rfl) (OpV.tmp 30 (.bool false)) (OpX.tmp 42 (V.v (.bool false))))) (by kernel_rfl) ?_
          refine wpc (step_plain rfl (acts_assign (d := 4) (ltN rfl) (OpX.tmp 43 (V.v (.bool false))))) (by kernel_rfl) ?_
          refine wpl_nil ?_
          refine wp_ret' ?_
          exact VRes.tmp 4 (.a (.val (.bool false))) _ (by kernel_rfl) (bval (congrArg Value.bool (by first | (simp_all [bef]; done) | (have q1 := ord_val (d := d) (by assumption); have q2 := ord_val (d := e) (by assumption); unfold bef; cases hd1 : d.d <;> cases he1 : e.d <;> simp_all <;> omega))))
  · skip
    refine wp_region_t ?_
    refine wpc (step_plain rfl (acts_load_owns (d := 7) (t := 2) (h := 2) (off := 0) (o := ⟨52, 3, true, [(.val (.int .i64 d.x) : A), .val (.int .i64 d.y), .val (.bool d.d)]⟩)  (xs := [(.int .i64 d.x : Value), .int .i64 d.y, .bool d.d].map A.val) (ltN rfl) qC3_ti_52 rfl (by decide) rfl)) (by kernel_rfl) ?_
    refine wpc (step_plain rfl (acts_call1 (d := 8) (ltN rfl) (spec_DominoOk_fn d ) (ArgVs.cons (ArgV.va (vs := [(.int .i64 d.x : Value), .int .i64 d.y, .bool d.d]) (OpV.agg 7 [(.int .i64 d.x : Value), .int .i64 d.y, .bool d.d])) (ArgVs.nil)) ((resval (congrArg Value.bool c1))))) (by kernel_rfl) ?_
    refine wpc (step_plain rfl (acts_un (d := 9) (ltN rfl) (OpV.tmp 8 (.bool false)) (r_not (c := true) rfl))) (by kernel_rfl) ?_
    refine wpc (step_plain rfl (acts_move (d := 10) (ltN rfl) (OpX.tmp 9 (V.v (.bool true))))) (by kernel_rfl) ?_
    refine wpc (step_off (dj := 10) (b' := true) rfl rfl (by decide) rfl (ltN rfl)) (by kernel_rfl) ?_
    refine wpc (step_off (dj := 10) (b' := true) rfl rfl (by decide) rfl (ltN rfl)) (by kernel_rfl) ?_
    refine wpc (step_off (dj := 10) (b' := true) rfl rfl (by decide) rfl (ltN rfl)) (by kernel_rfl) ?_
    refine wpc (step_plain rfl (acts_pick_t (d := 14) (ltN rfl) (OpV.tmp 10 (.bool true)) (OpX.const (.bool true)))) (by kernel_rfl) ?_
    refine wpl_nil ?_
    refine wp_if_t (t := 14) (by kernel_rfl) ?_
    refine wp_seq' ?_
    refine wp_region_t ?_
    refine wpc (step_plain rfl (acts_assign (d := 4) (ltN rfl) (OpX.const (.bool false)))) (by kernel_rfl) ?_
    refine wpl_nil ?_
    refine wp_ret' ?_
    exact VRes.tmp 4 (.a (.val (.bool false))) _ (by kernel_rfl) (bval (congrArg Value.bool (by first | (simp_all [bef]; done) | (have q1 := ord_val (d := d) (by assumption); have q2 := ord_val (d := e) (by assumption); unfold bef; cases hd1 : d.d <;> cases he1 : e.d <;> simp_all <;> omega))))

set_option maxHeartbeats 4000000 in
set_option maxRecDepth 100000 in
theorem impl_covered_fn (ds : List Dom) (hd : ds.length ≤ 2097152) : Fn Try.prog 41 [.a (.slv ds.length 3 (dsl ds))] [.val (.int .u64 (((covS ds) : Nat) : Int))] := by
  refine fn_intro (N := 20) Try.func41 rfl (by kernel_rfl) rfl (Nat.le_of_ble_eq_true rfl) [5, 7, 13, 16] (ret1 rfl) (fun W => ?_)
  show Wp _ _ _ [(.s 0, some (.s (V.b (.a (.slv ds.length 3 (dsl ds)))))), (.o 5, some .free), (.o 7, some .free), (.o 13, some .free), (.o 16, some .free)]
  refine wp_seq' ?_
  refine wp_region_t ?_
  refine wpc (step_plain rfl (acts_assign (d := 2) (ltN rfl) (OpX.const (.int .u64 0)))) (by kernel_rfl) ?_
  refine wpl_nil ?_
  refine wp_seq' ?_
  refine wp_region_t ?_
  refine wpc (step_plain rfl (acts_assign (d := 3) (ltN rfl) (OpX.const (.int .u64 0)))) (by kernel_rfl) ?_
  refine wpl_nil ?_
  refine wp_seq' ?_
  refine wp_seq' ?_
  refine wp_region_t ?_
  refine wpc (step_plain rfl (acts_move (d := 6) (ltN rfl) (OpX.tmp 0 (V.b (.a (.slv ds.length 3 (dsl ds))))))) (by kernel_rfl) ?_
  refine wpc (step_plain rfl (acts_len (d := 7) (X := .slv ds.length 3 (dsl ds)) (n := ds.length) (iv := ((ds.length : Nat) : Int)) (ltN rfl) qC3_un_31 (OpX.tmp 6 (V.b (.a (.slv ds.length 3 (dsl ds))))) (LenOf.slv _ _ _) rfl)) (by kernel_rfl) ?_
  refine wpc (step_plain rfl (acts_move (d := 8) (ltN rfl) (OpX.const (.int .i64 0)))) (by kernel_rfl) ?_
  refine wpl_nil ?_
  refine wp_block' ?_
  refine wp_loop' (fun (k : Nat) => k ≤ ds.length) (fun (k : Nat) => [(.s 2, some (.s (V.v (.int .u64 0)))), (.s 3, some (.s (V.v (.int .u64 (((covS (ds.take k)) : Nat) : Int))))), (.s 6, some (.s (V.b (.a (.slv ds.length 3 (dsl ds)))))), (.s 7, some (.s (V.v (.int .i64 ((ds.length : Nat) : Int))))), (.s 8, some (.s (V.v (.int .i64 ((k : Nat) : Int))))), (.o 5, some .free), (.o 7, some .free), (.o 13, some .free), (.o 16, some .free)]) (fun (k : Nat) => ds.length - k) ((0 : Nat)) (by exact (Nat.zero_le _ : 0 ≤ _)) (weak_of id [5, 7, 13, 16] (by kernel_rfl) (wk_s (v' := V.v (.int .u64 0)) (by kernel_rfl) rfl rfl (wk_s (v' := V.v (.int .u64 0)) (by kernel_rfl) (vint (by first | rfl | exact (covS_yes (by omega) (by assumption)).symm | exact (covS_no (by omega) (by assumption)).symm | exact (covS_yes (by omega) (by assumption)) | exact (covS_no (by omega) (by assumption)) | exact congrArg _ (covS_yes (by omega) (by assumption)) | exact congrArg _ (covS_no (by omega) (by assumption)) | omega)) rfl (wk_s (v' := V.b (.a (.slv ds.length 3 (dsl ds)))) (by kernel_rfl) rfl rfl (wk_s (v' := V.v (.int .i64 ((ds.length : Nat) : Int))) (by kernel_rfl) rfl rfl (wk_s (v' := V.v (.int .i64 0)) (by kernel_rfl) (vint (by first | rfl | exact (covS_yes (by omega) (by assumption)).symm | exact (covS_no (by omega) (by assumption)).symm | exact (covS_yes (by omega) (by assumption)) | exact (covS_no (by omega) (by assumption)) | exact congrArg _ (covS_yes (by omega) (by assumption)) | exact congrArg _ (covS_no (by omega) (by assumption)) | omega)) rfl (wk_f rfl (wk_f rfl (wk_f rfl (wk_f rfl (wk_nil))))))))))) ?_
  rintro k inv1
  replace inv1 : k ≤ ds.length := inv1
  have inv := inv1
  show Wp _ _ _ [(.s 2, some (.s (V.v (.int .u64 0)))), (.s 3, some (.s (V.v (.int .u64 (((covS (ds.take k)) : Nat) : Int))))), (.s 6, some (.s (V.b (.a (.slv ds.length 3 (dsl ds)))))), (.s 7, some (.s (V.v (.int .i64 ((ds.length : Nat) : Int))))), (.s 8, some (.s (V.v (.int .i64 ((k : Nat) : Int))))), (.o 5, some .free), (.o 7, some .free), (.o 13, some .free), (.o 16, some .free)]
  have hcl := covS_lt (ds.take k)
  refine wp_seq' ?_
  refine wp_region_t ?_
  refine wpc (step_plain rfl (acts_bin (d := 9) (ltN rfl) (OpV.tmp 8 (.int .i64 ((k : Nat) : Int))) (OpV.tmp 7 (.int .i64 ((ds.length : Nat) : Int))) (r_lss (c := (decide (((k : Nat) : Int) < ((ds.length : Nat) : Int)))) rfl))) (by kernel_rfl) ?_
  refine wpl_nil ?_
  refine wp_seq' ?_
  refine wp_if (t := 9) (decide (((k : Nat) : Int) < ((ds.length : Nat) : Int))) (by kernel_rfl) (fun c2 => ?_) (fun c2 => ?_)
  · skip
    have c2P := of_decide_eq_true c2
    refine wp_skip' ?_
    refine wp_seq' ?_
    refine wp_block' ?_
    refine wp_seq' ?_
    refine wp_region_t ?_
    refine wpc (step_plain rfl (acts_index_v (d := 10) (x := 6) (n := ds.length) (s := 3) (k := k) (xs := dsl ds) (ltN rfl) qC3_un_31 qC3_sz_52 (OpV.tmp 8 (.int .i64 ((k : Nat) : Int))) rfl (by first | omega | assumption | exact domS_lt (by assumption)))) (by kernel_rfl) ?_
    refine wpc (step_plain rfl (acts_load_vs (d := 11) (t := 10) (s := 3) (off := (k * 3)) (xs := dsl ds)  (vs := [(.int .i64 ((gD ds k).x) : Value), .int .i64 ((gD ds k).y), .bool ((gD ds k).d)]) (ltN rfl) qC3_ti_52 rfl (dsl_at (k := k) (by first | omega | assumption | exact domS_lt (by assumption))))) (by kernel_rfl) ?_
    refine wpc (step_plain rfl (acts_alloc' (d := 5) (h := 5) (cap := 1) (s := 3) (cells := [(.val (.int .i64 0) : A), .val (.int .i64 0), .val (.bool false)]) (ltN rfl) qC3_zi_52 rfl rfl (by decide))) (by kernel_rfl) ?_
    refine wpc (step_plain rfl (acts_store (t := 5) (h := 5) (off := 0) (o := ⟨52, 3, true, [(.val (.int .i64 0) : A), .val (.int .i64 0), .val (.bool false)]⟩) (b := .agg ([(.int .i64 ((gD ds k).x) : Value), .int .i64 ((gD ds k).y), .bool ((gD ds k).d)].map A.val)) (cells := [(.val (.int .i64 ((gD ds k).x)) : A), .val (.int .i64 ((gD ds k).y)), .val (.bool ((gD ds k).d))]) qC3_ti_52 (OpX.tmp 11 (V.av [(.int .i64 ((gD ds k).x) : Value), .int .i64 ((gD ds k).y), .bool ((gD ds k).d)])) rfl (by decide) (by intro y hy; simp [B.cs] at hy; rcases hy with rfl | rfl | rfl <;> rfl) (Nat.le_of_ble_eq_true rfl) rfl)) (by kernel_rfl) ?_
    refine wpl_nil ?_
    refine wp_seq' ?_
    refine wp_region_t ?_
    refine wpc (step_plain rfl (acts_load_owns (d := 12) (t := 5) (h := 5) (off := 0) (o := ⟨52, 3, true, [(.val (.int .i64 ((gD ds k).x)) : A), .val (.int .i64 ((gD ds k).y)), .val (.bool ((gD ds k).d))]⟩)  (xs := [(.int .i64 ((gD ds k).x) : Value), .int .i64 ((gD ds k).y), .bool ((gD ds k).d)].map A.val) (ltN rfl) qC3_ti_52 rfl (by decide) rfl)) (by kernel_rfl) ?_
    refine wpc (step_plain rfl (acts_call1 (d := 13) (ltN rfl) (impl_DominoOk_fn (gD ds k) ) (ArgVs.cons (ArgV.va (vs := [(.int .i64 ((gD ds k).x) : Value), .int .i64 ((gD ds k).y), .bool ((gD ds k).d)]) (OpV.agg 12 [(.int .i64 ((gD ds k).x) : Value), .int .i64 ((gD ds k).y), .bool ((gD ds k).d)])) (ArgVs.nil)) (ResV.val _))) (by kernel_rfl) ?_
    refine wpl_nil ?_
    refine wp_if (t := 13) ((okD (gD ds k))) (by kernel_rfl) (fun c3 => ?_) (fun c3 => ?_)
    · skip
      refine wp_region_t ?_
      refine wpc (step_plain rfl (acts_move (d := 14) (ltN rfl) (OpX.tmp 3 (V.v (.int .u64 (((covS (ds.take k)) : Nat) : Int)))))) (by kernel_rfl) ?_
      refine wpc (step_plain rfl (acts_load_owns (d := 15) (t := 5) (h := 5) (off := 0) (o := ⟨52, 3, true, [(.val (.int .i64 ((gD ds k).x)) : A), .val (.int .i64 ((gD ds k).y)), .val (.bool ((gD ds k).d))]⟩)  (xs := [(.int .i64 ((gD ds k).x) : Value), .int .i64 ((gD ds k).y), .bool ((gD ds k).d)].map A.val) (ltN rfl) qC3_ti_52 rfl (by decide) rfl)) (by kernel_rfl) ?_
      refine wpc (step_plain rfl (acts_call1 (d := 16) (ltN rfl) (impl_Domino__set_fn (gD ds k) (by first | omega | assumption | exact domS_lt (by assumption))) (ArgVs.cons (ArgV.va (vs := [(.int .i64 ((gD ds k).x) : Value), .int .i64 ((gD ds k).y), .bool ((gD ds k).d)]) (OpV.agg 15 [(.int .i64 ((gD ds k).x) : Value), .int .i64 ((gD ds k).y), .bool ((gD ds k).d)])) (ArgVs.nil)) (ResV.val _))) (by kernel_rfl) ?_
      refine wpc (step_plain rfl (acts_bin (d := 17) (ltN rfl) (OpV.tmp 14 (.int .u64 (((covS (ds.take k)) : Nat) : Int))) (OpV.tmp 16 (.int .u64 (((domS (gD ds k)) : Nat) : Int))) (r_or (c := ((((covS (ds.take k)) ||| (domS (gD ds k))) : Nat) : Int)) (orU (m := (covS (ds.take k))) (n := (domS (gD ds k))) rfl rfl (by first | omega | assumption | exact Nat.lt_of_le_of_lt (shr_le _ _) (by first | omega | assumption | (first | omega | assumption | exact domS_lt (by assumption))) | (first | omega | assumption | exact domS_lt (by assumption))) (by first | omega | assumption | exact Nat.lt_of_le_of_lt (shr_le _ _) (by first | omega | assumption | (first | omega | assumption | exact domS_lt (by assumption))) | (first | omega | assumption | exact domS_lt (by assumption))))))) (by kernel_rfl) ?_
      refine wpc (step_plain rfl (acts_assign (d := 3) (ltN rfl) (OpX.tmp 17 (V.v (.int .u64 ((((covS (ds.take k)) ||| (domS (gD ds k))) : Nat) : Int)))))) (by kernel_rfl) ?_
      refine wpl_nil ?_
      refine wp_region_t ?_
      refine wpc (step_plain rfl (acts_bin (d := 18) (ltN rfl) (OpV.tmp 8 (.int .i64 ((k : Nat) : Int))) (OpV.const (.int .i64 1)) (r_add (c := (((k : Nat) : Int) + 1)) (w64 (by first | omega | assumption | exact domS_lt (by assumption)) (by first | omega | assumption | exact domS_lt (by assumption)))))) (by kernel_rfl) ?_
      refine wpc (step_plain rfl (acts_move (d := 8) (ltN rfl) (OpX.tmp 18 (V.v (.int .i64 (((k : Nat) : Int) + 1)))))) (by kernel_rfl) ?_
      refine wpl_nil ?_
      exact loop_back ((k + 1)) (by show _ ≤ _; omega) (by show ds.length - (k + 1) < ds.length - k; omega) (weak_of id [5, 7, 13, 16] (by kernel_rfl) (wk_s (v' := V.v (.int .u64 0)) (by kernel_rfl) rfl rfl (wk_s (v' := V.v (.int .u64 ((((covS (ds.take k)) ||| (domS (gD ds k))) : Nat) : Int))) (by kernel_rfl) (vint (by first | rfl | exact (covS_yes (by omega) (by assumption)).symm | exact (covS_no (by omega) (by assumption)).symm | exact (covS_yes (by omega) (by assumption)) | exact (covS_no (by omega) (by assumption)) | exact congrArg _ (covS_yes (by omega) (by assumption)) | exact congrArg _ (covS_no (by omega) (by assumption)) | omega)) rfl (wk_s (v' := V.b (.a (.slv ds.length 3 (dsl ds)))) (by kernel_rfl) rfl rfl (wk_s (v' := V.v (.int .i64 ((ds.length : Nat) : Int))) (by kernel_rfl) rfl rfl (wk_s (v' := V.v (.int .i64 (((k : Nat) : Int) + 1))) (by kernel_rfl) (vint (by first | rfl | exact (covS_yes (by omega) (by assumption)).symm | exact (covS_no (by omega) (by assumption)).symm | exact (covS_yes (by omega) (by assumption)) | exact (covS_no (by omega) (by assumption)) | exact congrArg _ (covS_yes (by omega) (by assumption)) | exact congrArg _ (covS_no (by omega) (by assumption)) | omega)) rfl (wk_f rfl (wk_f rfl (wk_f rfl (wk_f rfl (wk_nil)))))))))))
    · skip
      refine wp_skip' ?_
      refine wp_region_t ?_
      refine wpc (step_plain rfl (acts_bin (d := 18) (ltN rfl) (OpV.tmp 8 (.int .i64 ((k : Nat) : Int))) (OpV.const (.int .i64 1)) (r_add (c := (((k : Nat) : Int) + 1)) (w64 (by first | omega | assumption | exact domS_lt (by assumption)) (by first | omega | assumption | exact domS_lt (by assumption)))))) (by kernel_rfl) ?_
      refine wpc (step_plain rfl (acts_move (d := 8) (ltN rfl) (OpX.tmp 18 (V.v (.int .i64 (((k : Nat) : Int) + 1)))))) (by kernel_rfl) ?_
      refine wpl_nil ?_
      exact loop_back ((k + 1)) (by show _ ≤ _; omega) (by show ds.length - (k + 1) < ds.length - k; omega) (weak_of id [5, 7, 13, 16] (by kernel_rfl) (wk_s (v' := V.v (.int .u64 0)) (by kernel_rfl) rfl rfl (wk_s (v' := V.v (.int .u64 (((covS (ds.take k)) : Nat) : Int))) (by kernel_rfl) (vint (by first | rfl | exact (covS_yes (by omega) (by assumption)).symm | exact (covS_no (by omega) (by assumption)).symm | exact (covS_yes (by omega) (by assumption)) | exact (covS_no (by omega) (by assumption)) | exact congrArg _ (covS_yes (by omega) (by assumption)) | exact congrArg _ (covS_no (by omega) (by assumption)) | omega)) rfl (wk_s (v' := V.b (.a (.slv ds.length 3 (dsl ds)))) (by kernel_rfl) rfl rfl (wk_s (v' := V.v (.int .i64 ((ds.length : Nat) : Int))) (by kernel_rfl) rfl rfl (wk_s (v' := V.v (.int .i64 (((k : Nat) : Int) + 1))) (by kernel_rfl) (vint (by first | rfl | exact (covS_yes (by omega) (by assumption)).symm | exact (covS_no (by omega) (by assumption)).symm | exact (covS_yes (by omega) (by assumption)) | exact (covS_no (by omega) (by assumption)) | exact congrArg _ (covS_yes (by omega) (by assumption)) | exact congrArg _ (covS_no (by omega) (by assumption)) | omega)) rfl (wk_f rfl (wk_f rfl (wk_f rfl (wk_f rfl (wk_nil)))))))))))
  · skip
    have c2P := of_decide_eq_false c2
    refine wp_exit' ?_
    refine wp_seq' ?_
    refine wp_region_t ?_
    refine wpc (step_plain rfl (acts_move (d := 19) (ltN rfl) (OpX.tmp 3 (V.v (.int .u64 (((covS (ds.take k)) : Nat) : Int)))))) (by kernel_rfl) ?_
    refine wpc (step_plain rfl (acts_assign (d := 2) (ltN rfl) (OpX.tmp 19 (V.v (.int .u64 (((covS (ds.take k)) : Nat) : Int)))))) (by kernel_rfl) ?_
    refine wpl_nil ?_
    refine wp_ret' ?_
    exact VRes.tmp 2 (.a (.val (.int .u64 (((covS (ds.take k)) : Nat) : Int)))) _ (by kernel_rfl) (bval (congrArg (Value.int .u64) (by rw [covS_end (by assumption)])))

set_option maxHeartbeats 4000000 in
set_option maxRecDepth 100000 in
theorem impl_IsPartial_fn (l : List Int) (ds : List Dom) (hl : l.length ≤ 4194304) (hd : ds.length ≤ 2097152) : Fn Try.prog 39 [.agg [(.slv l.length 1 (isl l) : A)], .a (.slv ds.length 3 (dsl ds))] [.val (.bool (isPar l ds))] := by
  refine fn_intro (N := 51) Try.func39 rfl (by kernel_rfl) rfl (Nat.le_of_ble_eq_true rfl) [2, 7, 9, 12, 14, 21, 26, 29, 42, 48] (ret1 rfl) (fun W => ?_)
  show Wp _ _ _ [(.s 0, some (.s (V.b (.agg [(.slv l.length 1 (isl l) : A)])))), (.s 1, some (.s (V.b (.a (.slv ds.length 3 (dsl ds)))))), (.o 2, some .free), (.o 7, some .free), (.o 9, some .free), (.o 12, some .free), (.o 14, some .free), (.o 21, some .free), (.o 26, some .free), (.o 29, some .free), (.o 42, some .free), (.o 48, some .free)]
  refine wp_seq' ?_
  refine wp_region_t ?_
  refine wpc (step_plain rfl (acts_box (d := 2) (h := 2) (b := .agg [(.slv l.length 1 (isl l) : A)]) (ltN rfl) (OpX.tmp 0 (V.b (.agg [(.slv l.length 1 (isl l) : A)]))) (by intro y hy; simp [B.cs] at hy; subst hy; rfl))) (by kernel_rfl) ?_
  refine wpc (step_plain rfl (acts_assign (d := 4) (ltN rfl) (OpX.const (.bool false)))) (by kernel_rfl) ?_
  refine wpl_nil ?_
  refine wp_seq' ?_
  refine wp_seq' ?_
  refine wp_region_t ?_
  refine wpc (step_plain rfl (acts_load_owns (d := 8) (t := 2) (h := 2) (off := 0) (o := ⟨29, 1, true, [(.slv l.length 1 (isl l) : A)]⟩)  (xs := [(.slv l.length 1 (isl l) : A)]) (ltN rfl) qC3_ti_29 rfl (by decide) rfl)) (by kernel_rfl) ?_
  refine wpc (step_plain rfl (acts_call1 (d := 9) (ltN rfl) (impl_RegionOk_fn l (by first | omega | assumption | exact regSet_lt (by assumption) | exact domS_lt (by assumption) | exact andn_lt (regSet_lt (by assumption)))) (ArgVs.cons (ArgV.regv 8 l.length 1 (isl l)) (ArgVs.nil)) (ResV.val _))) (by kernel_rfl) ?_
  refine wpc (step_plain rfl (acts_un (d := 10) (ltN rfl) (OpV.tmp 9 (.bool (regOk l))) (r_not (c := (!(regOk l))) rfl))) (by kernel_rfl) ?_
  refine wpl_nil ?_
  refine wp_if (t := 10) ((!(regOk l))) (by kernel_rfl) (fun c1 => ?_) (fun c1 => ?_)
  · skip
    have c2 : (regOk l) = false := by simpa using c1
    refine wp_seq' ?_
    refine wp_region_t ?_
    refine wpc (step_plain rfl (acts_assign (d := 4) (ltN rfl) (OpX.const (.bool false)))) (by kernel_rfl) ?_
    refine wpl_nil ?_
    refine wp_ret' ?_
    exact VRes.tmp 4 (.a (.val (.bool false))) _ (by kernel_rfl) (bval (congrArg Value.bool (by first | (simp_all [isPar]; done) | exact (isPar_no (k := k) (by omega) (.inr (by unfold stepOk fits; simp_all [natI] <;> omega))).symm | exact (isPar_yes (by omega) (by omega) (by assumption) (by assumption)).symm)))
  · skip
    have c3 : (regOk l) = true := by simpa using c1
    refine wp_skip' ?_
    refine wp_seq' ?_
    refine wp_region_t ?_
    refine wpc (step_plain rfl (acts_load_owns (d := 11) (t := 2) (h := 2) (off := 0) (o := ⟨29, 1, true, [(.slv l.length 1 (isl l) : A)]⟩)  (xs := [(.slv l.length 1 (isl l) : A)]) (ltN rfl) qC3_ti_29 rfl (by decide) rfl)) (by kernel_rfl) ?_
    refine wpc (step_plain rfl (acts_call1 (d := 12) (ltN rfl) (impl_Region__set_fn l (by first | omega | assumption | exact regSet_lt (by assumption) | exact domS_lt (by assumption) | exact andn_lt (regSet_lt (by assumption)))) (ArgVs.cons (ArgV.regv 11 l.length 1 (isl l)) (ArgVs.nil)) (ResV.val _))) (by kernel_rfl) ?_
    refine wpc (step_plain rfl (acts_assign (d := 5) (ltN rfl) (OpX.tmp 12 (V.v (.int .u64 (((regSet l) : Nat) : Int)))))) (by kernel_rfl) ?_
    refine wpl_nil ?_
    refine wp_seq' ?_
    refine wp_seq' ?_
    refine wp_region_t ?_
    refine wpc (step_plain rfl (acts_move (d := 13) (ltN rfl) (OpX.tmp 1 (V.b (.a (.slv ds.length 3 (dsl ds))))))) (by kernel_rfl) ?_
    refine wpc (step_plain rfl (acts_len (d := 14) (X := .slv ds.length 3 (dsl ds)) (n := ds.length) (iv := ((ds.length : Nat) : Int)) (ltN rfl) qC3_un_31 (OpX.tmp 13 (V.b (.a (.slv ds.length 3 (dsl ds))))) (LenOf.slv _ _ _) rfl)) (by kernel_rfl) ?_
    refine wpc (step_plain rfl (acts_move (d := 15) (ltN rfl) (OpX.const (.int .i64 0)))) (by kernel_rfl) ?_
    refine wpl_nil ?_
    refine wp_block' ?_
    refine wp_loop' (fun (k : Nat) => k ≤ ds.length ∧ parT (regSet l) ds k = true) (fun (k : Nat) => [(.s 1, some (.s (V.b (.a (.slv ds.length 3 (dsl ds)))))), (.s 5, some (.s (V.v (.int .u64 (((andn (regSet l) (covS (ds.take k))) : Nat) : Int))))), (.s 13, some (.s (V.b (.a (.slv ds.length 3 (dsl ds)))))), (.s 14, some (.s (V.v (.int .i64 ((ds.length : Nat) : Int))))), (.s 15, some (.s (V.v (.int .i64 ((k : Nat) : Int))))), (.o 2, some .free), (.o 7, some .free), (.o 9, some .free), (.o 12, some .free), (.o 14, some .free), (.o 21, some .free), (.o 26, some .free), (.o 29, some .free), (.o 42, some .free), (.o 48, some .free)]) (fun (k : Nat) => ds.length - k) ((0 : Nat)) (by exact ⟨Nat.zero_le _, parT_zero _ _⟩) (weak_of id [2, 7, 9, 12, 14, 21, 26, 29, 42, 48] (by kernel_rfl) (wk_s (v' := V.b (.a (.slv ds.length 3 (dsl ds)))) (by kernel_rfl) rfl rfl (wk_s (v' := V.v (.int .u64 (((regSet l) : Nat) : Int))) (by kernel_rfl) (vint (by first | rfl | (rw [andn_cov0]) | (rw [covS_yes (by omega) (by assumption), andn_or]) | omega)) rfl (wk_s (v' := V.b (.a (.slv ds.length 3 (dsl ds)))) (by kernel_rfl) rfl rfl (wk_s (v' := V.v (.int .i64 ((ds.length : Nat) : Int))) (by kernel_rfl) rfl rfl (wk_s (v' := V.v (.int .i64 0)) (by kernel_rfl) (vint (by first | rfl | (rw [andn_cov0]) | (rw [covS_yes (by omega) (by assumption), andn_or]) | omega)) rfl (wk_f rfl (wk_f rfl (wk_f rfl (wk_f rfl (wk_f rfl (wk_f rfl (wk_f rfl (wk_f rfl (wk_f rfl (wk_f rfl (wk_nil))))))))))))))))) ?_
    rintro k inv4
    replace inv4 : k ≤ ds.length ∧ parT (regSet l) ds k = true := inv4
    obtain ⟨inv4_0, inv4_1⟩ := inv4
    show Wp _ _ _ [(.s 1, some (.s (V.b (.a (.slv ds.length 3 (dsl ds)))))), (.s 5, some (.s (V.v (.int .u64 (((andn (regSet l) (covS (ds.take k))) : Nat) : Int))))), (.s 13, some (.s (V.b (.a (.slv ds.length 3 (dsl ds)))))), (.s 14, some (.s (V.v (.int .i64 ((ds.length : Nat) : Int))))), (.s 15, some (.s (V.v (.int .i64 ((k : Nat) : Int))))), (.o 2, some .free), (.o 7, some .free), (.o 9, some .free), (.o 12, some .free), (.o 14, some .free), (.o 21, some .free), (.o 26, some .free), (.o 29, some .free), (.o 42, some .free), (.o 48, some .free)]
    refine wp_seq' ?_
    refine wp_region_t ?_
    refine wpc (step_plain rfl (acts_bin (d := 16) (ltN rfl) (OpV.tmp 15 (.int .i64 ((k : Nat) : Int))) (OpV.tmp 14 (.int .i64 ((ds.length : Nat) : Int))) (r_lss (c := (decide (((k : Nat) : Int) < ((ds.length : Nat) : Int)))) rfl))) (by kernel_rfl) ?_
    refine wpl_nil ?_
    refine wp_seq' ?_
    refine wp_if (t := 16) (decide (((k : Nat) : Int) < ((ds.length : Nat) : Int))) (by kernel_rfl) (fun c5 => ?_) (fun c5 => ?_)
    · skip
      have c5P := of_decide_eq_true c5
      refine wp_skip' ?_
      refine wp_seq' ?_
      refine wp_block' ?_
      refine wp_seq' ?_
      refine wp_region_t ?_
      refine wpc (step_plain rfl (acts_move (d := 17) (ltN rfl) (OpX.tmp 15 (V.v (.int .i64 ((k : Nat) : Int)))))) (by kernel_rfl) ?_
      refine wpc (step_plain rfl (acts_index_v (d := 18) (x := 13) (n := ds.length) (s := 3) (k := k) (xs := dsl ds) (ltN rfl) qC3_un_31 qC3_sz_52 (OpV.tmp 15 (.int .i64 ((k : Nat) : Int))) rfl (by first | omega | assumption | exact regSet_lt (by assumption) | exact domS_lt (by assumption) | exact andn_lt (regSet_lt (by assumption))))) (by kernel_rfl) ?_
      refine wpc (step_plain rfl (acts_load_vs (d := 19) (t := 18) (s := 3) (off := (k * 3)) (xs := dsl ds)  (vs := [(.int .i64 ((gD ds k).x) : Value), .int .i64 ((gD ds k).y), .bool ((gD ds k).d)]) (ltN rfl) qC3_ti_52 rfl (dsl_at (k := k) (by first | omega | assumption | exact regSet_lt (by assumption) | exact domS_lt (by assumption) | exact andn_lt (regSet_lt (by assumption)))))) (by kernel_rfl) ?_
      refine wpc (step_plain rfl (acts_alloc' (d := 7) (h := 7) (cap := 1) (s := 3) (cells := [(.val (.int .i64 0) : A), .val (.int .i64 0), .val (.bool false)]) (ltN rfl) qC3_zi_52 rfl rfl (by decide))) (by kernel_rfl) ?_
      refine wpc (step_plain rfl (acts_assign (d := 6) (ltN rfl) (OpX.tmp 17 (V.v (.int .i64 ((k : Nat) : Int)))))) (by kernel_rfl) ?_
      refine wpc (step_plain rfl (acts_store (t := 7) (h := 7) (off := 0) (o := ⟨52, 3, true, [(.val (.int .i64 0) : A), .val (.int .i64 0), .val (.bool false)]⟩) (b := .agg ([(.int .i64 ((gD ds k).x) : Value), .int .i64 ((gD ds k).y), .bool ((gD ds k).d)].map A.val)) (cells := [(.val (.int .i64 ((gD ds k).x)) : A), .val (.int .i64 ((gD ds k).y)), .val (.bool ((gD ds k).d))]) qC3_ti_52 (OpX.tmp 19 (V.av [(.int .i64 ((gD ds k).x) : Value), .int .i64 ((gD ds k).y), .bool ((gD ds k).d)])) rfl (by decide) (by intro y hy; simp [B.cs] at hy; rcases hy with rfl | rfl | rfl <;> rfl) (Nat.le_of_ble_eq_true rfl) rfl)) (by kernel_rfl) ?_
      refine wpl_nil ?_
      refine wp_seq' ?_
      refine wp_seq' ?_
      rcases Bool.eq_false_or_eq_true ((okD (gD ds k))) with c6 | c6
      · skip
        rcases Bool.eq_false_or_eq_true (decide (((((andn (regSet l) (covS (ds.take k))) &&& (domS (gD ds k))) : Nat) : Int) ≠ (((domS (gD ds k)) : Nat) : Int))) with c7 | c7
        · skip
          have c7P := of_decide_eq_true c7
          refine wp_drawn' (by kernel_rfl) (AllSteps.cons (step_plain rfl (acts_load_owns (d := 20) (t := 7) (h := 7) (off := 0) (o := ⟨52, 3, true, [(.val (.int .i64 ((gD ds k).x)) : A), .val (.int .i64 ((gD ds k).y)), .val (.bool ((gD ds k).d))]⟩)  (xs := [(.int .i64 ((gD ds k).x) : Value), .int .i64 ((gD ds k).y), .bool ((gD ds k).d)].map A.val) (ltN rfl) qC3_ti_52 rfl (by decide) rfl)) (AllSteps.cons (step_plain rfl (acts_call1 (d := 21) (ltN rfl) (impl_DominoOk_fn (gD ds k) ) (ArgVs.cons (ArgV.va (vs := [(.int .i64 ((gD ds k).x) : Value), .int .i64 ((gD ds k).y), .bool ((gD ds k).d)]) (OpV.agg 20 [(.int .i64 ((gD ds k).x) : Value), .int .i64 ((gD ds k).y), .bool ((gD ds k).d)])) (ArgVs.nil)) ((resval (congrArg Value.bool c6))))) (AllSteps.cons (step_plain rfl (acts_un (d := 22) (ltN rfl) (OpV.tmp 21 (.bool true)) (r_not (c := false) rfl))) (AllSteps.cons (step_plain rfl (acts_move (d := 23) (ltN rfl) (OpX.tmp 22 (V.v (.bool false))))) (AllSteps.cons (step_on (dj := 23) rfl rfl (acts_move (d := 24) (ltN rfl) (OpX.tmp 5 (V.v (.int .u64 (((andn (regSet l) (covS (ds.take k))) : Nat) : Int)))))) (AllSteps.cons (step_on (dj := 23) rfl rfl (acts_load_owns (d := 25) (t := 7) (h := 7) (off := 0) (o := ⟨52, 3, true, [(.val (.int .i64 ((gD ds k).x)) : A), .val (.int .i64 ((gD ds k).y)), .val (.bool ((gD ds k).d))]⟩)  (xs := [(.int .i64 ((gD ds k).x) : Value), .int .i64 ((gD ds k).y), .bool ((gD ds k).d)].map A.val) (ltN rfl) qC3_ti_52 rfl (by decide) rfl)) (AllSteps.cons (step_on (dj := 23) rfl rfl (acts_call1 (d := 26) (ltN rfl) (impl_Domino__set_fn (gD ds k) (by first | omega | assumption | exact regSet_lt (by assumption) | exact domS_lt (by assumption) | exact andn_lt (regSet_lt (by assumption)))) (ArgVs.cons (ArgV.va (vs := [(.int .i64 ((gD ds k).x) : Value), .int .i64 ((gD ds k).y), .bool ((gD ds k).d)]) (OpV.agg 25 [(.int .i64 ((gD ds k).x) : Value), .int .i64 ((gD ds k).y), .bool ((gD ds k).d)])) (ArgVs.nil)) (ResV.val _))) (AllSteps.cons (step_on (dj := 23) rfl rfl (acts_bin (d := 27) (ltN rfl) (OpV.tmp 24 (.int .u64 (((andn (regSet l) (covS (ds.take k))) : Nat) : Int))) (OpV.tmp 26 (.int .u64 (((domS (gD ds k)) : Nat) : Int))) (r_and (c := ((((andn (regSet l) (covS (ds.take k))) &&& (domS (gD ds k))) : Nat) : Int)) (andU (m := (andn (regSet l) (covS (ds.take k)))) (n := (domS (gD ds k))) rfl rfl (by first | omega | assumption | exact Nat.lt_of_le_of_lt (shr_le _ _) (by first | omega | assumption | (first | omega | assumption | exact regSet_lt (by assumption) | exact domS_lt (by assumption) | exact andn_lt (regSet_lt (by assumption)))) | (first | omega | assumption | exact regSet_lt (by assumption) | exact domS_lt (by assumption) | exact andn_lt (regSet_lt (by assumption)))) (by first | omega | assumption | exact Nat.lt_of_le_of_lt (shr_le _ _) (by first | omega | assumption | (first | omega | assumption | exact regSet_lt (by assumption) | exact domS_lt (by assumption) | exact andn_lt (regSet_lt (by assumption)))) | (first | omega | assumption | exact regSet_lt (by assumption) | exact domS_lt (by assumption) | exact andn_lt (regSet_lt (by assumption)))))))) (AllSteps.cons (step_on (dj := 23) rfl rfl (acts_load_owns (d := 28) (t := 7) (h := 7) (off := 0) (o := ⟨52, 3, true, [(.val (.int .i64 ((gD ds k).x)) : A), .val (.int .i64 ((gD ds k).y)), .val (.bool ((gD ds k).d))]⟩)  (xs := [(.int .i64 ((gD ds k).x) : Value), .int .i64 ((gD ds k).y), .bool ((gD ds k).d)].map A.val) (ltN rfl) qC3_ti_52 rfl (by decide) rfl)) (AllSteps.cons (step_on (dj := 23) rfl rfl (acts_call1 (d := 29) (ltN rfl) (impl_Domino__set_fn (gD ds k) (by first | omega | assumption | exact regSet_lt (by assumption) | exact domS_lt (by assumption) | exact andn_lt (regSet_lt (by assumption)))) (ArgVs.cons (ArgV.va (vs := [(.int .i64 ((gD ds k).x) : Value), .int .i64 ((gD ds k).y), .bool ((gD ds k).d)]) (OpV.agg 28 [(.int .i64 ((gD ds k).x) : Value), .int .i64 ((gD ds k).y), .bool ((gD ds k).d)])) (ArgVs.nil)) (ResV.val _))) (AllSteps.cons (step_on (dj := 23) rfl rfl (acts_bin (d := 30) (ltN rfl) (OpV.tmp 27 (.int .u64 ((((andn (regSet l) (covS (ds.take k))) &&& (domS (gD ds k))) : Nat) : Int))) (OpV.tmp 29 (.int .u64 (((domS (gD ds k)) : Nat) : Int))) (r_neq (c := true) c7))) (AllSteps.cons (step_plain rfl (acts_pick_f (d := 31) (ltN rfl) (OpV.tmp 23 (.bool false)) (OpX.tmp 30 (V.v (.bool true))))) (AllSteps.cons (step_plain rfl (acts_move (d := 32) (ltN rfl) (OpX.tmp 31 (V.v (.bool true))))) (AllSteps.cons (step_off (dj := 32) (b' := true) rfl rfl (by decide) rfl (ltN rfl)) (AllSteps.cons (step_off (dj := 32) (b' := true) rfl rfl (by decide) rfl (ltN rfl)) (AllSteps.cons (step_offu (dj := 32) (b' := true) rfl rfl (by decide) rfl (ltN rfl)) (AllSteps.cons (step_offx (dj := 35) rfl rfl rfl (ltN rfl)) (AllSteps.cons (step_offx (dj := 35) rfl rfl rfl (ltN rfl)) (AllSteps.cons (step_offx (dj := 35) rfl rfl rfl (ltN rfl)) (AllSteps.cons (step_offx (dj := 35) rfl rfl rfl (ltN rfl)) (AllSteps.cons (step_offx (dj := 35) rfl rfl rfl (ltN rfl)) (AllSteps.cons (step_offx (dj := 35) rfl rfl rfl (ltN rfl)) (AllSteps.cons (step_offx (dj := 35) rfl rfl rfl (ltN rfl)) (AllSteps.cons (step_offx (dj := 35) rfl rfl rfl (ltN rfl)) (AllSteps.cons (step_off (dj := 32) (b' := true) rfl rfl (by decide) rfl (ltN rfl)) (AllSteps.cons (step_plain rfl (acts_pick_t (d := 45) (ltN rfl) (OpV.tmp 32 (.bool true)) (OpX.const (.bool true)))) (AllSteps.nil))))))))))))))))))))))))))) (by kernel_rfl) (by kernel_rfl) (by kernel_rfl) ?_
          refine wp_if_t (t := 45) (by kernel_rfl) ?_
          refine wp_seq' ?_
          refine wp_region_t ?_
          refine wpc (step_plain rfl (acts_assign (d := 4) (ltN rfl) (OpX.const (.bool false)))) (by kernel_rfl) ?_
          refine wpl_nil ?_
          refine wp_ret' ?_
          exact VRes.tmp 4 (.a (.val (.bool false))) _ (by kernel_rfl) (bval (congrArg Value.bool (by first | (simp_all [isPar]; done) | exact (isPar_no (k := k) (by omega) (.inr (by unfold stepOk fits; simp_all [natI] <;> omega))).symm | exact (isPar_yes (by omega) (by omega) (by assumption) (by assumption)).symm)))
        · skip
          have c7P := of_decide_eq_false c7
          rcases Bool.eq_false_or_eq_true (decide (0 < ((k : Nat) : Int))) with c8 | c8
          · skip
            have c8P := of_decide_eq_true c8
            refine wp_drawn' (by kernel_rfl) (AllSteps.cons (step_plain rfl (acts_load_owns (d := 20) (t := 7) (h := 7) (off := 0) (o := ⟨52, 3, true, [(.val (.int .i64 ((gD ds k).x)) : A), .val (.int .i64 ((gD ds k).y)), .val (.bool ((gD ds k).d))]⟩)  (xs := [(.int .i64 ((gD ds k).x) : Value), .int .i64 ((gD ds k).y), .bool ((gD ds k).d)].map A.val) (ltN rfl) qC3_ti_52 rfl (by decide) rfl)) (AllSteps.cons (step_plain rfl (acts_call1 (d := 21) (ltN rfl) (impl_DominoOk_fn (gD ds k) ) (ArgVs.cons (ArgV.va (vs := [(.int .i64 ((gD ds k).x) : Value), .int .i64 ((gD ds k).y), .bool ((gD ds k).d)]) (OpV.agg 20 [(.int .i64 ((gD ds k).x) : Value), .int .i64 ((gD ds k).y), .bool ((gD ds k).d)])) (ArgVs.nil)) ((resval (congrArg Value.bool c6))))) (AllSteps.cons (step_plain rfl (acts_un (d := 22) (ltN rfl) (OpV.tmp 21 (.bool true)) (r_not (c := false) rfl))) (AllSteps.cons (step_plain rfl (acts_move (d := 23) (ltN rfl) (OpX.tmp 22 (V.v (.bool false))))) (AllSteps.cons (step_on (dj := 23) rfl rfl (acts_move (d := 24) (ltN rfl) (OpX.tmp 5 (V.v (.int .u64 (((andn (regSet l) (covS (ds.take k))) : Nat) : Int)))))) (AllSteps.cons (step_on (dj := 23) rfl rfl (acts_load_owns (d := 25) (t := 7) (h := 7) (off := 0) (o := ⟨52, 3, true, [(.val (.int .i64 ((gD ds k).x)) : A), .val (.int .i64 ((gD ds k).y)), .val (.bool ((gD ds k).d))]⟩)  (xs := [(.int .i64 ((gD ds k).x) : Value), .int .i64 ((gD ds k).y), .bool ((gD ds k).d)].map A.val) (ltN rfl) qC3_ti_52 rfl (by decide) rfl)) (AllSteps.cons (step_on (dj := 23) rfl rfl (acts_call1 (d := 26) (ltN rfl) (impl_Domino__set_fn (gD ds k) (by first | omega | assumption | exact regSet_lt (by assumption) | exact domS_lt (by assumption) | exact andn_lt (regSet_lt (by assumption)))) (ArgVs.cons (ArgV.va (vs := [(.int .i64 ((gD ds k).x) : Value), .int .i64 ((gD ds k).y), .bool ((gD ds k).d)]) (OpV.agg 25 [(.int .i64 ((gD ds k).x) : Value), .int .i64 ((gD ds k).y), .bool ((gD ds k).d)])) (ArgVs.nil)) (ResV.val _))) (AllSteps.cons (step_on (dj := 23) rfl rfl (acts_bin (d := 27) (ltN rfl) (OpV.tmp 24 (.int .u64 (((andn (regSet l) (covS (ds.take k))) : Nat) : Int))) (OpV.tmp 26 (.int .u64 (((domS (gD ds k)) : Nat) : Int))) (r_and (c := ((((andn (regSet l) (covS (ds.take k))) &&& (domS (gD ds k))) : Nat) : Int)) (andU (m := (andn (regSet l) (covS (ds.take k)))) (n := (domS (gD ds k))) rfl rfl (by first | omega | assumption | exact Nat.lt_of_le_of_lt (shr_le _ _) (by first | omega | assumption | (first | omega | assumption | exact regSet_lt (by assumption) | exact domS_lt (by assumption) | exact andn_lt (regSet_lt (by assumption)))) | (first | omega | assumption | exact regSet_lt (by assumption) | exact domS_lt (by assumption) | exact andn_lt (regSet_lt (by assumption)))) (by first | omega | assumption | exact Nat.lt_of_le_of_lt (shr_le _ _) (by first | omega | assumption | (first | omega | assumption | exact regSet_lt (by assumption) | exact domS_lt (by assumption) | exact andn_lt (regSet_lt (by assumption)))) | (first | omega | assumption | exact regSet_lt (by assumption) | exact domS_lt (by assumption) | exact andn_lt (regSet_lt (by assumption)))))))) (AllSteps.cons (step_on (dj := 23) rfl rfl (acts_load_owns (d := 28) (t := 7) (h := 7) (off := 0) (o := ⟨52, 3, true, [(.val (.int .i64 ((gD ds k).x)) : A), .val (.int .i64 ((gD ds k).y)), .val (.bool ((gD ds k).d))]⟩)  (xs := [(.int .i64 ((gD ds k).x) : Value), .int .i64 ((gD ds k).y), .bool ((gD ds k).d)].map A.val) (ltN rfl) qC3_ti_52 rfl (by decide) rfl)) (AllSteps.cons (step_on (dj := 23) rfl rfl (acts_call1 (d := 29) (ltN rfl) (impl_Domino__set_fn (gD ds k) (by first | omega | assumption | exact regSet_lt (by assumption) | exact domS_lt (by assumption) | exact andn_lt (regSet_lt (by assumption)))) (ArgVs.cons (ArgV.va (vs := [(.int .i64 ((gD ds k).x) : Value), .int .i64 ((gD ds k).y), .bool ((gD ds k).d)]) (OpV.agg 28 [(.int .i64 ((gD ds k).x) : Value), .int .i64 ((gD ds k).y), .bool ((gD ds k).d)])) (ArgVs.nil)) (ResV.val _))) (AllSteps.cons (step_on (dj := 23) rfl rfl (acts_bin (d := 30) (ltN rfl) (OpV.tmp 27 (.int .u64 ((((andn (regSet l) (covS (ds.take k))) &&& (domS (gD ds k))) : Nat) : Int))) (OpV.tmp 29 (.int .u64 (((domS (gD ds k)) : Nat) : Int))) (r_neq (c := false) c7))) (AllSteps.cons (step_plain rfl (acts_pick_f (d := 31) (ltN rfl) (OpV.tmp 23 (.bool false)) (OpX.tmp 30 (V.v (.bool false))))) (AllSteps.cons (step_plain rfl (acts_move (d := 32) (ltN rfl) (OpX.tmp 31 (V.v (.bool false))))) (AllSteps.cons (step_on (dj := 32) rfl rfl (acts_move (d := 33) (ltN rfl) (OpX.tmp 6 (V.v (.int .i64 ((k : Nat) : Int)))))) (AllSteps.cons (step_on (dj := 32) rfl rfl (acts_bin (d := 34) (ltN rfl) (OpV.tmp 33 (.int .i64 ((k : Nat) : Int))) (OpV.const (.int .i64 0)) (r_gtr (c := true) c8))) (AllSteps.cons (step_on (dj := 32) rfl rfl (acts_move (d := 35) (ltN rfl) (OpX.tmp 34 (V.v (.bool true))))) (AllSteps.cons (step_on (dj := 35) rfl rfl (acts_move (d := 36) (ltN rfl) (OpX.tmp 1 (V.b (.a (.slv ds.length 3 (dsl ds))))))) (AllSteps.cons (step_on (dj := 35) rfl rfl (acts_move (d := 37) (ltN rfl) (OpX.tmp 6 (V.v (.int .i64 ((k : Nat) : Int)))))) (AllSteps.cons (step_on (dj := 35) rfl rfl (acts_bin (d := 38) (ltN rfl) (OpV.tmp 37 (.int .i64 ((k : Nat) : Int))) (OpV.const (.int .i64 1)) (r_sub (c := (((k : Nat) : Int) - 1)) (w64 (by first | omega | assumption | exact regSet_lt (by assumption) | exact domS_lt (by assumption) | exact andn_lt (regSet_lt (by assumption))) (by first | omega | assumption | exact regSet_lt (by assumption) | exact domS_lt (by assumption) | exact andn_lt (regSet_lt (by assumption))))))) (AllSteps.cons (step_on (dj := 35) rfl rfl (acts_index_v (d := 39) (x := 36) (n := ds.length) (s := 3) (k := ((((k : Nat) : Int) - 1).toNat)) (xs := dsl ds) (ltN rfl) qC3_un_31 qC3_sz_52 (OpV.tmp 38 (.int .i64 (((k : Nat) : Int) - 1))) (Int.toNat_of_nonneg (by first | omega | assumption | exact regSet_lt (by assumption) | exact domS_lt (by assumption) | exact andn_lt (regSet_lt (by assumption)))).symm (by first | omega | assumption | exact regSet_lt (by assumption) | exact domS_lt (by assumption) | exact andn_lt (regSet_lt (by assumption))))) (AllSteps.cons (step_on (dj := 35) rfl rfl (acts_load_vs (d := 40) (t := 39) (s := 3) (off := (((((k : Nat) : Int) - 1).toNat) * 3)) (xs := dsl ds)  (vs := [(.int .i64 ((gD ds ((((k : Nat) : Int) - 1).toNat)).x) : Value), .int .i64 ((gD ds ((((k : Nat) : Int) - 1).toNat)).y), .bool ((gD ds ((((k : Nat) : Int) - 1).toNat)).d)]) (ltN rfl) qC3_ti_52 rfl (dsl_at (k := ((((k : Nat) : Int) - 1).toNat)) (by first | omega | assumption | exact regSet_lt (by assumption) | exact domS_lt (by assumption) | exact andn_lt (regSet_lt (by assumption)))))) (AllSteps.cons (step_on (dj := 35) rfl rfl (acts_load_owns (d := 41) (t := 7) (h := 7) (off := 0) (o := ⟨52, 3, true, [(.val (.int .i64 ((gD ds k).x)) : A), .val (.int .i64 ((gD ds k).y)), .val (.bool ((gD ds k).d))]⟩)  (xs := [(.int .i64 ((gD ds k).x) : Value), .int .i64 ((gD ds k).y), .bool ((gD ds k).d)].map A.val) (ltN rfl) qC3_ti_52 rfl (by decide) rfl)) (AllSteps.cons (step_on (dj := 35) rfl rfl (acts_call1 (d := 42) (ltN rfl) (impl_IsDominoBefore_fn (gD ds ((((k : Nat) : Int) - 1).toNat)) (gD ds k) ) (ArgVs.cons (ArgV.va (vs := [(.int .i64 ((gD ds ((((k : Nat) : Int) - 1).toNat)).x) : Value), .int .i64 ((gD ds ((((k : Nat) : Int) - 1).toNat)).y), .bool ((gD ds ((((k : Nat) : Int) - 1).toNat)).d)]) (OpV.agg 40 [(.int .i64 ((gD ds ((((k : Nat) : Int) - 1).toNat)).x) : Value), .int .i64 ((gD ds ((((k : Nat) : Int) - 1).toNat)).y), .bool ((gD ds ((((k : Nat) : Int) - 1).toNat)).d)])) (ArgVs.cons (ArgV.va (vs := [(.int .i64 ((gD ds k).x) : Value), .int .i64 ((gD ds k).y), .bool ((gD ds k).d)]) (OpV.agg 41 [(.int .i64 ((gD ds k).x) : Value), .int .i64 ((gD ds k).y), .bool ((gD ds k).d)])) (ArgVs.nil))) (ResV.val _))) (AllSteps.cons (step_on (dj := 35) rfl rfl (acts_un (d := 43) (ltN rfl) (OpV.tmp 42 (.bool (bef (gD ds ((((k : Nat) : Int) - 1).toNat)) (gD ds k)))) (r_not (c := (!(bef (gD ds ((((k : Nat) : Int) - 1).toNat)) (gD ds k)))) rfl))) (AllSteps.cons (step_on (dj := 32) rfl rfl (acts_pick_t (d := 44) (ltN rfl) (OpV.tmp 35 (.bool true)) (OpX.tmp 43 (V.v (.bool (!(bef (gD ds ((((k : Nat) : Int) - 1).toNat)) (gD ds k)))))))) (AllSteps.cons (step_plain rfl (acts_pick_f (d := 45) (ltN rfl) (OpV.tmp 32 (.bool false)) (OpX.tmp 44 (V.v (.bool (!(bef (gD ds ((((k : Nat) : Int) - 1).toNat)) (gD ds k)))))))) (AllSteps.nil))))))))))))))))))))))))))) (by kernel_rfl) (by kernel_rfl) (by kernel_rfl) ?_
            refine wp_if (t := 45) ((!(bef (gD ds ((((k : Nat) : Int) - 1).toNat)) (gD ds k)))) (by kernel_rfl) (fun c9 => ?_) (fun c9 => ?_)
            · skip
              have c10 : (bef (gD ds ((((k : Nat) : Int) - 1).toNat)) (gD ds k)) = false := by simpa using c9
              refine wp_seq' ?_
              refine wp_region_t ?_
              refine wpc (step_plain rfl (acts_assign (d := 4) (ltN rfl) (OpX.const (.bool false)))) (by kernel_rfl) ?_
              refine wpl_nil ?_
              refine wp_ret' ?_
              exact VRes.tmp 4 (.a (.val (.bool false))) _ (by kernel_rfl) (bval (congrArg Value.bool (by first | (simp_all [isPar]; done) | exact (isPar_no (k := k) (by omega) (.inr (by unfold stepOk fits; simp_all [natI] <;> omega))).symm | exact (isPar_yes (by omega) (by omega) (by assumption) (by assumption)).symm)))
            · skip
              have c11 : (bef (gD ds ((((k : Nat) : Int) - 1).toNat)) (gD ds k)) = true := by simpa using c9
              refine wp_skip' ?_
              refine wp_region_t ?_
              refine wpc (step_plain rfl (acts_move (d := 46) (ltN rfl) (OpX.tmp 5 (V.v (.int .u64 (((andn (regSet l) (covS (ds.take k))) : Nat) : Int)))))) (by kernel_rfl) ?_
              refine wpc (step_plain rfl (acts_load_owns (d := 47) (t := 7) (h := 7) (off := 0) (o := ⟨52, 3, true, [(.val (.int .i64 ((gD ds k).x)) : A), .val (.int .i64 ((gD ds k).y)), .val (.bool ((gD ds k).d))]⟩)  (xs := [(.int .i64 ((gD ds k).x) : Value), .int .i64 ((gD ds k).y), .bool ((gD ds k).d)].map A.val) (ltN rfl) qC3_ti_52 rfl (by decide) rfl)) (by kernel_rfl) ?_
              refine wpc (step_plain rfl (acts_call1 (d := 48) (ltN rfl) (impl_Domino__set_fn (gD ds k) (by first | omega | assumption | exact regSet_lt (by assumption) | exact domS_lt (by assumption) | exact andn_lt (regSet_lt (by assumption)))) (ArgVs.cons (ArgV.va (vs := [(.int .i64 ((gD ds k).x) : Value), .int .i64 ((gD ds k).y), .bool ((gD ds k).d)]) (OpV.agg 47 [(.int .i64 ((gD ds k).x) : Value), .int .i64 ((gD ds k).y), .bool ((gD ds k).d)])) (ArgVs.nil)) (ResV.val _))) (by kernel_rfl) ?_
              refine wpc (step_plain rfl (acts_bin (d := 49) (ltN rfl) (OpV.tmp 46 (.int .u64 (((andn (regSet l) (covS (ds.take k))) : Nat) : Int))) (OpV.tmp 48 (.int .u64 (((domS (gD ds k)) : Nat) : Int))) (r_andNot (c := (((andn (andn (regSet l) (covS (ds.take k))) (domS (gD ds k))) : Nat) : Int)) (andnU (m := (andn (regSet l) (covS (ds.take k)))) (n := (domS (gD ds k))) rfl rfl (by first | omega | assumption | exact Nat.lt_of_le_of_lt (shr_le _ _) (by first | omega | assumption | (first | omega | assumption | exact regSet_lt (by assumption) | exact domS_lt (by assumption) | exact andn_lt (regSet_lt (by assumption)))) | (first | omega | assumption | exact regSet_lt (by assumption) | exact domS_lt (by assumption) | exact andn_lt (regSet_lt (by assumption)))) (by first | omega | assumption | exact Nat.lt_of_le_of_lt (shr_le _ _) (by first | omega | assumption | (first | omega | assumption | exact regSet_lt (by assumption) | exact domS_lt (by assumption) | exact andn_lt (regSet_lt (by assumption)))) | (first | omega | assumption | exact regSet_lt (by assumption) | exact domS_lt (by assumption) | exact andn_lt (regSet_lt (by assumption)))))))) (by kernel_rfl) ?_
              refine wpc (step_plain rfl (acts_assign (d := 5) (ltN rfl) (OpX.tmp 49 (V.v (.int .u64 (((andn (andn (regSet l) (covS (ds.take k))) (domS (gD ds k))) : Nat) : Int)))))) (by kernel_rfl) ?_
              refine wpl_nil ?_
              refine wp_region_t ?_
              refine wpc (step_plain rfl (acts_bin (d := 50) (ltN rfl) (OpV.tmp 15 (.int .i64 ((k : Nat) : Int))) (OpV.const (.int .i64 1)) (r_add (c := (((k : Nat) : Int) + 1)) (w64 (by first | omega | assumption | exact regSet_lt (by assumption) | exact domS_lt (by assumption) | exact andn_lt (regSet_lt (by assumption))) (by first | omega | assumption | exact regSet_lt (by assumption) | exact domS_lt (by assumption) | exact andn_lt (regSet_lt (by assumption))))))) (by kernel_rfl) ?_
              refine wpc (step_plain rfl (acts_move (d := 15) (ltN rfl) (OpX.tmp 50 (V.v (.int .i64 (((k : Nat) : Int) + 1)))))) (by kernel_rfl) ?_
              refine wpl_nil ?_
              exact loop_back ((k + 1)) (by refine ⟨by omega, parT_snoc (by assumption) ?_⟩; unfold stepOk fits; simp_all [natI]; (try omega)) (by show ds.length - (k + 1) < ds.length - k; omega) (weak_of id [2, 7, 9, 12, 14, 21, 26, 29, 42, 48] (by kernel_rfl) (wk_s (v' := V.b (.a (.slv ds.length 3 (dsl ds)))) (by kernel_rfl) rfl rfl (wk_s (v' := V.v (.int .u64 (((andn (andn (regSet l) (covS (ds.take k))) (domS (gD ds k))) : Nat) : Int))) (by kernel_rfl) (vint (by first | rfl | (rw [andn_cov0]) | (rw [covS_yes (by omega) (by assumption), andn_or]) | omega)) rfl (wk_s (v' := V.b (.a (.slv ds.length 3 (dsl ds)))) (by kernel_rfl) rfl rfl (wk_s (v' := V.v (.int .i64 ((ds.length : Nat) : Int))) (by kernel_rfl) rfl rfl (wk_s (v' := V.v (.int .i64 (((k : Nat) : Int) + 1))) (by kernel_rfl) (vint (by first | rfl | (rw [andn_cov0]) | (rw [covS_yes (by omega) (by assumption), andn_or]) | omega)) rfl (wk_f rfl (wk_f rfl (wk_f rfl (wk_f rfl (wk_f rfl (wk_f rfl (wk_f rfl (wk_f rfl (wk_f rfl (wk_f rfl (wk_nil)))))))))))))))))
          · skip
            have c8P := of_decide_eq_false c8
            refine wp_drawn' (by kernel_rfl) (AllSteps.cons (step_plain rfl (acts_load_owns (d := 20) (t := 7) (h := 7) (off := 0) (o := ⟨52, 3, true, [(.val (.int .i64 ((gD ds k).x)) : A), .val (.int .i64 ((gD ds k).y)), .val (.bool ((gD ds k).d))]⟩)  (xs := [(.int .i64 ((gD ds k).x) : Value), .int .i64 ((gD ds k).y), .bool ((gD ds k).d)].map A.val) (ltN rfl) qC3_ti_52 rfl (by decide) rfl)) (AllSteps.cons (step_plain rfl (acts_call1 (d := 21) (ltN rfl) (impl_DominoOk_fn (gD ds k) ) (ArgVs.cons (ArgV.va (vs := [(.int .i64 ((gD ds k).x) : Value), .int .i64 ((gD ds k).y), .bool ((gD ds k).d)]) (OpV.agg 20 [(.int .i64 ((gD ds k).x) : Value), .int .i64 ((gD ds k).y), .bool ((gD ds k).d)])) (ArgVs.nil)) ((resval (congrArg Value.bool c6))))) (AllSteps.cons (step_plain rfl (acts_un (d := 22) (ltN rfl) (OpV.tmp 21 (.bool true)) (r_not (c := false) rfl))) (AllSteps.cons (step_plain rfl (acts_move (d := 23) (ltN rfl) (OpX.tmp 22 (V.v (.bool false))))) (AllSteps.cons (step_on (dj := 23) rfl rfl (acts_move (d := 24) (ltN rfl) (OpX.tmp 5 (V.v (.int .u64 (((andn (regSet l) (covS (ds.take k))) : Nat) : Int)))))) (AllSteps.cons (step_on (dj := 23) rfl rfl (acts_load_owns (d := 25) (t := 7) (h := 7) (off := 0) (o := ⟨52, 3, true, [(.val (.int .i64 ((gD ds k).x)) : A), .val (.int .i64 ((gD ds k).y)), .val (.bool ((gD ds k).d))]⟩)  (xs := [(.int .i64 ((gD ds k).x) : Value), .int .i64 ((gD ds k).y), .bool ((gD ds k).d)].map A.val) (ltN rfl) qC3_ti_52 rfl (by decide) rfl)) (AllSteps.cons (step_on (dj := 23) rfl rfl (acts_call1 (d := 26) (ltN rfl) (impl_Domino__set_fn (gD ds k) (by first | omega | assumption | exact regSet_lt (by assumption) | exact domS_lt (by assumption) | exact andn_lt (regSet_lt (by assumption)))) (ArgVs.cons (ArgV.va (vs := [(.int .i64 ((gD ds k).x) : Value), .int .i64 ((gD ds k).y), .bool ((gD ds k).d)]) (OpV.agg 25 [(.int .i64 ((gD ds k).x) : Value), .int .i64 ((gD ds k).y), .bool ((gD ds k).d)])) (ArgVs.nil)) (ResV.val _))) (AllSteps.cons (step_on (dj := 23) rfl rfl (acts_bin (d := 27) (ltN rfl) (OpV.tmp 24 (.int .u64 (((andn (regSet l) (covS (ds.take k))) : Nat) : Int))) (OpV.tmp 26 (.int .u64 (((domS (gD ds k)) : Nat) : Int))) (r_and (c := ((((andn (regSet l) (covS (ds.take k))) &&& (domS (gD ds k))) : Nat) : Int)) (andU (m := (andn (regSet l) (covS (ds.take k)))) (n := (domS (gD ds k))) rfl rfl (by first | omega | assumption | exact Nat.lt_of_le_of_lt (shr_le _ _) (by first | omega | assumption | (first | omega | assumption | exact regSet_lt (by assumption) | exact domS_lt (by assumption) | exact andn_lt (regSet_lt (by assumption)))) | (first | omega | assumption | exact regSet_lt (by assumption) | exact domS_lt (by assumption) | exact andn_lt (regSet_lt (by assumption)))) (by first | omega | assumption | exact Nat.lt_of_le_of_lt (shr_le _ _) (by first | omega | assumption | (first | omega | assumption | exact regSet_lt (by assumption) | exact domS_lt (by assumption) | exact andn_lt (regSet_lt (by assumption)))) | (first | omega | assumption | exact regSet_lt (by assumption) | exact domS_lt (by assumption) | exact andn_lt (regSet_lt (by assumption)))))))) (AllSteps.cons (step_on (dj := 23) rfl rfl (acts_load_owns (d := 28) (t := 7) (h := 7) (off := 0) (o := ⟨52, 3, true, [(.val (.int .i64 ((gD ds k).x)) : A), .val (.int .i64 ((gD ds k).y)), .val (.bool ((gD ds k).d))]⟩)  (xs := [(.int .i64 ((gD ds k).x) : Value), .int .i64 ((gD ds k).y), .bool ((gD ds k).d)].map A.val) (ltN rfl) qC3_ti_52 rfl (by decide) rfl)) (AllSteps.cons (step_on (dj := 23) rfl rfl (acts_call1 (d := 29) (ltN rfl) (impl_Domino__set_fn (gD ds k) (by first | omega | assumption | exact regSet_lt (by assumption) | exact domS_lt (by assumption) | exact andn_lt (regSet_lt (by assumption)))) (ArgVs.cons (ArgV.va (vs := [(.int .i64 ((gD ds k).x) : Value), .int .i64 ((gD ds k).y), .bool ((gD ds k).d)]) (OpV.agg 28 [(.int .i64 ((gD ds k).x) : Value), .int .i64 ((gD ds k).y), .bool ((gD ds k).d)])) (ArgVs.nil)) (ResV.val _))) (AllSteps.cons (step_on (dj := 23) rfl rfl (acts_bin (d := 30) (ltN rfl) (OpV.tmp 27 (.int .u64 ((((andn (regSet l) (covS (ds.take k))) &&& (domS (gD ds k))) : Nat) : Int))) (OpV.tmp 29 (.int .u64 (((domS (gD ds k)) : Nat) : Int))) (r_neq (c := false) c7))) (AllSteps.cons (step_plain rfl (acts_pick_f (d := 31) (ltN rfl) (OpV.tmp 23 (.bool false)) (OpX.tmp 30 (V.v (.bool false))))) (AllSteps.cons (step_plain rfl (acts_move (d := 32) (ltN rfl) (OpX.tmp 31 (V.v (.bool false))))) (AllSteps.cons (step_on (dj := 32) rfl rfl (acts_move (d := 33) (ltN rfl) (OpX.tmp 6 (V.v (.int .i64 ((k : Nat) : Int)))))) (AllSteps.cons (step_on (dj := 32) rfl rfl (acts_bin (d := 34) (ltN rfl) (OpV.tmp 33 (.int .i64 ((k : Nat) : Int))) (OpV.const (.int .i64 0)) (r_gtr (c := false) c8))) (AllSteps.cons (step_on (dj := 32) rfl rfl (acts_move (d := 35) (ltN rfl) (OpX.tmp 34 (V.v (.bool false))))) (AllSteps.cons (step_off (dj := 35) (b' := false) rfl rfl (by decide) rfl (ltN rfl)) (AllSteps.cons (step_off (dj := 35) (b' := false) rfl rfl (by decide) rfl (ltN rfl)) (AllSteps.cons (step_off (dj := 35) (b' := false) rfl rfl (by decide) rfl (ltN rfl)) (AllSteps.cons (step_off (dj := 35) (b' := false) rfl rfl (by decide) rfl (ltN rfl)) (AllSteps.cons (step_off (dj := 35) (b' := false) rfl rfl (by decide) rfl (ltN rfl)) (AllSteps.cons (step_off (dj := 35) (b' := false) rfl rfl (by decide) rfl (ltN rfl)) (AllSteps.cons (step_off (dj := 35) (b' := false) rfl rfl (by decide) rfl (ltN rfl)) (AllSteps.cons (step_off (dj := 35) (b' := false) rfl rfl (by decide) rfl (ltN rfl)) (AllSteps.cons (step_on (dj := 32) rfl rfl (acts_pick_f (d := 44) (ltN rfl) (OpV.tmp 35 (.bool false)) (OpX.const (.bool false)))) (AllSteps.cons (step_plain rfl (acts_pick_f (d := 45) (ltN rfl) (OpV.tmp 32 (.bool false)) (OpX.tmp 44 (V.v (.bool false))))) (AllSteps.nil))))))))))))))))))))))))))) (by kernel_rfl) (by kernel_rfl) (by kernel_rfl) ?_
            refine wp_if_f (t := 45) (by kernel_rfl) ?_
            refine wp_skip' ?_
            refine wp_region_t ?_
            refine wpc (step_plain rfl (acts_move (d := 46) (ltN rfl) (OpX.tmp 5 (V.v (.int .u64 (((andn (regSet l) (covS (ds.take k))) : Nat) : Int)))))) (by kernel_rfl) ?_
            refine wpc (step_plain rfl (acts_load_owns (d := 47) (t := 7) (h := 7) (off := 0) (o := ⟨52, 3, true, [(.val (.int .i64 ((gD ds k).x)) : A), .val (.int .i64 ((gD ds k).y)), .val (.bool ((gD ds k).d))]⟩)  (xs := [(.int .i64 ((gD ds k).x) : Value), .int .i64 ((gD ds k).y), .bool ((gD ds k).d)].map A.val) (ltN rfl) qC3_ti_52 rfl (by decide) rfl)) (by kernel_rfl) ?_
            refine wpc (step_plain rfl (acts_call1 (d := 48) (ltN rfl) (impl_Domino__set_fn (gD ds k) (by first | omega | assumption | exact regSet_lt (by assumption) | exact domS_lt (by assumption) | exact andn_lt (regSet_lt (by assumption)))) (ArgVs.cons (ArgV.va (vs := [(.int .i64 ((gD ds k).x) : Value), .int .i64 ((gD ds k).y), .bool ((gD ds k).d)]) (OpV.agg 47 [(.int .i64 ((gD ds k).x) : Value), .int .i64 ((gD ds k).y), .bool ((gD ds k).d)])) (ArgVs.nil)) (ResV.val _))) (by kernel_rfl) ?_
            refine wpc (step_plain rfl (acts_bin (d := 49) (ltN rfl) (OpV.tmp 46 (.int .u64 (((andn (regSet l) (covS (ds.take k))) : Nat) : Int))) (OpV.tmp 48 (.int .u64 (((domS (gD ds k)) : Nat) : Int))) (r_andNot (c := (((andn (andn (regSet l) (covS (ds.take k))) (domS (gD ds k))) : Nat) : Int)) (andnU (m := (andn (regSet l) (covS (ds.take k)))) (n := (domS (gD ds k))) rfl rfl (by first | omega | assumption | exact Nat.lt_of_le_of_lt (shr_le _ _) (by first | omega | assumption | (first | omega | assumption | exact regSet_lt (by assumption) | exact domS_lt (by assumption) | exact andn_lt (regSet_lt (by assumption)))) | (first | omega | assumption | exact regSet_lt (by assumption) | exact domS_lt (by assumption) | exact andn_lt (regSet_lt (by assumption)))) (by first | omega | assumption | exact Nat.lt_of_le_of_lt (shr_le _ _) (by first | omega | assumption | (first | omega | assumption | exact regSet_lt (by assumption) | exact domS_lt (by assumption) | exact andn_lt (regSet_lt (by assumption)))) | (first | omega | assumption | exact regSet_lt (by assumption) | exact domS_lt (by assumption) | exact andn_lt (regSet_lt (by assumption)))))))) (by kernel_rfl) ?_
            refine wpc (step_plain rfl (acts_assign (d := 5) (ltN rfl) (OpX.tmp 49 (V.v (.int .u64 (((andn (andn (regSet l) (covS (ds.take k))) (domS (gD ds k))) : Nat) : Int)))))) (by kernel_rfl) ?_
            refine wpl_nil ?_
            refine wp_region_t ?_
            refine wpc (step_plain rfl (acts_bin (d := 50) (ltN rfl) (OpV.tmp 15 (.int .i64 ((k : Nat) : Int))) (OpV.const (.int .i64 1)) (r_add (c := (((k : Nat) : Int) + 1)) (w64 (by first | omega | assumption | exact regSet_lt (by assumption) | exact domS_lt (by assumption) | exact andn_lt (regSet_lt (by assumption))) (by first | omega | assumption | exact regSet_lt (by assumption) | exact domS_lt (by assumption) | exact andn_lt (regSet_lt (by assumption))))))) (by kernel_rfl) ?_
            refine wpc (step_plain rfl (acts_move (d := 15) (ltN rfl) (OpX.tmp 50 (V.v (.int .i64 (((k : Nat) : Int) + 1)))))) (by kernel_rfl) ?_
            refine wpl_nil ?_
            exact loop_back ((k + 1)) (by refine ⟨by omega, parT_snoc (by assumption) ?_⟩; unfold stepOk fits; simp_all [natI]; (try omega)) (by show ds.length - (k + 1) < ds.length - k; omega) (weak_of id [2, 7, 9, 12, 14, 21, 26, 29, 42, 48] (by kernel_rfl) (wk_s (v' := V.b (.a (.slv ds.length 3 (dsl ds)))) (by kernel_rfl) rfl rfl (wk_s (v' := V.v (.int .u64 (((andn (andn (regSet l) (covS (ds.take k))) (domS (gD ds k))) : Nat) : Int))) (by kernel_rfl) (vint (by first | rfl | (rw [andn_cov0]) | (rw [covS_yes (by omega) (by assumption), andn_or]) | omega)) rfl (wk_s (v' := V.b (.a (.slv ds.length 3 (dsl ds)))) (by kernel_rfl) rfl rfl (wk_s (v' := V.v (.int .i64 ((ds.length : Nat) : Int))) (by kernel_rfl) rfl rfl (wk_s (v' := V.v (.int .i64 (((k : Nat) : Int) + 1))) (by kernel_rfl) (vint (by first | rfl | (rw [andn_cov0]) | (rw [covS_yes (by omega) (by assumption), andn_or]) | omega)) rfl (wk_f rfl (wk_f rfl (wk_f rfl (wk_f rfl (wk_f rfl (wk_f rfl (wk_f rfl (wk_f rfl (wk_f rfl (wk_f rfl (wk_nil)))))))))))))))))
      · skip
        refine wp_drawn' (by kernel_rfl) (AllSteps.cons (step_plain rfl (acts_load_owns (d := 20) (t := 7) (h := 7) (off := 0) (o := ⟨52, 3, true, [(.val (.int .i64 ((gD ds k).x)) : A), .val (.int .i64 ((gD ds k).y)), .val (.bool ((gD ds k).d))]⟩)  (xs := [(.int .i64 ((gD ds k).x) : Value), .int .i64 ((gD ds k).y), .bool ((gD ds k).d)].map A.val) (ltN rfl) qC3_ti_52 rfl (by decide) rfl)) (AllSteps.cons (step_plain rfl (acts_call1 (d := 21) (ltN rfl) (impl_DominoOk_fn (gD ds k) ) (ArgVs.cons (ArgV.va (vs := [(.int .i64 ((gD ds k).x) : Value), .int .i64 ((gD ds k).y), .bool ((gD ds k).d)]) (OpV.agg 20 [(.int .i64 ((gD ds k).x) : Value), .int .i64 ((gD ds k).y), .bool ((gD ds k).d)])) (ArgVs.nil)) ((resval (congrArg Value.bool c6))))) (AllSteps.cons (step_plain rfl (acts_un (d := 22) (ltN rfl) (OpV.tmp 21 (.bool false)) (r_not (c := true) rfl))) (AllSteps.cons (step_plain rfl (acts_move (d := 23) (ltN rfl) (OpX.tmp 22 (V.v (.bool true))))) (AllSteps.cons (step_off (dj := 23) (b' := true) rfl rfl (by decide) rfl (ltN rfl)) (AllSteps.cons (step_off (dj := 23) (b' := true) rfl rfl (by decide) rfl (ltN rfl)) (AllSteps.cons (step_off (dj := 23) (b' := true) rfl rfl (by decide) rfl (ltN rfl)) (AllSteps.cons (step_off (dj := 23) (b' := true) rfl rfl (by decide) rfl (ltN rfl)) (AllSteps.cons (step_off (dj := 23) (b' := true) rfl rfl (by decide) rfl (ltN rfl)) (AllSteps.cons (step_off (dj := 23) (b' := true) rfl rfl (by decide) rfl (ltN rfl)) (AllSteps.cons (step_off (dj := 23) (b' := true) rfl rfl (by decide) rfl (ltN rfl)) (AllSteps.cons (step_plain rfl (acts_pick_t (d := 31) (ltN rfl) (OpV.tmp 23 (.bool true)) (OpX.const (.bool true)))) (AllSteps.cons (step_plain rfl (acts_move (d := 32) (ltN rfl) (OpX.tmp 31 (V.v (.bool true))))) (AllSteps.cons (step_off (dj := 32) (b' := true) rfl rfl (by decide) rfl (ltN rfl)) (AllSteps.cons (step_off (dj := 32) (b' := true) rfl rfl (by decide) rfl (ltN rfl)) (AllSteps.cons (step_offu (dj := 32) (b' := true) rfl rfl (by decide) rfl (ltN rfl)) (AllSteps.cons (step_offx (dj := 35) rfl rfl rfl (ltN rfl)) (AllSteps.cons (step_offx (dj := 35) rfl rfl rfl (ltN rfl)) (AllSteps.cons (step_offx (dj := 35) rfl rfl rfl (ltN rfl)) (AllSteps.cons (step_offx (dj := 35) rfl rfl rfl (ltN rfl)) (AllSteps.cons (step_offx (dj := 35) rfl rfl rfl (ltN rfl)) (AllSteps.cons (step_offx (dj := 35) rfl rfl rfl (ltN rfl)) (AllSteps.cons (step_offx (dj := 35) rfl rfl rfl (ltN rfl)) (AllSteps.cons (step_offx (dj := 35) rfl rfl rfl (ltN rfl)) (AllSteps.cons (step_off (dj := 32) (b' := true) rfl rfl (by decide) rfl (ltN rfl)) (AllSteps.cons (step_plain rfl (acts_pick_t (d := 45) (ltN rfl) (OpV.tmp 32 (.bool true)) (OpX.const (.bool true)))) (AllSteps.nil))))))))))))))))))))))))))) (by kernel_rfl) (by kernel_rfl) (by kernel_rfl) ?_
        refine wp_if_t (t := 45) (by kernel_rfl) ?_
        refine wp_seq' ?_
        refine wp_region_t ?_
        refine wpc (step_plain rfl (acts_assign (d := 4) (ltN rfl) (OpX.const (.bool false)))) (by kernel_rfl) ?_
        refine wpl_nil ?_
        refine wp_ret' ?_
        exact VRes.tmp 4 (.a (.val (.bool false))) _ (by kernel_rfl) (bval (congrArg Value.bool (by first | (simp_all [isPar]; done) | exact (isPar_no (k := k) (by omega) (.inr (by unfold stepOk fits; simp_all [natI] <;> omega))).symm | exact (isPar_yes (by omega) (by omega) (by assumption) (by assumption)).symm)))
    · skip
      have c5P := of_decide_eq_false c5
      refine wp_exit' ?_
      refine wp_seq' ?_
      refine wp_region_t ?_
      refine wpc (step_plain rfl (acts_assign (d := 4) (ltN rfl) (OpX.const (.bool true)))) (by kernel_rfl) ?_
      refine wpl_nil ?_
      refine wp_ret' ?_
      exact VRes.tmp 4 (.a (.val (.bool true))) _ (by kernel_rfl) (bval (congrArg Value.bool (by first | (simp_all [isPar]; done) | exact (isPar_no (k := k) (by omega) (.inr (by unfold stepOk fits; simp_all [natI] <;> omega))).symm | exact (isPar_yes (by omega) (by omega) (by assumption) (by assumption)).symm)))

set_option maxHeartbeats 4000000 in
set_option maxRecDepth 100000 in
theorem spec_IsPartial_fn (l : List Int) (ds : List Dom) (hl : l.length ≤ 4194304) (hd : ds.length ≤ 2097152) : Fn Try.prog 34 [.agg [(.slv l.length 1 (isl l) : A)], .a (.slv ds.length 3 (dsl ds))] [.val (.bool (isPar l ds))] := by
  refine fn_intro (N := 81) Try.func34 rfl (by kernel_rfl) rfl (Nat.le_of_ble_eq_true rfl) [2, 7, 8, 9, 12, 20, 35, 44, 49, 54, 60, 67, 73, 77, 80] (ret1 rfl) (fun W => ?_)
  show Wp _ _ _ [(.s 0, some (.s (V.b (.agg [(.slv l.length 1 (isl l) : A)])))), (.s 1, some (.s (V.b (.a (.slv ds.length 3 (dsl ds)))))), (.o 2, some .free), (.o 7, some .free), (.o 8, some .free), (.o 9, some .free), (.o 12, some .free), (.o 20, some .free), (.o 35, some .free), (.o 44, some .free), (.o 49, some .free), (.o 54, some .free), (.o 60, some .free), (.o 67, some .free), (.o 73, some .free), (.o 77, some .free), (.o 80, some .free)]
  refine wp_seq' ?_
  refine wp_region_t ?_
  refine wpc (step_plain rfl (acts_box (d := 2) (h := 2) (b := .agg [(.slv l.length 1 (isl l) : A)]) (ltN rfl) (OpX.tmp 0 (V.b (.agg [(.slv l.length 1 (isl l) : A)]))) (by intro y hy; simp [B.cs] at hy; subst hy; rfl))) (by kernel_rfl) ?_
  refine wpc (step_plain rfl (acts_assign (d := 4) (ltN rfl) (OpX.const (.bool false)))) (by kernel_rfl) ?_
  refine wpl_nil ?_
  refine wp_seq' ?_
  refine wp_region_t ?_
  refine wpc (step_plain rfl (acts_make' (d := 9) (h := 9) (n := 64) (s := 1) (xs := bsl (List.replicate 64 false)) (ltN rfl) qC3_un_74 qC3_zi_4 (OpV.const (.int .i64 64)) (OpV.const (.int .i64 64)) rfl rfl (by decide) (by first | omega | assumption | exact ok_ca (by assumption) | exact ok_cb (by assumption) | (have := idx_lt (ok_ca (d := gD ds k) (by assumption)); have := idx_lt (ok_cb (d := gD ds k) (by assumption)); simp [bitsL_len] at *; omega)) (made_bools 64))) (by kernel_rfl) ?_
  refine wpc (step_plain rfl (acts_assign (d := 5) (ltN rfl) (OpX.tmp 9 (V.b (.a (.sl 9 0 64)))))) (by kernel_rfl) ?_
  refine wpl_nil ?_
  refine wp_seq' ?_
  refine wp_seq' ?_
  refine wp_region_t ?_
  refine wpc (step_plain rfl (acts_assign (d := 6) (ltN rfl) (OpX.const (.int .i64 0)))) (by kernel_rfl) ?_
  refine wpl_nil ?_
  refine wp_block' ?_
  refine wp_loop' (fun (k : Nat) => k ≤ ds.length ∧ (k = 0 ∨ regOk l = true) ∧ parT (regSet l) ds k = true) (fun (k : Nat) => [(.s 1, some (.s (V.b (.a (.slv ds.length 3 (dsl ds)))))), (.s 2, some (.s (V.p 2 0))), (.s 5, some (.s (V.b (.a (.sl 9 0 ((bitsL (covS (ds.take k))).length)))))), (.s 6, some (.s (V.v (.int .i64 ((k : Nat) : Int))))), (.o 2, some (.o ⟨29, 1, true, [(.slv l.length 1 (isl l) : A)]⟩)), (.o 9, some (.o ⟨4, 1, true, pl (bsl (bitsL (covS (ds.take k))))⟩)), (.o 7, some .free), (.o 8, some .free), (.o 12, some .free), (.o 20, some .free), (.o 35, some .free), (.o 44, some .free), (.o 49, some .free), (.o 54, some .free), (.o 60, some .free), (.o 67, some .free), (.o 73, some .free), (.o 77, some .free), (.o 80, some .free)]) (fun (k : Nat) => ds.length - k) ((0 : Nat)) (by exact ⟨Nat.zero_le _, .inl rfl, parT_zero _ _⟩) (weak_of id [7, 8, 12, 20, 35, 44, 49, 54, 60, 67, 73, 77, 80] (by kernel_rfl) (wk_s (v' := V.b (.a (.slv ds.length 3 (dsl ds)))) (by kernel_rfl) rfl rfl (wk_s (v' := V.p 2 0) (by kernel_rfl) rfl rfl (wk_s (v' := V.b (.a (.sl 9 0 64))) (by kernel_rfl) (vsl (by first | rfl | (simp; done) | (simp; omega) | omega | (exact congrArg List.length (by first | rfl | (rw [bits_step (by omega) (by assumption)]) | exact bits_cov0 _ | exact (bits_cov0 _).symm | omega))) rfl) rfl (wk_s (v' := V.v (.int .i64 0)) (by kernel_rfl) (vint (by first | rfl | (rw [bits_step (by omega) (by assumption)]) | exact bits_cov0 _ | exact (bits_cov0 _).symm | omega)) rfl (wk_o (o' := ⟨29, 1, true, [(.slv l.length 1 (isl l) : A)]⟩) (by kernel_rfl) (renob_l (fun h => h) rfl rfl) rfl (wk_o (o' := ⟨4, 1, true, pl (bsl (List.replicate 64 false))⟩) (by kernel_rfl) (renob_eq (fun h => h) (congrArg bsl (by first | rfl | (rw [bits_step (by omega) (by assumption)]) | exact bits_cov0 _ | exact (bits_cov0 _).symm | omega))) rfl (wk_f rfl (wk_f rfl (wk_f rfl (wk_f rfl (wk_f rfl (wk_f rfl (wk_f rfl (wk_f rfl (wk_f rfl (wk_f rfl (wk_f rfl (wk_f rfl (wk_f rfl (wk_nil))))))))))))))))))))) ?_
  rintro k inv1
  replace inv1 : k ≤ ds.length ∧ (k = 0 ∨ regOk l = true) ∧ parT (regSet l) ds k = true := inv1
  obtain ⟨inv1_0, inv1_1, inv1_2⟩ := inv1
  show Wp _ _ _ [(.s 1, some (.s (V.b (.a (.slv ds.length 3 (dsl ds)))))), (.s 2, some (.s (V.p 2 0))), (.s 5, some (.s (V.b (.a (.sl 9 0 ((bitsL (covS (ds.take k))).length)))))), (.s 6, some (.s (V.v (.int .i64 ((k : Nat) : Int))))), (.o 2, some (.o ⟨29, 1, true, [(.slv l.length 1 (isl l) : A)]⟩)), (.o 9, some (.o ⟨4, 1, true, pl (bsl (bitsL (covS (ds.take k))))⟩)), (.o 7, some .free), (.o 8, some .free), (.o 12, some .free), (.o 20, some .free), (.o 35, some .free), (.o 44, some .free), (.o 49, some .free), (.o 54, some .free), (.o 60, some .free), (.o 67, some .free), (.o 73, some .free), (.o 77, some .free), (.o 80, some .free)]
  refine wp_seq' ?_
  refine wp_seq' ?_
  refine wp_region_t ?_
  refine wpc (step_plain rfl (acts_move (d := 10) (ltN rfl) (OpX.tmp 6 (V.v (.int .i64 ((k : Nat) : Int)))))) (by kernel_rfl) ?_
  refine wpc (step_plain rfl (acts_move (d := 11) (ltN rfl) (OpX.tmp 1 (V.b (.a (.slv ds.length 3 (dsl ds))))))) (by kernel_rfl) ?_
  refine wpc (step_plain rfl (acts_len (d := 12) (X := .slv ds.length 3 (dsl ds)) (n := ds.length) (iv := ((ds.length : Nat) : Int)) (ltN rfl) qC3_un_31 (OpX.tmp 11 (V.b (.a (.slv ds.length 3 (dsl ds))))) (LenOf.slv _ _ _) rfl)) (by kernel_rfl) ?_
  refine wpc (step_plain rfl (acts_bin (d := 13) (ltN rfl) (OpV.tmp 10 (.int .i64 ((k : Nat) : Int))) (OpV.tmp 12 (.int .i64 ((ds.length : Nat) : Int))) (r_lss (c := (decide (((k : Nat) : Int) < ((ds.length : Nat) : Int)))) rfl))) (by kernel_rfl) ?_
  refine wpl_nil ?_
  refine wp_if (t := 13) (decide (((k : Nat) : Int) < ((ds.length : Nat) : Int))) (by kernel_rfl) (fun c2 => ?_) (fun c2 => ?_)
  · skip
    have c2P := of_decide_eq_true c2
    refine wp_skip' ?_
    refine wp_seq' ?_
    refine wp_block' ?_
    refine wp_seq' ?_
    refine wp_seq' ?_
    rcases Bool.eq_false_or_eq_true ((okD (gD ds k))) with c3 | c3
    · skip
      rcases Bool.eq_false_or_eq_true (decide (0 < ((k : Nat) : Int))) with c4 | c4
      · skip
        have c4P := of_decide_eq_true c4
        refine wp_drawn' (by kernel_rfl) (AllSteps.cons (step_plain rfl (acts_move (d := 16) (ltN rfl) (OpX.tmp 1 (V.b (.a (.slv ds.length 3 (dsl ds))))))) (AllSteps.cons (step_plain rfl (acts_move (d := 17) (ltN rfl) (OpX.tmp 6 (V.v (.int .i64 ((k : Nat) : Int)))))) (AllSteps.cons (step_plain rfl (acts_index_v (d := 18) (x := 16) (n := ds.length) (s := 3) (k := k) (xs := dsl ds) (ltN rfl) qC3_un_31 qC3_sz_52 (OpV.tmp 17 (.int .i64 ((k : Nat) : Int))) rfl (by first | omega | assumption | exact ok_ca (by assumption) | exact ok_cb (by assumption) | (have := idx_lt (ok_ca (d := gD ds k) (by assumption)); have := idx_lt (ok_cb (d := gD ds k) (by assumption)); simp [bitsL_len] at *; omega)))) (AllSteps.cons (step_plain rfl (acts_load_vs (d := 19) (t := 18) (s := 3) (off := (k * 3)) (xs := dsl ds)  (vs := [(.int .i64 ((gD ds k).x) : Value), .int .i64 ((gD ds k).y), .bool ((gD ds k).d)]) (ltN rfl) qC3_ti_52 rfl (dsl_at (k := k) (by first | omega | assumption | exact ok_ca (by assumption) | exact ok_cb (by assumption) | (have := idx_lt (ok_ca (d := gD ds k) (by assumption)); have := idx_lt (ok_cb (d := gD ds k) (by assumption)); simp [bitsL_len] at *; omega))))) (AllSteps.cons (step_plain rfl (acts_call1 (d := 20) (ltN rfl) (spec_DominoOk_fn (gD ds k) ) (ArgVs.cons (ArgV.va (vs := [(.int .i64 ((gD ds k).x) : Value), .int .i64 ((gD ds k).y), .bool ((gD ds k).d)]) (OpV.agg 19 [(.int .i64 ((gD ds k).x) : Value), .int .i64 ((gD ds k).y), .bool ((gD ds k).d)])) (ArgVs.nil)) ((resval (congrArg Value.bool c3))))) (AllSteps.cons (step_plain rfl (acts_un (d := 21) (ltN rfl) (OpV.tmp 20 (.bool true)) (r_not (c := false) rfl))) (AllSteps.cons (step_plain rfl (acts_move (d := 22) (ltN rfl) (OpX.tmp 21 (V.v (.bool false))))) (AllSteps.cons (step_on (dj := 22) rfl rfl (acts_move (d := 23) (ltN rfl) (OpX.tmp 6 (V.v (.int .i64 ((k : Nat) : Int)))))) (AllSteps.cons (step_on (dj := 22) rfl rfl (acts_bin (d := 24) (ltN rfl) (OpV.tmp 23 (.int .i64 ((k : Nat) : Int))) (OpV.const (.int .i64 0)) (r_gtr (c := true) c4))) (AllSteps.cons (step_on (dj := 22) rfl rfl (acts_move (d := 25) (ltN rfl) (OpX.tmp 24 (V.v (.bool true))))) (AllSteps.cons (step_on (dj := 25) rfl rfl (acts_move (d := 26) (ltN rfl) (OpX.tmp 1 (V.b (.a (.slv ds.length 3 (dsl ds))))))) (AllSteps.cons (step_on (dj := 25) rfl rfl (acts_move (d := 27) (ltN rfl) (OpX.tmp 6 (V.v (.int .i64 ((k : Nat) : Int)))))) (AllSteps.cons (step_on (dj := 25) rfl rfl (acts_bin (d := 28) (ltN rfl) (OpV.tmp 27 (.int .i64 ((k : Nat) : Int))) (OpV.const (.int .i64 1)) (r_sub (c := (((k : Nat) : Int) - 1)) (w64 (by first | omega | assumption | exact ok_ca (by assumption) | exact ok_cb (by assumption) | (have := idx_lt (ok_ca (d := gD ds k) (by assumption)); have := idx_lt (ok_cb (d := gD ds k) (by assumption)); simp [bitsL_len] at *; omega)) (by first | omega | assumption | exact ok_ca (by assumption) | exact ok_cb (by assumption) | (have := idx_lt (ok_ca (d := gD ds k) (by assumption)); have := idx_lt (ok_cb (d := gD ds k) (by assumption)); simp [bitsL_len] at *; omega)))))) (AllSteps.cons (step_on (dj := 25) rfl rfl (acts_index_v (d := 29) (x := 26) (n := ds.length) (s := 3) (k := ((((k : Nat) : Int) - 1).toNat)) (xs := dsl ds) (ltN rfl) qC3_un_31 qC3_sz_52 (OpV.tmp 28 (.int .i64 (((k : Nat) : Int) - 1))) (Int.toNat_of_nonneg (by first | omega | assumption | exact ok_ca (by assumption) | exact ok_cb (by assumption) | (have := idx_lt (ok_ca (d := gD ds k) (by assumption)); have := idx_lt (ok_cb (d := gD ds k) (by assumption)); simp [bitsL_len] at *; omega))).symm (by first | omega | assumption | exact ok_ca (by assumption) | exact ok_cb (by assumption) | (have := idx_lt (ok_ca (d := gD ds k) (by assumption)); have := idx_lt (ok_cb (d := gD ds k) (by assumption)); simp [bitsL_len] at *; omega)))) (AllSteps.cons (step_on (dj := 25) rfl rfl (acts_load_vs (d := 30) (t := 29) (s := 3) (off := (((((k : Nat) : Int) - 1).toNat) * 3)) (xs := dsl ds)  (vs := [(.int .i64 ((gD ds ((((k : Nat) : Int) - 1).toNat)).x) : Value), .int .i64 ((gD ds ((((k : Nat) : Int) - 1).toNat)).y), .bool ((gD ds ((((k : Nat) : Int) - 1).toNat)).d)]) (ltN rfl) qC3_ti_52 rfl (dsl_at (k := ((((k : Nat) : Int) - 1).toNat)) (by first | omega | assumption | exact ok_ca (by assumption) | exact ok_cb (by assumption) | (have := idx_lt (ok_ca (d := gD ds k) (by assumption)); have := idx_lt (ok_cb (d := gD ds k) (by assumption)); simp [bitsL_len] at *; omega))))) (AllSteps.cons (step_on (dj := 25) rfl rfl (acts_move (d := 31) (ltN rfl) (OpX.tmp 1 (V.b (.a (.slv ds.length 3 (dsl ds))))))) (AllSteps.cons (step_on (dj := 25) rfl rfl (acts_move (d := 32) (ltN rfl) (OpX.tmp 6 (V.v (.int .i64 ((k : Nat) : Int)))))) (AllSteps.cons (step_on (dj := 25) rfl rfl (acts_index_v (d := 33) (x := 31) (n := ds.length) (s := 3) (k := k) (xs := dsl ds) (ltN rfl) qC3_un_31 qC3_sz_52 (OpV.tmp 32 (.int .i64 ((k : Nat) : Int))) rfl (by first | omega | assumption | exact ok_ca (by assumption) | exact ok_cb (by assumption) | (have := idx_lt (ok_ca (d := gD ds k) (by assumption)); have := idx_lt (ok_cb (d := gD ds k) (by assumption)); simp [bitsL_len] at *; omega)))) (AllSteps.cons (step_on (dj := 25) rfl rfl (acts_load_vs (d := 34) (t := 33) (s := 3) (off := (k * 3)) (xs := dsl ds)  (vs := [(.int .i64 ((gD ds k).x) : Value), .int .i64 ((gD ds k).y), .bool ((gD ds k).d)]) (ltN rfl) qC3_ti_52 rfl (dsl_at (k := k) (by first | omega | assumption | exact ok_ca (by assumption) | exact ok_cb (by assumption) | (have := idx_lt (ok_ca (d := gD ds k) (by assumption)); have := idx_lt (ok_cb (d := gD ds k) (by assumption)); simp [bitsL_len] at *; omega))))) (AllSteps.cons (step_on (dj := 25) rfl rfl (acts_call1 (d := 35) (ltN rfl) (spec_IsDominoBefore_fn (gD ds ((((k : Nat) : Int) - 1).toNat)) (gD ds k) ) (ArgVs.cons (ArgV.va (vs := [(.int .i64 ((gD ds ((((k : Nat) : Int) - 1).toNat)).x) : Value), .int .i64 ((gD ds ((((k : Nat) : Int) - 1).toNat)).y), .bool ((gD ds ((((k : Nat) : Int) - 1).toNat)).d)]) (OpV.agg 30 [(.int .i64 ((gD ds ((((k : Nat) : Int) - 1).toNat)).x) : Value), .int .i64 ((gD ds ((((k : Nat) : Int) - 1).toNat)).y), .bool ((gD ds ((((k : Nat) : Int) - 1).toNat)).d)])) (ArgVs.cons (ArgV.va (vs := [(.int .i64 ((gD ds k).x) : Value), .int .i64 ((gD ds k).y), .bool ((gD ds k).d)]) (OpV.agg 34 [(.int .i64 ((gD ds k).x) : Value), .int .i64 ((gD ds k).y), .bool ((gD ds k).d)])) (ArgVs.nil))) (ResV.val _))) (AllSteps.cons (step_on (dj := 25) rfl rfl (acts_un (d := 36) (ltN rfl) (OpV.tmp 35 (.bool (bef (gD ds ((((k : Nat) : Int) - 1).toNat)) (gD ds k)))) (r_not (c := (!(bef (gD ds ((((k : Nat) : Int) - 1).toNat)) (gD ds k)))) rfl))) (AllSteps.cons (step_on (dj := 22) rfl rfl (acts_pick_t (d := 37) (ltN rfl) (OpV.tmp 25 (.bool true)) (OpX.tmp 36 (V.v (.bool (!(bef (gD ds ((((k : Nat) : Int) - 1).toNat)) (gD ds k)))))))) (AllSteps.cons (step_plain rfl (acts_pick_f (d := 38) (ltN rfl) (OpV.tmp 22 (.bool false)) (OpX.tmp 37 (V.v (.bool (!(bef (gD ds ((((k : Nat) : Int) - 1).toNat)) (gD ds k)))))))) (AllSteps.nil)))))))))))))))))))))))) (by kernel_rfl) (by kernel_rfl) (by kernel_rfl) ?_
        refine wp_if (t := 38) ((!(bef (gD ds ((((k : Nat) : Int) - 1).toNat)) (gD ds k)))) (by kernel_rfl) (fun c5 => ?_) (fun c5 => ?_)
        · skip
          have c6 : (bef (gD ds ((((k : Nat) : Int) - 1).toNat)) (gD ds k)) = false := by simpa using c5
          refine wp_seq' ?_
          refine wp_region_t ?_
          refine wpc (step_plain rfl (acts_assign (d := 4) (ltN rfl) (OpX.const (.bool false)))) (by kernel_rfl) ?_
          refine wpl_nil ?_
          refine wp_ret' ?_
          exact VRes.tmp 4 (.a (.val (.bool false))) _ (by kernel_rfl) (bval (congrArg Value.bool (by first | (refine (isPar_no' (k := k) (by omega) (fun hr => ?_)).symm; first | (rw [step_eq hr (by assumption)]; simp_all; done) | (rw [step_eq hr (by assumption)]; simp_all; omega) | (unfold stepOk; simp_all; done)) | exact isPar_end (by omega) (by omega) (by assumption))))
        · skip
          have c7 : (bef (gD ds ((((k : Nat) : Int) - 1).toNat)) (gD ds k)) = true := by simpa using c5
          refine wp_skip' ?_
          refine wp_seq' ?_
          refine wp_region_t ?_
          refine wpc (step_plain rfl (acts_move (d := 40) (ltN rfl) (OpX.tmp 1 (V.b (.a (.slv ds.length 3 (dsl ds))))))) (by kernel_rfl) ?_
          refine wpc (step_plain rfl (acts_move (d := 41) (ltN rfl) (OpX.tmp 6 (V.v (.int .i64 ((k : Nat) : Int)))))) (by kernel_rfl) ?_
          refine wpc (step_plain rfl (acts_index_v (d := 42) (x := 40) (n := ds.length) (s := 3) (k := k) (xs := dsl ds) (ltN rfl) qC3_un_31 qC3_sz_52 (OpV.tmp 41 (.int .i64 ((k : Nat) : Int))) rfl (by first | omega | assumption | exact ok_ca (by assumption) | exact ok_cb (by assumption) | (have := idx_lt (ok_ca (d := gD ds k) (by assumption)); have := idx_lt (ok_cb (d := gD ds k) (by assumption)); simp [bitsL_len] at *; omega)))) (by kernel_rfl) ?_
          refine wpc (step_plain rfl (acts_load_vs (d := 43) (t := 42) (s := 3) (off := (k * 3)) (xs := dsl ds)  (vs := [(.int .i64 ((gD ds k).x) : Value), .int .i64 ((gD ds k).y), .bool ((gD ds k).d)]) (ltN rfl) qC3_ti_52 rfl (dsl_at (k := k) (by first | omega | assumption | exact ok_ca (by assumption) | exact ok_cb (by assumption) | (have := idx_lt (ok_ca (d := gD ds k) (by assumption)); have := idx_lt (ok_cb (d := gD ds k) (by assumption)); simp [bitsL_len] at *; omega))))) (by kernel_rfl) ?_
          refine wpc (step_plain rfl (acts_call2 (d := 44) (ltN rfl) (spec_CellsUnder_fn (gD ds k) (by first | omega | assumption | exact ok_ca (by assumption) | exact ok_cb (by assumption) | (have := idx_lt (ok_ca (d := gD ds k) (by assumption)); have := idx_lt (ok_cb (d := gD ds k) (by assumption)); simp [bitsL_len] at *; omega))) (ArgVs.cons (ArgV.va (vs := [(.int .i64 ((gD ds k).x) : Value), .int .i64 ((gD ds k).y), .bool ((gD ds k).d)]) (OpV.agg 43 [(.int .i64 ((gD ds k).x) : Value), .int .i64 ((gD ds k).y), .bool ((gD ds k).d)])) (ArgVs.nil)) (ResV.agg [(.int .i64 ((ca (gD ds k)).x) : Value), .int .i64 ((ca (gD ds k)).y)]) (ResV.agg [(.int .i64 ((cb (gD ds k)).x) : Value), .int .i64 ((cb (gD ds k)).y)]))) (by kernel_rfl) ?_
          refine wpc (step_plain rfl (acts_move (d := 39) (ltN rfl) (OpX.tmp 44 (V.tup [.agg ([(.int .i64 ((ca (gD ds k)).x) : Value), .int .i64 ((ca (gD ds k)).y)].map A.val), .agg ([(.int .i64 ((cb (gD ds k)).x) : Value), .int .i64 ((cb (gD ds k)).y)].map A.val)])))) (by kernel_rfl) ?_
          refine wpc (step_plain rfl (acts_extract (d := 45) (t := 39) (ix := 0) (xs := [.agg ([(.int .i64 ((ca (gD ds k)).x) : Value), .int .i64 ((ca (gD ds k)).y)].map A.val), .agg ([(.int .i64 ((cb (gD ds k)).x) : Value), .int .i64 ((cb (gD ds k)).y)].map A.val)]) (X := .agg ([(.int .i64 ((ca (gD ds k)).x) : Value), .int .i64 ((ca (gD ds k)).y)].map A.val)) (ltN rfl) rfl)) (by kernel_rfl) ?_
          refine wpc (step_plain rfl (acts_extract (d := 46) (t := 39) (ix := 1) (xs := [.agg ([(.int .i64 ((ca (gD ds k)).x) : Value), .int .i64 ((ca (gD ds k)).y)].map A.val), .agg ([(.int .i64 ((cb (gD ds k)).x) : Value), .int .i64 ((cb (gD ds k)).y)].map A.val)]) (X := .agg ([(.int .i64 ((cb (gD ds k)).x) : Value), .int .i64 ((cb (gD ds k)).y)].map A.val)) (ltN rfl) rfl)) (by kernel_rfl) ?_
          refine wpc (step_plain rfl (acts_alloc' (d := 7) (h := 7) (cap := 1) (s := 2) (cells := [(.val (.int .i64 0) : A), .val (.int .i64 0)]) (ltN rfl) qC3_zi_49 rfl rfl (by decide))) (by kernel_rfl) ?_
          refine wpc (step_plain rfl (acts_alloc' (d := 8) (h := 8) (cap := 1) (s := 2) (cells := [(.val (.int .i64 0) : A), .val (.int .i64 0)]) (ltN rfl) qC3_zi_49 rfl rfl (by decide))) (by kernel_rfl) ?_
          refine wpc (step_plain rfl (acts_store (t := 7) (h := 7) (off := 0) (o := ⟨49, 2, true, [(.val (.int .i64 0) : A), .val (.int .i64 0)]⟩) (b := .agg ([(.int .i64 ((ca (gD ds k)).x) : Value), .int .i64 ((ca (gD ds k)).y)].map A.val)) (cells := [(.val (.int .i64 ((ca (gD ds k)).x)) : A), .val (.int .i64 ((ca (gD ds k)).y))]) qC3_ti_49 (OpX.tmp 45 (V.av [(.int .i64 ((ca (gD ds k)).x) : Value), .int .i64 ((ca (gD ds k)).y)])) rfl (by decide) (by intro y hy; simp [B.cs] at hy; rcases hy with rfl | rfl <;> rfl) (Nat.le_of_ble_eq_true rfl) rfl)) (by kernel_rfl) ?_
          refine wpc (step_plain rfl (acts_store (t := 8) (h := 8) (off := 0) (o := ⟨49, 2, true, [(.val (.int .i64 0) : A), .val (.int .i64 0)]⟩) (b := .agg ([(.int .i64 ((cb (gD ds k)).x) : Value), .int .i64 ((cb (gD ds k)).y)].map A.val)) (cells := [(.val (.int .i64 ((cb (gD ds k)).x)) : A), .val (.int .i64 ((cb (gD ds k)).y))]) qC3_ti_49 (OpX.tmp 46 (V.av [(.int .i64 ((cb (gD ds k)).x) : Value), .int .i64 ((cb (gD ds k)).y)])) rfl (by decide) (by intro y hy; simp [B.cs] at hy; rcases hy with rfl | rfl <;> rfl) (Nat.le_of_ble_eq_true rfl) rfl)) (by kernel_rfl) ?_
          refine wpl_nil ?_
          refine wp_seq' ?_
          refine wp_seq' ?_
          rcases Bool.eq_false_or_eq_true ((hasC l (ca (gD ds k)))) with c8 | c8
          · skip
            rcases Bool.eq_false_or_eq_true ((hasC l (cb (gD ds k)))) with c9 | c9
            · skip
              rcases Bool.eq_false_or_eq_true ((gB (bitsL (covS (ds.take k))) (idx (ca (gD ds k))))) with c10 | c10
              · skip
                refine wp_region_t ?_
                refine wpc (step_plain rfl (acts_load_owns (d := 47) (t := 2) (h := 2) (off := 0) (o := ⟨29, 1, true, [(.slv l.length 1 (isl l) : A)]⟩)  (xs := [(.slv l.length 1 (isl l) : A)]) (ltN rfl) qC3_ti_29 rfl (by decide) rfl)) (by kernel_rfl) ?_
                refine wpc (step_plain rfl (acts_load_owns (d := 48) (t := 7) (h := 7) (off := 0) (o := ⟨49, 2, true, [(.val (.int .i64 ((ca (gD ds k)).x)) : A), .val (.int .i64 ((ca (gD ds k)).y))]⟩)  (xs := [(.int .i64 ((ca (gD ds k)).x) : Value), .int .i64 ((ca (gD ds k)).y)].map A.val) (ltN rfl) qC3_ti_49 rfl (by decide) rfl)) (by kernel_rfl) ?_
                refine wpc (step_plain rfl (acts_call1 (d := 49) (ltN rfl) (spec_HasCell_fn l (ca (gD ds k)) (by first | omega | assumption | exact ok_ca (by assumption) | exact ok_cb (by assumption) | (have := idx_lt (ok_ca (d := gD ds k) (by assumption)); have := idx_lt (ok_cb (d := gD ds k) (by assumption)); simp [bitsL_len] at *; omega))) (ArgVs.cons (ArgV.regv 47 l.length 1 (isl l)) (ArgVs.cons (ArgV.va (vs := [(.int .i64 ((ca (gD ds k)).x) : Value), .int .i64 ((ca (gD ds k)).y)]) (OpV.agg 48 [(.int .i64 ((ca (gD ds k)).x) : Value), .int .i64 ((ca (gD ds k)).y)])) (ArgVs.nil))) ((resval (congrArg Value.bool c8))))) (by kernel_rfl) ?_
                refine wpc (step_plain rfl (acts_un (d := 50) (ltN rfl) (OpV.tmp 49 (.bool true)) (r_not (c := false) rfl))) (by kernel_rfl) ?_
                refine wpc (step_plain rfl (acts_move (d := 51) (ltN rfl) (OpX.tmp 50 (V.v (.bool false))))) (by kernel_rfl) ?_
                refine wpc (step_on (dj := 51) rfl rfl (acts_load_owns (d := 52) (t := 2) (h := 2) (off := 0) (o := ⟨29, 1, true, [(.slv l.length 1 (isl l) : A)]⟩)  (xs := [(.slv l.length 1 (isl l) : A)]) (ltN rfl) qC3_ti_29 rfl (by decide) rfl)) (by kernel_rfl) ?_
                refine wpc (step_on (dj := 51) rfl rfl (acts_load_owns (d := 53) (t := 8) (h := 8) (off := 0) (o := ⟨49, 2, true, [(.val (.int .i64 ((cb (gD ds k)).x)) : A), .val (.int .i64 ((cb (gD ds k)).y))]⟩)  (xs := [(.int .i64 ((cb (gD ds k)).x) : Value), .int .i64 ((cb (gD ds k)).y)].map A.val) (ltN rfl) qC3_ti_49 rfl (by decide) rfl)) (by kernel_rfl) ?_
                refine wpc (step_on (dj := 51) rfl rfl (acts_call1 (d := 54) (ltN rfl) (spec_HasCell_fn l (cb (gD ds k)) (by first | omega | assumption | exact ok_ca (by assumption) | exact ok_cb (by assumption) | (have := idx_lt (ok_ca (d := gD ds k) (by assumption)); have := idx_lt (ok_cb (d := gD ds k) (by assumption)); simp [bitsL_len] at *; omega))) (ArgVs.cons (ArgV.regv 52 l.length 1 (isl l)) (ArgVs.cons (ArgV.va (vs := [(.int .i64 ((cb (gD ds k)).x) : Value), .int .i64 ((cb (gD ds k)).y)]) (OpV.agg 53 [(.int .i64 ((cb (gD ds k)).x) : Value), .int .i64 ((cb (gD ds k)).y)])) (ArgVs.nil))) ((resval (congrArg Value.bool c9))))) (by kernel_rfl) ?_
                refine wpc (step_on (dj := 51) rfl rfl (acts_un (d := 55) (ltN rfl) (OpV.tmp 54 (.bool true)) (r_not (c := false) rfl))) (by kernel_rfl) ?_
                refine wpc (step_plain rfl (acts_pick_f (d := 56) (ltN rfl) (OpV.tmp 51 (.bool false)) (OpX.tmp 55 (V.v (.bool false))))) (by kernel_rfl) ?_
                refine wpc (step_plain rfl (acts_move (d := 57) (ltN rfl) (OpX.tmp 56 (V.v (.bool false))))) (by kernel_rfl) ?_
                refine wpc (step_on (dj := 57) rfl rfl (acts_move (d := 58) (ltN rfl) (OpX.tmp 5 (V.b (.a (.sl 9 0 ((bitsL (covS (ds.take k))).length))))))) (by kernel_rfl) ?_
                refine wpc (step_on (dj := 57) rfl rfl (acts_load_owns (d := 59) (t := 7) (h := 7) (off := 0) (o := ⟨49, 2, true, [(.val (.int .i64 ((ca (gD ds k)).x)) : A), .val (.int .i64 ((ca (gD ds k)).y))]⟩)  (xs := [(.int .i64 ((ca (gD ds k)).x) : Value), .int .i64 ((ca (gD ds k)).y)].map A.val) (ltN rfl) qC3_ti_49 rfl (by decide) rfl)) (by kernel_rfl) ?_
                refine wpc (step_on (dj := 57) rfl rfl (acts_call1 (d := 60) (ltN rfl) (spec_CellIndex_fn (ca (gD ds k)) (by first | omega | assumption | exact ok_ca (by assumption) | exact ok_cb (by assumption) | (have := idx_lt (ok_ca (d := gD ds k) (by assumption)); have := idx_lt (ok_cb (d := gD ds k) (by assumption)); simp [bitsL_len] at *; omega))) (ArgVs.cons (ArgV.va (vs := [(.int .i64 ((ca (gD ds k)).x) : Value), .int .i64 ((ca (gD ds k)).y)]) (OpV.agg 59 [(.int .i64 ((ca (gD ds k)).x) : Value), .int .i64 ((ca (gD ds k)).y)])) (ArgVs.nil)) (ResV.val _))) (by kernel_rfl) ?_
                refine wpc (step_on (dj := 57) rfl rfl (acts_index_sl (d := 61) (x := 58) (h := 9) (off := 0) (n := ((bitsL (covS (ds.take k))).length)) (k := (idx (ca (gD ds k)))) (off' := ((idx (ca (gD ds k))) * 1)) (o := ⟨4, 1, true, pl (bsl (bitsL (covS (ds.take k))))⟩) (ltN rfl) qC3_un_74 qC3_sz_4 (OpV.tmp 60 (.int .i64 (((idx (ca (gD ds k))) : Nat) : Int))) rfl (by first | omega | assumption | exact ok_ca (by assumption) | exact ok_cb (by assumption) | (have := idx_lt (ok_ca (d := gD ds k) (by assumption)); have := idx_lt (ok_cb (d := gD ds k) (by assumption)); simp [bitsL_len] at *; omega)) (by first | (simp; done) | (simp; omega) | omega))) (by kernel_rfl) ?_
                refine wpc (step_on (dj := 57) rfl rfl (acts_load_own (d := 62) (t := 61) (h := 9) (off := ((idx (ca (gD ds k))) * 1)) (o := ⟨4, 1, true, pl (bsl (bitsL (covS (ds.take k))))⟩)  (x := .val (.bool true)) (ltN rfl) qC3_ti_4 (pl_get ((bsl_get1 (k := (idx (ca (gD ds k)))) (by first | omega | assumption | exact ok_ca (by assumption) | exact ok_cb (by assumption) | (have := idx_lt (ok_ca (d := gD ds k) (by assumption)); have := idx_lt (ok_cb (d := gD ds k) (by assumption)); simp [bitsL_len] at *; omega))).trans (congrArg (fun b : Bool => some (Value.bool b)) c10))))) (by kernel_rfl) ?_
                refine wpc (step_plain rfl (acts_pick_f (d := 63) (ltN rfl) (OpV.tmp 57 (.bool false)) (OpX.tmp 62 (V.v (.bool true))))) (by kernel_rfl) ?_
                refine wpc (step_plain rfl (acts_move (d := 64) (ltN rfl) (OpX.tmp 63 (V.v (.bool true))))) (by kernel_rfl) ?_
                refine wpc (step_off (dj := 64) (b' := true) rfl rfl (by decide) rfl (ltN rfl)) (by kernel_rfl) ?_
                refine wpc (step_off (dj := 64) (b' := true) rfl rfl (by decide) rfl (ltN rfl)) (by kernel_rfl) ?_
                refine wpc (step_off (dj := 64) (b' := true) rfl rfl (by decide) rfl (ltN rfl)) (by kernel_rfl) ?_
                refine wpc (step_off (dj := 64) (b' := true) rfl rfl (by decide) rfl (ltN rfl)) (by kernel_rfl) ?_
                refine wpc (step_off (dj := 64) (b' := true) rfl rfl (by decide) rfl (ltN rfl)) (by kernel_rfl) ?_
                refine wpc (step_plain rfl (acts_pick_t (d := 70) (ltN rfl) (OpV.tmp 64 (.bool true)) (OpX.const (.bool true)))) (by kernel_rfl) ?_
                refine wpl_nil ?_
                refine wp_if_t (t := 70) (by kernel_rfl) ?_
                refine wp_seq' ?_
                refine wp_region_t ?_
                refine wpc (step_plain rfl (acts_assign (d := 4) (ltN rfl) (OpX.const (.bool false)))) (by kernel_rfl) ?_
                refine wpl_nil ?_
                refine wp_ret' ?_
                exact VRes.tmp 4 (.a (.val (.bool false))) _ (by kernel_rfl) (bval (congrArg Value.bool (by first | (refine (isPar_no' (k := k) (by omega) (fun hr => ?_)).symm; first | (rw [step_eq hr (by assumption)]; simp_all; done) | (rw [step_eq hr (by assumption)]; simp_all; omega) | (unfold stepOk; simp_all; done)) | exact isPar_end (by omega) (by omega) (by assumption))))
              · skip
                refine wp_region_t ?_
                refine wpc (step_plain rfl (acts_load_owns (d := 47) (t := 2) (h := 2) (off := 0) (o := ⟨29, 1, true, [(.slv l.length 1 (isl l) : A)]⟩)  (xs := [(.slv l.length 1 (isl l) : A)]) (ltN rfl) qC3_ti_29 rfl (by decide) rfl)) (by kernel_rfl) ?_
                refine wpc (step_plain rfl (acts_load_owns (d := 48) (t := 7) (h := 7) (off := 0) (o := ⟨49, 2, true, [(.val (.int .i64 ((ca (gD ds k)).x)) : A), .val (.int .i64 ((ca (gD ds k)).y))]⟩)  (xs := [(.int .i64 ((ca (gD ds k)).x) : Value), .int .i64 ((ca (gD ds k)).y)].map A.val) (ltN rfl) qC3_ti_49 rfl (by decide) rfl)) (by kernel_rfl) ?_
                refine wpc (step_plain rfl (acts_call1 (d := 49) (ltN rfl) (spec_HasCell_fn l (ca (gD ds k)) (by first | omega | assumption | exact ok_ca (by assumption) | exact ok_cb (by assumption) | (have := idx_lt (ok_ca (d := gD ds k) (by assumption)); have := idx_lt (ok_cb (d := gD ds k) (by assumption)); simp [bitsL_len] at *; omega))) (ArgVs.cons (ArgV.regv 47 l.length 1 (isl l)) (ArgVs.cons (ArgV.va (vs := [(.int .i64 ((ca (gD ds k)).x) : Value), .int .i64 ((ca (gD ds k)).y)]) (OpV.agg 48 [(.int .i64 ((ca (gD ds k)).x) : Value), .int .i64 ((ca (gD ds k)).y)])) (ArgVs.nil))) ((resval (congrArg Value.bool c8))))) (by kernel_rfl) ?_
                refine wpc (step_plain rfl (acts_un (d := 50) (ltN rfl) (OpV.tmp 49 (.bool true)) (r_not (c := false) rfl))) (by kernel_rfl) ?_
                refine wpc (step_plain rfl (acts_move (d := 51) (ltN rfl) (OpX.tmp 50 (V.v (.bool false))))) (by kernel_rfl) ?_
                refine wpc (step_on (dj := 51) rfl rfl (acts_load_owns (d := 52) (t := 2) (h := 2) (off := 0) (o := ⟨29, 1, true, [(.slv l.length 1 (isl l) : A)]⟩)  (xs := [(.slv l.length 1 (isl l) : A)]) (ltN rfl) qC3_ti_29 rfl (by decide) rfl)) (by kernel_rfl) ?_
                refine wpc (step_on (dj := 51) rfl rfl (acts_load_owns (d := 53) (t := 8) (h := 8) (off := 0) (o := ⟨49, 2, true, [(.val (.int .i64 ((cb (gD ds k)).x)) : A), .val (.int .i64 ((cb (gD ds k)).y))]⟩)  (xs := [(.int .i64 ((cb (gD ds k)).x) : Value), .int .i64 ((cb (gD ds k)).y)].map A.val) (ltN rfl) qC3_ti_49 rfl (by decide) rfl)) (by kernel_rfl) ?_
                refine wpc (step_on (dj := 51) rfl rfl (acts_call1 (d := 54) (ltN rfl) (spec_HasCell_fn l (cb (gD ds k)) (by first | omega | assumption | exact ok_ca (by assumption) | exact ok_cb (by assumption) | (have := idx_lt (ok_ca (d := gD ds k) (by assumption)); have := idx_lt (ok_cb (d := gD ds k) (by assumption)); simp [bitsL_len] at *; omega))) (ArgVs.cons (ArgV.regv 52 l.length 1 (isl l)) (ArgVs.cons (ArgV.va (vs := [(.int .i64 ((cb (gD ds k)).x) : Value), .int .i64 ((cb (gD ds k)).y)]) (OpV.agg 53 [(.int .i64 ((cb (gD ds k)).x) : Value), .int .i64 ((cb (gD ds k)).y)])) (ArgVs.nil))) ((resval (congrArg Value.bool c9))))) (by kernel_rfl) ?_
                refine wpc (step_on (dj := 51) rfl rfl (acts_un (d := 55) (ltN rfl) (OpV.tmp 54 (.bool true)) (r_not (c := false) rfl))) (by kernel_rfl) ?_
                refine wpc (step_plain rfl (acts_pick_f (d := 56) (ltN rfl) (OpV.tmp 51 (.bool false)) (OpX.tmp 55 (V.v (.bool false))))) (by kernel_rfl) ?_
                refine wpc (step_plain rfl (acts_move (d := 57) (ltN rfl) (OpX.tmp 56 (V.v (.bool false))))) (by kernel_rfl) ?_
                refine wpc (step_on (dj := 57) rfl rfl (acts_move (d := 58) (ltN rfl) (OpX.tmp 5 (V.b (.a (.sl 9 0 ((bitsL (covS (ds.take k))).length))))))) (by kernel_rfl) ?_
                refine wpc (step_on (dj := 57) rfl rfl (acts_load_owns (d := 59) (t := 7) (h := 7) (off := 0) (o := ⟨49, 2, true, [(.val (.int .i64 ((ca (gD ds k)).x)) : A), .val (.int .i64 ((ca (gD ds k)).y))]⟩)  (xs := [(.int .i64 ((ca (gD ds k)).x) : Value), .int .i64 ((ca (gD ds k)).y)].map A.val) (ltN rfl) qC3_ti_49 rfl (by decide) rfl)) (by kernel_rfl) ?_
                refine wpc (step_on (dj := 57) rfl rfl (acts_call1 (d := 60) (ltN rfl) (spec_CellIndex_fn (ca (gD ds k)) (by first | omega | assumption | exact ok_ca (by assumption) | exact ok_cb (by assumption) | (have := idx_lt (ok_ca (d := gD ds k) (by assumption)); have := idx_lt (ok_cb (d := gD ds k) (by assumption)); simp [bitsL_len] at *; omega))) (ArgVs.cons (ArgV.va (vs := [(.int .i64 ((ca (gD ds k)).x) : Value), .int .i64 ((ca (gD ds k)).y)]) (OpV.agg 59 [(.int .i64 ((ca (gD ds k)).x) : Value), .int .i64 ((ca (gD ds k)).y)])) (ArgVs.nil)) (ResV.val _))) (by kernel_rfl) ?_
                refine wpc (step_on (dj := 57) rfl rfl (acts_index_sl (d := 61) (x := 58) (h := 9) (off := 0) (n := ((bitsL (covS (ds.take k))).length)) (k := (idx (ca (gD ds k)))) (off' := ((idx (ca (gD ds k))) * 1)) (o := ⟨4, 1, true, pl (bsl (bitsL (covS (ds.take k))))⟩) (ltN rfl) qC3_un_74 qC3_sz_4 (OpV.tmp 60 (.int .i64 (((idx (ca (gD ds k))) : Nat) : Int))) rfl (by first | omega | assumption | exact ok_ca (by assumption) | exact ok_cb (by assumption) | (have := idx_lt (ok_ca (d := gD ds k) (by assumption)); have := idx_lt (ok_cb (d := gD ds k) (by assumption)); simp [bitsL_len] at *; omega)) (by first | (simp; done) | (simp; omega) | omega))) (by kernel_rfl) ?_
                refine wpc (step_on (dj := 57) rfl rfl (acts_load_own (d := 62) (t := 61) (h := 9) (off := ((idx (ca (gD ds k))) * 1)) (o := ⟨4, 1, true, pl (bsl (bitsL (covS (ds.take k))))⟩)  (x := .val (.bool false)) (ltN rfl) qC3_ti_4 (pl_get ((bsl_get1 (k := (idx (ca (gD ds k)))) (by first | omega | assumption | exact ok_ca (by assumption) | exact ok_cb (by assumption) | (have := idx_lt (ok_ca (d := gD ds k) (by assumption)); have := idx_lt (ok_cb (d := gD ds k) (by assumption)); simp [bitsL_len] at *; omega))).trans (congrArg (fun b : Bool => some (Value.bool b)) c10))))) (by kernel_rfl) ?_
                refine wpc (step_plain rfl (acts_pick_f (d := 63) (ltN rfl) (OpV.tmp 57 (.bool false)) (OpX.tmp 62 (V.v (.bool false))))) (by kernel_rfl) ?_
                refine wpc (step_plain rfl (acts_move (d := 64) (ltN rfl) (OpX.tmp 63 (V.v (.bool false))))) (by kernel_rfl) ?_
                refine wpc (step_on (dj := 64) rfl rfl (acts_move (d := 65) (ltN rfl) (OpX.tmp 5 (V.b (.a (.sl 9 0 ((bitsL (covS (ds.take k))).length))))))) (by kernel_rfl) ?_
                refine wpc (step_on (dj := 64) rfl rfl (acts_load_owns (d := 66) (t := 8) (h := 8) (off := 0) (o := ⟨49, 2, true, [(.val (.int .i64 ((cb (gD ds k)).x)) : A), .val (.int .i64 ((cb (gD ds k)).y))]⟩)  (xs := [(.int .i64 ((cb (gD ds k)).x) : Value), .int .i64 ((cb (gD ds k)).y)].map A.val) (ltN rfl) qC3_ti_49 rfl (by decide) rfl)) (by kernel_rfl) ?_
                refine wpc (step_on (dj := 64) rfl rfl (acts_call1 (d := 67) (ltN rfl) (spec_CellIndex_fn (cb (gD ds k)) (by first | omega | assumption | exact ok_ca (by assumption) | exact ok_cb (by assumption) | (have := idx_lt (ok_ca (d := gD ds k) (by assumption)); have := idx_lt (ok_cb (d := gD ds k) (by assumption)); simp [bitsL_len] at *; omega))) (ArgVs.cons (ArgV.va (vs := [(.int .i64 ((cb (gD ds k)).x) : Value), .int .i64 ((cb (gD ds k)).y)]) (OpV.agg 66 [(.int .i64 ((cb (gD ds k)).x) : Value), .int .i64 ((cb (gD ds k)).y)])) (ArgVs.nil)) (ResV.val _))) (by kernel_rfl) ?_
                refine wpc (step_on (dj := 64) rfl rfl (acts_index_sl (d := 68) (x := 65) (h := 9) (off := 0) (n := ((bitsL (covS (ds.take k))).length)) (k := (idx (cb (gD ds k)))) (off' := ((idx (cb (gD ds k))) * 1)) (o := ⟨4, 1, true, pl (bsl (bitsL (covS (ds.take k))))⟩) (ltN rfl) qC3_un_74 qC3_sz_4 (OpV.tmp 67 (.int .i64 (((idx (cb (gD ds k))) : Nat) : Int))) rfl (by first | omega | assumption | exact ok_ca (by assumption) | exact ok_cb (by assumption) | (have := idx_lt (ok_ca (d := gD ds k) (by assumption)); have := idx_lt (ok_cb (d := gD ds k) (by assumption)); simp [bitsL_len] at *; omega)) (by first | (simp; done) | (simp; omega) | omega))) (by kernel_rfl) ?_
                refine wpc (step_on (dj := 64) rfl rfl (acts_load_own (d := 69) (t := 68) (h := 9) (off := ((idx (cb (gD ds k))) * 1)) (o := ⟨4, 1, true, pl (bsl (bitsL (covS (ds.take k))))⟩)  (x := .val (.bool (gB (bitsL (covS (ds.take k))) (idx (cb (gD ds k)))))) (ltN rfl) qC3_ti_4 (pl_get (bsl_get1 (k := (idx (cb (gD ds k)))) (by first | omega | assumption | exact ok_ca (by assumption) | exact ok_cb (by assumption) | (have := idx_lt (ok_ca (d := gD ds k) (by assumption)); have := idx_lt (ok_cb (d := gD ds k) (by assumption)); simp [bitsL_len] at *; omega)))))) (by kernel_rfl) ?_
                refine wpc (step_plain rfl (acts_pick_f (d := 70) (ltN rfl) (OpV.tmp 64 (.bool false)) (OpX.tmp 69 (V.v (.bool (gB (bitsL (covS (ds.take k))) (idx (cb (gD ds k))))))))) (by kernel_rfl) ?_
                refine wpl_nil ?_
                refine wp_if (t := 70) ((gB (bitsL (covS (ds.take k))) (idx (cb (gD ds k))))) (by kernel_rfl) (fun c11 => ?_) (fun c11 => ?_)
                · skip
                  refine wp_seq' ?_
                  refine wp_region_t ?_
                  refine wpc (step_plain rfl (acts_assign (d := 4) (ltN rfl) (OpX.const (.bool false)))) (by kernel_rfl) ?_
                  refine wpl_nil ?_
                  refine wp_ret' ?_
                  exact VRes.tmp 4 (.a (.val (.bool false))) _ (by kernel_rfl) (bval (congrArg Value.bool (by first | (refine (isPar_no' (k := k) (by omega) (fun hr => ?_)).symm; first | (rw [step_eq hr (by assumption)]; simp_all; done) | (rw [step_eq hr (by assumption)]; simp_all; omega) | (unfold stepOk; simp_all; done)) | exact isPar_end (by omega) (by omega) (by assumption))))
                · skip
                  refine wp_skip' ?_
                  refine wp_seq' ?_
                  refine wp_region_t ?_
                  refine wpc (step_plain rfl (acts_move (d := 71) (ltN rfl) (OpX.tmp 5 (V.b (.a (.sl 9 0 ((bitsL (covS (ds.take k))).length))))))) (by kernel_rfl) ?_
                  refine wpc (step_plain rfl (acts_load_owns (d := 72) (t := 7) (h := 7) (off := 0) (o := ⟨49, 2, true, [(.val (.int .i64 ((ca (gD ds k)).x)) : A), .val (.int .i64 ((ca (gD ds k)).y))]⟩)  (xs := [(.int .i64 ((ca (gD ds k)).x) : Value), .int .i64 ((ca (gD ds k)).y)].map A.val) (ltN rfl) qC3_ti_49 rfl (by decide) rfl)) (by kernel_rfl) ?_
                  refine wpc (step_plain rfl (acts_call1 (d := 73) (ltN rfl) (spec_CellIndex_fn (ca (gD ds k)) (by first | omega | assumption | exact ok_ca (by assumption) | exact ok_cb (by assumption) | (have := idx_lt (ok_ca (d := gD ds k) (by assumption)); have := idx_lt (ok_cb (d := gD ds k) (by assumption)); simp [bitsL_len] at *; omega))) (ArgVs.cons (ArgV.va (vs := [(.int .i64 ((ca (gD ds k)).x) : Value), .int .i64 ((ca (gD ds k)).y)]) (OpV.agg 72 [(.int .i64 ((ca (gD ds k)).x) : Value), .int .i64 ((ca (gD ds k)).y)])) (ArgVs.nil)) (ResV.val _))) (by kernel_rfl) ?_
                  refine wpc (step_plain rfl (acts_index_sl (d := 74) (x := 71) (h := 9) (off := 0) (n := ((bitsL (covS (ds.take k))).length)) (k := (idx (ca (gD ds k)))) (off' := ((idx (ca (gD ds k))) * 1)) (o := ⟨4, 1, true, pl (bsl (bitsL (covS (ds.take k))))⟩) (ltN rfl) qC3_un_74 qC3_sz_4 (OpV.tmp 73 (.int .i64 (((idx (ca (gD ds k))) : Nat) : Int))) rfl (by first | omega | assumption | exact ok_ca (by assumption) | exact ok_cb (by assumption) | (have := idx_lt (ok_ca (d := gD ds k) (by assumption)); have := idx_lt (ok_cb (d := gD ds k) (by assumption)); simp [bitsL_len] at *; omega)) (by first | (simp; done) | (simp; omega) | omega))) (by kernel_rfl) ?_
                  refine wpc (step_plain rfl (acts_store (t := 74) (h := 9) (off := ((idx (ca (gD ds k))) * 1)) (o := ⟨4, 1, true, pl (bsl (bitsL (covS (ds.take k))))⟩) (b := .a (.val (.bool true))) (cells := pl (bsl ((bitsL (covS (ds.take k))).set (idx (ca (gD ds k))) true))) qC3_ti_4 (OpX.const (.bool true)) rfl (by decide) (by intro y hy; simp [B.cs] at hy; subst hy; rfl) (by simp only [pl_len, bsl_len]; first | omega | assumption | exact ok_ca (by assumption) | exact ok_cb (by assumption) | (have := idx_lt (ok_ca (d := gD ds k) (by assumption)); have := idx_lt (ok_cb (d := gD ds k) (by assumption)); simp [bitsL_len] at *; omega)) (bsl_put (k := (idx (ca (gD ds k)))) (by first | omega | assumption | exact ok_ca (by assumption) | exact ok_cb (by assumption) | (have := idx_lt (ok_ca (d := gD ds k) (by assumption)); have := idx_lt (ok_cb (d := gD ds k) (by assumption)); simp [bitsL_len] at *; omega))))) (by kernel_rfl) ?_
                  refine wpl_nil ?_
                  refine wp_region_t ?_
                  refine wpc (step_plain rfl (acts_move (d := 75) (ltN rfl) (OpX.tmp 5 (V.b (.a (.sl 9 0 ((bitsL (covS (ds.take k))).length))))))) (by kernel_rfl) ?_
                  refine wpc (step_plain rfl (acts_load_owns (d := 76) (t := 8) (h := 8) (off := 0) (o := ⟨49, 2, true, [(.val (.int .i64 ((cb (gD ds k)).x)) : A), .val (.int .i64 ((cb (gD ds k)).y))]⟩)  (xs := [(.int .i64 ((cb (gD ds k)).x) : Value), .int .i64 ((cb (gD ds k)).y)].map A.val) (ltN rfl) qC3_ti_49 rfl (by decide) rfl)) (by kernel_rfl) ?_
                  refine wpc (step_plain rfl (acts_call1 (d := 77) (ltN rfl) (spec_CellIndex_fn (cb (gD ds k)) (by first | omega | assumption | exact ok_ca (by assumption) | exact ok_cb (by assumption) | (have := idx_lt (ok_ca (d := gD ds k) (by assumption)); have := idx_lt (ok_cb (d := gD ds k) (by assumption)); simp [bitsL_len] at *; omega))) (ArgVs.cons (ArgV.va (vs := [(.int .i64 ((cb (gD ds k)).x) : Value), .int .i64 ((cb (gD ds k)).y)]) (OpV.agg 76 [(.int .i64 ((cb (gD ds k)).x) : Value), .int .i64 ((cb (gD ds k)).y)])) (ArgVs.nil)) (ResV.val _))) (by kernel_rfl) ?_
                  refine wpc (step_plain rfl (acts_index_sl (d := 78) (x := 75) (h := 9) (off := 0) (n := ((bitsL (covS (ds.take k))).length)) (k := (idx (cb (gD ds k)))) (off' := ((idx (cb (gD ds k))) * 1)) (o := ⟨4, 1, true, pl (bsl ((bitsL (covS (ds.take k))).set (idx (ca (gD ds k))) true))⟩) (ltN rfl) qC3_un_74 qC3_sz_4 (OpV.tmp 77 (.int .i64 (((idx (cb (gD ds k))) : Nat) : Int))) rfl (by first | omega | assumption | exact ok_ca (by assumption) | exact ok_cb (by assumption) | (have := idx_lt (ok_ca (d := gD ds k) (by assumption)); have := idx_lt (ok_cb (d := gD ds k) (by assumption)); simp [bitsL_len] at *; omega)) (by first | (simp; done) | (simp; omega) | omega))) (by kernel_rfl) ?_
                  refine wpc (step_plain rfl (acts_store (t := 78) (h := 9) (off := ((idx (cb (gD ds k))) * 1)) (o := ⟨4, 1, true, pl (bsl ((bitsL (covS (ds.take k))).set (idx (ca (gD ds k))) true))⟩) (b := .a (.val (.bool true))) (cells := pl (bsl (((bitsL (covS (ds.take k))).set (idx (ca (gD ds k))) true).set (idx (cb (gD ds k))) true))) qC3_ti_4 (OpX.const (.bool true)) rfl (by decide) (by intro y hy; simp [B.cs] at hy; subst hy; rfl) (by simp only [pl_len, bsl_len]; first | omega | assumption | exact ok_ca (by assumption) | exact ok_cb (by assumption) | (have := idx_lt (ok_ca (d := gD ds k) (by assumption)); have := idx_lt (ok_cb (d := gD ds k) (by assumption)); simp [bitsL_len] at *; omega)) (bsl_put (k := (idx (cb (gD ds k)))) (by first | omega | assumption | exact ok_ca (by assumption) | exact ok_cb (by assumption) | (have := idx_lt (ok_ca (d := gD ds k) (by assumption)); have := idx_lt (ok_cb (d := gD ds k) (by assumption)); simp [bitsL_len] at *; omega))))) (by kernel_rfl) ?_
                  refine wpl_nil ?_
                  refine wp_region_t ?_
                  refine wpc (step_plain rfl (acts_move (d := 14) (ltN rfl) (OpX.tmp 6 (V.v (.int .i64 ((k : Nat) : Int)))))) (by kernel_rfl) ?_
                  refine wpc (step_plain rfl (acts_bin (d := 15) (ltN rfl) (OpV.tmp 14 (.int .i64 ((k : Nat) : Int))) (OpV.const (.int .i64 1)) (r_add (c := (((k : Nat) : Int) + 1)) (w64 (by first | omega | assumption | exact ok_ca (by assumption) | exact ok_cb (by assumption) | (have := idx_lt (ok_ca (d := gD ds k) (by assumption)); have := idx_lt (ok_cb (d := gD ds k) (by assumption)); simp [bitsL_len] at *; omega)) (by first | omega | assumption | exact ok_ca (by assumption) | exact ok_cb (by assumption) | (have := idx_lt (ok_ca (d := gD ds k) (by assumption)); have := idx_lt (ok_cb (d := gD ds k) (by assumption)); simp [bitsL_len] at *; omega)))))) (by kernel_rfl) ?_
                  refine wpc (step_plain rfl (acts_assign (d := 6) (ltN rfl) (OpX.tmp 15 (V.v (.int .i64 (((k : Nat) : Int) + 1)))))) (by kernel_rfl) ?_
                  refine wpl_nil ?_
                  exact loop_back ((k + 1)) (by refine ⟨by omega, .inr (hasC_reg (by assumption)), parT_snoc (by assumption) ?_⟩; rw [step_eq (hasC_reg (by assumption)) (by assumption)]; simp_all; (try omega)) (by show ds.length - (k + 1) < ds.length - k; omega) (weak_of id [7, 8, 12, 20, 35, 44, 49, 54, 60, 67, 73, 77, 80] (by kernel_rfl) (wk_s (v' := V.b (.a (.slv ds.length 3 (dsl ds)))) (by kernel_rfl) rfl rfl (wk_s (v' := V.p 2 0) (by kernel_rfl) rfl rfl (wk_s (v' := V.b (.a (.sl 9 0 ((bitsL (covS (ds.take k))).length)))) (by kernel_rfl) (vsl (by first | rfl | (simp; done) | (simp; omega) | omega | (exact congrArg List.length (by first | rfl | (rw [bits_step (by omega) (by assumption)]) | exact bits_cov0 _ | exact (bits_cov0 _).symm | omega))) rfl) rfl (wk_s (v' := V.v (.int .i64 (((k : Nat) : Int) + 1))) (by kernel_rfl) (vint (by first | rfl | (rw [bits_step (by omega) (by assumption)]) | exact bits_cov0 _ | exact (bits_cov0 _).symm | omega)) rfl (wk_o (o' := ⟨29, 1, true, [(.slv l.length 1 (isl l) : A)]⟩) (by kernel_rfl) (renob_l (fun h => h) rfl rfl) rfl (wk_o (o' := ⟨4, 1, true, pl (bsl (((bitsL (covS (ds.take k))).set (idx (ca (gD ds k))) true).set (idx (cb (gD ds k))) true))⟩) (by kernel_rfl) (renob_eq (fun h => h) (congrArg bsl (by first | rfl | (rw [bits_step (by omega) (by assumption)]) | exact bits_cov0 _ | exact (bits_cov0 _).symm | omega))) rfl (wk_f rfl (wk_f rfl (wk_f rfl (wk_f rfl (wk_f rfl (wk_f rfl (wk_f rfl (wk_f rfl (wk_f rfl (wk_f rfl (wk_f rfl (wk_f rfl (wk_f rfl (wk_nil)))))))))))))))))))))
            · skip
              refine wp_region_t ?_
              refine wpc (step_plain rfl (acts_load_owns (d := 47) (t := 2) (h := 2) (off := 0) (o := ⟨29, 1, true, [(.slv l.length 1 (isl l) : A)]⟩)  (xs := [(.slv l.length 1 (isl l) : A)]) (ltN rfl) qC3_ti_29 rfl (by decide) rfl)) (by kernel_rfl) ?_
              refine wpc (step_plain rfl (acts_load_owns (d := 48) (t := 7) (h := 7) (off := 0) (o := ⟨49, 2, true, [(.val (.int .i64 ((ca (gD ds k)).x)) : A), .val (.int .i64 ((ca (gD ds k)).y))]⟩)  (xs := [(.int .i64 ((ca (gD ds k)).x) : Value), .int .i64 ((ca (gD ds k)).y)].map A.val) (ltN rfl) qC3_ti_49 rfl (by decide) rfl)) (by kernel_rfl) ?_
              refine wpc (step_plain rfl (acts_call1 (d := 49) (ltN rfl) (spec_HasCell_fn l (ca (gD ds k)) (by first | omega | assumption | exact ok_ca (by assumption) | exact ok_cb (by assumption) | (have := idx_lt (ok_ca (d := gD ds k) (by assumption)); have := idx_lt (ok_cb (d := gD ds k) (by assumption)); simp [bitsL_len] at *; omega))) (ArgVs.cons (ArgV.regv 47 l.length 1 (isl l)) (ArgVs.cons (ArgV.va (vs := [(.int .i64 ((ca (gD ds k)).x) : Value), .int .i64 ((ca (gD ds k)).y)]) (OpV.agg 48 [(.int .i64 ((ca (gD ds k)).x) : Value), .int .i64 ((ca (gD ds k)).y)])) (ArgVs.nil))) ((resval (congrArg Value.bool c8))))) (by kernel_rfl) ?_
              refine wpc (step_plain rfl (acts_un (d := 50) (ltN rfl) (OpV.tmp 49 (.bool true)) (r_not (c := false) rfl))) (by kernel_rfl) ?_
              refine wpc (step_plain rfl (acts_move (d := 51) (ltN rfl) (OpX.tmp 50 (V.v (.bool false))))) (by kernel_rfl) ?_
              refine wpc (step_on (dj := 51) rfl rfl (acts_load_owns (d := 52) (t := 2) (h := 2) (off := 0) (o := ⟨29, 1, true, [(.slv l.length 1 (isl l) : A)]⟩)  (xs := [(.slv l.length 1 (isl l) : A)]) (ltN rfl) qC3_ti_29 rfl (by decide) rfl)) (by kernel_rfl) ?_
              refine wpc (step_on (dj := 51) rfl rfl (acts_load_owns (d := 53) (t := 8) (h := 8) (off := 0) (o := ⟨49, 2, true, [(.val (.int .i64 ((cb (gD ds k)).x)) : A), .val (.int .i64 ((cb (gD ds k)).y))]⟩)  (xs := [(.int .i64 ((cb (gD ds k)).x) : Value), .int .i64 ((cb (gD ds k)).y)].map A.val) (ltN rfl) qC3_ti_49 rfl (by decide) rfl)) (by kernel_rfl) ?_
              refine wpc (step_on (dj := 51) rfl rfl (acts_call1 (d := 54) (ltN rfl) (spec_HasCell_fn l (cb (gD ds k)) (by first | omega | assumption | exact ok_ca (by assumption) | exact ok_cb (by assumption) | (have := idx_lt (ok_ca (d := gD ds k) (by assumption)); have := idx_lt (ok_cb (d := gD ds k) (by assumption)); simp [bitsL_len] at *; omega))) (ArgVs.cons (ArgV.regv 52 l.length 1 (isl l)) (ArgVs.cons (ArgV.va (vs := [(.int .i64 ((cb (gD ds k)).x) : Value), .int .i64 ((cb (gD ds k)).y)]) (OpV.agg 53 [(.int .i64 ((cb (gD ds k)).x) : Value), .int .i64 ((cb (gD ds k)).y)])) (ArgVs.nil))) ((resval (congrArg Value.bool c9))))) (by kernel_rfl) ?_
              refine wpc (step_on (dj := 51) rfl rfl (acts_un (d := 55) (ltN rfl) (OpV.tmp 54 (.bool false)) (r_not (c := true) rfl))) (by kernel_rfl) ?_
              refine wpc (step_plain rfl (acts_pick_f (d := 56) (ltN rfl) (OpV.tmp 51 (.bool false)) (OpX.tmp 55 (V.v (.bool true))))) (by kernel_rfl) ?_
              refine wpc (step_plain rfl (acts_move (d := 57) (ltN rfl) (OpX.tmp 56 (V.v (.bool true))))) (by kernel_rfl) ?_
              refine wpc (step_off (dj := 57) (b' := true) rfl rfl (by decide) rfl (ltN rfl)) (by kernel_rfl) ?_
              refine wpc (step_off (dj := 57) (b' := true) rfl rfl (by decide) rfl (ltN rfl)) (by kernel_rfl) ?_
              refine wpc (step_off (dj := 57) (b' := true) rfl rfl (by decide) rfl (ltN rfl)) (by kernel_rfl) ?_
              refine wpc (step_off (dj := 57) (b' := true) rfl rfl (by decide) rfl (ltN rfl)) (by kernel_rfl) ?_
              refine wpc (step_off (dj := 57) (b' := true) rfl rfl (by decide) rfl (ltN rfl)) (by kernel_rfl) ?_
              refine wpc (step_plain rfl (acts_pick_t (d := 63) (ltN rfl) (OpV.tmp 57 (.bool true)) (OpX.const (.bool true)))) (by kernel_rfl) ?_
              refine wpc (step_plain rfl (acts_move (d := 64) (ltN rfl) (OpX.tmp 63 (V.v (.bool true))))) (by kernel_rfl) ?_
              refine wpc (step_off (dj := 64) (b' := true) rfl rfl (by decide) rfl (ltN rfl)) (by kernel_rfl) ?_
              refine wpc (step_off (dj := 64) (b' := true) rfl rfl (by decide) rfl (ltN rfl)) (by kernel_rfl) ?_
              refine wpc (step_off (dj := 64) (b' := true) rfl rfl (by decide) rfl (ltN rfl)) (by kernel_rfl) ?_
              refine wpc (step_off (dj := 64) (b' := true) rfl rfl (by decide) rfl (ltN rfl)) (by kernel_rfl) ?_
              refine wpc (step_off (dj := 64) (b' := true) rfl rfl (by decide) rfl (ltN rfl)) (by kernel_rfl) ?_
              refine wpc (step_plain rfl (acts_pick_t (d := 70) (ltN rfl) (OpV.tmp 64 (.bool true)) (OpX.const (.bool true)))) (by kernel_rfl) ?_
              refine wpl_nil ?_
              refine wp_if_t (t := 70) (by kernel_rfl) ?_
              refine wp_seq' ?_
              refine wp_region_t ?_
              refine wpc (step_plain rfl (acts_assign (d := 4) (ltN rfl) (OpX.const (.bool false)))) (by kernel_rfl) ?_
              refine wpl_nil ?_
              refine wp_ret' ?_
              exact VRes.tmp 4 (.a (.val (.bool false))) _ (by kernel_rfl) (bval (congrArg Value.bool (by first | (refine (isPar_no' (k := k) (by omega) (fun hr => ?_)).symm; first | (rw [step_eq hr (by assumption)]; simp_all; done) | (rw [step_eq hr (by assumption)]; simp_all; omega) | (unfold stepOk; simp_all; done)) | exact isPar_end (by omega) (by omega) (by assumption))))
          · skip
            refine wp_region_t ?_
            refine wpc (step_plain rfl (acts_load_owns (d := 47) (t := 2) (h := 2) (off := 0) (o := ⟨29, 1, true, [(.slv l.length 1 (isl l) : A)]⟩)  (xs := [(.slv l.length 1 (isl l) : A)]) (ltN rfl) qC3_ti_29 rfl (by decide) rfl)) (by kernel_rfl) ?_
            refine wpc (step_plain rfl (acts_load_owns (d := 48) (t := 7) (h := 7) (off := 0) (o := ⟨49, 2, true, [(.val (.int .i64 ((ca (gD ds k)).x)) : A), .val (.int .i64 ((ca (gD ds k)).y))]⟩)  (xs := [(.int .i64 ((ca (gD ds k)).x) : Value), .int .i64 ((ca (gD ds k)).y)].map A.val) (ltN rfl) qC3_ti_49 rfl (by decide) rfl)) (by kernel_rfl) ?_
            refine wpc (step_plain rfl (acts_call1 (d := 49) (ltN rfl) (spec_HasCell_fn l (ca (gD ds k)) (by first | omega | assumption | exact ok_ca (by assumption) | exact ok_cb (by assumption) | (have := idx_lt (ok_ca (d := gD ds k) (by assumption)); have := idx_lt (ok_cb (d := gD ds k) (by assumption)); simp [bitsL_len] at *; omega))) (ArgVs.cons (ArgV.regv 47 l.length 1 (isl l)) (ArgVs.cons (ArgV.va (vs := [(.int .i64 ((ca (gD ds k)).x) : Value), .int .i64 ((ca (gD ds k)).y)]) (OpV.agg 48 [(.int .i64 ((ca (gD ds k)).x) : Value), .int .i64 ((ca (gD ds k)).y)])) (ArgVs.nil))) ((resval (congrArg Value.bool c8))))) (by kernel_rfl) ?_
            refine wpc (step_plain rfl (acts_un (d := 50) (ltN rfl) (OpV.tmp 49 (.bool false)) (r_not (c := true) rfl))) (by kernel_rfl) ?_
            refine wpc (step_plain rfl (acts_move (d := 51) (ltN rfl) (OpX.tmp 50 (V.v (.bool true))))) (by kernel_rfl) ?_
            refine wpc (step_off (dj := 51) (b' := true) rfl rfl (by decide) rfl (ltN rfl)) (by kernel_rfl) ?_
            refine wpc (step_off (dj := 51) (b' := true) rfl rfl (by decide) rfl (ltN rfl)) (by kernel_rfl) ?_
            refine wpc (step_off (dj := 51) (b' := true) rfl rfl (by decide) rfl (ltN rfl)) (by kernel_rfl) ?_
            refine wpc (step_off (dj := 51) (b' := true) rfl rfl (by decide) rfl (ltN rfl)) (by kernel_rfl) ?_
            refine wpc (step_plain rfl (acts_pick_t (d := 56) (ltN rfl) (OpV.tmp 51 (.bool true)) (OpX.const (.bool true)))) (by kernel_rfl) ?_
            refine wpc (step_plain rfl (acts_move (d := 57) (ltN rfl) (OpX.tmp 56 (V.v (.bool true))))) (by kernel_rfl) ?_
            refine wpc (step_off (dj := 57) (b' := true) rfl rfl (by decide) rfl (ltN rfl)) (by kernel_rfl) ?_
            refine wpc (step_off (dj := 57) (b' := true) rfl rfl (by decide) rfl (ltN rfl)) (by kernel_rfl) ?_
            refine wpc (step_off (dj := 57) (b' := true) rfl rfl (by decide) rfl (ltN rfl)) (by kernel_rfl) ?_
            refine wpc (step_off (dj := 57) (b' := true) rfl rfl (by decide) rfl (ltN rfl)) (by kernel_rfl) ?_
            refine wpc (step_off (dj := 57) (b' := true) rfl rfl (by decide) rfl (ltN rfl)) (by kernel_rfl) ?_
            refine wpc (step_plain rfl (acts_pick_t (d := 63) (ltN rfl) (OpV.tmp 57 (.bool true)) (OpX.const (.bool true)))) (by kernel_rfl) ?_
            refine wpc (step_plain rfl (acts_move (d := 64) (ltN rfl) (OpX.tmp 63 (V.v (.bool true))))) (by kernel_rfl) ?_
            refine wpc (step_off (dj := 64) (b' := true) rfl rfl (by decide) rfl (ltN rfl)) (by kernel_rfl) ?_
            refine wpc (step_off (dj := 64) (b' := true) rfl rfl (by decide) rfl (ltN rfl)) (by kernel_rfl) ?_
            refine wpc (step_off (dj := 64) (b' := true) rfl rfl (by decide) rfl (ltN rfl)) (by kernel_rfl) ?_
            refine wpc (step_off (dj := 64) (b' := true) rfl rfl (by decide) rfl (ltN rfl)) (by kernel_rfl) ?_
            refine wpc (step_off (dj := 64) (b' := true) rfl rfl (by decide) rfl (ltN rfl)) (by kernel_rfl) ?_
            refine wpc (step_plain rfl (acts_pick_t (d := 70) (ltN rfl) (OpV.tmp 64 (.bool true)) (OpX.const (.bool true)))) (by kernel_rfl) ?_
            refine wpl_nil ?_
            refine wp_if_t (t := 70) (by kernel_rfl) ?_
            refine wp_seq' ?_
            refine wp_region_t ?_
            refine wpc (step_plain rfl (acts_assign (d := 4) (ltN rfl) (OpX.const (.bool false)))) (by kernel_rfl) ?_
            refine wpl_nil ?_
            refine wp_ret' ?_
            exact VRes.tmp 4 (.a (.val (.bool false))) _ (by kernel_rfl) (bval (congrArg Value.bool (by first | (refine (isPar_no' (k := k) (by omega) (fun hr => ?_)).symm; first | (rw [step_eq hr (by assumption)]; simp_all; done) | (rw [step_eq hr (by assumption)]; simp_all; omega) | (unfold stepOk; simp_all; done)) | exact isPar_end (by omega) (by omega) (by assumption))))
      · skip
        have c4P := of_decide_eq_false c4
        refine wp_drawn' (by kernel_rfl) (AllSteps.cons (step_plain rfl (acts_move (d := 16) (ltN rfl) (OpX.tmp 1 (V.b (.a (.slv ds.length 3 (dsl ds))))))) (AllSteps.cons (step_plain rfl (acts_move (d := 17) (ltN rfl) (OpX.tmp 6 (V.v (.int .i64 ((k : Nat) : Int)))))) (AllSteps.cons (step_plain rfl (acts_index_v (d := 18) (x := 16) (n := ds.length) (s := 3) (k := k) (xs := dsl ds) (ltN rfl) qC3_un_31 qC3_sz_52 (OpV.tmp 17 (.int .i64 ((k : Nat) : Int))) rfl (by first | omega | assumption | exact ok_ca (by assumption) | exact ok_cb (by assumption) | (have := idx_lt (ok_ca (d := gD ds k) (by assumption)); have := idx_lt (ok_cb (d := gD ds k) (by assumption)); simp [bitsL_len] at *; omega)))) (AllSteps.cons (step_plain rfl (acts_load_vs (d := 19) (t := 18) (s := 3) (off := (k * 3)) (xs := dsl ds)  (vs := [(.int .i64 ((gD ds k).x) : Value), .int .i64 ((gD ds k).y), .bool ((gD ds k).d)]) (ltN rfl) qC3_ti_52 rfl (dsl_at (k := k) (by first | omega | assumption | exact ok_ca (by assumption) | exact ok_cb (by assumption) | (have := idx_lt (ok_ca (d := gD ds k) (by assumption)); have := idx_lt (ok_cb (d := gD ds k) (by assumption)); simp [bitsL_len] at *; omega))))) (AllSteps.cons (step_plain rfl (acts_call1 (d := 20) (ltN rfl) (spec_DominoOk_fn (gD ds k) ) (ArgVs.cons (ArgV.va (vs := [(.int .i64 ((gD ds k).x) : Value), .int .i64 ((gD ds k).y), .bool ((gD ds k).d)]) (OpV.agg 19 [(.int .i64 ((gD ds k).x) : Value), .int .i64 ((gD ds k).y), .bool ((gD ds k).d)])) (ArgVs.nil)) ((resval (congrArg Value.bool c3))))) (AllSteps.cons (step_plain rfl (acts_un (d := 21) (ltN rfl) (OpV.tmp 20 (.bool true)) (r_not (c := false) rfl))) (AllSteps.cons (step_plain rfl (acts_move (d := 22) (ltN rfl) (OpX.tmp 21 (V.v (.bool false))))) (AllSteps.cons (step_on (dj := 22) rfl rfl (acts_move (d := 23) (ltN rfl) (OpX.tmp 6 (V.v (.int .i64 ((k : Nat) : Int)))))) (AllSteps.cons (step_on (dj := 22) rfl rfl (acts_bin (d := 24) (ltN rfl) (OpV.tmp 23 (.int .i64 ((k : Nat) : Int))) (OpV.const (.int .i64 0)) (r_gtr (c := false) c4))) (AllSteps.cons (step_on (dj := 22) rfl rfl (acts_move (d := 25) (ltN rfl) (OpX.tmp 24 (V.v (.bool false))))) (AllSteps.cons (step_off (dj := 25) (b' := false) rfl rfl (by decide) rfl (ltN rfl)) (AllSteps.cons (step_off (dj := 25) (b' := false) rfl rfl (by decide) rfl (ltN rfl)) (AllSteps.cons (step_off (dj := 25) (b' := false) rfl rfl (by decide) rfl (ltN rfl)) (AllSteps.cons (step_off (dj := 25) (b' := false) rfl rfl (by decide) rfl (ltN rfl)) (AllSteps.cons (step_off (dj := 25) (b' := false) rfl rfl (by decide) rfl (ltN rfl)) (AllSteps.cons (step_off (dj := 25) (b' := false) rfl rfl (by decide) rfl (ltN rfl)) (AllSteps.cons (step_off (dj := 25) (b' := false) rfl rfl (by decide) rfl (ltN rfl)) (AllSteps.cons (step_off (dj := 25) (b' := false) rfl rfl (by decide) rfl (ltN rfl)) (AllSteps.cons (step_off (dj := 25) (b' := false) rfl rfl (by decide) rfl (ltN rfl)) (AllSteps.cons (step_off (dj := 25) (b' := false) rfl rfl (by decide) rfl (ltN rfl)) (AllSteps.cons (step_off (dj := 25) (b' := false) rfl rfl (by decide) rfl (ltN rfl)) (AllSteps.cons (step_on (dj := 22) rfl rfl (acts_pick_f (d := 37) (ltN rfl) (OpV.tmp 25 (.bool false)) (OpX.const (.bool false)))) (AllSteps.cons (step_plain rfl (acts_pick_f (d := 38) (ltN rfl) (OpV.tmp 22 (.bool false)) (OpX.tmp 37 (V.v (.bool false))))) (AllSteps.nil)))))))))))))))))))))))) (by kernel_rfl) (by kernel_rfl) (by kernel_rfl) ?_
        refine wp_if_f (t := 38) (by kernel_rfl) ?_
        refine wp_skip' ?_
        refine wp_seq' ?_
        refine wp_region_t ?_
        refine wpc (step_plain rfl (acts_move (d := 40) (ltN rfl) (OpX.tmp 1 (V.b (.a (.slv ds.length 3 (dsl ds))))))) (by kernel_rfl) ?_
        refine wpc (step_plain rfl (acts_move (d := 41) (ltN rfl) (OpX.tmp 6 (V.v (.int .i64 ((k : Nat) : Int)))))) (by kernel_rfl) ?_
        refine wpc (step_plain rfl (acts_index_v (d := 42) (x := 40) (n := ds.length) (s := 3) (k := k) (xs := dsl ds) (ltN rfl) qC3_un_31 qC3_sz_52 (OpV.tmp 41 (.int .i64 ((k : Nat) : Int))) rfl (by first | omega | assumption | exact ok_ca (by assumption) | exact ok_cb (by assumption) | (have := idx_lt (ok_ca (d := gD ds k) (by assumption)); have := idx_lt (ok_cb (d := gD ds k) (by assumption)); simp [bitsL_len] at *; omega)))) (by kernel_rfl) ?_
        refine wpc (step_plain rfl (acts_load_vs (d := 43) (t := 42) (s := 3) (off := (k * 3)) (xs := dsl ds)  (vs := [(.int .i64 ((gD ds k).x) : Value), .int .i64 ((gD ds k).y), .bool ((gD ds k).d)]) (ltN rfl) qC3_ti_52 rfl (dsl_at (k := k) (by first | omega | assumption | exact ok_ca (by assumption) | exact ok_cb (by assumption) | (have := idx_lt (ok_ca (d := gD ds k) (by assumption)); have := idx_lt (ok_cb (d := gD ds k) (by assumption)); simp [bitsL_len] at *; omega))))) (by kernel_rfl) ?_
        refine wpc (step_plain rfl (acts_call2 (d := 44) (ltN rfl) (spec_CellsUnder_fn (gD ds k) (by first | omega | assumption | exact ok_ca (by assumption) | exact ok_cb (by assumption) | (have := idx_lt (ok_ca (d := gD ds k) (by assumption)); have := idx_lt (ok_cb (d := gD ds k) (by assumption)); simp [bitsL_len] at *; omega))) (ArgVs.cons (ArgV.va (vs := [(.int .i64 ((gD ds k).x) : Value), .int .i64 ((gD ds k).y), .bool ((gD ds k).d)]) (OpV.agg 43 [(.int .i64 ((gD ds k).x) : Value), .int .i64 ((gD ds k).y), .bool ((gD ds k).d)])) (ArgVs.nil)) (ResV.agg [(.int .i64 ((ca (gD ds k)).x) : Value), .int .i64 ((ca (gD ds k)).y)]) (ResV.agg [(.int .i64 ((cb (gD ds k)).x) : Value), .int .i64 ((cb (gD ds k)).y)]))) (by kernel_rfl) ?_
        refine wpc (step_plain rfl (acts_move (d := 39) (ltN rfl) (OpX.tmp 44 (V.tup [.agg ([(.int .i64 ((ca (gD ds k)).x) : Value), .int .i64 ((ca (gD ds k)).y)].map A.val), .agg ([(.int .i64 ((cb (gD ds k)).x) : Value), .int .i64 ((cb (gD ds k)).y)].map A.val)])))) (by kernel_rfl) ?_
        refine wpc (step_plain rfl (acts_extract (d := 45) (t := 39) (ix := 0) (xs := [.agg ([(.int .i64 ((ca (gD ds k)).x) : Value), .int .i64 ((ca (gD ds k)).y)].map A.val), .agg ([(.int .i64 ((cb (gD ds k)).x) : Value), .int .i64 ((cb (gD ds k)).y)].map A.val)]) (X := .agg ([(.int .i64 ((ca (gD ds k)).x) : Value), .int .i64 ((ca (gD ds k)).y)].map A.val)) (ltN rfl) rfl)) (by kernel_rfl) ?_
        refine wpc (step_plain rfl (acts_extract (d := 46) (t := 39) (ix := 1) (xs := [.agg ([(.int .i64 ((ca (gD ds k)).x) : Value), .int .i64 ((ca (gD ds k)).y)].map A.val), .agg ([(.int .i64 ((cb (gD ds k)).x) : Value), .int .i64 ((cb (gD ds k)).y)].map A.val)]) (X := .agg ([(.int .i64 ((cb (gD ds k)).x) : Value), .int .i64 ((cb (gD ds k)).y)].map A.val)) (ltN rfl) rfl)) (by kernel_rfl) ?_
        refine wpc (step_plain rfl (acts_alloc' (d := 7) (h := 7) (cap := 1) (s := 2) (cells := [(.val (.int .i64 0) : A), .val (.int .i64 0)]) (ltN rfl) qC3_zi_49 rfl rfl (by decide))) (by kernel_rfl) ?_
        refine wpc (step_plain rfl (acts_alloc' (d := 8) (h := 8) (cap := 1) (s := 2) (cells := [(.val (.int .i64 0) : A), .val (.int .i64 0)]) (ltN rfl) qC3_zi_49 rfl rfl (by decide))) (by kernel_rfl) ?_
        refine wpc (step_plain rfl (acts_store (t := 7) (h := 7) (off := 0) (o := ⟨49, 2, true, [(.val (.int .i64 0) : A), .val (.int .i64 0)]⟩) (b := .agg ([(.int .i64 ((ca (gD ds k)).x) : Value), .int .i64 ((ca (gD ds k)).y)].map A.val)) (cells := [(.val (.int .i64 ((ca (gD ds k)).x)) : A), .val (.int .i64 ((ca (gD ds k)).y))]) qC3_ti_49 (OpX.tmp 45 (V.av [(.int .i64 ((ca (gD ds k)).x) : Value), .int .i64 ((ca (gD ds k)).y)])) rfl (by decide) (by intro y hy; simp [B.cs] at hy; rcases hy with rfl | rfl <;> rfl) (Nat.le_of_ble_eq_true rfl) rfl)) (by kernel_rfl) ?_
        refine wpc (step_plain rfl (acts_store (t := 8) (h := 8) (off := 0) (o := ⟨49, 2, true, [(.val (.int .i64 0) : A), .val (.int .i64 0)]⟩) (b := .agg ([(.int .i64 ((cb (gD ds k)).x) : Value), .int .i64 ((cb (gD ds k)).y)].map A.val)) (cells := [(.val (.int .i64 ((cb (gD ds k)).x)) : A), .val (.int .i64 ((cb (gD ds k)).y))]) qC3_ti_49 (OpX.tmp 46 (V.av [(.int .i64 ((cb (gD ds k)).x) : Value), .int .i64 ((cb (gD ds k)).y)])) rfl (by decide) (by intro y hy; simp [B.cs] at hy; rcases hy with rfl | rfl <;> rfl) (Nat.le_of_ble_eq_true rfl) rfl)) (by kernel_rfl) ?_
        refine wpl_nil ?_
        refine wp_seq' ?_
        refine wp_seq' ?_
        rcases Bool.eq_false_or_eq_true ((hasC l (ca (gD ds k)))) with c12 | c12
        · skip
          rcases Bool.eq_false_or_eq_true ((hasC l (cb (gD ds k)))) with c13 | c13
          · skip
            rcases Bool.eq_false_or_eq_true ((gB (bitsL (covS (ds.take k))) (idx (ca (gD ds k))))) with c14 | c14
            · skip
              refine wp_region_t ?_
              refine wpc (step_plain rfl (acts_load_owns (d := 47) (t := 2) (h := 2) (off := 0) (o := ⟨29, 1, true, [(.slv l.length 1 (isl l) : A)]⟩)  (xs := [(.slv l.length 1 (isl l) : A)]) (ltN rfl) qC3_ti_29 rfl (by decide) rfl)) (by kernel_rfl) ?_
              refine wpc (step_plain rfl (acts_load_owns (d := 48) (t := 7) (h := 7) (off := 0) (o := ⟨49, 2, true, [(.val (.int .i64 ((ca (gD ds k)).x)) : A), .val (.int .i64 ((ca (gD ds k)).y))]⟩)  (xs := [(.int .i64 ((ca (gD ds k)).x) : Value), .int .i64 ((ca (gD ds k)).y)].map A.val) (ltN rfl) qC3_ti_49 rfl (by decide) rfl)) (by kernel_rfl) ?_
              refine wpc (step_plain rfl (acts_call1 (d := 49) (ltN rfl) (spec_HasCell_fn l (ca (gD ds k)) (by first | omega | assumption | exact ok_ca (by assumption) | exact ok_cb (by assumption) | (have := idx_lt (ok_ca (d := gD ds k) (by assumption)); have := idx_lt (ok_cb (d := gD ds k) (by assumption)); simp [bitsL_len] at *; omega))) (ArgVs.cons (ArgV.regv 47 l.length 1 (isl l)) (ArgVs.cons (ArgV.va (vs := [(.int .i64 ((ca (gD ds k)).x) : Value), .int .i64 ((ca (gD ds k)).y)]) (OpV.agg 48 [(.int .i64 ((ca (gD ds k)).x) : Value), .int .i64 ((ca (gD ds k)).y)])) (ArgVs.nil))) ((resval (congrArg Value.bool c12))))) (by kernel_rfl) ?_
              refine wpc (step_plain rfl (acts_un (d := 50) (ltN rfl) (OpV.tmp 49 (.bool true)) (r_not (c := false) rfl))) (by kernel_rfl) ?_
              refine wpc (step_plain rfl (acts_move (d := 51) (ltN rfl) (OpX.tmp 50 (V.v (.bool false))))) (by kernel_rfl) ?_
              refine wpc (step_on (dj := 51) rfl rfl (acts_load_owns (d := 52) (t := 2) (h := 2) (off := 0) (o := ⟨29, 1, true, [(.slv l.length 1 (isl l) : A)]⟩)  (xs := [(.slv l.length 1 (isl l) : A)]) (ltN rfl) qC3_ti_29 rfl (by decide) rfl)) (by kernel_rfl) ?_
              refine wpc (step_on (dj := 51) rfl rfl (acts_load_owns (d := 53) (t := 8) (h := 8) (off := 0) (o := ⟨49, 2, true, [(.val (.int .i64 ((cb (gD ds k)).x)) : A), .val (.int .i64 ((cb (gD ds k)).y))]⟩)  (xs := [(.int .i64 ((cb (gD ds k)).x) : Value), .int .i64 ((cb (gD ds k)).y)].map A.val) (ltN rfl) qC3_ti_49 rfl (by decide) rfl)) (by kernel_rfl) ?_
              refine wpc (step_on (dj := 51) rfl rfl (acts_call1 (d := 54) (ltN rfl) (spec_HasCell_fn l (cb (gD ds k)) (by first | omega | assumption | exact ok_ca (by assumption) | exact ok_cb (by assumption) | (have := idx_lt (ok_ca (d := gD ds k) (by assumption)); have := idx_lt (ok_cb (d := gD ds k) (by assumption)); simp [bitsL_len] at *; omega))) (ArgVs.cons (ArgV.regv 52 l.length 1 (isl l)) (ArgVs.cons (ArgV.va (vs := [(.int .i64 ((cb (gD ds k)).x) : Value), .int .i64 ((cb (gD ds k)).y)]) (OpV.agg 53 [(.int .i64 ((cb (gD ds k)).x) : Value), .int .i64 ((cb (gD ds k)).y)])) (ArgVs.nil))) ((resval (congrArg Value.bool c13))))) (by kernel_rfl) ?_
              refine wpc (step_on (dj := 51) rfl rfl (acts_un (d := 55) (ltN rfl) (OpV.tmp 54 (.bool true)) (r_not (c := false) rfl))) (by kernel_rfl) ?_
              refine wpc (step_plain rfl (acts_pick_f (d := 56) (ltN rfl) (OpV.tmp 51 (.bool false)) (OpX.tmp 55 (V.v (.bool false))))) (by kernel_rfl) ?_
              refine wpc (step_plain rfl (acts_move (d := 57) (ltN rfl) (OpX.tmp 56 (V.v (.bool false))))) (by kernel_rfl) ?_
              refine wpc (step_on (dj := 57) rfl rfl (acts_move (d := 58) (ltN rfl) (OpX.tmp 5 (V.b (.a (.sl 9 0 ((bitsL (covS (ds.take k))).length))))))) (by kernel_rfl) ?_
              refine wpc (step_on (dj := 57) rfl rfl (acts_load_owns (d := 59) (t := 7) (h := 7) (off := 0) (o := ⟨49, 2, true, [(.val (.int .i64 ((ca (gD ds k)).x)) : A), .val (.int .i64 ((ca (gD ds k)).y))]⟩)  (xs := [(.int .i64 ((ca (gD ds k)).x) : Value), .int .i64 ((ca (gD ds k)).y)].map A.val) (ltN rfl) qC3_ti_49 rfl (by decide) rfl)) (by kernel_rfl) ?_
              refine wpc (step_on (dj := 57) rfl rfl (acts_call1 (d := 60) (ltN rfl) (spec_CellIndex_fn (ca (gD ds k)) (by first | omega | assumption | exact ok_ca (by assumption) | exact ok_cb (by assumption) | (have := idx_lt (ok_ca (d := gD ds k) (by assumption)); have := idx_lt (ok_cb (d := gD ds k) (by assumption)); simp [bitsL_len] at *; omega))) (ArgVs.cons (ArgV.va (vs := [(.int .i64 ((ca (gD ds k)).x) : Value), .int .i64 ((ca (gD ds k)).y)]) (OpV.agg 59 [(.int .i64 ((ca (gD ds k)).x) : Value), .int .i64 ((ca (gD ds k)).y)])) (ArgVs.nil)) (ResV.val _))) (by kernel_rfl) ?_
              refine wpc (step_on (dj := 57) rfl rfl (acts_index_sl (d := 61) (x := 58) (h := 9) (off := 0) (n := ((bitsL (covS (ds.take k))).length)) (k := (idx (ca (gD ds k)))) (off' := ((idx (ca (gD ds k))) * 1)) (o := ⟨4, 1, true, pl (bsl (bitsL (covS (ds.take k))))⟩) (ltN rfl) qC3_un_74 qC3_sz_4 (OpV.tmp 60 (.int .i64 (((idx (ca (gD ds k))) : Nat) : Int))) rfl (by first | omega | assumption | exact ok_ca (by assumption) | exact ok_cb (by assumption) | (have := idx_lt (ok_ca (d := gD ds k) (by assumption)); have := idx_lt (ok_cb (d := gD ds k) (by assumption)); simp [bitsL_len] at *; omega)) (by first | (simp; done) | (simp; omega) | omega))) (by kernel_rfl) ?_
              refine wpc (step_on (dj := 57) rfl rfl (acts_load_own (d := 62) (t := 61) (h := 9) (off := ((idx (ca (gD ds k))) * 1)) (o := ⟨4, 1, true, pl (bsl (bitsL (covS (ds.take k))))⟩)  (x := .val (.bool true)) (ltN rfl) qC3_ti_4 (pl_get ((bsl_get1 (k := (idx (ca (gD ds k)))) (by first | omega | assumption | exact ok_ca (by assumption) | exact ok_cb (by assumption) | (have := idx_lt (ok_ca (d := gD ds k) (by assumption)); have := idx_lt (ok_cb (d := gD ds k) (by assumption)); simp [bitsL_len] at *; omega))).trans (congrArg (fun b : Bool => some (Value.bool b)) c14))))) (by kernel_rfl) ?_
              refine wpc (step_plain rfl (acts_pick_f (d := 63) (ltN rfl) (OpV.tmp 57 (.bool false)) (OpX.tmp 62 (V.v (.bool true))))) (by kernel_rfl) ?_
              refine wpc (step_plain rfl (acts_move (d := 64) (ltN rfl) (OpX.tmp 63 (V.v (.bool true))))) (by kernel_rfl) ?_
              refine wpc (step_off (dj := 64) (b' := true) rfl rfl (by decide) rfl (ltN rfl)) (by kernel_rfl) ?_
              refine wpc (step_off (dj := 64) (b' := true) rfl rfl (by decide) rfl (ltN rfl)) (by kernel_rfl) ?_
              refine wpc (step_off (dj := 64) (b' := true) rfl rfl (by decide) rfl (ltN rfl)) (by kernel_rfl) ?_
              refine wpc (step_off (dj := 64) (b' := true) rfl rfl (by decide) rfl (ltN rfl)) (by kernel_rfl) ?_
              refine wpc (step_off (dj := 64) (b' := true) rfl rfl (by decide) rfl (ltN rfl)) (by kernel_rfl) ?_
              refine wpc (step_plain rfl (acts_pick_t (d := 70) (ltN rfl) (OpV.tmp 64 (.bool true)) (OpX.const (.bool true)))) (by kernel_rfl) ?_
              refine wpl_nil ?_
              refine wp_if_t (t := 70) (by kernel_rfl) ?_
              refine wp_seq' ?_
              refine wp_region_t ?_
              refine wpc (step_plain rfl (acts_assign (d := 4) (ltN rfl) (OpX.const (.bool false)))) (by kernel_rfl) ?_
              refine wpl_nil ?_
              refine wp_ret' ?_
              exact VRes.tmp 4 (.a (.val (.bool false))) _ (by kernel_rfl) (bval (congrArg Value.bool (by first | (refine (isPar_no' (k := k) (by omega) (fun hr => ?_)).symm; first | (rw [step_eq hr (by assumption)]; simp_all; done) | (rw [step_eq hr (by assumption)]; simp_all; omega) | (unfold stepOk; simp_all; done)) | exact isPar_end (by omega) (by omega) (by assumption))))
            · skip
              refine wp_region_t ?_
              refine wpc (step_plain rfl (acts_load_owns (d := 47) (t := 2) (h := 2) (off := 0) (o := ⟨29, 1, true, [(.slv l.length 1 (isl l) : A)]⟩)  (xs := [(.slv l.length 1 (isl l) : A)]) (ltN rfl) qC3_ti_29 rfl (by decide) rfl)) (by kernel_rfl) ?_
              refine wpc (step_plain rfl (acts_load_owns (d := 48) (t := 7) (h := 7) (off := 0) (o := ⟨49, 2, true, [(.val (.int .i64 ((ca (gD ds k)).x)) : A), .val (.int .i64 ((ca (gD ds k)).y))]⟩)  (xs := [(.int .i64 ((ca (gD ds k)).x) : Value), .int .i64 ((ca (gD ds k)).y)].map A.val) (ltN rfl) qC3_ti_49 rfl (by decide) rfl)) (by kernel_rfl) ?_
              refine wpc (step_plain rfl (acts_call1 (d := 49) (ltN rfl) (spec_HasCell_fn l (ca (gD ds k)) (by first | omega | assumption | exact ok_ca (by assumption) | exact ok_cb (by assumption) | (have := idx_lt (ok_ca (d := gD ds k) (by assumption)); have := idx_lt (ok_cb (d := gD ds k) (by assumption)); simp [bitsL_len] at *; omega))) (ArgVs.cons (ArgV.regv 47 l.length 1 (isl l)) (ArgVs.cons (ArgV.va (vs := [(.int .i64 ((ca (gD ds k)).x) : Value), .int .i64 ((ca (gD ds k)).y)]) (OpV.agg 48 [(.int .i64 ((ca (gD ds k)).x) : Value), .int .i64 ((ca (gD ds k)).y)])) (ArgVs.nil))) ((resval (congrArg Value.bool c12))))) (by kernel_rfl) ?_
              refine wpc (step_plain rfl (acts_un (d := 50) (ltN rfl) (OpV.tmp 49 (.bool true)) (r_not (c := false) rfl))) (by kernel_rfl) ?_
              refine wpc (step_plain rfl (acts_move (d := 51) (ltN rfl) (OpX.tmp 50 (V.v (.bool false))))) (by kernel_rfl) ?_
              refine wpc (step_on (dj := 51) rfl rfl (acts_load_owns (d := 52) (t := 2) (h := 2) (off := 0) (o := ⟨29, 1, true, [(.slv l.length 1 (isl l) : A)]⟩)  (xs := [(.slv l.length 1 (isl l) : A)]) (ltN rfl) qC3_ti_29 rfl (by decide) rfl)) (by kernel_rfl) ?_
              refine wpc (step_on (dj := 51) rfl rfl (acts_load_owns (d := 53) (t := 8) (h := 8) (off := 0) (o := ⟨49, 2, true, [(.val (.int .i64 ((cb (gD ds k)).x)) : A), .val (.int .i64 ((cb (gD ds k)).y))]⟩)  (xs := [(.int .i64 ((cb (gD ds k)).x) : Value), .int .i64 ((cb (gD ds k)).y)].map A.val) (ltN rfl) qC3_ti_49 rfl (by decide) rfl)) (by kernel_rfl) ?_
              refine wpc (step_on (dj := 51) rfl rfl (acts_call1 (d := 54) (ltN rfl) (spec_HasCell_fn l (cb (gD ds k)) (by first | omega | assumption | exact ok_ca (by assumption) | exact ok_cb (by assumption) | (have := idx_lt (ok_ca (d := gD ds k) (by assumption)); have := idx_lt (ok_cb (d := gD ds k) (by assumption)); simp [bitsL_len] at *; omega))) (ArgVs.cons (ArgV.regv 52 l.length 1 (isl l)) (ArgVs.cons (ArgV.va (vs := [(.int .i64 ((cb (gD ds k)).x) : Value), .int .i64 ((cb (gD ds k)).y)]) (OpV.agg 53 [(.int .i64 ((cb (gD ds k)).x) : Value), .int .i64 ((cb (gD ds k)).y)])) (ArgVs.nil))) ((resval (congrArg Value.bool c13))))) (by kernel_rfl) ?_
              refine wpc (step_on (dj := 51) rfl rfl (acts_un (d := 55) (ltN rfl) (OpV.tmp 54 (.bool true)) (r_not (c := false) rfl))) (by kernel_rfl) ?_
              refine wpc (step_plain rfl (acts_pick_f (d := 56) (ltN rfl) (OpV.tmp 51 (.bool false)) (OpX.tmp 55 (V.v (.bool false))))) (by kernel_rfl) ?_
              refine wpc (step_plain rfl (acts_move (d := 57) (ltN rfl) (OpX.tmp 56 (V.v (.bool false))))) (by kernel_rfl) ?_
              refine wpc (step_on (dj := 57) rfl rfl (acts_move (d := 58) (ltN rfl) (OpX.tmp 5 (V.b (.a (.sl 9 0 ((bitsL (covS (ds.take k))).length))))))) (by kernel_rfl) ?_
              refine wpc (step_on (dj := 57) rfl rfl (acts_load_owns (d := 59) (t := 7) (h := 7) (off := 0) (o := ⟨49, 2, true, [(.val (.int .i64 ((ca (gD ds k)).x)) : A), .val (.int .i64 ((ca (gD ds k)).y))]⟩)  (xs := [(.int .i64 ((ca (gD ds k)).x) : Value), .int .i64 ((ca (gD ds k)).y)].map A.val) (ltN rfl) qC3_ti_49 rfl (by decide) rfl)) (by kernel_rfl) ?_
              refine wpc (step_on (dj := 57) rfl rfl (acts_call1 (d := 60) (ltN rfl) (spec_CellIndex_fn (ca (gD ds k)) (by first | omega | assumption | exact ok_ca (by assumption) | exact ok_cb (by assumption) | (have := idx_lt (ok_ca (d := gD ds k) (by assumption)); have := idx_lt (ok_cb (d := gD ds k) (by assumption)); simp [bitsL_len] at *; omega))) (ArgVs.cons (ArgV.va (vs := [(.int .i64 ((ca (gD ds k)).x) : Value), .int .i64 ((ca (gD ds k)).y)]) (OpV.agg 59 [(.int .i64 ((ca (gD ds k)).x) : Value), .int .i64 ((ca (gD ds k)).y)])) (ArgVs.nil)) (ResV.val _))) (by kernel_rfl) ?_
              refine wpc (step_on (dj := 57) rfl rfl (acts_index_sl (d := 61) (x := 58) (h := 9) (off := 0) (n := ((bitsL (covS (ds.take k))).length)) (k := (idx (ca (gD ds k)))) (off' := ((idx (ca (gD ds k))) * 1)) (o := ⟨4, 1, true, pl (bsl (bitsL (covS (ds.take k))))⟩) (ltN rfl) qC3_un_74 qC3_sz_4 (OpV.tmp 60 (.int .i64 (((idx (ca (gD ds k))) : Nat) : Int))) rfl (by first | omega | assumption | exact ok_ca (by assumption) | exact ok_cb (by assumption) | (have := idx_lt (ok_ca (d := gD ds k) (by assumption)); have := idx_lt (ok_cb (d := gD ds k) (by assumption)); simp [bitsL_len] at *; omega)) (by first | (simp; done) | (simp; omega) | omega))) (by kernel_rfl) ?_
              refine wpc (step_on (dj := 57) rfl rfl (acts_load_own (d := 62) (t := 61) (h := 9) (off := ((idx (ca (gD ds k))) * 1)) (o := ⟨4, 1, true, pl (bsl (bitsL (covS (ds.take k))))⟩)  (x := .val (.bool false)) (ltN rfl) qC3_ti_4 (pl_get ((bsl_get1 (k := (idx (ca (gD ds k)))) (by first | omega | assumption | exact ok_ca (by assumption) | exact ok_cb (by assumption) | (have := idx_lt (ok_ca (d := gD ds k) (by assumption)); have := idx_lt (ok_cb (d := gD ds k) (by assumption)); simp [bitsL_len] at *; omega))).trans (congrArg (fun b : Bool => some (Value.bool b)) c14))))) (by kernel_rfl) ?_
              refine wpc (step_plain rfl (acts_pick_f (d := 63) (ltN rfl) (OpV.tmp 57 (.bool false)) (OpX.tmp 62 (V.v (.bool false))))) (by kernel_rfl) ?_
              refine wpc (step_plain rfl (acts_move (d := 64) (ltN rfl) (OpX.tmp 63 (V.v (.bool false))))) (by kernel_rfl) ?_
              refine wpc (step_on (dj := 64) rfl rfl (acts_move (d := 65) (ltN rfl) (OpX.tmp 5 (V.b (.a (.sl 9 0 ((bitsL (covS (ds.take k))).length))))))) (by kernel_rfl) ?_
              refine wpc (step_on (dj := 64) rfl rfl (acts_load_owns (d := 66) (t := 8) (h := 8) (off := 0) (o := ⟨49, 2, true, [(.val (.int .i64 ((cb (gD ds k)).x)) : A), .val (.int .i64 ((cb (gD ds k)).y))]⟩)  (xs := [(.int .i64 ((cb (gD ds k)).x) : Value), .int .i64 ((cb (gD ds k)).y)].map A.val) (ltN rfl) qC3_ti_49 rfl (by decide) rfl)) (by kernel_rfl) ?_
              refine wpc (step_on (dj := 64) rfl rfl (acts_call1 (d := 67) (ltN rfl) (spec_CellIndex_fn (cb (gD ds k)) (by first | omega | assumption | exact ok_ca (by assumption) | exact ok_cb (by assumption) | (have := idx_lt (ok_ca (d := gD ds k) (by assumption)); have := idx_lt (ok_cb (d := gD ds k) (by assumption)); simp [bitsL_len] at *; omega))) (ArgVs.cons (ArgV.va (vs := [(.int .i64 ((cb (gD ds k)).x) : Value), .int .i64 ((cb (gD ds k)).y)]) (OpV.agg 66 [(.int .i64 ((cb (gD ds k)).x) : Value), .int .i64 ((cb (gD ds k)).y)])) (ArgVs.nil)) (ResV.val _))) (by kernel_rfl) ?_
              refine wpc (step_on (dj := 64) rfl rfl (acts_index_sl (d := 68) (x := 65) (h := 9) (off := 0) (n := ((bitsL (covS (ds.take k))).length)) (k := (idx (cb (gD ds k)))) (off' := ((idx (cb (gD ds k))) * 1)) (o := ⟨4, 1, true, pl (bsl (bitsL (covS (ds.take k))))⟩) (ltN rfl) qC3_un_74 qC3_sz_4 (OpV.tmp 67 (.int .i64 (((idx (cb (gD ds k))) : Nat) : Int))) rfl (by first | omega | assumption | exact ok_ca (by assumption) | exact ok_cb (by assumption) | (have := idx_lt (ok_ca (d := gD ds k) (by assumption)); have := idx_lt (ok_cb (d := gD ds k) (by assumption)); simp [bitsL_len] at *; omega)) (by first | (simp; done) | (simp; omega) | omega))) (by kernel_rfl) ?_
              refine wpc (step_on (dj := 64) rfl rfl (acts_load_own (d := 69) (t := 68) (h := 9) (off := ((idx (cb (gD ds k))) * 1)) (o := ⟨4, 1, true, pl (bsl (bitsL (covS (ds.take k))))⟩)  (x := .val (.bool (gB (bitsL (covS (ds.take k))) (idx (cb (gD ds k)))))) (ltN rfl) qC3_ti_4 (pl_get (bsl_get1 (k := (idx (cb (gD ds k)))) (by first | omega | assumption | exact ok_ca (by assumption) | exact ok_cb (by assumption) | (have := idx_lt (ok_ca (d := gD ds k) (by assumption)); have := idx_lt (ok_cb (d := gD ds k) (by assumption)); simp [bitsL_len] at *; omega)))))) (by kernel_rfl) ?_
              refine wpc (step_plain rfl (acts_pick_f (d := 70) (ltN rfl) (OpV.tmp 64 (.bool false)) (OpX.tmp 69 (V.v (.bool (gB (bitsL (covS (ds.take k))) (idx (cb (gD ds k))))))))) (by kernel_rfl) ?_
              refine wpl_nil ?_
              refine wp_if (t := 70) ((gB (bitsL (covS (ds.take k))) (idx (cb (gD ds k))))) (by kernel_rfl) (fun c15 => ?_) (fun c15 => ?_)
              · skip
                refine wp_seq' ?_
                refine wp_region_t ?_
                refine wpc (step_plain rfl (acts_assign (d := 4) (ltN rfl) (OpX.const (.bool false)))) (by kernel_rfl) ?_
                refine wpl_nil ?_
                refine wp_ret' ?_
                exact VRes.tmp 4 (.a (.val (.bool false))) _ (by kernel_rfl) (bval (congrArg Value.bool (by first | (refine (isPar_no' (k := k) (by omega) (fun hr => ?_)).symm; first | (rw [step_eq hr (by assumption)]; simp_all; done) | (rw [step_eq hr (by assumption)]; simp_all; omega) | (unfold stepOk; simp_all; done)) | exact isPar_end (by omega) (by omega) (by assumption))))
              · skip
                refine wp_skip' ?_
                refine wp_seq' ?_
                refine wp_region_t ?_
                refine wpc (step_plain rfl (acts_move (d := 71) (ltN rfl) (OpX.tmp 5 (V.b (.a (.sl 9 0 ((bitsL (covS (ds.take k))).length))))))) (by kernel_rfl) ?_
                refine wpc (step_plain rfl (acts_load_owns (d := 72) (t := 7) (h := 7) (off := 0) (o := ⟨49, 2, true, [(.val (.int .i64 ((ca (gD ds k)).x)) : A), .val (.int .i64 ((ca (gD ds k)).y))]⟩)  (xs := [(.int .i64 ((ca (gD ds k)).x) : Value), .int .i64 ((ca (gD ds k)).y)].map A.val) (ltN rfl) qC3_ti_49 rfl (by decide) rfl)) (by kernel_rfl) ?_
                refine wpc (step_plain rfl (acts_call1 (d := 73) (ltN rfl) (spec_CellIndex_fn (ca (gD ds k)) (by first | omega | assumption | exact ok_ca (by assumption) | exact ok_cb (by assumption) | (have := idx_lt (ok_ca (d := gD ds k) (by assumption)); have := idx_lt (ok_cb (d := gD ds k) (by assumption)); simp [bitsL_len] at *; omega))) (ArgVs.cons (ArgV.va (vs := [(.int .i64 ((ca (gD ds k)).x) : Value), .int .i64 ((ca (gD ds k)).y)]) (OpV.agg 72 [(.int .i64 ((ca (gD ds k)).x) : Value), .int .i64 ((ca (gD ds k)).y)])) (ArgVs.nil)) (ResV.val _))) (by kernel_rfl) ?_
                refine wpc (step_plain rfl (acts_index_sl (d := 74) (x := 71) (h := 9) (off := 0) (n := ((bitsL (covS (ds.take k))).length)) (k := (idx (ca (gD ds k)))) (off' := ((idx (ca (gD ds k))) * 1)) (o := ⟨4, 1, true, pl (bsl (bitsL (covS (ds.take k))))⟩) (ltN rfl) qC3_un_74 qC3_sz_4 (OpV.tmp 73 (.int .i64 (((idx (ca (gD ds k))) : Nat) : Int))) rfl (by first | omega | assumption | exact ok_ca (by assumption) | exact ok_cb (by assumption) | (have := idx_lt (ok_ca (d := gD ds k) (by assumption)); have := idx_lt (ok_cb (d := gD ds k) (by assumption)); simp [bitsL_len] at *; omega)) (by first | (simp; done) | (simp; omega) | omega))) (by kernel_rfl) ?_
                refine wpc (step_plain rfl (acts_store (t := 74) (h := 9) (off := ((idx (ca (gD ds k))) * 1)) (o := ⟨4, 1, true, pl (bsl (bitsL (covS (ds.take k))))⟩) (b := .a (.val (.bool true))) (cells := pl (bsl ((bitsL (covS (ds.take k))).set (idx (ca (gD ds k))) true))) qC3_ti_4 (OpX.const (.bool true)) rfl (by decide) (by intro y hy; simp [B.cs] at hy; subst hy; rfl) (by simp only [pl_len, bsl_len]; first | omega | assumption | exact ok_ca (by assumption) | exact ok_cb (by assumption) | (have := idx_lt (ok_ca (d := gD ds k) (by assumption)); have := idx_lt (ok_cb (d := gD ds k) (by assumption)); simp [bitsL_len] at *; omega)) (bsl_put (k := (idx (ca (gD ds k)))) (by first | omega | assumption | exact ok_ca (by assumption) | exact ok_cb (by assumption) | (have := idx_lt (ok_ca (d := gD ds k) (by assumption)); have := idx_lt (ok_cb (d := gD ds k) (by assumption)); simp [bitsL_len] at *; omega))))) (by kernel_rfl) ?_
                refine wpl_nil ?_
                refine wp_region_t ?_
                refine wpc (step_plain rfl (acts_move (d := 75) (ltN rfl) (OpX.tmp 5 (V.b (.a (.sl 9 0 ((bitsL (covS (ds.take k))).length))))))) (by kernel_rfl) ?_
                refine wpc (step_plain rfl (acts_load_owns (d := 76) (t := 8) (h := 8) (off := 0) (o := ⟨49, 2, true, [(.val (.int .i64 ((cb (gD ds k)).x)) : A), .val (.int .i64 ((cb (gD ds k)).y))]⟩)  (xs := [(.int .i64 ((cb (gD ds k)).x) : Value), .int .i64 ((cb (gD ds k)).y)].map A.val) (ltN rfl) qC3_ti_49 rfl (by decide) rfl)) (by kernel_rfl) ?_
                refine wpc (step_plain rfl (acts_call1 (d := 77) (ltN rfl) (spec_CellIndex_fn (cb (gD ds k)) (by first | omega | assumption | exact ok_ca (by assumption) | exact ok_cb (by assumption) | (have := idx_lt (ok_ca (d := gD ds k) (by assumption)); have := idx_lt (ok_cb (d := gD ds k) (by assumption)); simp [bitsL_len] at *; omega))) (ArgVs.cons (ArgV.va (vs := [(.int .i64 ((cb (gD ds k)).x) : Value), .int .i64 ((cb (gD ds k)).y)]) (OpV.agg 76 [(.int .i64 ((cb (gD ds k)).x) : Value), .int .i64 ((cb (gD ds k)).y)])) (ArgVs.nil)) (ResV.val _))) (by kernel_rfl) ?_
                refine wpc (step_plain rfl (acts_index_sl (d := 78) (x := 75) (h := 9) (off := 0) (n := ((bitsL (covS (ds.take k))).length)) (k := (idx (cb (gD ds k)))) (off' := ((idx (cb (gD ds k))) * 1)) (o := ⟨4, 1, true, pl (bsl ((bitsL (covS (ds.take k))).set (idx (ca (gD ds k))) true))⟩) (ltN rfl) qC3_un_74 qC3_sz_4 (OpV.tmp 77 (.int .i64 (((idx (cb (gD ds k))) : Nat) : Int))) rfl (by first | omega | assumption | exact ok_ca (by assumption) | exact ok_cb (by assumption) | (have := idx_lt (ok_ca (d := gD ds k) (by assumption)); have := idx_lt (ok_cb (d := gD ds k) (by assumption)); simp [bitsL_len] at *; omega)) (by first | (simp; done) | (simp; omega) | omega))) (by kernel_rfl) ?_
                refine wpc (step_plain rfl (acts_store (t := 78) (h := 9) (off := ((idx (cb (gD ds k))) * 1)) (o := ⟨4, 1, true, pl (bsl ((bitsL (covS (ds.take k))).set (idx (ca (gD ds k))) true))⟩) (b := .a (.val (.bool true))) (cells := pl (bsl (((bitsL (covS (ds.take k))).set (idx (ca (gD ds k))) true).set (idx (cb (gD ds k))) true))) qC3_ti_4 (OpX.const (.bool true)) rfl (by decide) (by intro y hy; simp [B.cs] at hy; subst hy; rfl) (by simp only [pl_len, bsl_len]; first | omega | assumption | exact ok_ca (by assumption) | exact ok_cb (by assumption) | (have := idx_lt (ok_ca (d := gD ds k) (by assumption)); have := idx_lt (ok_cb (d := gD ds k) (by assumption)); simp [bitsL_len] at *; omega)) (bsl_put (k := (idx (cb (gD ds k)))) (by first | omega | assumption | exact ok_ca (by assumption) | exact ok_cb (by assumption) | (have := idx_lt (ok_ca (d := gD ds k) (by assumption)); have := idx_lt (ok_cb (d := gD ds k) (by assumption)); simp [bitsL_len] at *; omega))))) (by kernel_rfl) ?_
                refine wpl_nil ?_
                refine wp_region_t ?_
                refine wpc (step_plain rfl (acts_move (d := 14) (ltN rfl) (OpX.tmp 6 (V.v (.int .i64 ((k : Nat) : Int)))))) (by kernel_rfl) ?_
                refine wpc (step_plain rfl (acts_bin (d := 15) (ltN rfl) (OpV.tmp 14 (.int .i64 ((k : Nat) : Int))) (OpV.const (.int .i64 1)) (r_add (c := (((k : Nat) : Int) + 1)) (w64 (by first | omega | assumption | exact ok_ca (by assumption) | exact ok_cb (by assumption) | (have := idx_lt (ok_ca (d := gD ds k) (by assumption)); have := idx_lt (ok_cb (d := gD ds k) (by assumption)); simp [bitsL_len] at *; omega)) (by first | omega | assumption | exact ok_ca (by assumption) | exact ok_cb (by assumption) | (have := idx_lt (ok_ca (d := gD ds k) (by assumption)); have := idx_lt (ok_cb (d := gD ds k) (by assumption)); simp [bitsL_len] at *; omega)))))) (by kernel_rfl) ?_
                refine wpc (step_plain rfl (acts_assign (d := 6) (ltN rfl) (OpX.tmp 15 (V.v (.int .i64 (((k : Nat) : Int) + 1)))))) (by kernel_rfl) ?_
                refine wpl_nil ?_
                exact loop_back ((k + 1)) (by refine ⟨by omega, .inr (hasC_reg (by assumption)), parT_snoc (by assumption) ?_⟩; rw [step_eq (hasC_reg (by assumption)) (by assumption)]; simp_all; (try omega)) (by show ds.length - (k + 1) < ds.length - k; omega) (weak_of id [7, 8, 12, 20, 35, 44, 49, 54, 60, 67, 73, 77, 80] (by kernel_rfl) (wk_s (v' := V.b (.a (.slv ds.length 3 (dsl ds)))) (by kernel_rfl) rfl rfl (wk_s (v' := V.p 2 0) (by kernel_rfl) rfl rfl (wk_s (v' := V.b (.a (.sl 9 0 ((bitsL (covS (ds.take k))).length)))) (by kernel_rfl) (vsl (by first | rfl | (simp; done) | (simp; omega) | omega | (exact congrArg List.length (by first | rfl | (rw [bits_step (by omega) (by assumption)]) | exact bits_cov0 _ | exact (bits_cov0 _).symm | omega))) rfl) rfl (wk_s (v' := V.v (.int .i64 (((k : Nat) : Int) + 1))) (by kernel_rfl) (vint (by first | rfl | (rw [bits_step (by omega) (by assumption)]) | exact bits_cov0 _ | exact (bits_cov0 _).symm | omega)) rfl (wk_o (o' := ⟨29, 1, true, [(.slv l.length 1 (isl l) : A)]⟩) (by kernel_rfl) (renob_l (fun h => h) rfl rfl) rfl (wk_o (o' := ⟨4, 1, true, pl (bsl (((bitsL (covS (ds.take k))).set (idx (ca (gD ds k))) true).set (idx (cb (gD ds k))) true))⟩) (by kernel_rfl) (renob_eq (fun h => h) (congrArg bsl (by first | rfl | (rw [bits_step (by omega) (by assumption)]) | exact bits_cov0 _ | exact (bits_cov0 _).symm | omega))) rfl (wk_f rfl (wk_f rfl (wk_f rfl (wk_f rfl (wk_f rfl (wk_f rfl (wk_f rfl (wk_f rfl (wk_f rfl (wk_f rfl (wk_f rfl (wk_f rfl (wk_f rfl (wk_nil)))))))))))))))))))))
          · skip
            refine wp_region_t ?_
            refine wpc (step_plain rfl (acts_load_owns (d := 47) (t := 2) (h := 2) (off := 0) (o := ⟨29, 1, true, [(.slv l.length 1 (isl l) : A)]⟩)  (xs := [(.slv l.length 1 (isl l) : A)]) (ltN rfl) qC3_ti_29 rfl (by decide) rfl)) (by kernel_rfl) ?_
            refine wpc (step_plain rfl (acts_load_owns (d := 48) (t := 7) (h := 7) (off := 0) (o := ⟨49, 2, true, [(.val (.int .i64 ((ca (gD ds k)).x)) : A), .val (.int .i64 ((ca (gD ds k)).y))]⟩)  (xs := [(.int .i64 ((ca (gD ds k)).x) : Value), .int .i64 ((ca (gD ds k)).y)].map A.val) (ltN rfl) qC3_ti_49 rfl (by decide) rfl)) (by kernel_rfl) ?_
            refine wpc (step_plain rfl (acts_call1 (d := 49) (ltN rfl) (spec_HasCell_fn l (ca (gD ds k)) (by first | omega | assumption | exact ok_ca (by assumption) | exact ok_cb (by assumption) | (have := idx_lt (ok_ca (d := gD ds k) (by assumption)); have := idx_lt (ok_cb (d := gD ds k) (by assumption)); simp [bitsL_len] at *; omega))) (ArgVs.cons (ArgV.regv 47 l.length 1 (isl l)) (ArgVs.cons (ArgV.va (vs := [(.int .i64 ((ca (gD ds k)).x) : Value), .int .i64 ((ca (gD ds k)).y)]) (OpV.agg 48 [(.int .i64 ((ca (gD ds k)).x) : Value), .int .i64 ((ca (gD ds k)).y)])) (ArgVs.nil))) ((resval (congrArg Value.bool c12))))) (by kernel_rfl) ?_
            refine wpc (step_plain rfl (acts_un (d := 50) (ltN rfl) (OpV.tmp 49 (.bool true)) (r_not (c := false) rfl))) (by kernel_rfl) ?_
            refine wpc (step_plain rfl (acts_move (d := 51) (ltN rfl) (OpX.tmp 50 (V.v (.bool false))))) (by kernel_rfl) ?_
            refine wpc (step_on (dj := 51) rfl rfl (acts_load_owns (d := 52) (t := 2) (h := 2) (off := 0) (o := ⟨29, 1, true, [(.slv l.length 1 (isl l) : A)]⟩)  (xs := [(.slv l.length 1 (isl l) : A)]) (ltN rfl) qC3_ti_29 rfl (by decide) rfl)) (by kernel_rfl) ?_
            refine wpc (step_on (dj := 51) rfl rfl (acts_load_owns (d := 53) (t := 8) (h := 8) (off := 0) (o := ⟨49, 2, true, [(.val (.int .i64 ((cb (gD ds k)).x)) : A), .val (.int .i64 ((cb (gD ds k)).y))]⟩)  (xs := [(.int .i64 ((cb (gD ds k)).x) : Value), .int .i64 ((cb (gD ds k)).y)].map A.val) (ltN rfl) qC3_ti_49 rfl (by decide) rfl)) (by kernel_rfl) ?_
            refine wpc (step_on (dj := 51) rfl rfl (acts_call1 (d := 54) (ltN rfl) (spec_HasCell_fn l (cb (gD ds k)) (by first | omega | assumption | exact ok_ca (by assumption) | exact ok_cb (by assumption) | (have := idx_lt (ok_ca (d := gD ds k) (by assumption)); have := idx_lt (ok_cb (d := gD ds k) (by assumption)); simp [bitsL_len] at *; omega))) (ArgVs.cons (ArgV.regv 52 l.length 1 (isl l)) (ArgVs.cons (ArgV.va (vs := [(.int .i64 ((cb (gD ds k)).x) : Value), .int .i64 ((cb (gD ds k)).y)]) (OpV.agg 53 [(.int .i64 ((cb (gD ds k)).x) : Value), .int .i64 ((cb (gD ds k)).y)])) (ArgVs.nil))) ((resval (congrArg Value.bool c13))))) (by kernel_rfl) ?_
            refine wpc (step_on (dj := 51) rfl rfl (acts_un (d := 55) (ltN rfl) (OpV.tmp 54 (.bool false)) (r_not (c := true) rfl))) (by kernel_rfl) ?_
            refine wpc (step_plain rfl (acts_pick_f (d := 56) (ltN rfl) (OpV.tmp 51 (.bool false)) (OpX.tmp 55 (V.v (.bool true))))) (by kernel_rfl) ?_
            refine wpc (step_plain rfl (acts_move (d := 57) (ltN rfl) (OpX.tmp 56 (V.v (.bool true))))) (by kernel_rfl) ?_
            refine wpc (step_off (dj := 57) (b' := true) rfl rfl (by decide) rfl (ltN rfl)) (by kernel_rfl) ?_
            refine wpc (step_off (dj := 57) (b' := true) rfl rfl (by decide) rfl (ltN rfl)) (by kernel_rfl) ?_
            refine wpc (step_off (dj := 57) (b' := true) rfl rfl (by decide) rfl (ltN rfl)) (by kernel_rfl) ?_
            refine wpc (step_off (dj := 57) (b' := true) rfl rfl (by decide) rfl (ltN rfl)) (by kernel_rfl) ?_
            refine wpc (step_off (dj := 57) (b' := true) rfl rfl (by decide) rfl (ltN rfl)) (by kernel_rfl) ?_
            refine wpc (step_plain rfl (acts_pick_t (d := 63) (ltN rfl) (OpV.tmp 57 (.bool true)) (OpX.const (.bool true)))) (by kernel_rfl) ?_
            refine wpc (step_plain rfl (acts_move (d := 64) (ltN rfl) (OpX.tmp 63 (V.v (.bool true))))) (by kernel_rfl) ?_
            refine wpc (step_off (dj := 64) (b' := true) rfl rfl (by decide) rfl (ltN rfl)) (by kernel_rfl) ?_
            refine wpc (step_off (dj := 64) (b' := true) rfl rfl (by decide) rfl (ltN rfl)) (by kernel_rfl) ?_
            refine wpc (step_off (dj := 64) (b' := true) rfl rfl (by decide) rfl (ltN rfl)) (by kernel_rfl) ?_
            refine wpc (step_off (dj := 64) (b' := true) rfl rfl (by decide) rfl (ltN rfl)) (by kernel_rfl) ?_
            refine wpc (step_off (dj := 64) (b' := true) rfl rfl (by decide) rfl (ltN rfl)) (by kernel_rfl) ?_
            refine wpc (step_plain rfl (acts_pick_t (d := 70) (ltN rfl) (OpV.tmp 64 (.bool true)) (OpX.const (.bool true)))) (by kernel_rfl) ?_
            refine wpl_nil ?_
            refine wp_if_t (t := 70) (by kernel_rfl) ?_
            refine wp_seq' ?_
            refine wp_region_t ?_
            refine wpc (step_plain rfl (acts_assign (d := 4) (ltN rfl) (OpX.const (.bool false)))) (by kernel_rfl) ?_
            refine wpl_nil ?_
            refine wp_ret' ?_
            exact VRes.tmp 4 (.a (.val (.bool false))) _ (by kernel_rfl) (bval (congrArg Value.bool (by first | (refine (isPar_no' (k := k) (by omega) (fun hr => ?_)).symm; first | (rw [step_eq hr (by assumption)]; simp_all; done) | (rw [step_eq hr (by assumption)]; simp_all; omega) | (unfold stepOk; simp_all; done)) | exact isPar_end (by omega) (by omega) (by assumption))))
        · skip
          refine wp_region_t ?_
          refine wpc (step_plain rfl (acts_load_owns (d := 47) (t := 2) (h := 2) (off := 0) (o := ⟨29, 1, true, [(.slv l.length 1 (isl l) : A)]⟩)  (xs := [(.slv l.length 1 (isl l) : A)]) (ltN rfl) qC3_ti_29 rfl (by decide) rfl)) (by kernel_rfl) ?_
          refine wpc (step_plain rfl (acts_load_owns (d := 48) (t := 7) (h := 7) (off := 0) (o := ⟨49, 2, true, [(.val (.int .i64 ((ca (gD ds k)).x)) : A), .val (.int .i64 ((ca (gD ds k)).y))]⟩)  (xs := [(.int .i64 ((ca (gD ds k)).x) : Value), .int .i64 ((ca (gD ds k)).y)].map A.val) (ltN rfl) qC3_ti_49 rfl (by decide) rfl)) (by kernel_rfl) ?_
          refine wpc (step_plain rfl (acts_call1 (d := 49) (ltN rfl) (spec_HasCell_fn l (ca (gD ds k)) (by first | omega | assumption | exact ok_ca (by assumption) | exact ok_cb (by assumption) | (have := idx_lt (ok_ca (d := gD ds k) (by assumption)); have := idx_lt (ok_cb (d := gD ds k) (by assumption)); simp [bitsL_len] at *; omega))) (ArgVs.cons (ArgV.regv 47 l.length 1 (isl l)) (ArgVs.cons (ArgV.va (vs := [(.int .i64 ((ca (gD ds k)).x) : Value), .int .i64 ((ca (gD ds k)).y)]) (OpV.agg 48 [(.int .i64 ((ca (gD ds k)).x) : Value), .int .i64 ((ca (gD ds k)).y)])) (ArgVs.nil))) ((resval (congrArg Value.bool c12))))) (by kernel_rfl) ?_
          refine wpc (step_plain rfl (acts_un (d := 50) (ltN rfl) (OpV.tmp 49 (.bool false)) (r_not (c := true) rfl))) (by kernel_rfl) ?_
          refine wpc (step_plain rfl (acts_move (d := 51) (ltN rfl) (OpX.tmp 50 (V.v (.bool true))))) (by kernel_rfl) ?_
          refine wpc (step_off (dj := 51) (b' := true) rfl rfl (by decide) rfl (ltN rfl)) (by kernel_rfl) ?_
          refine wpc (step_off (dj := 51) (b' := true) rfl rfl (by decide) rfl (ltN rfl)) (by kernel_rfl) ?_
          refine wpc (step_off (dj := 51) (b' := true) rfl rfl (by decide) rfl (ltN rfl)) (by kernel_rfl) ?_
          refine wpc (step_off (dj := 51) (b' := true) rfl rfl (by decide) rfl (ltN rfl)) (by kernel_rfl) ?_
          refine wpc (step_plain rfl (acts_pick_t (d := 56) (ltN rfl) (OpV.tmp 51 (.bool true)) (OpX.const (.bool true)))) (by kernel_rfl) ?_
          refine wpc (step_plain rfl (acts_move (d := 57) (ltN rfl) (OpX.tmp 56 (V.v (.bool true))))) (by kernel_rfl) ?_
          refine wpc (step_off (dj := 57) (b' := true) rfl rfl (by decide) rfl (ltN rfl)) (by kernel_rfl) ?_
          refine wpc (step_off (dj := 57) (b' := true) rfl rfl (by decide) rfl (ltN rfl)) (by kernel_rfl) ?_
          refine wpc (step_off (dj := 57) (b' := true) rfl rfl (by decide) rfl (ltN rfl)) (by kernel_rfl) ?_
          refine wpc (step_off (dj := 57) (b' := true) rfl rfl (by decide) rfl (ltN rfl)) (by kernel_rfl) ?_
          refine wpc (step_off (dj := 57) (b' := true) rfl rfl (by decide) rfl (ltN rfl)) (by kernel_rfl) ?_
          refine wpc (step_plain rfl (acts_pick_t (d := 63) (ltN rfl) (OpV.tmp 57 (.bool true)) (OpX.const (.bool true)))) (by kernel_rfl) ?_
          refine wpc (step_plain rfl (acts_move (d := 64) (ltN rfl) (OpX.tmp 63 (V.v (.bool true))))) (by kernel_rfl) ?_
          refine wpc (step_off (dj := 64) (b' := true) rfl rfl (by decide) rfl (ltN rfl)) (by kernel_rfl) ?_
          refine wpc (step_off (dj := 64) (b' := true) rfl rfl (by decide) rfl (ltN rfl)) (by kernel_rfl) ?_
          refine wpc (step_off (dj := 64) (b' := true) rfl rfl (by decide) rfl (ltN rfl)) (by kernel_rfl) ?_
          refine wpc (step_off (dj := 64) (b' := true) rfl rfl (by decide) rfl (ltN rfl)) (by kernel_rfl) ?_
          refine wpc (step_off (dj := 64) (b' := true) rfl rfl (by decide) rfl (ltN rfl)) (by kernel_rfl) ?_
          refine wpc (step_plain rfl (acts_pick_t (d := 70) (ltN rfl) (OpV.tmp 64 (.bool true)) (OpX.const (.bool true)))) (by kernel_rfl) ?_
          refine wpl_nil ?_
          refine wp_if_t (t := 70) (by kernel_rfl) ?_
          refine wp_seq' ?_
          refine wp_region_t ?_
          refine wpc (step_plain rfl (acts_assign (d := 4) (ltN rfl) (OpX.const (.bool false)))) (by kernel_rfl) ?_
          refine wpl_nil ?_
          refine wp_ret' ?_
          exact VRes.tmp 4 (.a (.val (.bool false))) _ (by kernel_rfl) (bval (congrArg Value.bool (by first | (refine (isPar_no' (k := k) (by omega) (fun hr => ?_)).symm; first | (rw [step_eq hr (by assumption)]; simp_all; done) | (rw [step_eq hr (by assumption)]; simp_all; omega) | (unfold stepOk; simp_all; done)) | exact isPar_end (by omega) (by omega) (by assumption))))
    · skip
      refine wp_drawn' (by kernel_rfl) (AllSteps.cons (step_plain rfl (acts_move (d := 16) (ltN rfl) (OpX.tmp 1 (V.b (.a (.slv ds.length 3 (dsl ds))))))) (AllSteps.cons (step_plain rfl (acts_move (d := 17) (ltN rfl) (OpX.tmp 6 (V.v (.int .i64 ((k : Nat) : Int)))))) (AllSteps.cons (step_plain rfl (acts_index_v (d := 18) (x := 16) (n := ds.length) (s := 3) (k := k) (xs := dsl ds) (ltN rfl) qC3_un_31 qC3_sz_52 (OpV.tmp 17 (.int .i64 ((k : Nat) : Int))) rfl (by first | omega | assumption | exact ok_ca (by assumption) | exact ok_cb (by assumption) | (have := idx_lt (ok_ca (d := gD ds k) (by assumption)); have := idx_lt (ok_cb (d := gD ds k) (by assumption)); simp [bitsL_len] at *; omega)))) (AllSteps.cons (step_plain rfl (acts_load_vs (d := 19) (t := 18) (s := 3) (off := (k * 3)) (xs := dsl ds)  (vs := [(.int .i64 ((gD ds k).x) : Value), .int .i64 ((gD ds k).y), .bool ((gD ds k).d)]) (ltN rfl) qC3_ti_52 rfl (dsl_at (k := k) (by first | omega | assumption | exact ok_ca (by assumption) | exact ok_cb (by assumption) | (have := idx_lt (ok_ca (d := gD ds k) (by assumption)); have := idx_lt (ok_cb (d := gD ds k) (by assumption)); simp [bitsL_len] at *; omega))))) (AllSteps.cons (step_plain rfl (acts_call1 (d := 20) (ltN rfl) (spec_DominoOk_fn (gD ds k) ) (ArgVs.cons (ArgV.va (vs := [(.int .i64 ((gD ds k).x) : Value), .int .i64 ((gD ds k).y), .bool ((gD ds k).d)]) (OpV.agg 19 [(.int .i64 ((gD ds k).x) : Value), .int .i64 ((gD ds k).y), .bool ((gD ds k).d)])) (ArgVs.nil)) ((resval (congrArg Value.bool c3))))) (AllSteps.cons (step_plain rfl (acts_un (d := 21) (ltN rfl) (OpV.tmp 20 (.bool false)) (r_not (c := true) rfl))) (AllSteps.cons (step_plain rfl (acts_move (d := 22) (ltN rfl) (OpX.tmp 21 (V.v (.bool true))))) (AllSteps.cons (step_off (dj := 22) (b' := true) rfl rfl (by decide) rfl (ltN rfl)) (AllSteps.cons (step_off (dj := 22) (b' := true) rfl rfl (by decide) rfl (ltN rfl)) (AllSteps.cons (step_offu (dj := 22) (b' := true) rfl rfl (by decide) rfl (ltN rfl)) (AllSteps.cons (step_offx (dj := 25) rfl rfl rfl (ltN rfl)) (AllSteps.cons (step_offx (dj := 25) rfl rfl rfl (ltN rfl)) (AllSteps.cons (step_offx (dj := 25) rfl rfl rfl (ltN rfl)) (AllSteps.cons (step_offx (dj := 25) rfl rfl rfl (ltN rfl)) (AllSteps.cons (step_offx (dj := 25) rfl rfl rfl (ltN rfl)) (AllSteps.cons (step_offx (dj := 25) rfl rfl rfl (ltN rfl)) (AllSteps.cons (step_offx (dj := 25) rfl rfl rfl (ltN rfl)) (AllSteps.cons (step_offx (dj := 25) rfl rfl rfl (ltN rfl)) (AllSteps.cons (step_offx (dj := 25) rfl rfl rfl (ltN rfl)) (AllSteps.cons (step_offx (dj := 25) rfl rfl rfl (ltN rfl)) (AllSteps.cons (step_offx (dj := 25) rfl rfl rfl (ltN rfl)) (AllSteps.cons (step_off (dj := 22) (b' := true) rfl rfl (by decide) rfl (ltN rfl)) (AllSteps.cons (step_plain rfl (acts_pick_t (d := 38) (ltN rfl) (OpV.tmp 22 (.bool true)) (OpX.const (.bool true)))) (AllSteps.nil)))))))))))))))))))))))) (by kernel_rfl) (by kernel_rfl) (by kernel_rfl) ?_
      refine wp_if_t (t := 38) (by kernel_rfl) ?_
      refine wp_seq' ?_
      refine wp_region_t ?_
      refine wpc (step_plain rfl (acts_assign (d := 4) (ltN rfl) (OpX.const (.bool false)))) (by kernel_rfl) ?_
      refine wpl_nil ?_
      refine wp_ret' ?_
      exact VRes.tmp 4 (.a (.val (.bool false))) _ (by kernel_rfl) (bval (congrArg Value.bool (by first | (refine (isPar_no' (k := k) (by omega) (fun hr => ?_)).symm; first | (rw [step_eq hr (by assumption)]; simp_all; done) | (rw [step_eq hr (by assumption)]; simp_all; omega) | (unfold stepOk; simp_all; done)) | exact isPar_end (by omega) (by omega) (by assumption))))
  · skip
    have c2P := of_decide_eq_false c2
    refine wp_exit' ?_
    refine wp_seq' ?_
    refine wp_region_t ?_
    refine wpc (step_plain rfl (acts_load_owns (d := 79) (t := 2) (h := 2) (off := 0) (o := ⟨29, 1, true, [(.slv l.length 1 (isl l) : A)]⟩)  (xs := [(.slv l.length 1 (isl l) : A)]) (ltN rfl) qC3_ti_29 rfl (by decide) rfl)) (by kernel_rfl) ?_
    refine wpc (step_plain rfl (acts_call1 (d := 80) (ltN rfl) (spec_RegionOk_fn l (by first | omega | assumption | exact ok_ca (by assumption) | exact ok_cb (by assumption) | (have := idx_lt (ok_ca (d := gD ds k) (by assumption)); have := idx_lt (ok_cb (d := gD ds k) (by assumption)); simp [bitsL_len] at *; omega))) (ArgVs.cons (ArgV.regv 79 l.length 1 (isl l)) (ArgVs.nil)) (ResV.val _))) (by kernel_rfl) ?_
    refine wpc (step_plain rfl (acts_assign (d := 4) (ltN rfl) (OpX.tmp 80 (V.v (.bool (regOk l)))))) (by kernel_rfl) ?_
    refine wpl_nil ?_
    refine wp_ret' ?_
    exact VRes.tmp 4 (.a (.val (.bool (regOk l)))) _ (by kernel_rfl) (bval (congrArg Value.bool (by first | (refine (isPar_no' (k := k) (by omega) (fun hr => ?_)).symm; first | (rw [step_eq hr (by assumption)]; simp_all; done) | (rw [step_eq hr (by assumption)]; simp_all; omega) | (unfold stepOk; simp_all; done)) | exact isPar_end (by omega) (by omega) (by assumption))))

set_option maxHeartbeats 4000000 in
set_option maxRecDepth 100000 in
theorem spec_DominoAt_fn (ds : List Dom) (c : Cel) (hd : ds.length ≤ 2097152) : Fn Try.prog 73 [.a (.slv ds.length 3 (dsl ds)), .agg ([(.int .i64 c.x : Value), .int .i64 c.y].map A.val)] [.val (.int .i64 (atD ds c))] := by
  refine fn_intro (N := 37) Try.func73 rfl (by kernel_rfl) rfl (Nat.le_of_ble_eq_true rfl) [3, 6, 7, 10, 18, 25] (ret1 rfl) (fun W => ?_)
  show Wp _ _ _ [(.s 0, some (.s (V.b (.a (.slv ds.length 3 (dsl ds)))))), (.s 1, some (.s (V.av [(.int .i64 c.x : Value), .int .i64 c.y]))), (.o 3, some .free), (.o 6, some .free), (.o 7, some .free), (.o 10, some .free), (.o 18, some .free), (.o 25, some .free)]
  refine wp_seq' ?_
  refine wp_region_t ?_
  refine wpc (step_plain rfl (acts_box (d := 3) (h := 3) (b := .agg ([(.int .i64 c.x : Value), .int .i64 c.y].map A.val)) (ltN rfl) (OpX.tmp 1 (V.av [(.int .i64 c.x : Value), .int .i64 c.y])) (by intro y hy; simp [B.cs] at hy; rcases hy with rfl | rfl <;> rfl))) (by kernel_rfl) ?_
  refine wpc (step_plain rfl (acts_assign (d := 4) (ltN rfl) (OpX.const (.int .i64 0)))) (by kernel_rfl) ?_
  refine wpl_nil ?_
  refine wp_seq' ?_
  refine wp_seq' ?_
  refine wp_region_t ?_
  refine wpc (step_plain rfl (acts_assign (d := 5) (ltN rfl) (OpX.const (.int .i64 0)))) (by kernel_rfl) ?_
  refine wpl_nil ?_
  refine wp_block' ?_
  refine wp_loop' (fun (k : Nat) => k ≤ ds.length ∧ (ds.take k).any (cvr c) = false) (fun (k : Nat) => [(.s 0, some (.s (V.b (.a (.slv ds.length 3 (dsl ds)))))), (.s 3, some (.s (V.p 3 0))), (.s 5, some (.s (V.v (.int .i64 ((k : Nat) : Int))))), (.o 3, some (.o ⟨49, 2, true, [(.val (.int .i64 c.x) : A), .val (.int .i64 c.y)]⟩)), (.o 6, some .free), (.o 7, some .free), (.o 10, some .free), (.o 18, some .free), (.o 25, some .free)]) (fun (k : Nat) => ds.length - k) ((0 : Nat)) (by exact ⟨Nat.zero_le _, rfl⟩) (weak_of id [6, 7, 10, 18, 25] (by kernel_rfl) (wk_s (v' := V.b (.a (.slv ds.length 3 (dsl ds)))) (by kernel_rfl) rfl rfl (wk_s (v' := V.p 3 0) (by kernel_rfl) rfl rfl (wk_s (v' := V.v (.int .i64 0)) (by kernel_rfl) (vint (by first | rfl | omega | (simp; done) | (simp; omega))) rfl (wk_o (o' := ⟨49, 2, true, [(.val (.int .i64 c.x) : A), .val (.int .i64 c.y)]⟩) (by kernel_rfl) (renob_l (fun h => h) rfl rfl) rfl (wk_f rfl (wk_f rfl (wk_f rfl (wk_f rfl (wk_f rfl (wk_nil))))))))))) ?_
  rintro k inv1
  replace inv1 : k ≤ ds.length ∧ (ds.take k).any (cvr c) = false := inv1
  obtain ⟨inv1_0, inv1_1⟩ := inv1
  show Wp _ _ _ [(.s 0, some (.s (V.b (.a (.slv ds.length 3 (dsl ds)))))), (.s 3, some (.s (V.p 3 0))), (.s 5, some (.s (V.v (.int .i64 ((k : Nat) : Int))))), (.o 3, some (.o ⟨49, 2, true, [(.val (.int .i64 c.x) : A), .val (.int .i64 c.y)]⟩)), (.o 6, some .free), (.o 7, some .free), (.o 10, some .free), (.o 18, some .free), (.o 25, some .free)]
  refine wp_seq' ?_
  refine wp_seq' ?_
  refine wp_region_t ?_
  refine wpc (step_plain rfl (acts_move (d := 8) (ltN rfl) (OpX.tmp 5 (V.v (.int .i64 ((k : Nat) : Int)))))) (by kernel_rfl) ?_
  refine wpc (step_plain rfl (acts_move (d := 9) (ltN rfl) (OpX.tmp 0 (V.b (.a (.slv ds.length 3 (dsl ds))))))) (by kernel_rfl) ?_
  refine wpc (step_plain rfl (acts_len (d := 10) (X := .slv ds.length 3 (dsl ds)) (n := ds.length) (iv := ((ds.length : Nat) : Int)) (ltN rfl) qC3_un_31 (OpX.tmp 9 (V.b (.a (.slv ds.length 3 (dsl ds))))) (LenOf.slv _ _ _) rfl)) (by kernel_rfl) ?_
  refine wpc (step_plain rfl (acts_bin (d := 11) (ltN rfl) (OpV.tmp 8 (.int .i64 ((k : Nat) : Int))) (OpV.tmp 10 (.int .i64 ((ds.length : Nat) : Int))) (r_lss (c := (decide (((k : Nat) : Int) < ((ds.length : Nat) : Int)))) rfl))) (by kernel_rfl) ?_
  refine wpl_nil ?_
  refine wp_if (t := 11) (decide (((k : Nat) : Int) < ((ds.length : Nat) : Int))) (by kernel_rfl) (fun c2 => ?_) (fun c2 => ?_)
  · skip
    have c2P := of_decide_eq_true c2
    refine wp_skip' ?_
    refine wp_seq' ?_
    refine wp_block' ?_
    refine wp_seq' ?_
    refine wp_seq' ?_
    refine wp_region_t ?_
    refine wpc (step_plain rfl (acts_move (d := 14) (ltN rfl) (OpX.tmp 0 (V.b (.a (.slv ds.length 3 (dsl ds))))))) (by kernel_rfl) ?_
    refine wpc (step_plain rfl (acts_move (d := 15) (ltN rfl) (OpX.tmp 5 (V.v (.int .i64 ((k : Nat) : Int)))))) (by kernel_rfl) ?_
    refine wpc (step_plain rfl (acts_index_v (d := 16) (x := 14) (n := ds.length) (s := 3) (k := k) (xs := dsl ds) (ltN rfl) qC3_un_31 qC3_sz_52 (OpV.tmp 15 (.int .i64 ((k : Nat) : Int))) rfl (by first | omega | assumption))) (by kernel_rfl) ?_
    refine wpc (step_plain rfl (acts_load_vs (d := 17) (t := 16) (s := 3) (off := (k * 3)) (xs := dsl ds)  (vs := [(.int .i64 ((gD ds k).x) : Value), .int .i64 ((gD ds k).y), .bool ((gD ds k).d)]) (ltN rfl) qC3_ti_52 rfl (dsl_at (k := k) (by first | omega | assumption)))) (by kernel_rfl) ?_
    refine wpc (step_plain rfl (acts_call1 (d := 18) (ltN rfl) (spec_DominoOk_fn (gD ds k) ) (ArgVs.cons (ArgV.va (vs := [(.int .i64 ((gD ds k).x) : Value), .int .i64 ((gD ds k).y), .bool ((gD ds k).d)]) (OpV.agg 17 [(.int .i64 ((gD ds k).x) : Value), .int .i64 ((gD ds k).y), .bool ((gD ds k).d)])) (ArgVs.nil)) (ResV.val _))) (by kernel_rfl) ?_
    refine wpc (step_plain rfl (acts_un (d := 19) (ltN rfl) (OpV.tmp 18 (.bool (okD (gD ds k)))) (r_not (c := (!(okD (gD ds k)))) rfl))) (by kernel_rfl) ?_
    refine wpl_nil ?_
    refine wp_if (t := 19) ((!(okD (gD ds k)))) (by kernel_rfl) (fun c3 => ?_) (fun c3 => ?_)
    · skip
      have c4 : (okD (gD ds k)) = false := by simpa using c3
      refine wp_exit' ?_
      refine wp_region_t ?_
      refine wpc (step_plain rfl (acts_move (d := 12) (ltN rfl) (OpX.tmp 5 (V.v (.int .i64 ((k : Nat) : Int)))))) (by kernel_rfl) ?_
      refine wpc (step_plain rfl (acts_bin (d := 13) (ltN rfl) (OpV.tmp 12 (.int .i64 ((k : Nat) : Int))) (OpV.const (.int .i64 1)) (r_add (c := (((k : Nat) : Int) + 1)) (w64 (by first | omega | assumption) (by first | omega | assumption))))) (by kernel_rfl) ?_
      refine wpc (step_plain rfl (acts_assign (d := 5) (ltN rfl) (OpX.tmp 13 (V.v (.int .i64 (((k : Nat) : Int) + 1)))))) (by kernel_rfl) ?_
      refine wpl_nil ?_
      exact loop_back ((k + 1)) (by refine ⟨by omega, any_snocD (by omega) (by assumption) ?_⟩; unfold cvr; simp_all [cEq_cel]) (by show ds.length - (k + 1) < ds.length - k; omega) (weak_of id [6, 7, 10, 18, 25] (by kernel_rfl) (wk_s (v' := V.b (.a (.slv ds.length 3 (dsl ds)))) (by kernel_rfl) rfl rfl (wk_s (v' := V.p 3 0) (by kernel_rfl) rfl rfl (wk_s (v' := V.v (.int .i64 (((k : Nat) : Int) + 1))) (by kernel_rfl) (vint (by first | rfl | omega | (simp; done) | (simp; omega))) rfl (wk_o (o' := ⟨49, 2, true, [(.val (.int .i64 c.x) : A), .val (.int .i64 c.y)]⟩) (by kernel_rfl) (renob_l (fun h => h) rfl rfl) rfl (wk_f rfl (wk_f rfl (wk_f rfl (wk_f rfl (wk_f rfl (wk_nil)))))))))))
    · skip
      have c5 : (okD (gD ds k)) = true := by simpa using c3
      refine wp_skip' ?_
      refine wp_seq' ?_
      refine wp_region_t ?_
      refine wpc (step_plain rfl (acts_move (d := 21) (ltN rfl) (OpX.tmp 0 (V.b (.a (.slv ds.length 3 (dsl ds))))))) (by kernel_rfl) ?_
      refine wpc (step_plain rfl (acts_move (d := 22) (ltN rfl) (OpX.tmp 5 (V.v (.int .i64 ((k : Nat) : Int)))))) (by kernel_rfl) ?_
      refine wpc (step_plain rfl (acts_index_v (d := 23) (x := 21) (n := ds.length) (s := 3) (k := k) (xs := dsl ds) (ltN rfl) qC3_un_31 qC3_sz_52 (OpV.tmp 22 (.int .i64 ((k : Nat) : Int))) rfl (by first | omega | assumption))) (by kernel_rfl) ?_
      refine wpc (step_plain rfl (acts_load_vs (d := 24) (t := 23) (s := 3) (off := (k * 3)) (xs := dsl ds)  (vs := [(.int .i64 ((gD ds k).x) : Value), .int .i64 ((gD ds k).y), .bool ((gD ds k).d)]) (ltN rfl) qC3_ti_52 rfl (dsl_at (k := k) (by first | omega | assumption)))) (by kernel_rfl) ?_
      refine wpc (step_plain rfl (acts_call2 (d := 25) (ltN rfl) (spec_CellsUnder_fn (gD ds k) (by first | omega | assumption)) (ArgVs.cons (ArgV.va (vs := [(.int .i64 ((gD ds k).x) : Value), .int .i64 ((gD ds k).y), .bool ((gD ds k).d)]) (OpV.agg 24 [(.int .i64 ((gD ds k).x) : Value), .int .i64 ((gD ds k).y), .bool ((gD ds k).d)])) (ArgVs.nil)) (ResV.agg [(.int .i64 ((ca (gD ds k)).x) : Value), .int .i64 ((ca (gD ds k)).y)]) (ResV.agg [(.int .i64 ((cb (gD ds k)).x) : Value), .int .i64 ((cb (gD ds k)).y)]))) (by kernel_rfl) ?_
      refine wpc (step_plain rfl (acts_move (d := 20) (ltN rfl) (OpX.tmp 25 (V.tup [.agg ([(.int .i64 ((ca (gD ds k)).x) : Value), .int .i64 ((ca (gD ds k)).y)].map A.val), .agg ([(.int .i64 ((cb (gD ds k)).x) : Value), .int .i64 ((cb (gD ds k)).y)].map A.val)])))) (by kernel_rfl) ?_
      refine wpc (step_plain rfl (acts_extract (d := 26) (t := 20) (ix := 0) (xs := [.agg ([(.int .i64 ((ca (gD ds k)).x) : Value), .int .i64 ((ca (gD ds k)).y)].map A.val), .agg ([(.int .i64 ((cb (gD ds k)).x) : Value), .int .i64 ((cb (gD ds k)).y)].map A.val)]) (X := .agg ([(.int .i64 ((ca (gD ds k)).x) : Value), .int .i64 ((ca (gD ds k)).y)].map A.val)) (ltN rfl) rfl)) (by kernel_rfl) ?_
      refine wpc (step_plain rfl (acts_extract (d := 27) (t := 20) (ix := 1) (xs := [.agg ([(.int .i64 ((ca (gD ds k)).x) : Value), .int .i64 ((ca (gD ds k)).y)].map A.val), .agg ([(.int .i64 ((cb (gD ds k)).x) : Value), .int .i64 ((cb (gD ds k)).y)].map A.val)]) (X := .agg ([(.int .i64 ((cb (gD ds k)).x) : Value), .int .i64 ((cb (gD ds k)).y)].map A.val)) (ltN rfl) rfl)) (by kernel_rfl) ?_
      refine wpc (step_plain rfl (acts_alloc' (d := 6) (h := 6) (cap := 1) (s := 2) (cells := [(.val (.int .i64 0) : A), .val (.int .i64 0)]) (ltN rfl) qC3_zi_49 rfl rfl (by decide))) (by kernel_rfl) ?_
      refine wpc (step_plain rfl (acts_alloc' (d := 7) (h := 7) (cap := 1) (s := 2) (cells := [(.val (.int .i64 0) : A), .val (.int .i64 0)]) (ltN rfl) qC3_zi_49 rfl rfl (by decide))) (by kernel_rfl) ?_
      refine wpc (step_plain rfl (acts_store (t := 6) (h := 6) (off := 0) (o := ⟨49, 2, true, [(.val (.int .i64 0) : A), .val (.int .i64 0)]⟩) (b := .agg ([(.int .i64 ((ca (gD ds k)).x) : Value), .int .i64 ((ca (gD ds k)).y)].map A.val)) (cells := [(.val (.int .i64 ((ca (gD ds k)).x)) : A), .val (.int .i64 ((ca (gD ds k)).y))]) qC3_ti_49 (OpX.tmp 26 (V.av [(.int .i64 ((ca (gD ds k)).x) : Value), .int .i64 ((ca (gD ds k)).y)])) rfl (by decide) (by intro y hy; simp [B.cs] at hy; rcases hy with rfl | rfl <;> rfl) (Nat.le_of_ble_eq_true rfl) rfl)) (by kernel_rfl) ?_
      refine wpc (step_plain rfl (acts_store (t := 7) (h := 7) (off := 0) (o := ⟨49, 2, true, [(.val (.int .i64 0) : A), .val (.int .i64 0)]⟩) (b := .agg ([(.int .i64 ((cb (gD ds k)).x) : Value), .int .i64 ((cb (gD ds k)).y)].map A.val)) (cells := [(.val (.int .i64 ((cb (gD ds k)).x)) : A), .val (.int .i64 ((cb (gD ds k)).y))]) qC3_ti_49 (OpX.tmp 27 (V.av [(.int .i64 ((cb (gD ds k)).x) : Value), .int .i64 ((cb (gD ds k)).y)])) rfl (by decide) (by intro y hy; simp [B.cs] at hy; rcases hy with rfl | rfl <;> rfl) (Nat.le_of_ble_eq_true rfl) rfl)) (by kernel_rfl) ?_
      refine wpl_nil ?_
      refine wp_seq' ?_
      rcases Bool.eq_false_or_eq_true ((cEq ((ca (gD ds k)).x) ((ca (gD ds k)).y) c.x c.y)) with c6 | c6
      · skip
        refine wp_region_t ?_
        refine wpc (step_plain rfl (acts_load_owns (d := 28) (t := 6) (h := 6) (off := 0) (o := ⟨49, 2, true, [(.val (.int .i64 ((ca (gD ds k)).x)) : A), .val (.int .i64 ((ca (gD ds k)).y))]⟩)  (xs := [(.int .i64 ((ca (gD ds k)).x) : Value), .int .i64 ((ca (gD ds k)).y)].map A.val) (ltN rfl) qC3_ti_49 rfl (by decide) rfl)) (by kernel_rfl) ?_
        refine wpc (step_plain rfl (acts_load_owns (d := 29) (t := 3) (h := 3) (off := 0) (o := ⟨49, 2, true, [(.val (.int .i64 c.x) : A), .val (.int .i64 c.y)]⟩)  (xs := [(.int .i64 c.x : Value), .int .i64 c.y].map A.val) (ltN rfl) qC3_ti_49 rfl (by decide) rfl)) (by kernel_rfl) ?_
        refine wpc (step_plain rfl (acts_bin (d := 30) (ltN rfl) (OpV.agg 28 [(.int .i64 ((ca (gD ds k)).x) : Value), .int .i64 ((ca (gD ds k)).y)]) (OpV.agg 29 [(.int .i64 c.x : Value), .int .i64 c.y]) (r_aggeq qC3_eg_49 (fun w => (run_eql_cel ((ca (gD ds k)).x) ((ca (gD ds k)).y) c.x c.y w).trans (congrArg (fun z => Result.ok (Value.bool z) w) c6))))) (by kernel_rfl) ?_
        refine wpc (step_plain rfl (acts_move (d := 31) (ltN rfl) (OpX.tmp 30 (V.v (.bool true))))) (by kernel_rfl) ?_
        refine wpc (step_off (dj := 31) (b' := true) rfl rfl (by decide) rfl (ltN rfl)) (by kernel_rfl) ?_
        refine wpc (step_off (dj := 31) (b' := true) rfl rfl (by decide) rfl (ltN rfl)) (by kernel_rfl) ?_
        refine wpc (step_off (dj := 31) (b' := true) rfl rfl (by decide) rfl (ltN rfl)) (by kernel_rfl) ?_
        refine wpc (step_plain rfl (acts_pick_t (d := 35) (ltN rfl) (OpV.tmp 31 (.bool true)) (OpX.const (.bool true)))) (by kernel_rfl) ?_
        refine wpl_nil ?_
        refine wp_if_t (t := 35) (by kernel_rfl) ?_
        refine wp_seq' ?_
        refine wp_region_t ?_
        refine wpc (step_plain rfl (acts_move (d := 36) (ltN rfl) (OpX.tmp 5 (V.v (.int .i64 ((k : Nat) : Int)))))) (by kernel_rfl) ?_
        refine wpc (step_plain rfl (acts_assign (d := 4) (ltN rfl) (OpX.tmp 36 (V.v (.int .i64 ((k : Nat) : Int)))))) (by kernel_rfl) ?_
        refine wpl_nil ?_
        refine wp_ret' ?_
        exact VRes.tmp 4 (.a (.val (.int .i64 ((k : Nat) : Int)))) _ (by kernel_rfl) (bval (congrArg (Value.int .i64) (by first | exact atD_no (by omega) (by assumption) | (refine atD_yes (by omega) (by assumption) ?_; unfold cvr; simp_all [cEq_cel]))))
      · skip
        refine wp_region_t ?_
        refine wpc (step_plain rfl (acts_load_owns (d := 28) (t := 6) (h := 6) (off := 0) (o := ⟨49, 2, true, [(.val (.int .i64 ((ca (gD ds k)).x)) : A), .val (.int .i64 ((ca (gD ds k)).y))]⟩)  (xs := [(.int .i64 ((ca (gD ds k)).x) : Value), .int .i64 ((ca (gD ds k)).y)].map A.val) (ltN rfl) qC3_ti_49 rfl (by decide) rfl)) (by kernel_rfl) ?_
        refine wpc (step_plain rfl (acts_load_owns (d := 29) (t := 3) (h := 3) (off := 0) (o := ⟨49, 2, true, [(.val (.int .i64 c.x) : A), .val (.int .i64 c.y)]⟩)  (xs := [(.int .i64 c.x : Value), .int .i64 c.y].map A.val) (ltN rfl) qC3_ti_49 rfl (by decide) rfl)) (by kernel_rfl) ?_
        refine wpc (step_plain rfl (acts_bin (d := 30) (ltN rfl) (OpV.agg 28 [(.int .i64 ((ca (gD ds k)).x) : Value), .int .i64 ((ca (gD ds k)).y)]) (OpV.agg 29 [(.int .i64 c.x : Value), .int .i64 c.y]) (r_aggeq qC3_eg_49 (fun w => (run_eql_cel ((ca (gD ds k)).x) ((ca (gD ds k)).y) c.x c.y w).trans (congrArg (fun z => Result.ok (Value.bool z) w) c6))))) (by kernel_rfl) ?_
        refine wpc (step_plain rfl (acts_move (d := 31) (ltN rfl) (OpX.tmp 30 (V.v (.bool false))))) (by kernel_rfl) ?_
        refine wpc (step_on (dj := 31) rfl rfl (acts_load_owns (d := 32) (t := 7) (h := 7) (off := 0) (o := ⟨49, 2, true, [(.val (.int .i64 ((cb (gD ds k)).x)) : A), .val (.int .i64 ((cb (gD ds k)).y))]⟩)  (xs := [(.int .i64 ((cb (gD ds k)).x) : Value), .int .i64 ((cb (gD ds k)).y)].map A.val) (ltN rfl) qC3_ti_49 rfl (by decide) rfl)) (by kernel_rfl) ?_
        refine wpc (step_on (dj := 31) rfl rfl (acts_load_owns (d := 33) (t := 3) (h := 3) (off := 0) (o := ⟨49, 2, true, [(.val (.int .i64 c.x) : A), .val (.int .i64 c.y)]⟩)  (xs := [(.int .i64 c.x : Value), .int .i64 c.y].map A.val) (ltN rfl) qC3_ti_49 rfl (by decide) rfl)) (by kernel_rfl) ?_
        refine wpc (step_on (dj := 31) rfl rfl (acts_bin (d := 34) (ltN rfl) (OpV.agg 32 [(.int .i64 ((cb (gD ds k)).x) : Value), .int .i64 ((cb (gD ds k)).y)]) (OpV.agg 33 [(.int .i64 c.x : Value), .int .i64 c.y]) (r_aggeq qC3_eg_49 (fun w => (run_eql_cel ((cb (gD ds k)).x) ((cb (gD ds k)).y) c.x c.y w).trans (congrArg (fun z => Result.ok (Value.bool z) w) (rfl : (cEq ((cb (gD ds k)).x) ((cb (gD ds k)).y) c.x c.y) = (cEq ((cb (gD ds k)).x) ((cb (gD ds k)).y) c.x c.y))))))) (by kernel_rfl) ?_
        refine wpc (step_plain rfl (acts_pick_f (d := 35) (ltN rfl) (OpV.tmp 31 (.bool false)) (OpX.tmp 34 (V.v (.bool (cEq ((cb (gD ds k)).x) ((cb (gD ds k)).y) c.x c.y)))))) (by kernel_rfl) ?_
        refine wpl_nil ?_
        refine wp_if (t := 35) ((cEq ((cb (gD ds k)).x) ((cb (gD ds k)).y) c.x c.y)) (by kernel_rfl) (fun c7 => ?_) (fun c7 => ?_)
        · skip
          refine wp_seq' ?_
          refine wp_region_t ?_
          refine wpc (step_plain rfl (acts_move (d := 36) (ltN rfl) (OpX.tmp 5 (V.v (.int .i64 ((k : Nat) : Int)))))) (by kernel_rfl) ?_
          refine wpc (step_plain rfl (acts_assign (d := 4) (ltN rfl) (OpX.tmp 36 (V.v (.int .i64 ((k : Nat) : Int)))))) (by kernel_rfl) ?_
          refine wpl_nil ?_
          refine wp_ret' ?_
          exact VRes.tmp 4 (.a (.val (.int .i64 ((k : Nat) : Int)))) _ (by kernel_rfl) (bval (congrArg (Value.int .i64) (by first | exact atD_no (by omega) (by assumption) | (refine atD_yes (by omega) (by assumption) ?_; unfold cvr; simp_all [cEq_cel]))))
        · skip
          refine wp_skip' ?_
          refine wp_region_t ?_
          refine wpc (step_plain rfl (acts_move (d := 12) (ltN rfl) (OpX.tmp 5 (V.v (.int .i64 ((k : Nat) : Int)))))) (by kernel_rfl) ?_
          refine wpc (step_plain rfl (acts_bin (d := 13) (ltN rfl) (OpV.tmp 12 (.int .i64 ((k : Nat) : Int))) (OpV.const (.int .i64 1)) (r_add (c := (((k : Nat) : Int) + 1)) (w64 (by first | omega | assumption) (by first | omega | assumption))))) (by kernel_rfl) ?_
          refine wpc (step_plain rfl (acts_assign (d := 5) (ltN rfl) (OpX.tmp 13 (V.v (.int .i64 (((k : Nat) : Int) + 1)))))) (by kernel_rfl) ?_
          refine wpl_nil ?_
          exact loop_back ((k + 1)) (by refine ⟨by omega, any_snocD (by omega) (by assumption) ?_⟩; unfold cvr; simp_all [cEq_cel]) (by show ds.length - (k + 1) < ds.length - k; omega) (weak_of id [6, 7, 10, 18, 25] (by kernel_rfl) (wk_s (v' := V.b (.a (.slv ds.length 3 (dsl ds)))) (by kernel_rfl) rfl rfl (wk_s (v' := V.p 3 0) (by kernel_rfl) rfl rfl (wk_s (v' := V.v (.int .i64 (((k : Nat) : Int) + 1))) (by kernel_rfl) (vint (by first | rfl | omega | (simp; done) | (simp; omega))) rfl (wk_o (o' := ⟨49, 2, true, [(.val (.int .i64 c.x) : A), .val (.int .i64 c.y)]⟩) (by kernel_rfl) (renob_l (fun h => h) rfl rfl) rfl (wk_f rfl (wk_f rfl (wk_f rfl (wk_f rfl (wk_f rfl (wk_nil)))))))))))
  · skip
    have c2P := of_decide_eq_false c2
    refine wp_exit' ?_
    refine wp_seq' ?_
    refine wp_region_t ?_
    refine wpc (step_plain rfl (acts_assign (d := 4) (ltN rfl) (OpX.const (.int .i64 (-1))))) (by kernel_rfl) ?_
    refine wpl_nil ?_
    refine wp_ret' ?_
    exact VRes.tmp 4 (.a (.val (.int .i64 (-1)))) _ (by kernel_rfl) (bval (congrArg (Value.int .i64) (by first | exact atD_no (by omega) (by assumption) | (refine atD_yes (by omega) (by assumption) ?_; unfold cvr; simp_all [cEq_cel]))))

set_option maxHeartbeats 4000000 in
set_option maxRecDepth 100000 in
theorem spec_UncoveredOf_fn (l : List Int) (ds : List Dom) (hl : l.length ≤ 4194304) (hd : ds.length ≤ 2097152) : Fn Try.prog 35 [.agg [(.slv l.length 1 (isl l) : A)], .a (.slv ds.length 3 (dsl ds))] [.row 49 2 (unc l ds).length (csl (unc l ds))] := by
  refine fn_intro (N := 32) Try.func35 rfl (by kernel_rfl) rfl (Nat.le_of_ble_eq_true rfl) [2, 8, 10, 13, 22, 29, 30] (ret1 rfl) (fun W => ?_)
  show Wp _ _ _ [(.s 0, some (.s (V.b (.agg [(.slv l.length 1 (isl l) : A)])))), (.s 1, some (.s (V.b (.a (.slv ds.length 3 (dsl ds)))))), (.o 2, some .free), (.o 8, some .free), (.o 10, some .free), (.o 13, some .free), (.o 22, some .free), (.o 29, some .free), (.o 30, some .free)]
  refine wp_seq' ?_
  refine wp_region_t ?_
  refine wpc (step_plain rfl (acts_box (d := 2) (h := 2) (b := .agg [(.slv l.length 1 (isl l) : A)]) (ltN rfl) (OpX.tmp 0 (V.b (.agg [(.slv l.length 1 (isl l) : A)]))) (by intro y hy; simp [B.cs] at hy; subst hy; rfl))) (by kernel_rfl) ?_
  refine wpc (step_plain rfl (acts_assign (d := 4) (ltN rfl) (OpX.const (.slice none 0 0)))) (by kernel_rfl) ?_
  refine wpl_nil ?_
  refine wp_seq' ?_
  refine wp_region_t ?_
  refine wpc (step_plain rfl (acts_buildSlice0' (d := 8) (h := 8) (s := 2) (ltN rfl) qC3_un_41 qC3_zi_49)) (by kernel_rfl) ?_
  refine wpc (step_plain rfl (acts_assign (d := 5) (ltN rfl) (OpX.tmp 8 (V.b (.a (.sl 8 0 0)))))) (by kernel_rfl) ?_
  refine wpl_nil ?_
  refine wp_seq' ?_
  refine wp_region_t ?_
  refine wpc (step_plain rfl (acts_load_owns (d := 9) (t := 2) (h := 2) (off := 0) (o := ⟨29, 1, true, [(.slv l.length 1 (isl l) : A)]⟩)  (xs := [(.slv l.length 1 (isl l) : A)]) (ltN rfl) qC3_ti_29 rfl (by decide) rfl)) (by kernel_rfl) ?_
  refine wpc (step_plain rfl (acts_call1 (d := 10) (ltN rfl) (spec_CellsOf_fn l (by first | omega | assumption)) (ArgVs.cons (ArgV.regv 9 l.length 1 (isl l)) (ArgVs.nil)) (ResV.row 49 2 ((cellsOf l).length) (csl (cellsOf l)) 10))) (by kernel_rfl) ?_
  refine wpc (step_plain rfl (acts_assign (d := 6) (ltN rfl) (OpX.tmp 10 (V.b (.a (.sl 10 0 ((cellsOf l).length))))))) (by kernel_rfl) ?_
  refine wpl_nil ?_
  refine wp_seq' ?_
  refine wp_seq' ?_
  refine wp_region_t ?_
  refine wpc (step_plain rfl (acts_assign (d := 7) (ltN rfl) (OpX.const (.int .i64 0)))) (by kernel_rfl) ?_
  refine wpl_nil ?_
  refine wp_block' ?_
  refine wp_loop' (fun (k : Nat) => k ≤ (cellsOf l).length) (fun (k : Nat) => [(.s 1, some (.s (V.b (.a (.slv ds.length 3 (dsl ds)))))), (.s 4, some (.s (V.v (.slice none 0 0)))), (.s 5, some (.s (V.b (.a (.sl 8 0 ((((cellsOf l).take k).filter (fun c => !(ds.any (cvr c)))).length)))))), (.s 6, some (.s (V.b (.a (.sl 10 0 ((cellsOf l).length)))))), (.s 7, some (.s (V.v (.int .i64 ((k : Nat) : Int))))), (.o 8, some (.o ⟨49, 2, true, pl (csl (((cellsOf l).take k).filter (fun c => !(ds.any (cvr c)))))⟩)), (.o 10, some (.o ⟨49, 2, true, pl (csl (cellsOf l))⟩)), (.o 2, some .free), (.o 13, some .free), (.o 22, some .free), (.o 29, some .free), (.o 30, some .free)]) (fun (k : Nat) => (cellsOf l).length - k) ((0 : Nat)) (by exact (Nat.zero_le _ : 0 ≤ _)) (weak_of id [2, 13, 22, 29, 30] (by kernel_rfl) (wk_s (v' := V.b (.a (.slv ds.length 3 (dsl ds)))) (by kernel_rfl) rfl rfl (wk_s (v' := V.v (.slice none 0 0)) (by kernel_rfl) rfl rfl (wk_s (v' := V.b (.a (.sl 8 0 0))) (by kernel_rfl) (vsl (by first | rfl | (simp; done) | (simp; omega) | omega | (exact congrArg List.length (by first | rfl | exact cfilt_yes (p := (fun c => !(ds.any (cvr c)))) (by omega) (atD_t (by assumption)) | exact cfilt_no (p := (fun c => !(ds.any (cvr c)))) (by omega) (atD_f (by assumption)) | omega))) rfl) rfl (wk_s (v' := V.b (.a (.sl 10 0 ((cellsOf l).length)))) (by kernel_rfl) rfl rfl (wk_s (v' := V.v (.int .i64 0)) (by kernel_rfl) (vint (by first | rfl | exact cfilt_yes (p := (fun c => !(ds.any (cvr c)))) (by omega) (atD_t (by assumption)) | exact cfilt_no (p := (fun c => !(ds.any (cvr c)))) (by omega) (atD_f (by assumption)) | omega)) rfl (wk_o (o' := ⟨49, 2, true, pl (csl [])⟩) (by kernel_rfl) (renob_eq (fun h => h) (congrArg csl (by first | rfl | exact cfilt_yes (p := (fun c => !(ds.any (cvr c)))) (by omega) (atD_t (by assumption)) | exact cfilt_no (p := (fun c => !(ds.any (cvr c)))) (by omega) (atD_f (by assumption)) | omega))) rfl (wk_o (o' := ⟨49, 2, true, pl (csl (cellsOf l))⟩) (by kernel_rfl) (renob_pl (fun h => h)) rfl (wk_f rfl (wk_f rfl (wk_f rfl (wk_f rfl (wk_f rfl (wk_nil)))))))))))))) ?_
  rintro k inv1
  replace inv1 : k ≤ (cellsOf l).length := inv1
  have inv := inv1
  show Wp _ _ _ [(.s 1, some (.s (V.b (.a (.slv ds.length 3 (dsl ds)))))), (.s 4, some (.s (V.v (.slice none 0 0)))), (.s 5, some (.s (V.b (.a (.sl 8 0 ((((cellsOf l).take k).filter (fun c => !(ds.any (cvr c)))).length)))))), (.s 6, some (.s (V.b (.a (.sl 10 0 ((cellsOf l).length)))))), (.s 7, some (.s (V.v (.int .i64 ((k : Nat) : Int))))), (.o 8, some (.o ⟨49, 2, true, pl (csl (((cellsOf l).take k).filter (fun c => !(ds.any (cvr c)))))⟩)), (.o 10, some (.o ⟨49, 2, true, pl (csl (cellsOf l))⟩)), (.o 2, some .free), (.o 13, some .free), (.o 22, some .free), (.o 29, some .free), (.o 30, some .free)]
  have hlt := cfilt_len (fun c => !(ds.any (cvr c))) (cellsOf l) k
  have h64 := cellsOf_len l
  refine wp_seq' ?_
  refine wp_seq' ?_
  refine wp_region_t ?_
  refine wpc (step_plain rfl (acts_move (d := 11) (ltN rfl) (OpX.tmp 7 (V.v (.int .i64 ((k : Nat) : Int)))))) (by kernel_rfl) ?_
  refine wpc (step_plain rfl (acts_move (d := 12) (ltN rfl) (OpX.tmp 6 (V.b (.a (.sl 10 0 ((cellsOf l).length))))))) (by kernel_rfl) ?_
  refine wpc (step_plain rfl (acts_len (d := 13) (X := .sl 10 0 ((cellsOf l).length)) (n := ((cellsOf l).length)) (iv := (((cellsOf l).length : Nat) : Int)) (ltN rfl) qC3_un_41 (OpX.tmp 12 (V.b (.a (.sl 10 0 ((cellsOf l).length))))) (LenOf.sl _ _ _) rfl)) (by kernel_rfl) ?_
  refine wpc (step_plain rfl (acts_bin (d := 14) (ltN rfl) (OpV.tmp 11 (.int .i64 ((k : Nat) : Int))) (OpV.tmp 13 (.int .i64 (((cellsOf l).length : Nat) : Int))) (r_lss (c := (decide (((k : Nat) : Int) < (((cellsOf l).length : Nat) : Int)))) rfl))) (by kernel_rfl) ?_
  refine wpl_nil ?_
  refine wp_if (t := 14) (decide (((k : Nat) : Int) < (((cellsOf l).length : Nat) : Int))) (by kernel_rfl) (fun c2 => ?_) (fun c2 => ?_)
  · skip
    have c2P := of_decide_eq_true c2
    refine wp_skip' ?_
    refine wp_seq' ?_
    refine wp_block' ?_
    refine wp_seq' ?_
    refine wp_region_t ?_
    refine wpc (step_plain rfl (acts_move (d := 17) (ltN rfl) (OpX.tmp 1 (V.b (.a (.slv ds.length 3 (dsl ds))))))) (by kernel_rfl) ?_
    refine wpc (step_plain rfl (acts_move (d := 18) (ltN rfl) (OpX.tmp 6 (V.b (.a (.sl 10 0 ((cellsOf l).length))))))) (by kernel_rfl) ?_
    refine wpc (step_plain rfl (acts_move (d := 19) (ltN rfl) (OpX.tmp 7 (V.v (.int .i64 ((k : Nat) : Int)))))) (by kernel_rfl) ?_
    refine wpc (step_plain rfl (acts_index_sl (d := 20) (x := 18) (h := 10) (off := 0) (n := ((cellsOf l).length)) (k := k) (off' := (k * 2)) (o := ⟨49, 2, true, pl (csl (cellsOf l))⟩) (ltN rfl) qC3_un_41 qC3_sz_49 (OpV.tmp 19 (.int .i64 ((k : Nat) : Int))) rfl (by first | omega | assumption) (by first | (simp; done) | (simp; omega) | omega))) (by kernel_rfl) ?_
    refine wpc (step_plain rfl (acts_load_owns (d := 21) (t := 20) (h := 10) (off := (k * 2)) (o := ⟨49, 2, true, pl (csl (cellsOf l))⟩)  (xs := [(.int .i64 ((gC (cellsOf l) k).x) : Value), .int .i64 ((gC (cellsOf l) k).y)].map A.val) (ltN rfl) qC3_ti_49 rfl (by decide) (pl_at (csl_at (k := k) (by first | omega | assumption))))) (by kernel_rfl) ?_
    refine wpc (step_plain rfl (acts_call1 (d := 22) (ltN rfl) (spec_DominoAt_fn ds (gC (cellsOf l) k) (by first | omega | assumption)) (ArgVs.cons (ArgV.slv 17 ds.length 3 (dsl ds)) (ArgVs.cons (ArgV.va (vs := [(.int .i64 ((gC (cellsOf l) k).x) : Value), .int .i64 ((gC (cellsOf l) k).y)]) (OpV.agg 21 [(.int .i64 ((gC (cellsOf l) k).x) : Value), .int .i64 ((gC (cellsOf l) k).y)])) (ArgVs.nil))) (ResV.val _))) (by kernel_rfl) ?_
    refine wpc (step_plain rfl (acts_bin (d := 23) (ltN rfl) (OpV.tmp 22 (.int .i64 (atD ds (gC (cellsOf l) k)))) (OpV.const (.int .i64 0)) (r_lss (c := (decide ((atD ds (gC (cellsOf l) k)) < 0))) rfl))) (by kernel_rfl) ?_
    refine wpl_nil ?_
    refine wp_if (t := 23) (decide ((atD ds (gC (cellsOf l) k)) < 0)) (by kernel_rfl) (fun c3 => ?_) (fun c3 => ?_)
    · skip
      have c3P := of_decide_eq_true c3
      refine wp_region_t ?_
      refine wpc (step_plain rfl (acts_move (d := 24) (ltN rfl) (OpX.tmp 5 (V.b (.a (.sl 8 0 ((((cellsOf l).take k).filter (fun c => !(ds.any (cvr c)))).length))))))) (by kernel_rfl) ?_
      refine wpc (step_plain rfl (acts_move (d := 25) (ltN rfl) (OpX.tmp 6 (V.b (.a (.sl 10 0 ((cellsOf l).length))))))) (by kernel_rfl) ?_
      refine wpc (step_plain rfl (acts_move (d := 26) (ltN rfl) (OpX.tmp 7 (V.v (.int .i64 ((k : Nat) : Int)))))) (by kernel_rfl) ?_
      refine wpc (step_plain rfl (acts_index_sl (d := 27) (x := 25) (h := 10) (off := 0) (n := ((cellsOf l).length)) (k := k) (off' := (k * 2)) (o := ⟨49, 2, true, pl (csl (cellsOf l))⟩) (ltN rfl) qC3_un_41 qC3_sz_49 (OpV.tmp 26 (.int .i64 ((k : Nat) : Int))) rfl (by first | omega | assumption) (by first | (simp; done) | (simp; omega) | omega))) (by kernel_rfl) ?_
      refine wpc (step_plain rfl (acts_load_owns (d := 28) (t := 27) (h := 10) (off := (k * 2)) (o := ⟨49, 2, true, pl (csl (cellsOf l))⟩)  (xs := [(.int .i64 ((gC (cellsOf l) k).x) : Value), .int .i64 ((gC (cellsOf l) k).y)].map A.val) (ltN rfl) qC3_ti_49 rfl (by decide) (pl_at (csl_at (k := k) (by first | omega | assumption))))) (by kernel_rfl) ?_
      refine wpc (step_plain rfl (acts_buildSlice' (d := 29) (h := 29) (n := 1) (s := 2) (xs := csl ([(gC (cellsOf l) k)] : List Cel)) (ltN rfl) qC3_un_41 qC3_zi_49 (OpVs.cons (i := 0) (OpV.agg 28 [(.int .i64 ((gC (cellsOf l) k).x) : Value), .int .i64 ((gC (cellsOf l) k).y)]) (OpVs.nil)) (by decide) (by decide) (by kernel_rfl) rfl)) (by kernel_rfl) ?_
      refine wpc (step_plain rfl (acts_app (d := 30) (x := 24) (h := 8) (h2 := 30) (n := ((((cellsOf l).take k).filter (fun c => !(ds.any (cvr c)))).length)) (m := 1) (nm := (((((cellsOf l).take k).filter (fun c => !(ds.any (cvr c)))) ++ [(gC (cellsOf l) k)]).length)) (X := .sl 29 0 1) (xs := csl (((cellsOf l).take k).filter (fun c => !(ds.any (cvr c))))) (ys := csl [(gC (cellsOf l) k)]) (zs := csl ((((cellsOf l).take k).filter (fun c => !(ds.any (cvr c)))) ++ [(gC (cellsOf l) k)])) (ltN rfl) qC3_un_41 qC3_zi_49 rfl (by decide) (by decide) (by first | exact csl_len _ | (simp [isl_len, bsl_len, dsl_len, csl_len]; done) | (simp [isl_len, bsl_len, dsl_len, csl_len]; omega)) (OpX.tmp 29 (V.b (.a (.sl 29 0 1)))) (src_own (h := 29) (T := 49) (s := 2) (ex := true) (n := 1) (by first | exact csl_len _ | (simp [isl_len, bsl_len, dsl_len, csl_len]; done) | (simp [isl_len, bsl_len, dsl_len, csl_len]; omega))) (csl_one' _) (by first | omega | (simp; omega) | (simp at *; omega)) (by first | exact (csl_append _ _).symm | rfl | simp [csl_append]) (by first | rfl | (simp; done) | (simp; omega) | omega))) (by kernel_rfl) ?_
      refine wpc (step_plain rfl (acts_assign (d := 5) (ltN rfl) (OpX.tmp 30 (V.b (.a (.sl 30 0 (((((cellsOf l).take k).filter (fun c => !(ds.any (cvr c)))) ++ [(gC (cellsOf l) k)]).length))))))) (by kernel_rfl) ?_
      refine wpl_nil ?_
      refine wp_region_t ?_
      refine wpc (step_plain rfl (acts_move (d := 15) (ltN rfl) (OpX.tmp 7 (V.v (.int .i64 ((k : Nat) : Int)))))) (by kernel_rfl) ?_
      refine wpc (step_plain rfl (acts_bin (d := 16) (ltN rfl) (OpV.tmp 15 (.int .i64 ((k : Nat) : Int))) (OpV.const (.int .i64 1)) (r_add (c := (((k : Nat) : Int) + 1)) (w64 (by first | omega | assumption) (by first | omega | assumption))))) (by kernel_rfl) ?_
      refine wpc (step_plain rfl (acts_assign (d := 7) (ltN rfl) (OpX.tmp 16 (V.v (.int .i64 (((k : Nat) : Int) + 1)))))) (by kernel_rfl) ?_
      refine wpl_nil ?_
      exact loop_back ((k + 1)) (by show _ ≤ _; omega) (by show (cellsOf l).length - (k + 1) < (cellsOf l).length - k; omega) (weak_of (subst1 [(8, 30)]) [2, 13, 22, 29, 30] (by kernel_rfl) (wk_s (v' := V.b (.a (.slv ds.length 3 (dsl ds)))) (by kernel_rfl) rfl rfl (wk_s (v' := V.v (.slice none 0 0)) (by kernel_rfl) rfl rfl (wk_s (v' := V.b (.a (.sl 30 0 (((((cellsOf l).take k).filter (fun c => !(ds.any (cvr c)))) ++ [(gC (cellsOf l) k)]).length)))) (by kernel_rfl) (vsl (by first | rfl | (simp; done) | (simp; omega) | omega | (exact congrArg List.length (by first | rfl | exact cfilt_yes (p := (fun c => !(ds.any (cvr c)))) (by omega) (atD_t (by assumption)) | exact cfilt_no (p := (fun c => !(ds.any (cvr c)))) (by omega) (atD_f (by assumption)) | omega))) rfl) rfl (wk_s (v' := V.b (.a (.sl 10 0 ((cellsOf l).length)))) (by kernel_rfl) rfl rfl (wk_s (v' := V.v (.int .i64 (((k : Nat) : Int) + 1))) (by kernel_rfl) (vint (by first | rfl | exact cfilt_yes (p := (fun c => !(ds.any (cvr c)))) (by omega) (atD_t (by assumption)) | exact cfilt_no (p := (fun c => !(ds.any (cvr c)))) (by omega) (atD_f (by assumption)) | omega)) rfl (wk_o (o' := ⟨49, 2, true, pl (csl ((((cellsOf l).take k).filter (fun c => !(ds.any (cvr c)))) ++ [(gC (cellsOf l) k)]))⟩) (by kernel_rfl) (renob_eq (fun h => h) (congrArg csl (by first | rfl | exact cfilt_yes (p := (fun c => !(ds.any (cvr c)))) (by omega) (atD_t (by assumption)) | exact cfilt_no (p := (fun c => !(ds.any (cvr c)))) (by omega) (atD_f (by assumption)) | omega))) rfl (wk_o (o' := ⟨49, 2, true, pl (csl (cellsOf l))⟩) (by kernel_rfl) (renob_pl (fun h => h)) rfl (wk_f rfl (wk_f rfl (wk_f rfl (wk_f rfl (wk_f rfl (wk_nil))))))))))))))
    · skip
      have c3P := of_decide_eq_false c3
      refine wp_skip' ?_
      refine wp_region_t ?_
      refine wpc (step_plain rfl (acts_move (d := 15) (ltN rfl) (OpX.tmp 7 (V.v (.int .i64 ((k : Nat) : Int)))))) (by kernel_rfl) ?_
      refine wpc (step_plain rfl (acts_bin (d := 16) (ltN rfl) (OpV.tmp 15 (.int .i64 ((k : Nat) : Int))) (OpV.const (.int .i64 1)) (r_add (c := (((k : Nat) : Int) + 1)) (w64 (by first | omega | assumption) (by first | omega | assumption))))) (by kernel_rfl) ?_
      refine wpc (step_plain rfl (acts_assign (d := 7) (ltN rfl) (OpX.tmp 16 (V.v (.int .i64 (((k : Nat) : Int) + 1)))))) (by kernel_rfl) ?_
      refine wpl_nil ?_
      exact loop_back ((k + 1)) (by show _ ≤ _; omega) (by show (cellsOf l).length - (k + 1) < (cellsOf l).length - k; omega) (weak_of id [2, 13, 22, 29, 30] (by kernel_rfl) (wk_s (v' := V.b (.a (.slv ds.length 3 (dsl ds)))) (by kernel_rfl) rfl rfl (wk_s (v' := V.v (.slice none 0 0)) (by kernel_rfl) rfl rfl (wk_s (v' := V.b (.a (.sl 8 0 ((((cellsOf l).take k).filter (fun c => !(ds.any (cvr c)))).length)))) (by kernel_rfl) (vsl (by first | rfl | (simp; done) | (simp; omega) | omega | (exact congrArg List.length (by first | rfl | exact cfilt_yes (p := (fun c => !(ds.any (cvr c)))) (by omega) (atD_t (by assumption)) | exact cfilt_no (p := (fun c => !(ds.any (cvr c)))) (by omega) (atD_f (by assumption)) | omega))) rfl) rfl (wk_s (v' := V.b (.a (.sl 10 0 ((cellsOf l).length)))) (by kernel_rfl) rfl rfl (wk_s (v' := V.v (.int .i64 (((k : Nat) : Int) + 1))) (by kernel_rfl) (vint (by first | rfl | exact cfilt_yes (p := (fun c => !(ds.any (cvr c)))) (by omega) (atD_t (by assumption)) | exact cfilt_no (p := (fun c => !(ds.any (cvr c)))) (by omega) (atD_f (by assumption)) | omega)) rfl (wk_o (o' := ⟨49, 2, true, pl (csl (((cellsOf l).take k).filter (fun c => !(ds.any (cvr c)))))⟩) (by kernel_rfl) (renob_eq (fun h => h) (congrArg csl (by first | rfl | exact cfilt_yes (p := (fun c => !(ds.any (cvr c)))) (by omega) (atD_t (by assumption)) | exact cfilt_no (p := (fun c => !(ds.any (cvr c)))) (by omega) (atD_f (by assumption)) | omega))) rfl (wk_o (o' := ⟨49, 2, true, pl (csl (cellsOf l))⟩) (by kernel_rfl) (renob_pl (fun h => h)) rfl (wk_f rfl (wk_f rfl (wk_f rfl (wk_f rfl (wk_f rfl (wk_nil))))))))))))))
  · skip
    have c2P := of_decide_eq_false c2
    refine wp_exit' ?_
    refine wp_seq' ?_
    refine wp_region_t ?_
    refine wpc (step_plain rfl (acts_move (d := 31) (ltN rfl) (OpX.tmp 5 (V.b (.a (.sl 8 0 ((((cellsOf l).take k).filter (fun c => !(ds.any (cvr c)))).length))))))) (by kernel_rfl) ?_
    refine wpc (step_plain rfl (acts_assign (d := 4) (ltN rfl) (OpX.tmp 31 (V.b (.a (.sl 8 0 ((((cellsOf l).take k).filter (fun c => !(ds.any (cvr c)))).length))))))) (by kernel_rfl) ?_
    refine wpl_nil ?_
    refine wp_ret' ?_
    exact VRes.tmp 4 (.a (.sl 8 0 ((((cellsOf l).take k).filter (fun c => !(ds.any (cvr c)))).length))) _ (by kernel_rfl) (brow_cels (h := 8) (L := (((cellsOf l).take k).filter (fun c => !(ds.any (cvr c))))) (by kernel_rfl) (by unfold unc; rw [List.take_of_length_le (by omega)]) (by first | rfl | (simp; done) | (simp; omega)))
end Cl
end Go.Proofs.Ytafbklfdgpfmgaa
