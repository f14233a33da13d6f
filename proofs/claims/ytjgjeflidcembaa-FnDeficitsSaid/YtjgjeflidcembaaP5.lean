/- Walks over clean states, printed by wg.py. No statement is proved here. -/
import Derived.Test.YtjgjeflidcembaaP4
import Derived.Test.YtjgjeflidcembaaP1
import Derived.Test.YtjgjeflidcembaaC8
import Derived.Test.YtjgjeflidcembaaClB
namespace Go.Proofs.Ytjgjeflidcembaa
namespace Cl
open Go.ChangeShapes Go.WideShapes Go.ChangeAt Go.RowKit
set_option maxRecDepth 20000
/-! partial tilings and matchings -/
structure ParS (s : Nat) (P : List Dom) : Prop where
  ok : ∀ d ∈ P, okD d = true
  cv : ∀ i, cvN P i ≤ if s.testBit i = true then 1 else 0
theorem TilS.par {s : Nat} {P : List Dom} (h : TilS s P) : ParS s P := ⟨h.ok, fun i => by rw [h.cv]; exact Nat.le_refl _⟩
theorem cv_nodup {P : List Dom} (h : ∀ i, cvN P i ≤ 1) : P.Nodup := by
  induction P with
  | nil => exact List.nodup_nil
  | cons d P ih =>
    refine List.nodup_cons.2 ⟨fun hm => ?_, ih fun i => ?_⟩
    · have h1 := h (idx (ca d))
      rw [cvN_cons, if_pos (cin_a d)] at h1
      have := cvN_pos hm (cin_a d)
      omega
    · have := h i
      rw [cvN_cons] at this; omega
theorem ParS.le1 {s : Nat} {P : List Dom} (h : ParS s P) (i : Nat) : cvN P i ≤ 1 := by have := h.cv i; split at this <;> omega
theorem ParS.nd {s : Nat} {P : List Dom} (h : ParS s P) : P.Nodup := cv_nodup h.le1
theorem ParS.bit {s : Nat} {P : List Dom} (h : ParS s P) {d : Dom} (hd : d ∈ P) {i : Nat} (hc : cin d i = true) : s.testBit i = true := by
  have hp := cvN_pos hd hc
  have := h.cv i
  cases hz : s.testBit i
  · rw [hz] at this; simp at this; omega
  · rfl
theorem ParS.uniq {s : Nat} {P : List Dom} (h : ParS s P) {a b : Dom} (ha : a ∈ P) (hb : b ∈ P) {i : Nat} (h1 : cin a i = true) (h2 : cin b i = true) : a = b := by
  by_cases e : a = b
  · exact e
  · have := cvN_two h.nd ha hb e h1 h2
    have := h.le1 i; omega
theorem nodup_sub_len {α : Type} [DecidableEq α] : ∀ (L M : List α), L.Nodup → (∀ x ∈ L, x ∈ M) → L.length ≤ M.length := by
  intro L
  induction L with
  | nil => intro M _ _; exact Nat.zero_le _
  | cons a L ih =>
    intro M hn hs
    obtain ⟨h1, h2⟩ := List.nodup_cons.1 hn
    have ha := hs a (by simp)
    have := ih (M.erase a) h2 fun x hx => by
      have hne : x ≠ a := fun e => h1 (e ▸ hx)
      exact (List.mem_erase_of_ne hne).2 (hs x (by simp [hx]))
    rw [List.length_erase_of_mem ha] at this
    have := List.length_pos_of_mem ha
    simp only [List.length_cons]; omega
/-- the black and the white cell of a domino -/
def bld (d : Dom) : Cel := if black (ca d) then ca d else cb d
def whd (d : Dom) : Cel := if black (ca d) then cb d else ca d
theorem dom_bw {d : Dom} (h : okD d = true) : black (bld d) = true ∧ black (whd d) = false ∧ whd d ∈ nbs (bld d) ∧ cin d (idx (bld d)) = true ∧ cin d (idx (whd d)) = true ∧ okc (bld d).x (bld d).y = true ∧ okc (whd d).x (whd d).y = true := by
  have ha := ok_ca h
  have hb := ok_cb h
  have hab : (cb d).x + (cb d).y = (ca d).x + (ca d).y + 1 := by unfold cb ca; cases d.d <;> simp <;> omega
  have hn : nbr (ca d) (cb d) = true := by
    unfold nbr; rw [ha, hb]
    have : iabs ((ca d).x - (cb d).x) + iabs ((ca d).y - (cb d).y) = 1 := by
      unfold iabs ca cb; cases d.d <;> simp <;> (repeat' split) <;> omega
    simp [this]
  unfold bld whd
  cases e : black (ca d)
  · have e2 : black (cb d) = true := by
      unfold black at e ⊢; rw [ha] at e; rw [hb]
      simp only [Bool.true_and, decide_eq_false_iff_not, decide_eq_true_eq] at e ⊢; omega
    simp only [Bool.false_eq_true, if_false]
    exact ⟨e2, e, mem_nbs.2 (by rw [nbr_comm]; exact hn), cin_b d, cin_a d, hb, ha⟩
  · have e2 : black (cb d) = false := by
      unfold black at e ⊢; rw [ha] at e; rw [hb]
      simp only [Bool.true_and, decide_eq_false_iff_not, decide_eq_true_eq] at e ⊢; omega
    simp only [if_true]
    exact ⟨e, e2, mem_nbs.2 hn, cin_a d, cin_b d, ha, hb⟩
theorem has_bit {s : Nat} {c : Cel} (hc : okc c.x c.y = true) : hasS s c = s.testBit (idx c) := by unfold hasS; rw [hc]; rfl
def mtW (jo : List Int) : List Nat := (List.range 64).filter (fun i => decide (0 ≤ gI jo i))
/-- no partial tiling has more dominoes than there are joined cells -/
theorem par_le {s : Nat} {jo : List Int} {F : List Cel} {C : Nat → Prop} (h : MI s (blk s) jo F C) {P : List Dom} (hP : ParS s P) : P.length ≤ (mtW jo).length := by
  have key : ∀ d, d ∈ P → ∃ i, (i < 64 ∧ 0 ≤ gI jo i) ∧ ((C i ∧ i = idx (whd d)) ∨ (¬ C i ∧ gI jo i = ((idx (bld d) : Nat) : Int))) := by
    intro d hd
    obtain ⟨b1, b2, b3, b4, b5, b6, b7⟩ := dom_bw (hP.ok d hd)
    have hw : hasS s (whd d) = true := by rw [has_bit b7]; exact hP.bit hd b5
    have hb : hasS s (bld d) = true := by rw [has_bit b6]; exact hP.bit hd b4
    by_cases hc : NbIn s (bld d) C
    · have h1 := hc _ b3 hw
      exact ⟨idx (whd d), ⟨h.inC _ h1, (h.clo _ h1).1⟩, .inl ⟨h1, rfl⟩⟩
    · have hF : bld d ∉ F := fun e => hc (h.fcl _ e)
      have hcnt := h.cnt (idx (bld d))
      rw [if_pos ⟨bld d, List.mem_filter.2 ⟨set_mem.2 hb, b1⟩, hF, rfl⟩] at hcnt
      have hm : ((idx (bld d) : Nat) : Int) ∈ jo := List.count_pos_iff.1 (by omega)
      obtain ⟨i, hi, e⟩ := List.getElem_of_mem hm
      have hl := h.jok.1
      have e : gI jo i = ((idx (bld d) : Nat) : Int) := by rw [gI_eq hi]; exact e
      refine ⟨i, ⟨by omega, by omega⟩, .inr ⟨fun hCi => hc ?_, e⟩⟩
      have := (h.clo i hCi).2
      rwa [e, Int.toNat_natCast, cN_idx b6] at this
  classical
  let φ : Dom → Nat := fun d => if hd : d ∈ P then Classical.choose (key d hd) else 0
  have hφ : ∀ d, d ∈ P → (φ d < 64 ∧ 0 ≤ gI jo (φ d)) ∧ ((C (φ d) ∧ φ d = idx (whd d)) ∨ (¬ C (φ d) ∧ gI jo (φ d) = ((idx (bld d) : Nat) : Int))) := fun d hd => by
    have := Classical.choose_spec (key d hd)
    simp only [φ, dif_pos hd]; exact this
  have hlen : P.length = (P.map φ).length := by simp
  rw [hlen]
  refine nodup_sub_len _ _ ?_ fun x hx => ?_
  · refine List.pairwise_map.2 (hP.nd.imp_of_mem fun {d e} hd he hne heq => hne ?_)
    obtain ⟨_, h1⟩ := hφ d hd
    obtain ⟨_, h2⟩ := hφ e he
    obtain ⟨_, _, _, d4, d5, _, _⟩ := dom_bw (hP.ok d hd)
    obtain ⟨_, _, _, e4, e5, _, _⟩ := dom_bw (hP.ok e he)
    rw [← heq] at h2
    rcases h1 with ⟨c1, h1⟩ | ⟨c1, h1⟩ <;> rcases h2 with ⟨c2, h2⟩ | ⟨c2, h2⟩
    · exact hP.uniq hd he d5 (by rw [← h1, h2]; exact e5)
    · exact absurd c1 c2
    · exact absurd c2 c1
    · have : idx (bld d) = idx (bld e) := by omega
      exact hP.uniq hd he d4 (by rw [this]; exact e4)
  · obtain ⟨d, hd, rfl⟩ := List.mem_map.1 hx
    have := (hφ d hd).1
    exact List.mem_filter.2 ⟨by simpa using this.1, decide_eq_true this.2⟩
theorem dov_cin {a b : Cel} (h : nbr a b = true) : okD (dOv a b) = true ∧ ∀ i, cin (dOv a b) i = (decide (idx a = i) || decide (idx b = i)) := by
  unfold dOv; rw [if_pos h]
  unfold nbr at h
  simp only [Bool.and_eq_true, decide_eq_true_eq] at h
  obtain ⟨⟨h1, h2⟩, h3⟩ := h
  have q1 := okc_true.1 h1
  have q2 := okc_true.1 h2
  have hcases : (b.x = a.x + 1 ∧ b.y = a.y) ∨ (a.x = b.x + 1 ∧ b.y = a.y) ∨ (b.x = a.x ∧ b.y = a.y + 1) ∨ (b.x = a.x ∧ a.y = b.y + 1) := by
    unfold iabs at h3
    split at h3 <;> split at h3 <;> omega
  obtain ⟨ax, ay⟩ := a
  obtain ⟨bx, by'⟩ := b
  dsimp only at *
  refine ⟨?_, fun i => ?_⟩
  · rw [okD_iff, Bool.and_eq_true]
    unfold ca cb
    rcases hcases with h | h | h | h
    · exact ⟨okc_true.2 (by dsimp only; omega), okc_true.2 (by simp [show ¬ ax = bx by omega]; omega)⟩
    · exact ⟨okc_true.2 (by dsimp only; omega), okc_true.2 (by simp [show ¬ ax = bx by omega]; omega)⟩
    · exact ⟨okc_true.2 (by dsimp only; omega), okc_true.2 (by simp [show ax = bx by omega]; omega)⟩
    · exact ⟨okc_true.2 (by dsimp only; omega), okc_true.2 (by simp [show ax = bx by omega]; omega)⟩
  · unfold cin ca cb idx
    dsimp only
    rw [Bool.eq_iff_iff]
    simp only [Bool.or_eq_true, decide_eq_true_eq]
    rcases hcases with h | h | h | h
    · rw [if_neg (by omega), if_neg (by omega)]; omega
    · rw [if_neg (by omega), if_neg (by omega)]; omega
    · rw [if_pos (by omega), if_pos (by omega)]; omega
    · rw [if_pos (by omega), if_pos (by omega)]; omega
theorem countP_le_one {α : Type} {p : α → Bool} : ∀ (L : List α), L.Nodup → (∀ a ∈ L, ∀ b ∈ L, p a = true → p b = true → a = b) → L.countP p ≤ 1 := by
  intro L
  induction L with
  | nil => intro _ _; simp
  | cons x L ih =>
    intro hn h
    obtain ⟨h1, h2⟩ := List.nodup_cons.1 hn
    rw [List.countP_cons]
    have hi := ih h2 fun a ha b hb => h a (by simp [ha]) b (by simp [hb])
    by_cases hp : p x = true
    · have : L.countP p = 0 := by
        rw [List.countP_eq_zero]
        intro a ha hpa
        exact h1 (h x (by simp) a (by simp [ha]) hp hpa ▸ ha)
      rw [if_pos hp]; omega
    · rw [if_neg hp]; omega
theorem count_ge_two {l : List Int} {i j : Nat} (hij : i < j) (hj : j < l.length) {x : Int} (h1 : gI l i = x) (h2 : gI l j = x) : 2 ≤ l.count x := by
  have e : l = l.take j ++ l.drop j := (List.take_append_drop j l).symm
  have c1 : 0 < (l.take j).count x := List.count_pos_iff.2 (by
    rw [← h1, gI_eq (by omega)]
    exact List.mem_take_iff_getElem.2 ⟨i, by omega, rfl⟩)
  have c2 : 0 < (l.drop j).count x := List.count_pos_iff.2 (by
    rw [← h2, gI_eq hj, List.drop_eq_getElem_cons hj]; exact List.mem_cons_self)
  have : l.count x = (l.take j).count x + (l.drop j).count x := by rw [← List.count_append, ← e]
  omega
theorem MI.inj {s : Nat} {L : List Cel} {jo : List Int} {F : List Cel} {C : Nat → Prop} (h : MI s L jo F C) {i j : Nat} (hi : i < 64) (hj : j < 64) (h0 : 0 ≤ gI jo i) (he : gI jo i = gI jo j) : i = j := by
  have hl := h.jok.1
  have hc := h.cnt (gI jo i).toNat
  rw [show (((gI jo i).toNat : Nat) : Int) = gI jo i by omega] at hc
  rcases Nat.lt_trichotomy i j with h1 | h1 | h1
  · have := count_ge_two h1 (by omega) rfl he.symm
    split at hc <;> omega
  · exact h1
  · have := count_ge_two h1 (by omega) he.symm rfl
    split at hc <;> omega
/-- joined black cells are cells of the set that did not fail -/
theorem MI.val {s : Nat} {jo : List Int} {F : List Cel} {C : Nat → Prop} (h : MI s (blk s) jo F C) {i : Nat} (hi : i < 64) (h0 : 0 ≤ gI jo i) : hasS s (cN (gI jo i).toNat) = true ∧ black (cN (gI jo i).toNat) = true ∧ cN (gI jo i).toNat ∉ F ∧ hasS s (cN i) = true ∧ black (cN i) = false ∧ nbr (cN i) (cN (gI jo i).toNat) = true := by
  have hl := h.jok.1
  have hm : gI jo i ∈ jo := by rw [gI_eq (by omega)]; exact List.getElem_mem _
  have hc := h.cnt (gI jo i).toNat
  rw [show (((gI jo i).toNat : Nat) : Int) = gI jo i by omega] at hc
  have hp := List.count_pos_iff.2 hm
  have hex : ∃ b ∈ blk s, b ∉ F ∧ idx b = (gI jo i).toNat := by
    by_cases hx : ∃ b ∈ blk s, b ∉ F ∧ idx b = (gI jo i).toNat
    · exact hx
    · rw [if_neg hx] at hc; omega
  obtain ⟨b, hb, hF, he⟩ := hex
  obtain ⟨hb1, hb2⟩ := List.mem_filter.1 hb
  have hbs := set_mem.1 hb1
  have e : cN (gI jo i).toNat = b := by rw [← he]; exact cN_idx (hasS_ok hbs)
  obtain ⟨g1, g2⟩ := h.edg i hi h0
  rw [e] at g2 ⊢
  have hn : nbr (cN i) b = true := by rw [nbr_comm]; exact mem_nbs.1 g2
  refine ⟨hbs, hb2, hF, g1, ?_, hn⟩
  have hok := dov_cin hn
  unfold nbr at hn
  simp only [Bool.and_eq_true, decide_eq_true_eq] at hn
  unfold black at hb2 ⊢
  simp only [Bool.and_eq_true, decide_eq_true_eq] at hb2
  rw [hn.1.1, Bool.true_and, decide_eq_false_iff_not]
  have h3 := hn.2
  unfold iabs at h3
  split at h3 <;> split at h3 <;> omega
theorem mtW_mem {jo : List Int} {i : Nat} : i ∈ mtW jo ↔ i < 64 ∧ 0 ≤ gI jo i := by unfold mtW; rw [List.mem_filter]; simp
theorem mtW_nodup (jo : List Int) : (mtW jo).Nodup := List.nodup_range.filter _
theorem matT_eq (jo : List Int) : matT jo 64 = (mtW jo).map (fun i => dOv (cN i) (cN (gI jo i).toNat)) := rfl
theorem mat_par {s : Nat} {jo : List Int} {F : List Cel} {C : Nat → Prop} (h : MI s (blk s) jo F C) : ParS s (matT jo 64) := by
  refine ⟨fun d hd => ?_, fun j => ?_⟩
  · rw [matT_eq] at hd
    obtain ⟨i, hi, rfl⟩ := List.mem_map.1 hd
    obtain ⟨h1, h2⟩ := mtW_mem.1 hi
    exact (dov_cin (h.val h1 h2).2.2.2.2.2).1
  · rw [matT_eq]
    unfold cvN
    rw [List.countP_map]
    have hcin : ∀ i ∈ mtW jo, cin (dOv (cN i) (cN (gI jo i).toNat)) j = (decide (i = j) || decide ((gI jo i).toNat = j)) := fun i hi => by
      obtain ⟨h1, h2⟩ := mtW_mem.1 hi
      have hv := h.val h1 h2
      rw [(dov_cin hv.2.2.2.2.2).2, idx_cN h1, idx_cN (by have := h.jok.2 i h1; omega)]
    cases hz : s.testBit j
    · simp only [Bool.false_eq_true, if_false, Nat.le_zero]
      rw [List.countP_eq_zero]
      intro i hi
      obtain ⟨h1, h2⟩ := mtW_mem.1 hi
      have hv := h.val h1 h2
      simp only [Function.comp]
      rw [hcin i hi]
      simp only [Bool.or_eq_true, decide_eq_true_eq]
      have b1 := hv.2.2.2.1
      have b2 := hv.1
      rw [has_bit (cN_ok h1), idx_cN h1] at b1
      have hj64 : (gI jo i).toNat < 64 := by have := h.jok.2 i h1; omega
      rw [has_bit (cN_ok hj64), idx_cN hj64] at b2
      rintro (e | e)
      · rw [e, hz] at b1; cases b1
      · rw [e, hz] at b2; cases b2
    · simp only [if_true]
      refine countP_le_one _ (mtW_nodup jo) fun a ha b hb pa pb => ?_
      simp only [Function.comp] at pa pb
      rw [hcin a ha] at pa
      rw [hcin b hb] at pb
      simp only [Bool.or_eq_true, decide_eq_true_eq] at pa pb
      obtain ⟨a1, a2⟩ := mtW_mem.1 ha
      obtain ⟨b1, b2⟩ := mtW_mem.1 hb
      have va := h.val a1 a2
      have vb := h.val b1 b2
      rcases pa with pa | pa <;> rcases pb with pb | pb
      · omega
      · have q1 := va.2.2.2.2.1; have q2 := vb.2.1
        rw [pa] at q1; rw [pb] at q2; rw [q1] at q2; cases q2
      · have q1 := vb.2.2.2.2.1; have q2 := va.2.1
        rw [pb] at q1; rw [pa] at q2; rw [q1] at q2; cases q2
      · exact h.inj a1 b1 a2 (by omega)
theorem ParS.perm {s : Nat} {P Q : List Dom} (h : ParS s P) (hp : Q.Perm P) : ParS s Q := ⟨fun d hd => h.ok d (hp.mem_iff.1 hd), fun i => by rw [cvN_perm hp]; exact h.cv i⟩
theorem par_isPar {l : List Int} {P : List Dom} (ho : regOk l = true) (h : ParS (regSet l) P) (hso : SO P) : isPar l P = true := by
  have hcov : ∀ k, k < P.length → ∀ i, cin (gD P k) i = true → (covS (P.take k)).testBit i = false := fun k hk i hc => by
    rw [covS_any (fun d hd => h.ok d (List.mem_of_mem_take hd)), List.any_eq_false]
    intro d hd hcd
    have e := h.uniq (List.mem_of_mem_take hd) (gD_mem hk) hcd hc
    obtain ⟨j, hj, rfl⟩ := List.getElem_of_mem hd
    rw [List.length_take] at hj
    rw [List.getElem_take, gD_eq hk] at e
    have := (List.getElem_inj h.nd).1 e
    omega
  unfold isPar parT
  rw [ho, Bool.true_and, List.all_eq_true]
  intro k hk
  have hk : k < P.length := by simpa using hk
  have hok := h.ok _ (gD_mem hk)
  unfold stepOk
  rw [hok, Bool.true_and, fits_iff, h.bit (gD_mem hk) (cin_a _), h.bit (gD_mem hk) (cin_b _), hcov k hk _ (cin_a _), hcov k hk _ (cin_b _)]
  rcases Nat.eq_zero_or_pos k with rfl | hp
  · rfl
  · have hs := List.pairwise_iff_getElem.1 hso (k - 1) k (by omega) hk (by omega)
    rw [← gD_eq (by omega), ← gD_eq hk] at hs
    unfold bef
    rw [h.ok _ (gD_mem (by omega)), hok, decide_eq_true hs]; simp
theorem matR_par {l : List Int} (ho : regOk l = true) : ParS (regSet l) (matR l) ∧ SO (matR l) ∧ isPar l (matR l) = true ∧ (matR l).length = (mtW (joined (regSet l))).length := by
  obtain ⟨F, C, h⟩ := joined_MI (regSet l)
  have hp := mat_par h
  have e : matR l = sortD (matT (joined (regSet l)) 64) := by unfold matR; rw [if_pos ho]
  have hperm := sortD_perm hp.ok hp.nd
  rw [e]
  have h1 := hp.perm hperm
  exact ⟨h1, sortD_SO _, par_isPar ho h1 (sortD_SO _), by rw [hperm.length_eq, matT_eq, List.length_map]⟩
theorem most_le {l : List Int} (ho : regOk l = true) {P : List Dom} (hP : ParS (regSet l) P) : P.length ≤ (matR l).length := by
  obtain ⟨F, C, h⟩ := joined_MI (regSet l)
  rw [(matR_par ho).2.2.2]; exact par_le h hP
/-- cells covered by a partial tiling -/
theorem ParS.cells {s : Nat} (hs : s < 18446744073709551616) : ∀ (P : List Dom), ParS s P → popc (andn s (covS P)) + 2 * P.length = popc s := by
  intro P h
  have key : ∀ (Q : List Dom) (t : Nat), (∀ d ∈ Q, okD d = true) → (∀ i, cvN Q i ≤ if t.testBit i = true then 1 else 0) → popc (andn t (covS Q)) + 2 * Q.length = popc t := by
    intro Q
    induction Q with
    | nil => intro t _ _; simp [covS, andn]
    | cons d Q ih =>
      intro t ho hc
      have hd := ho d (by simp)
      have hf : fitD t d = true := by
        unfold fitD; rw [hd, fit_bits]
        have h1 := hc (idx (ca d))
        have h2 := hc (idx (cb d))
        rw [cvN_cons, if_pos (cin_a d)] at h1
        rw [cvN_cons, if_pos (cin_b d)] at h2
        have q1 : t.testBit (idx (ca d)) = true := by
          cases hz : t.testBit (idx (ca d))
          · rw [hz] at h1; simp at h1
          · rfl
        have q2 : t.testBit (idx (cb d)) = true := by
          cases hz : t.testBit (idx (cb d))
          · rw [hz] at h2; simp at h2
          · rfl
        rw [q1, q2]; rfl
      have hi := ih (andn t (domS d)) (fun e he => ho e (by simp [he])) fun i => by
        have := hc i
        rw [cvN_cons] at this
        rw [andn_bit, cin_bit]
        cases e1 : cin d i <;> cases e2 : t.testBit i <;> rw [e1, e2] at this <;> simp at this ⊢ <;> omega
      have hp := popc_sub hf
      have e : andn t (covS (d :: Q)) = andn (andn t (domS d)) (covS Q) := by
        apply Nat.eq_of_testBit_eq; intro i
        rw [andn_bit, andn_bit, andn_bit, covS_any ho, covS_any (fun e he => ho e (by simp [he])), List.any_cons, cin_bit]
        cases t.testBit i <;> cases cin d i <;> rfl
      rw [e]
      simp only [List.length_cons]; omega
  exact key P s h.ok h.cv
theorem par_full {l : List Int} {P : List Dom} (hs : regSet l < 18446744073709551616) (h : ParS (regSet l) P) (so : SO P) (hf : 2 * P.length = popc (regSet l)) : TilS (regSet l) P := by
  have hc := ParS.cells hs P h
  have h0 : andn (regSet l) (covS P) = 0 := popc_nz (andn_lt hs) (by omega)
  refine ⟨h.ok, fun i => ?_, so⟩
  have h1 := h.cv i
  cases hz : (regSet l).testBit i
  · rw [hz] at h1; simpa using h1
  · rw [hz] at h1
    simp only [if_true] at h1 ⊢
    have hb : (andn (regSet l) (covS P)).testBit i = false := by rw [h0, Nat.zero_testBit]
    rw [andn_bit, hz, Bool.true_and, Bool.not_eq_false', covS_any h.ok] at hb
    obtain ⟨d, hd, hcd⟩ := List.any_eq_true.1 hb
    have := cvN_pos hd hcd
    omega
theorem mat_noX {l : List Int} (ho : regOk l = true) : canX l (matR l) = false := by
  obtain ⟨hP, _, _, _⟩ := matR_par ho
  rcases Bool.eq_false_or_eq_true (canX l (matR l)) with h | h
  · exfalso
    unfold canX at h
    rw [Bool.and_eq_true, List.any_eq_true] at h
    obtain ⟨_, c, hc, hx⟩ := h
    have hc := set_mem.1 hc
    unfold nxt at hx
    have key : ∀ b : Bool, hasS (lft l (matR l)) (if b then ⟨c.x, c.y + 1⟩ else ⟨c.x + 1, c.y⟩) = true → False := by
      intro b hc'
      have o1 := hasS_ok hc
      have o2 := hasS_ok hc'
      have eca : ca (⟨c.x, c.y, b⟩ : Dom) = c := rfl
      have ecb : cb (⟨c.x, c.y, b⟩ : Dom) = (if b then ⟨c.x, c.y + 1⟩ else ⟨c.x + 1, c.y⟩ : Cel) := by unfold cb; cases b <;> rfl
      have hd : okD (⟨c.x, c.y, b⟩ : Dom) = true := by rw [okD_iff, eca, ecb, o1, o2]; rfl
      rw [has_bit o1] at hc
      rw [has_bit o2] at hc'
      have hbit : ∀ i, cin (⟨c.x, c.y, b⟩ : Dom) i = true → (lft l (matR l)).testBit i = true := fun i hi => by
        unfold cin at hi
        rw [eca, ecb] at hi
        simp only [Bool.or_eq_true, decide_eq_true_eq] at hi
        rcases hi with rfl | rfl
        · exact hc
        · exact hc'
      have hP2 : ParS (regSet l) (⟨c.x, c.y, b⟩ :: matR l) := by
        refine ⟨fun e he => ?_, fun i => ?_⟩
        · rcases List.mem_cons.1 he with rfl | he
          · exact hd
          · exact hP.ok e he
        · rw [cvN_cons]
          cases hz : cin (⟨c.x, c.y, b⟩ : Dom) i
          · have := hP.cv i; simpa using this
          · have h1 := hbit i hz
            unfold lft at h1
            rw [andn_bit, Bool.and_eq_true, Bool.not_eq_true', covS_any hP.ok] at h1
            rw [h1.1]
            have h0 : cvN (matR l) i = 0 := by
              unfold cvN; rw [List.countP_eq_zero]
              intro e he hce
              have := List.any_eq_false.1 h1.2 e he
              exact this hce
            rw [h0]; simp
      have := most_le ho hP2
      simp only [List.length_cons] at this; omega
    rw [Bool.or_eq_true] at hx
    rcases hx with hx | hx
    · exact key false hx
    · exact key true hx
  · exact h
/-- a region has a tiling if and only if a greatest partial tiling covers it -/
theorem mat_full {l : List Int} (ho : regOk l = true) : decide (2 * (matR l).length = popc (regSet l)) = decide (0 < cnt (regSet l)) := by
  have hs := regSet_lt ho
  obtain ⟨hP, hso, _, _⟩ := matR_par ho
  rw [decide_eq_decide]
  have hpc : popc (regSet l) < 2 * 33 := by have := popc_le (regSet l); omega
  rw [← tls_len 33 _ hs hpc]
  constructor
  · intro h
    have ht := par_full hs hP hso h
    exact List.length_pos_of_mem ((tls_mem 33 _ _ hs hpc).2 ((til_iff hs).2 ht))
  · intro h
    obtain ⟨P, L, e⟩ := List.exists_cons_of_ne_nil (List.length_pos_iff.1 h)
    have hm : P ∈ tls 33 (regSet l) := by rw [e]; simp
    have ht := (til_iff hs).1 ((tls_mem 33 _ _ hs hpc).1 hm)
    have h1 := til_len hs ht
    have h2 := most_le ho ht.par
    have h3 := ParS.cells hs _ hP
    omega


end Cl
end Go.Proofs.Ytjgjeflidcembaa
