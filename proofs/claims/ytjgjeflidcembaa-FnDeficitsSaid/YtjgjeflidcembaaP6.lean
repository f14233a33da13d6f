/- Walks over clean states, printed by wg.py. No statement is proved here. -/
import Derived.Test.YtjgjeflidcembaaP5
import Derived.Test.YtjgjeflidcembaaC9
import Derived.Test.YtjgjeflidcembaaClB
namespace Go.Proofs.Ytjgjeflidcembaa
namespace Cl
open Go.ChangeShapes Go.WideShapes Go.ChangeAt Go.RowKit
set_option maxRecDepth 20000
/-! deficits -/
theorem MI.matched {s : Nat} {jo : List Int} {F : List Cel} {C : Nat → Prop} (h : MI s (blk s) jo F C) {b : Cel} (hb : b ∈ blk s) (hF : b ∉ F) : ∃ i, i < 64 ∧ gI jo i = ((idx b : Nat) : Int) := by
  have hc := h.cnt (idx b)
  rw [if_pos ⟨b, hb, hF, rfl⟩] at hc
  obtain ⟨i, hi, e⟩ := List.getElem_of_mem (List.count_pos_iff.1 (show 0 < jo.count ((idx b : Nat) : Int) by omega))
  have hl := h.jok.1
  exact ⟨i, by omega, by rw [gI_eq hi]; exact e⟩
def mate (jo : List Int) (w : Cel) : Cel := cN (gI jo (idx w)).toNat
theorem blk_ok {s : Nat} {b : Cel} (h : b ∈ blk s) : okc b.x b.y = true ∧ hasS s b = true ∧ black b = true := by
  obtain ⟨h1, h2⟩ := List.mem_filter.1 h
  have := set_mem.1 h1
  exact ⟨hasS_ok this, this, h2⟩
theorem blk_mem {s : Nat} {b : Cel} (h1 : hasS s b = true) (h2 : black b = true) : b ∈ blk s := List.mem_filter.2 ⟨set_mem.2 h1, h2⟩
theorem mate_of {jo : List Int} {i : Nat} {b : Cel} (hi : i < 64) (hb : okc b.x b.y = true) (he : gI jo i = ((idx b : Nat) : Int)) : mate jo (cN i) = b := by
  unfold mate; rw [idx_cN hi, he, Int.toNat_natCast]; exact cN_idx hb
theorem fr_eq {s : Nat} {jo : List Int} {F : List Cel} {C : Nat → Prop} (h : MI s (blk s) jo F C) : (blk s).length = F.length + (mtW jo).length := by
  have hF : ∀ b ∈ F, b ∈ blk s := h.fsub
  let M := (mtW jo).map (fun i => mate jo (cN i))
  have hM : M.length = (mtW jo).length := by simp [M]
  have hm : ∀ i ∈ mtW jo, mate jo (cN i) = cN (gI jo i).toNat := fun i hi => by unfold mate; rw [idx_cN (mtW_mem.1 hi).1]
  have hMn : M.Nodup := by
    refine List.pairwise_map.2 ((mtW_nodup jo).imp_of_mem fun {i j} hi hj hne e => hne ?_)
    rw [hm i hi, hm j hj] at e
    obtain ⟨i1, i2⟩ := mtW_mem.1 hi
    obtain ⟨j1, j2⟩ := mtW_mem.1 hj
    have q1 := h.jok.2 i i1
    have q2 := h.jok.2 j j1
    have := congrArg idx e
    rw [idx_cN (by omega), idx_cN (by omega)] at this
    exact h.inj i1 j1 i2 (by omega)
  have hnd : (F ++ M).Nodup := by
    refine List.nodup_append.2 ⟨h.fn, hMn, fun a ha b hb e => ?_⟩
    obtain ⟨i, hi, rfl⟩ := List.mem_map.1 hb
    obtain ⟨i1, i2⟩ := mtW_mem.1 hi
    rw [hm i hi] at e
    exact (h.val i1 i2).2.2.1 (e ▸ ha)
  have h1 : (F ++ M).length ≤ (blk s).length := nodup_sub_len _ _ hnd fun x hx => by
    rcases List.mem_append.1 hx with hx | hx
    · exact hF x hx
    · obtain ⟨i, hi, rfl⟩ := List.mem_map.1 hx
      obtain ⟨i1, i2⟩ := mtW_mem.1 hi
      rw [hm i hi]
      have := h.val i1 i2
      exact blk_mem this.1 this.2.1
  have h2 : (blk s).length ≤ (F ++ M).length := nodup_sub_len _ _ ((setC_nodup s).filter _) fun b hb => by
    by_cases e : b ∈ F
    · simp [e]
    · obtain ⟨i, hi, he⟩ := h.matched hb e
      refine List.mem_append.2 (.inr (List.mem_map.2 ⟨i, mtW_mem.2 ⟨hi, by omega⟩, mate_of hi (blk_ok hb).1 he⟩))
  rw [List.length_append, hM] at h1 h2
  omega
theorem setL_mem {bs : List Cel} (ho : ∀ c ∈ bs, okc c.x c.y = true) {c : Cel} : c ∈ setCells (setL bs) ↔ c ∈ bs := by
  rw [set_mem]
  constructor
  · intro h
    have hc := hasS_ok h
    rw [has_bit hc, setL_bit, decide_eq_true_eq] at h
    obtain ⟨b, hb, e⟩ := h
    rw [← idx_inj (ho b hb) hc e]; exact hb
  · intro h
    rw [has_bit (ho c h), setL_bit, decide_eq_true_eq]; exact ⟨c, h, rfl⟩
theorem blks_mem {l : List Int} {X : List Cel} (h : blks l X = true) : regOk l = true ∧ ∀ c ∈ X, c ∈ blk (regSet l) := by
  unfold blks at h
  rw [Bool.and_eq_true, List.all_eq_true] at h
  refine ⟨h.1, fun c hc => ?_⟩
  have := h.2 c hc
  rw [Bool.and_eq_true] at this
  have h2 := this.2
  unfold hasC at h2
  rw [h.1, Bool.true_and] at h2
  exact blk_mem h2 this.1
theorem wa_mem {l : List Int} {X : List Cel} (h : blks l X = true) {c : Cel} : c ∈ wa l X ↔ hasS (regSet l) c = true ∧ ∃ b ∈ X, nbr c b = true := by
  have ho := (blks_mem h).1
  unfold wa cellsOf
  rw [if_pos h, if_pos ho, List.mem_filter, set_mem, List.any_eq_true]
theorem defi_le {l : List Int} {X : List Cel} {F : List Cel} {C : Nat → Prop} (h : MI (regSet l) (blk (regSet l)) (joined (regSet l)) F C) (hX : blks l X = true) : (setCells (setL X)).length ≤ F.length + (wa l X).length := by
  obtain ⟨ho, hb⟩ := blks_mem hX
  have := nodup_sub_len (setCells (setL X)) (F ++ (wa l X).map (mate (joined (regSet l)))) (setC_nodup _) fun b hbm => by
    have hbX := (setL_mem (fun c hc => (blk_ok (hb c hc)).1)).1 hbm
    by_cases e : b ∈ F
    · simp [e]
    · obtain ⟨i, hi, he⟩ := h.matched (hb b hbX) e
      have hv := h.val hi (by omega)
      have hbo := (blk_ok (hb b hbX)).1
      refine List.mem_append.2 (.inr (List.mem_map.2 ⟨cN i, (wa_mem hX).2 ⟨hv.2.2.2.1, b, hbX, ?_⟩, mate_of hi hbo he⟩))
      have := hv.2.2.2.2.2
      rwa [he, Int.toNat_natCast, cN_idx hbo] at this
  rw [List.length_append, List.length_map] at this
  exact this
/-- the witness -/
structure WI (s : Nat) (jo : List Int) (C : Nat → Prop) (st : Nat × List Cel) (k : Nat) : Prop where
  wg : WG st
  kle : k ≤ st.2.length
  mem : ∀ c, c ∈ st.2 → st.1.testBit (idx c) = true
  bit : ∀ i, st.1.testBit i = true → ∃ c ∈ st.2, idx c = i
  good : ∀ c ∈ st.2, black c = true ∧ hasS s c = true ∧ NbIn s c C
  fre : ∀ b ∈ blk s, tk jo (idx b) = false → b ∈ st.2
  cl : ∀ j, j < k → j < st.2.length → ∀ w ∈ nbs (gC st.2 j), hasS s w = true → 0 ≤ gI jo (idx w) → st.1.testBit (gI jo (idx w)).toNat = true
theorem tk_F {s : Nat} {jo : List Int} {F : List Cel} {C : Nat → Prop} (h : MI s (blk s) jo F C) {b : Cel} (hb : b ∈ blk s) : tk jo (idx b) = false ↔ b ∈ F := by
  unfold tk
  rw [decide_eq_false_iff_not]
  constructor
  · intro hn
    by_cases e : b ∈ F
    · exact e
    · obtain ⟨i, hi, he⟩ := h.matched hb e
      exact absurd (by rw [← he, gI_eq (by rw [h.jok.1]; exact hi)]; exact List.getElem_mem _) hn
  · intro hF hm
    have hc := h.cnt (idx b)
    have := List.count_pos_iff.2 hm
    rw [if_neg] at hc
    · omega
    · rintro ⟨b', hb', h1, h2⟩
      rw [idx_inj (blk_ok hb').1 (blk_ok hb).1 h2] at h1
      exact h1 hF
theorem WI.zero {s : Nat} {jo : List Int} {F : List Cel} {C : Nat → Prop} (h : MI s (blk s) jo F C) : WI s jo C (winiT s jo (setCells s).length) 0 := by
  have key : ∀ k, k ≤ (setCells s).length → (∀ c, c ∈ (winiT s jo k).2 ↔ (∃ j, j < k ∧ gC (setCells s) j = c) ∧ black c = true ∧ tk jo (idx c) = false) ∧ (∀ c, c ∈ (winiT s jo k).2 → (winiT s jo k).1.testBit (idx c) = true) ∧ (∀ i, (winiT s jo k).1.testBit i = true → ∃ c ∈ (winiT s jo k).2, idx c = i) := by
    intro k
    induction k with
    | zero => intro _; exact ⟨fun c => by simp [winiT], fun c hc => by simp [winiT] at hc, fun i hi => by simp [winiT] at hi⟩
    | succ k ih =>
      intro hk
      obtain ⟨h1, h2, h3⟩ := ih (by omega)
      rw [winiT_snoc (by omega)]
      unfold wini
      split
      · rename_i hc
        simp only [Bool.and_eq_true, Bool.not_eq_true'] at hc
        refine ⟨fun c => ?_, fun c hc' => ?_, fun i hi => ?_⟩
        · rw [List.mem_append, List.mem_singleton, h1]
          constructor
          · rintro (⟨⟨j, hj, e⟩, h4⟩ | rfl)
            · exact ⟨⟨j, by omega, e⟩, h4⟩
            · exact ⟨⟨k, by omega, rfl⟩, hc⟩
          · rintro ⟨⟨j, hj, e⟩, h4⟩
            rcases Nat.lt_or_ge j k with h5 | h5
            · exact .inl ⟨⟨j, h5, e⟩, h4⟩
            · right; rw [← e, show j = k by omega]
        · rw [addC_bit]
          rcases List.mem_append.1 hc' with h4 | h4
          · rw [h2 c h4]; rfl
          · simp at h4; subst h4; simp
        · rw [addC_bit] at hi
          simp only [Bool.or_eq_true, decide_eq_true_eq] at hi
          rcases hi with hi | hi
          · obtain ⟨c, hc1, hc2⟩ := h3 i hi; exact ⟨c, by simp [hc1], hc2⟩
          · exact ⟨_, by simp, hi⟩
      · rename_i hc
        refine ⟨fun c => ?_, h2, h3⟩
        rw [h1]
        constructor
        · rintro ⟨⟨j, hj, e⟩, h4⟩; exact ⟨⟨j, by omega, e⟩, h4⟩
        · rintro ⟨⟨j, hj, e⟩, h4⟩
          rcases Nat.lt_or_ge j k with h5 | h5
          · exact ⟨⟨j, h5, e⟩, h4⟩
          · exfalso; apply hc
            have : j = k := by omega
            subst this
            rw [e, h4.1, h4.2]; rfl
  obtain ⟨h1, h2, h3⟩ := key _ (Nat.le_refl _)
  have hin : ∀ c, c ∈ (winiT s jo (setCells s).length).2 → c ∈ blk s ∧ tk jo (idx c) = false := fun c hc => by
    obtain ⟨⟨j, hj, e⟩, h4, h5⟩ := (h1 c).1 hc
    exact ⟨blk_mem (set_mem.1 (e ▸ gC_mem hj)) h4, h5⟩
  refine ⟨(winiT_good s jo _ (Nat.le_refl _)).1, Nat.zero_le _, h2, h3, fun c hc => ?_, fun b hb ht => ?_, fun j hj => by omega⟩
  · obtain ⟨q1, q2⟩ := hin c hc
    exact ⟨(blk_ok q1).2.2, (blk_ok q1).2.1, h.fcl c ((tk_F h q1).1 q2)⟩
  · obtain ⟨j, hj, e⟩ := List.getElem_of_mem (List.mem_filter.1 hb).1
    exact (h1 b).2 ⟨⟨j, hj, by rw [gC_eq hj]; exact e⟩, (blk_ok hb).2.2, ht⟩
theorem wst_mono {s : Nat} {jo : List Int} {st : Nat × List Cel} {w : Cel} {i : Nat} (h : st.1.testBit i = true) : (wst s jo st w).1.testBit i = true := by
  unfold wst; split
  · show (addC _ _).testBit i = true
    rw [addC_bit, h]; rfl
  · exact h
theorem fold_mono {s : Nat} {jo : List Int} {i : Nat} : ∀ (ws : List Cel) (st : Nat × List Cel), st.1.testBit i = true → (ws.foldl (wst s jo) st).1.testBit i = true := by
  intro ws
  induction ws with
  | nil => intro st h; exact h
  | cons w ws ih => intro st h; exact ih _ (wst_mono h)
theorem WI.fold {s : Nat} {jo : List Int} {F : List Cel} {C : Nat → Prop} (h : MI s (blk s) jo F C) {k : Nat} : ∀ (ws : List Cel) (st : Nat × List Cel), WI s jo C st k → (∀ w ∈ ws, hasS s w = true → C (idx w)) →
    WI s jo C (ws.foldl (wst s jo) st) k ∧ ∀ w ∈ ws, hasS s w = true → 0 ≤ gI jo (idx w) → (ws.foldl (wst s jo) st).1.testBit (gI jo (idx w)).toNat = true := by
  intro ws
  induction ws with
  | nil => intro st hw _; exact ⟨hw, by simp⟩
  | cons w ws ih =>
    intro st hw hc
    have hstep : WI s jo C (wst s jo st w) k ∧ (hasS s w = true → 0 ≤ gI jo (idx w) → (wst s jo st w).1.testBit (gI jo (idx w)).toNat = true) := by
      have hg := wst_good h.jok hw.wg (s := s) (w := w)
      unfold wst at hg ⊢
      split
      · rename_i hcond
        rw [if_pos hcond] at hg
        simp only [Bool.and_eq_true, decide_eq_true_eq, Bool.not_eq_true'] at hcond
        obtain ⟨c1, c2, c3⟩ := hcond
        have hwi := idx_lt (hasS_ok c1)
        have hv := h.val hwi c2
        have hlt : (gI jo (idx w)).toNat < 64 := by have := h.jok.2 _ hwi; omega
        refine ⟨⟨hg, by have := hw.kle; simp only [List.length_append]; omega, fun c hcm => ?_, fun i hi => ?_, fun c hcm => ?_, fun b hb ht => by simp [hw.fre b hb ht], fun j hj hjl x hx hs0 h0 => ?_⟩, fun _ _ => by rw [addC_bit, idx_cN hlt]; simp⟩
        · rw [addC_bit]
          rcases List.mem_append.1 hcm with h4 | h4
          · rw [hw.mem c h4]; rfl
          · simp at h4; subst h4; simp
        · rw [addC_bit] at hi
          simp only [Bool.or_eq_true, decide_eq_true_eq] at hi
          rcases hi with hi | hi
          · obtain ⟨c, hc1, hc2⟩ := hw.bit i hi; exact ⟨c, by simp [hc1], hc2⟩
          · exact ⟨_, by simp, hi⟩
        · rcases List.mem_append.1 hcm with h4 | h4
          · exact hw.good c h4
          · simp at h4; subst h4
            exact ⟨hv.2.1, hv.1, (h.clo _ (hc w (by simp) c1)).2⟩
        · show (addC _ _).testBit _ = true
          rw [addC_bit]
          rcases Nat.lt_or_ge j st.2.length with h5 | h5
          · have e : gC (st.2 ++ [cN (gI jo (idx w)).toNat]) j = gC st.2 j := by
              rw [gC_eq (by simp; omega), gC_eq h5, List.getElem_append_left h5]
            rw [e] at hx
            rw [hw.cl j hj h5 x hx hs0 h0]; rfl
          · have e : gC (st.2 ++ [cN (gI jo (idx w)).toNat]) j = cN (gI jo (idx w)).toNat := by
              simp only [List.length_append, List.length_singleton] at hjl
              rw [gC_eq (by simp; omega), List.getElem_append_right h5]; simp
            exfalso
            exact absurd hj (by have := hw.kle; omega)
      · rename_i hcond
        refine ⟨hw, fun c1 c2 => ?_⟩
        rcases Bool.eq_false_or_eq_true (st.1.testBit (gI jo (idx w)).toNat) with e | e
        · exact e
        · exfalso; apply hcond; rw [c1, e, decide_eq_true c2]; rfl
    obtain ⟨i1, i2⟩ := ih _ hstep.1 fun x hx => hc x (by simp [hx])
    refine ⟨i1, fun x hx hs0 h0 => ?_⟩
    rcases List.mem_cons.1 hx with rfl | hx
    · exact fold_mono ws _ (hstep.2 hs0 h0)
    · exact i2 x hx hs0 h0

theorem WI.round {s : Nat} {jo : List Int} {F : List Cel} {C : Nat → Prop} (h : MI s (blk s) jo F C) {st : Nat × List Cel} {k : Nat} (hw : WI s jo C st k) (hk : k < st.2.length) : WI s jo C (wrnd s jo st (gC st.2 k)) (k + 1) := by
  have hg := (hw.good _ (gC_mem hk)).2.2
  obtain ⟨h1, h2⟩ := WI.fold h (nbs (gC st.2 k)) st hw hg
  obtain ⟨e, he⟩ := foldl_wst_app s jo (nbs (gC st.2 k)) st
  have he : (wrnd s jo st (gC st.2 k)).2 = st.2 ++ e := he
  have h1 : WI s jo C (wrnd s jo st (gC st.2 k)) k := h1
  refine ⟨h1.wg, by rw [he, List.length_append]; omega, h1.mem, h1.bit, h1.good, h1.fre, fun j hj hjl w hww hs0 h0 => ?_⟩
  rcases Nat.lt_or_ge j k with h5 | h5
  · exact h1.cl j h5 hjl w hww hs0 h0
  · have ej : j = k := by omega
    subst ej
    have eg : gC (wrnd s jo st (gC st.2 j)).2 j = gC st.2 j := by
      rw [he, gC_eq (by simp; omega), gC_eq hk, List.getElem_append_left hk]
    rw [eg] at hww
    exact h2 w hww hs0 h0
theorem wgo_WI {s : Nat} {jo : List Int} {F : List Cel} {C : Nat → Prop} (h : MI s (blk s) jo F C) : ∀ (n : Nat) (st : Nat × List Cel) (k : Nat), WI s jo C st k → 65 ≤ n + k → ∃ st' k', WI s jo C st' k' ∧ ¬ k' < st'.2.length ∧ wgo s jo n st k = st'.1 := by
  intro n
  induction n with
  | zero => intro st k hw hn; have := hw.kle; have := hw.wg.len; omega
  | succ n ih =>
    intro st k hw hn
    unfold wgo
    split
    · rename_i hk
      exact ih _ _ (hw.round h hk) (by omega)
    · rename_i hk
      exact ⟨st, k, hw, hk, rfl⟩
theorem wit_facts {l : List Int} (ho : regOk l = true) {F : List Cel} {C : Nat → Prop} (h : MI (regSet l) (blk (regSet l)) (joined (regSet l)) F C) :
    blks l (wit l) = true ∧ (∀ b ∈ F, b ∈ wit l) ∧ ∀ b ∈ wit l, NbIn (regSet l) b C ∧ ∀ w ∈ nbs b, hasS (regSet l) w = true → mate (joined (regSet l)) w ∈ wit l := by
  obtain ⟨st, k, hw, hk, he⟩ := wgo_WI h 65 _ 0 (WI.zero h) (by omega)
  have hW : witS (regSet l) = st.1 := he
  have hm : ∀ c, c ∈ wit l ↔ c ∈ st.2 := fun c => by
    unfold wit; rw [if_pos ho, set_mem, hW]
    constructor
    · intro hc
      have hco := hasS_ok hc
      rw [has_bit hco] at hc
      obtain ⟨c', h1, h2⟩ := hw.bit _ hc
      rw [← idx_inj (hw.wg.ok c' h1) hco h2]; exact h1
    · intro hc
      rw [has_bit (hw.wg.ok c hc)]; exact hw.mem c hc
  refine ⟨?_, fun b hb => (hm b).2 (hw.fre b (h.fsub b hb) ((tk_F h (h.fsub b hb)).2 hb)), fun b hb => ?_⟩
  · unfold blks
    rw [ho, Bool.true_and, List.all_eq_true]
    intro c hc
    have := hw.good c ((hm c).1 hc)
    rw [this.1, Bool.true_and]
    unfold hasC; rw [ho, Bool.true_and]; exact this.2.1
  · have hb2 := (hm b).1 hb
    have hg := hw.good b hb2
    refine ⟨hg.2.2, fun w hww hs0 => ?_⟩
    have hC := hg.2.2 w hww hs0
    have h0 := (h.clo _ hC).1
    obtain ⟨j, hj, e⟩ := List.getElem_of_mem hb2
    have hbit := hw.cl j (by omega) hj w (by rw [gC_eq hj, e]; exact hww) hs0 h0
    have hwi := idx_lt (hasS_ok hs0)
    have hlt : (gI (joined (regSet l)) (idx w)).toNat < 64 := by have := h.jok.2 _ hwi; omega
    unfold wit mate
    rw [if_pos ho, set_mem, hW, has_bit (cN_ok hlt), idx_cN hlt]
    exact hbit
theorem defi_wit {l : List Int} (ho : regOk l = true) {F : List Cel} {C : Nat → Prop} (h : MI (regSet l) (blk (regSet l)) (joined (regSet l)) F C) : (wit l).length = F.length + (wa l (wit l)).length ∧ (setCells (setL (wit l))).length = (wit l).length := by
  obtain ⟨hb, hF, hc⟩ := wit_facts ho h
  have hbm := (blks_mem hb).2
  have hok : ∀ c ∈ wit l, okc c.x c.y = true := fun c hc => (blk_ok (hbm c hc)).1
  have hwn : (wit l).Nodup := by unfold wit; rw [if_pos ho]; exact setC_nodup _
  have e1 : (setCells (setL (wit l))).length = (wit l).length := Nat.le_antisymm (nodup_sub_len _ _ (setC_nodup _) fun c hc => (setL_mem hok).1 hc) (nodup_sub_len _ _ hwn fun c hc => (setL_mem hok).2 hc)
  have hle := defi_le h hb
  rw [e1] at hle
  have hwa : ∀ c ∈ wa l (wit l), hasS (regSet l) c = true ∧ C (idx c) ∧ mate (joined (regSet l)) c ∈ wit l := fun c hcm => by
    obtain ⟨h1, b, hbW, hn⟩ := (wa_mem hb).1 hcm
    have hnb : c ∈ nbs b := mem_nbs.2 (by rw [nbr_comm]; exact hn)
    exact ⟨h1, (hc b hbW).1 c hnb h1, (hc b hbW).2 c hnb h1⟩
  have hval : ∀ c ∈ wa l (wit l), idx c < 64 ∧ 0 ≤ gI (joined (regSet l)) (idx c) := fun c hcm => ⟨idx_lt (hasS_ok (hwa c hcm).1), (h.clo _ (hwa c hcm).2.1).1⟩
  have hwan : (wa l (wit l)).Nodup := by unfold wa cellsOf; rw [if_pos hb, if_pos ho]; exact (setC_nodup _).filter _
  have hmn : ((wa l (wit l)).map (mate (joined (regSet l)))).Nodup := by
    refine List.pairwise_map.2 (hwan.imp_of_mem fun {c d} hcm hdm hne e => hne ?_)
    obtain ⟨c1, c2⟩ := hval c hcm
    obtain ⟨d1, d2⟩ := hval d hdm
    have q1 := h.jok.2 _ c1
    have q2 := h.jok.2 _ d1
    unfold mate at e
    have := congrArg idx e
    rw [idx_cN (by omega), idx_cN (by omega)] at this
    exact idx_inj (hasS_ok (hwa c hcm).1) (hasS_ok (hwa d hdm).1) (h.inj c1 d1 c2 (by omega))
  have hnd : (F ++ (wa l (wit l)).map (mate (joined (regSet l)))).Nodup := by
    refine List.nodup_append.2 ⟨h.fn, hmn, fun a ha b hbm' e => ?_⟩
    obtain ⟨c, hcm, rfl⟩ := List.mem_map.1 hbm'
    obtain ⟨c1, c2⟩ := hval c hcm
    exact (h.val c1 c2).2.2.1 (by unfold mate at e; rw [← e]; exact ha)
  have hge : (F ++ (wa l (wit l)).map (mate (joined (regSet l)))).length ≤ (wit l).length := nodup_sub_len _ _ hnd fun x hx => by
    rcases List.mem_append.1 hx with hx | hx
    · exact hF x hx
    · obtain ⟨c, hcm, rfl⟩ := List.mem_map.1 hx
      exact (hwa c hcm).2.2
  rw [List.length_append, List.length_map] at hge
  exact ⟨by omega, e1⟩
/-- all that the law of deficits says -/
theorem frees_F {l : List Int} (ho : regOk l = true) {F : List Cel} {C : Nat → Prop} (h : MI (regSet l) (blk (regSet l)) (joined (regSet l)) F C) : frees l = (F.length : Int) := by
  unfold frees cellsOf
  rw [if_pos ho, (matR_par ho).2.2.2]
  have := fr_eq h
  unfold blk at this
  omega
theorem law_defi {l : List Int} (ho : regOk l = true) : 0 ≤ frees l ∧ defi l (wit l) = frees l ∧ (∀ X, blks l X = true → defi l X ≤ frees l) ∧ ((wa l (wit l)).length : Int) = ((wit l).length : Int) - frees l ∧ ((mtW (joined (regSet l))).length : Int) = ((blk (regSet l)).length : Int) - frees l := by
  obtain ⟨F, C, h⟩ := joined_MI (regSet l)
  have hf := frees_F ho h
  obtain ⟨h1, h2⟩ := defi_wit ho h
  have h3 := fr_eq h
  have hb := (wit_facts ho h).1
  refine ⟨by omega, ?_, fun X hX => ?_, by omega, by omega⟩
  · unfold defi dcount; rw [if_pos hb, h2]; omega
  · have := defi_le h hX
    unfold defi dcount; rw [if_pos hX]; omega
/-- no more dominoes than white cells -/
theorem mtW_white {l : List Int} (ho : regOk l = true) : (mtW (joined (regSet l))).length ≤ ((cellsOf l).filter (fun c => !black c)).length := by
  obtain ⟨F, C, h⟩ := joined_MI (regSet l)
  have := nodup_sub_len ((mtW (joined (regSet l))).map cN) ((cellsOf l).filter (fun c => !black c)) (List.pairwise_map.2 ((mtW_nodup _).imp_of_mem fun {i j} hi hj hne e => hne (by
      have := congrArg idx e
      rwa [idx_cN (mtW_mem.1 hi).1, idx_cN (mtW_mem.1 hj).1] at this))) fun x hx => by
    obtain ⟨i, hi, rfl⟩ := List.mem_map.1 hx
    obtain ⟨i1, i2⟩ := mtW_mem.1 hi
    have hv := h.val i1 i2
    refine List.mem_filter.2 ⟨?_, by rw [hv.2.2.2.2.1]; rfl⟩
    unfold cellsOf; rw [if_pos ho]; exact set_mem.2 hv.2.2.2.1
  rwa [List.length_map] at this


end Cl
end Go.Proofs.Ytjgjeflidcembaa
