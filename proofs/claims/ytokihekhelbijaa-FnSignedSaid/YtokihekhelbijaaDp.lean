/- Walks over clean states, printed by wg.py. No statement is proved here. -/
import Derived.Test.YtokihekhelbijaaP2
import Derived.Test.YtokihekhelbijaaP3
import Derived.Test.YtokihekhelbijaaCH
import Derived.Test.YtokihekhelbijaaP1
import Derived.Test.YtokihekhelbijaaSortS
import Derived.Test.YtokihekhelbijaaEA
import Derived.Test.YtokihekhelbijaaClB
namespace Go.Proofs.Ytokihekhelbijaa
namespace Cl
open Go.ChangeShapes Go.WideShapes Go.ChangeAt Go.RowKit
set_option maxRecDepth 20000
def dOv (a b : Cel) : Dom := if nbr a b then ⟨min a.x b.x, min a.y b.y, decide (a.x = b.x)⟩ else ⟨0, 0, false⟩
theorem SS_ext : ∀ (a b : List Dom), SS a → SS b → (∀ d, d ∈ a ↔ d ∈ b) → a = b := by
  intro a
  induction a with
  | nil =>
    intro b _ _ h
    cases b with
    | nil => rfl
    | cons x b => exact absurd ((h x).2 (by simp)) (by simp)
  | cons x a ih =>
    intro b ha hb h
    cases b with
    | nil => exact absurd ((h x).1 (by simp)) (by simp)
    | cons y b =>
      unfold SS at ha hb
      rw [List.pairwise_cons] at ha hb
      have hxy : x = y := by
        rcases List.mem_cons.1 ((h x).1 (by simp)) with h1 | h1
        · exact h1
        · rcases List.mem_cons.1 ((h y).2 (by simp)) with h2 | h2
          · exact h2.symm
          · have h3 := hb.1 x h1
            have h4 := ha.1 y h2
            omega
      subst hxy
      congr 1
      refine ih b ha.2 hb.2 fun d => ⟨fun hd => ?_, fun hd => ?_⟩
      · rcases List.mem_cons.1 ((h d).1 (by simp [hd])) with rfl | h1
        · have := ha.1 d hd; omega
        · exact h1
      · rcases List.mem_cons.1 ((h d).2 (by simp [hd])) with rfl | h1
        · have := hb.1 d hd; omega
        · exact h1
theorem dom_of {d e : Dom} (h1 : ca d = ca e) (h2 : cb d = cb e) : d = e := by
  obtain ⟨x, y, b⟩ := d
  obtain ⟨x', y', b'⟩ := e
  unfold ca cb at *
  cases b <;> cases b' <;> simp only [Cel.mk.injEq, Bool.false_eq_true, if_false, if_true] at h1 h2 <;> simp <;> omega
theorem nbr_dom {d : Dom} (h1 : okc (ca d).x (ca d).y = true) (h2 : okc (cb d).x (cb d).y = true) : nbr (ca d) (cb d) = true ∧ idx (ca d) < idx (cb d) := by
  refine ⟨?_, ?_⟩
  · unfold nbr
    rw [h1, h2]
    have : iabs ((ca d).x - (cb d).x) + iabs ((ca d).y - (cb d).y) = 1 := by
      unfold ca cb iabs
      cases d.d <;> simp only [Bool.false_eq_true, if_false, if_true] <;> split <;> split <;> omega
    rw [this]; rfl
  · have q1 := okc_true.1 h1
    have q2 := okc_true.1 h2
    unfold idx
    unfold ca cb at *
    cases hb : d.d <;> simp only [hb, Bool.false_eq_true, if_false, if_true] at * <;> omega
theorem firstC_has {s : Nat} (hs : s < 18446744073709551616) (h0 : s ≠ 0) : hasS s (cN (firstI s)) = true := by
  obtain ⟨h1, h2⟩ := firstI_lt hs h0
  have hok : okc (cN (firstI s)).x (cN (firstI s)).y = true := cN_ok h1
  unfold hasS
  rw [hok, idx_cN h1, h2]; rfl
theorem sg_pm (n : Int) : sg n = 1 ∨ sg n = -1 := by unfold sg; split <;> simp
theorem sg_one (n : Int) : sg (n + 1) = -(sg n) := sg_succ n
theorem til_has {s : Nat} {P : List Dom} (h : TilS s P) {d : Dom} (hd : d ∈ P) : hasS s (ca d) = true ∧ hasS s (cb d) = true := by
  have ho := h.ok d hd
  have key : ∀ c, okc c.x c.y = true → cin d (idx c) = true → hasS s c = true := fun c hc hi => by
    have hp := cvN_pos hd hi
    rw [h.cv] at hp
    unfold hasS; rw [hc]
    cases hz : s.testBit (idx c)
    · rw [hz] at hp; simp at hp
    · rfl
  exact ⟨key _ (ok_ca ho) (cin_a d), key _ (ok_cb ho) (by unfold cin; simp)⟩
theorem flip_mem {s : Nat} {P : List Dom} {c : Cel} (h : TilS s P) (hc : canB P c.x c.y = true) (d : Dom) :
    d ∈ flipAt P c ↔ d = pr0 c (acB P c.x c.y) ∨ d = pr1 c (acB P c.x c.y) ∨ (d ∈ P ∧ d ≠ pr0 c (!(acB P c.x c.y)) ∧ d ≠ pr1 c (!(acB P c.x c.y))) := by
  obtain ⟨_, p2, _, _⟩ := flip_parts h hc
  have e0 : flipAt P c = flipD P c := by unfold flipAt; rw [if_pos hc]
  rw [e0, p2.mem_iff, List.mem_cons, List.mem_cons, List.mem_filter, kp_eq]
  simp only [Bool.and_eq_true, bne_iff_ne]
theorem roots_one {nb : Nat → List Nat} {ok : Nat → Bool} (h0 : ok 0 = true) : ∀ k, (∀ j, 0 < j → j < k → ok j = true → ∃ i, i < j ∧ ok i = true ∧ j ∈ nb i) → 0 < k → roots nb ok k = 1 := by
  intro k
  induction k with
  | zero => intro _ h; omega
  | succ k ih =>
    intro h _
    rcases Nat.eq_zero_or_pos k with rfl | hk
    · rw [roots_yes ⟨h0, fun i hi => by omega⟩]; unfold roots; simp
    · rw [roots_no (fun hr => ?_)]
      · exact ih (fun j h1 h2 => h j h1 (by omega)) hk
      · obtain ⟨i, h1, h2, h3⟩ := h k hk (Nat.lt_succ_self k) hr.1
        exact hr.2 i h1 h2 (.step _ _ .root h3 hr.1)
theorem piece_cert {s : Nat} (hs : s < 18446744073709551616) (h0 : s ≠ 0) (h : ∀ c, hasS s c = true → c ≠ cN (firstI s) → ∃ d, hasS s d = true ∧ idx d < idx c ∧ c ∈ nbs d) : piecesN s = 1 := by
  have h1 := firstC_has hs h0
  have hlt := (firstI_lt hs h0).1
  have hr : rootC s (cN (firstI s)) := fun d hd hi => by
    rw [idx_cN hlt] at hi
    have := firstI_min hi
    unfold hasS at hd
    rw [this] at hd
    simp at hd
  unfold piecesN rootsP
  have e : (setCells s).filter (fun c => @decide (idx c < 64 ∧ rootC s c) (Classical.propDecidable _)) = [cN (firstI s)] := by
    have hn := (setCells_nodup s).filter (fun c => @decide (idx c < 64 ∧ rootC s c) (Classical.propDecidable _))
    have hm : ∀ c, c ∈ (setCells s).filter (fun c => @decide (idx c < 64 ∧ rootC s c) (Classical.propDecidable _)) ↔ c = cN (firstI s) := fun c => by
      rw [List.mem_filter, set_mem]
      simp only [decide_eq_true_eq]
      constructor
      · rintro ⟨q1, _, q3⟩
        refine Classical.byContradiction fun hne => ?_
        obtain ⟨d, d1, d2, d3⟩ := h c q1 hne
        exact q3 d d1 d2 (.step _ _ .root d3 q1)
      · rintro rfl
        exact ⟨h1, idx_lt (hasS_ok h1), hr⟩
    refine List.perm_singleton.1 ((List.perm_ext_iff_of_nodup hn (by simp)).2 fun c => ?_)
    rw [hm, List.mem_singleton]
  have : ∀ (inst : DecidablePred fun c => idx c < 64 ∧ rootC s c), ((setCells s).filter (fun c => @decide (idx c < 64 ∧ rootC s c) (inst c))).length = 1 := fun inst => by
    rw [show (fun c => @decide (idx c < 64 ∧ rootC s c) (inst c)) = fun c => @decide (idx c < 64 ∧ rootC s c) (Classical.propDecidable _) from funext fun c => by congr]
    rw [e]; rfl
  exact this _
theorem reg44 : regSet (rectR 4 4) = 252645135 := by decide +kernel
theorem sim44 : simB (rectR 4 4) = true := by
  have hr : regOk (rectR 4 4) = true := by decide +kernel
  have hl : regSet (rectR 4 4) < 18446744073709551616 := regSet_lt hr
  have h0 : regSet (rectR 4 4) ≠ 0 := by rw [reg44]; decide
  unfold simB
  rw [hr, Bool.true_and, Bool.and_eq_true, Bool.and_eq_true, decide_eq_true_eq, decide_eq_true_eq]
  refine ⟨piece_cert hl h0 fun c hc hne => ?_, ?_, by rw [reg44]; decide +kernel⟩
  · have hok := hasS_ok hc
    have key : ∀ i, i < 64 → (252645135 : Nat).testBit i = true → i ≠ 0 → ∃ j, j < i ∧ (252645135 : Nat).testBit j = true ∧ nbr (cN j) (cN i) = true := by decide +kernel
    have hb : (252645135 : Nat).testBit (idx c) = true := by rw [← reg44]; unfold hasS at hc; rw [hok, Bool.true_and] at hc; exact hc
    have hf : firstI (regSet (rectR 4 4)) = 0 := by rw [reg44]; decide +kernel
    rw [hf] at hne
    have hi := idx_lt hok
    have hci : cN (idx c) = c := cN_idx hok
    obtain ⟨j, j1, j2, j3⟩ := key (idx c) hi hb (fun e => hne (by rw [← hci, e]))
    refine ⟨cN j, ?_, by rw [idx_cN (by omega)]; exact j1, by rw [mem_nbs, ← hci]; exact j3⟩
    unfold hasS
    rw [cN_ok (by omega), idx_cN (by omega), reg44, j2]; rfl
  · unfold holesN
    refine roots_one (by rw [reg44]; decide +kernel) 100 ?_ (by decide)
    rw [reg44]
    have key : ((List.range 100).all fun j => decide (j = 0) || !(free10 252645135 j) || (List.range j).any fun i => free10 252645135 i && decide (j ∈ nb10 i)) = true := by decide +kernel
    intro j h0 h1 h2
    rw [List.all_eq_true] at key
    have := key j (List.mem_range.2 h1)
    rw [h2] at this
    simp only [Bool.not_true, Bool.or_false, Bool.or_eq_true, decide_eq_true_eq, List.any_eq_true, Bool.and_eq_true] at this
    rcases this with e | ⟨i, i1, i2, i3⟩
    · omega
    · exact ⟨i, List.mem_range.1 i1, i2, i3⟩


end Cl
end Go.Proofs.Ytokihekhelbijaa
