/- Walks over clean states, printed by wg.py. No statement is proved here. -/
import Derived.Test.YtonlghbbdcddoaaC32
import Derived.Test.YtonlghbbdcddoaaP1
import Derived.Test.YtonlghbbdcddoaaP3
import Derived.Test.YtonlghbbdcddoaaHs
import Derived.Test.YtonlghbbdcddoaaE3
import Derived.Test.YtonlghbbdcddoaaClB
namespace Go.Proofs.Ytonlghbbdcddoaa
namespace Cl
open Go.ChangeShapes Go.WideShapes Go.ChangeAt Go.RowKit
set_option maxRecDepth 20000
/-! heights as the laws want them: all corners of cells are reached -/
theorem root_ex {s : Nat} : ∀ (n : Nat) (c : Cel), idx c ≤ n → hasS s c = true → ∃ d, hasS s d = true ∧ rootC s d ∧ PR s d c := by
  intro n
  induction n with
  | zero => intro c hn hc; exact ⟨c, hc, fun d _ hd => by omega, .root⟩
  | succ n ih =>
    intro c hn hc
    by_cases hr : rootC s c
    · exact ⟨c, hc, hr, .root⟩
    · unfold rootC at hr
      simp only [Classical.not_forall, Classical.not_not] at hr
      obtain ⟨d, h1, h2, h3⟩ := hr
      obtain ⟨e, g1, g2, g3⟩ := ih d (by omega) h1
      exact ⟨e, g1, g2, g3.trans h3⟩
theorem firstC_has {s : Nat} (hs : s < 18446744073709551616) (h0 : s ≠ 0) : hasS s (cN (firstI s)) = true := by
  obtain ⟨h1, h2⟩ := firstI_lt hs h0
  have hok : okc (cN (firstI s)).x (cN (firstI s)).y = true := cN_ok h1
  unfold hasS
  rw [hok, idx_cN h1, h2]; rfl
theorem piece_one {s : Nat} (h : piecesN s = 1) (hs : s < 18446744073709551616) (h0 : s ≠ 0) {c : Cel} (hc : hasS s c = true) : PR s (cN (firstI s)) c := by
  have h1 := firstC_has hs h0
  have hlt := (firstI_lt hs h0).1
  have hr : rootC s (cN (firstI s)) := fun d hd hi => by
    rw [idx_cN hlt] at hi
    have := firstI_min hi
    unfold hasS at hd
    rw [this] at hd
    simp at hd
  obtain ⟨d, g1, g2, g3⟩ := root_ex (s := s) _ c (Nat.le_refl _) hc
  unfold piecesN rootsP at h
  obtain ⟨z, hz⟩ := List.length_eq_one_iff.1 h
  have m : ∀ e, hasS s e = true → rootC s e → e = z := fun e he hre => by
    have : e ∈ [z] := by
      rw [← hz]
      exact List.mem_filter.2 ⟨set_mem.2 he, by simp only [decide_eq_true_eq]; exact ⟨idx_lt (hasS_ok he), hre⟩⟩
    simpa using this
  rw [m _ h1 hr, ← m d g1 g2]; exact g3
def vx (x y : Int) : Nat := (y * 9 + x).toNat
theorem vx_c {x y : Int} (hx : 0 ≤ x ∧ x ≤ 8) (hy : 0 ≤ y ∧ y ≤ 8) : vx x y < 81 ∧ cX (vx x y) = x ∧ cY (vx x y) = y := by
  unfold cX cY vx; omega
theorem vx_of {u : Nat} : u = vx (cX u) (cY u) := by unfold vx cX cY; omega
def Rv (l : List Int) (ds : List Dom) (v : Nat) : Prop := GReach (hnb dirI) (opE (regSet l) ds) (stU (regSet l)) v
theorem opE_h {s : Nat} {ds : List Dom} {x y : Int} (hx : 0 ≤ x ∧ x ≤ 7) (hy : 0 ≤ y ∧ y ≤ 8) : opE s ds (vx x y) (vx (x + 1) y) = opH s ds x y ∧ opE s ds (vx (x + 1) y) (vx x y) = opH s ds x y := by
  obtain ⟨_, a1, a2⟩ := vx_c (x := x) (y := y) (by omega) hy
  obtain ⟨_, b1, b2⟩ := vx_c (x := x + 1) (y := y) (by omega) hy
  unfold opE
  rw [a1, a2, b1, b2]
  exact ⟨by rw [if_pos ⟨rfl, rfl⟩], by rw [if_neg (by omega), if_pos ⟨rfl, rfl⟩]⟩
theorem opE_v {s : Nat} {ds : List Dom} {x y : Int} (hx : 0 ≤ x ∧ x ≤ 8) (hy : 0 ≤ y ∧ y ≤ 7) : opE s ds (vx x y) (vx x (y + 1)) = opV s ds x y ∧ opE s ds (vx x (y + 1)) (vx x y) = opV s ds x y := by
  obtain ⟨_, a1, a2⟩ := vx_c (x := x) (y := y) hx (by omega)
  obtain ⟨_, b1, b2⟩ := vx_c (x := x) (y := y + 1) hx (by omega)
  unfold opE
  rw [a1, a2, b1, b2]
  exact ⟨by rw [if_neg (by omega), if_neg (by omega), if_pos ⟨rfl, rfl⟩], by rw [if_neg (by omega), if_neg (by omega), if_neg (by omega), if_pos ⟨rfl, rfl⟩]⟩
theorem hnb_vx {x y dx dy : Int} {t : Nat} (ht : t < 4) (hd : dirI t = (dx, dy)) (hx : 0 ≤ x ∧ x ≤ 8) (hy : 0 ≤ y ∧ y ≤ 8) (hx2 : 0 ≤ x + dx ∧ x + dx ≤ 8) (hy2 : 0 ≤ y + dy ∧ y + dy ≤ 8) : vx (x + dx) (y + dy) ∈ hnb dirI (vx x y) := by
  obtain ⟨_, a1, a2⟩ := vx_c hx hy
  refine mem_hnb.2 ⟨t, ht, ?_, ?_⟩
  · unfold inD; rw [hd, a1, a2, Bool.and_eq_true]; exact ⟨inB_true.2 (by dsimp only; omega), inB_true.2 (by dsimp only; omega)⟩
  · unfold atU; rw [hd, a1, a2]; rfl
theorem Rv_h {l : List Int} {ds : List Dom} {x y : Int} (hx : 0 ≤ x ∧ x ≤ 7) (hy : 0 ≤ y ∧ y ≤ 8) (ho : opH (regSet l) ds x y = true) : Rv l ds (vx x y) ↔ Rv l ds (vx (x + 1) y) := by
  obtain ⟨e1, e2⟩ := opE_h (s := regSet l) (ds := ds) hx hy
  have n1 := hnb_vx (x := x) (y := y) (dx := 1) (dy := 0) (t := 0) (by decide) rfl (by omega) hy (by omega) (by omega)
  have n2 := hnb_vx (x := x + 1) (y := y) (dx := -1) (dy := 0) (t := 1) (by decide) rfl (by omega) hy (by omega) (by omega)
  rw [show y + 0 = y by omega] at n1 n2
  rw [show x + 1 + -1 = x by omega] at n2
  exact ⟨fun h => .step _ _ h n1 (e1.trans ho), fun h => .step _ _ h n2 (e2.trans ho)⟩
theorem Rv_v {l : List Int} {ds : List Dom} {x y : Int} (hx : 0 ≤ x ∧ x ≤ 8) (hy : 0 ≤ y ∧ y ≤ 7) (ho : opV (regSet l) ds x y = true) : Rv l ds (vx x y) ↔ Rv l ds (vx x (y + 1)) := by
  obtain ⟨e1, e2⟩ := opE_v (s := regSet l) (ds := ds) hx hy
  have n1 := hnb_vx (x := x) (y := y) (dx := 0) (dy := 1) (t := 2) (by decide) rfl hx (by omega) (by omega) (by omega)
  have n2 := hnb_vx (x := x) (y := y + 1) (dx := 0) (dy := -1) (t := 3) (by decide) rfl hx (by omega) (by omega) (by omega)
  rw [show x + 0 = x by omega] at n1 n2
  rw [show y + 1 + -1 = y by omega] at n2
  exact ⟨fun h => .step _ _ h n1 (e1.trans ho), fun h => .step _ _ h n2 (e2.trans ho)⟩
theorem val_h {l : List Int} {ds : List Dom} (ht : isTil l ds = true) (hs : simB l = true) {x y : Int} (hx : 0 ≤ x ∧ x ≤ 7) (hy : 0 ≤ y ∧ y ≤ 8) (ho : opH (regSet l) ds x y = true) : valF l ds (vx (x + 1) y) = valF l ds (vx x y) + sg (x + y) := by
  obtain ⟨a0, a1, a2⟩ := vx_c (x := x) (y := y) (by omega) hy
  obtain ⟨b0, b1, b2⟩ := vx_c (x := x + 1) (y := y) (by omega) hy
  rw [valF_step ht hs a0 b0 ((opE_h hx hy).1.trans ho)]
  unfold stE; rw [a1, a2, b2, if_pos rfl]
theorem val_v {l : List Int} {ds : List Dom} (ht : isTil l ds = true) (hs : simB l = true) {x y : Int} (hx : 0 ≤ x ∧ x ≤ 8) (hy : 0 ≤ y ∧ y ≤ 7) (ho : opV (regSet l) ds x y = true) : valF l ds (vx x (y + 1)) = valF l ds (vx x y) - sg (x + y) := by
  obtain ⟨a0, a1, a2⟩ := vx_c (x := x) (y := y) hx (by omega)
  obtain ⟨b0, b1, b2⟩ := vx_c (x := x) (y := y + 1) hx (by omega)
  rw [valF_step ht hs a0 b0 ((opE_v hx hy).1.trans ho)]
  unfold stE; rw [a1, a2, b2, if_neg (by omega)]; omega
/-- of the four sides of a cell just one is crossed by a domino -/
structure Sd (ds : List Dom) (x y : Int) : Prop where
  some : (⟨x, y - 1, true⟩ : Dom) ∈ ds ∨ (⟨x, y, true⟩ : Dom) ∈ ds ∨ (⟨x - 1, y, false⟩ : Dom) ∈ ds ∨ (⟨x, y, false⟩ : Dom) ∈ ds
  tb : ¬ ((⟨x, y - 1, true⟩ : Dom) ∈ ds ∧ (⟨x, y, true⟩ : Dom) ∈ ds)
  tl : ¬ ((⟨x, y - 1, true⟩ : Dom) ∈ ds ∧ (⟨x - 1, y, false⟩ : Dom) ∈ ds)
  tr : ¬ ((⟨x, y - 1, true⟩ : Dom) ∈ ds ∧ (⟨x, y, false⟩ : Dom) ∈ ds)
  bl : ¬ ((⟨x, y, true⟩ : Dom) ∈ ds ∧ (⟨x - 1, y, false⟩ : Dom) ∈ ds)
  br : ¬ ((⟨x, y, true⟩ : Dom) ∈ ds ∧ (⟨x, y, false⟩ : Dom) ∈ ds)
  lr : ¬ ((⟨x - 1, y, false⟩ : Dom) ∈ ds ∧ (⟨x, y, false⟩ : Dom) ∈ ds)
theorem sides {l : List Int} {ds : List Dom} (h : isTil l ds = true) {c : Cel} (hc : hasS (regSet l) c = true) : Sd ds c.x c.y := by
  have hp : isPar l ds = true := by unfold isTil at h; simp only [Bool.and_eq_true] at h; exact h.1
  have k1 : (⟨c.x, c.y - 1, true⟩ : Dom) ∈ ds → cvr c ⟨c.x, c.y - 1, true⟩ = true := fun m => cvr_of (par_okd hp m) (.inr (by unfold cb; simp))
  have k2 : (⟨c.x, c.y, true⟩ : Dom) ∈ ds → cvr c ⟨c.x, c.y, true⟩ = true := fun m => cvr_of (par_okd hp m) (.inl (by unfold ca; rfl))
  have k3 : (⟨c.x - 1, c.y, false⟩ : Dom) ∈ ds → cvr c ⟨c.x - 1, c.y, false⟩ = true := fun m => cvr_of (par_okd hp m) (.inr (by unfold cb; simp))
  have k4 : (⟨c.x, c.y, false⟩ : Dom) ∈ ds → cvr c ⟨c.x, c.y, false⟩ = true := fun m => cvr_of (par_okd hp m) (.inl (by unfold ca; rfl))
  refine ⟨?_, ?_, ?_, ?_, ?_, ?_, ?_⟩
  · obtain ⟨d, hd, hcv⟩ := til_cover h hc
    have := cvr_four hcv
    unfold four_ at this
    simp only [List.mem_cons, List.not_mem_nil, or_false] at this
    rcases this with rfl | rfl | rfl | rfl
    · exact .inr (.inr (.inr hd))
    · exact .inr (.inl hd)
    · exact .inr (.inr (.inl hd))
    · exact .inl hd
  · rintro ⟨m1, m2⟩; have := par_once hp m1 m2 (k1 m1) (k2 m2); simp at this; omega
  · rintro ⟨m1, m2⟩; have := par_once hp m1 m2 (k1 m1) (k3 m2); simp at this
  · rintro ⟨m1, m2⟩; have := par_once hp m1 m2 (k1 m1) (k4 m2); simp at this
  · rintro ⟨m1, m2⟩; have := par_once hp m1 m2 (k2 m1) (k3 m2); simp at this
  · rintro ⟨m1, m2⟩; have := par_once hp m1 m2 (k2 m1) (k4 m2); simp at this
  · rintro ⟨m1, m2⟩; have := par_once hp m1 m2 (k3 m1) (k4 m2); simp at this; omega
theorem opH_of {s : Nat} {ds : List Dom} {x y : Int} (h : hasS s ⟨x, y - 1⟩ = true ∨ hasS s ⟨x, y⟩ = true) (hn : (⟨x, y - 1, true⟩ : Dom) ∉ ds) : opH s ds x y = true := by
  unfold opH
  rw [decide_eq_false hn]
  rcases h with h | h <;> rw [h] <;> simp
theorem opV_of {s : Nat} {ds : List Dom} {x y : Int} (h : hasS s ⟨x - 1, y⟩ = true ∨ hasS s ⟨x, y⟩ = true) (hn : (⟨x - 1, y, false⟩ : Dom) ∉ ds) : opV s ds x y = true := by
  unfold opV
  rw [decide_eq_false hn]
  rcases h with h | h <;> rw [h] <;> simp
/-- the sides of a cell that are open -/
theorem cell_op {l : List Int} {ds : List Dom} {x y : Int} (hc : hasS (regSet l) ⟨x, y⟩ = true) :
    ((⟨x, y - 1, true⟩ : Dom) ∉ ds → opH (regSet l) ds x y = true) ∧ ((⟨x, y, true⟩ : Dom) ∉ ds → opH (regSet l) ds x (y + 1) = true) ∧
    ((⟨x - 1, y, false⟩ : Dom) ∉ ds → opV (regSet l) ds x y = true) ∧ ((⟨x, y, false⟩ : Dom) ∉ ds → opV (regSet l) ds (x + 1) y = true) := by
  refine ⟨fun h => opH_of (.inr hc) h, fun h => opH_of (.inl ?_) ?_, fun h => opV_of (.inr hc) h, fun h => opV_of (.inl ?_) ?_⟩
  · rw [show y + 1 - 1 = y by omega]; exact hc
  · rw [show y + 1 - 1 = y by omega]; exact h
  · rw [show x + 1 - 1 = x by omega]; exact hc
  · rw [show x + 1 - 1 = x by omega]; exact h
theorem cell_all {l : List Int} {ds : List Dom} (ht : isTil l ds = true) {x y : Int} (hc : hasS (regSet l) ⟨x, y⟩ = true) :
    (Rv l ds (vx x y) ↔ Rv l ds (vx (x + 1) y)) ∧ (Rv l ds (vx x y) ↔ Rv l ds (vx x (y + 1))) ∧ (Rv l ds (vx x y) ↔ Rv l ds (vx (x + 1) (y + 1))) := by
  have hb := okc_true.1 (hasS_ok hc)
  dsimp only at hb
  obtain ⟨o1, o2, o3, o4⟩ := cell_op (ds := ds) hc
  have S := sides ht hc
  dsimp only at S
  have e1 : (⟨x, y - 1, true⟩ : Dom) ∉ ds → (Rv l ds (vx x y) ↔ Rv l ds (vx (x + 1) y)) := fun h => Rv_h (by omega) (by omega) (o1 h)
  have e2 : (⟨x, y, true⟩ : Dom) ∉ ds → (Rv l ds (vx x (y + 1)) ↔ Rv l ds (vx (x + 1) (y + 1))) := fun h => Rv_h (by omega) (by omega) (o2 h)
  have e3 : (⟨x - 1, y, false⟩ : Dom) ∉ ds → (Rv l ds (vx x y) ↔ Rv l ds (vx x (y + 1))) := fun h => Rv_v (by omega) (by omega) (o3 h)
  have e4 : (⟨x, y, false⟩ : Dom) ∉ ds → (Rv l ds (vx (x + 1) y) ↔ Rv l ds (vx (x + 1) (y + 1))) := fun h => Rv_v (by omega) (by omega) (o4 h)
  obtain ⟨s0, s1, s2, s3, s4, s5, s6⟩ := S
  rcases s0 with m | m | m | m
  · have f2 := e2 fun h => s1 ⟨m, h⟩
    have f3 := e3 fun h => s2 ⟨m, h⟩
    have f4 := e4 fun h => s3 ⟨m, h⟩
    exact ⟨f3.trans (f2.trans f4.symm), f3, f3.trans f2⟩
  · have f1 := e1 fun h => s1 ⟨h, m⟩
    have f3 := e3 fun h => s4 ⟨m, h⟩
    have f4 := e4 fun h => s5 ⟨m, h⟩
    exact ⟨f1, f3, f1.trans f4⟩
  · have f1 := e1 fun h => s2 ⟨h, m⟩
    have f2 := e2 fun h => s4 ⟨h, m⟩
    have f4 := e4 fun h => s6 ⟨m, h⟩
    exact ⟨f1, f1.trans (f4.trans f2.symm), f1.trans f4⟩
  · have f1 := e1 fun h => s3 ⟨h, m⟩
    have f2 := e2 fun h => s5 ⟨h, m⟩
    have f3 := e3 fun h => s6 ⟨h, m⟩
    exact ⟨f1, f3, f3.trans f2⟩
def Crn (l : List Int) (ds : List Dom) (c : Cel) : Prop := Rv l ds (vx c.x c.y) ∧ Rv l ds (vx (c.x + 1) c.y) ∧ Rv l ds (vx c.x (c.y + 1)) ∧ Rv l ds (vx (c.x + 1) (c.y + 1))
theorem crn_of {l : List Int} {ds : List Dom} (ht : isTil l ds = true) {c : Cel} (hc : hasS (regSet l) c = true) (h : Rv l ds (vx c.x c.y) ∨ Rv l ds (vx (c.x + 1) c.y) ∨ Rv l ds (vx c.x (c.y + 1)) ∨ Rv l ds (vx (c.x + 1) (c.y + 1))) : Crn l ds c := by
  obtain ⟨a1, a2, a3⟩ := cell_all (ds := ds) ht (x := c.x) (y := c.y) hc
  have h0 : Rv l ds (vx c.x c.y) := by
    rcases h with h | h | h | h
    · exact h
    · exact a1.2 h
    · exact a2.2 h
    · exact a3.2 h
  exact ⟨h0, a1.1 h0, a2.1 h0, a3.1 h0⟩
/-- all corners of all cells are reached -/
theorem crn_all {l : List Int} {ds : List Dom} (ht : isTil l ds = true) (hs : simB l = true) {c : Cel} (hc : hasS (regSet l) c = true) : Crn l ds c := by
  obtain ⟨hr, hp, _, _⟩ := simB_ok hs
  have hne := sim_ne hs
  have hlt := regSet_lt hr
  have hpr := piece_one hp hlt hne hc
  have h1 := firstC_has hlt hne
  have hq : Crn l ds (cN (firstI (regSet l))) := by
    refine crn_of ht h1 (.inl ?_)
    have : vx (cN (firstI (regSet l))).x (cN (firstI (regSet l))).y = stU (regSet l) := by
      unfold vx stU cN; dsimp only; omega
    rw [this]; exact .root
  clear hc
  induction hpr with
  | root => exact hq
  | step p q hpp hqq hok ih =>
    have hqh : hasS (regSet l) q = true := hok
    obtain ⟨i1, i2, i3, i4⟩ := ih
    rw [mem_nbs] at hqq
    unfold nbr at hqq
    simp only [Bool.and_eq_true, decide_eq_true_eq] at hqq
    obtain ⟨⟨g1, g2⟩, g3⟩ := hqq
    refine crn_of ht hqh ?_
    unfold iabs at g3
    have hcase : (q.x = p.x + 1 ∧ q.y = p.y) ∨ (q.x = p.x - 1 ∧ q.y = p.y) ∨ (q.x = p.x ∧ q.y = p.y + 1) ∨ (q.x = p.x ∧ q.y = p.y - 1) := by
      split at g3 <;> split at g3 <;> omega
    rcases hcase with ⟨e1, e2⟩ | ⟨e1, e2⟩ | ⟨e1, e2⟩ | ⟨e1, e2⟩
    · left; rw [e1, e2]; exact i2
    · right; left; rw [e1, e2, show p.x - 1 + 1 = p.x by omega]; exact i1
    · left; rw [e1, e2]; exact i3
    · right; right; left; rw [e1, e2, show p.y - 1 + 1 = p.y by omega]; exact i1
theorem gI_hts {l : List Int} {ds : List Dom} {v : Nat} (hv : v < 81) (h : Rv l ds v) : gI (htsF l ds) v = valF l ds v := by
  rw [gI_eq (by rw [htsF_len]; exact hv)]
  unfold htsF
  rw [List.getElem_map, List.getElem_range]; exact if_pos h
theorem gI_htsN {l : List Int} {ds : List Dom} {v : Nat} (hv : v < 81) (h : ¬ Rv l ds v) : gI (htsF l ds) v = -1000 := by
  rw [gI_eq (by rw [htsF_len]; exact hv)]
  unfold htsF
  rw [List.getElem_map, List.getElem_range]; exact if_neg h

/-! heights tell the tiling; flips change one height -/
theorem sg_pm (n : Int) : sg n = 1 ∨ sg n = -1 := by unfold sg; split <;> simp
theorem sg_one (n : Int) : sg (n + 1) = -(sg n) := sg_succ n
theorem val_cell {l : List Int} {ds : List Dom} (ht : isTil l ds = true) (hs : simB l = true) {x y : Int} (hc : hasS (regSet l) ⟨x, y⟩ = true) :
    ((⟨x, y, false⟩ : Dom) ∈ ds → valF l ds (vx (x + 1) (y + 1)) = valF l ds (vx (x + 1) y) - 3 * sg (x + y)) ∧
    ((⟨x, y, false⟩ : Dom) ∉ ds → valF l ds (vx (x + 1) (y + 1)) = valF l ds (vx (x + 1) y) + sg (x + y)) ∧
    ((⟨x, y, true⟩ : Dom) ∈ ds → valF l ds (vx (x + 1) (y + 1)) = valF l ds (vx x (y + 1)) + 3 * sg (x + y)) ∧
    ((⟨x, y, true⟩ : Dom) ∉ ds → valF l ds (vx (x + 1) (y + 1)) = valF l ds (vx x (y + 1)) - sg (x + y)) := by
  have hb := okc_true.1 (hasS_ok hc)
  dsimp only at hb
  obtain ⟨o1, o2, o3, o4⟩ := cell_op (ds := ds) hc
  have S := sides ht hc
  dsimp only at S
  have e1 : (⟨x, y - 1, true⟩ : Dom) ∉ ds → valF l ds (vx (x + 1) y) = valF l ds (vx x y) + sg (x + y) := fun h => val_h ht hs (by omega) (by omega) (o1 h)
  have e2 : (⟨x, y, true⟩ : Dom) ∉ ds → valF l ds (vx (x + 1) (y + 1)) = valF l ds (vx x (y + 1)) - sg (x + y) := fun h => by
    have := val_h ht hs (x := x) (y := y + 1) (by omega) (by omega) (o2 h)
    rw [show x + (y + 1) = (x + y) + 1 by omega, sg_one] at this; omega
  have e3 : (⟨x - 1, y, false⟩ : Dom) ∉ ds → valF l ds (vx x (y + 1)) = valF l ds (vx x y) - sg (x + y) := fun h => val_v ht hs (by omega) (by omega) (o3 h)
  have e4 : (⟨x, y, false⟩ : Dom) ∉ ds → valF l ds (vx (x + 1) (y + 1)) = valF l ds (vx (x + 1) y) + sg (x + y) := fun h => by
    have := val_v ht hs (x := x + 1) (y := y) (by omega) (by omega) (o4 h)
    rw [show x + 1 + y = (x + y) + 1 by omega, sg_one] at this; omega
  obtain ⟨s0, s1, s2, s3, s4, s5, s6⟩ := S
  refine ⟨fun m => ?_, e4, fun m => ?_, e2⟩
  · have f1 := e1 fun h => s3 ⟨h, m⟩
    have f2 := e2 fun h => s5 ⟨h, m⟩
    have f3 := e3 fun h => s6 ⟨h, m⟩
    omega
  · have f1 := e1 fun h => s1 ⟨h, m⟩
    have f3 := e3 fun h => s4 ⟨m, h⟩
    have f4 := e4 fun h => s5 ⟨m, h⟩
    omega
theorem hts_small {l : List Int} {ds : List Dom} (ht : isTil l ds = true) (hs : simB l = true) (v : Nat) : -1000 ≤ gI (htsF l ds) v ∧ gI (htsF l ds) v ≤ 80 := by
  have := hts_val (l := l) (ds := ds) v
  rwa [hts_yes (by rw [hs, ht]; rfl)] at this
theorem e3_eq {u v : Int} (hu : -1000 ≤ u ∧ u ≤ 80) (hv : -1000 ≤ v ∧ v ≤ 80) : e3 u v = true ↔ (u = v + 3 ∨ v = u + 3) := by
  unfold e3 sW
  rw [wrapE, wrapE, Bool.or_eq_true, decide_eq_true_eq, decide_eq_true_eq]
  omega
/-- heights tell which dominoes there are -/
theorem spC_iff {l : List Int} {ds : List Dom} (ht : isTil l ds = true) (hs : simB l = true) {x y : Int} (b : Bool) (hc : hasS (regSet l) ⟨x, y⟩ = true) : spC (htsF l ds) ⟨x, y, b⟩ = true ↔ (⟨x, y, b⟩ : Dom) ∈ ds := by
  have hb := okc_true.1 (hasS_ok hc)
  dsimp only at hb
  obtain ⟨v1, v2, v3, v4⟩ := val_cell ht hs hc
  obtain ⟨c1, c2, c3, c4⟩ := crn_all ht hs hc
  dsimp only at c1 c2 c3 c4
  have k2 := (vx_c (x := x + 1) (y := y) (by omega) (by omega)).1
  have k3 := (vx_c (x := x) (y := y + 1) (by omega) (by omega)).1
  have k4 := (vx_c (x := x + 1) (y := y + 1) (by omega) (by omega)).1
  have hp := sg_pm (x + y)
  cases b
  · have e := spC_h (htsF l ds) ⟨x, y⟩
    dsimp only at e
    rw [e, show (y * 9 + x + 1).toNat = vx (x + 1) y by unfold vx; omega, show ((y + 1) * 9 + x + 1).toNat = vx (x + 1) (y + 1) by unfold vx; omega, e3_eq (hts_small ht hs _) (hts_small ht hs _), gI_hts k2 c2, gI_hts k4 c4]
    constructor
    · intro h
      refine Classical.byContradiction fun hn => ?_
      have := v2 hn; omega
    · intro h; have := v1 h; omega
  · have e := spC_v (htsF l ds) ⟨x, y⟩
    dsimp only at e
    rw [e, show ((y + 1) * 9 + x).toNat = vx x (y + 1) by unfold vx; omega, show ((y + 1) * 9 + x + 1).toNat = vx (x + 1) (y + 1) by unfold vx; omega, e3_eq (hts_small ht hs _) (hts_small ht hs _), gI_hts k3 c3, gI_hts k4 c4]
    constructor
    · intro h
      refine Classical.byContradiction fun hn => ?_
      have := v4 hn; omega
    · intro h; have := v3 h; omega

/-! TilingFrom after HeightsOf; corners that are reached -/
theorem til_has {s : Nat} {P : List Dom} (h : TilS s P) {d : Dom} (hd : d ∈ P) : hasS s (ca d) = true ∧ hasS s (cb d) = true := by
  have ho := h.ok d hd
  have key : ∀ c, okc c.x c.y = true → cin d (idx c) = true → hasS s c = true := fun c hc hi => by
    have hp := cvN_pos hd hi
    rw [h.cv] at hp
    unfold hasS; rw [hc]
    cases hz : s.testBit (idx c)
    · rw [hz] at hp; simp at hp
    · rfl
  exact ⟨key _ (ok_ca ho) (cin_a d), key _ (ok_cb ho) (by unfold cin; simp)⟩
theorem tf_same {l : List Int} {P : List Dom} (hs : simB l = true) (h : TilS (regSet l) P) : tfDs (regSet l) (htsF l P) = P := by
  have ho := (simB_ok hs).1
  have ht := til_isTil ho h
  refine SS_ext _ _ (tfL_SS _ (Nat.le_refl _)).1 ?_ fun d => ?_
  · unfold SS
    refine (List.Pairwise.imp_of_mem ?_ h.so)
    intro a b ha hb hlt
    rw [ord_ord (h.ok a ha), ord_ord (h.ok b hb)]; omega
  · rw [mem_tfDs]
    constructor
    · rintro ⟨h1, _, h3⟩
      exact (spC_iff (l := l) (ds := P) ht hs (x := d.x) (y := d.y) d.d h1).1 h3
    · intro hd
      obtain ⟨h1, h2⟩ := til_has h hd
      exact ⟨h1, h2, (spC_iff (l := l) (ds := P) ht hs (x := d.x) (y := d.y) d.d h1).2 hd⟩
theorem tf_back {l : List Int} {P : List Dom} (hs : simB l = true) (h : TilS (regSet l) P) : tfOk l (htsF l P) = true ∧ tilF l (htsF l P) = P := by
  have ho := (simB_ok hs).1
  have ht := til_isTil ho h
  have e := tf_same hs h
  have hy : hts l P = htsF l P := hts_yes (by rw [hs, ht]; rfl)
  have h1 : tfOk l (htsF l P) = true := tfOk_t ho (htsF_len _ _) (by rw [e, hy])
  exact ⟨h1, by rw [tilF_yes h1, e]⟩
/-- a corner of a cell of the region -/
def Tch (l : List Int) (v : Nat) : Prop := ∃ c : Cel, hasS (regSet l) c = true ∧ (v = vx c.x c.y ∨ v = vx (c.x + 1) c.y ∨ v = vx c.x (c.y + 1) ∨ v = vx (c.x + 1) (c.y + 1))
theorem Rv_of {l : List Int} {ds : List Dom} (ht : isTil l ds = true) (hs : simB l = true) {v : Nat} (h : Tch l v) : Rv l ds v := by
  obtain ⟨c, hc, h⟩ := h
  obtain ⟨c1, c2, c3, c4⟩ := crn_all ht hs hc
  rcases h with rfl | rfl | rfl | rfl <;> assumption
theorem tch_h {l : List Int} {ds : List Dom} {x y : Int} (h : opH (regSet l) ds x y = true) : Tch l (vx x y) ∧ Tch l (vx (x + 1) y) := by
  unfold opH at h
  simp only [Bool.and_eq_true, Bool.or_eq_true] at h
  rcases h.1 with h | h
  · exact ⟨⟨⟨x, y - 1⟩, h, .inr (.inr (.inl (by rw [show y - 1 + 1 = y by omega])))⟩, ⟨⟨x, y - 1⟩, h, .inr (.inr (.inr (by rw [show y - 1 + 1 = y by omega])))⟩⟩
  · exact ⟨⟨⟨x, y⟩, h, .inl rfl⟩, ⟨⟨x, y⟩, h, .inr (.inl rfl)⟩⟩
theorem tch_v {l : List Int} {ds : List Dom} {x y : Int} (h : opV (regSet l) ds x y = true) : Tch l (vx x y) ∧ Tch l (vx x (y + 1)) := by
  unfold opV at h
  simp only [Bool.and_eq_true, Bool.or_eq_true] at h
  rcases h.1 with h | h
  · exact ⟨⟨⟨x - 1, y⟩, h, .inr (.inl (by rw [show x - 1 + 1 = x by omega]))⟩, ⟨⟨x - 1, y⟩, h, .inr (.inr (.inr (by rw [show x - 1 + 1 = x by omega])))⟩⟩
  · exact ⟨⟨⟨x, y⟩, h, .inl rfl⟩, ⟨⟨x, y⟩, h, .inr (.inr (.inl rfl))⟩⟩
theorem opE_cases {s : Nat} {ds : List Dom} {u v : Nat} (h : opE s ds u v = true) :
    (cY u = cY v ∧ cX v = cX u + 1 ∧ opH s ds (cX u) (cY u) = true) ∨ (cY u = cY v ∧ cX u = cX v + 1 ∧ opH s ds (cX v) (cY v) = true) ∨
    (cX u = cX v ∧ cY v = cY u + 1 ∧ opV s ds (cX u) (cY u) = true) ∨ (cX u = cX v ∧ cY u = cY v + 1 ∧ opV s ds (cX v) (cY v) = true) := by
  unfold opE at h
  split at h
  · rename_i h1; exact .inl ⟨h1.1, h1.2, h⟩
  · split at h
    · rename_i h1; exact .inr (.inl ⟨h1.1, h1.2, h⟩)
    · split at h
      · rename_i h1; exact .inr (.inr (.inl ⟨h1.1, h1.2, h⟩))
      · split at h
        · rename_i h1; exact .inr (.inr (.inr ⟨h1.1, h1.2, h⟩))
        · cases h
theorem tch_e {l : List Int} {ds : List Dom} {u v : Nat} (h : opE (regSet l) ds u v = true) : Tch l u ∧ Tch l v := by
  have eu := vx_of (u := u)
  have ev := vx_of (u := v)
  rcases opE_cases h with ⟨h1, h2, h3⟩ | ⟨h1, h2, h3⟩ | ⟨h1, h2, h3⟩ | ⟨h1, h2, h3⟩
  · have := tch_h h3
    rw [eu, ev, ← h1, h2]; exact this
  · have := tch_h h3
    rw [eu, ev, h1, h2]; exact ⟨this.2, this.1⟩
  · have := tch_v h3
    rw [eu, ev, ← h1, h2]; exact this
  · have := tch_v h3
    rw [eu, ev, h1, h2]; exact ⟨this.2, this.1⟩
theorem Rv_iff {l : List Int} {ds : List Dom} (ht : isTil l ds = true) (hs : simB l = true) (v : Nat) : Rv l ds v ↔ Tch l v := by
  refine ⟨fun h => ?_, Rv_of ht hs⟩
  cases h with
  | root =>
    have hlt := regSet_lt (simB_ok hs).1
    refine ⟨cN (firstI (regSet l)), firstC_has hlt (sim_ne hs), .inl ?_⟩
    unfold vx stU cN; dsimp only; omega
  | step p q hp hq ho => exact (tch_e ho).2
/-- two potentials that step alike differ by their start -/
theorem pot_same {l : List Int} {ds : List Dom} (ht : isTil l ds = true) (hs : simB l = true) {W : Nat → Int} (hW : ∀ u v, u < 81 → v < 81 → opE (regSet l) ds u v = true → W v = W u + stE u v) {v : Nat} (hv : Rv l ds v) : v < 81 ∧ valF l ds v = W v - W (stU (regSet l)) := by
  have h0 := stU_lt (regSet_lt (simB_ok hs).1) (sim_ne hs)
  induction hv with
  | root => exact ⟨h0, by rw [valF_start]; omega⟩
  | step p q hp hq ho ih =>
    have hq81 := hnb_lt hq
    refine ⟨hq81, ?_⟩
    have e1 := valF_step ht hs ih.1 hq81 ho
    have e2 := hW p q ih.1 hq81 ho
    omega

/-! a flip changes one height by four -/
structure Blk (l : List Int) (P Q : List Dom) (x y : Int) : Prop where
  tp : isTil l P = true
  tq : isTil l Q = true
  bd : 0 ≤ x ∧ x ≤ 6 ∧ 0 ≤ y ∧ y ≤ 6
  p0 : (⟨x, y, false⟩ : Dom) ∈ P
  p1 : (⟨x, y + 1, false⟩ : Dom) ∈ P
  q0 : (⟨x, y, true⟩ : Dom) ∈ Q
  q1 : (⟨x + 1, y, true⟩ : Dom) ∈ Q
  h0 : hasS (regSet l) ⟨x, y⟩ = true
  h1 : hasS (regSet l) ⟨x + 1, y⟩ = true
  eh : ∀ X Y, (⟨X, Y, false⟩ : Dom) ≠ ⟨x, y, false⟩ → (⟨X, Y, false⟩ : Dom) ≠ ⟨x, y + 1, false⟩ → ((⟨X, Y, false⟩ : Dom) ∈ P ↔ (⟨X, Y, false⟩ : Dom) ∈ Q)
  ev : ∀ X Y, (⟨X, Y, true⟩ : Dom) ≠ ⟨x, y, true⟩ → (⟨X, Y, true⟩ : Dom) ≠ ⟨x + 1, y, true⟩ → ((⟨X, Y, true⟩ : Dom) ∈ P ↔ (⟨X, Y, true⟩ : Dom) ∈ Q)
theorem vx_inj {x y a b : Int} (hx : 0 ≤ x ∧ x ≤ 8) (hy : 0 ≤ y ∧ y ≤ 8) (ha : 0 ≤ a ∧ a ≤ 8) (hb : 0 ≤ b ∧ b ≤ 8) (h : vx x y = vx a b) : x = a ∧ y = b := by
  unfold vx at h; omega
theorem stU_ne {l : List Int} (hs : simB l = true) {x y : Int} (hb : 0 ≤ x ∧ x ≤ 6 ∧ 0 ≤ y ∧ y ≤ 6) (h : hasS (regSet l) ⟨x, y⟩ = true) : stU (regSet l) ≠ vx (x + 1) (y + 1) := by
  intro e
  have hf := (firstI_lt (regSet_lt (simB_ok hs).1) (sim_ne hs)).1
  have hm : idx (⟨x, y⟩ : Cel) < firstI (regSet l) := by
    unfold stU vx at e
    unfold idx; dsimp only; omega
  have := firstI_min hm
  unfold hasS at h
  rw [this] at h
  simp at h
theorem blk_val {l : List Int} {P Q : List Dom} {x y : Int} (hs : simB l = true) (B : Blk l P Q x y) {v : Nat} (hv : Tch l v) :
    (v ≠ vx (x + 1) (y + 1) → valF l P v = valF l Q v) ∧ (v = vx (x + 1) (y + 1) → valF l P v = valF l Q v - 4 * sg (x + y)) := by
  obtain ⟨tp, tq, hb, p0, p1, q0, q1, h0, h1, eh, ev⟩ := B
  have cen := (val_cell tq hs h0).2.2.1 q0
  have rgt := (val_cell tq hs h1).2.2.1 q1
  rw [show x + 1 + y = (x + y) + 1 by omega, sg_one, show x + 1 + 1 = x + 2 by omega] at rgt
  let W : Nat → Int := fun v => if v = vx (x + 1) (y + 1) then valF l Q (vx x (y + 1)) - sg (x + y) else valF l Q v
  have W0 : W (vx (x + 1) (y + 1)) = valF l Q (vx x (y + 1)) - sg (x + y) := if_pos rfl
  have Wn : ∀ v, v ≠ vx (x + 1) (y + 1) → W v = valF l Q v := fun v h => if_neg h
  have EH : ∀ X Y, 0 ≤ X ∧ X ≤ 7 → 0 ≤ Y ∧ Y ≤ 8 → opH (regSet l) P X Y = true → W (vx (X + 1) Y) = W (vx X Y) + sg (X + Y) := by
    intro X Y hX hY ho
    by_cases e1 : X = x ∧ Y = y + 1
    · obtain ⟨rfl, rfl⟩ := e1
      rw [W0, Wn _ (fun e => by have := vx_inj (by omega) (by omega) (by omega) (by omega) e; omega), show X + (y + 1) = (X + y) + 1 by omega, sg_one]; omega
    · by_cases e2 : X = x + 1 ∧ Y = y + 1
      · obtain ⟨rfl, rfl⟩ := e2
        rw [W0, Wn _ (fun e => by have := vx_inj (by omega) (by omega) (by omega) (by omega) e; omega), show x + 1 + (y + 1) = (x + y) + 1 + 1 by omega, sg_one, sg_one, show x + 1 + 1 = x + 2 by omega]; omega
      · rw [Wn _ (fun e => by have := vx_inj (by omega) (by omega) (by omega) (by omega) e; omega), Wn _ (fun e => by have := vx_inj (by omega) (by omega) (by omega) (by omega) e; omega)]
        refine val_h tq hs hX hY ?_
        unfold opH at ho ⊢
        rw [show decide ((⟨X, Y - 1, true⟩ : Dom) ∈ Q) = decide ((⟨X, Y - 1, true⟩ : Dom) ∈ P) from decide_eq_decide.2 (ev X (Y - 1) (fun e => by simp at e; omega) (fun e => by simp at e; omega)).symm]; exact ho
  have EV : ∀ X Y, 0 ≤ X ∧ X ≤ 8 → 0 ≤ Y ∧ Y ≤ 7 → opV (regSet l) P X Y = true → W (vx X (Y + 1)) = W (vx X Y) - sg (X + Y) := by
    intro X Y hX hY ho
    have hn : (⟨X - 1, Y, false⟩ : Dom) ∉ P := by
      unfold opV at ho; simp only [Bool.and_eq_true, Bool.not_eq_true', decide_eq_false_iff_not] at ho; exact ho.2
    have e1 : ¬ (X = x + 1 ∧ Y = y) := fun e => hn (by rw [e.1, e.2, show x + 1 - 1 = x by omega]; exact p0)
    have e2 : ¬ (X = x + 1 ∧ Y = y + 1) := fun e => hn (by rw [e.1, e.2, show x + 1 - 1 = x by omega]; exact p1)
    rw [Wn _ (fun e => by have := vx_inj (by omega) (by omega) (by omega) (by omega) e; omega), Wn _ (fun e => by have := vx_inj (by omega) (by omega) (by omega) (by omega) e; omega)]
    refine val_v tq hs hX hY ?_
    unfold opV at ho ⊢
    rw [show decide ((⟨X - 1, Y, false⟩ : Dom) ∈ Q) = decide ((⟨X - 1, Y, false⟩ : Dom) ∈ P) from decide_eq_decide.2 (eh (X - 1) Y (fun e => by simp at e; omega) (fun e => by simp at e; omega)).symm]; exact ho
  have hW : ∀ u v, u < 81 → v < 81 → opE (regSet l) P u v = true → W v = W u + stE u v := by
    intro u v hu hv ho
    have eu := vx_of (u := u)
    have ev' := vx_of (u := v)
    have bu : 0 ≤ cX u ∧ cX u ≤ 8 ∧ 0 ≤ cY u ∧ cY u ≤ 8 := by unfold cX cY; omega
    have bv : 0 ≤ cX v ∧ cX v ≤ 8 ∧ 0 ≤ cY v ∧ cY v ≤ 8 := by unfold cX cY; omega
    unfold stE
    rcases opE_cases ho with ⟨g1, g2, g3⟩ | ⟨g1, g2, g3⟩ | ⟨g1, g2, g3⟩ | ⟨g1, g2, g3⟩
    · have := EH _ _ (by omega) (by omega) g3
      rw [← g2, ← eu, show vx (cX v) (cY u) = v by rw [g1]; exact ev'.symm] at this
      rw [if_pos g1]; exact this
    · have := EH _ _ (by omega) (by omega) g3
      rw [← g2, ← ev', show vx (cX u) (cY v) = u by rw [← g1]; exact eu.symm] at this
      rw [if_pos g1, g2, show cX v + 1 + cY u = (cX v + cY v) + 1 by omega, sg_one]; omega
    · have := EV _ _ (by omega) (by omega) g3
      rw [← g2, ← eu, show vx (cX u) (cY v) = v by rw [g1]; exact ev'.symm] at this
      rw [if_neg (by omega)]; omega
    · have := EV _ _ (by omega) (by omega) g3
      rw [← g2, ← ev', show vx (cX v) (cY u) = u by rw [← g1]; exact eu.symm] at this
      rw [if_neg (by omega), g2, show cX u + (cY v + 1) = (cX v + cY v) + 1 by omega, sg_one]; omega
  have hfin := (pot_same tp hs hW (Rv_of tp hs hv)).2
  rw [Wn _ (stU_ne hs hb h0), valF_start] at hfin
  refine ⟨fun e => by rw [hfin, Wn _ e]; omega, fun e => ?_⟩
  subst e
  rw [hfin, W0]; omega
theorem gI_htsT {l : List Int} {P : List Dom} (ht : isTil l P = true) (hs : simB l = true) {v : Nat} (hv : v < 81) : (Tch l v → gI (htsF l P) v = valF l P v) ∧ (¬ Tch l v → gI (htsF l P) v = -1000) :=
  ⟨fun h => gI_hts hv (Rv_of ht hs h), fun h => gI_htsN hv (fun hr => h ((Rv_iff ht hs v).1 hr))⟩
theorem blk_hts {l : List Int} {P Q : List Dom} {x y : Int} (hs : simB l = true) (B : Blk l P Q x y) : vx (x + 1) (y + 1) < 81 ∧ gI (htsF l P) (vx (x + 1) (y + 1)) ≠ -1000 ∧ gI (htsF l Q) (vx (x + 1) (y + 1)) ≠ -1000 ∧
    gI (htsF l P) (vx (x + 1) (y + 1)) = gI (htsF l Q) (vx (x + 1) (y + 1)) - 4 * sg (x + y) ∧ ∀ v, v < 81 → v ≠ vx (x + 1) (y + 1) → gI (htsF l P) v = gI (htsF l Q) v := by
  have hb := B.bd
  have h81 := (vx_c (x := x + 1) (y := y + 1) (by omega) (by omega)).1
  have hT : Tch l (vx (x + 1) (y + 1)) := ⟨⟨x, y⟩, B.h0, .inr (.inr (.inr rfl))⟩
  have a1 := (gI_htsT B.tp hs h81).1 hT
  have a2 := (gI_htsT B.tq hs h81).1 hT
  have key : ∀ (R : List Dom), isTil l R = true → gI (htsF l R) (vx (x + 1) (y + 1)) ≠ -1000 := fun R hR => by
    obtain ⟨L, k, hL, hk⟩ := hinv_all hR hs (stU_lt (regSet_lt (simB_ok hs).1) (sim_ne hs))
    rw [← hts_end (.inl rfl) hL hk]
    intro e
    have := (hL.val h81).1 e
    refine this ?_
    rw [hL.g.done hk]
    exact Rv_of hR hs hT
  refine ⟨h81, key _ B.tp, key _ B.tq, by rw [a1, a2]; exact (blk_val hs B hT).2 rfl, fun v hv hne => ?_⟩
  by_cases ht : Tch l v
  · rw [(gI_htsT B.tp hs hv).1 ht, (gI_htsT B.tq hs hv).1 ht]; exact (blk_val hs B ht).1 hne
  · rw [(gI_htsT B.tp hs hv).2 ht, (gI_htsT B.tq hs hv).2 ht]

/-! sums of heights, places that change -/
def hz (h : Int) : Int := if h = -1000 then 0 else h
def hsZ : List Int → Int
  | [] => 0
  | h :: L => hz h + hsZ L
theorem hsum_z0 : ∀ (L : List Int) (a : Int) (n : Nat), (∀ x ∈ L, -1000 ≤ x ∧ x ≤ 80) → -(1000 * (n : Int)) ≤ a ∧ a ≤ 1000 * (n : Int) → n + L.length ≤ 1000 → L.foldl hstep a = a + hsZ L := by
  intro L
  induction L with
  | nil => intro a n _ _ _; simp [hsZ]
  | cons x L ih =>
    intro a n hx h hn
    rw [List.foldl_cons, hsZ]
    have hx0 := hx x (List.mem_cons_self ..)
    rw [List.length_cons] at hn
    have e : hstep a x = a + hz x := by
      unfold hstep hz
      split
      · omega
      · rw [IntWalk.wrap64_in _ (by omega)]
    have hb : -(1000 * ((n + 1 : Nat) : Int)) ≤ a + hz x ∧ a + hz x ≤ 1000 * ((n + 1 : Nat) : Int) := by unfold hz; split <;> omega
    rw [e, ih _ (n + 1) (fun y hy => hx y (List.mem_cons_of_mem _ hy)) hb (by omega)]; omega
theorem hsum_z {L : List Int} (h : ∀ v, v < L.length → -1000 ≤ gI L v ∧ gI L v ≤ 80) (hn : L.length ≤ 81) : hsum L = hsZ L := by
  have := hsum_z0 L 0 0 (fun x hx => by
    obtain ⟨i, hi, rfl⟩ := List.getElem_of_mem hx
    have := h i hi
    rwa [gI_eq hi] at this) (by simp) (by omega)
  unfold hsum; rw [this]; omega
theorem hsZ_one : ∀ (L M : List Int) (i : Nat), L.length = M.length → i < L.length → (∀ v, v < L.length → v ≠ i → gI L v = gI M v) → hsZ L - hz (gI L i) = hsZ M - hz (gI M i) := by
  intro L
  induction L with
  | nil => intro M i _ hi; simp at hi
  | cons a L ih =>
    intro M i hl hi h
    cases M with
    | nil => simp at hl
    | cons b M =>
      have hl' : L.length = M.length := by simpa using hl
      cases i with
      | zero =>
        have : L = M := by
          refine List.ext_getElem hl' fun v h1 h2 => ?_
          have := h (v + 1) (by simp; omega) (by omega)
          rw [gI_eq (by simp; omega), gI_eq (by simp; omega)] at this
          simpa using this
        subst this
        rw [gI_eq (by simp), gI_eq (by simp)]
        simp only [hsZ, List.getElem_cons_zero]; omega
      | succ i =>
        have hi' : i < L.length := by simpa using hi
        have h0 := h 0 (by simp) (by omega)
        rw [gI_eq (by simp), gI_eq (by simp)] at h0
        simp only [List.getElem_cons_zero] at h0
        have := ih M i hl' hi' (fun v hv hne => by
          have := h (v + 1) (by simp; omega) (by omega)
          rw [gI_eq (by simp; omega), gI_eq (by simp; omega)] at this
          simp only [List.getElem_cons_succ] at this
          rw [gI_eq hv, gI_eq (by omega)]; exact this)
        rw [gI_eq hi', gI_eq (by omega)] at this
        rw [gI_eq (by simp; omega), gI_eq (by simp; omega)]
        simp only [hsZ, List.getElem_cons_succ]
        rw [h0]; omega
/-- how many of the first places differ -/
def chK (h g : List Int) : Nat → Nat
  | 0 => 0
  | k + 1 => chK h g k + if gI h k = gI g k then 0 else 1
theorem chK_le (h g : List Int) : ∀ k, chK h g k ≤ k := by
  intro k
  induction k with
  | zero => exact Nat.le_refl _
  | succ k ih => rw [chK]; split <;> omega
theorem chK_one {h g : List Int} {i : Nat} (hi : gI h i ≠ gI g i) {n : Nat} (hs : ∀ v, v < n → v ≠ i → gI h v = gI g v) : ∀ k, k ≤ n → chK h g k = if i < k then 1 else 0 := by
  intro k
  induction k with
  | zero => intro _; rw [chK, if_neg (by omega)]
  | succ k ih =>
    intro hk
    rw [chK, ih (by omega)]
    by_cases e : k = i
    · subst e; rw [if_neg (by omega), if_neg hi, if_pos (by omega)]
    · rw [if_pos (hs k (by omega) e)]
      by_cases h1 : i < k
      · rw [if_pos h1, if_pos (by omega)]
      · rw [if_neg h1, if_neg (by omega)]
/-- a block and its other side -/
theorem blk_law {l : List Int} {P Q : List Dom} {x y : Int} (hs : simB l = true) (B : Blk l P Q x y) :
    chK (htsF l P) (htsF l Q) 81 = 1 ∧ (hsum (htsF l Q) - hsum (htsF l P) = 4 ∨ hsum (htsF l Q) - hsum (htsF l P) = -4) := by
  obtain ⟨h81, n1, n2, he, hall⟩ := blk_hts hs B
  have lp := htsF_len l P
  have lq := htsF_len l Q
  have hp := sg_pm (x + y)
  constructor
  · rw [chK_one (i := vx (x + 1) (y + 1)) (by omega) hall 81 (Nat.le_refl _), if_pos h81]
  · rw [hsum_z (fun v _ => hts_small B.tp hs v) (by omega), hsum_z (fun v _ => hts_small B.tq hs v) (by omega)]
    have := hsZ_one (htsF l P) (htsF l Q) (vx (x + 1) (y + 1)) (by omega) (by omega) (fun v hv hne => hall v (by omega) hne)
    unfold hz at this
    rw [if_neg n1, if_neg n2] at this
    omega
theorem chK_comm (h g : List Int) (k : Nat) : chK h g k = chK g h k := by
  induction k with
  | zero => rfl
  | succ k ih => rw [chK, chK, ih]; by_cases e : gI h k = gI g k <;> simp [e, eq_comm]

/-! a flip's heights -/
theorem flip_mem {s : Nat} {P : List Dom} {c : Cel} (h : TilS s P) (hc : canB P c.x c.y = true) (d : Dom) :
    d ∈ flipAt P c ↔ d = pr0 c (acB P c.x c.y) ∨ d = pr1 c (acB P c.x c.y) ∨ (d ∈ P ∧ d ≠ pr0 c (!(acB P c.x c.y)) ∧ d ≠ pr1 c (!(acB P c.x c.y))) := by
  obtain ⟨_, p2, _, _⟩ := flip_parts h hc
  have e0 : flipAt P c = flipD P c := by unfold flipAt; rw [if_pos hc]
  rw [e0, p2.mem_iff, List.mem_cons, List.mem_cons, List.mem_filter, kp_eq]
  simp only [Bool.and_eq_true, bne_iff_ne]
theorem flip_law {l : List Int} {P : List Dom} {c : Cel} (hs : simB l = true) (h : TilS (regSet l) P) (hc : canB P c.x c.y = true) :
    chK (htsF l P) (htsF l (flipAt P c)) 81 = 1 ∧ (hsum (htsF l (flipAt P c)) - hsum (htsF l P) = 4 ∨ hsum (htsF l (flipAt P c)) - hsum (htsF l P) = -4) := by
  have ho := (simB_ok hs).1
  have hQ := flipAt_til h hc
  have tp := til_isTil ho h
  have tq := til_isTil ho hQ
  have hb := canB_bd hc
  obtain ⟨g0, g1⟩ := can_gone hc
  have hm := flip_mem h hc
  have n0 := (hm (pr0 c (acB P c.x c.y))).2 (.inl rfl)
  have n1 := (hm (pr1 c (acB P c.x c.y))).2 (.inr (.inl rfl))
  cases e : acB P c.x c.y
  · rw [e] at g0 g1 n0 n1 hm
    have k0 : (⟨c.x, c.y, true⟩ : Dom) ∈ P := g0
    have k1 : (⟨c.x + 1, c.y, true⟩ : Dom) ∈ P := g1
    have m0 : (⟨c.x, c.y, false⟩ : Dom) ∈ flipAt P c := n0
    have m1 : (⟨c.x, c.y + 1, false⟩ : Dom) ∈ flipAt P c := n1
    have B : Blk l (flipAt P c) P c.x c.y := ⟨tq, tp, hb, m0, m1, k0, k1, (til_has h k0).1, (til_has h k1).1, fun X Y a b => by
        rw [hm]
        constructor
        · rintro (q | q | q)
          · exact absurd q a
          · exact absurd q b
          · exact q.1
        · intro q
          exact .inr (.inr ⟨q, fun z => by unfold pr0 at z; simp at z, fun z => by unfold pr1 at z; simp at z⟩), fun X Y a b => by
        rw [hm]
        constructor
        · rintro (q | q | q)
          · unfold pr0 at q; simp at q
          · unfold pr1 at q; simp at q
          · exact q.1
        · intro q
          exact .inr (.inr ⟨q, a, b⟩)⟩
    obtain ⟨r1, r2⟩ := blk_law hs B
    exact ⟨by rw [chK_comm]; exact r1, by omega⟩
  · rw [e] at g0 g1 n0 n1 hm
    have k0 : (⟨c.x, c.y, false⟩ : Dom) ∈ P := g0
    have k1 : (⟨c.x, c.y + 1, false⟩ : Dom) ∈ P := g1
    have m0 : (⟨c.x, c.y, true⟩ : Dom) ∈ flipAt P c := n0
    have m1 : (⟨c.x + 1, c.y, true⟩ : Dom) ∈ flipAt P c := n1
    have B : Blk l P (flipAt P c) c.x c.y := ⟨tp, tq, hb, k0, k1, m0, m1, (til_has hQ m0).1, (til_has hQ m1).1, fun X Y a b => by
        rw [hm]
        constructor
        · intro q
          exact .inr (.inr ⟨q, a, b⟩)
        · rintro (q | q | q)
          · unfold pr0 at q; simp at q
          · unfold pr1 at q; simp at q
          · exact q.1, fun X Y a b => by
        rw [hm]
        constructor
        · intro q
          exact .inr (.inr ⟨q, fun z => by unfold pr0 at z; simp at z, fun z => by unfold pr1 at z; simp at z⟩)
        · rintro (q | q | q)
          · exact absurd q a
          · exact absurd q b
          · exact q.1⟩
    exact blk_law hs B

/-! draws of simple regions -/
theorem roots_one {nb : Nat → List Nat} {ok : Nat → Bool} (h0 : ok 0 = true) : ∀ k, (∀ j, 0 < j → j < k → ok j = true → ∃ i, i < j ∧ ok i = true ∧ j ∈ nb i) → 0 < k → roots nb ok k = 1 := by
  intro k
  induction k with
  | zero => intro _ h; omega
  | succ k ih =>
    intro h _
    rcases Nat.eq_zero_or_pos k with rfl | hk
    · rw [roots_yes ⟨h0, fun i hi => by omega⟩]; unfold roots; simp
    · rw [roots_no (fun hr => ?_)]
      · exact ih (fun j h1 h2 => h j h1 (by omega)) hk
      · obtain ⟨i, h1, h2, h3⟩ := h k hk (Nat.lt_succ_self k) hr.1
        exact hr.2 i h1 h2 (.step _ _ .root h3 hr.1)
theorem piece_cert {s : Nat} (hs : s < 18446744073709551616) (h0 : s ≠ 0) (h : ∀ c, hasS s c = true → c ≠ cN (firstI s) → ∃ d, hasS s d = true ∧ idx d < idx c ∧ c ∈ nbs d) : piecesN s = 1 := by
  have h1 := firstC_has hs h0
  have hlt := (firstI_lt hs h0).1
  have hr : rootC s (cN (firstI s)) := fun d hd hi => by
    rw [idx_cN hlt] at hi
    have := firstI_min hi
    unfold hasS at hd
    rw [this] at hd
    simp at hd
  unfold piecesN rootsP
  have e : (setCells s).filter (fun c => @decide (idx c < 64 ∧ rootC s c) (Classical.propDecidable _)) = [cN (firstI s)] := by
    have hn := (setCells_nodup s).filter (fun c => @decide (idx c < 64 ∧ rootC s c) (Classical.propDecidable _))
    have hm : ∀ c, c ∈ (setCells s).filter (fun c => @decide (idx c < 64 ∧ rootC s c) (Classical.propDecidable _)) ↔ c = cN (firstI s) := fun c => by
      rw [List.mem_filter, set_mem]
      simp only [decide_eq_true_eq]
      constructor
      · rintro ⟨q1, _, q3⟩
        refine Classical.byContradiction fun hne => ?_
        obtain ⟨d, d1, d2, d3⟩ := h c q1 hne
        exact q3 d d1 d2 (.step _ _ .root d3 q1)
      · rintro rfl
        exact ⟨h1, idx_lt (hasS_ok h1), hr⟩
    refine List.perm_singleton.1 ((List.perm_ext_iff_of_nodup hn (by simp)).2 fun c => ?_)
    rw [hm, List.mem_singleton]
  have : ∀ (inst : DecidablePred fun c => idx c < 64 ∧ rootC s c), ((setCells s).filter (fun c => @decide (idx c < 64 ∧ rootC s c) (inst c))).length = 1 := fun inst => by
    rw [show (fun c => @decide (idx c < 64 ∧ rootC s c) (inst c)) = fun c => @decide (idx c < 64 ∧ rootC s c) (Classical.propDecidable _) from funext fun c => by congr]
    rw [e]; rfl
  exact this _
theorem reg44 : regSet (rectR 4 4) = 252645135 := by decide +kernel
theorem sim44 : simB (rectR 4 4) = true := by
  have hr : regOk (rectR 4 4) = true := by decide +kernel
  have hl : regSet (rectR 4 4) < 18446744073709551616 := regSet_lt hr
  have h0 : regSet (rectR 4 4) ≠ 0 := by rw [reg44]; decide
  unfold simB
  rw [hr, Bool.true_and, Bool.and_eq_true, Bool.and_eq_true, decide_eq_true_eq, decide_eq_true_eq]
  refine ⟨piece_cert hl h0 fun c hc hne => ?_, ?_, by rw [reg44]; decide +kernel⟩
  · have hok := hasS_ok hc
    have key : ∀ i, i < 64 → (252645135 : Nat).testBit i = true → i ≠ 0 → ∃ j, j < i ∧ (252645135 : Nat).testBit j = true ∧ nbr (cN j) (cN i) = true := by decide +kernel
    have hb : (252645135 : Nat).testBit (idx c) = true := by rw [← reg44]; unfold hasS at hc; rw [hok, Bool.true_and] at hc; exact hc
    have hf : firstI (regSet (rectR 4 4)) = 0 := by rw [reg44]; decide +kernel
    rw [hf] at hne
    have hi := idx_lt hok
    have hci : cN (idx c) = c := cN_idx hok
    obtain ⟨j, j1, j2, j3⟩ := key (idx c) hi hb (fun e => hne (by rw [← hci, e]))
    refine ⟨cN j, ?_, by rw [idx_cN (by omega)]; exact j1, by rw [mem_nbs, ← hci]; exact j3⟩
    unfold hasS
    rw [cN_ok (by omega), idx_cN (by omega), reg44, j2]; rfl
  · unfold holesN
    refine roots_one (by rw [reg44]; decide +kernel) 100 ?_ (by decide)
    rw [reg44]
    have key : ((List.range 100).all fun j => decide (j = 0) || !(free10 252645135 j) || (List.range j).any fun i => free10 252645135 i && decide (j ∈ nb10 i)) = true := by decide +kernel
    intro j h0 h1 h2
    rw [List.all_eq_true] at key
    have := key j (List.mem_range.2 h1)
    rw [h2] at this
    simp only [Bool.not_true, Bool.or_false, Bool.or_eq_true, decide_eq_true_eq, List.any_eq_true, Bool.and_eq_true] at this
    rcases this with e | ⟨i, i1, i2, i3⟩
    · omega
    · exact ⟨i, List.mem_range.1 i1, i2, i3⟩
noncomputable def r13 (b : List Nat) : Nat → Cu → List Int × Cu
  | 0, c => (rectR 4 4, c)
  | k + 1, c => if (simB (r3 b c).1 && inB ((cnt (regSet (r3 b c).1) : Nat) : Int) 1 120) = true then r3 b c else r13 b k (r3 b c).2
theorem r13_yes {b : List Nat} {k : Nat} {c2 : Cu} (hk : 0 < k) (h1 : simB (r3 b c2).1 = true) (h2 : inB ((cnt (regSet (r3 b c2).1) : Nat) : Int) 1 120 = true) : r13 b k c2 = r3 b c2 := by
  obtain ⟨k, rfl⟩ : ∃ j, k = j + 1 := ⟨k - 1, by omega⟩
  rw [r13, h1, h2]; rfl
theorem r13_no {b : List Nat} {k : Nat} {c2 : Cu} (hk : 0 < k) (h : simB (r3 b c2).1 = false ∨ inB ((cnt (regSet (r3 b c2).1) : Nat) : Int) 1 120 = false) : r13 b k c2 = r13 b (k - 1) (r3 b c2).2 := by
  obtain ⟨k, rfl⟩ : ∃ j, k = j + 1 := ⟨k - 1, by omega⟩
  rw [r13, if_neg (by rcases h with h | h <;> rw [h] <;> simp)]; rfl
theorem r13_end {b : List Nat} {k : Nat} {c2 : Cu} (hk : k = 0) : r13 b k c2 = (rectR 4 4, c2) := by subst hk; rfl
theorem r13_ok (b : List Nat) : ∀ k c, simB (r13 b k c).1 = true ∧ 1 ≤ cnt (regSet (r13 b k c).1) ∧ cnt (regSet (r13 b k c).1) ≤ 300 := by
  intro k
  induction k with
  | zero => intro c; exact ⟨sim44, (rect_cnt 1 (by decide) 2 (by decide)).2⟩
  | succ k ih =>
    intro c
    rw [r13]
    split
    · rename_i h
      rw [Bool.and_eq_true] at h
      have := inB_true.1 h.2
      exact ⟨h.1, by omega, by omega⟩
    · exact ih _
theorem r13_i {b : List Nat} : ∀ (k : Nat) (c : Cu), c.i ≤ b.length → (r13 b k c).2.i ≤ b.length := by
  intro k
  induction k with
  | zero => intro c h; exact h
  | succ k ih =>
    intro c h
    rw [r13]
    split
    · exact r3_i h
    · exact ih _ (r3_i h)

/-! steps at edges -/
theorem par_pm (n : Int) : par n = 1 ∨ par n = -1 := by unfold par; split <;> simp
theorem est_h {x y : Int} (hx : 0 ≤ x ∧ x ≤ 7) (hy : 0 ≤ y ∧ y ≤ 8) : estep x y (x + 1) y = par (x + (y - 1)) ∧ estep (x + 1) y x y = par (x + y) := by
  have h1 : (inB x 0 8 && inB y 0 8 && inB (x + 1) 0 8 && inB y 0 8) = true := by simp only [Bool.and_eq_true]; refine ⟨⟨⟨?_, ?_⟩, ?_⟩, ?_⟩ <;> exact inB_true.2 (by omega)
  have h2 : (inB (x + 1) 0 8 && inB y 0 8 && inB x 0 8 && inB y 0 8) = true := by simp only [Bool.and_eq_true]; refine ⟨⟨⟨?_, ?_⟩, ?_⟩, ?_⟩ <;> exact inB_true.2 (by omega)
  unfold estep
  exact ⟨(if_pos h1).trans (if_pos ⟨rfl, rfl⟩), (if_pos h2).trans ((if_neg (by omega)).trans (if_pos (by omega)))⟩
theorem est_v {x y : Int} (hx : 0 ≤ x ∧ x ≤ 7) (hy : 0 ≤ y ∧ y ≤ 8) : estep y x y (x + 1) = par (y + x) ∧ estep y (x + 1) y x = par (y - 1 + x) := by
  have h1 : (inB y 0 8 && inB x 0 8 && inB y 0 8 && inB (x + 1) 0 8) = true := by simp only [Bool.and_eq_true]; refine ⟨⟨⟨?_, ?_⟩, ?_⟩, ?_⟩ <;> exact inB_true.2 (by omega)
  have h2 : (inB y 0 8 && inB (x + 1) 0 8 && inB y 0 8 && inB x 0 8) = true := by simp only [Bool.and_eq_true]; refine ⟨⟨⟨?_, ?_⟩, ?_⟩, ?_⟩ <;> exact inB_true.2 (by omega)
  unfold estep
  exact ⟨(if_pos h1).trans ((if_neg (by omega)).trans ((if_neg (by omega)).trans (if_pos (by omega)))), (if_pos h2).trans ((if_neg (by omega)).trans ((if_neg (by omega)).trans ((if_neg (by omega)).trans (if_pos (by omega)))))⟩
theorem par_ne (n : Int) : par (n - 1) = -(par n) := by unfold par; split <;> split <;> first | rfl | (exfalso; simp_all; omega) | (exfalso; omega)
theorem est_law {x y : Int} (hx : 0 ≤ x ∧ x ≤ 7) (hy : 0 ≤ y ∧ y ≤ 8) : estep x y (x + 1) y = -(estep (x + 1) y x y) ∧ estep x y (x + 1) y ≠ 0 ∧ estep y x y (x + 1) = -(estep y (x + 1) y x) ∧ (estep (x + 1) y x y = 1 ∨ estep (x + 1) y x y = -1) ∧ (estep y (x + 1) y x = 1 ∨ estep y (x + 1) y x = -1) := by
  obtain ⟨a1, a2⟩ := est_h hx hy
  obtain ⟨b1, b2⟩ := est_v hx hy
  have p1 := par_pm (x + y)
  have p2 := par_pm (y + x)
  rw [a1, a2, b1, b2, show x + (y - 1) = (x + y) - 1 by omega, show y - 1 + x = (y + x) - 1 by omega, par_ne, par_ne]
  refine ⟨by omega, by omega, by omega, by omega, by omega⟩


end Cl
end Go.Proofs.Ytonlghbbdcddoaa
