/- Walks over clean states, printed by wg.py. No statement is proved here. -/
import Derived.Test.YtgmkkfdnmdohlaaGreatDoorE8
import Derived.Test.YtgmkkfdnmdohlaaGreatDoorP2
import Derived.Test.YtgmkkfdnmdohlaaGreatDoorC21
import Derived.Test.YtgmkkfdnmdohlaaGreatDoorClB
set_option linter.unusedSimpArgs false
set_option linter.unusedVariables false
namespace Go.Proofs.YtgmkkfdnmdohlaaGreatDoor
namespace Cl
open Go.ChangeShapes Go.WideShapes Go.ChangeAt Go.RowKit
set_option maxRecDepth 20000
/-! least numbers of steps in a list of rows -/
inductive GP (M : List (List Int)) : Nat → Int → Int → Prop
  | nil (u : Int) : GP M 0 u u
  | snoc (n : Nat) (u v w : Int) (h : GP M n u v) (hw : w ∈ gLs M v.toNat) : GP M (n + 1) u w
def IsD (M : List (List Int)) (t v d : Int) : Prop := (∃ n : Nat, d = n ∧ GP M n t v ∧ ∀ m, GP M m t v → n ≤ m) ∨ (d = -1 ∧ ∀ n, ¬ GP M n t v)
theorem least_ex {p : Nat → Prop} : ∀ (k n : Nat), n ≤ k → p n → ∃ m, p m ∧ ∀ j, p j → m ≤ j := by
  intro k
  induction k with
  | zero => intro n hn h; exact ⟨n, h, fun j _ => by omega⟩
  | succ k ih =>
    intro n hn h
    by_cases e : ∃ j, j < n ∧ p j
    · obtain ⟨j, hj, hp⟩ := e; exact ih j (by omega) hp
    · exact ⟨n, h, fun j hj => Classical.byContradiction fun hc => e ⟨j, by omega, hj⟩⟩
theorem IsD.ex (M : List (List Int)) (t v : Int) : ∃ d, IsD M t v d := by
  by_cases h : ∃ n, GP M n t v
  · obtain ⟨n, hn⟩ := h
    obtain ⟨m, h1, h2⟩ := least_ex (p := fun n => GP M n t v) n n (Nat.le_refl _) hn
    exact ⟨m, .inl ⟨m, rfl, h1, h2⟩⟩
  · exact ⟨-1, .inr ⟨rfl, fun n hn => h ⟨n, hn⟩⟩⟩
open Classical in
noncomputable def dsD (M : List (List Int)) (t v : Int) : Int := Classical.epsilon (IsD M t v)
theorem dsD_is (M : List (List Int)) (t v : Int) : IsD M t v (dsD M t v) := Classical.epsilon_spec (IsD.ex M t v)
theorem dsD_ge (M : List (List Int)) (t v : Int) : -1 ≤ dsD M t v := by
  rcases dsD_is M t v with ⟨n, h, _⟩ | ⟨h, _⟩ <;> omega
theorem dsD_of {M : List (List Int)} {t v : Int} {n : Nat} (h : GP M n t v) : 0 ≤ dsD M t v ∧ dsD M t v ≤ n := by
  rcases dsD_is M t v with ⟨m, h1, h2, h3⟩ | ⟨h1, h2⟩
  · have := h3 n h; omega
  · exact absurd h (h2 n)
theorem dsD_path {M : List (List Int)} {t v : Int} (h : 0 ≤ dsD M t v) : GP M (dsD M t v).toNat t v := by
  rcases dsD_is M t v with ⟨m, h1, h2, h3⟩ | ⟨h1, h2⟩
  · rw [h1]; exact h2
  · omega
theorem dsD_no {M : List (List Int)} {t v : Int} (h : ∀ n, ¬ GP M n t v) : dsD M t v = -1 := by
  rcases dsD_is M t v with ⟨m, h1, h2, h3⟩ | ⟨h1, h2⟩
  · exact absurd h2 (h m)
  · exact h1
theorem dsD_self (M : List (List Int)) (t : Int) : dsD M t t = 0 := by have := dsD_of (GP.nil (M := M) t); omega
theorem dsD_step {M : List (List Int)} {t u w : Int} (hu : 0 ≤ dsD M t u) (hw : w ∈ gLs M u.toNat) : 0 ≤ dsD M t w ∧ dsD M t w ≤ dsD M t u + 1 := by
  have := dsD_of (GP.snoc _ _ _ _ (dsD_path hu) hw); omega
/-- the list of numbers, by the places that have been found -/
noncomputable def dL (M : List (List Int)) (t : Int) (n : Nat) (L : List Int) : List Int := (List.range n).map (fun v => if ((v : Nat) : Int) ∈ L then dsD M t v else -1)
theorem dL_len (M : List (List Int)) (t : Int) (n : Nat) (L : List Int) : (dL M t n L).length = n := by unfold dL; simp
theorem gI_dL {M : List (List Int)} {t : Int} {n : Nat} {L : List Int} {v : Nat} (hv : v < n) : gI (dL M t n L) v = if ((v : Nat) : Int) ∈ L then dsD M t v else -1 := by
  rw [gI_eq (by rw [dL_len]; exact hv)]; unfold dL; simp
theorem dL_add {M : List (List Int)} {t : Int} {n : Nat} {L : List Int} {v : Nat} (hv : v < n) : dL M t n (L ++ [((v : Nat) : Int)]) = (dL M t n L).set v (dsD M t v) := by
  apply List.ext_getElem
  · simp [dL]
  · intro i h1 h2
    have hi : i < n := by simpa [dL] using h1
    rw [List.getElem_set]
    unfold dL
    simp only [List.getElem_map, List.getElem_range, List.mem_append, List.mem_singleton]
    by_cases e : v = i
    · subst e; simp
    · rw [if_neg e]
      have : ¬ ((i : Nat) : Int) = ((v : Nat) : Int) := by omega
      simp [this]
theorem dL_nil (M : List (List Int)) (t : Int) (n : Nat) : dL M t n [] = List.replicate n (-1) := by
  apply List.ext_getElem
  · simp [dL]
  · intro i h1 h2; rw [List.getElem_replicate]; unfold dL; simp only [List.getElem_map, List.not_mem_nil, if_false]
/-- rows with places alone -/
def RowsIn (M : List (List Int)) (n : Nat) : Prop := ∀ k, k < n → ∀ w ∈ gLs M k, 0 ≤ w ∧ w < (n : Int)
structure BInv (M : List (List Int)) (t : Int) (n : Nat) (L : List Int) (k : Nat) : Prop where
  nd : L.Nodup
  lt : ∀ u ∈ L, 0 ≤ u ∧ u < (n : Int)
  hd : t ∈ L
  rc : ∀ u ∈ L, 0 ≤ dsD M t u
  so : L.Pairwise (fun u v => dsD M t u ≤ dsD M t v)
  cl : ∀ j (hj : j < L.length), j < k → ∀ w ∈ gLs M (L[j]).toNat, w ∈ L
  ne : ∀ (hk : k < L.length), ∀ v ∈ L, dsD M t v ≤ dsD M t (L[k]) + 1
  bd : ∀ v ∈ L, dsD M t v < (L.length : Int)
theorem BInv.init {M : List (List Int)} {t : Int} {n : Nat} (h : 0 ≤ t ∧ t < (n : Int)) : BInv M t n [t] 0 :=
  ⟨by simp, fun u hu => by rw [List.mem_singleton] at hu; subst hu; exact h, by simp, fun u hu => by rw [List.mem_singleton] at hu; subst hu; rw [dsD_self]; exact Int.le_refl _, by simp, fun j _ hj => by omega, fun _ v hv => by rw [List.mem_singleton] at hv; subst hv; simp; omega, fun v hv => by rw [List.mem_singleton] at hv; subst hv; rw [dsD_self]; simp⟩
theorem nodupI_len (n : Nat) (L : List Int) (hn : L.Nodup) (h : ∀ u ∈ L, 0 ≤ u ∧ u < (n : Int)) : L.length ≤ n := by
  have := nodup_len n (L.map Int.toNat) (List.pairwise_map.2 (hn.imp_of_mem fun {a b} ha hb hne e => hne (by have := h a ha; have := h b hb; omega))) (fun u hu => by
    obtain ⟨a, ha, rfl⟩ := List.mem_map.1 hu
    have := h a ha; omega)
  simpa using this
theorem BInv.len {M : List (List Int)} {t : Int} {n : Nat} {L : List Int} {k : Nat} (h : BInv M t n L k) : L.length ≤ n := nodupI_len n L h.nd h.lt
/-- within one round -/
structure BIn (M : List (List Int)) (t : Int) (n : Nat) (L : List Int) (k : Nat) (u : Int) (i : Nat) (N : List Int) : Prop where
  ap : ∃ E, N = L ++ E
  nd : N.Nodup
  lt : ∀ u ∈ N, 0 ≤ u ∧ u < (n : Int)
  rc : ∀ u ∈ N, 0 ≤ dsD M t u
  so : N.Pairwise (fun u v => dsD M t u ≤ dsD M t v)
  got : ∀ w ∈ (gLs M u.toNat).take i, w ∈ N
  ne : ∀ v ∈ N, dsD M t v ≤ dsD M t u + 1
  bd : ∀ v ∈ N, dsD M t v < (N.length : Int)
theorem BInv.into {M : List (List Int)} {t : Int} {n : Nat} {L : List Int} {k : Nat} (h : BInv M t n L k) (hk : k < L.length) : BIn M t n L k (L[k]) 0 L :=
  ⟨⟨[], by simp⟩, h.nd, h.lt, h.rc, h.so, by simp, h.ne hk, h.bd⟩
theorem BIn.len {M : List (List Int)} {t : Int} {n : Nat} {L : List Int} {k i : Nat} {u : Int} {N : List Int} (h : BIn M t n L k u i N) : N.length ≤ n := nodupI_len n N h.nd h.lt
theorem take_snocI' {L : List Int} {k : Nat} (h : k < L.length) : L.take (k + 1) = L.take k ++ [gI L k] := by rw [List.take_succ_eq_append_getElem h, gI_eq h]
theorem BIn.skip {M : List (List Int)} {t : Int} {n : Nat} {L : List Int} {k i : Nat} {u : Int} {N : List Int} (h : BIn M t n L k u i N) (hi : i < (gLs M u.toNat).length) (hm : gI (gLs M u.toNat) i ∈ N) : BIn M t n L k u (i + 1) N :=
  ⟨h.ap, h.nd, h.lt, h.rc, h.so, fun w hw => by
    rw [take_snocI' hi, List.mem_append, List.mem_singleton] at hw
    rcases hw with hw | rfl
    · exact h.got w hw
    · exact hm, h.ne, h.bd⟩
/-- whatever lies no farther than the place at hand has been found -/
theorem BInv.near {M : List (List Int)} {t : Int} {n : Nat} {L : List Int} {k : Nat} (h : BInv M t n L k) (hk : k < L.length) : ∀ (m : Nat) (v : Int), GP M m t v → (m : Int) ≤ dsD M t (L[k]) → v ∈ L := by
  intro m
  induction m with
  | zero => intro v hv _; cases hv; exact h.hd
  | succ m ih =>
    intro w hw hm
    cases hw with
    | snoc _ _ p _ hp hwp =>
      have hpL := ih p hp (by omega)
      obtain ⟨j, hj, rfl⟩ := List.getElem_of_mem hpL
      have hd := (dsD_of hp).2
      refine h.cl j hj ?_ w hwp
      refine Classical.byContradiction fun hc => ?_
      rcases Nat.lt_or_ge k j with hkj | hkj
      · have := List.pairwise_iff_getElem.1 h.so k j hk hj hkj
        omega
      · obtain rfl : j = k := by omega
        omega
theorem BIn.go {M : List (List Int)} {t : Int} {n : Nat} {L : List Int} {k i : Nat} {N : List Int} (hI : BInv M t n L k) (hk : k < L.length) (hR : RowsIn M n) (h : BIn M t n L k (L[k]) i N) (hi : i < (gLs M (L[k]).toNat).length) (hm : gI (gLs M (L[k]).toNat) i ∉ N) :
    BIn M t n L k (L[k]) (i + 1) (N ++ [gI (gLs M (L[k]).toNat) i]) ∧ dsD M t (gI (gLs M (L[k]).toNat) i) = dsD M t (L[k]) + 1 ∧ (0 ≤ gI (gLs M (L[k]).toNat) i ∧ gI (gLs M (L[k]).toNat) i < (n : Int)) := by
  have hu := hI.lt _ (List.getElem_mem hk)
  have hur := hI.rc _ (List.getElem_mem hk)
  have hw : gI (gLs M (L[k]).toNat) i ∈ gLs M (L[k]).toNat := by rw [gI_eq hi]; exact List.getElem_mem hi
  have hb := hR _ (by omega) _ hw
  obtain ⟨s1, s2⟩ := dsD_step hur hw
  have e : dsD M t (gI (gLs M (L[k]).toNat) i) = dsD M t (L[k]) + 1 := by
    refine Classical.byContradiction fun hc => hm ?_
    have hp := dsD_path s1
    have := hI.near hk _ _ hp (by omega)
    obtain ⟨E, rfl⟩ := h.ap
    simp [this]
  refine ⟨⟨?_, ?_, ?_, ?_, ?_, ?_, ?_, ?_⟩, e, hb⟩
  · obtain ⟨E, rfl⟩ := h.ap
    exact ⟨E ++ [gI (gLs M (L[k]).toNat) i], by rw [List.append_assoc]⟩
  · rw [List.nodup_append]
    refine ⟨h.nd, by simp, fun a ha b hb' => ?_⟩
    rw [List.mem_singleton] at hb'
    subst hb'
    rintro rfl
    exact hm ha
  · intro u hu'
    rw [List.mem_append, List.mem_singleton] at hu'
    rcases hu' with hu' | rfl
    · exact h.lt u hu'
    · exact hb
  · intro u hu'
    rw [List.mem_append, List.mem_singleton] at hu'
    rcases hu' with hu' | rfl
    · exact h.rc u hu'
    · exact s1
  · rw [List.pairwise_append]
    refine ⟨h.so, by simp, fun a ha b hb' => ?_⟩
    rw [List.mem_singleton] at hb'
    subst hb'
    rw [e]; exact h.ne a ha
  · intro w hw'
    rw [take_snocI' hi, List.mem_append, List.mem_singleton] at hw'
    rw [List.mem_append, List.mem_singleton]
    rcases hw' with hw' | rfl
    · exact .inl (h.got w hw')
    · exact .inr rfl
  · intro v hv
    rw [List.mem_append, List.mem_singleton] at hv
    rcases hv with hv | rfl
    · exact h.ne v hv
    · omega
  · intro v hv
    rw [List.length_append, List.length_singleton]
    rw [List.mem_append, List.mem_singleton] at hv
    rcases hv with hv | rfl
    · have := h.bd v hv; omega
    · obtain ⟨E, rfl⟩ := h.ap
      have := h.bd (L[k]) (by simp)
      omega
theorem BIn.out {M : List (List Int)} {t : Int} {n : Nat} {L : List Int} {k i : Nat} {N : List Int} (hI : BInv M t n L k) (hk : k < L.length) (h : BIn M t n L k (L[k]) i N) (hi : ¬ i < (gLs M (L[k]).toNat).length) : BInv M t n N (k + 1) := by
  obtain ⟨E, rfl⟩ := h.ap
  refine ⟨h.nd, h.lt, by simp [hI.hd], h.rc, h.so, fun j hj hjk w hw => ?_, fun hk1 v hv => ?_, h.bd⟩
  · have hjL : j < L.length := by omega
    rw [List.getElem_append_left hjL] at hw
    by_cases e : j = k
    · subst e
      refine h.got w ?_
      rw [List.take_of_length_le (by omega)]; exact hw
    · rw [List.mem_append]; exact .inl (hI.cl j hjL (by omega) w hw)
  · have h1 := h.ne v hv
    have h2 := List.pairwise_iff_getElem.1 h.so k (k + 1) (by omega) hk1 (by omega)
    rw [List.getElem_append_left hk] at h2
    omega
theorem BInv.fin {M : List (List Int)} {t : Int} {n : Nat} {L : List Int} {k : Nat} (h : BInv M t n L k) (hk : ¬ k < L.length) : ∀ (m : Nat) (v : Int), GP M m t v → v ∈ L := by
  intro m
  induction m with
  | zero => intro v hv; cases hv; exact h.hd
  | succ m ih =>
    intro w hw
    cases hw with
    | snoc _ _ p _ hp hwp =>
      obtain ⟨j, hj, rfl⟩ := List.getElem_of_mem (ih p hp)
      exact h.cl j hj (by omega) w hwp
noncomputable def dsM (M : List (List Int)) (t : Int) (n : Nat) : List Int := (List.range n).map (fun v => dsD M t ((v : Nat) : Int))
theorem dsM_len (M : List (List Int)) (t : Int) (n : Nat) : (dsM M t n).length = n := by unfold dsM; simp
theorem gI_dsM {M : List (List Int)} {t : Int} {n v : Nat} (hv : v < n) : gI (dsM M t n) v = dsD M t v := by
  rw [gI_eq (by rw [dsM_len]; exact hv)]; unfold dsM; simp
theorem dL_fin {M : List (List Int)} {t : Int} {n : Nat} {L : List Int} {k : Nat} (h : BInv M t n L k) (hk : ¬ k < L.length) : dL M t n L = dsM M t n := by
  unfold dL dsM
  refine List.map_congr_left fun v _ => ?_
  split
  · rfl
  · rename_i hv
    exact (dsD_no fun m hm => hv (h.fin hk m _ hm)).symm
theorem dL_neg {M : List (List Int)} {t : Int} {n : Nat} {L : List Int} (hrc : ∀ u ∈ L, 0 ≤ dsD M t u) {w : Int} (hw : 0 ≤ w ∧ w < (n : Int)) : gI (dL M t n L) w.toNat < 0 ↔ w ∉ L := by
  rw [gI_dL (by omega), show ((w.toNat : Nat) : Int) = w by omega]
  by_cases h : w ∈ L
  · rw [if_pos h]; have := hrc w h
    constructor
    · intro h2; omega
    · intro h2; exact absurd h h2
  · rw [if_neg h]; simp [h]
theorem bfs_ex {M : List (List Int)} {t : Int} {n : Nat} (hR : RowsIn M n) (ht : 0 ≤ t ∧ t < (n : Int)) : ∃ L k, BInv M t n L k ∧ ¬ k < L.length := by
  have round : ∀ (L : List Int) k (h : BInv M t n L k) (hk : k < L.length), ∃ N, BInv M t n N (k + 1) := by
    intro L k h hk
    have key : ∀ i, i ≤ (gLs M (L[k]).toNat).length → ∃ N, BIn M t n L k (L[k]) i N := by
      intro i
      induction i with
      | zero => intro _; exact ⟨L, h.into hk⟩
      | succ i ih =>
        intro hi
        obtain ⟨N, hN⟩ := ih (by omega)
        by_cases hm : gI (gLs M (L[k]).toNat) i ∈ N
        · exact ⟨N, hN.skip (by omega) hm⟩
        · exact ⟨_, (hN.go h hk hR (by omega) hm).1⟩
    obtain ⟨N, hN⟩ := key _ (Nat.le_refl _)
    exact ⟨N, hN.out h hk (Nat.lt_irrefl _)⟩
  have all : ∀ m (L : List Int) k, BInv M t n L k → n ≤ k + m → ∃ L k, BInv M t n L k ∧ ¬ k < L.length := by
    intro m
    induction m with
    | zero => intro L k h hn; exact ⟨L, k, h, by have := h.len; omega⟩
    | succ m ih =>
      intro L k h hn
      by_cases hk : k < L.length
      · obtain ⟨N, hN⟩ := round L k h hk
        exact ih N (k + 1) hN (by omega)
      · exact ⟨L, k, h, hk⟩
  exact all n _ 0 (BInv.init ht) (by omega)
theorem dsD_lt {M : List (List Int)} {t : Int} {n : Nat} (hR : RowsIn M n) (ht : 0 ≤ t ∧ t < (n : Int)) (v : Int) : dsD M t v < (n : Int) := by
  obtain ⟨L, k, h, hk⟩ := bfs_ex hR ht
  by_cases hv : v ∈ L
  · have := h.bd v hv; have := h.len; omega
  · have := dsD_no (M := M) (t := t) (v := v) (fun m hm => hv (h.fin hk m _ hm)); omega

theorem cel_nat {P : List Dom} {c : Cel} (hc : canB P c.x c.y = true) : ∃ x y : Nat, c = ⟨x, y⟩ := by
  have := canB_bd hc
  obtain ⟨a, b⟩ := c
  dsimp only at this
  exact ⟨a.toNat, b.toNat, by rw [show ((a.toNat : Nat) : Int) = a by omega, show ((b.toNat : Nat) : Int) = b by omega]⟩
/-- ways of flips -/
inductive FW : Nat → List Dom → List Dom → Prop
  | nil (P : List Dom) : FW 0 P P
  | step (n : Nat) (P Q : List Dom) (c : Cel) (hc : canB P c.x c.y = true) (h : FW n (flipAt P c) Q) : FW (n + 1) P Q
theorem FW.snoc {n : Nat} {P Q : List Dom} (h : FW n P Q) {c : Cel} (hc : canB Q c.x c.y = true) : FW (n + 1) P (flipAt Q c) := by
  induction h with
  | nil P => exact .step _ _ _ c hc (.nil _)
  | step n P Q d hd _ ih => exact .step _ _ _ d hd (ih hc)
theorem FW.back {s n : Nat} {P Q : List Dom} (h : FW n P Q) : TilS s P → FW n Q P := by
  induction h with
  | nil P => exact fun _ => .nil _
  | step n P Q d hd hr ih =>
    intro hP
    have := ih (flipAt_til hP hd)
    obtain ⟨b1, b2⟩ := flip_back hP hd
    have h3 := FW.snoc this b1
    rw [b2] at h3; exact h3
/-! ways of flips in the list of tilings -/
theorem flips_of {P : List Dom} {c : Cel} (h : canB P c.x c.y = true) : c ∈ flipsOf P := by
  obtain ⟨x, y, rfl⟩ := cel_nat h
  have hb := canB_bd h
  dsimp only at hb h
  unfold flipsOf flN
  refine List.mem_map.2 ⟨y * 8 + x, List.mem_filter.2 ⟨by rw [List.mem_range]; omega, ?_⟩, ?_⟩
  · have e : cellN (y * 8 + x) = (⟨x, y⟩ : Cel) := by unfold cellN; simp only [Cel.mk.injEq]; omega
    unfold canN; rw [e]; exact h
  · unfold cellN; simp only [Cel.mk.injEq]; omega
theorem row_nb {s : Nat} {a : List (List Dom)} (hA : FlipA s a) {P : List Dom} (hP : P ∈ a) : gLs (lkM a) (ixT a P).toNat = nbI a P := by
  obtain ⟨h1, h2⟩ := ixT_at (ixT_mem hP)
  rw [lkM_row h1, h2, lkR_nb hA hP]
theorem gp_of {s : Nat} {a : List (List Dom)} (hA : FlipA s a) {n : Nat} {P Q : List Dom} (h : FW n P Q) : P ∈ a → GP (lkM a) n (ixT a P) (ixT a Q) ∧ Q ∈ a := by
  have key : ∀ {m n : Nat} {A P Q : List Dom}, FW n P Q → P ∈ a → GP (lkM a) m (ixT a A) (ixT a P) → GP (lkM a) (n + m) (ixT a A) (ixT a Q) ∧ Q ∈ a := by
    intro m n A P Q h
    induction h generalizing m with
    | nil P => intro hP hg; exact ⟨by rw [Nat.zero_add]; exact hg, hP⟩
    | step n P Q c hc _ ih =>
      intro hP hg
      have hR := hA.flip hP (flips_of hc)
      have := ih hR (GP.snoc m _ _ (ixT a (flipAt P c)) hg (by rw [row_nb hA hP]; exact List.mem_map.2 ⟨c, flips_of hc, rfl⟩))
      rw [show n + 1 + m = n + (m + 1) by omega]; exact this
  intro hP
  exact key h hP (.nil _)
theorem ixT_inj {a : List (List Dom)} {P Q : List Dom} (hP : P ∈ a) (hQ : Q ∈ a) (h : ixT a P = ixT a Q) : P = Q := by
  rw [← (ixT_at (ixT_mem hP)).2, ← (ixT_at (ixT_mem hQ)).2, h]
theorem fw_of {s : Nat} {a : List (List Dom)} (hA : FlipA s a) {n : Nat} {i j : Int} (h : GP (lkM a) n i j) : ∀ P, P ∈ a → i = ixT a P → ∃ Q, Q ∈ a ∧ j = ixT a Q ∧ FW n P Q := by
  induction h with
  | nil u => intro P hP e; exact ⟨P, hP, e, .nil _⟩
  | snoc n u v w _ hw ih =>
    intro P hP e
    obtain ⟨Q, hQ, eQ, hF⟩ := ih P hP e
    rw [eQ, row_nb hA hQ] at hw
    obtain ⟨c, hc, rfl⟩ := List.mem_map.1 hw
    exact ⟨_, hA.flip hQ hc, rfl, hF.snoc (flips_can hc)⟩
theorem gp_iff {s : Nat} {a : List (List Dom)} (hA : FlipA s a) {n : Nat} {P Q : List Dom} (hP : P ∈ a) (hQ : Q ∈ a) : GP (lkM a) n (ixT a P) (ixT a Q) ↔ FW n P Q := by
  constructor
  · intro h
    obtain ⟨R, hR, e, hF⟩ := fw_of hA h P hP rfl
    rw [ixT_inj hQ hR e]; exact hF
  · intro h; exact (gp_of hA h hP).1
theorem dsD_fw {s : Nat} {a : List (List Dom)} (hA : FlipA s a) {P Q : List Dom} (hP : P ∈ a) (hQ : Q ∈ a) {d : Int} (h : (∃ n : Nat, d = n ∧ FW n P Q ∧ ∀ m, FW m P Q → n ≤ m) ∨ (d = -1 ∧ ∀ n, ¬ FW n P Q)) : dsD (lkM a) (ixT a P) (ixT a Q) = d := by
  rcases h with ⟨n, rfl, h1, h2⟩ | ⟨rfl, h1⟩
  · rcases dsD_is (lkM a) (ixT a P) (ixT a Q) with ⟨m, e, h3, h4⟩ | ⟨e, h3⟩
    · have := h2 m ((gp_iff hA hP hQ).1 h3)
      have := h4 n ((gp_iff hA hP hQ).2 h1)
      omega
    · exact absurd ((gp_iff hA hP hQ).2 h1) (h3 n)
  · exact dsD_no fun n hn => h1 n ((gp_iff hA hP hQ).1 hn)
theorem dsD_swap {s : Nat} {a : List (List Dom)} (hA : FlipA s a) {P Q : List Dom} (hP : P ∈ a) (hQ : Q ∈ a) : dsD (lkM a) (ixT a P) (ixT a Q) = dsD (lkM a) (ixT a Q) (ixT a P) := by
  refine dsD_fw hA hP hQ ?_
  rcases dsD_is (lkM a) (ixT a Q) (ixT a P) with ⟨m, e, h3, h4⟩ | ⟨e, h3⟩
  · exact .inl ⟨m, e, ((gp_iff hA hQ hP).1 h3).back (hA.ti Q hQ), fun k hk => h4 k ((gp_iff hA hQ hP).2 (hk.back (hA.ti P hP)))⟩
  · exact .inr ⟨e, fun k hk => h3 k ((gp_iff hA hQ hP).2 (hk.back (hA.ti P hP)))⟩
theorem rows_in {s : Nat} {a : List (List Dom)} (hA : FlipA s a) : RowsIn (lkM a) a.length := by
  intro k hk w hw
  have hP : gLd a k ∈ a := by rw [gLd_eq hk]; exact List.getElem_mem hk
  rw [lkM_row hk, lkR_nb hA hP] at hw
  obtain ⟨c, hc, rfl⟩ := List.mem_map.1 hw
  have := ixT_mem (hA.flip hP hc)
  have := (ixT_lt a (flipAt (gLd a k) c)).1
  omega
noncomputable def fdR (l : List Int) (p q : List Dom) : Int := if ixT (ltR l) p < 0 ∨ ixT (ltR l) q < 0 then -1 else dsD (lkM (ltR l)) (ixT (ltR l) q) (ixT (ltR l) p)
theorem fdR_no {l : List Int} {p q : List Dom} (h : ixT (ltR l) p < 0 ∨ ixT (ltR l) q < 0) : fdR l p q = -1 := by unfold fdR; rw [if_pos h]
theorem fdR_yes {l : List Int} {p q : List Dom} (h1 : ¬ ixT (ltR l) p < 0) (h2 : ¬ ixT (ltR l) q < 0) : fdR l p q = dsD (lkM (ltR l)) (ixT (ltR l) q) (ixT (ltR l) p) := by unfold fdR; rw [if_neg (by omega)]
theorem lk_row64 {s : Nat} {a : List (List Dom)} (hA : FlipA s a) {k : Nat} (hk : k < (lkM a).length) : (gLs (lkM a) k).length ≤ 64 := by
  rw [lkM_len] at hk
  have hP : gLd a k ∈ a := by rw [gLd_eq hk]; exact List.getElem_mem hk
  rw [lkM_row hk, lkR_nb hA hP, nbI_len]; exact flips_len _


end Cl
end Go.Proofs.YtgmkkfdnmdohlaaGreatDoor
