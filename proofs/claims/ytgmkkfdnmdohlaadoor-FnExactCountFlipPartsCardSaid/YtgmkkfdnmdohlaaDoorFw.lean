/- Walks over clean states, printed by wg.py. No statement is proved here. -/
import Derived.Test.YtgmkkfdnmdohlaaDoorE8
import Derived.Test.YtgmkkfdnmdohlaaDoorP2
import Derived.Test.YtgmkkfdnmdohlaaDoorC21
import Derived.Test.YtgmkkfdnmdohlaaDoorClB
set_option linter.unusedSimpArgs false
set_option linter.unusedVariables false
namespace Go.Proofs.YtgmkkfdnmdohlaaDoor
namespace Cl
open Go.ChangeShapes Go.WideShapes Go.ChangeAt Go.RowKit
set_option maxRecDepth 20000
/-! least numbers of steps in a list of rows -/
inductive GP (M : List (List Int)) : Nat → Int → Int → Prop
  | nil (u : Int) : GP M 0 u u
  | snoc (n : Nat) (u v w : Int) (h : GP M n u v) (hw : w ∈ gLs M v.toNat) : GP M (n + 1) u w
def IsD (M : List (List Int)) (t v d : Int) : Prop := (∃ n : Nat, d = n ∧ GP M n t v ∧ ∀ m, GP M m t v → n ≤ m) ∨ (d = -1 ∧ ∀ n, ¬ GP M n t v)
theorem least_ex {p : Nat → Prop} : ∀ (k n : Nat), n ≤ k → p n → ∃ m, p m ∧ ∀ j, p j → m ≤ j := by
  intro k
  induction k with
  | zero => intro n hn h; exact ⟨n, h, fun j _ => by omega⟩
  | succ k ih =>
    intro n hn h
    by_cases e : ∃ j, j < n ∧ p j
    · obtain ⟨j, hj, hp⟩ := e; exact ih j (by omega) hp
    · exact ⟨n, h, fun j hj => Classical.byContradiction fun hc => e ⟨j, by omega, hj⟩⟩
theorem IsD.ex (M : List (List Int)) (t v : Int) : ∃ d, IsD M t v d := by
  by_cases h : ∃ n, GP M n t v
  · obtain ⟨n, hn⟩ := h
    obtain ⟨m, h1, h2⟩ := least_ex (p := fun n => GP M n t v) n n (Nat.le_refl _) hn
    exact ⟨m, .inl ⟨m, rfl, h1, h2⟩⟩
  · exact ⟨-1, .inr ⟨rfl, fun n hn => h ⟨n, hn⟩⟩⟩
open Classical in
noncomputable def dsD (M : List (List Int)) (t v : Int) : Int := Classical.epsilon (IsD M t v)
theorem dsD_is (M : List (List Int)) (t v : Int) : IsD M t v (dsD M t v) := Classical.epsilon_spec (IsD.ex M t v)
theorem dsD_of {M : List (List Int)} {t v : Int} {n : Nat} (h : GP M n t v) : 0 ≤ dsD M t v ∧ dsD M t v ≤ n := by
  rcases dsD_is M t v with ⟨m, h1, h2, h3⟩ | ⟨h1, h2⟩
  · have := h3 n h; omega
  · exact absurd h (h2 n)
theorem dsD_path {M : List (List Int)} {t v : Int} (h : 0 ≤ dsD M t v) : GP M (dsD M t v).toNat t v := by
  rcases dsD_is M t v with ⟨m, h1, h2, h3⟩ | ⟨h1, h2⟩
  · rw [h1]; exact h2
  · omega
theorem dsD_no {M : List (List Int)} {t v : Int} (h : ∀ n, ¬ GP M n t v) : dsD M t v = -1 := by
  rcases dsD_is M t v with ⟨m, h1, h2, h3⟩ | ⟨h1, h2⟩
  · exact absurd h2 (h m)
  · exact h1
theorem dsD_self (M : List (List Int)) (t : Int) : dsD M t t = 0 := by have := dsD_of (GP.nil (M := M) t); omega
theorem dsD_step {M : List (List Int)} {t u w : Int} (hu : 0 ≤ dsD M t u) (hw : w ∈ gLs M u.toNat) : 0 ≤ dsD M t w ∧ dsD M t w ≤ dsD M t u + 1 := by
  have := dsD_of (GP.snoc _ _ _ _ (dsD_path hu) hw); omega
/-- the list of numbers, by the places that have been found -/
noncomputable def dL (M : List (List Int)) (t : Int) (n : Nat) (L : List Int) : List Int := (List.range n).map (fun v => if ((v : Nat) : Int) ∈ L then dsD M t v else -1)
theorem dL_len (M : List (List Int)) (t : Int) (n : Nat) (L : List Int) : (dL M t n L).length = n := by unfold dL; simp
theorem gI_dL {M : List (List Int)} {t : Int} {n : Nat} {L : List Int} {v : Nat} (hv : v < n) : gI (dL M t n L) v = if ((v : Nat) : Int) ∈ L then dsD M t v else -1 := by
  rw [gI_eq (by rw [dL_len]; exact hv)]; unfold dL; simp
theorem dL_add {M : List (List Int)} {t : Int} {n : Nat} {L : List Int} {v : Nat} (hv : v < n) : dL M t n (L ++ [((v : Nat) : Int)]) = (dL M t n L).set v (dsD M t v) := by
  apply List.ext_getElem
  · simp [dL]
  · intro i h1 h2
    have hi : i < n := by simpa [dL] using h1
    rw [List.getElem_set]
    unfold dL
    simp only [List.getElem_map, List.getElem_range, List.mem_append, List.mem_singleton]
    by_cases e : v = i
    · subst e; simp
    · rw [if_neg e]
      have : ¬ ((i : Nat) : Int) = ((v : Nat) : Int) := by omega
      simp [this]
theorem dL_nil (M : List (List Int)) (t : Int) (n : Nat) : dL M t n [] = List.replicate n (-1) := by
  apply List.ext_getElem
  · simp [dL]
  · intro i h1 h2; rw [List.getElem_replicate]; unfold dL; simp only [List.getElem_map, List.not_mem_nil, if_false]
/-- rows with places alone -/
def RowsIn (M : List (List Int)) (n : Nat) : Prop := ∀ k, k < n → ∀ w ∈ gLs M k, 0 ≤ w ∧ w < (n : Int)
structure BInv (M : List (List Int)) (t : Int) (n : Nat) (L : List Int) (k : Nat) : Prop where
  nd : L.Nodup
  lt : ∀ u ∈ L, 0 ≤ u ∧ u < (n : Int)
  hd : t ∈ L
  rc : ∀ u ∈ L, 0 ≤ dsD M t u
  so : L.Pairwise (fun u v => dsD M t u ≤ dsD M t v)
  cl : ∀ j (hj : j < L.length), j < k → ∀ w ∈ gLs M (L[j]).toNat, w ∈ L
  ne : ∀ (hk : k < L.length), ∀ v ∈ L, dsD M t v ≤ dsD M t (L[k]) + 1
  bd : ∀ v ∈ L, dsD M t v < (L.length : Int)
theorem BInv.init {M : List (List Int)} {t : Int} {n : Nat} (h : 0 ≤ t ∧ t < (n : Int)) : BInv M t n [t] 0 :=
  ⟨by simp, fun u hu => by rw [List.mem_singleton] at hu; subst hu; exact h, by simp, fun u hu => by rw [List.mem_singleton] at hu; subst hu; rw [dsD_self]; exact Int.le_refl _, by simp, fun j _ hj => by omega, fun _ v hv => by rw [List.mem_singleton] at hv; subst hv; simp; omega, fun v hv => by rw [List.mem_singleton] at hv; subst hv; rw [dsD_self]; simp⟩
theorem nodupI_len (n : Nat) (L : List Int) (hn : L.Nodup) (h : ∀ u ∈ L, 0 ≤ u ∧ u < (n : Int)) : L.length ≤ n := by
  have := nodup_len n (L.map Int.toNat) (List.pairwise_map.2 (hn.imp_of_mem fun {a b} ha hb hne e => hne (by have := h a ha; have := h b hb; omega))) (fun u hu => by
    obtain ⟨a, ha, rfl⟩ := List.mem_map.1 hu
    have := h a ha; omega)
  simpa using this
theorem BInv.len {M : List (List Int)} {t : Int} {n : Nat} {L : List Int} {k : Nat} (h : BInv M t n L k) : L.length ≤ n := nodupI_len n L h.nd h.lt
/-- within one round -/
structure BIn (M : List (List Int)) (t : Int) (n : Nat) (L : List Int) (k : Nat) (u : Int) (i : Nat) (N : List Int) : Prop where
  ap : ∃ E, N = L ++ E
  nd : N.Nodup
  lt : ∀ u ∈ N, 0 ≤ u ∧ u < (n : Int)
  rc : ∀ u ∈ N, 0 ≤ dsD M t u
  so : N.Pairwise (fun u v => dsD M t u ≤ dsD M t v)
  got : ∀ w ∈ (gLs M u.toNat).take i, w ∈ N
  ne : ∀ v ∈ N, dsD M t v ≤ dsD M t u + 1
  bd : ∀ v ∈ N, dsD M t v < (N.length : Int)
theorem BInv.into {M : List (List Int)} {t : Int} {n : Nat} {L : List Int} {k : Nat} (h : BInv M t n L k) (hk : k < L.length) : BIn M t n L k (L[k]) 0 L :=
  ⟨⟨[], by simp⟩, h.nd, h.lt, h.rc, h.so, by simp, h.ne hk, h.bd⟩
theorem BIn.len {M : List (List Int)} {t : Int} {n : Nat} {L : List Int} {k i : Nat} {u : Int} {N : List Int} (h : BIn M t n L k u i N) : N.length ≤ n := nodupI_len n N h.nd h.lt
theorem take_snocI' {L : List Int} {k : Nat} (h : k < L.length) : L.take (k + 1) = L.take k ++ [gI L k] := by rw [List.take_succ_eq_append_getElem h, gI_eq h]
theorem BIn.skip {M : List (List Int)} {t : Int} {n : Nat} {L : List Int} {k i : Nat} {u : Int} {N : List Int} (h : BIn M t n L k u i N) (hi : i < (gLs M u.toNat).length) (hm : gI (gLs M u.toNat) i ∈ N) : BIn M t n L k u (i + 1) N :=
  ⟨h.ap, h.nd, h.lt, h.rc, h.so, fun w hw => by
    rw [take_snocI' hi, List.mem_append, List.mem_singleton] at hw
    rcases hw with hw | rfl
    · exact h.got w hw
    · exact hm, h.ne, h.bd⟩
/-- whatever lies no farther than the place at hand has been found -/
theorem BInv.near {M : List (List Int)} {t : Int} {n : Nat} {L : List Int} {k : Nat} (h : BInv M t n L k) (hk : k < L.length) : ∀ (m : Nat) (v : Int), GP M m t v → (m : Int) ≤ dsD M t (L[k]) → v ∈ L := by
  intro m
  induction m with
  | zero => intro v hv _; cases hv; exact h.hd
  | succ m ih =>
    intro w hw hm
    cases hw with
    | snoc _ _ p _ hp hwp =>
      have hpL := ih p hp (by omega)
      obtain ⟨j, hj, rfl⟩ := List.getElem_of_mem hpL
      have hd := (dsD_of hp).2
      refine h.cl j hj ?_ w hwp
      refine Classical.byContradiction fun hc => ?_
      rcases Nat.lt_or_ge k j with hkj | hkj
      · have := List.pairwise_iff_getElem.1 h.so k j hk hj hkj
        omega
      · obtain rfl : j = k := by omega
        omega
theorem BIn.go {M : List (List Int)} {t : Int} {n : Nat} {L : List Int} {k i : Nat} {N : List Int} (hI : BInv M t n L k) (hk : k < L.length) (hR : RowsIn M n) (h : BIn M t n L k (L[k]) i N) (hi : i < (gLs M (L[k]).toNat).length) (hm : gI (gLs M (L[k]).toNat) i ∉ N) :
    BIn M t n L k (L[k]) (i + 1) (N ++ [gI (gLs M (L[k]).toNat) i]) ∧ dsD M t (gI (gLs M (L[k]).toNat) i) = dsD M t (L[k]) + 1 ∧ (0 ≤ gI (gLs M (L[k]).toNat) i ∧ gI (gLs M (L[k]).toNat) i < (n : Int)) := by
  have hu := hI.lt _ (List.getElem_mem hk)
  have hur := hI.rc _ (List.getElem_mem hk)
  have hw : gI (gLs M (L[k]).toNat) i ∈ gLs M (L[k]).toNat := by rw [gI_eq hi]; exact List.getElem_mem hi
  have hb := hR _ (by omega) _ hw
  obtain ⟨s1, s2⟩ := dsD_step hur hw
  have e : dsD M t (gI (gLs M (L[k]).toNat) i) = dsD M t (L[k]) + 1 := by
    refine Classical.byContradiction fun hc => hm ?_
    have hp := dsD_path s1
    have := hI.near hk _ _ hp (by omega)
    obtain ⟨E, rfl⟩ := h.ap
    simp [this]
  refine ⟨⟨?_, ?_, ?_, ?_, ?_, ?_, ?_, ?_⟩, e, hb⟩
  · obtain ⟨E, rfl⟩ := h.ap
    exact ⟨E ++ [gI (gLs M (L[k]).toNat) i], by rw [List.append_assoc]⟩
  · rw [List.nodup_append]
    refine ⟨h.nd, by simp, fun a ha b hb' => ?_⟩
    rw [List.mem_singleton] at hb'
    subst hb'
    rintro rfl
    exact hm ha
  · intro u hu'
    rw [List.mem_append, List.mem_singleton] at hu'
    rcases hu' with hu' | rfl
    · exact h.lt u hu'
    · exact hb
  · intro u hu'
    rw [List.mem_append, List.mem_singleton] at hu'
    rcases hu' with hu' | rfl
    · exact h.rc u hu'
    · exact s1
  · rw [List.pairwise_append]
    refine ⟨h.so, by simp, fun a ha b hb' => ?_⟩
    rw [List.mem_singleton] at hb'
    subst hb'
    rw [e]; exact h.ne a ha
  · intro w hw'
    rw [take_snocI' hi, List.mem_append, List.mem_singleton] at hw'
    rw [List.mem_append, List.mem_singleton]
    rcases hw' with hw' | rfl
    · exact .inl (h.got w hw')
    · exact .inr rfl
  · intro v hv
    rw [List.mem_append, List.mem_singleton] at hv
    rcases hv with hv | rfl
    · exact h.ne v hv
    · omega
  · intro v hv
    rw [List.length_append, List.length_singleton]
    rw [List.mem_append, List.mem_singleton] at hv
    rcases hv with hv | rfl
    · have := h.bd v hv; omega
    · obtain ⟨E, rfl⟩ := h.ap
      have := h.bd (L[k]) (by simp)
      omega
theorem BIn.out {M : List (List Int)} {t : Int} {n : Nat} {L : List Int} {k i : Nat} {N : List Int} (hI : BInv M t n L k) (hk : k < L.length) (h : BIn M t n L k (L[k]) i N) (hi : ¬ i < (gLs M (L[k]).toNat).length) : BInv M t n N (k + 1) := by
  obtain ⟨E, rfl⟩ := h.ap
  refine ⟨h.nd, h.lt, by simp [hI.hd], h.rc, h.so, fun j hj hjk w hw => ?_, fun hk1 v hv => ?_, h.bd⟩
  · have hjL : j < L.length := by omega
    rw [List.getElem_append_left hjL] at hw
    by_cases e : j = k
    · subst e
      refine h.got w ?_
      rw [List.take_of_length_le (by omega)]; exact hw
    · rw [List.mem_append]; exact .inl (hI.cl j hjL (by omega) w hw)
  · have h1 := h.ne v hv
    have h2 := List.pairwise_iff_getElem.1 h.so k (k + 1) (by omega) hk1 (by omega)
    rw [List.getElem_append_left hk] at h2
    omega
theorem BInv.fin {M : List (List Int)} {t : Int} {n : Nat} {L : List Int} {k : Nat} (h : BInv M t n L k) (hk : ¬ k < L.length) : ∀ (m : Nat) (v : Int), GP M m t v → v ∈ L := by
  intro m
  induction m with
  | zero => intro v hv; cases hv; exact h.hd
  | succ m ih =>
    intro w hw
    cases hw with
    | snoc _ _ p _ hp hwp =>
      obtain ⟨j, hj, rfl⟩ := List.getElem_of_mem (ih p hp)
      exact h.cl j hj (by omega) w hwp
noncomputable def dsM (M : List (List Int)) (t : Int) (n : Nat) : List Int := (List.range n).map (fun v => dsD M t ((v : Nat) : Int))
theorem dsM_len (M : List (List Int)) (t : Int) (n : Nat) : (dsM M t n).length = n := by unfold dsM; simp
theorem dL_fin {M : List (List Int)} {t : Int} {n : Nat} {L : List Int} {k : Nat} (h : BInv M t n L k) (hk : ¬ k < L.length) : dL M t n L = dsM M t n := by
  unfold dL dsM
  refine List.map_congr_left fun v _ => ?_
  split
  · rfl
  · rename_i hv
    exact (dsD_no fun m hm => hv (h.fin hk m _ hm)).symm
theorem dL_neg {M : List (List Int)} {t : Int} {n : Nat} {L : List Int} (hrc : ∀ u ∈ L, 0 ≤ dsD M t u) {w : Int} (hw : 0 ≤ w ∧ w < (n : Int)) : gI (dL M t n L) w.toNat < 0 ↔ w ∉ L := by
  rw [gI_dL (by omega), show ((w.toNat : Nat) : Int) = w by omega]
  by_cases h : w ∈ L
  · rw [if_pos h]; have := hrc w h
    constructor
    · intro h2; omega
    · intro h2; exact absurd h h2
  · rw [if_neg h]; simp [h]
inductive FW : Nat → List Dom → List Dom → Prop
  | nil (P : List Dom) : FW 0 P P
  | step (n : Nat) (P Q : List Dom) (c : Cel) (hc : canB P c.x c.y = true) (h : FW n (flipAt P c) Q) : FW (n + 1) P Q
theorem FW.snoc {n : Nat} {P Q : List Dom} (h : FW n P Q) {c : Cel} (hc : canB Q c.x c.y = true) : FW (n + 1) P (flipAt Q c) := by
  induction h with
  | nil P => exact .step _ _ _ c hc (.nil _)
  | step n P Q d hd _ ih => exact .step _ _ _ d hd (ih hc)
theorem FW.back {s n : Nat} {P Q : List Dom} (h : FW n P Q) : TilS s P → FW n Q P := by
  induction h with
  | nil P => exact fun _ => .nil _
  | step n P Q d hd hr ih =>
    intro hP
    have := ih (flipAt_til hP hd)
    obtain ⟨b1, b2⟩ := flip_back hP hd
    have h3 := FW.snoc this b1
    rw [b2] at h3; exact h3
/-! ways of flips in the list of tilings -/
theorem rows_in {s : Nat} {a : List (List Dom)} (hA : FlipA s a) : RowsIn (lkM a) a.length := by
  intro k hk w hw
  have hP : gLd a k ∈ a := by rw [gLd_eq hk]; exact List.getElem_mem hk
  rw [lkM_row hk, lkR_nb hA hP] at hw
  obtain ⟨c, hc, rfl⟩ := List.mem_map.1 hw
  have := ixT_mem (hA.flip hP hc)
  have := (ixT_lt a (flipAt (gLd a k) c)).1
  omega
theorem lk_row64 {s : Nat} {a : List (List Dom)} (hA : FlipA s a) {k : Nat} (hk : k < (lkM a).length) : (gLs (lkM a) k).length ≤ 64 := by
  rw [lkM_len] at hk
  have hP : gLd a k ∈ a := by rw [gLd_eq hk]; exact List.getElem_mem hk
  rw [lkM_row hk, lkR_nb hA hP, nbI_len]; exact flips_len _


end Cl
end Go.Proofs.YtgmkkfdnmdohlaaDoor
