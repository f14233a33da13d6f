/- Walks over clean states, printed by wg.py. No statement is proved here. -/
import Derived.Test.YtgmkkfdnmdohlaaGreatDoorE7
import Derived.Test.YtgmkkfdnmdohlaaGreatDoorE8p
import Derived.Test.YtgmkkfdnmdohlaaGreatDoorClB
set_option linter.unusedSimpArgs false
set_option linter.unusedVariables false
namespace Go.Proofs.YtgmkkfdnmdohlaaGreatDoor
namespace Cl
open Go.ChangeShapes Go.WideShapes Go.ChangeAt Go.RowKit
set_option maxRecDepth 20000
/-! neighbors by flips -/
structure PutI (L : List Int) (n : Int) (k : Nat) (b : Bool) (o : List Int) : Prop where
  t : b = true → (∃ x ∈ L.take k, n ≤ x) ∧ o = putL (L.take k) n
  f : b = false → (∀ x ∈ L.take k, ¬ n ≤ x) ∧ o = L.take k
theorem PutI.zero (L : List Int) (n : Int) : PutI L n 0 false [] := ⟨fun h => (by cases h), fun _ => ⟨by simp, by simp⟩⟩
theorem PutI.len {L : List Int} {n : Int} {k : Nat} {b : Bool} {o : List Int} (h : PutI L n k b o) : o.length ≤ k + 1 := by
  cases b
  · rw [(h.f rfl).2, List.length_take]; omega
  · rw [(h.t rfl).2, putL_len, List.length_take]; omega
theorem PutI.on {L : List Int} {n : Int} {k : Nat} {b : Bool} {o : List Int} (h : PutI L n k b o) (hk : k < L.length) (hb : b = true) : PutI L n (k + 1) true (o ++ [gI L k]) := by
  obtain ⟨h1, h2⟩ := h.t hb
  refine ⟨fun _ => ⟨?_, ?_⟩, fun h => by cases h⟩
  · obtain ⟨x, hx, hn⟩ := h1
    exact ⟨x, by rw [take_snocI hk]; simp [hx], hn⟩
  · rw [h2, take_snocI hk, putL_app _ h1]
theorem PutI.off {L : List Int} {n : Int} {k : Nat} {b : Bool} {o : List Int} (h : PutI L n k b o) (hk : k < L.length) (hb : b = false) (hn : ¬ n ≤ gI L k) : PutI L n (k + 1) false (o ++ [gI L k]) := by
  obtain ⟨h1, h2⟩ := h.f hb
  refine ⟨fun h => (by cases h), fun _ => ⟨fun x hx => ?_, by rw [h2, take_snocI hk]⟩⟩
  rw [take_snocI hk] at hx
  rcases List.mem_append.1 hx with hx | hx
  · exact h1 x hx
  · simp at hx; subst hx; exact hn
theorem PutI.now {L : List Int} {n : Int} {k : Nat} {b : Bool} {o : List Int} (h : PutI L n k b o) (hk : k < L.length) (hb : b = false) (hn : n ≤ gI L k) : PutI L n (k + 1) true ((o ++ [n]) ++ [gI L k]) := by
  obtain ⟨h1, h2⟩ := h.f hb
  refine ⟨fun _ => ⟨⟨gI L k, by rw [take_snocI hk]; simp, hn⟩, ?_⟩, fun h => by cases h⟩
  rw [h2, take_snocI hk]
  have : ∀ M : List Int, (∀ x ∈ M, ¬ n ≤ x) → putL (M ++ [gI L k]) n = M ++ [n] ++ [gI L k] := by
    intro M
    induction M with
    | nil => intro _; unfold putL; rw [List.nil_append]; simp only; rw [if_neg (by omega)]; rfl
    | cons a M ih =>
      intro hM
      rw [List.cons_append]; unfold putL
      rw [if_pos (by have := hM a (by simp); omega), ih (fun x hx => hM x (by simp [hx]))]; rfl
  exact (this _ h1).symm
theorem PutI.end_t {L : List Int} {n : Int} {k : Nat} {b : Bool} {o : List Int} (h : PutI L n k b o) (hk : ¬ k < L.length) (hb : b = true) : o = putL L n := by rw [(h.t hb).2, List.take_of_length_le (by omega)]
theorem PutI.end_f {L : List Int} {n : Int} {k : Nat} {b : Bool} {o : List Int} (h : PutI L n k b o) (hk : ¬ k < L.length) (hb : b = false) : o ++ [n] = putL L n := by
  obtain ⟨h1, h2⟩ := h.f hb
  rw [List.take_of_length_le (by omega)] at h1 h2
  rw [h2, putL_none h1]
def mtK (a : List (List Dom)) (q : List Dom) (j : Nat) : List Int := ((List.range j).filter (fun i => decide (gLd a i = q))).map (fun i : Nat => (i : Int))
def mtc (a : List (List Dom)) (q : List Dom) : List Int := mtK a q a.length
theorem mtK_yes {a : List (List Dom)} {q : List Dom} {j : Nat} (h : gLd a j = q) : mtK a q (j + 1) = mtK a q j ++ [(j : Int)] := by
  unfold mtK; rw [List.range_succ, List.filter_append, List.map_append, List.filter_cons, if_pos (decide_eq_true h)]; rfl
theorem mtK_no {a : List (List Dom)} {q : List Dom} {j : Nat} (h : gLd a j ≠ q) : mtK a q (j + 1) = mtK a q j := by
  unfold mtK; rw [List.range_succ, List.filter_append, List.map_append, List.filter_cons, if_neg (by rw [decide_eq_true_eq]; exact h)]; simp
theorem mtK_len (a : List (List Dom)) (q : List Dom) (j : Nat) : (mtK a q j).length ≤ j := by
  unfold mtK; rw [List.length_map]; have := List.length_filter_le (fun i => decide (gLd a i = q)) (List.range j); rwa [List.length_range] at this
def lkK (a : List (List Dom)) (P : List Dom) (i : Nat) : List Int := ((flipsOf P).take i).flatMap (fun c => mtc a (flipAt P c))
def lkR (a : List (List Dom)) (P : List Dom) : List Int := (flipsOf P).flatMap (fun c => mtc a (flipAt P c))
theorem lkK_snoc {a : List (List Dom)} {P : List Dom} {i : Nat} (h : i < (flipsOf P).length) : lkK a P (i + 1) = lkK a P i ++ mtc a (flipAt P (gC (flipsOf P) i)) := by
  unfold lkK; rw [List.take_succ_eq_append_getElem h, List.flatMap_append, gC_eq h]; simp
theorem lkK_end {a : List (List Dom)} {P : List Dom} {i : Nat} (h : ¬ i < (flipsOf P).length) : lkK a P i = lkR a P := by unfold lkK lkR; rw [List.take_of_length_le (by omega)]
theorem lkK_len {a : List (List Dom)} {P : List Dom} (ha : a.length ≤ 300) : ∀ i, i ≤ (flipsOf P).length → (lkK a P i).length ≤ 300 * i := by
  intro i
  induction i with
  | zero => intro _; simp [lkK]
  | succ i ih =>
    intro h
    rw [lkK_snoc (by omega), List.length_append]
    have := ih (by omega)
    have := mtK_len a (flipAt P (gC (flipsOf P) i)) a.length
    unfold mtc; omega
theorem flips_len (P : List Dom) : (flipsOf P).length ≤ 64 := flN_len P 64
def lkM (a : List (List Dom)) : List (List Int) := a.map (lkR a)
theorem lkM_len (a : List (List Dom)) : (lkM a).length = a.length := by simp [lkM]
theorem lkM_row {a : List (List Dom)} {k : Nat} (h : k < a.length) : gLs (lkM a) k = lkR a (gLd a k) := by
  rw [gLs_eq (by rw [lkM_len]; exact h), gLd_eq h]; simp [lkM]
def lkT (a : List (List Dom)) (k : Nat) : List (List Int) := (a.take k).map (lkR a)
theorem lkT_snoc {a : List (List Dom)} {k : Nat} (h : k < a.length) : lkT a k ++ [lkR a (gLd a k)] = lkT a (k + 1) := by
  unfold lkT; rw [List.take_succ_eq_append_getElem h, List.map_append, gLd_eq h]; rfl
theorem lkT_end {a : List (List Dom)} {k : Nat} (h : ¬ k < a.length) : lkT a k = lkM a := by unfold lkT lkM; rw [List.take_of_length_le (by omega)]
theorem lkT_len {a : List (List Dom)} {k : Nat} (h : k ≤ a.length) : (lkT a k).length = k := by unfold lkT; rw [List.length_map, List.length_take]; omega
theorem gLd_inj {a : List (List Dom)} (hn : a.Nodup) {i j : Nat} (hi : i < a.length) (hj : j < a.length) (h : gLd a i = gLd a j) : i = j := by
  rw [gLd_eq hi, gLd_eq hj] at h
  exact (List.getElem_inj hn).1 h
theorem mtK_one {a : List (List Dom)} (hn : a.Nodup) {k : Nat} (hk : k < a.length) : ∀ j, j ≤ a.length → mtK a (gLd a k) j = if k < j then [(k : Int)] else [] := by
  intro j
  induction j with
  | zero => intro _; rfl
  | succ j ih =>
    intro hj
    by_cases e : k = j
    · subst e
      rw [mtK_yes rfl, ih (by omega), if_neg (by omega), if_pos (by omega)]; rfl
    · rw [mtK_no (fun h => e (gLd_inj hn hk (by omega) h.symm)), ih (by omega)]
      split <;> split <;> first | rfl | (exfalso; omega)
theorem ixT_mem {a : List (List Dom)} {q : List Dom} (h : q ∈ a) : 0 ≤ ixT a q := by
  unfold ixT; rw [if_pos (List.any_eq_true.2 ⟨q, h, decide_eq_true rfl⟩)]; omega
theorem mtc_one {a : List (List Dom)} (hn : a.Nodup) {q : List Dom} (h : q ∈ a) : mtc a q = [ixT a q] := by
  have h0 := ixT_mem h
  obtain ⟨h1, h2⟩ := ixT_at h0
  have := mtK_one hn h1 a.length (Nat.le_refl _)
  rw [h2, if_pos h1] at this
  unfold mtc; rw [this]; congr 1; omega
def nbI (a : List (List Dom)) (P : List Dom) : List Int := (flipsOf P).map (fun c => ixT a (flipAt P c))
theorem nbI_len (a : List (List Dom)) (P : List Dom) : (nbI a P).length = (flipsOf P).length := by simp [nbI]
theorem nbI_at {a : List (List Dom)} {P : List Dom} {k : Nat} (h : k < (flipsOf P).length) : gI (nbI a P) k = ixT a (flipAt P (gC (flipsOf P) k)) := by
  rw [gI_eq (by rw [nbI_len]; exact h), gC_eq h]; simp [nbI]
theorem flips_can {P : List Dom} {c : Cel} (h : c ∈ flipsOf P) : canB P c.x c.y = true := by
  unfold flipsOf flN at h
  obtain ⟨i, hi, rfl⟩ := List.mem_map.1 h
  exact (List.mem_filter.1 hi).2
structure FlipA (s : Nat) (a : List (List Dom)) : Prop where
  nd : a.Nodup
  ti : ∀ P ∈ a, TilS s P
  cl : ∀ Q, (∃ P, P ∈ a) → TilS s Q → Q ∈ a
theorem FlipA.of (l : List Int) : FlipA (regSet l) (ltR l) := ⟨ltR_nodup l, fun _ h => (ltR_mem h).2, fun _ ⟨_, h⟩ hQ => ltR_of h hQ⟩
theorem FlipA.flip {s : Nat} {a : List (List Dom)} (h : FlipA s a) {P : List Dom} (hP : P ∈ a) {c : Cel} (hc : c ∈ flipsOf P) : flipAt P c ∈ a := h.cl _ ⟨P, hP⟩ (flipAt_til (h.ti P hP) (flips_can hc))
theorem lkR_nb {s : Nat} {a : List (List Dom)} (h : FlipA s a) {P : List Dom} (hP : P ∈ a) : lkR a P = nbI a P := by
  unfold lkR nbI
  have : ∀ L : List Cel, (∀ c ∈ L, c ∈ flipsOf P) → L.flatMap (fun c => mtc a (flipAt P c)) = L.map (fun c => ixT a (flipAt P c)) := by
    intro L
    induction L with
    | nil => intro _; rfl
    | cons c L ih =>
      intro hL
      rw [List.flatMap_cons, List.map_cons, ih (fun x hx => hL x (by simp [hx])), mtc_one h.nd (h.flip hP (hL c (by simp)))]; rfl
  exact this _ fun c hc => hc
theorem ix_in {l : List Int} {q : List Dom} (h : ¬ ixT (ltR l) q < 0) : q ∈ ltR l ∧ gLd (ltR l) (ixT (ltR l) q).toNat = q ∧ (ixT (ltR l) q).toNat < (ltR l).length := by
  obtain ⟨h1, h2⟩ := ixT_at (a := ltR l) (q := q) (by omega)
  exact ⟨by rw [gLd_eq h1] at h2; exact h2 ▸ List.getElem_mem h1, h2, h1⟩
theorem qE8_sz_3 : (Tryz.prog.info? 3).map (·.size) = some 1 := by kernel_rfl
theorem qE8_sz_31 : (Tryz.prog.info? 31).map (·.size) = some 1 := by kernel_rfl
theorem qE8_sz_70 : (Tryz.prog.info? 70).map (·.size) = some 2 := by kernel_rfl
theorem qE8_ti_3 : TI Tryz.prog 3 false 1 := ⟨⟨_, Tryz.underlying3, rfl⟩, by kernel_rfl⟩
theorem qE8_ti_31 : TI Tryz.prog 31 false 1 := ⟨⟨_, Tryz.underlying31, rfl⟩, by kernel_rfl⟩
theorem qE8_ti_70 : TI Tryz.prog 70 true 2 := ⟨⟨_, Tryz.underlying70, rfl⟩, by kernel_rfl⟩
theorem qE8_un_22 : Tryz.prog.underlying 22 = some (.slice 3) := Tryz.underlying22
theorem qE8_un_36 : Tryz.prog.underlying 36 = some (.slice 70) := Tryz.underlying36
theorem qE8_un_56 : Tryz.prog.underlying 56 = some (.slice 22) := Tryz.underlying56
theorem qE8_un_58 : Tryz.prog.underlying 58 = some (.slice 31) := Tryz.underlying58
theorem qE8_zi_22 : ZI Tryz.prog 22 (.slice none 0 0) 1 24 := by unfold ZI; kernel_rfl
theorem qE8_zi_3 : ZI Tryz.prog 3 (.int .i64 0) 1 8 := by unfold ZI; kernel_rfl
set_option maxHeartbeats 4000000 in
set_option maxRecDepth 100000 in
theorem impl_put_fn (L : List Int) (n : Int) (hl : L.length ≤ 4194000) : Fn Tryz.prog 58 [.a (.slv L.length 1 (isl L)), .a (.val (.int .i64 n))] [.row 3 1 (putL L n).length (isl (putL L n))] := by
 refine fn_intro (N := 39) Tryz.func58 rfl (by kernel_rfl) rfl (Nat.le_of_ble_eq_true rfl) [9, 11, 25, 26, 29, 30, 36, 37] (ret1 rfl) (fun W => ?_)
 show Wp _ _ _ [kV 0 (V.b (.a (.slv L.length 1 (isl L)))), kI 1 n, kF 9, kF 11, kF 25, kF 26, kF 29, kF 30, kF 36, kF 37]
 refine sq (rg (zk (nl (sq (rg ?_)))))
 refine z ?_ (h := fun ν => b0I (h := 9) ν qE8_un_22 qE8_zi_3)
 refine za (zk (nl (sq (sq (rg (zm ?_))))))
 refine z ?_ (h := fun ν => lnV ν qE8_un_22)
 refine z ?_ (h := fun ν => mc ν)
 refine nl (bkk ?_)
 refine wp_loop' (fun ((k, b, o) : Nat × Bool × (List Int)) => k ≤ L.length ∧ PutI L n k b o) (fun ((k, b, o) : Nat × Bool × (List Int)) => [kI 1 n, kS 5 9 0 o.length, kB 6 b, kV 10 (V.b (.a (.slv L.length 1 (isl L)))), kI 11 ((L.length : Nat) : Int), kI 12 ((k : Nat) : Int), kO 9 3 1 true (pl (isl o)), kF 11, kF 25, kF 26, kF 29, kF 30, kF 36, kF 37]) (fun ((k, b, o) : Nat × Bool × (List Int)) => L.length - k) ((0 : Nat), (false : Bool), ([] : List Int)) (by exact ⟨Nat.zero_le _, PutI.zero L n⟩) (wkf id (wS <| wE (e := (vsl (by rfl) rfl)) <| wS <| wS <| wS <| wE (e := (vint (by rfl))) <| wP <| wF <| wF <| wF <| wF <| wF <| wF <| wF <| wN)) ?_
 rintro ⟨k, b, o⟩ inv1
 replace inv1 : k ≤ L.length ∧ PutI L n k b o := inv1
 obtain ⟨hk, hP⟩ := inv1
 have hol := hP.len
 refine sq (rg ?_)
 refine z ?_ (h := fun ν => acts_bin ν vt vt (r_lss rfl))
 refine nl (sq ?_)
 refine wi (fun c2 => ?_) (fun c2 => ?_)
 ·skip
  have c2P := of_decide_eq_true c2
  refine sk (sq (bkk (sq (rg ?_))))
  refine z ?_ (h := fun ν => ixv ν qE8_un_22 qE8_sz_3 vt)
  refine z ?_ (h := fun ν => uI ν qE8_ti_3)
  refine za (nl (sq (sq ?_)))
  rcases Bool.eq_false_or_eq_true (b) with c3 | c3
  ·skip
   rw [c3]
   refine rg (zm ?_)
   refine z ?_ (h := fun ν => acts_un ν vt (r_not (c := false) rfl))
   refine zm (zo (zo (zo ?_)))
   refine z ?_ (h := fun ν => acts_pick_f ν vt xc)
   refine nl (wf (sk (rg (zm (zm ?_)))))
   refine z ?_ (h := fun ν => acts_buildSlice' (h := 29) (xs := isl ([(gI L k)] : List Int)) ν qE8_un_22 qE8_zi_3 (.cons vt OpVs.nil) (by decide) (by decide) (by kernel_rfl) rfl)
   refine z ?_ (h := fun ν => aI_ (h2 := 30) (L3 := (o ++ [(gI L k)])) ν qE8_un_22 qE8_zi_3 (by exact rfl) rfl (by exact rfl) (by (simp; omega)))
   refine za (nl (rg ?_))
   refine z ?_ (h := fun ν => acts_bin ν vt vc rA)
   refine zm (nl ?_)
   exact loop_back ((k + 1), true, (o ++ [(gI L k)])) (by refine ⟨by omega, ?_⟩; first | exact hP.on (by omega) (by assumption) | exact hP.now (by omega) (by assumption) (by omega) | exact hP.off (by omega) (by assumption) (by omega)) (by show L.length - (k + 1) < L.length - k; omega) (wkf (subst1 [(9, 30)]) (wS <| wS <| wS <| wS <| wS <| wE (e := (vint (by rfl))) <| wP <| wF <| wF <| wF <| wF <| wF <| wF <| wF <| wN))
  ·skip
   rw [c3]
   refine rg (zm ?_)
   refine z ?_ (h := fun ν => acts_un ν vt (r_not (c := true) rfl))
   refine zm ?_
   refine zg ?_ (h := fun ν => step_on rfl rfl (mt ν))
   refine zg ?_ (h := fun ν => step_on rfl rfl (mt ν))
   refine zg ?_ (h := fun ν => step_on rfl rfl (acts_bin ν vt vt (r_leq rfl)))
   refine z ?_ (h := fun ν => acts_pick_t ν vt xt)
   refine nl ?_
   refine wi (fun c4 => ?_) (fun c4 => ?_)
   ·skip
    have c4P := of_decide_eq_true c4
    refine sq (rg (zm (zm ?_)))
    refine z ?_ (h := fun ν => acts_buildSlice' (h := 25) (xs := isl ([n] : List Int)) ν qE8_un_22 qE8_zi_3 (.cons vt OpVs.nil) (by decide) (by decide) (by kernel_rfl) rfl)
    refine z ?_ (h := fun ν => aI_ (h2 := 26) (L3 := (o ++ [n])) ν qE8_un_22 qE8_zi_3 (by exact rfl) rfl (by exact rfl) (by (simp; omega)))
    refine za (nl (rg (zk (nl (rg (zm (zm ?_)))))))
    refine z ?_ (h := fun ν => acts_buildSlice' (h := 29) (xs := isl ([(gI L k)] : List Int)) ν qE8_un_22 qE8_zi_3 (.cons vt OpVs.nil) (by decide) (by decide) (by kernel_rfl) rfl)
    refine z ?_ (h := fun ν => aI_ (h2 := 30) (L3 := ((o ++ [n]) ++ [(gI L k)])) ν qE8_un_22 qE8_zi_3 (by exact rfl) rfl (by exact rfl) (by (simp; omega)))
    refine za (nl (rg ?_))
    refine z ?_ (h := fun ν => acts_bin ν vt vc rA)
    refine zm (nl ?_)
    exact loop_back ((k + 1), true, ((o ++ [n]) ++ [(gI L k)])) (by refine ⟨by omega, ?_⟩; first | exact hP.on (by omega) (by assumption) | exact hP.now (by omega) (by assumption) (by omega) | exact hP.off (by omega) (by assumption) (by omega)) (by show L.length - (k + 1) < L.length - k; omega) (wkf (subst1 [(9, 30)]) (wS <| wS <| wS <| wS <| wS <| wE (e := (vint (by rfl))) <| wP <| wF <| wF <| wF <| wF <| wF <| wF <| wF <| wN))
   ·skip
    have c4P := of_decide_eq_false c4
    refine sk (rg (zm (zm ?_)))
    refine z ?_ (h := fun ν => acts_buildSlice' (h := 29) (xs := isl ([(gI L k)] : List Int)) ν qE8_un_22 qE8_zi_3 (.cons vt OpVs.nil) (by decide) (by decide) (by kernel_rfl) rfl)
    refine z ?_ (h := fun ν => aI_ (h2 := 30) (L3 := (o ++ [(gI L k)])) ν qE8_un_22 qE8_zi_3 (by exact rfl) rfl (by exact rfl) (by (simp; omega)))
    refine za (nl (rg ?_))
    refine z ?_ (h := fun ν => acts_bin ν vt vc rA)
    refine zm (nl ?_)
    exact loop_back ((k + 1), false, (o ++ [(gI L k)])) (by refine ⟨by omega, ?_⟩; first | exact hP.on (by omega) (by assumption) | exact hP.now (by omega) (by assumption) (by omega) | exact hP.off (by omega) (by assumption) (by omega)) (by show L.length - (k + 1) < L.length - k; omega) (wkf (subst1 [(9, 30)]) (wS <| wS <| wS <| wS <| wS <| wE (e := (vint (by rfl))) <| wP <| wF <| wF <| wF <| wF <| wF <| wF <| wF <| wN))
 ·skip
  have c2P := of_decide_eq_false c2
  refine wp_exit' (sq (sq (rg (zm ?_))))
  refine z ?_ (h := fun ν => acts_un ν vt (r_not rfl))
  refine nl ?_
  refine wi (b := (!b)) (fun c5 => ?_) (fun c5 => ?_)
  ·skip
   have c6 : b = false := by first | (rw [← Bool.not_eq_true']; exact c5) | simpa using c5
   refine rg (zm (zm ?_))
   refine z ?_ (h := fun ν => acts_buildSlice' (h := 36) (xs := isl ([n] : List Int)) ν qE8_un_22 qE8_zi_3 (.cons vt OpVs.nil) (by decide) (by decide) (by kernel_rfl) rfl)
   refine z ?_ (h := fun ν => aI_ (h2 := 37) (L3 := (o ++ [n])) ν qE8_un_22 qE8_zi_3 (by exact rfl) rfl (by exact rfl) (by (simp; omega)))
   refine za (nl (sq (rg (zm (za (nl (wp_ret' ?_)))))))
   exact VRes.tmp _ _ _ (by exact rfl) (brow_ints (h := 37) (L := (o ++ [n])) (by kernel_rfl) (by exact hP.end_f (by omega) (by assumption)) (by rfl))
  ·skip
   have c7 : b = true := by first | (rw [← Bool.not_eq_false']; exact c5) | simpa using c5
   refine sk (sq (rg (zm (za (nl (wp_ret' ?_))))))
   exact VRes.tmp _ _ _ (by exact rfl) (brow_ints (h := 9) (L := o) (by kernel_rfl) (by exact hP.end_t (by omega) (by assumption)) (by rfl))

set_option maxHeartbeats 4000000 in
set_option maxRecDepth 100000 in
theorem spec_l12Links_fn (a : List (List Dom)) (ha : a.length ≤ 300) (hr : ∀ k, k < a.length → (gLd a k).length ≤ 64) : FnO Tryz.prog 33 [.a (.slvv 3 (vwD a))] [] (V.b (.a (.slvv 1 (vwI (lkM a))))) [] [] := by
 refine fn_introO (N := 63) Tryz.func33 rfl (by kernel_rfl) rfl (Nat.le_of_ble_eq_true rfl) rfl rfl (by kernel_rfl) (by kernel_rfl) trivial [11, 14, 22, 23, 26, 39, 44, 53, 56, 57, 60, 61, 63, 64, 65, 66] (retO1 rfl) (fun W own kp im0 => ?_)
 show Wp _ _ _ [kV 0 (V.b (.a (.slvv 3 (vwD a)))), kF 11, kF 14, kF 22, kF 23, kF 26, kF 39, kF 44, kF 53, kF 56, kF 57, kF 60, kF 61, kF 63, kF 64, kF 65, kF 66]
 refine sq (rg (zk (nl (sq (rg ?_)))))
 refine z ?_ (h := fun ν => b0Q (h := 11) (T := 3) ν qE8_un_56 qE8_zi_22)
 refine za (nl (sq (sq (rg (zk (nl (bkk ?_)))))))
 refine wp_loop' (fun (k : Nat) => k ≤ a.length) (fun (k : Nat) => [kV 0 (V.b (.a (.slvv 3 (vwD a)))), kS 3 11 0 ((lkT a k).length), kI 4 ((k : Nat) : Int), kO 11 22 1 true (rwI 3 (lkT a k)), kF 14, kF 22, kF 23, kF 26, kF 39, kF 44, kF 53, kF 56, kF 57, kF 60, kF 61, kF 63, kF 64, kF 65, kF 66]) (fun (k : Nat) => a.length - k) ((0 : Nat)) (by exact (Nat.zero_le _ : 0 ≤ _)) (wkf id (wS <| wE (e := (vsl (by rfl) rfl)) <| wE (e := (vint (by rfl))) <| wQI (e := (by rfl)) <| by (iterate 15 refine wF ?_); exact wN)) ?_
 rintro k inv1
 replace inv1 : k ≤ a.length := inv1
 have invk := inv1
 have htl := lkT_len invk
 refine sq (sq (rg (zm (zm ?_))))
 refine z ?_ (h := fun ν => lnD ν qE8_un_58)
 refine z ?_ (h := fun ν => acts_bin ν vt vt (r_lss rfl))
 refine nl ?_
 refine wi (fun c2 => ?_) (fun c2 => ?_)
 ·skip
  have c2P := of_decide_eq_true c2
  have hrk := hr k (by omega)
  have hfl := flips_len (gLd a k)
  refine sk (sq (bkk (sq (rg (zm (zm ?_))))))
  refine z ?_ (h := fun ν => xvv ν qE8_un_58 qE8_sz_31 vt (hlt := (by simp only [vwI_len, vwD_len]; first | omega | assumption | exact hr _ (by omega) | exact Nat.le_trans (hr _ (by omega)) (by decide))))
  refine z ?_ (h := fun ν => lvD ν qE8_ti_31 (by omega))
  refine z ?_ (h := fun ν => acts_call1 ν (spec_FlipsOf_fn (gLd a k) (by omega)) (ac (ArgV.slv _ _ _ _) an) (ResV.row _ _ _ _ 22))
  refine za (nl (sq (rg ?_)))
  refine z ?_ (h := fun ν => b0I (h := 23) ν qE8_un_22 qE8_zi_3)
  refine za (nl (sq (sq (rg (zk (nl (bkk ?_)))))))
  refine wp_loop' (fun (i : Nat) => i ≤ (flipsOf (gLd a k)).length) (fun (i : Nat) => [kV 0 (V.b (.a (.slvv 3 (vwD a)))), kS 3 11 0 ((lkT a k).length), kI 4 ((k : Nat) : Int), kS 5 22 0 ((flipsOf (gLd a k)).length), kS 6 23 0 ((lkK a (gLd a k) i).length), kI 7 ((i : Nat) : Int), kO 11 22 1 true (rwI 3 (lkT a k)), kO 22 70 2 true (pl (csl (flipsOf (gLd a k)))), kO 23 3 1 true (pl (isl (lkK a (gLd a k) i))), kF 14, kF 26, kF 39, kF 44, kF 53, kF 56, kF 57, kF 60, kF 61, kF 63, kF 64, kF 65, kF 66]) (fun (i : Nat) => (flipsOf (gLd a k)).length - i) ((0 : Nat)) (by exact (Nat.zero_le _ : 0 ≤ _)) (wkf id (wS <| wS <| wS <| wS <| wE (e := (vsl (by rfl) rfl)) <| wE (e := (vint (by rfl))) <| wQI <| wP <| wO (e := renob_eq (fun h => h) (congrArg isl (by rfl))) <| by (iterate 13 refine wF ?_); exact wN)) ?_
  rintro i inv3
  replace inv3 : i ≤ (flipsOf (gLd a k)).length := inv3
  have invi := inv3
  have hkl := lkK_len (a := a) (P := (gLd a k)) ha i invi
  refine sq (sq (rg (zm (zm ?_))))
  refine z ?_ (h := fun ν => lnS ν qE8_un_36)
  refine z ?_ (h := fun ν => acts_bin ν vt vt (r_lss rfl))
  refine nl ?_
  refine wi (fun c4 => ?_) (fun c4 => ?_)
  ·skip
   have c4P := of_decide_eq_true c4
   have hfa := flipAt_len (gLd a k) (gC (flipsOf (gLd a k)) i)
   have hsn := lkK_snoc (a := a) (P := (gLd a k)) (i := i) (by omega)
   refine sk (sq (bkk (sq (wp_dr (zdm (zdm ?_))))))
   refine zd ?_ (h := fun ν => xvv ν qE8_un_58 qE8_sz_31 vt (hlt := (by simp only [vwI_len, vwD_len]; first | omega | assumption | exact hr _ (by omega) | exact Nat.le_trans (hr _ (by omega)) (by decide))))
   refine zd ?_ (h := fun ν => lvD ν qE8_ti_31 (by omega))
   refine zdm (zdm ?_)
   refine zd ?_ (h := fun ν => ix0 ν qE8_un_36 qE8_sz_70 vt (hlt := (by omega)))
   refine zd ?_ (h := fun ν => lC ν qE8_ti_70 (by omega))
   refine zd ?_ (h := fun ν => acts_call2 ν (spec_FlipAt_fn (gLd a k) (gC (flipsOf (gLd a k)) i) (by omega)) (ac (ArgV.slv _ _ _ _) (ac (ArgV.va va) an)) (ResV.row _ _ _ _ 39) rv)
   refine zdm ?_
   refine zd ?_ (h := fun ν => acts_extract ν (by exact rfl))
   refine zd ?_ (h := fun ν => acts_extract ν (by exact rfl))
   refine zd ?_ (h := fun ν => gt ν)
   refine zd ?_ (h := fun ν => gt ν)
   refine dw_nil (sq (rg (zk (nl (bkk ?_)))))
   refine wp_loop' (fun (j : Nat) => j ≤ a.length) (fun (j : Nat) => [kV 0 (V.b (.a (.slvv 3 (vwD a)))), kS 3 11 0 ((lkT a k).length), kI 4 ((k : Nat) : Int), kS 5 22 0 ((flipsOf (gLd a k)).length), kS 6 23 0 ((lkK a (gLd a k) i ++ mtK a (flipAt (gLd a k) (gC (flipsOf (gLd a k)) i)) j).length), kI 7 ((i : Nat) : Int), kS 8 39 0 ((flipAt (gLd a k) (gC (flipsOf (gLd a k)) i)).length), kI 10 ((j : Nat) : Int), kO 11 22 1 true (rwI 3 (lkT a k)), kO 22 70 2 true (pl (csl (flipsOf (gLd a k)))), kO 23 3 1 true (pl (isl (lkK a (gLd a k) i ++ mtK a (flipAt (gLd a k) (gC (flipsOf (gLd a k)) i)) j))), kO 39 62 3 true (pl (dsl (flipAt (gLd a k) (gC (flipsOf (gLd a k)) i)))), kF 14, kF 26, kF 44, kF 53, kF 56, kF 57, kF 60, kF 61, kF 63, kF 64, kF 65, kF 66]) (fun (j : Nat) => a.length - j) ((0 : Nat)) (by exact (Nat.zero_le _ : 0 ≤ _)) (wkf id (wS <| wS <| wS <| wS <| wE (e := (vsl (by (exact congrArg List.length (by first | rfl | omega | (rw [hmt, List.append_assoc]; done) | (rw [hmt]; done) | (simp [mtK]; done)))) rfl)) <| wS <| wS <| wE (e := (vint (by rfl))) <| wQI <| wP <| wO (e := renob_eq (fun h => h) (congrArg isl (by (simp [mtK]; done)))) <| wP <| by (iterate 12 refine wF ?_); exact wN)) ?_
   rintro j inv5
   replace inv5 : j ≤ a.length := inv5
   have invj := inv5
   have hml := mtK_len a (flipAt (gLd a k) (gC (flipsOf (gLd a k)) i)) j
   refine sq (sq (rg (zm (zm ?_))))
   refine z ?_ (h := fun ν => lnD ν qE8_un_58)
   refine z ?_ (h := fun ν => acts_bin ν vt vt (r_lss rfl))
   refine nl ?_
   refine wi (fun c6 => ?_) (fun c6 => ?_)
   ·skip
    have c6P := of_decide_eq_true c6
    refine sk (sq (bkk (sq (rg (zm (zm ?_))))))
    refine z ?_ (h := fun ν => xvv ν qE8_un_58 qE8_sz_31 vt (hlt := (by simp only [vwI_len, vwD_len]; first | omega | assumption | exact hr _ (by omega) | exact Nat.le_trans (hr _ (by omega)) (by decide))))
    refine z ?_ (h := fun ν => lvD ν qE8_ti_31 (by omega))
    refine zm ?_
    refine z ?_ (h := fun ν => acts_call1 ν (spec_SameDominoes_fn (gLd a j) (flipAt (gLd a k) (gC (flipsOf (gLd a k)) i)) (by exact Nat.le_trans (hr _ (by omega)) (by decide)) (by omega)) (ac (ArgV.slv _ _ _ _) (ac (argv_own (by exact dsl_len _)) an)) rv)
    refine nl ?_
    refine wi (b := (decide ((gLd a j) = (flipAt (gLd a k) (gC (flipsOf (gLd a k)) i))))) (fun c7 => ?_) (fun c7 => ?_)
    ·skip
     have hmt := mtK_yes (a := a) (of_decide_eq_true c7)
     refine rg (zm (zm ?_))
     refine z ?_ (h := fun ν => acts_buildSlice' (h := 56) (xs := isl ([((j : Nat) : Int)] : List Int)) ν qE8_un_22 qE8_zi_3 (.cons vt OpVs.nil) (by decide) (by decide) (by kernel_rfl) rfl)
     refine z ?_ (h := fun ν => aI_ (h2 := 57) (L3 := ((lkK a (gLd a k) i ++ mtK a (flipAt (gLd a k) (gC (flipsOf (gLd a k)) i)) j) ++ [((j : Nat) : Int)])) ν qE8_un_22 qE8_zi_3 (by exact rfl) rfl (by exact rfl) (by (simp; omega)))
     refine za (nl (rg (zm ?_)))
     refine z ?_ (h := fun ν => acts_bin ν vt vc (rA (by omega) (by omega)))
     refine za (nl ?_)
     exact loop_back ((j + 1)) (by show _ ≤ _; omega) (by show a.length - (j + 1) < a.length - j; omega) (wkf (subst1 [(23, 57)]) (wS <| wS <| wS <| wS <| wE (e := (vsl (by (exact congrArg List.length (by first | rfl | omega | (rw [hmt, List.append_assoc]; done) | (rw [hmt]; done) | (simp [mtK]; done)))) rfl)) <| wS <| wS <| wE (e := (vint (by rfl))) <| wQI <| wP <| wO (e := renob_eq (fun h => h) (congrArg isl (by (rw [hmt, List.append_assoc]; done)))) <| wP <| by (iterate 12 refine wF ?_); exact wN))
    ·skip
     have hmt := mtK_no (a := a) (of_decide_eq_false c7)
     refine sk (rg (zm ?_))
     refine z ?_ (h := fun ν => acts_bin ν vt vc (rA (by omega) (by omega)))
     refine za (nl ?_)
     exact loop_back ((j + 1)) (by show _ ≤ _; omega) (by show a.length - (j + 1) < a.length - j; omega) (wkf id (wS <| wS <| wS <| wS <| wE (e := (vsl (by (exact congrArg List.length (by first | rfl | omega | (rw [hmt, List.append_assoc]; done) | (rw [hmt]; done) | (simp [mtK]; done)))) rfl)) <| wS <| wS <| wE (e := (vint (by rfl))) <| wQI <| wP <| wO (e := renob_eq (fun h => h) (congrArg isl (by (rw [hmt]; done)))) <| wP <| by (iterate 12 refine wF ?_); exact wN))
   ·skip
    have c6P := of_decide_eq_false c6
    refine wp_exit' (rg (zm ?_))
    refine z ?_ (h := fun ν => acts_bin ν vt vc (rA (by omega) (by omega)))
    refine za (nl ?_)
    exact loop_back ((i + 1)) (by show _ ≤ _; omega) (by show (flipsOf (gLd a k)).length - (i + 1) < (flipsOf (gLd a k)).length - i; omega) (wkf id (wS <| wS <| wS <| wS <| wE (e := (vsl (by (exact congrArg List.length (by first | rfl | omega | (have e : j = a.length := by omega); subst e; exact hsn.symm | (have e : j = a.length := by omega); subst e; exact hsn))) rfl)) <| wE (e := (vint (by rfl))) <| wQI <| wP <| wO (e := renob_eq (fun h => h) (congrArg isl (by (have e : j = a.length := by omega); subst e; exact hsn))) <| by (iterate 13 refine wF ?_); exact wN))
  ·skip
   have c4P := of_decide_eq_false c4
   have hle := lkK_end (a := a) (P := (gLd a k)) (i := i) (by omega)
   refine wp_exit' (rg (zm (zm ?_)))
   refine z ?_ (h := fun ν => bs1 (h := 60) ν qE8_un_56 qE8_zi_22 (by exact ⟨_, _, _, .inl rfl⟩))
   refine z ?_ (h := fun ν => aQ (h2 := 61) (nm := ((lkT a k) ++ [(lkK a (gLd a k) i)]).length) ν qE8_un_56 qE8_zi_22 (by exact ⟨_, _, _, .inl rfl⟩) (by simp [rwI_len, rwD_len]) (by omega) (by simp))
   refine za (nl ?_)
   refine wp_weak (pkI (h := 61) (h1 := 23) (T := 3) (T0 := 22) (s0 := 1) (ex0 := true) (n := ((lkK a (gLd a k) i).length)) (L := (lkT a k)) (r := (lkK a (gLd a k) i))) ?_
   refine rg (zm ?_)
   refine z ?_ (h := fun ν => acts_bin ν vt vc (rA (by omega) (by omega)))
   refine za (nl ?_)
   exact loop_back ((k + 1)) (by show _ ≤ _; omega) (by show a.length - (k + 1) < a.length - k; omega) (wkf (subst1 [(11, 61)]) (wS <| wE (e := (vsl (by (exact congrArg List.length (by first | rfl | omega | (rw [hle]; exact lkT_snoc (by omega)) | (rw [hle]; exact Eq.symm (lkT_snoc (by omega)))))) rfl)) <| wE (e := (vint (by rfl))) <| wQI (e := (by (rw [hle]; exact Eq.symm (lkT_snoc (by omega))))) <| by (iterate 15 refine wF ?_); exact wN))
 ·skip
  have c2P := of_decide_eq_false c2
  refine wp_exit' (sq (rg (zm (za (nl ?_)))))
  refine wp_weak (fzI (k := 2) (h := 11) (T0 := 22) (T := 3) (ex0 := true) (n := ((lkT a k).length)) (L := (lkT a k)) (hn := by rfl)) ?_
  refine wp_ret' ?_
  exact ⟨_, weak_id, trivial, vo_eq 2 (.a (.slvv 1 (vwI (lkT a k)))) (.a (.slvv 1 (vwI (lkM a)))) (by kernel_rfl) (congrArg (fun z => B.a (.slvv 1 (vwI z))) (by exact lkT_end (by omega)))⟩

end Cl
end Go.Proofs.YtgmkkfdnmdohlaaGreatDoor
