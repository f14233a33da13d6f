/- Walks over clean states, printed by wg.py. No statement is proved here. -/
import Derived.Test.YtonlghbbdcddoaaC31
import Derived.Test.YtonlghbbdcddoaaSortS
import Derived.Test.YtonlghbbdcddoaaS0
import Derived.Test.YtonlghbbdcddoaaClB
namespace Go.Proofs.Ytonlghbbdcddoaa
namespace Cl
open Go.ChangeShapes Go.WideShapes Go.ChangeAt Go.RowKit
set_option maxRecDepth 20000
theorem SS_ext : ∀ (a b : List Dom), SS a → SS b → (∀ d, d ∈ a ↔ d ∈ b) → a = b := by
  intro a
  induction a with
  | nil =>
    intro b _ _ h
    cases b with
    | nil => rfl
    | cons x b => exact absurd ((h x).2 (by simp)) (by simp)
  | cons x a ih =>
    intro b ha hb h
    cases b with
    | nil => exact absurd ((h x).1 (by simp)) (by simp)
    | cons y b =>
      unfold SS at ha hb
      rw [List.pairwise_cons] at ha hb
      have hxy : x = y := by
        rcases List.mem_cons.1 ((h x).1 (by simp)) with h1 | h1
        · exact h1
        · rcases List.mem_cons.1 ((h y).2 (by simp)) with h2 | h2
          · exact h2.symm
          · have h3 := hb.1 x h1
            have h4 := ha.1 y h2
            omega
      subst hxy
      congr 1
      refine ih b ha.2 hb.2 fun d => ⟨fun hd => ?_, fun hd => ?_⟩
      · rcases List.mem_cons.1 ((h d).1 (by simp [hd])) with rfl | h1
        · have := ha.1 d hd; omega
        · exact h1
      · rcases List.mem_cons.1 ((h d).2 (by simp [hd])) with rfl | h1
        · have := hb.1 d hd; omega
        · exact h1
theorem wrapE (z : Int) : IntKind.i64.wrap z = (z + 9223372036854775808) % 18446744073709551616 - 9223372036854775808 := by
  simp only [IntKind.wrap, IntKind.signed, IntKind.bits]; simp; first | rfl | omega
def sW (u v : Int) : Int := IntKind.i64.wrap (u - v)
def szW (a : Int) : Int := max a (IntKind.i64.wrap (-a))
def e3 (u v : Int) : Bool := decide (sW u v = 3) || decide (sW v u = 3)
theorem e3_size (u v : Int) : decide (szW (sW u v) = 3) = e3 u v := by
  unfold e3 szW sW
  rw [Bool.eq_iff_iff]
  simp only [decide_eq_true_eq, Bool.or_eq_true, wrapE]
  omega
def spC (h : List Int) (d : Dom) : Bool := e3 (gI h ((cb d).y * 9 + (cb d).x).toNat) (gI h (if d.d = true then ((cb d).y * 9 + (cb d).x + 1).toNat else (((cb d).y + 1) * 9 + (cb d).x).toNat))
theorem spC_h (h : List Int) (c : Cel) : spC h ⟨c.x, c.y, false⟩ = e3 (gI h (c.y * 9 + c.x + 1).toNat) (gI h ((c.y + 1) * 9 + c.x + 1).toNat) := by
  unfold spC cb
  simp only [Bool.false_eq_true, if_false]
  rw [show c.y * 9 + (c.x + 1) = c.y * 9 + c.x + 1 by omega, show (c.y + 1) * 9 + (c.x + 1) = (c.y + 1) * 9 + c.x + 1 by omega]
theorem spC_v (h : List Int) (c : Cel) : spC h ⟨c.x, c.y, true⟩ = e3 (gI h ((c.y + 1) * 9 + c.x).toNat) (gI h ((c.y + 1) * 9 + c.x + 1).toNat) := by
  unfold spC cb
  simp only [if_true]
/-- the dominoes that the heights tell -/
def tfB (s : Nat) (h : List Int) (c : Cel) (b : Bool) : Bool := hasS s (cb ⟨c.x, c.y, b⟩) && spC h ⟨c.x, c.y, b⟩
def tfC (s : Nat) (h : List Int) (c : Cel) : List Dom := (if tfB s h c false = true then [⟨c.x, c.y, false⟩] else []) ++ (if tfB s h c true = true then [⟨c.x, c.y, true⟩] else [])
def tfL (s : Nat) (h : List Int) (k : Nat) : List Dom := ((setCells s).take k).flatMap (tfC s h)
def tfDs (s : Nat) (h : List Int) : List Dom := tfL s h (setCells s).length
theorem tfL_snoc {s : Nat} {h : List Int} {k : Nat} (hk : k < (setCells s).length) : tfL s h (k + 1) = tfL s h k ++ tfC s h (gC (setCells s) k) := by
  unfold tfL; rw [List.take_succ_eq_append_getElem hk, List.flatMap_append, gC_eq hk]; simp
theorem tfC_len (s : Nat) (h : List Int) (c : Cel) : (tfC s h c).length ≤ 2 := by
  unfold tfC; split <;> split <;> simp
theorem tfL_len {s : Nat} {h : List Int} {k : Nat} (hk : k ≤ (setCells s).length) : (tfL s h k).length ≤ 2 * k := by
  induction k with
  | zero => simp [tfL]
  | succ k ih =>
    rw [tfL_snoc (by omega), List.length_append]
    have := ih (by omega)
    have := tfC_len s h (gC (setCells s) k)
    omega
theorem mem_tfC {s : Nat} {h : List Int} {c : Cel} {d : Dom} : d ∈ tfC s h c ↔ ca d = c ∧ hasS s (cb d) = true ∧ spC h d = true := by
  obtain ⟨x, y, b⟩ := d
  obtain ⟨cx, cy⟩ := c
  unfold tfC tfB
  rw [List.mem_append]
  cases b
  · constructor
    · rintro (hm | hm)
      · split at hm
        · rename_i hc
          simp only [List.mem_singleton, Dom.mk.injEq, and_true] at hm
          obtain ⟨rfl, rfl⟩ := hm
          rw [Bool.and_eq_true] at hc
          exact ⟨rfl, hc⟩
        · cases hm
      · split at hm
        · simp at hm
        · cases hm
    · rintro ⟨h1, h2, h3⟩
      unfold ca at h1
      simp only [Cel.mk.injEq] at h1
      obtain ⟨rfl, rfl⟩ := h1
      left; rw [if_pos (by rw [h2, h3]; rfl)]; simp
  · constructor
    · rintro (hm | hm)
      · split at hm
        · simp at hm
        · cases hm
      · split at hm
        · rename_i hc
          simp only [List.mem_singleton, Dom.mk.injEq, and_true] at hm
          obtain ⟨rfl, rfl⟩ := hm
          rw [Bool.and_eq_true] at hc
          exact ⟨rfl, hc⟩
        · cases hm
    · rintro ⟨h1, h2, h3⟩
      unfold ca at h1
      simp only [Cel.mk.injEq] at h1
      obtain ⟨rfl, rfl⟩ := h1
      right; rw [if_pos (by rw [h2, h3]; rfl)]; simp
theorem mem_tfDs {s : Nat} {h : List Int} {d : Dom} : d ∈ tfDs s h ↔ hasS s (ca d) = true ∧ hasS s (cb d) = true ∧ spC h d = true := by
  unfold tfDs tfL
  rw [List.take_length, List.mem_flatMap]
  constructor
  · rintro ⟨c, hc, hd⟩
    rw [mem_tfC] at hd
    exact ⟨by rw [hd.1]; exact set_mem.1 hc, hd.2⟩
  · rintro ⟨h1, h2⟩
    exact ⟨ca d, set_mem.2 h1, mem_tfC.2 ⟨rfl, h2⟩⟩
theorem ord_idx {d : Dom} (h : okc d.x d.y = true) : d.ord = 2 * (idx (ca d) : Int) + (if d.d = true then 1 else 0) := by
  have hq := okc_true.1 h
  unfold Dom.ord idx ca
  cases d.d <;> simp <;> omega
theorem tfL_SS {s : Nat} {h : List Int} : ∀ k, k ≤ (setCells s).length → SS (tfL s h k) ∧ ∀ d, d ∈ tfL s h k → ∃ j, j < k ∧ ca d = gC (setCells s) j := by
  intro k
  induction k with
  | zero => intro _; exact ⟨by unfold SS tfL; simp, fun d hd => by simp [tfL] at hd⟩
  | succ k ih =>
    intro hk
    obtain ⟨h1, h2⟩ := ih (by omega)
    rw [tfL_snoc (by omega)]
    refine ⟨?_, fun d hd => ?_⟩
    · unfold SS at h1 ⊢
      rw [List.pairwise_append]
      refine ⟨h1, ?_, fun a ha b hb => ?_⟩
      · unfold tfC
        split <;> split <;> simp
        unfold Dom.ord; simp; omega
      · obtain ⟨j, hj, ej⟩ := h2 a ha
        have eb := (mem_tfC.1 hb).1
        have hja := hasS_ok (set_mem.1 (gC_mem (l := setCells s) (k := j) (by omega)))
        have hkb := hasS_ok (set_mem.1 (gC_mem (l := setCells s) (k := k) (by omega)))
        rw [← ej] at hja
        rw [← eb] at hkb
        rw [ord_idx hja, ord_idx hkb, ej, eb]
        have := setCells_lt (s := s) hj (by omega)
        split <;> split <;> omega
    · rcases List.mem_append.1 hd with hd | hd
      · obtain ⟨j, hj, e⟩ := h2 d hd; exact ⟨j, by omega, e⟩
      · exact ⟨k, by omega, (mem_tfC.1 hd).1⟩
/-- the reference looks at all pairs of cells -/
noncomputable def tfOk (l h : List Int) : Bool := (regOk l && decide (h.length = 81)) && (okH l (tfDs (regSet l) h) && decide (hts l (tfDs (regSet l) h) = h))
noncomputable def tilF (l h : List Int) : List Dom := if tfOk l h = true then tfDs (regSet l) h else []
theorem tilF_no {l h : List Int} (hc : tfOk l h = false) : tilF l h = [] := by unfold tilF; rw [hc]; rfl
theorem tilF_yes {l h : List Int} (hc : tfOk l h = true) : tilF l h = tfDs (regSet l) h := by unfold tilF; rw [if_pos hc]
theorem tfOk_1 {l h : List Int} (hc : regOk l = false ∨ ¬ h.length = 81) : tfOk l h = false := by
  unfold tfOk; rcases hc with hc | hc
  · rw [hc]; rfl
  · rw [decide_eq_false hc, Bool.and_false, Bool.false_and]
theorem tfOk_2 {l h : List Int} (hc : hts l (tfDs (regSet l) h) ≠ h) : tfOk l h = false := by
  unfold tfOk; rw [decide_eq_false hc, Bool.and_false, Bool.and_false]
theorem tfOk_3 {l h : List Int} (hc : okH l (tfDs (regSet l) h) = false) : tfOk l h = false := by
  unfold tfOk; rw [hc, Bool.false_and, Bool.and_false]
theorem tfOk_t {l h : List Int} (h1 : regOk l = true) (h2 : h.length = 81) (h3 : hts l (tfDs (regSet l) h) = h) : tfOk l h = true := by
  have : okH l (tfDs (regSet l) h) = true := (len_okH (by rw [h3, h2]; omega)).1
  unfold tfOk; rw [h1, decide_eq_true h2, decide_eq_true h3, this]; rfl
theorem tilF_len (l h : List Int) : (tilF l h).length ≤ 128 := by
  unfold tilF; split
  · have := tfL_len (s := regSet l) (h := h) (Nat.le_refl _)
    have h2 := setCells_len (regSet l)
    unfold tfDs; omega
  · simp


theorem gI_ext {a b : List Int} (h : a.length = b.length) (h2 : ∀ i, i < a.length → gI a i = gI b i) : a = b := by
  apply List.ext_getElem h
  intro i h1 h3
  have := h2 i h1
  rw [gI_eq h1, gI_eq h3] at this; exact this
theorem sq_t {a b : List Int} {k : Nat} (h : a.length = b.length) (hk : ¬ k < a.length) (h2 : ∀ i, i < k → gI a i = gI b i) : decide (a = b) = true := by
  rw [gI_ext h (fun i hi => h2 i (by omega))]; simp
theorem sq_f {a b : List Int} {k : Nat} (h : gI a k ≠ gI b k) : decide (a = b) = false := by
  rw [decide_eq_false]; intro e; exact h (by rw [e])
theorem sq_l {a b : List Int} (h : a.length ≠ b.length) : decide (a = b) = false := by
  rw [decide_eq_false]; intro e; exact h (by rw [e])
theorem sq_s {a b : List Int} {k : Nat} (h : ∀ i, i < k → gI a i = gI b i) (h2 : gI a k = gI b k) : ∀ i, i < k + 1 → gI a i = gI b i := by
  intro i hi
  rcases Nat.lt_or_ge i k with h3 | h3
  · exact h i h3
  · rw [show i = k by omega]; exact h2

theorem setc_ok {s k : Nat} (h : k < (setCells s).length) : okc (gC (setCells s) k).x (gC (setCells s) k).y = true := hasS_ok (set_mem.1 (gC_mem h))
theorem tf_h {s : Nat} {h : List Int} {c : Cel} {b : Bool} (e : (hasS s ⟨c.x + 1, c.y⟩ && decide (szW (sW (gI h (c.y * 9 + c.x + 1).toNat) (gI h ((c.y + 1) * 9 + c.x + 1).toNat)) = 3)) = b) : tfB s h c false = b := by
  rw [← e]; unfold tfB; rw [spC_h, e3_size]; rfl
theorem tf_v {s : Nat} {h : List Int} {c : Cel} {b : Bool} (e : (hasS s ⟨c.x, c.y + 1⟩ && decide (szW (sW (gI h ((c.y + 1) * 9 + c.x).toNat) (gI h ((c.y + 1) * 9 + c.x + 1).toNat)) = 3)) = b) : tfB s h c true = b := by
  rw [← e]; unfold tfB; rw [spC_v, e3_size]; rfl
theorem tfs {s : Nat} {h : List Int} {k : Nat} {b1 b2 : Bool} {L : List Dom} (hk : k < (setCells s).length) (h1 : tfB s h (gC (setCells s) k) false = b1) (h2 : tfB s h (gC (setCells s) k) true = b2)
    (e : L = (tfL s h k ++ (if b1 = true then [⟨(gC (setCells s) k).x, (gC (setCells s) k).y, false⟩] else [])) ++ (if b2 = true then [⟨(gC (setCells s) k).x, (gC (setCells s) k).y, true⟩] else [])) : tfL s h (k + 1) = L := by
  rw [tfL_snoc hk, e]; unfold tfC; rw [h1, h2, List.append_assoc]
theorem tfOk_o {l h : List Int} (e : (!regOk l || decide ((h.length : Int) ≠ 81)) = true) : tfOk l h = false := by
  rw [Bool.or_eq_true, decide_eq_true_eq] at e
  refine tfOk_1 ?_
  rcases e with e | e
  · left; simpa using e
  · right; omega
theorem tff_yes {l h : List Int} {k : Nat} (hr : regOk l = true) (h2 : h.length = 81) (hk : ¬ k < (setCells (regSet l)).length) (hk2 : k ≤ (setCells (regSet l)).length) (hc : (simB l && isTil l (tfL (regSet l) h k)) = true) (e : decide (htsF l (tfL (regSet l) h k) = h) = true) : tilF l h = tfL (regSet l) h k ∧ tfOk l h = true := by
  have ek : k = (setCells (regSet l)).length := by omega
  subst ek
  have q : hts l (tfDs (regSet l) h) = h := by rw [show hts l (tfDs (regSet l) h) = htsF l (tfDs (regSet l) h) from hts_yes hc]; exact of_decide_eq_true e
  have q2 := tfOk_t hr h2 q
  exact ⟨tilF_yes q2, q2⟩
theorem tff_no {l h : List Int} {k : Nat} (hk : ¬ k < (setCells (regSet l)).length) (hk2 : k ≤ (setCells (regSet l)).length) (hc : (simB l && isTil l (tfL (regSet l) h k)) = false ∨ ((simB l && isTil l (tfL (regSet l) h k)) = true ∧ decide (htsF l (tfL (regSet l) h k) = h) = false)) : tfOk l h = false := by
  have ek : k = (setCells (regSet l)).length := by omega
  subst ek
  rcases hc with hc | ⟨hc, e⟩
  · exact tfOk_3 hc
  · exact tfOk_2 (by rw [show hts l (tfDs (regSet l) h) = htsF l (tfDs (regSet l) h) from hts_yes hc]; exact of_decide_eq_false e)
theorem qC32_bs_46 : ∀ (a b : Int), Try.prog.built 46 [(0, .int .i64 a), (1, .int .i64 b)] = some ([.int .i64 a, .int .i64 b] : List Value).toArray := fun _ _ => rfl
theorem qC32_bs_57 : ∀ (a b : Int) (c : Bool), Try.prog.built 57 [(0, .int .i64 a), (1, .int .i64 b), (2, .bool c)] = some ([.int .i64 a, .int .i64 b, .bool c] : List Value).toArray := fun _ _ _ => rfl
theorem qC32_fo_46_0 : fieldOff Try.prog 46 0 = some 0 := by kernel_rfl
theorem qC32_fo_46_1 : fieldOff Try.prog 46 1 = some 1 := by kernel_rfl
theorem qC32_sz_3 : (Try.prog.info? 3).map (·.size) = some 1 := by kernel_rfl
theorem qC32_sz_46 : (Try.prog.info? 46).map (·.size) = some 2 := by kernel_rfl
theorem qC32_ti_29 : TI Try.prog 29 true 1 := ⟨⟨_, Try.underlying29, rfl⟩, by kernel_rfl⟩
theorem qC32_ti_3 : TI Try.prog 3 false 1 := ⟨⟨_, Try.underlying3, rfl⟩, by kernel_rfl⟩
theorem qC32_ti_46 : TI Try.prog 46 true 2 := ⟨⟨_, Try.underlying46, rfl⟩, by kernel_rfl⟩
theorem qC32_un_22 : Try.prog.underlying 22 = some (.slice 3) := Try.underlying22
theorem qC32_un_26 : Try.prog.underlying 26 = some (.slice 57) := Try.underlying26
theorem qC32_un_42 : Try.prog.underlying 42 = some (.slice 46) := Try.underlying42
theorem qC32_zi_46 : ZI Try.prog 46 (.agg #[.int .i64 0, .int .i64 0]) 2 16 := by unfold ZI; kernel_rfl
theorem qC32_zi_57 : ZI Try.prog 57 (.agg #[.int .i64 0, .int .i64 0, .bool false]) 3 24 := by unfold ZI; kernel_rfl
set_option maxHeartbeats 4000000 in
set_option maxRecDepth 100000 in
theorem impl_sameInts_fn (a b : List Int) (ha : a.length ≤ 4194304) (hb : b.length ≤ 4194304) : Fn Try.prog 49 [.a (.slv a.length 1 (isl a)), .a (.slv b.length 1 (isl b))] [.val (.bool (decide (a = b)))] := by
 refine fn_intro (N := 26) Try.func49 rfl (by kernel_rfl) rfl (Nat.le_of_ble_eq_true rfl) [7, 9, 12] (ret1 rfl) (fun W => ?_)
 show Wp _ _ _ [kV 0 (V.b (.a (.slv a.length 1 (isl a)))), kV 1 (V.b (.a (.slv b.length 1 (isl b)))), kF 7, kF 9, kF 12]
 refine sq (rg (zk (nl (sq (sq (rg (zm ?_)))))))
 refine z ?_ (h := fun ν => lnV ν qC32_un_22)
 refine zm ?_
 refine z ?_ (h := fun ν => lnV ν qC32_un_22)
 refine z ?_ (h := fun ν => acts_bin ν vt vt (r_neq rfl))
 refine nl ?_
 refine wi (fun c1 => ?_) (fun c1 => ?_)
 ·skip
  have c1P := of_decide_eq_true c1
  refine sq (rg (zk (nl (wp_ret' ?_))))
  exact VRes.tmp _ _ _ (by exact rfl) (bval (congrArg Value.bool (by exact (sq_l (by omega)).symm)))
 ·skip
  have c1P := of_decide_eq_false c1
  refine sk (sq (sq (rg (zm ?_))))
  refine z ?_ (h := fun ν => lnV ν qC32_un_22)
  refine z ?_ (h := fun ν => mc ν)
  refine nl (bkk ?_)
  refine wp_loop' (fun (k : Nat) => k ≤ a.length ∧ ∀ i, i < k → gI a i = gI b i) (fun (k : Nat) => [kV 0 (V.b (.a (.slv a.length 1 (isl a)))), kV 1 (V.b (.a (.slv b.length 1 (isl b)))), kI 12 ((a.length : Nat) : Int), kI 13 ((k : Nat) : Int), kF 7, kF 9, kF 12]) (fun (k : Nat) => a.length - k) ((0 : Nat)) (by exact ⟨Nat.zero_le _, fun i hi => absurd hi (Nat.not_lt_zero i)⟩) (wkf id (wS <| wS <| wS <| wE (e := (vint (by rfl))) <| wF <| wF <| wF <| wN)) ?_
  rintro k inv2
  replace inv2 : k ≤ a.length ∧ ∀ i, i < k → gI a i = gI b i := inv2
  obtain ⟨inv2_0, inv2_1⟩ := inv2
  refine sq (rg ?_)
  refine z ?_ (h := fun ν => acts_bin ν vt vt (r_lss rfl))
  refine nl (sq ?_)
  refine wi (fun c3 => ?_) (fun c3 => ?_)
  ·skip
   have c3P := of_decide_eq_true c3
   refine sk (sq (bkk (sq (rg (zm (za (nl (sq (wp_dr (zdm (zdm ?_)))))))))))
   refine zd ?_ (h := fun ν => ixv ν qC32_un_22 qC32_sz_3 vt)
   refine zd ?_ (h := fun ν => uI ν qC32_ti_3)
   refine zdm (zdm ?_)
   refine zd ?_ (h := fun ν => ixv ν qC32_un_22 qC32_sz_3 vt)
   refine zd ?_ (h := fun ν => uI ν qC32_ti_3)
   refine zd ?_ (h := fun ν => acts_bin ν vt vt (r_neq rfl))
   refine dw_nil ?_
   refine wi (fun c4 => ?_) (fun c4 => ?_)
   ·skip
    have c4P := of_decide_eq_true c4
    refine sq (rg (zk (nl (wp_ret' ?_))))
    exact VRes.tmp _ _ _ (by exact rfl) (bval (congrArg Value.bool (by exact (sq_f (k := k) (by assumption)).symm)))
   ·skip
    have c4P := of_decide_eq_false c4
    refine sk (rg ?_)
    refine z ?_ (h := fun ν => acts_bin ν vt vc rA)
    refine zm (nl ?_)
    exact loop_back ((k + 1)) (by exact ⟨by omega, sq_s (by assumption) (by omega)⟩) (by show a.length - (k + 1) < a.length - k; omega) (wkf id (wS <| wS <| wS <| wE (e := (vint (by rfl))) <| wF <| wF <| wF <| wN))
  ·skip
   have c3P := of_decide_eq_false c3
   refine wp_exit' (sq (rg (zk (nl (wp_ret' ?_)))))
   exact VRes.tmp _ _ _ (by exact rfl) (bval (congrArg Value.bool (by exact (sq_t (k := k) (by omega) (by omega) (by assumption)).symm)))

set_option maxHeartbeats 4000000 in
set_option maxRecDepth 100000 in
theorem sizeW_fn (a : Int) : Fn Try.prog 48 [.a (.val (.int .i64 a))] [.val (.int .i64 (szW a))] := by
 refine fn_intro (N := 7) Try.func48 rfl (by kernel_rfl) rfl (Nat.le_of_ble_eq_true rfl) [6] (ret1 rfl) (fun W => ?_)
 show Wp _ _ _ [kI 0 a, kF 6]
 refine sq (rg (zk (nl (sq (rg (zm (zm ?_)))))))
 refine z ?_ (h := fun ν => acts_un ν vt (r_neg (c := (IntKind.i64.wrap (-a))) rfl))
 refine z ?_ (h := fun ν => acts_max (c := (max a (IntKind.i64.wrap (-a)))) ν vt vt (by omega))
 refine za (nl (wp_ret' ?_))
 exact VRes.tmp _ _ _ (by exact rfl) (bval (congrArg (Value.int .i64) (by rfl)))

set_option maxHeartbeats 4000000 in
set_option maxRecDepth 100000 in
theorem impl_TilingFrom_fn (l h : List Int) (hl : l.length ≤ 4194304) (hh : h.length ≤ 4194304) : Fn Try.prog 20 [.agg [(.slv l.length 1 (isl l) : A)], .a (.slv h.length 1 (isl h))] [.row 57 3 (tilF l h).length (dsl (tilF l h)), .val (.bool (tfOk l h))] := by
 have h64 := setCells_len (regSet l)
 refine fn_intro (N := 126) Try.func20 rfl (by kernel_rfl) rfl (Nat.le_of_ble_eq_true rfl) [2, 9, 12, 16, 20, 21, 23, 24, 36, 60, 69, 70, 78, 102, 111, 112, 116, 122] (ret2 rfl rfl (by intro u hu; injection hu with hu; subst hu; rfl)) (fun W => ?_)
 show Wp _ _ _ [kV 0 (V.b (.agg [(.slv l.length 1 (isl l) : A)])), kV 1 (V.b (.a (.slv h.length 1 (isl h)))), kF 2, kF 9, kF 12, kF 16, kF 20, kF 21, kF 23, kF 24, kF 36, kF 60, kF 69, kF 70, kF 78, kF 102, kF 111, kF 112, kF 116, kF 122]
 refine sq (rg ?_)
 refine z ?_ (h := fun ν => acts_box (h := 2) ν xt (by exact ob1 rfl))
 refine zk (zk (nl (sq (sq ?_))))
 refine wp_join [kB 18 ((!(regOk l)) || (decide (((h.length : Nat) : Int) ≠ 81))), kV 1 (V.b (.a (.slv h.length 1 (isl h)))), kP 2 2 0, kO 2 29 1 true [(.slv l.length 1 (isl l) : A)], kF 9, kF 12, kF 16, kF 20, kF 21, kF 23, kF 24, kF 36, kF 60, kF 69, kF 70, kF 78, kF 102, kF 111, kF 112, kF 116, kF 122] ?_ ?_
 ·skip
  rcases Bool.eq_false_or_eq_true ((regOk l)) with c1 | c1
  ·skip
   have hro : regOk l = true := c1
   refine rg ?_
   refine z ?_ (h := fun ν => acts_load_owns (xs := [(.slv l.length 1 (isl l) : A)]) ν qC32_ti_29 rfl (by decide) rfl)
   refine z ?_ (h := fun ν => acts_call1 ν (impl_RegionOk_fn l (by omega)) (ac (ArgV.regv _ _ 1 _) an) (resval (congrArg Value.bool c1)))
   refine z ?_ (h := fun ν => acts_un ν vt (r_not (c := false) rfl))
   refine zm ?_
   refine zg ?_ (h := fun ν => step_on rfl rfl (mt ν))
   refine zg ?_ (h := fun ν => step_on rfl rfl (lnV ν qC32_un_22))
   refine zg ?_ (h := fun ν => step_on rfl rfl (acts_bin ν vt vc (r_neq rfl)))
   refine z ?_ (h := fun ν => acts_pick_f ν vt xt)
   refine nl ?_
   exact ⟨rfl, weak_reads ⟨(by simp only [c1]; first | done | kernel_rfl), (by repeat (first | exact trivial | refine ⟨by kernel_rfl, ?_⟩))⟩⟩
  ·skip
   refine rg ?_
   refine z ?_ (h := fun ν => acts_load_owns (xs := [(.slv l.length 1 (isl l) : A)]) ν qC32_ti_29 rfl (by decide) rfl)
   refine z ?_ (h := fun ν => acts_call1 ν (impl_RegionOk_fn l (by omega)) (ac (ArgV.regv _ _ 1 _) an) (resval (congrArg Value.bool c1)))
   refine z ?_ (h := fun ν => acts_un ν vt (r_not (c := true) rfl))
   refine zm (zo (zo (zo ?_)))
   refine z ?_ (h := fun ν => acts_pick_t ν vt xc)
   refine nl ?_
   exact ⟨rfl, weak_reads ⟨(by simp only [c1]; first | done | kernel_rfl), (by repeat (first | exact trivial | refine ⟨by kernel_rfl, ?_⟩))⟩⟩
 refine wi (b := ((!(regOk l)) || (decide (((h.length : Nat) : Int) ≠ 81)))) (fun c2 => ?_) (fun c2 => ?_)
 ·skip
  have c3 := or_tt c2
  refine sq (rg (zk (zk (nl (wp_ret' ?_)))))
  exact ⟨VRes.tmp _ _ _ (by exact rfl) (bnil_doms (L := (tilF l h)) (by exact tilF_no (tfOk_o (by assumption)))), VRes.tmp _ _ _ (by exact rfl) (bval (congrArg Value.bool (by exact (tfOk_o (by assumption)).symm)))⟩
 ·skip
  obtain ⟨c4, c5⟩ := or_ff c2
  have c6 : (regOk l) = true := by first | (rw [← Bool.not_eq_false']; exact c4) | simpa using c4
  have hro : regOk l = true := c6
  have c5P := of_decide_eq_false c5
  refine sk (sq (rg ?_))
  refine z ?_ (h := fun ν => acts_load_owns (xs := [(.slv l.length 1 (isl l) : A)]) ν qC32_ti_29 rfl (by decide) rfl)
  refine z ?_ (h := fun ν => acts_call1 ν (impl_Region__set_fn l (by omega)) (ac (ArgV.regv _ _ 1 _) an) rv)
  refine z ?_ (h := fun ν => b0D (h := 21) ν qC32_un_26 qC32_zi_57)
  refine za (za (nl (sq (sq (rg (zm ?_))))))
  refine z ?_ (h := fun ν => acts_call1 ν (impl_set__cells_fn (regSet l) (by exact regSet_lt (by assumption))) (ac (ArgV.v vt) an) (ResV.row _ _ _ _ 23))
  refine z ?_ (h := fun ν => lnS ν qC32_un_42)
  refine z ?_ (h := fun ν => mc ν)
  refine nl (bkk ?_)
  refine wp_loop' (fun (k : Nat) => k ≤ (setCells (regSet l)).length) (fun (k : Nat) => [kV 1 (V.b (.a (.slv h.length 1 (isl h)))), kP 2 2 0, kU 6 (((regSet l) : Nat) : Int), kS 7 21 0 ((tfL (regSet l) h k).length), kS 23 23 0 ((setCells (regSet l)).length), kI 24 (((setCells (regSet l)).length : Nat) : Int), kI 25 ((k : Nat) : Int), kO 2 29 1 true [(.slv l.length 1 (isl l) : A)], kO 21 57 3 true (pl (dsl (tfL (regSet l) h k))), kO 23 46 2 true (pl (csl (setCells (regSet l)))), kF 9, kF 12, kF 16, kF 20, kF 24, kF 36, kF 60, kF 69, kF 70, kF 78, kF 102, kF 111, kF 112, kF 116, kF 122]) (fun (k : Nat) => (setCells (regSet l)).length - k) ((0 : Nat)) (by exact (Nat.zero_le _ : 0 ≤ _)) (wkf id (wS <| wS <| wS <| wE (e := (vsl (by rfl) rfl)) <| wS <| wS <| wE (e := (vint (by rfl))) <| wX <| wO (e := renob_eq (fun h => h) (congrArg dsl (by rfl))) <| wP <| by (iterate 15 refine wF ?_); exact wN)) ?_
  rintro k inv7
  replace inv7 : k ≤ (setCells (regSet l)).length := inv7
  have invk := inv7
  have hml := tfL_len (s := regSet l) (h := h) invk
  refine sq (rg ?_)
  refine z ?_ (h := fun ν => acts_bin ν vt vt (r_lss rfl))
  refine nl (sq ?_)
  refine wi (fun c8 => ?_) (fun c8 => ?_)
  ·skip
   have c8P := of_decide_eq_true c8
   have hkc := setc_ok (s := regSet l) (k := k) (by omega)
   have hkb := okc_true.1 hkc
   refine sk (sq (bkk (sq (rg ?_))))
   refine z ?_ (h := fun ν => ix0 ν qC32_un_42 qC32_sz_46 vt (hlt := (by omega)))
   refine z ?_ (h := fun ν => lC ν qC32_ti_46 (by omega))
   refine z ?_ (h := fun ν => acts_alloc' (h := 9) (cap := 1) (s := 2) (cells := [aI 0, aI 0]) ν qC32_zi_46 rfl rfl (by decide))
   refine z ?_ (h := fun _ => acts_store (cells := [aI ((gC (setCells (regSet l)) k).x), aI ((gC (setCells (regSet l)) k).y)]) qC32_ti_46 xt (by exact rfl) (by decide) (by exact ob1 rfl) (by exact Nat.le_of_ble_eq_true rfl) (by exact rfl))
   refine nl (sq (sq ?_))
   refine wp_join [kB 62 ((hasS (regSet l) (⟨((gC (setCells (regSet l)) k).x + 1), (gC (setCells (regSet l)) k).y⟩ : Cel)) && (decide ((szW (sW (gI h (((((gC (setCells (regSet l)) k).y * 9) + (gC (setCells (regSet l)) k).x) + 1).toNat)) (gI h ((((((gC (setCells (regSet l)) k).y + 1) * 9) + (gC (setCells (regSet l)) k).x) + 1).toNat)))) = 3))), kV 1 (V.b (.a (.slv h.length 1 (isl h)))), kP 2 2 0, kU 6 (((regSet l) : Nat) : Int), kS 7 21 0 ((tfL (regSet l) h k).length), kP 9 9 0, kS 23 23 0 ((setCells (regSet l)).length), kI 24 (((setCells (regSet l)).length : Nat) : Int), kI 25 ((k : Nat) : Int), kO 2 29 1 true [(.slv l.length 1 (isl l) : A)], kO 9 46 2 true [aI ((gC (setCells (regSet l)) k).x), aI ((gC (setCells (regSet l)) k).y)], kO 21 57 3 true (pl (dsl (tfL (regSet l) h k))), kO 23 46 2 true (pl (csl (setCells (regSet l)))), kF 12, kF 16, kF 20, kF 24, kF 36, kF 60, kF 69, kF 70, kF 78, kF 102, kF 111, kF 112, kF 116, kF 122] ?_ ?_
   ·skip
    rcases Bool.eq_false_or_eq_true ((hasS (regSet l) (⟨((gC (setCells (regSet l)) k).x + 1), (gC (setCells (regSet l)) k).y⟩ : Cel))) with c9 | c9
    ·skip
     have hqh := okc_true.1 (hasS_ok c9)
     refine wp_dr (zdm ?_)
     refine zd ?_ (h := fun ν => acts_field (off' := 0) ν qC32_fo_46_0 rfl)
     refine zd ?_ (h := fun ν => acts_load_own (x := .val (.int .i64 ((gC (setCells (regSet l)) k).x))) ν qC32_ti_3 (by exact rfl))
     refine zd ?_ (h := fun ν => acts_bin ν vt vc (rA (by omega) (by omega)))
     refine zd ?_ (h := fun ν => acts_field (off' := 1) ν qC32_fo_46_1 rfl)
     refine zd ?_ (h := fun ν => acts_load_own (x := .val (.int .i64 ((gC (setCells (regSet l)) k).y))) ν qC32_ti_3 (by exact rfl))
     refine zd ?_ (h := fun ν => bC ν qC32_bs_46 vt vt)
     refine zd ?_ (h := fun ν => acts_call1 ν (impl_set__has_fn (regSet l) (⟨((gC (setCells (regSet l)) k).x + 1), (gC (setCells (regSet l)) k).y⟩ : Cel) (by exact regSet_lt (by assumption))) (ac (ArgV.v vt) (ac (ArgV.va va) an)) (resval (congrArg Value.bool c9)))
     refine zdm ?_
     refine zdg ?_ (h := fun ν => step_on rfl rfl (mt ν))
     refine zdg ?_ (h := fun ν => step_on rfl rfl (acts_field (off' := 1) ν qC32_fo_46_1 rfl))
     refine zdg ?_ (h := fun ν => step_on rfl rfl (acts_load_own (x := .val (.int .i64 ((gC (setCells (regSet l)) k).y))) ν qC32_ti_3 (by exact rfl)))
     refine zdg ?_ (h := fun ν => step_on rfl rfl (acts_bin ν vt vc (rM (by omega) (by omega))))
     refine zdg ?_ (h := fun ν => step_on rfl rfl (acts_field (off' := 0) ν qC32_fo_46_0 rfl))
     refine zdg ?_ (h := fun ν => step_on rfl rfl (acts_load_own (x := .val (.int .i64 ((gC (setCells (regSet l)) k).x))) ν qC32_ti_3 (by exact rfl)))
     refine zdg ?_ (h := fun ν => step_on rfl rfl (acts_bin ν vt vt (rA (by omega) (by omega))))
     refine zdg ?_ (h := fun ν => step_on rfl rfl (acts_bin ν vt vc (rA (by omega) (by omega))))
     refine zdg ?_ (h := fun ν => step_on rfl rfl (ixv (k := ((((gC (setCells (regSet l)) k).y * 9) + (gC (setCells (regSet l)) k).x) + 1).toNat) ν qC32_un_22 qC32_sz_3 vt (Int.toNat_of_nonneg (by omega)).symm (by omega)))
     refine zdg ?_ (h := fun ν => step_on rfl rfl (uI ν qC32_ti_3 (by omega)))
     refine zdg ?_ (h := fun ν => step_on rfl rfl (mt ν))
     refine zdg ?_ (h := fun ν => step_on rfl rfl (acts_field (off' := 1) ν qC32_fo_46_1 rfl))
     refine zdg ?_ (h := fun ν => step_on rfl rfl (acts_load_own (x := .val (.int .i64 ((gC (setCells (regSet l)) k).y))) ν qC32_ti_3 (by exact rfl)))
     refine zdg ?_ (h := fun ν => step_on rfl rfl (acts_bin ν vt vc (rA (by omega) (by omega))))
     refine zdg ?_ (h := fun ν => step_on rfl rfl (acts_bin ν vt vc (rM (by omega) (by omega))))
     refine zdg ?_ (h := fun ν => step_on rfl rfl (acts_field (off' := 0) ν qC32_fo_46_0 rfl))
     refine zdg ?_ (h := fun ν => step_on rfl rfl (acts_load_own (x := .val (.int .i64 ((gC (setCells (regSet l)) k).x))) ν qC32_ti_3 (by exact rfl)))
     refine zdg ?_ (h := fun ν => step_on rfl rfl (acts_bin ν vt vt (rA (by omega) (by omega))))
     refine zdg ?_ (h := fun ν => step_on rfl rfl (acts_bin ν vt vc (rA (by omega) (by omega))))
     refine zdg ?_ (h := fun ν => step_on rfl rfl (ixv (k := (((((gC (setCells (regSet l)) k).y + 1) * 9) + (gC (setCells (regSet l)) k).x) + 1).toNat) ν qC32_un_22 qC32_sz_3 vt (Int.toNat_of_nonneg (by omega)).symm (by omega)))
     refine zdg ?_ (h := fun ν => step_on rfl rfl (uI ν qC32_ti_3 (by omega)))
     refine zdg ?_ (h := fun ν => step_on rfl rfl (acts_bin ν vt vt (r_sub (c := (sW (gI h (((((gC (setCells (regSet l)) k).y * 9) + (gC (setCells (regSet l)) k).x) + 1).toNat)) (gI h ((((((gC (setCells (regSet l)) k).y + 1) * 9) + (gC (setCells (regSet l)) k).x) + 1).toNat)))) rfl)))
     refine zdg ?_ (h := fun ν => step_on rfl rfl (acts_call1 ν (sizeW_fn (sW (gI h (((((gC (setCells (regSet l)) k).y * 9) + (gC (setCells (regSet l)) k).x) + 1).toNat)) (gI h ((((((gC (setCells (regSet l)) k).y + 1) * 9) + (gC (setCells (regSet l)) k).x) + 1).toNat))) ) (ac (ArgV.v vt) an) rv))
     refine zdg ?_ (h := fun ν => step_on rfl rfl (acts_bin ν vt vc (r_eql rfl)))
     refine zd ?_ (h := fun ν => acts_pick_t ν vt xt)
     refine dw_nil ?_
     exact ⟨rfl, weak_reads ⟨(by simp only [c9]; first | done | kernel_rfl), (by repeat (first | exact trivial | refine ⟨by kernel_rfl, ?_⟩))⟩⟩
    ·skip
     refine wp_dr (zdm ?_)
     refine zd ?_ (h := fun ν => acts_field (off' := 0) ν qC32_fo_46_0 rfl)
     refine zd ?_ (h := fun ν => acts_load_own (x := .val (.int .i64 ((gC (setCells (regSet l)) k).x))) ν qC32_ti_3 (by exact rfl))
     refine zd ?_ (h := fun ν => acts_bin ν vt vc (rA (by omega) (by omega)))
     refine zd ?_ (h := fun ν => acts_field (off' := 1) ν qC32_fo_46_1 rfl)
     refine zd ?_ (h := fun ν => acts_load_own (x := .val (.int .i64 ((gC (setCells (regSet l)) k).y))) ν qC32_ti_3 (by exact rfl))
     refine zd ?_ (h := fun ν => bC ν qC32_bs_46 vt vt)
     refine zd ?_ (h := fun ν => acts_call1 ν (impl_set__has_fn (regSet l) (⟨((gC (setCells (regSet l)) k).x + 1), (gC (setCells (regSet l)) k).y⟩ : Cel) (by exact regSet_lt (by assumption))) (ac (ArgV.v vt) (ac (ArgV.va va) an)) (resval (congrArg Value.bool c9)))
     refine zdm ?_
     refine zdg ?_ (h := fun ν => step_off rfl rfl (by decide) rfl ν)
     refine zdg ?_ (h := fun ν => step_off rfl rfl (by decide) rfl ν)
     refine zdg ?_ (h := fun ν => step_off rfl rfl (by decide) rfl ν)
     refine zdg ?_ (h := fun ν => step_off rfl rfl (by decide) rfl ν)
     refine zdg ?_ (h := fun ν => step_off rfl rfl (by decide) rfl ν)
     refine zdg ?_ (h := fun ν => step_off rfl rfl (by decide) rfl ν)
     refine zdg ?_ (h := fun ν => step_off rfl rfl (by decide) rfl ν)
     refine zdg ?_ (h := fun ν => step_off rfl rfl (by decide) rfl ν)
     refine zdg ?_ (h := fun ν => step_off rfl rfl (by decide) rfl ν)
     refine zdg ?_ (h := fun ν => step_off rfl rfl (by decide) rfl ν)
     refine zdg ?_ (h := fun ν => step_off rfl rfl (by decide) rfl ν)
     refine zdg ?_ (h := fun ν => step_off rfl rfl (by decide) rfl ν)
     refine zdg ?_ (h := fun ν => step_off rfl rfl (by decide) rfl ν)
     refine zdg ?_ (h := fun ν => step_off rfl rfl (by decide) rfl ν)
     refine zdg ?_ (h := fun ν => step_off rfl rfl (by decide) rfl ν)
     refine zdg ?_ (h := fun ν => step_off rfl rfl (by decide) rfl ν)
     refine zdg ?_ (h := fun ν => step_off rfl rfl (by decide) rfl ν)
     refine zdg ?_ (h := fun ν => step_off rfl rfl (by decide) rfl ν)
     refine zdg ?_ (h := fun ν => step_off rfl rfl (by decide) rfl ν)
     refine zdg ?_ (h := fun ν => step_off rfl rfl (by decide) rfl ν)
     refine zdg ?_ (h := fun ν => step_off rfl rfl (by decide) rfl ν)
     refine zdg ?_ (h := fun ν => step_off rfl rfl (by decide) rfl ν)
     refine zdg ?_ (h := fun ν => step_off rfl rfl (by decide) rfl ν)
     refine zdg ?_ (h := fun ν => step_off rfl rfl (by decide) rfl ν)
     refine zd ?_ (h := fun ν => acts_pick_f ν vt xc)
     refine dw_nil ?_
     exact ⟨rfl, weak_reads ⟨(by simp only [c9]; first | done | kernel_rfl), (by repeat (first | exact trivial | refine ⟨by kernel_rfl, ?_⟩))⟩⟩
   refine wi (b := ((hasS (regSet l) (⟨((gC (setCells (regSet l)) k).x + 1), (gC (setCells (regSet l)) k).y⟩ : Cel)) && (decide ((szW (sW (gI h (((((gC (setCells (regSet l)) k).y * 9) + (gC (setCells (regSet l)) k).x) + 1).toNat)) (gI h ((((((gC (setCells (regSet l)) k).y + 1) * 9) + (gC (setCells (regSet l)) k).x) + 1).toNat)))) = 3)))) (fun c10 => ?_) (fun c10 => ?_)
   ·skip
    have hb1 := tf_h c10
    obtain ⟨c11, c12⟩ := and_tt c10
    have hqh := okc_true.1 (hasS_ok c11)
    have c12P := of_decide_eq_true c12
    refine rg (zm ?_)
    refine z ?_ (h := fun ν => acts_field (off' := 0) ν qC32_fo_46_0 rfl)
    refine z ?_ (h := fun ν => acts_load_own (x := .val (.int .i64 ((gC (setCells (regSet l)) k).x))) ν qC32_ti_3 (by exact rfl))
    refine z ?_ (h := fun ν => acts_field (off' := 1) ν qC32_fo_46_1 rfl)
    refine z ?_ (h := fun ν => acts_load_own (x := .val (.int .i64 ((gC (setCells (regSet l)) k).y))) ν qC32_ti_3 (by exact rfl))
    refine z ?_ (h := fun ν => bD ν qC32_bs_57 vt vt vc)
    refine z ?_ (h := fun ν => acts_buildSlice' (h := 69) (xs := dsl ([(⟨(gC (setCells (regSet l)) k).x, (gC (setCells (regSet l)) k).y, false⟩ : Dom)] : List Dom)) ν qC32_un_26 qC32_zi_57 (.cons va OpVs.nil) (by decide) (by decide) (by kernel_rfl) rfl)
    refine z ?_ (h := fun ν => aD_ (h2 := 70) (L3 := ((tfL (regSet l) h k) ++ [(⟨(gC (setCells (regSet l)) k).x, (gC (setCells (regSet l)) k).y, false⟩ : Dom)])) ν qC32_un_26 qC32_zi_57 (by exact rfl) rfl (by exact rfl) (by (simp; omega)))
    refine za (nl (sq ?_))
    refine wp_join [kB 104 ((hasS (regSet l) (⟨(gC (setCells (regSet l)) k).x, ((gC (setCells (regSet l)) k).y + 1)⟩ : Cel)) && (decide ((szW (sW (gI h (((((gC (setCells (regSet l)) k).y + 1) * 9) + (gC (setCells (regSet l)) k).x).toNat)) (gI h ((((((gC (setCells (regSet l)) k).y + 1) * 9) + (gC (setCells (regSet l)) k).x) + 1).toNat)))) = 3))), kV 1 (V.b (.a (.slv h.length 1 (isl h)))), kP 2 2 0, kU 6 (((regSet l) : Nat) : Int), kS 7 70 0 (((tfL (regSet l) h k) ++ [(⟨(gC (setCells (regSet l)) k).x, (gC (setCells (regSet l)) k).y, false⟩ : Dom)]).length), kP 9 9 0, kS 23 23 0 ((setCells (regSet l)).length), kI 24 (((setCells (regSet l)).length : Nat) : Int), kI 25 ((k : Nat) : Int), kO 2 29 1 true [(.slv l.length 1 (isl l) : A)], kO 9 46 2 true [aI ((gC (setCells (regSet l)) k).x), aI ((gC (setCells (regSet l)) k).y)], kO 23 46 2 true (pl (csl (setCells (regSet l)))), kO 69 57 3 true (pl (dsl [(⟨(gC (setCells (regSet l)) k).x, (gC (setCells (regSet l)) k).y, false⟩ : Dom)])), kO 70 57 3 true (pl (dsl ((tfL (regSet l) h k) ++ [(⟨(gC (setCells (regSet l)) k).x, (gC (setCells (regSet l)) k).y, false⟩ : Dom)]))), kF 12, kF 16, kF 20, kF 24, kF 36, kF 60, kF 78, kF 102, kF 111, kF 112, kF 116, kF 122] ?_ ?_
    ·skip
     rcases Bool.eq_false_or_eq_true ((hasS (regSet l) (⟨(gC (setCells (regSet l)) k).x, ((gC (setCells (regSet l)) k).y + 1)⟩ : Cel))) with c13 | c13
     ·skip
      have hqh := okc_true.1 (hasS_ok c13)
      refine wp_dr (zdm ?_)
      refine zd ?_ (h := fun ν => acts_field (off' := 0) ν qC32_fo_46_0 rfl)
      refine zd ?_ (h := fun ν => acts_load_own (x := .val (.int .i64 ((gC (setCells (regSet l)) k).x))) ν qC32_ti_3 (by exact rfl))
      refine zd ?_ (h := fun ν => acts_field (off' := 1) ν qC32_fo_46_1 rfl)
      refine zd ?_ (h := fun ν => acts_load_own (x := .val (.int .i64 ((gC (setCells (regSet l)) k).y))) ν qC32_ti_3 (by exact rfl))
      refine zd ?_ (h := fun ν => acts_bin ν vt vc (rA (by omega) (by omega)))
      refine zd ?_ (h := fun ν => bC ν qC32_bs_46 vt vt)
      refine zd ?_ (h := fun ν => acts_call1 ν (impl_set__has_fn (regSet l) (⟨(gC (setCells (regSet l)) k).x, ((gC (setCells (regSet l)) k).y + 1)⟩ : Cel) (by exact regSet_lt (by assumption))) (ac (ArgV.v vt) (ac (ArgV.va va) an)) (resval (congrArg Value.bool c13)))
      refine zdm ?_
      refine zdg ?_ (h := fun ν => step_on rfl rfl (mt ν))
      refine zdg ?_ (h := fun ν => step_on rfl rfl (acts_field (off' := 1) ν qC32_fo_46_1 rfl))
      refine zdg ?_ (h := fun ν => step_on rfl rfl (acts_load_own (x := .val (.int .i64 ((gC (setCells (regSet l)) k).y))) ν qC32_ti_3 (by exact rfl)))
      refine zdg ?_ (h := fun ν => step_on rfl rfl (acts_bin ν vt vc (rA (by omega) (by omega))))
      refine zdg ?_ (h := fun ν => step_on rfl rfl (acts_bin ν vt vc (rM (by omega) (by omega))))
      refine zdg ?_ (h := fun ν => step_on rfl rfl (acts_field (off' := 0) ν qC32_fo_46_0 rfl))
      refine zdg ?_ (h := fun ν => step_on rfl rfl (acts_load_own (x := .val (.int .i64 ((gC (setCells (regSet l)) k).x))) ν qC32_ti_3 (by exact rfl)))
      refine zdg ?_ (h := fun ν => step_on rfl rfl (acts_bin ν vt vt (rA (by omega) (by omega))))
      refine zdg ?_ (h := fun ν => step_on rfl rfl (ixv (k := ((((gC (setCells (regSet l)) k).y + 1) * 9) + (gC (setCells (regSet l)) k).x).toNat) ν qC32_un_22 qC32_sz_3 vt (Int.toNat_of_nonneg (by omega)).symm (by omega)))
      refine zdg ?_ (h := fun ν => step_on rfl rfl (uI ν qC32_ti_3 (by omega)))
      refine zdg ?_ (h := fun ν => step_on rfl rfl (mt ν))
      refine zdg ?_ (h := fun ν => step_on rfl rfl (acts_field (off' := 1) ν qC32_fo_46_1 rfl))
      refine zdg ?_ (h := fun ν => step_on rfl rfl (acts_load_own (x := .val (.int .i64 ((gC (setCells (regSet l)) k).y))) ν qC32_ti_3 (by exact rfl)))
      refine zdg ?_ (h := fun ν => step_on rfl rfl (acts_bin ν vt vc (rA (by omega) (by omega))))
      refine zdg ?_ (h := fun ν => step_on rfl rfl (acts_bin ν vt vc (rM (by omega) (by omega))))
      refine zdg ?_ (h := fun ν => step_on rfl rfl (acts_field (off' := 0) ν qC32_fo_46_0 rfl))
      refine zdg ?_ (h := fun ν => step_on rfl rfl (acts_load_own (x := .val (.int .i64 ((gC (setCells (regSet l)) k).x))) ν qC32_ti_3 (by exact rfl)))
      refine zdg ?_ (h := fun ν => step_on rfl rfl (acts_bin ν vt vt (rA (by omega) (by omega))))
      refine zdg ?_ (h := fun ν => step_on rfl rfl (acts_bin ν vt vc (rA (by omega) (by omega))))
      refine zdg ?_ (h := fun ν => step_on rfl rfl (ixv (k := (((((gC (setCells (regSet l)) k).y + 1) * 9) + (gC (setCells (regSet l)) k).x) + 1).toNat) ν qC32_un_22 qC32_sz_3 vt (Int.toNat_of_nonneg (by omega)).symm (by omega)))
      refine zdg ?_ (h := fun ν => step_on rfl rfl (uI ν qC32_ti_3 (by omega)))
      refine zdg ?_ (h := fun ν => step_on rfl rfl (acts_bin ν vt vt (r_sub (c := (sW (gI h (((((gC (setCells (regSet l)) k).y + 1) * 9) + (gC (setCells (regSet l)) k).x).toNat)) (gI h ((((((gC (setCells (regSet l)) k).y + 1) * 9) + (gC (setCells (regSet l)) k).x) + 1).toNat)))) rfl)))
      refine zdg ?_ (h := fun ν => step_on rfl rfl (acts_call1 ν (sizeW_fn (sW (gI h (((((gC (setCells (regSet l)) k).y + 1) * 9) + (gC (setCells (regSet l)) k).x).toNat)) (gI h ((((((gC (setCells (regSet l)) k).y + 1) * 9) + (gC (setCells (regSet l)) k).x) + 1).toNat))) ) (ac (ArgV.v vt) an) rv))
      refine zdg ?_ (h := fun ν => step_on rfl rfl (acts_bin ν vt vc (r_eql rfl)))
      refine zd ?_ (h := fun ν => acts_pick_t ν vt xt)
      refine dw_nil ?_
      exact ⟨rfl, weak_reads ⟨(by simp only [c13]; first | done | kernel_rfl), (by repeat (first | exact trivial | refine ⟨by kernel_rfl, ?_⟩))⟩⟩
     ·skip
      refine wp_dr (zdm ?_)
      refine zd ?_ (h := fun ν => acts_field (off' := 0) ν qC32_fo_46_0 rfl)
      refine zd ?_ (h := fun ν => acts_load_own (x := .val (.int .i64 ((gC (setCells (regSet l)) k).x))) ν qC32_ti_3 (by exact rfl))
      refine zd ?_ (h := fun ν => acts_field (off' := 1) ν qC32_fo_46_1 rfl)
      refine zd ?_ (h := fun ν => acts_load_own (x := .val (.int .i64 ((gC (setCells (regSet l)) k).y))) ν qC32_ti_3 (by exact rfl))
      refine zd ?_ (h := fun ν => acts_bin ν vt vc (rA (by omega) (by omega)))
      refine zd ?_ (h := fun ν => bC ν qC32_bs_46 vt vt)
      refine zd ?_ (h := fun ν => acts_call1 ν (impl_set__has_fn (regSet l) (⟨(gC (setCells (regSet l)) k).x, ((gC (setCells (regSet l)) k).y + 1)⟩ : Cel) (by exact regSet_lt (by assumption))) (ac (ArgV.v vt) (ac (ArgV.va va) an)) (resval (congrArg Value.bool c13)))
      refine zdm ?_
      refine zdg ?_ (h := fun ν => step_off rfl rfl (by decide) rfl ν)
      refine zdg ?_ (h := fun ν => step_off rfl rfl (by decide) rfl ν)
      refine zdg ?_ (h := fun ν => step_off rfl rfl (by decide) rfl ν)
      refine zdg ?_ (h := fun ν => step_off rfl rfl (by decide) rfl ν)
      refine zdg ?_ (h := fun ν => step_off rfl rfl (by decide) rfl ν)
      refine zdg ?_ (h := fun ν => step_off rfl rfl (by decide) rfl ν)
      refine zdg ?_ (h := fun ν => step_off rfl rfl (by decide) rfl ν)
      refine zdg ?_ (h := fun ν => step_off rfl rfl (by decide) rfl ν)
      refine zdg ?_ (h := fun ν => step_off rfl rfl (by decide) rfl ν)
      refine zdg ?_ (h := fun ν => step_off rfl rfl (by decide) rfl ν)
      refine zdg ?_ (h := fun ν => step_off rfl rfl (by decide) rfl ν)
      refine zdg ?_ (h := fun ν => step_off rfl rfl (by decide) rfl ν)
      refine zdg ?_ (h := fun ν => step_off rfl rfl (by decide) rfl ν)
      refine zdg ?_ (h := fun ν => step_off rfl rfl (by decide) rfl ν)
      refine zdg ?_ (h := fun ν => step_off rfl rfl (by decide) rfl ν)
      refine zdg ?_ (h := fun ν => step_off rfl rfl (by decide) rfl ν)
      refine zdg ?_ (h := fun ν => step_off rfl rfl (by decide) rfl ν)
      refine zdg ?_ (h := fun ν => step_off rfl rfl (by decide) rfl ν)
      refine zdg ?_ (h := fun ν => step_off rfl rfl (by decide) rfl ν)
      refine zdg ?_ (h := fun ν => step_off rfl rfl (by decide) rfl ν)
      refine zdg ?_ (h := fun ν => step_off rfl rfl (by decide) rfl ν)
      refine zdg ?_ (h := fun ν => step_off rfl rfl (by decide) rfl ν)
      refine zdg ?_ (h := fun ν => step_off rfl rfl (by decide) rfl ν)
      refine zdg ?_ (h := fun ν => step_off rfl rfl (by decide) rfl ν)
      refine zd ?_ (h := fun ν => acts_pick_f ν vt xc)
      refine dw_nil ?_
      exact ⟨rfl, weak_reads ⟨(by simp only [c13]; first | done | kernel_rfl), (by repeat (first | exact trivial | refine ⟨by kernel_rfl, ?_⟩))⟩⟩
    refine wi (b := ((hasS (regSet l) (⟨(gC (setCells (regSet l)) k).x, ((gC (setCells (regSet l)) k).y + 1)⟩ : Cel)) && (decide ((szW (sW (gI h (((((gC (setCells (regSet l)) k).y + 1) * 9) + (gC (setCells (regSet l)) k).x).toNat)) (gI h ((((((gC (setCells (regSet l)) k).y + 1) * 9) + (gC (setCells (regSet l)) k).x) + 1).toNat)))) = 3)))) (fun c14 => ?_) (fun c14 => ?_)
    ·skip
     have hb2 := tf_v c14
     obtain ⟨c15, c16⟩ := and_tt c14
     have hqh := okc_true.1 (hasS_ok c15)
     have c16P := of_decide_eq_true c16
     refine rg (zm ?_)
     refine z ?_ (h := fun ν => acts_field (off' := 0) ν qC32_fo_46_0 rfl)
     refine z ?_ (h := fun ν => acts_load_own (x := .val (.int .i64 ((gC (setCells (regSet l)) k).x))) ν qC32_ti_3 (by exact rfl))
     refine z ?_ (h := fun ν => acts_field (off' := 1) ν qC32_fo_46_1 rfl)
     refine z ?_ (h := fun ν => acts_load_own (x := .val (.int .i64 ((gC (setCells (regSet l)) k).y))) ν qC32_ti_3 (by exact rfl))
     refine z ?_ (h := fun ν => bD ν qC32_bs_57 vt vt vc)
     refine z ?_ (h := fun ν => acts_buildSlice' (h := 111) (xs := dsl ([(⟨(gC (setCells (regSet l)) k).x, (gC (setCells (regSet l)) k).y, true⟩ : Dom)] : List Dom)) ν qC32_un_26 qC32_zi_57 (.cons va OpVs.nil) (by decide) (by decide) (by kernel_rfl) rfl)
     refine z ?_ (h := fun ν => aD_ (h2 := 112) (L3 := (((tfL (regSet l) h k) ++ [(⟨(gC (setCells (regSet l)) k).x, (gC (setCells (regSet l)) k).y, false⟩ : Dom)]) ++ [(⟨(gC (setCells (regSet l)) k).x, (gC (setCells (regSet l)) k).y, true⟩ : Dom)])) ν qC32_un_26 qC32_zi_57 (by exact rfl) rfl (by exact rfl) (by (simp; omega)))
     refine za (nl (rg ?_))
     refine z ?_ (h := fun ν => acts_bin ν vt vc (rA (by omega) (by omega)))
     refine zm (nl ?_)
     exact loop_back ((k + 1)) (by show _ ≤ _; omega) (by show (setCells (regSet l)).length - (k + 1) < (setCells (regSet l)).length - k; omega) (wkf (subst1 [(21, 112)]) (wS <| wS <| wS <| wE (e := (vsl (by (exact congrArg List.length (by first | rfl | omega | exact (tfs (by omega) hb1 hb2 (by simp)).symm | exact tfs (by omega) hb1 hb2 (by simp)))) rfl)) <| wS <| wS <| wE (e := (vint (by rfl))) <| wX <| wO (e := renob_eq (fun h => h) (congrArg dsl (by exact tfs (by omega) hb1 hb2 (by simp)))) <| wP <| by (iterate 15 refine wF ?_); exact wN))
    ·skip
     have hb2 := tf_v c14
     have c17 := and_ff c14
     refine sk (rg ?_)
     refine z ?_ (h := fun ν => acts_bin ν vt vc (rA (by omega) (by omega)))
     refine zm (nl ?_)
     exact loop_back ((k + 1)) (by show _ ≤ _; omega) (by show (setCells (regSet l)).length - (k + 1) < (setCells (regSet l)).length - k; omega) (wkf (subst1 [(21, 70)]) (wS <| wS <| wS <| wE (e := (vsl (by (exact congrArg List.length (by first | rfl | omega | exact (tfs (by omega) hb1 hb2 (by simp)).symm | exact tfs (by omega) hb1 hb2 (by simp)))) rfl)) <| wS <| wS <| wE (e := (vint (by rfl))) <| wX <| wO (e := renob_eq (fun h => h) (congrArg dsl (by exact tfs (by omega) hb1 hb2 (by simp)))) <| wP <| by (iterate 15 refine wF ?_); exact wN))
   ·skip
    have hb1 := tf_h c10
    have c18 := and_ff c10
    refine sk (sq ?_)
    refine wp_join [kB 104 ((hasS (regSet l) (⟨(gC (setCells (regSet l)) k).x, ((gC (setCells (regSet l)) k).y + 1)⟩ : Cel)) && (decide ((szW (sW (gI h (((((gC (setCells (regSet l)) k).y + 1) * 9) + (gC (setCells (regSet l)) k).x).toNat)) (gI h ((((((gC (setCells (regSet l)) k).y + 1) * 9) + (gC (setCells (regSet l)) k).x) + 1).toNat)))) = 3))), kV 1 (V.b (.a (.slv h.length 1 (isl h)))), kP 2 2 0, kU 6 (((regSet l) : Nat) : Int), kS 7 21 0 ((tfL (regSet l) h k).length), kP 9 9 0, kS 23 23 0 ((setCells (regSet l)).length), kI 24 (((setCells (regSet l)).length : Nat) : Int), kI 25 ((k : Nat) : Int), kO 2 29 1 true [(.slv l.length 1 (isl l) : A)], kO 9 46 2 true [aI ((gC (setCells (regSet l)) k).x), aI ((gC (setCells (regSet l)) k).y)], kO 21 57 3 true (pl (dsl (tfL (regSet l) h k))), kO 23 46 2 true (pl (csl (setCells (regSet l)))), kF 12, kF 16, kF 20, kF 24, kF 36, kF 60, kF 69, kF 70, kF 78, kF 102, kF 111, kF 112, kF 116, kF 122] ?_ ?_
    ·skip
     rcases Bool.eq_false_or_eq_true ((hasS (regSet l) (⟨(gC (setCells (regSet l)) k).x, ((gC (setCells (regSet l)) k).y + 1)⟩ : Cel))) with c19 | c19
     ·skip
      have hqh := okc_true.1 (hasS_ok c19)
      refine wp_dr (zdm ?_)
      refine zd ?_ (h := fun ν => acts_field (off' := 0) ν qC32_fo_46_0 rfl)
      refine zd ?_ (h := fun ν => acts_load_own (x := .val (.int .i64 ((gC (setCells (regSet l)) k).x))) ν qC32_ti_3 (by exact rfl))
      refine zd ?_ (h := fun ν => acts_field (off' := 1) ν qC32_fo_46_1 rfl)
      refine zd ?_ (h := fun ν => acts_load_own (x := .val (.int .i64 ((gC (setCells (regSet l)) k).y))) ν qC32_ti_3 (by exact rfl))
      refine zd ?_ (h := fun ν => acts_bin ν vt vc (rA (by omega) (by omega)))
      refine zd ?_ (h := fun ν => bC ν qC32_bs_46 vt vt)
      refine zd ?_ (h := fun ν => acts_call1 ν (impl_set__has_fn (regSet l) (⟨(gC (setCells (regSet l)) k).x, ((gC (setCells (regSet l)) k).y + 1)⟩ : Cel) (by exact regSet_lt (by assumption))) (ac (ArgV.v vt) (ac (ArgV.va va) an)) (resval (congrArg Value.bool c19)))
      refine zdm ?_
      refine zdg ?_ (h := fun ν => step_on rfl rfl (mt ν))
      refine zdg ?_ (h := fun ν => step_on rfl rfl (acts_field (off' := 1) ν qC32_fo_46_1 rfl))
      refine zdg ?_ (h := fun ν => step_on rfl rfl (acts_load_own (x := .val (.int .i64 ((gC (setCells (regSet l)) k).y))) ν qC32_ti_3 (by exact rfl)))
      refine zdg ?_ (h := fun ν => step_on rfl rfl (acts_bin ν vt vc (rA (by omega) (by omega))))
      refine zdg ?_ (h := fun ν => step_on rfl rfl (acts_bin ν vt vc (rM (by omega) (by omega))))
      refine zdg ?_ (h := fun ν => step_on rfl rfl (acts_field (off' := 0) ν qC32_fo_46_0 rfl))
      refine zdg ?_ (h := fun ν => step_on rfl rfl (acts_load_own (x := .val (.int .i64 ((gC (setCells (regSet l)) k).x))) ν qC32_ti_3 (by exact rfl)))
      refine zdg ?_ (h := fun ν => step_on rfl rfl (acts_bin ν vt vt (rA (by omega) (by omega))))
      refine zdg ?_ (h := fun ν => step_on rfl rfl (ixv (k := ((((gC (setCells (regSet l)) k).y + 1) * 9) + (gC (setCells (regSet l)) k).x).toNat) ν qC32_un_22 qC32_sz_3 vt (Int.toNat_of_nonneg (by omega)).symm (by omega)))
      refine zdg ?_ (h := fun ν => step_on rfl rfl (uI ν qC32_ti_3 (by omega)))
      refine zdg ?_ (h := fun ν => step_on rfl rfl (mt ν))
      refine zdg ?_ (h := fun ν => step_on rfl rfl (acts_field (off' := 1) ν qC32_fo_46_1 rfl))
      refine zdg ?_ (h := fun ν => step_on rfl rfl (acts_load_own (x := .val (.int .i64 ((gC (setCells (regSet l)) k).y))) ν qC32_ti_3 (by exact rfl)))
      refine zdg ?_ (h := fun ν => step_on rfl rfl (acts_bin ν vt vc (rA (by omega) (by omega))))
      refine zdg ?_ (h := fun ν => step_on rfl rfl (acts_bin ν vt vc (rM (by omega) (by omega))))
      refine zdg ?_ (h := fun ν => step_on rfl rfl (acts_field (off' := 0) ν qC32_fo_46_0 rfl))
      refine zdg ?_ (h := fun ν => step_on rfl rfl (acts_load_own (x := .val (.int .i64 ((gC (setCells (regSet l)) k).x))) ν qC32_ti_3 (by exact rfl)))
      refine zdg ?_ (h := fun ν => step_on rfl rfl (acts_bin ν vt vt (rA (by omega) (by omega))))
      refine zdg ?_ (h := fun ν => step_on rfl rfl (acts_bin ν vt vc (rA (by omega) (by omega))))
      refine zdg ?_ (h := fun ν => step_on rfl rfl (ixv (k := (((((gC (setCells (regSet l)) k).y + 1) * 9) + (gC (setCells (regSet l)) k).x) + 1).toNat) ν qC32_un_22 qC32_sz_3 vt (Int.toNat_of_nonneg (by omega)).symm (by omega)))
      refine zdg ?_ (h := fun ν => step_on rfl rfl (uI ν qC32_ti_3 (by omega)))
      refine zdg ?_ (h := fun ν => step_on rfl rfl (acts_bin ν vt vt (r_sub (c := (sW (gI h (((((gC (setCells (regSet l)) k).y + 1) * 9) + (gC (setCells (regSet l)) k).x).toNat)) (gI h ((((((gC (setCells (regSet l)) k).y + 1) * 9) + (gC (setCells (regSet l)) k).x) + 1).toNat)))) rfl)))
      refine zdg ?_ (h := fun ν => step_on rfl rfl (acts_call1 ν (sizeW_fn (sW (gI h (((((gC (setCells (regSet l)) k).y + 1) * 9) + (gC (setCells (regSet l)) k).x).toNat)) (gI h ((((((gC (setCells (regSet l)) k).y + 1) * 9) + (gC (setCells (regSet l)) k).x) + 1).toNat))) ) (ac (ArgV.v vt) an) rv))
      refine zdg ?_ (h := fun ν => step_on rfl rfl (acts_bin ν vt vc (r_eql rfl)))
      refine zd ?_ (h := fun ν => acts_pick_t ν vt xt)
      refine dw_nil ?_
      exact ⟨rfl, weak_reads ⟨(by simp only [c19]; first | done | kernel_rfl), (by repeat (first | exact trivial | refine ⟨by kernel_rfl, ?_⟩))⟩⟩
     ·skip
      refine wp_dr (zdm ?_)
      refine zd ?_ (h := fun ν => acts_field (off' := 0) ν qC32_fo_46_0 rfl)
      refine zd ?_ (h := fun ν => acts_load_own (x := .val (.int .i64 ((gC (setCells (regSet l)) k).x))) ν qC32_ti_3 (by exact rfl))
      refine zd ?_ (h := fun ν => acts_field (off' := 1) ν qC32_fo_46_1 rfl)
      refine zd ?_ (h := fun ν => acts_load_own (x := .val (.int .i64 ((gC (setCells (regSet l)) k).y))) ν qC32_ti_3 (by exact rfl))
      refine zd ?_ (h := fun ν => acts_bin ν vt vc (rA (by omega) (by omega)))
      refine zd ?_ (h := fun ν => bC ν qC32_bs_46 vt vt)
      refine zd ?_ (h := fun ν => acts_call1 ν (impl_set__has_fn (regSet l) (⟨(gC (setCells (regSet l)) k).x, ((gC (setCells (regSet l)) k).y + 1)⟩ : Cel) (by exact regSet_lt (by assumption))) (ac (ArgV.v vt) (ac (ArgV.va va) an)) (resval (congrArg Value.bool c19)))
      refine zdm ?_
      refine zdg ?_ (h := fun ν => step_off rfl rfl (by decide) rfl ν)
      refine zdg ?_ (h := fun ν => step_off rfl rfl (by decide) rfl ν)
      refine zdg ?_ (h := fun ν => step_off rfl rfl (by decide) rfl ν)
      refine zdg ?_ (h := fun ν => step_off rfl rfl (by decide) rfl ν)
      refine zdg ?_ (h := fun ν => step_off rfl rfl (by decide) rfl ν)
      refine zdg ?_ (h := fun ν => step_off rfl rfl (by decide) rfl ν)
      refine zdg ?_ (h := fun ν => step_off rfl rfl (by decide) rfl ν)
      refine zdg ?_ (h := fun ν => step_off rfl rfl (by decide) rfl ν)
      refine zdg ?_ (h := fun ν => step_off rfl rfl (by decide) rfl ν)
      refine zdg ?_ (h := fun ν => step_off rfl rfl (by decide) rfl ν)
      refine zdg ?_ (h := fun ν => step_off rfl rfl (by decide) rfl ν)
      refine zdg ?_ (h := fun ν => step_off rfl rfl (by decide) rfl ν)
      refine zdg ?_ (h := fun ν => step_off rfl rfl (by decide) rfl ν)
      refine zdg ?_ (h := fun ν => step_off rfl rfl (by decide) rfl ν)
      refine zdg ?_ (h := fun ν => step_off rfl rfl (by decide) rfl ν)
      refine zdg ?_ (h := fun ν => step_off rfl rfl (by decide) rfl ν)
      refine zdg ?_ (h := fun ν => step_off rfl rfl (by decide) rfl ν)
      refine zdg ?_ (h := fun ν => step_off rfl rfl (by decide) rfl ν)
      refine zdg ?_ (h := fun ν => step_off rfl rfl (by decide) rfl ν)
      refine zdg ?_ (h := fun ν => step_off rfl rfl (by decide) rfl ν)
      refine zdg ?_ (h := fun ν => step_off rfl rfl (by decide) rfl ν)
      refine zdg ?_ (h := fun ν => step_off rfl rfl (by decide) rfl ν)
      refine zdg ?_ (h := fun ν => step_off rfl rfl (by decide) rfl ν)
      refine zdg ?_ (h := fun ν => step_off rfl rfl (by decide) rfl ν)
      refine zd ?_ (h := fun ν => acts_pick_f ν vt xc)
      refine dw_nil ?_
      exact ⟨rfl, weak_reads ⟨(by simp only [c19]; first | done | kernel_rfl), (by repeat (first | exact trivial | refine ⟨by kernel_rfl, ?_⟩))⟩⟩
    refine wi (b := ((hasS (regSet l) (⟨(gC (setCells (regSet l)) k).x, ((gC (setCells (regSet l)) k).y + 1)⟩ : Cel)) && (decide ((szW (sW (gI h (((((gC (setCells (regSet l)) k).y + 1) * 9) + (gC (setCells (regSet l)) k).x).toNat)) (gI h ((((((gC (setCells (regSet l)) k).y + 1) * 9) + (gC (setCells (regSet l)) k).x) + 1).toNat)))) = 3)))) (fun c20 => ?_) (fun c20 => ?_)
    ·skip
     have hb2 := tf_v c20
     obtain ⟨c21, c22⟩ := and_tt c20
     have hqh := okc_true.1 (hasS_ok c21)
     have c22P := of_decide_eq_true c22
     refine rg (zm ?_)
     refine z ?_ (h := fun ν => acts_field (off' := 0) ν qC32_fo_46_0 rfl)
     refine z ?_ (h := fun ν => acts_load_own (x := .val (.int .i64 ((gC (setCells (regSet l)) k).x))) ν qC32_ti_3 (by exact rfl))
     refine z ?_ (h := fun ν => acts_field (off' := 1) ν qC32_fo_46_1 rfl)
     refine z ?_ (h := fun ν => acts_load_own (x := .val (.int .i64 ((gC (setCells (regSet l)) k).y))) ν qC32_ti_3 (by exact rfl))
     refine z ?_ (h := fun ν => bD ν qC32_bs_57 vt vt vc)
     refine z ?_ (h := fun ν => acts_buildSlice' (h := 111) (xs := dsl ([(⟨(gC (setCells (regSet l)) k).x, (gC (setCells (regSet l)) k).y, true⟩ : Dom)] : List Dom)) ν qC32_un_26 qC32_zi_57 (.cons va OpVs.nil) (by decide) (by decide) (by kernel_rfl) rfl)
     refine z ?_ (h := fun ν => aD_ (h2 := 112) (L3 := ((tfL (regSet l) h k) ++ [(⟨(gC (setCells (regSet l)) k).x, (gC (setCells (regSet l)) k).y, true⟩ : Dom)])) ν qC32_un_26 qC32_zi_57 (by exact rfl) rfl (by exact rfl) (by (simp; omega)))
     refine za (nl (rg ?_))
     refine z ?_ (h := fun ν => acts_bin ν vt vc (rA (by omega) (by omega)))
     refine zm (nl ?_)
     exact loop_back ((k + 1)) (by show _ ≤ _; omega) (by show (setCells (regSet l)).length - (k + 1) < (setCells (regSet l)).length - k; omega) (wkf (subst1 [(21, 112)]) (wS <| wS <| wS <| wE (e := (vsl (by (exact congrArg List.length (by first | rfl | omega | exact (tfs (by omega) hb1 hb2 (by simp)).symm | exact tfs (by omega) hb1 hb2 (by simp)))) rfl)) <| wS <| wS <| wE (e := (vint (by rfl))) <| wX <| wO (e := renob_eq (fun h => h) (congrArg dsl (by exact tfs (by omega) hb1 hb2 (by simp)))) <| wP <| by (iterate 15 refine wF ?_); exact wN))
    ·skip
     have hb2 := tf_v c20
     have c23 := and_ff c20
     refine sk (rg ?_)
     refine z ?_ (h := fun ν => acts_bin ν vt vc (rA (by omega) (by omega)))
     refine zm (nl ?_)
     exact loop_back ((k + 1)) (by show _ ≤ _; omega) (by show (setCells (regSet l)).length - (k + 1) < (setCells (regSet l)).length - k; omega) (wkf id (wS <| wS <| wS <| wE (e := (vsl (by (exact congrArg List.length (by first | rfl | omega | exact (tfs (by omega) hb1 hb2 (by simp)).symm | exact tfs (by omega) hb1 hb2 (by simp)))) rfl)) <| wS <| wS <| wE (e := (vint (by rfl))) <| wX <| wO (e := renob_eq (fun h => h) (congrArg dsl (by exact tfs (by omega) hb1 hb2 (by simp)))) <| wP <| by (iterate 15 refine wF ?_); exact wN))
  ·skip
   have c8P := of_decide_eq_false c8
   refine wp_exit' (sq ?_)
   rcases Bool.eq_false_or_eq_true ((simB l && isTil l (tfL (regSet l) h k))) with c24 | c24
   ·skip
    refine rg ?_
    refine z ?_ (h := fun ν => acts_load_owns (xs := [(.slv l.length 1 (isl l) : A)]) ν qC32_ti_29 rfl (by decide) rfl)
    refine zm ?_
    refine z ?_ (h := fun ν => acts_call1 ν (HeightsOf_yes l (tfL (regSet l) h k) (by omega) (by omega) (by omega)) (ac (ArgV.regv _ _ 1 _) (ac (argv_own (by exact dsl_len _)) an)) (ResV.row _ _ _ _ 116))
    refine za (nl (sq (sq (rg (zm ?_)))))
    refine z ?_ (h := fun ν => acts_seql ν qC32_un_22 (by (rw [htsF_len]; omega)))
    refine zm ?_
    refine zg ?_ (h := fun ν => step_on rfl rfl (mt ν))
    refine zg ?_ (h := fun ν => step_on rfl rfl (mt ν))
    refine zg ?_ (h := fun ν => step_on rfl rfl (acts_call1 ν (impl_sameInts_fn (htsF l (tfL (regSet l) h k)) h (by (rw [htsF_len]; omega)) (by omega)) (ac (argv_own (by exact isl_len _)) (ac (ArgV.slv _ _ _ _) an)) rv))
    refine zg ?_ (h := fun ν => step_on rfl rfl (acts_un ν vt (r_not rfl)))
    refine z ?_ (h := fun ν => acts_pick_f ν vt xt)
    refine nl ?_
    refine wi (b := (!(decide ((htsF l (tfL (regSet l) h k)) = h)))) (fun c25 => ?_) (fun c25 => ?_)
    ·skip
     have c26 : decide ((htsF l (tfL (regSet l) h k)) = h) = false := by first | (rw [← Bool.not_eq_true']; exact c25) | simpa using c25
     have c26P := of_decide_eq_false c26
     refine sq (rg (zk (zk (nl (wp_ret' ?_)))))
     exact ⟨VRes.tmp _ _ _ (by exact rfl) (bnil_doms (L := (tilF l h)) (by exact tilF_no (tff_no (k := k) (by omega) (by omega) (.inr ⟨by assumption, by simp_all⟩)))), VRes.tmp _ _ _ (by exact rfl) (bval (congrArg Value.bool (by exact (tff_no (k := k) (by omega) (by omega) (.inr ⟨by assumption, by simp_all⟩)).symm)))⟩
    ·skip
     have c27 : decide ((htsF l (tfL (regSet l) h k)) = h) = true := by first | (rw [← Bool.not_eq_false']; exact c25) | simpa using c25
     have c27P := of_decide_eq_true c27
     refine sk (sq (rg (zm (za (zk (nl (wp_ret' ?_)))))))
     exact ⟨VRes.tmp _ _ _ (by exact rfl) (brow_doms (h := 21) (L := (tfL (regSet l) h k)) (by kernel_rfl) (by exact (tff_yes (k := k) hro (by omega) (by omega) (by omega) (by assumption) (by simp_all)).1.symm) (by rfl)), VRes.tmp _ _ _ (by exact rfl) (bval (congrArg Value.bool (by exact (tff_yes (k := k) hro (by omega) (by omega) (by omega) (by assumption) (by simp_all)).2.symm)))⟩
   ·skip
    refine rg ?_
    refine z ?_ (h := fun ν => acts_load_owns (xs := [(.slv l.length 1 (isl l) : A)]) ν qC32_ti_29 rfl (by decide) rfl)
    refine zm ?_
    refine z ?_ (h := fun ν => acts_call1 ν (HeightsOf_no l (tfL (regSet l) h k) (by omega) (by omega) (by omega)) (ac (ArgV.regv _ _ 1 _) (ac (argv_own (by exact dsl_len _)) an)) rv)
    refine za (nl (sq (sq (rg (zm ?_)))))
    refine z ?_ (h := fun ν => acts_bin ν vt vc (r_seql0 qC32_un_22 rfl))
    refine zm (zo (zo (zo (zo ?_))))
    refine z ?_ (h := fun ν => acts_pick_t ν vt xc)
    refine nl (wt (sq (rg (zk (zk (nl (wp_ret' ?_)))))))
    exact ⟨VRes.tmp _ _ _ (by exact rfl) (bnil_doms (L := (tilF l h)) (by exact tilF_no (tff_no (k := k) (by omega) (by omega) (.inl (by assumption))))), VRes.tmp _ _ _ (by exact rfl) (bval (congrArg Value.bool (by exact (tff_no (k := k) (by omega) (by omega) (.inl (by assumption))).symm)))⟩
end Cl
end Go.Proofs.Ytonlghbbdcddoaa
