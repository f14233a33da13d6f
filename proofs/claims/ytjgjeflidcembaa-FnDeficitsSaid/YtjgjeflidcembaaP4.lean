/- Walks over clean states, printed by wg.py. No statement is proved here. -/
import Derived.Test.YtjgjeflidcembaaC7
import Derived.Test.YtjgjeflidcembaaC10
import Derived.Test.YtjgjeflidcembaaClB
namespace Go.Proofs.Ytjgjeflidcembaa
namespace Cl
open Go.ChangeShapes Go.WideShapes Go.ChangeAt Go.RowKit
set_option maxRecDepth 20000
/-! the search for a way: what fails, what succeeds -/
def NbIn (s : Nat) (b : Cel) (C : Nat → Prop) : Prop := ∀ w ∈ nbs b, hasS s w = true → C (idx w)
def Clo (s : Nat) (jo : List Int) (C : Nat → Prop) : Prop := ∀ i, C i → 0 ≤ gI jo i ∧ NbIn s (cN (gI jo i).toNat) C
theorem NbIn.mono {s : Nat} {b : Cel} {C D : Nat → Prop} (h : NbIn s b C) (hs : ∀ i, C i → D i) : NbIn s b D := fun w hw hh => hs _ (h w hw hh)
/-- in a closed set no way is found -/
theorem findL_clo {rec : Nat → List Int → Cel → Bool × Nat × List Int} {s : Nat} {b : Cel} {C : Nat → Prop} {jo : List Int} (hC : Clo s jo C) (hr : ∀ seen b, NbIn s b C → (rec seen jo b).1 = false ∧ (rec seen jo b).2.2 = jo) :
    ∀ ws seen, (∀ w ∈ ws, hasS s w = true → C (idx w)) → (findL rec s b ws seen jo).1 = false ∧ (findL rec s b ws seen jo).2.2 = jo := by
  intro ws
  induction ws with
  | nil => intro seen _; exact ⟨rfl, rfl⟩
  | cons w ws ih =>
    intro seen hw
    unfold findL
    split
    · exact ih seen fun x hx => hw x (by simp [hx])
    · rename_i hc
      simp only [Bool.or_eq_true, Bool.not_eq_true', not_or, Bool.not_eq_false, Bool.not_eq_true] at hc
      have h1 := hC _ (hw w (by simp) hc.1)
      rw [if_neg (by omega)]
      have h2 := hr (addC seen w) _ h1.2
      split
      · rename_i seen2 jo2 he; rw [he] at h2; cases h2.1
      · rename_i seen2 jo2 he; rw [he] at h2
        have e : jo2 = jo := h2.2
        subst e
        exact ih seen2 fun x hx => hw x (by simp [hx])
theorem find_clo {s : Nat} {C : Nat → Prop} {jo : List Int} (hC : Clo s jo C) : ∀ n seen b, NbIn s b C → (find s n seen jo b).1 = false ∧ (find s n seen jo b).2.2 = jo := by
  intro n
  induction n with
  | zero => intro seen b _; exact ⟨rfl, rfl⟩
  | succ n ih => intro seen b h; exact findL_clo hC ih _ _ h
/-- closed sets are left alone -/
theorem findL_keeps {rec : Nat → List Int → Cel → Bool × Nat × List Int} {s : Nat} {b : Cel} {C : Nat → Prop} {jo : List Int} (hl : jo.length = 64) (hC : Clo s jo C) (hd : ∀ seen b, NbIn s b C → (rec seen jo b).1 = false) (hf : ∀ seen b, (rec seen jo b).1 = false → (rec seen jo b).2.2 = jo) (hr : ∀ seen b, ∀ i, C i → gI (rec seen jo b).2.2 i = gI jo i) (hrl : ∀ seen b, (rec seen jo b).2.2.length = 64) :
    ∀ ws seen, ∀ i, C i → gI (findL rec s b ws seen jo).2.2 i = gI jo i := by
  intro ws
  induction ws with
  | nil => intro seen i _; rfl
  | cons w ws ih =>
    intro seen i hi
    unfold findL
    split
    · exact ih seen i hi
    · rename_i hc
      simp only [Bool.or_eq_true, Bool.not_eq_true', not_or, Bool.not_eq_false, Bool.not_eq_true] at hc
      have hw := idx_lt (hasS_ok hc.1)
      have hset : ∀ {j2 : List Int} {x : Int}, j2.length = 64 → idx w ≠ i → gI (j2.set (idx w) x) i = gI j2 i := fun {j2 x} _ hne => by
        unfold gI; rw [List.getD_eq_getElem?_getD, List.getD_eq_getElem?_getD, List.getElem?_set_ne hne]
      split
      · rename_i hn
        have hne : idx w ≠ i := fun e => by have := (hC i hi).1; rw [← e] at this; omega
        exact hset hl hne
      · split
        · rename_i seen2 jo2 he
          have h1 := hr (addC seen w) (cN (gI jo (idx w)).toNat) i hi
          have h2 := hrl (addC seen w) (cN (gI jo (idx w)).toNat)
          rw [he] at h1 h2
          have hne : idx w ≠ i := fun e => by
            have h3 := hd (addC seen w) _ (hC i hi).2
            rw [← e, he] at h3; cases h3
          exact (hset h2 hne).trans h1
        · rename_i seen2 jo2 he
          have h1 := hf (addC seen w) (cN (gI jo (idx w)).toNat) (by rw [he])
          rw [he] at h1
          have e : jo2 = jo := h1
          subst e
          exact ih seen2 i hi
/-- a failed search leaves all as it was, and what it saw is closed -/
structure Fails (s : Nat) (jo : List Int) (seen : Nat) (ws : List Cel) (r : Bool × Nat × List Int) : Prop where
  je : r.2.2 = jo
  sub : ∀ i, seen.testBit i = true → r.2.1.testBit i = true
  all : ∀ w ∈ ws, hasS s w = true → r.2.1.testBit (idx w) = true
  new : ∀ i, r.2.1.testBit i = true → seen.testBit i = true ∨ (0 ≤ gI jo i ∧ NbIn s (cN (gI jo i).toNat) (fun j => r.2.1.testBit j = true) ∧ ∃ w, hasS s w = true ∧ idx w = i)
theorem findL_fails {rec : Nat → List Int → Cel → Bool × Nat × List Int} {s : Nat} {b : Cel} {jo : List Int} {n : Nat} (hjo : joOk jo)
    (hr : ∀ seen c, seen < 18446744073709551616 → okc c.x c.y = true → 64 < n + popc seen → (rec seen jo c).1 = false → Fails s jo seen (nbs c) (rec seen jo c)) (hk : ∀ seen c, seen < 18446744073709551616 → okc c.x c.y = true → Kept (rec seen jo c) seen) :
    ∀ ws seen, seen < 18446744073709551616 → 64 < n + 1 + popc seen → (findL rec s b ws seen jo).1 = false → Fails s jo seen ws (findL rec s b ws seen jo) := by
  intro ws
  induction ws with
  | nil => intro seen _ _ _; exact ⟨rfl, fun _ h => h, fun w hw => absurd hw (by simp), fun _ h => .inl h⟩
  | cons w ws ih =>
    intro seen hs hn hf
    unfold findL at hf ⊢
    split
    · rename_i hc
      rw [if_pos hc] at hf
      have h := ih seen hs hn hf
      refine ⟨h.je, h.sub, fun x hx hh => ?_, h.new⟩
      rcases List.mem_cons.1 hx with rfl | hx
      · simp only [Bool.or_eq_true, Bool.not_eq_true'] at hc
        rcases hc with hc | hc
        · rw [hh] at hc; cases hc
        · exact h.sub _ hc
      · exact h.all x hx hh
    · rename_i hc
      rw [if_neg hc] at hf
      simp only [Bool.or_eq_true, Bool.not_eq_true', not_or, Bool.not_eq_false, Bool.not_eq_true] at hc
      have hw := hasS_ok hc.1
      have hp := popc_add hw hc.2
      have hlt := addC_lt hs hw
      split
      · rename_i hn'; rw [if_pos hn'] at hf; cases hf
      · rename_i hn'
        rw [if_neg hn'] at hf
        have hkk := hjo.2 (idx w) (idx_lt hw)
        have hok : okc (cN (gI jo (idx w)).toNat).x (cN (gI jo (idx w)).toNat).y = true := cN_ok (by omega)
        have h1 := hr (addC seen w) (cN (gI jo (idx w)).toNat) hlt hok (by omega)
        have h2 := hk (addC seen w) (cN (gI jo (idx w)).toNat) hlt hok
        revert hf
        split
        · intro hf; cases hf
        · rename_i seen2 jo2 he
          intro hf
          rw [he] at h1 h2
          have h1 := h1 rfl
          have e : jo2 = jo := h1.je
          subst e
          have hpc : popc (addC seen w) ≤ popc seen2 := h2.pc
          have h3 := ih seen2 h2.lt (by omega) hf
          have hsub : ∀ i, seen2.testBit i = true → (findL rec s b ws seen2 jo2).2.1.testBit i = true := h3.sub
          have hself : seen2.testBit (idx w) = true := h1.sub _ (by rw [addC_bit]; simp)
          refine ⟨h3.je, fun i hi => hsub _ (h1.sub _ (by rw [addC_bit, hi]; rfl)), fun x hx hh => ?_, fun i hi => ?_⟩
          · rcases List.mem_cons.1 hx with rfl | hx
            · exact hsub _ hself
            · exact h3.all x hx hh
          · rcases h3.new i hi with h4 | h4
            · rcases h1.new i h4 with h5 | ⟨h5, h6, h7⟩
              · rw [addC_bit] at h5
                simp only [Bool.or_eq_true, decide_eq_true_eq] at h5
                rcases h5 with h5 | h5
                · exact .inl h5
                · subst h5
                  exact .inr ⟨by omega, fun x hx hh => hsub _ (h1.all x hx hh), w, hc.1, rfl⟩
              · exact .inr ⟨h5, h6.mono hsub, h7⟩
            · exact .inr h4
theorem find_fails {s : Nat} {jo : List Int} (hjo : joOk jo) : ∀ n seen b, seen < 18446744073709551616 → okc b.x b.y = true → 64 < n + popc seen → (find s n seen jo b).1 = false → Fails s jo seen (nbs b) (find s n seen jo b) := by
  intro n
  induction n with
  | zero => intro seen b _ _ h _; have := popc_le seen; omega
  | succ n ih => intro seen b h1 h2 h3 h4; exact findL_fails hjo (fun seen c a1 a2 a3 a4 => ih seen c a1 a2 a3 a4) (fun seen c a1 a2 => find_kept n seen jo c a1 hjo a2) _ _ h1 h3 h4
/-! a successful search joins one more black cell -/
def Edg (s : Nat) (jo : List Int) : Prop := ∀ i, i < 64 → 0 ≤ gI jo i → hasS s (cN i) = true ∧ cN i ∈ nbs (cN (gI jo i).toNat)
structure Wins (s : Nat) (jo : List Int) (seen : Nat) (b : Cel) (j2 : List Int) : Prop where
  old : ∀ i, seen.testBit i = true → gI j2 i = gI jo i
  pos : ∀ i, 0 ≤ gI jo i → 0 ≤ gI j2 i
  cnt : ∀ c : Nat, j2.count (c : Int) = jo.count (c : Int) + (if idx b = c then 1 else 0)
  edg : Edg s jo → Edg s j2
theorem gI_setN {R : List Int} {k j : Nat} {x : Int} (h : k < R.length) : gI (R.set k x) j = if k = j then x else gI R j := by
  unfold gI; rw [List.getD_eq_getElem?_getD, List.getD_eq_getElem?_getD, List.getElem?_set]
  split
  · rename_i e; subst e; first | rfl | (rw [if_pos h]; rfl)
  · rfl
theorem count_setI {l : List Int} {i : Nat} {x : Int} (h : i < l.length) (c : Nat) : (l.set i x).count (c : Int) + (if gI l i = (c : Int) then 1 else 0) = l.count (c : Int) + (if x = (c : Int) then 1 else 0) := by
  rw [List.count_set h]
  have hp : (l[i] == (c : Int)) = true → 0 < l.count (c : Int) := fun e => List.count_pos_iff.2 (by rw [← eq_of_beq e]; exact List.getElem_mem h)
  rw [gI_eq h]
  simp only [beq_iff_eq] at hp ⊢
  split <;> split <;> first | (have := hp (by assumption); omega) | omega
theorem set_edg {s : Nat} {b w : Cel} {j2 : List Int} (hb : okc b.x b.y = true) (hs : hasS s w = true) (hw : w ∈ nbs b) (hl : j2.length = 64) (he : Edg s j2) : Edg s (j2.set (idx w) (idx b)) := by
  intro i hi h0
  have hwi := idx_lt (hasS_ok hs)
  rw [gI_setN (by omega)] at h0 ⊢
  split
  · rename_i e; subst e
    rw [cN_idx (hasS_ok hs), Int.toNat_natCast, cN_idx hb]; exact ⟨hs, hw⟩
  · rename_i e; rw [if_neg e] at h0; exact he i hi h0
theorem findL_wins {rec : Nat → List Int → Cel → Bool × Nat × List Int} {s : Nat} {b : Cel} {jo : List Int} {n : Nat} (hb : okc b.x b.y = true) (hjo : joOk jo)
    (hr : ∀ seen c, seen < 18446744073709551616 → okc c.x c.y = true → 64 < n + popc seen → (rec seen jo c).1 = true → Wins s jo seen c (rec seen jo c).2.2)
    (hf : ∀ seen c, seen < 18446744073709551616 → okc c.x c.y = true → 64 < n + popc seen → (rec seen jo c).1 = false → Fails s jo seen (nbs c) (rec seen jo c)) (hk : ∀ seen c, seen < 18446744073709551616 → okc c.x c.y = true → Kept (rec seen jo c) seen) :
    ∀ ws seen, (∀ w ∈ ws, w ∈ nbs b) → seen < 18446744073709551616 → 64 < n + 1 + popc seen → (findL rec s b ws seen jo).1 = true → Wins s jo seen b (findL rec s b ws seen jo).2.2 := by
  intro ws
  induction ws with
  | nil => intro seen _ _ _ h; cases h
  | cons w ws ih =>
    intro seen hws hs hn hf'
    unfold findL at hf' ⊢
    split
    · rename_i hc
      rw [if_pos hc] at hf'
      exact ih seen (fun x hx => hws x (by simp [hx])) hs hn hf'
    · rename_i hc
      rw [if_neg hc] at hf'
      simp only [Bool.or_eq_true, Bool.not_eq_true', not_or, Bool.not_eq_false, Bool.not_eq_true] at hc
      have hw := hasS_ok hc.1
      have hwi := idx_lt hw
      have hp := popc_add hw hc.2
      have hlt := addC_lt hs hw
      have hkk := hjo.2 (idx w) hwi
      split
      · rename_i hn'
        refine ⟨fun i hi => ?_, fun i hi => ?_, fun c => ?_, fun he => set_edg hb hc.1 (hws w (by simp)) hjo.1 he⟩
        · show gI (jo.set _ _) i = _
          rw [gI_setN (by rw [hjo.1]; exact hwi), if_neg (fun e => by rw [← e, hc.2] at hi; cases hi)]
        · show 0 ≤ gI (jo.set _ _) i
          rw [gI_setN (by rw [hjo.1]; exact hwi)]
          split
          · omega
          · exact hi
        · have := count_setI (l := jo) (x := ((idx b : Nat) : Int)) (by rw [hjo.1]; exact hwi) c
          rw [if_neg (by omega : ¬ gI jo (idx w) = (c : Int))] at this
          show (jo.set _ _).count _ = _
          split <;> split at this <;> omega
      · rename_i hn'
        rw [if_neg hn'] at hf'
        have hok : okc (cN (gI jo (idx w)).toNat).x (cN (gI jo (idx w)).toNat).y = true := cN_ok (by omega)
        have h0 := hr (addC seen w) (cN (gI jo (idx w)).toNat) hlt hok (by omega)
        have h1 := hf (addC seen w) (cN (gI jo (idx w)).toNat) hlt hok (by omega)
        have h2 := hk (addC seen w) (cN (gI jo (idx w)).toNat) hlt hok
        revert hf'
        split
        · rename_i seen2 jo2 he
          intro _
          rw [he] at h0 h2
          have h0 := h0 rfl
          have hl2 : jo2.length = 64 := h2.jo.1
          have hsame : gI jo2 (idx w) = gI jo (idx w) := h0.old _ (by rw [addC_bit]; simp)
          refine ⟨fun i hi => ?_, fun i hi => ?_, fun c => ?_, fun he => set_edg hb hc.1 (hws w (by simp)) hl2 (h0.edg he)⟩
          · show gI (jo2.set _ _) i = _
            rw [gI_setN (by rw [hl2]; exact hwi), if_neg (fun e => by rw [← e, hc.2] at hi; cases hi)]
            exact h0.old i (by rw [addC_bit, hi]; rfl)
          · show 0 ≤ gI (jo2.set _ _) i
            rw [gI_setN (by rw [hl2]; exact hwi)]
            split
            · omega
            · exact h0.pos i hi
          · have e1 := count_setI (l := jo2) (x := ((idx b : Nat) : Int)) (by rw [hl2]; exact hwi) c
            have e2 : jo2.count ((c : Nat) : Int) = jo.count ((c : Nat) : Int) + (if (gI jo (idx w)).toNat = c then 1 else 0) := by
              have := h0.cnt c
              rwa [idx_cN (by omega)] at this
            rw [hsame] at e1
            have k1 : (if gI jo (idx w) = (c : Int) then 1 else 0 : Nat) = (if (gI jo (idx w)).toNat = c then 1 else 0) := by split <;> split <;> omega
            have k2 : (if ((idx b : Nat) : Int) = (c : Int) then 1 else 0 : Nat) = (if idx b = c then 1 else 0) := by split <;> split <;> omega
            rw [k1, k2] at e1
            show (jo2.set _ _).count _ = _
            by_cases q1 : (gI jo (idx w)).toNat = c
            · rw [if_pos q1] at e1 e2
              by_cases q2 : idx b = c
              · rw [if_pos q2] at e1 ⊢; omega
              · rw [if_neg q2] at e1 ⊢; omega
            · rw [if_neg q1] at e1 e2
              by_cases q2 : idx b = c
              · rw [if_pos q2] at e1 ⊢; omega
              · rw [if_neg q2] at e1 ⊢; omega
        · rename_i seen2 jo2 he
          intro hf'
          rw [he] at h1 h2
          have h1 := h1 rfl
          have e : jo2 = jo := h1.je
          subst e
          have hpc : popc (addC seen w) ≤ popc seen2 := h2.pc
          have h3 := ih seen2 (fun x hx => hws x (by simp [hx])) h2.lt (by omega) hf'
          exact ⟨fun i hi => h3.old i (h1.sub _ (by rw [addC_bit, hi]; rfl)), h3.pos, h3.cnt, h3.edg⟩
theorem find_wins {s : Nat} {jo : List Int} (hjo : joOk jo) : ∀ n seen b, seen < 18446744073709551616 → okc b.x b.y = true → 64 < n + popc seen → (find s n seen jo b).1 = true → Wins s jo seen b (find s n seen jo b).2.2 := by
  intro n
  induction n with
  | zero => intro seen b _ _ _ h; cases h
  | succ n ih => intro seen b h1 h2 h3 h4; exact findL_wins h2 hjo (fun seen c a1 a2 a3 a4 => ih seen c a1 a2 a3 a4) (fun seen c a1 a2 a3 a4 => find_fails hjo n seen c a1 a2 a3 a4) (fun seen c a1 a2 => find_kept n seen jo c a1 hjo a2) _ _ (fun _ h => h) h1 h3 h4

theorem findL_same {rec : Nat → List Int → Cel → Bool × Nat × List Int} {s : Nat} {b : Cel} {jo : List Int} (hr : ∀ seen c, (rec seen jo c).1 = false → (rec seen jo c).2.2 = jo) : ∀ ws seen, (findL rec s b ws seen jo).1 = false → (findL rec s b ws seen jo).2.2 = jo := by
  intro ws
  induction ws with
  | nil => intro seen _; rfl
  | cons w ws ih =>
    intro seen hf
    unfold findL at hf ⊢
    split
    · rename_i hc; rw [if_pos hc] at hf; exact ih seen hf
    · rename_i hc
      rw [if_neg hc] at hf
      split
      · rename_i hn; rw [if_pos hn] at hf; cases hf
      · rename_i hn
        rw [if_neg hn] at hf
        have h1 := hr (addC seen w) (cN (gI jo (idx w)).toNat)
        revert hf
        split
        · intro hf; cases hf
        · rename_i seen2 jo2 he
          intro hf
          rw [he] at h1
          have e : jo2 = jo := h1 rfl
          subst e
          exact ih seen2 hf
theorem find_same {s : Nat} {jo : List Int} : ∀ n seen b, (find s n seen jo b).1 = false → (find s n seen jo b).2.2 = jo := by
  intro n
  induction n with
  | zero => intro seen b _; rfl
  | succ n ih => intro seen b h; exact findL_same ih _ _ h
theorem findL_ln {rec : Nat → List Int → Cel → Bool × Nat × List Int} {s : Nat} {b : Cel} (hr : ∀ seen jo c, (rec seen jo c).2.2.length = jo.length) : ∀ ws seen jo, (findL rec s b ws seen jo).2.2.length = jo.length := by
  intro ws
  induction ws with
  | nil => intro seen jo; rfl
  | cons w ws ih =>
    intro seen jo
    unfold findL
    split
    · exact ih seen jo
    · split
      · simp
      · have h1 := hr (addC seen w) jo (cN (gI jo (idx w)).toNat)
        split
        · rename_i he; rw [he] at h1; simpa using h1
        · rename_i he; rw [he] at h1; rw [ih]; exact h1
theorem find_ln {s : Nat} : ∀ n seen jo b, (find s n seen jo b).2.2.length = jo.length := by
  intro n
  induction n with
  | zero => intro seen jo b; rfl
  | succ n ih => intro seen jo b; exact findL_ln ih _ _ _
theorem find_keeps {s : Nat} {C : Nat → Prop} {jo : List Int} (hl : jo.length = 64) (hC : Clo s jo C) : ∀ n seen b, ∀ i, C i → gI (find s n seen jo b).2.2 i = gI jo i := by
  intro n
  induction n with
  | zero => intro seen b i _; rfl
  | succ n ih => intro seen b; exact findL_keeps hl hC (fun seen b h => (find_clo hC n seen b h).1) (fun seen b h => find_same n seen b h) ih (fun seen b => by rw [find_ln]; exact hl) _ _
/-- the joined cells after some black ones -/
structure MI (s : Nat) (L : List Cel) (jo : List Int) (F : List Cel) (C : Nat → Prop) : Prop where
  jok : joOk jo
  edg : Edg s jo
  clo : Clo s jo C
  inC : ∀ i, C i → i < 64
  fsub : ∀ b ∈ F, b ∈ L
  fn : F.Nodup
  fcl : ∀ b ∈ F, NbIn s b C
  cnt : ∀ c : Nat, jo.count (c : Int) = if ∃ b ∈ L, b ∉ F ∧ idx b = c then 1 else 0
theorem MI.zero (s : Nat) : MI s [] jo0 [] (fun _ => False) := by
  refine ⟨jo0_ok, fun i hi h => ?_, fun i h => h.elim, fun i h => h.elim, by simp, by simp, by simp, fun c => ?_⟩
  · have e : gI jo0 i = -1 := by rw [gI_eq (by simpa [jo0] using hi)]; simp only [jo0, List.getElem_replicate]
    omega
  · rw [if_neg (by simp)]
    unfold jo0
    rw [List.count_replicate, if_neg (by simp)]
theorem MI.step {s : Nat} {L : List Cel} {jo : List Int} {F : List Cel} {C : Nat → Prop} (h : MI s L jo F C) {b : Cel} (hb : okc b.x b.y = true) (hL : ∀ c ∈ L, okc c.x c.y = true) (hn : b ∉ L) : ∃ F' C', MI s (L ++ [b]) (find s 65 0 jo b).2.2 F' C' := by
  have hk := find_kept (s := s) 65 0 jo b (by decide) h.jok hb
  have hp0 : popc 0 = 0 := by decide
  rcases Bool.eq_false_or_eq_true (find s 65 0 jo b).1 with hr | hr
  · have hw := find_wins h.jok 65 0 b (by decide) hb (by omega) hr
    refine ⟨F, C, hk.jo, hw.edg h.edg, fun i hi => ?_, h.inC, fun c hc => by simp [h.fsub c hc], h.fn, h.fcl, fun c => ?_⟩
    · rw [find_keeps h.jok.1 h.clo 65 0 b i hi]; exact h.clo i hi
    · rw [hw.cnt, h.cnt]
      by_cases e : idx b = c
      · rw [if_pos e, if_neg, if_pos ⟨b, by simp, fun hf => hn (h.fsub b hf), e⟩]
        rintro ⟨b', hb', _, he⟩
        exact hn (idx_inj hb (hL b' hb') (by rw [e, he]) ▸ hb')
      · rw [if_neg e]
        have : (∃ b' ∈ L ++ [b], b' ∉ F ∧ idx b' = c) ↔ (∃ b' ∈ L, b' ∉ F ∧ idx b' = c) := by
          constructor
          · rintro ⟨b', hb', h1, h2⟩
            rcases List.mem_append.1 hb' with h3 | h3
            · exact ⟨b', h3, h1, h2⟩
            · simp at h3; subst h3; exact absurd h2 e
          · rintro ⟨b', hb', h1, h2⟩; exact ⟨b', by simp [hb'], h1, h2⟩
        simp only [this]; omega
  · have hf := find_fails h.jok 65 0 b (by decide) hb (by omega) hr
    have hjo := hf.je
    refine ⟨F ++ [b], fun i => C i ∨ (find s 65 0 jo b).2.1.testBit i = true, hk.jo, by rw [hjo]; exact h.edg, fun i hi => ?_, fun i hi => ?_, fun c hc => ?_, ?_, fun c hc => ?_, fun c => ?_⟩
    · rw [hjo]
      rcases hi with hi | hi
      · exact ⟨(h.clo i hi).1, (h.clo i hi).2.mono fun _ q => .inl q⟩
      · rcases hf.new i hi with h1 | ⟨h1, h2, _⟩
        · rw [Nat.zero_testBit] at h1; cases h1
        · exact ⟨h1, h2.mono fun _ q => .inr q⟩
    · rcases hi with hi | hi
      · exact h.inC i hi
      · rcases Nat.lt_or_ge i 64 with h1 | h1
        · exact h1
        · rw [bit_hi hk.lt h1] at hi; cases hi
    · rcases List.mem_append.1 hc with h1 | h1
      · simp [h.fsub c h1]
      · simp at h1; simp [h1]
    · refine List.nodup_append.2 ⟨h.fn, by simp, fun a ha c hc e => ?_⟩
      simp at hc; subst hc; subst e; exact hn (h.fsub _ ha)
    · rcases List.mem_append.1 hc with h1 | h1
      · exact (h.fcl c h1).mono fun _ q => .inl q
      · simp at h1; subst h1; exact fun w hw hh => .inr (hf.all w hw hh)
    · rw [hjo, h.cnt]
      have : (∃ b' ∈ L ++ [b], b' ∉ F ++ [b] ∧ idx b' = c) ↔ (∃ b' ∈ L, b' ∉ F ∧ idx b' = c) := by
        constructor
        · rintro ⟨b', hb', h1, h2⟩
          simp only [List.mem_append, List.mem_singleton, not_or] at hb' h1
          rcases hb' with h3 | h3
          · exact ⟨b', h3, h1.1, h2⟩
          · exact absurd h3 h1.2
        · rintro ⟨b', hb', h1, h2⟩
          refine ⟨b', by simp [hb'], ?_, h2⟩
          simp only [List.mem_append, List.mem_singleton, not_or]
          exact ⟨h1, fun e => hn (e ▸ hb')⟩
      simp only [this]
theorem MI.all {s : Nat} : ∀ (X L : List Cel) (jo : List Int) (F : List Cel) (C : Nat → Prop), MI s L jo F C → (∀ c ∈ L ++ X.filter black, okc c.x c.y = true) → (L ++ X.filter black).Nodup → ∃ F' C', MI s (L ++ X.filter black) (X.foldl (joStep s) jo) F' C' := by
  intro X
  induction X with
  | nil => intro L jo F C h _ _; exact ⟨F, C, by simpa using h⟩
  | cons b X ih =>
    intro L jo F C h ho hn
    rw [List.foldl_cons]
    rw [List.filter_cons] at ho hn ⊢
    by_cases hb : black b = true
    · rw [if_pos hb] at ho hn ⊢
      have ej : joStep s jo b = (find s 65 0 jo b).2.2 := by unfold joStep; rw [if_pos hb]
      rw [ej]
      have hbL : b ∉ L := fun e => by
        have := (List.nodup_append.1 hn).2.2 b e b (by simp)
        exact this rfl
      obtain ⟨F', C', h'⟩ := h.step (ho b (by simp)) (fun c hc => ho c (by simp [hc])) hbL
      have e2 : L ++ b :: X.filter black = (L ++ [b]) ++ X.filter black := by simp
      rw [e2] at ho hn ⊢
      exact ih (L ++ [b]) _ F' C' h' ho hn
    · rw [if_neg hb] at ho hn ⊢
      have ej : joStep s jo b = jo := by unfold joStep; rw [if_neg hb]
      rw [ej]
      exact ih L jo F C h ho hn
def blk (s : Nat) : List Cel := (setCells s).filter black
theorem setC_nodup (s : Nat) : (setCells s).Nodup := by
  refine List.pairwise_iff_getElem.2 fun i j hi hj hij e => ?_
  have h1 := setCells_lt (s := s) hij hj
  rw [gC_eq hi, gC_eq hj, e] at h1
  omega
theorem joined_MI (s : Nat) : ∃ F C, MI s (blk s) (joined s) F C := by
  have := MI.all (s := s) (setCells s) [] jo0 [] (fun _ => False) (MI.zero s) (fun c hc => by
    simp only [List.nil_append] at hc
    exact hasS_ok (set_mem.1 (List.mem_filter.1 hc).1)) (by rw [List.nil_append]; exact (setC_nodup s).filter _)
  rw [List.nil_append] at this
  exact this


end Cl
end Go.Proofs.Ytjgjeflidcembaa
