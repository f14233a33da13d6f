
/- The rules of control, of loops, of calls and of whole functions, over clean states. -/
import Derived.Test.YtgmckbchcpfhcaaCl7
namespace Go.Proofs.Ytgmckbchcpfhcaa
namespace Cl
open Go.ChangeShapes Go.WideShapes Go.ChangeAt Go.RowKit

def thenK (n : St → Prop) (K : Exit → St → Prop) : Exit → St → Prop
  | .normal, σ => n σ
  | e, σ => K e σ
def blockK (id : Nat) (K : Exit → St → Prop) : Exit → St → Prop
  | .exit id', σ => bif Nat.beq id' id then K .normal σ else K (.exit id') σ
  | e, σ => K e σ
section
variable {Γ : Cx} {K : Exit → St → Prop} {σ : St}
theorem wp_seq' {x y : Code} (h : Wp Γ x (thenK (fun σ => Wp Γ y K σ) K) σ) : Wp Γ (.seq x y) K σ := by
  intro a w hs
  refine wp_seq (wp_mono (h a w hs) fun e a' w' hq => ?_)
  obtain ⟨σ', hs', hk⟩ := hq
  cases e <;> first | exact hk a' w' hs' | exact ⟨σ', hs', hk⟩
theorem wp_block' {id : Nat} {c : Code} (h : Wp Γ c (blockK id K) σ) : Wp Γ (.block id c) K σ := by
  intro a w hs
  refine wp_block (wp_mono (h a w hs) fun e a' w' hq => ?_)
  obtain ⟨σ', hs', hk⟩ := hq
  cases e with
  | exit id' =>
    simp only [blockK] at hk
    simp only [Exit.inBlock]
    by_cases e : id' = id
    · subst e
      rw [if_pos rfl]
      have : Nat.beq id' id' = true := by simp
      rw [this] at hk; exact ⟨σ', hs', hk⟩
    · rw [if_neg e]
      have : Nat.beq id' id = false := by
        rcases Bool.eq_false_or_eq_true (Nat.beq id' id) with h | h
        · exact absurd (Nat.eq_of_beq_eq_true h) e
        · exact h
      rw [this] at hk; exact ⟨σ', hs', hk⟩
  | _ => exact ⟨σ', hs', hk⟩
theorem wp_exit' {id : Nat} (h : K (.exit id) σ) : Wp Γ (.exit id) K σ := fun _ _ hs => wp_exit ⟨σ, hs, h⟩
theorem wp_ret' (h : K .ret σ) : Wp Γ .ret K σ := fun _ _ hs => wp_ret ⟨σ, hs, h⟩
theorem wp_skip' (h : K .normal σ) : Wp Γ .skip K σ := fun _ _ hs => wp_skip ⟨σ, hs, h⟩
theorem wp_if {t : Nat} {x y : Code} (b : Bool) (hb : get σ (.s t) = some (.s (V.v (.bool b)))) (ht : b = true → Wp Γ x K σ) (hf : b = false → Wp Γ y K σ) : Wp Γ (.cond (.tmp t) x y) K σ := by
  intro a w hs
  obtain ⟨ρ, I, h⟩ := hs
  have he : a.eval (.tmp t) = .bool b := h.sl t _ hb
  exact wp_cond_split he (fun e => ht e a w ⟨ρ, I, h⟩) (fun e => hf e a w ⟨ρ, I, h⟩)
theorem wp_if_t {t : Nat} {x y : Code} (hb : get σ (.s t) = some (.s (V.v (.bool true)))) (ht : Wp Γ x K σ) : Wp Γ (.cond (.tmp t) x y) K σ := wp_if true hb (fun _ => ht) (fun h => by cases h)
theorem wp_if_f {t : Nat} {x y : Code} (hb : get σ (.s t) = some (.s (V.v (.bool false)))) (hf : Wp Γ y K σ) : Wp Γ (.cond (.tmp t) x y) K σ := wp_if false hb (fun h => by cases h) (fun _ => hf)
def Weak (Γ : Cx) (σ τ : St) : Prop := ∀ a w, Sats Γ σ a w → Sats Γ τ a w
theorem wp_weak {c : Code} {τ : St} (h : Weak Γ σ τ) (hw : Wp Γ c K τ) : Wp Γ c K σ := fun a w hs => hw a w (h a w hs)
theorem wp_loop' {c : Code} {α : Type} (inv : α → Prop) (head : α → St) (μ : α → Nat) (x0 : α) (h0 : inv x0) (hσ : Weak Γ σ (head x0))
    (round : ∀ x, inv x → Wp Γ c (thenK (fun σ' => ∃ y, inv y ∧ μ y < μ x ∧ Weak Γ σ' (head y)) K) (head x)) : Wp Γ (.loop c) K σ := by
  classical
  intro a w hs
  let Pn : Act → World → Nat → Prop := fun a w n => ∃ x, inv x ∧ Sats Γ (head x) a w ∧ μ x = n
  let M : Act → World → Nat := fun a w => if h : ∃ n, Pn a w n then Classical.choose (show ∃ n, Pn a w n ∧ ∀ m, Pn a w m → n ≤ m from by
    obtain ⟨n, hn⟩ := h
    induction n using Nat.strongRecOn with
    | _ n ih =>
      by_cases hm : ∃ m, m < n ∧ Pn a w m
      · obtain ⟨m, hm, hp⟩ := hm; exact ih m hm hp
      · exact ⟨n, hn, fun m hp => Nat.le_of_not_lt fun hlt => hm ⟨m, hlt, hp⟩⟩) else 0
  have hM : ∀ a w, (∃ n, Pn a w n) → Pn a w (M a w) ∧ ∀ m, Pn a w m → M a w ≤ m := fun a w h => by
    simp only [M, dif_pos h]
    exact Classical.choose_spec (p := fun n => Pn a w n ∧ ∀ m, Pn a w m → n ≤ m) _
  refine wp_loop (fun a w => ∃ n, Pn a w n) M ⟨_, x0, h0, hσ a w hs, rfl⟩ fun a w hI => ?_
  obtain ⟨⟨x, hx, hsx, hmx⟩, _⟩ := hM a w hI
  refine wp_mono (round x hx a w hsx) fun e a' w' hq => ?_
  obtain ⟨σ', hs', hk⟩ := hq
  cases e with
  | normal =>
    obtain ⟨y, hy, hlt, hwk⟩ := hk
    have hp : Pn a' w' (μ y) := ⟨y, hy, hwk a' w' hs', rfl⟩
    have := (hM a' w' ⟨_, hp⟩).2 _ hp
    exact ⟨⟨_, hp⟩, by omega⟩
  | _ => exact ⟨σ', hs', hk⟩
end

/-! names anew -/
def A.ren (π : Nat → Nat) : A → A
  | .sl h off n => .sl (π h) off n
  | .ptr h off => .ptr (π h) off
  | .fn f caps => .fn f (caps.map π)
  | x => x
def A.avd (F : List Nat) : A → Bool
  | .sl h _ _ => !F.contains h
  | .ptr h _ => !F.contains h
  | .fn _ caps => caps.all fun h => !F.contains h
  | _ => true
def B.ren (π : Nat → Nat) : B → B
  | .a x => .a (x.ren π)
  | .agg xs => .agg (xs.map (A.ren π))
def B.avd (F : List Nat) : B → Bool
  | .a x => x.avd F
  | .agg xs => xs.all (A.avd F)
def V.ren (π : Nat → Nat) : V → V
  | .b x => .b (x.ren π)
  | .tup xs => .tup (xs.map (B.ren π))
def V.avd (F : List Nat) : V → Bool
  | .b x => x.avd F
  | .tup xs => xs.all (B.avd F)
theorem RelA.ren {π : Nat → Nat} {F : List Nat} {ρ : Nat → Option Place} {I : Nat → Prop} {w : World} {x : A} {u : Value} (h : RelA ρ I w (x.ren π) u) (hF : x.avd F = true) :
    RelA (fun h => if F.contains h then none else ρ (π h)) I w x u := by
  cases x with
  | sl h0 off n => obtain ⟨p, A0, hp, r⟩ := h; simp only [A.avd, Bool.not_eq_true'] at hF; exact ⟨p, A0, by simp only [hF]; exact hp, r⟩
  | ptr h0 off => obtain ⟨p, hp, r⟩ := h; simp only [A.avd, Bool.not_eq_true'] at hF; exact ⟨p, by simp only [hF]; exact hp, r⟩
  | fn f caps =>
    obtain ⟨vs, e, hl, hx⟩ := h
    refine ⟨vs, e, by simpa using hl, fun j h hj => ?_⟩
    obtain ⟨p, hp, hv⟩ := hx j (π h) (by simp [hj])
    simp only [A.avd, List.all_eq_true, Bool.not_eq_true'] at hF
    exact ⟨p, by simp only [hF h (List.mem_of_getElem? hj)]; exact hp, hv⟩
  | _ => exact h
theorem RelB.ren {π : Nat → Nat} {F : List Nat} {ρ : Nat → Option Place} {I : Nat → Prop} {w : World} {x : B} {u : Value} (h : RelB ρ I w (x.ren π) u) (hF : x.avd F = true) :
    RelB (fun h => if F.contains h then none else ρ (π h)) I w x u := by
  cases x with
  | a x => exact RelA.ren h hF
  | agg xs =>
    obtain ⟨cs, e, hl, hx⟩ := h
    simp only [B.avd, List.all_eq_true] at hF
    exact ⟨cs, e, by simpa using hl, fun j x c h1 h2 => RelA.ren (hx j _ c (by simp [h1]) h2) (hF x (List.mem_of_getElem? h1))⟩
theorem RelV.ren {π : Nat → Nat} {F : List Nat} {ρ : Nat → Option Place} {I : Nat → Prop} {w : World} {x : V} {u : Value} (h : RelV ρ I w (x.ren π) u) (hF : x.avd F = true) :
    RelV (fun h => if F.contains h then none else ρ (π h)) I w x u := by
  cases x with
  | b x => exact RelB.ren h hF
  | tup xs =>
    obtain ⟨cs, e, hl, hx⟩ := h
    simp only [V.avd, List.all_eq_true] at hF
    exact ⟨cs, e, by simpa using hl, fun j x c h1 h2 => RelB.ren (hx j _ c (by simp [h1]) h2) (hF x (List.mem_of_getElem? h1))⟩
def RenOb (π : Nat → Nat) (F : List Nat) (o o' : Ob) : Prop :=
  o'.T = o.T ∧ o'.s = o.s ∧ (o.ex = true → o'.ex = true) ∧ o'.cells = o.cells.map (A.ren π) ∧ ∀ x ∈ o.cells, x.avd F = true
theorem renob_pl {π : Nat → Nat} {F : List Nat} {T s : Nat} {ex ex' : Bool} {xs : List Value} (h : ex = true → ex' = true) : RenOb π F ⟨T, s, ex, pl xs⟩ ⟨T, s, ex', pl xs⟩ := by
  refine ⟨rfl, rfl, h, ?_, fun x hx => ?_⟩
  · simp only [pl, List.map_map]; exact List.map_congr_left fun _ _ => rfl
  · simp only [pl, List.mem_map] at hx; obtain ⟨v, _, rfl⟩ := hx; rfl
theorem renob_l {π : Nat → Nat} {F : List Nat} {T s : Nat} {ex ex' : Bool} {xs ys : List A} (h : ex = true → ex' = true) (h1 : xs.map (A.ren π) = ys) (h2 : xs.all (A.avd F) = true) : RenOb π F ⟨T, s, ex, xs⟩ ⟨T, s, ex', ys⟩ := by
  subst h1
  exact ⟨rfl, rfl, h, rfl, fun x hx => List.all_eq_true.1 h2 x hx⟩
def Wk (σ : St) (π : Nat → Nat) (F : List Nat) : St → Prop
  | [] => True
  | (.s k, some (.s v)) :: r => (∃ v', get σ (.s k) = some (.s v') ∧ v.ren π = v' ∧ v.avd F = true) ∧ Wk σ π F r
  | (.o h, some (.o o)) :: r => (∃ o', get σ (.o (π h)) = some (.o o') ∧ RenOb π F o o' ∧ F.contains h = false) ∧ Wk σ π F r
  | (.o h, some .free) :: r => F.contains h = true ∧ Wk σ π F r
  | _ :: r => Wk σ π F r
def objs : St → List Nat
  | [] => []
  | (.o h, some (.o _)) :: r => h :: objs r
  | _ :: r => objs r
def injOn (π : Nat → Nat) : List Nat → Bool
  | [] => true
  | h :: r => (r.all fun h' => Nat.beq h' h || !(Nat.beq (π h') (π h))) && injOn π r
theorem injOn_spec {π : Nat → Nat} {l : List Nat} (h : injOn π l = true) {x y : Nat} (hx : x ∈ l) (hy : y ∈ l) (e : π x = π y) : x = y := by
  induction l with
  | nil => cases hx
  | cons a l ih =>
    simp only [injOn, Bool.and_eq_true, List.all_eq_true, Bool.or_eq_true, Bool.not_eq_true'] at h
    obtain ⟨h1, h2⟩ := h
    rcases List.mem_cons.1 hx with ex | hx' <;> rcases List.mem_cons.1 hy with ey | hy'
    · rw [ex, ey]
    · rcases h1 y hy' with h | h
      · rw [ex]; exact (Nat.eq_of_beq_eq_true h).symm
      · rw [← e, ex] at h; simp at h
    · rcases h1 x hx' with h | h
      · rw [ey]; exact Nat.eq_of_beq_eq_true h
      · rw [e, ey] at h; simp at h
    · exact ih h2 hx' hy'
theorem Wk.slot {σ : St} {π : Nat → Nat} {F : List Nat} {τ : St} (h : Wk σ π F τ) {k : Nat} {v : V} (hk : get τ (.s k) = some (.s v)) : ∃ v', get σ (.s k) = some (.s v') ∧ v.ren π = v' ∧ v.avd F = true := by
  induction τ with
  | nil => cases hk
  | cons a τ ih =>
    obtain ⟨k', c⟩ := a
    simp only [get] at hk
    rcases Bool.eq_false_or_eq_true (Key.eq k' (.s k)) with e | e <;> rw [e] at hk
    · obtain rfl := Key.eq_iff.1 e
      simp only [cond_true] at hk
      subst hk
      exact h.1
    · simp only [cond_false] at hk
      refine ih ?_ hk
      match k', c, h with
      | .s _, some (.s _), h => exact h.2
      | .s _, some (.o _), h => exact h
      | .s _, some .free, h => exact h
      | .s _, none, h => exact h
      | .o _, some (.s _), h => exact h
      | .o _, some (.o _), h => exact h.2
      | .o _, some .free, h => exact h.2
      | .o _, none, h => exact h
theorem Wk.obj {σ : St} {π : Nat → Nat} {F : List Nat} {τ : St} (h : Wk σ π F τ) {y : Nat} {o : Ob} (hk : get τ (.o y) = some (.o o)) : (∃ o', get σ (.o (π y)) = some (.o o') ∧ RenOb π F o o' ∧ F.contains y = false) ∧ y ∈ objs τ := by
  induction τ with
  | nil => cases hk
  | cons a τ ih =>
    obtain ⟨k', c⟩ := a
    simp only [get] at hk
    rcases Bool.eq_false_or_eq_true (Key.eq k' (.o y)) with e | e <;> rw [e] at hk
    · obtain rfl := Key.eq_iff.1 e
      simp only [cond_true] at hk
      subst hk
      exact ⟨h.1, by simp [objs]⟩
    · simp only [cond_false] at hk
      have hr : Wk σ π F τ := by
        match k', c, h with
        | .s _, some (.s _), h => exact h.2
        | .s _, some (.o _), h => exact h
        | .s _, some .free, h => exact h
        | .s _, none, h => exact h
        | .o _, some (.s _), h => exact h
        | .o _, some (.o _), h => exact h.2
        | .o _, some .free, h => exact h.2
        | .o _, none, h => exact h
      obtain ⟨h1, h2⟩ := ih hr hk
      refine ⟨h1, ?_⟩
      match k', c with
      | .s _, some (.s _) => exact h2
      | .s _, some (.o _) => exact h2
      | .s _, some .free => exact h2
      | .s _, none => exact h2
      | .o _, some (.s _) => exact h2
      | .o _, some (.o _) => exact List.mem_cons_of_mem _ h2
      | .o _, some .free => exact h2
      | .o _, none => exact h2
theorem Wk.free {σ : St} {π : Nat → Nat} {F : List Nat} {τ : St} (h : Wk σ π F τ) {y : Nat} (hk : get τ (.o y) = some .free) : F.contains y = true := by
  induction τ with
  | nil => cases hk
  | cons a τ ih =>
    obtain ⟨k', c⟩ := a
    simp only [get] at hk
    rcases Bool.eq_false_or_eq_true (Key.eq k' (.o y)) with e | e <;> rw [e] at hk
    · obtain rfl := Key.eq_iff.1 e
      simp only [cond_true] at hk
      subst hk
      exact h.1
    · simp only [cond_false] at hk
      refine ih ?_ hk
      match k', c, h with
      | .s _, some (.s _), h => exact h.2
      | .s _, some (.o _), h => exact h
      | .s _, some .free, h => exact h
      | .s _, none, h => exact h
      | .o _, some (.s _), h => exact h
      | .o _, some (.o _), h => exact h.2
      | .o _, some .free, h => exact h.2
      | .o _, none, h => exact h
def okw (keep : List Nat) (π : Nat → Nat) (F : List Nat) : Bool := keep.all fun h => Nat.beq (π h) h && !F.contains h
theorem weak_of {Γ : Cx} {σ τ : St} (π : Nat → Nat) (F : List Nat) (hi : injOn π (objs τ) = true) (h : Wk σ π F τ) (hx : okw Γ.keep π F = true := by kernel_rfl) : Weak Γ σ τ := by
  intro a w ⟨ρ, I, hs⟩
  refine ⟨fun h => if F.contains h then none else ρ (π h), I, hs.n, hs.d, fun k x h' hk hg hh => ?_, ⟨fun y hy => ?_, hs.kp.2⟩, fun k v hk => ?_, ?_⟩
  · obtain ⟨v', h1, h2, h3⟩ := h.slot hg
    subst h2
    have hc : F.contains h' = false ∧ (x.ren π).hd (π h') := by
      cases x with
      | sl a b c => obtain ⟨rfl, hp⟩ := (show a = h' ∧ 0 < c from hh); exact ⟨by simpa [V.avd, B.avd, A.avd] using h3, rfl, hp⟩
      | ptr a b => obtain rfl := (show a = h' from hh); exact ⟨by simpa [V.avd, B.avd, A.avd] using h3, rfl⟩
      | _ => exact (show False from hh).elim
    obtain ⟨q, e1, e2⟩ := hs.fx k (x.ren π) (π h') hk h1 hc.2
    exact ⟨q, e1, by simp only [hc.1]; exact e2⟩
  · obtain ⟨q, e1, e2⟩ := hs.kp.1 y hy
    unfold okw at hx
    rw [List.all_eq_true] at hx
    have h2 := hx y hy
    simp only [Bool.and_eq_true, Nat.beq_eq_true_eq, Bool.not_eq_true'] at h2
    have h3 : π y = y := Nat.eq_of_beq_eq_true (by simpa using h2.1)
    exact ⟨q, e1, by simp only [h2.2, Bool.false_eq_true, if_false]; rw [h3]; exact e2⟩
  · obtain ⟨v', h1, h2, h3⟩ := h.slot hk
    subst h2
    exact RelV.ren (hs.sl k _ h1) h3
  · have hob : ∀ y o, get τ (.o y) = some (.o o) → ∃ o', get σ (.o (π y)) = some (.o o') ∧ RenOb π F o o' ∧ (if F.contains y then none else ρ (π y)) = ρ (π y) := fun y o hy => by
      obtain ⟨⟨o', h1, h2, h3⟩, _⟩ := h.obj hy
      exact ⟨o', h1, h2, by rw [h3]; rfl⟩
    have hin : ∀ {y j T n s xs b cap}, RowIn τ w (fun h => if F.contains h then none else ρ (π h)) y j T n s xs b cap → RowIn σ w ρ (π y) j T n s xs b cap := by
      rintro y j T n s xs b cap ⟨o1, p1, h1, h2, h3, h4, h5⟩
      obtain ⟨o', q1, ⟨_, _, _, q2, _⟩, q3⟩ := hob y o1 h1
      exact ⟨o', p1, q1, q3.symm.trans h2, h3, by rw [q2, List.getElem?_map, h4]; rfl, h5⟩
    have hrw : Rws τ w (fun h => if F.contains h then none else ρ (π h)) I := by
      refine hs.m.rs.map (fun y j => (π y, j)) hin (fun {y j _ _ _ _ _ _ y' j' _ _ _ _ _} hr hr' e => ?_) (fun hr => ⟨rfl, (hs.m.rs.ok hr).ni, (hs.m.rs.ok hr).lt⟩) fun hr h1 h2 h3 => ?_
      · injection e with e1 e2
        obtain ⟨o1, _, g1, _⟩ := hr
        obtain ⟨o2, _, g2, _⟩ := hr'
        exact ⟨injOn_spec hi (h.obj g2).2 (h.obj g1).2 e1, e2⟩
      · obtain ⟨o', q1, _, q3⟩ := hob _ _ h1
        exact hs.m.rs.sep hr q1 (q3.symm.trans h2) h3
    refine ⟨fun y o hy => ?_, fun y hy => by simp only [h.free hy, if_true], fun y p o hy hp hn => ?_, fun y z p p' o o' hy hz hp hp' hn hn' hb => ?_, hs.m.im, hrw, fun hr => hs.m.rp (hin hr), hs.m.fm⟩
    · obtain ⟨o', h1, ⟨r1, r2, r3, r4, r5⟩, h3⟩ := hob y o hy
      obtain ⟨p, hp, q1, q2, q3, qz, q4⟩ := hs.m.ow _ _ h1
      refine ⟨p, h3.trans hp, by rw [q1, r2], ?_, fun e => q3 (r3 e), qz, fun hn => ?_⟩
      · rw [r4, List.length_map] at q2; exact q2
      · obtain ⟨cur, c1, c2, c3, c4⟩ := q4 hn
        refine ⟨cur, by rw [← r1]; exact c1, c2, fun e => c3 (r3 e), fun j x hj => ?_⟩
        obtain ⟨u, hu, hr⟩ := c4 j (x.ren π) (by rw [r4]; simp [hj])
        exact ⟨u, hu, RelA.ren hr (r5 x (List.mem_of_getElem? hj))⟩
    · obtain ⟨o', h1, _, h3⟩ := hob y o hy
      replace hp := h3.symm.trans hp
      exact hs.m.pl _ p o' h1 hp hn
    · obtain ⟨o1, h1, _, h3⟩ := hob y o hy
      obtain ⟨o2, h4, _, h6⟩ := hob z o' hz
      replace hp := h3.symm.trans hp; replace hp' := h6.symm.trans hp'
      exact injOn_spec hi (h.obj hy).2 (h.obj hz).2 (hs.m.inj _ _ p p' o1 o2 h1 h4 hp hp' hn hn' hb)
end Cl
end Go.Proofs.Ytgmckbchcpfhcaa
