
/- Rows of rows: a cell that owns its row's block; packing, unpacking, reading. -/
import Derived.Test.YtgmckbchcpfhcaaCl19
namespace Go.Proofs.Ytgmckbchcpfhcaa
namespace Cl
open Go.ChangeShapes Go.WideShapes Go.ChangeAt Go.RowKit

def rwI (T : Nat) (L : List (List Int)) : List A := L.map fun r => .row T r.length 1 (isl r)
def rwD (T : Nat) (L : List (List Dom)) : List A := L.map fun r => .row T r.length 3 (dsl r)
def vwI (L : List (List Int)) : List (Nat × List Value) := L.map fun r => (r.length, isl r)
def vwD (L : List (List Dom)) : List (Nat × List Value) := L.map fun r => (r.length, dsl r)
/-- a row of an own variable goes into a cell -/
theorem Sat.pack {Γ : Cx} {σ : St} {a : Act} {w : World} {ρ : Nat → Option Place} {I : Nat → Prop} (hs : Sat Γ σ a w ρ I) {h h1 j n T s T0 s0 : Nat} {ex0 : Bool} {cs : List A} {xs : List Value} (ho : get σ (.o h) = some (.o ⟨T0, s0, ex0, cs⟩)) (ho1 : get σ (.o h1) = some (.o ⟨T, s, true, pl xs⟩)) (hne : h ≠ h1)
    (hj : cs[j]? = some (.sl h1 0 n)) (hl : xs.length = n * s) : Sat Γ ((.o h, some (.o ⟨T0, s0, ex0, cs.set j (.row T n s xs)⟩)) :: (.o h1, none) :: σ) a w ρ I := by
  have hjl : j < cs.length := (List.getElem?_eq_some_iff.1 hj).1
  have hgs : ∀ k, get ((Key.o h, some (Cell.o ⟨T0, s0, ex0, cs.set j (.row T n s xs)⟩)) :: (Key.o h1, none) :: σ) (.s k) = get σ (.s k) := fun k => by rw [get_cons_ne rfl, get_cons_ne rfl]
  have hgh : get ((Key.o h, some (Cell.o ⟨T0, s0, ex0, cs.set j (.row T n s xs)⟩)) :: (Key.o h1, none) :: σ) (.o h) = some (.o ⟨T0, s0, ex0, cs.set j (.row T n s xs)⟩) := get_cons_eq
  have hgo : ∀ y c, y ≠ h → get ((Key.o h, some (Cell.o ⟨T0, s0, ex0, cs.set j (.row T n s xs)⟩)) :: (Key.o h1, none) :: σ) (.o y) = some c → y ≠ h1 ∧ get σ (.o y) = some c := fun y c hy hc => by
    rw [get_cons_ne (key_neo (fun e => hy e.symm))] at hc
    exact Sat.get_kill hc
  obtain ⟨p1, hp1, s1, l1, x1, z1, c1⟩ := hs.m.ow h1 _ ho1
  obtain ⟨px, pb, pm⟩ := x1 rfl
  have hback : ∀ y o, get ((Key.o h, some (Cell.o ⟨T0, s0, ex0, cs.set j (.row T n s xs)⟩)) :: (Key.o h1, none) :: σ) (.o y) = some (.o o) → y ≠ h1 ∧ ∃ o', get σ (.o y) = some (.o o') := fun y o hy => by
    by_cases e : y = h
    · subst e; exact ⟨hne, _, ho⟩
    · obtain ⟨q1, q2⟩ := hgo y _ e hy
      exact ⟨q1, o, q2⟩
  obtain ⟨p, cur, hp, hps, hcl, hlv, hg, hsz, _, hc⟩ := own_pos (hs.m.ow h _ ho) hjl
  obtain ⟨u, hu, p1', A0, hp1', he, hcap, hA⟩ := hc j _ hj
  rw [hp1] at hp1'; injection hp1' with hp1'; subst hp1'
  have hA' := hA (.inl ⟨px, rfl⟩)
  have hval : u = .slice ((if p1.live then some p1.block else none : Option Nat).map fun b => ⟨b, 0, none⟩) n p1.cap := by
    rw [he, hA', pb]
    cases p1.live <;> simp
  have hin : ∀ {y i T' n' s' ys b cap}, RowIn ((Key.o h, some (Cell.o ⟨T0, s0, ex0, cs.set j (.row T n s xs)⟩)) :: (Key.o h1, none) :: σ) w ρ y i T' n' s' ys b cap →
      (y = h ∧ i = j ∧ p1.live = true ∧ b = p1.block ∧ cap = p1.cap ∧ T' = T ∧ n' = n ∧ s' = s ∧ ys = xs) ∨ (¬ (y = h ∧ i = j) ∧ RowIn σ w ρ y i T' n' s' ys b cap) := by
    rintro y i T' n' s' ys b cap ⟨o, q, g1, g2, g3, g4, g5⟩
    by_cases e : y = h
    · subst e
      rw [hgh] at g1; injection g1 with g1; injection g1 with g1; subst g1
      rw [hp] at g2; injection g2 with g2; subst g2
      by_cases ei : i = j
      · subst ei
        rw [List.getElem?_set_self hjl] at g4
        injection g4 with g4; injection g4 with e1 e2 e3 e4
        have hcv : w.cell? ⟨p.block, p.base + i, none⟩ = some u := by simp only [World.cell?, hg]; exact hu
        rw [hcv, hval] at g5
        injection g5 with g5; injection g5 with f1 f2 f3
        cases hlv1 : p1.live with
        | false => rw [hlv1] at f1; simp at f1
        | true =>
          rw [hlv1] at f1; simp only [if_true, Option.map_some, Option.some.injEq, Addr.mk.injEq] at f1
          exact .inl ⟨rfl, rfl, rfl, f1.1.symm, f3.symm, e1.symm, e2.symm, e3.symm, e4.symm⟩
      · rw [List.getElem?_set_ne (fun e => ei e.symm)] at g4
        exact .inr ⟨fun e => ei e.2, _, p, ho, hp, hlv, g4, g5⟩
    · obtain ⟨q1, q2⟩ := hgo y _ e g1
      exact .inr ⟨fun e2 => e e2.1, o, q, q2, g2, g3, g4, g5⟩
  have hpl : p1.live = true → ¬ I p1.block ∧ (Γ.own p1.block ∨ Γ.W.heap.size ≤ p1.block) ∧ p1.block < w.heap.size := fun hl1 => hs.m.pl h1 p1 _ ho1 hp1 hl1
  refine ⟨hs.n, hs.d, fun k x h' hk hg' hh => hs.fx k x h' hk ((hgs k) ▸ hg') hh, hs.kp, fun k v hk => hs.sl k v ((hgs k) ▸ hk), ?_⟩
  refine ⟨fun y o hy => ?_, fun y hy => ?_, fun y q o hy hq hn => ?_, fun y z q q' o o' hy hz hq hq' hn hn' hb => ?_, hs.m.im, ⟨fun hr => ?_, fun {y i _ _ _ _ _ _ _ _ _} hr h1' h2 h3 => ?_, fun {y i _ _ _ _ _ _ y' i' _ _ _ _ _} hr hr' => ?_⟩, fun hr => ?_, hs.m.fm⟩
  · by_cases e : y = h
    · subst e
      rw [hgh] at hy; injection hy with hy; injection hy with hy; subst hy
      obtain ⟨p', hp', q1, q2, q3, qz, q4⟩ := hs.m.ow y _ ho
      refine ⟨p', hp', q1, by simpa using q2, q3, qz, fun hlv' => ?_⟩
      obtain ⟨cur', k1, k2, k3, k4⟩ := q4 hlv'
      refine ⟨cur', k1, k2, k3, fun i x hx => ?_⟩
      by_cases ei : i = j
      · subst ei
        rw [List.getElem?_set_self hjl] at hx
        injection hx with hx; subst hx
        obtain ⟨u', hu', hr'⟩ := k4 i _ hj
        rw [hp] at hp'; injection hp' with hp'; subst hp'
        rw [hg] at k1; injection k1 with k1; injection k1 with k1; subst k1
        rw [hu] at hu'; injection hu' with hu'; subst hu'
        refine ⟨u, hu, hl, _, p1.cap, hval, by simpa using hcap, fun hn => ?_⟩
        cases hlv1 : p1.live with
        | false => exact z1 hlv1
        | true => rw [hlv1] at hn; simp at hn
      · rw [List.getElem?_set_ne (fun e => ei e.symm)] at hx
        exact k4 i x hx
    · exact hs.m.ow y o (hgo y _ e hy).2
  · by_cases e : y = h
    · subst e; rw [hgh] at hy; injection hy with hy; cases hy
    · exact hs.m.fr y (hgo y _ e hy).2
  · obtain ⟨_, o', ho'⟩ := hback y o hy
    exact hs.m.pl y q o' ho' hq hn
  · obtain ⟨_, o1, g1⟩ := hback y o hy
    obtain ⟨_, o2, g2⟩ := hback z o' hz
    exact hs.m.inj y z q q' o1 o2 g1 g2 hq hq' hn hn' hb
  · rcases hin hr with ⟨rfl, rfl, hl1, rfl, rfl, rfl, rfl, rfl, rfl⟩ | ⟨_, hr⟩
    · obtain ⟨cur1, k1, k2, k3, k4⟩ := c1 hl1
      obtain ⟨m1, m2, m3⟩ := hpl hl1
      have hs1 : p1.size = _ := s1
      refine ⟨⟨cur1, k1, by rw [k3 rfl, hs1], fun i x hx => ?_⟩, by simpa using hcap, pm, hl, m1, m3⟩
      obtain ⟨v, hv, hvr⟩ := k4 i _ (pl_get hx)
      have : v = x := hvr
      rw [pb] at hv; rw [← this]; simpa using hv
    · exact hs.m.rs.ok hr
  · obtain ⟨hh1, o'', ho''⟩ := hback _ _ h1'
    rcases hin hr with ⟨rfl, rfl, hl1, rfl, rfl, rfl, rfl, rfl, rfl⟩ | ⟨_, hr⟩
    · exact fun e => hh1 (hs.m.inj _ _ _ _ _ _ ho'' ho1 h2 hp1 h3 hl1 e)
    · exact hs.m.rs.sep hr ho'' h2 h3
  · rcases hin hr with ⟨e1, e2, hl1, e3, _⟩ | ⟨_, hr⟩ <;> rcases hin hr' with ⟨e1', e2', hl1', e3', _⟩ | ⟨_, hr'⟩
    · exact ⟨e1'.trans e1.symm, e2'.trans e2.symm⟩
    · exact absurd e3.symm (hs.m.rs.sep hr' ho1 hp1 hl1)
    · exact absurd e3'.symm (hs.m.rs.sep hr ho1 hp1 hl1')
    · exact hs.m.rs.inj hr hr'
  · rcases hin hr with ⟨rfl, rfl, hl1, rfl, _⟩ | ⟨_, hr⟩
    · exact (hpl hl1).2.1
    · exact hs.m.rp hr
/-- a cell's row becomes an own variable's -/
theorem Sat.unpack {Γ : Cx} {σ : St} {a : Act} {w : World} {ρ : Nat → Option Place} {I : Nat → Prop} (hs : Sat Γ σ a w ρ I) {h h1 j n T s T0 s0 : Nat} {ex0 : Bool} {cs : List A} {xs : List Value} (ho : get σ (.o h) = some (.o ⟨T0, s0, ex0, cs⟩)) (hfr : get σ (.o h1) = some .free)
    (hj : cs[j]? = some (.row T n s xs)) : ∃ ρ', Sat Γ ((.o h, some (.o ⟨T0, s0, ex0, cs.set j (.sl h1 0 n)⟩)) :: (.o h1, some (.o ⟨T, s, true, pl xs⟩)) :: σ) a w ρ' I := by
  have hjl : j < cs.length := (List.getElem?_eq_some_iff.1 hj).1
  have hne : h ≠ h1 := fun e => by subst e; rw [ho] at hfr; cases hfr
  obtain ⟨p, cur, hp, hps, hcl, hlv, hg, hsz, _, hc⟩ := own_pos (hs.m.ow h _ ho) hjl
  obtain ⟨u, hu, hxl, ob, cap, hval, hnc, hob⟩ := hc j _ hj
  have hcv : w.cell? ⟨p.block, p.base + j, none⟩ = some u := by simp only [World.cell?, hg]; exact hu
  -- the cell's value only
  have st1 : Sat Γ ((.o h, some (.o ⟨T0, s0, ex0, cs.set j (.val u)⟩)) :: σ) a w ρ I := by
    refine ⟨hs.n, hs.d, fun k x h' hk hg' hh => hs.fx k x h' hk ((get_cons_ne rfl).symm.trans hg') hh, hs.kp, fun k v hk => hs.sl k v ((get_cons_ne rfl).symm.trans hk), ?_⟩
    have hgo : ∀ y, y ≠ h → get ((Key.o h, some (Cell.o ⟨T0, s0, ex0, cs.set j (.val u)⟩)) :: σ) (.o y) = get σ (.o y) := fun y hy => get_cons_ne (key_neo (fun e => hy e.symm))
    have hback : ∀ y o, get ((Key.o h, some (Cell.o ⟨T0, s0, ex0, cs.set j (.val u)⟩)) :: σ) (.o y) = some (.o o) → ∃ o', get σ (.o y) = some (.o o') := fun y o hy => by
      by_cases e : y = h
      · subst e; exact ⟨_, ho⟩
      · rw [hgo y e] at hy; exact ⟨o, hy⟩
    have hin : ∀ {y i T' n' s' ys b cap}, RowIn ((Key.o h, some (Cell.o ⟨T0, s0, ex0, cs.set j (.val u)⟩)) :: σ) w ρ y i T' n' s' ys b cap → RowIn σ w ρ y i T' n' s' ys b cap := by
      rintro y i T' n' s' ys b cap ⟨o, q, g1, g2, g3, g4, g5⟩
      by_cases e : y = h
      · subst e
        rw [get_cons_eq] at g1; injection g1 with g1; injection g1 with g1; subst g1
        refine ⟨_, q, ho, g2, g3, ?_, g5⟩
        by_cases ei : i = j
        · subst ei; rw [List.getElem?_set_self hjl] at g4; injection g4 with g4; cases g4
        · rw [List.getElem?_set_ne (fun e => ei e.symm)] at g4; exact g4
      · rw [hgo y e] at g1; exact ⟨o, q, g1, g2, g3, g4, g5⟩
    refine ⟨fun y o hy => ?_, fun y hy => ?_, fun y q o hy hq hn => ?_, fun y z q q' o o' hy hz hq hq' hn hn' hb => ?_, hs.m.im, hs.m.rs.map (fun y i => (y, i)) hin (fun _ _ e => by injection e with e1 e2; exact ⟨e1, e2⟩) (fun hr => ⟨rfl, (hs.m.rs.ok hr).ni, (hs.m.rs.ok hr).lt⟩) (fun hr g1 g2 g3 => by obtain ⟨o', ho'⟩ := hback _ _ g1; exact hs.m.rs.sep hr ho' g2 g3), fun hr => hs.m.rp (hin hr), hs.m.fm⟩
    · by_cases e : y = h
      · subst e
        rw [get_cons_eq] at hy; injection hy with hy; injection hy with hy; subst hy
        obtain ⟨p', hp', q1, q2, q3, qz, q4⟩ := hs.m.ow y _ ho
        refine ⟨p', hp', q1, by simpa using q2, q3, qz, fun hlv' => ?_⟩
        obtain ⟨cur', k1, k2, k3, k4⟩ := q4 hlv'
        refine ⟨cur', k1, k2, k3, fun i x hx => ?_⟩
        by_cases ei : i = j
        · subst ei
          rw [List.getElem?_set_self hjl] at hx
          injection hx with hx; subst hx
          rw [hp] at hp'; injection hp' with hp'; subst hp'
          rw [hg] at k1; injection k1 with k1; injection k1 with k1; subst k1
          exact ⟨u, hu, rfl⟩
        · rw [List.getElem?_set_ne (fun e => ei e.symm)] at hx
          exact k4 i x hx
      · rw [hgo y e] at hy; exact hs.m.ow y o hy
    · by_cases e : y = h
      · subst e; rw [get_cons_eq] at hy; injection hy with hy; cases hy
      · rw [hgo y e] at hy; exact hs.m.fr y hy
    · obtain ⟨o', ho'⟩ := hback y o hy
      exact hs.m.pl y q o' ho' hq hn
    · obtain ⟨o1, g1⟩ := hback y o hy
      obtain ⟨o2, g2⟩ := hback z o' hz
      exact hs.m.inj y z q q' o1 o2 g1 g2 hq hq' hn hn' hb
  have hfr1 : get ((Key.o h, some (Cell.o ⟨T0, s0, ex0, cs.set j (.val u)⟩)) :: σ) (.o h1) = some .free := by rw [get_cons_ne (key_neo hne)]; exact hfr
  -- the row's block has a name
  have st2 : ∃ ρ' q, ρ' h1 = some q ∧ q.base = 0 ∧ q.x = true ∧ u = .slice (if q.live then some ⟨q.block, 0, none⟩ else none) n q.cap ∧ (∀ h p, ρ h = some p → ρ' h = some p) ∧ Sat Γ ((.o h1, some (.o ⟨T, s, true, pl xs⟩)) :: (.o h, some (.o ⟨T0, s0, ex0, cs.set j (.val u)⟩)) :: σ) a w ρ' I := by
    cases ob with
    | none =>
      have hc0 := hob rfl
      have hx0 : xs = [] := List.eq_nil_of_length_eq_zero (by rw [hxl, show n = 0 by omega]; simp)
      obtain ⟨ρ', hρ, hx', hs2⟩ := st1.adopt hfr1 (p := ⟨0, 0, 0, s, false, true⟩) (o := ⟨T, s, true, pl xs⟩) rfl (by rw [hx0]; simp [pl]) (fun _ => ⟨rfl, rfl, Nat.zero_le _⟩) (fun _ => rfl) (fun h => by simp at h) (RowFit.no pl_nr) (fun h => by simp at h) (fun h => by simp at h)
      exact ⟨ρ', _, hx', rfl, rfl, by rw [hval, hc0]; rfl, hρ, hs2⟩
    | some b =>
      have hr : RowIn σ w ρ h j T n s xs b cap := ⟨_, p, ho, hp, hlv, hj, by rw [hcv, hval]; rfl⟩
      obtain ⟨⟨cb, k1, k2, k3⟩, k4, k5, k6, k7, k8⟩ := hs.m.rs.ok hr
      have hback : ∀ y o, get ((Key.o h, some (Cell.o ⟨T0, s0, ex0, cs.set j (.val u)⟩)) :: σ) (.o y) = some (.o o) → ∃ o', get σ (.o y) = some (.o o') := fun y o hy => by
        by_cases e : y = h
        · subst e; exact ⟨_, ho⟩
        · rw [get_cons_ne (key_neo (fun e2 => e e2.symm))] at hy; exact ⟨o, hy⟩
      obtain ⟨ρ', hρ, hx', hs2⟩ := st1.adopt hfr1 (p := ⟨b, 0, cap, s, true, true⟩) (o := ⟨T, s, true, pl xs⟩) rfl (by simp only [pl_len, hxl]; exact Nat.mul_le_mul_right _ k4) (fun _ => ⟨rfl, rfl, k5⟩) (fun h => by simp at h)
        (fun _ => ⟨k7, hs.m.rp hr, k8, fun y q o hy hq hn => by obtain ⟨o', ho'⟩ := hback y o hy; exact hs.m.rs.sep hr ho' hq hn, cb, k1, by simp only; omega, fun _ => k2, fun i y hi => by
          simp only [pl, List.getElem?_map] at hi
          cases hq : xs[i]? with
          | none => simp [hq] at hi
          | some v => rw [hq] at hi; injection hi with hi; subst hi; exact ⟨v, by simpa using k3 i v hq, rfl⟩⟩)
        (RowFit.no pl_nr) (fun _ {y i T2 n2 s2 xs2 b2 cap2} hr2 e => by
          have hr3 : RowIn σ w ρ y i T2 n2 s2 xs2 b2 cap2 := by
            obtain ⟨o, q, g1, g2, g3, g4, g5⟩ := hr2
            by_cases ey : y = h
            · subst ey
              rw [get_cons_eq] at g1; injection g1 with g1; injection g1 with g1; subst g1
              refine ⟨_, q, ho, g2, g3, ?_, g5⟩
              by_cases ei : i = j
              · subst ei; rw [List.getElem?_set_self hjl] at g4; injection g4 with g4; cases g4
              · rw [List.getElem?_set_ne (fun e => ei e.symm)] at g4; exact g4
            · rw [get_cons_ne (key_neo (fun e2 => ey e2.symm))] at g1; exact ⟨o, q, g1, g2, g3, g4, g5⟩
          simp only at e
          subst e
          obtain ⟨e1, e2⟩ := hs.m.rs.inj hr hr3
          subst e1; subst e2
          obtain ⟨o, q, g1, g2, g3, g4, g5⟩ := hr2
          rw [get_cons_eq] at g1; injection g1 with g1; injection g1 with g1; subst g1
          rw [List.getElem?_set_self hjl] at g4; injection g4 with g4; cases g4)
        (fun _ {i _ _ _ _ _ _} hi => absurd (pl_nr (xs := xs) _ (List.mem_of_getElem? hi)) (by simp [A.isRow]))
      exact ⟨ρ', _, hx', rfl, rfl, by rw [hval]; rfl, hρ, hs2⟩
  obtain ⟨ρ', q, hq, hqb, hqx, hqu, hρ, hs2⟩ := st2
  refine ⟨ρ', ?_⟩
  have hgh : get ((Key.o h1, some (Cell.o ⟨T, s, true, pl xs⟩)) :: (Key.o h, some (Cell.o ⟨T0, s0, ex0, cs.set j (.val u)⟩)) :: σ) (.o h) = some (.o ⟨T0, s0, ex0, cs.set j (.val u)⟩) := by rw [get_cons_ne (key_neo (fun e => hne e.symm))]; exact get_cons_eq
  have st3 := hs2.rnob (cs' := cs.set j (.sl h1 0 n)) hgh (by simp) (fun i x' hx' => by
    by_cases ei : i = j
    · subst ei
      rw [List.getElem?_set_self hjl] at hx'
      injection hx' with hx'; subst hx'
      refine ⟨.val u, List.getElem?_set_self hjl, fun u' hu' => ?_⟩
      have hu' : u' = u := hu'
      subst hu'
      refine ⟨q, (if q.live then some ⟨q.block, 0, none⟩ else none), hq, hqu, ?_, fun _ => by rw [hqb]; simp⟩
      have : n ≤ q.cap := by
        rw [hval] at hqu
        injection hqu with _ _ e3
        omega
      omega
    · rw [List.getElem?_set_ne (fun e => ei e.symm)] at hx'
      exact ⟨x', by rw [List.getElem?_set_ne (fun e => ei e.symm)]; exact hx', fun _ h => h⟩) (fun i x' hx' hrow => by
    by_cases ei : i = j
    · subst ei
      rw [List.getElem?_set_self hjl] at hx'
      injection hx' with hx'; subst hx'; cases hrow
    · rw [List.getElem?_set_ne (fun e => ei e.symm)] at hx' ⊢; exact hx')
  have hext : ∀ k, get ((Key.o h, some (Cell.o ⟨T0, s0, ex0, cs.set j (.sl h1 0 n)⟩)) :: (Key.o h1, some (Cell.o ⟨T, s, true, pl xs⟩)) :: σ) k = get ((Key.o h, some (Cell.o ⟨T0, s0, ex0, cs.set j (.sl h1 0 n)⟩)) :: (Key.o h1, some (Cell.o ⟨T, s, true, pl xs⟩)) :: (Key.o h, some (Cell.o ⟨T0, s0, ex0, cs.set j (.val u)⟩)) :: σ) k := by
    intro k
    simp only [get]
    cases Key.eq (.o h) k <;> simp
  obtain ⟨ρ2, I2, h2⟩ : ∃ ρ2 I2, (ρ2 = ρ' ∧ I2 = I) ∧ Sat Γ ((.o h, some (.o ⟨T0, s0, ex0, cs.set j (.sl h1 0 n)⟩)) :: (.o h1, some (.o ⟨T, s, true, pl xs⟩)) :: σ) a w ρ2 I2 := ⟨ρ', I, ⟨rfl, rfl⟩, st3.n, st3.d, (fun k x h' hk hg hh => st3.fx k x h' hk ((hext _) ▸ hg) hh), st3.kp, fun k v hk => st3.sl k v ((hext _) ▸ hk), fun y o ho => st3.m.ow y o ((hext _) ▸ ho), fun y hy => st3.m.fr y ((hext _) ▸ hy), fun y p o ho => st3.m.pl y p o ((hext _) ▸ ho), fun y z p p' o o' ho ho' => st3.m.inj y z p p' o o' ((hext _) ▸ ho) ((hext _) ▸ ho'), st3.m.im, (st3.m.rows0 fun y o ho => (hext _) ▸ ho).1, (st3.m.rows0 fun y o ho => (hext _) ▸ ho).2, st3.m.fm⟩
  obtain ⟨⟨rfl, rfl⟩, h2⟩ := h2
  exact h2
theorem weak_pack {Γ : Cx} {σ : St} {h h1 j n T s T0 s0 : Nat} {ex0 : Bool} {cs cs' : List A} {xs : List Value} (ho : get σ (.o h) = some (.o ⟨T0, s0, ex0, cs⟩)) (ho1 : get σ (.o h1) = some (.o ⟨T, s, true, pl xs⟩)) (hne : Nat.beq h h1 = false)
    (hj : cs[j]? = some (.sl h1 0 n)) (hl : xs.length = n * s) (hc : cs.set j (.row T n s xs) = cs') : Weak Γ σ ((.o h, some (.o ⟨T0, s0, ex0, cs'⟩)) :: (.o h1, none) :: σ) := by
  subst hc
  intro a w ⟨ρ, I, hs⟩
  exact ⟨ρ, I, hs.pack ho ho1 (fun e => by subst e; rw [Nat.beq_refl] at hne; cases hne) hj hl⟩
theorem weak_unpack {Γ : Cx} {σ : St} {h h1 j n T s T0 s0 : Nat} {ex0 : Bool} {cs cs' : List A} {xs : List Value} (ho : get σ (.o h) = some (.o ⟨T0, s0, ex0, cs⟩)) (hfr : get σ (.o h1) = some .free)
    (hj : cs[j]? = some (.row T n s xs)) (hc : cs.set j (.sl h1 0 n) = cs') : Weak Γ σ ((.o h, some (.o ⟨T0, s0, ex0, cs'⟩)) :: (.o h1, some (.o ⟨T, s, true, pl xs⟩)) :: σ) := by
  subst hc
  intro a w ⟨ρ, I, hs⟩
  obtain ⟨ρ', h'⟩ := hs.unpack ho hfr hj
  exact ⟨ρ', I, h'⟩
/-- rows of rows that nobody writes any more -/
theorem Sat.freezeDeep {Γ : Cx} {σ : St} {a : Act} {w : World} {ρ : Nat → Option Place} {I : Nat → Prop} (hs : Sat Γ σ a w ρ I) {h T0 s : Nat} {ex0 : Bool} {cs : List A} {rows : List (Nat × List Value)} (ho : get σ (.o h) = some (.o ⟨T0, 1, ex0, cs⟩))
    (hcs : ∀ (j : Nat) r, rows[j]? = some r → ∃ T, cs[j]? = some (.row T r.1 s r.2)) : ∃ I', (∀ b, I b → I' b) ∧ (∀ {u : Value} {n : Nat}, n = rows.length → RelA ρ I w (.sl h 0 n) u → RelA ρ I' w (.slvv s rows) u) ∧ Sat Γ ((.o h, none) :: σ) a w ρ I' := by
  obtain ⟨p, hp, ps, pl0, pe, pz, pc⟩ := hs.m.ow h _ ho
  let I' : Nat → Prop := fun b => I b ∨ (p.live = true ∧ b = p.block) ∨ ∃ j T n s xs cap, RowIn σ w ρ h j T n s xs b cap
  have hI : ∀ b, I b → I' b := fun b hb => .inl hb
  refine ⟨I', hI, fun {u n} hn hu => ?_, ?_⟩
  · subst hn
    obtain ⟨p', A0, hp', he, hcap, hA⟩ := hu
    rw [hp] at hp'; injection hp' with hp'; subst hp'
    refine ⟨A0, p.cap - 0, he, by omega, fun hpos => ?_⟩
    have hlv : p.live = true := by
      rcases Bool.eq_false_or_eq_true p.live with q | q
      · exact q
      · have := pz q; omega
    have hA' := hA (.inr (by omega))
    rw [hlv, if_pos rfl] at hA'
    obtain ⟨cur, c1, c2, c3, c4⟩ := pc hlv
    refine ⟨p.block, p.base, by rw [hA']; simp, .inr (.inl ⟨hlv, rfl⟩), fun j r hj => ?_⟩
    obtain ⟨T, hT⟩ := hcs j r hj
    obtain ⟨v, hv, hxl, ob, cap, hval, hnc, hob⟩ := c4 j _ hT
    have hcv : w.cell? ⟨p.block, p.base + j, none⟩ = some v := by simp only [World.cell?, c1]; exact hv
    refine ⟨hxl, ob.map fun b => ⟨b, 0, none⟩, cap, by rw [hcv, hval], hnc, fun hr => ?_⟩
    cases ob with
    | none => have := hob rfl; omega
    | some b =>
      have hri : RowIn σ w ρ h j T r.1 s r.2 b cap := ⟨_, p, ho, hp, hlv, hT, by rw [hcv, hval]; rfl⟩
      obtain ⟨⟨cb, k1, k2, k3⟩, k4, k5, k6, k7, k8⟩ := hs.m.rs.ok hri
      exact ⟨b, 0, rfl, .inr (.inr ⟨j, T, _, _, _, cap, hri⟩), fun i x hx => by simp only [World.cell?, k1, Nat.zero_add]; exact k3 i x hx⟩
  · have hgs : ∀ k, get ((Key.o h, none) :: σ) (.s k) = get σ (.s k) := fun k => get_cons_ne rfl
    have hI2 : ∀ b, I b → I' b ∧ w.heap[b]? = w.heap[b]? := fun b hb => ⟨.inl hb, rfl⟩
    have hrw := hs.m.rows (τ := (.o h, none) :: σ) (w' := w) (ρ' := ρ) (I' := I) (fun y o' hy => (Sat.get_kill hy).2) (fun _ _ _ _ h => h) (fun _ _ _ _ _ _ => rfl) fun hr => ⟨rfl, (hs.m.rs.ok hr).ni, (hs.m.rs.ok hr).lt⟩
    have hin : ∀ {y i T n s xs b cap}, RowIn ((.o h, none) :: σ) w ρ y i T n s xs b cap → y ≠ h ∧ RowIn σ w ρ y i T n s xs b cap := fun ⟨o, q, g1, g⟩ => ⟨(Sat.get_kill g1).1, o, q, (Sat.get_kill g1).2, g⟩
    refine ⟨hs.n, hs.d, fun k x h' hk hg hh => hs.fx k x h' hk ((hgs k) ▸ hg) hh, ⟨hs.kp.1, fun b hb => ?_⟩, fun k v hk => (hs.sl k v ((hgs k) ▸ hk)).mono (fun _ _ h => h) hI2, ?_⟩
    · rcases hb with hb | ⟨hlv, rfl⟩ | ⟨j, T, n, s', xs, cap, hr⟩
      · exact hs.kp.2 b hb
      · exact .inr (hs.m.pl h p _ ho hp hlv).2.1
      · exact .inr (hs.m.rp hr)
    · refine ⟨fun y o' hy => ?_, fun y hy => hs.m.fr y (Sat.get_kill hy).2, fun y p' o' hy hp' hl' => ?_, fun y z p1 p2 o1 o2 hy hz => hs.m.inj y z p1 p2 o1 o2 (Sat.get_kill hy).2 (Sat.get_kill hz).2, fun b hb => ?_, ⟨fun hr => ?_, hrw.1.sep, hrw.1.inj⟩, hrw.2, hs.m.fm⟩
      · exact (hs.m.ow y o' (Sat.get_kill hy).2).mono (fun _ _ h => h) hI2 fun _ _ _ => rfl
      · obtain ⟨hyh, hy'⟩ := Sat.get_kill hy
        obtain ⟨r1, r2, r3⟩ := hs.m.pl y p' o' hy' hp' hl'
        refine ⟨fun hb => ?_, r2, r3⟩
        rcases hb with hb | ⟨hlv, e⟩ | ⟨j, T, n, s', xs, cap, hr⟩
        · exact r1 hb
        · exact hyh (hs.m.inj y h p' p o' _ hy' ho hp' hp hl' hlv e)
        · exact hs.m.rs.sep hr hy' hp' hl' rfl
      · rcases hb with hb | ⟨hlv, rfl⟩ | ⟨j, T, n, s', xs, cap, hr⟩
        · exact hs.m.im b hb
        · exact (hs.m.pl h p _ ho hp hlv).2.2
        · exact (hs.m.rs.ok hr).lt
      · obtain ⟨hyh, hr'⟩ := hin hr
        obtain ⟨k0, k4, k5, k6, k7, k8⟩ := hs.m.rs.ok hr'
        refine ⟨k0, k4, k5, k6, fun hb => ?_, k8⟩
        rcases hb with hb | ⟨hlv, e⟩ | ⟨j, T, n, s', xs, cap, hr2⟩
        · exact k7 hb
        · exact hs.m.rs.sep hr' ho hp hlv e.symm
        · exact hyh (hs.m.rs.inj hr2 hr').1
theorem weak_freeze_deep {Γ : Cx} {σ : St} {k h T0 s n : Nat} {ex0 : Bool} {cs : List A} {rows : List (Nat × List Value)} (hk : get σ (.s k) = some (.s (.b (.a (.sl h 0 n))))) (ho : get σ (.o h) = some (.o ⟨T0, 1, ex0, cs⟩)) (hcs : ∀ (j : Nat) r, rows[j]? = some r → ∃ T, cs[j]? = some (.row T r.1 s r.2)) (hn : n = rows.length) :
    Weak Γ σ ((.s k, some (.s (.b (.a (.slvv s rows))))) :: (.o h, none) :: σ) := by
  intro a w ⟨ρ, I, hs⟩
  obtain ⟨I', hI, hrel, hs2⟩ := hs.freezeDeep ho hcs
  refine ⟨ρ, I', hs2.rename (hrel hn (hs.sl k _ hk)) fun x e h' => ?_⟩
  injection e with e; injection e with e; subst e
  exact fun hh => hh
theorem rwI_get {T : Nat} {L : List (List Int)} : ∀ (j : Nat) r, (vwI L)[j]? = some r → ∃ T', (rwI T L)[j]? = some (.row T' r.1 1 r.2) := by
  intro j r hj
  unfold vwI at hj; rw [List.getElem?_map] at hj
  cases hq : L[j]? with
  | none => rw [hq] at hj; simp at hj
  | some x => rw [hq] at hj; simp at hj; subst hj; exact ⟨T, by unfold rwI; rw [List.getElem?_map, hq]; rfl⟩
theorem rwD_get {T : Nat} {L : List (List Dom)} : ∀ (j : Nat) r, (vwD L)[j]? = some r → ∃ T', (rwD T L)[j]? = some (.row T' r.1 3 r.2) := by
  intro j r hj
  unfold vwD at hj; rw [List.getElem?_map] at hj
  cases hq : L[j]? with
  | none => rw [hq] at hj; simp at hj
  | some x => rw [hq] at hj; simp at hj; subst hj; exact ⟨T, by unfold rwD; rw [List.getElem?_map, hq]; rfl⟩
end Cl
end Go.Proofs.Ytgmckbchcpfhcaa
