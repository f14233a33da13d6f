
/- The rules of regions (in the text's order and in every order) and of control, over clean states. -/
import Derived.Test.YtgmckbchcpfhcaaCl6
import Derived.Orders
namespace Go.Proofs.Ytgmckbchcpfhcaa
namespace Cl
open Go.ChangeShapes Go.WideShapes Go.ChangeAt Go.RowKit

def lift (Γ : Cx) (K : Exit → St → Prop) : Exit → Act → World → Prop := fun e a w => ∃ σ, Sats Γ σ a w ∧ K e σ
def Wp (Γ : Cx) (c : Code) (K : Exit → St → Prop) (σ : St) : Prop := ∀ a w, Sats Γ σ a w → c.wp Γ.P (lift Γ K) a w
def Reads (σ : St) : List (Key × Cell) → Prop
  | [] => True
  | kv :: r => get σ kv.1 = some kv.2 ∧ Reads σ r
theorem Reads.all {σ : St} {R : List (Key × Cell)} (h : Reads σ R) : ∀ kv ∈ R, get σ kv.1 = some kv.2 := by
  induction R with
  | nil => intro kv hk; cases hk
  | cons a R ih =>
    intro kv hk
    rcases List.mem_cons.1 hk with rfl | hk
    · exact h.1
    · exact ih h.2 kv hk
theorem Reads.of {σ : St} {R : List (Key × Cell)} (h : ∀ kv ∈ R, get σ kv.1 = some kv.2) : Reads σ R := by
  induction R with
  | nil => trivial
  | cons a R ih => exact ⟨h a (by simp), ih fun kv hk => h kv (by simp [hk])⟩
def StepOk (Γ : Cx) (ops : Array Oper) (o : Oper) (R : List (Key × Cell)) (W : St) : Prop :=
  ∀ σ a w, Sats Γ σ a w → (∀ kv ∈ R, get σ kv.1 = some kv.2) → ∀ (K : Act → World → Prop) Q, (∀ a' w', Sats Γ (W ++ σ) a' w' → K a' w') →
    if Region.wanted o (yielded ops a.tmps) then o.wp Γ.P a w K Q else K (a.put o.dst undef) w
theorem step_plain {Γ : Cx} {ops : Array Oper} {o : Oper} {R : List (Key × Cell)} {W : St} (hg : o.guard = none) (h : Acts Γ o R W) : StepOk Γ ops o R W := by
  intro σ a w ⟨ρ, I, hs⟩ hR K Q hK
  rw [if_pos (by simp [Region.wanted, hg])]
  exact h σ a w ρ I hs hR K Q hK
theorem yielded_of {Γ : Cx} {ops : Array Oper} {σ : St} {a : Act} {w : World} {ρ : Nat → Option Place} {I : Nat → Prop} (hs : Sat Γ σ a w ρ I) {j dj : Nat} {b : Bool} (hj : (ops[j]?).bind (·.dst) = some dj) (hb : get σ (.s dj) = some (.s (V.v (.bool b)))) :
    yielded ops a.tmps j = some b := by
  have h : a.tmps.getD dj undef = .bool b := hs.sl dj _ hb
  have h2 : a.tmps[dj]? = some (.bool b) := by
    rw [Array.getD_eq_getD_getElem?] at h
    cases hq : a.tmps[dj]? with
    | none => rw [hq] at h; simp [undef] at h
    | some v => rw [hq] at h; simp at h; rw [h]
  simp [yielded, hj, h2]
theorem step_on {Γ : Cx} {ops : Array Oper} {o : Oper} {R : List (Key × Cell)} {W : St} {j dj : Nat} {b : Bool} (hg : o.guard = some (j, b)) (hj : (ops[j]?).bind (·.dst) = some dj) (h : Acts Γ o R W) :
    StepOk Γ ops o ((.s dj, .s (V.v (.bool b))) :: R) W := by
  intro σ a w ⟨ρ, I, hs⟩ hR K Q hK
  rw [if_pos (by simp [Region.wanted, hg, yielded_of hs hj (hR (.s dj, .s (V.v (.bool b))) (by simp))])]
  exact h σ a w ρ I hs (fun kv hk => hR kv (by simp [hk])) K Q hK
theorem step_off {Γ : Cx} {ops : Array Oper} {o : Oper} {j dj d : Nat} {b b' : Bool} (hg : o.guard = some (j, b)) (hj : (ops[j]?).bind (·.dst) = some dj) (hb : b' ≠ b) (hd : o.dst = some d) (hN : Γ.ok d) :
    StepOk Γ ops o [(.s dj, .s (V.v (.bool b')))] [(.s d, none)] := by
  intro σ a w ⟨ρ, I, hs⟩ hR K Q hK
  rw [if_neg (by simp [Region.wanted, hg, yielded_of hs hj (hR (.s dj, .s (V.v (.bool b'))) (by simp)), hb]), hd]
  exact hK _ _ ⟨ρ, I, hs.putU hN⟩
theorem step_offn {Γ : Cx} {ops : Array Oper} {o : Oper} {j dj : Nat} {b b' : Bool} (hg : o.guard = some (j, b)) (hj : (ops[j]?).bind (·.dst) = some dj) (hb : b' ≠ b) (hd : o.dst = none) :
    StepOk Γ ops o [(.s dj, .s (V.v (.bool b')))] [] := by
  intro σ a w ⟨ρ, I, hs⟩ hR K Q hK
  rw [if_neg (by simp [Region.wanted, hg, yielded_of hs hj (hR (.s dj, .s (V.v (.bool b'))) (by simp)), hb]), hd]
  exact hK _ _ ⟨ρ, I, hs⟩
/-- the rest of a region, in the text's order -/
def WpL (Γ : Cx) (ops : Array Oper) (rest : List Oper) (K : Exit → St → Prop) (σ : St) : Prop := ∀ a w, Sats Γ σ a w → wpList Γ.P ops (lift Γ K) rest a w
theorem wpl_nil {Γ : Cx} {ops : Array Oper} {K : Exit → St → Prop} {σ : St} (h : K .normal σ) : WpL Γ ops [] K σ := fun _ _ hs => ⟨σ, hs, h⟩
theorem wpl_cons {Γ : Cx} {ops : Array Oper} {o : Oper} {rest : List Oper} {K : Exit → St → Prop} {σ : St} {R : List (Key × Cell)} {W : St} (h : StepOk Γ ops o R W) (hR : Reads σ R) (hr : WpL Γ ops rest K (W ++ σ)) : WpL Γ ops (o :: rest) K σ := by
  intro a w hs
  refine wpList_step fun K' hK' => h σ a w hs hR.all K' _ fun a' w' hs' => hK' a' w' (hr a' w' hs')
theorem wp_region_t {Γ : Cx} {id : Nat} {l : List Oper} {K : Exit → St → Prop} {σ : St} (h : WpL Γ l.toArray l K σ) : Wp Γ (.region id l.toArray false) K σ := fun a w hs => wp_region_lit (h a w hs)

/-! every order -/
theorem Sats.ext {Γ : Cx} {σ τ : St} {a : Act} {w : World} (h : Sats Γ σ a w) (he : ∀ k, get τ k = get σ k) : Sats Γ τ a w := by
  obtain ⟨ρ, I, h⟩ := h
  refine ⟨ρ, I, h.n, h.d, (fun k x h' hk hg hh => h.fx k x h' hk ((he _) ▸ hg) hh), h.kp, fun k v hk => h.sl k v ((he _) ▸ hk), fun y o ho => h.m.ow y o ((he _) ▸ ho), fun y hy => h.m.fr y ((he _) ▸ hy), fun y p o ho => h.m.pl y p o ((he _) ▸ ho), fun y z p p' o o' ho ho' => h.m.inj y z p p' o o' ((he _) ▸ ho) ((he _) ▸ ho'), h.m.im, (h.m.rows0 fun y o ho => (he _) ▸ ho).1, (h.m.rows0 fun y o ho => (he _) ▸ ho).2, h.m.fm⟩
abbrev Tr := List (List (Key × Cell) × St)
def look (D : Nat → Bool) (σ : St) : List (Nat × St) → Key → Option Cell
  | [], k => get σ k
  | (i, W) :: r, k => if D i && has W k then get W k else look D σ r k
theorem look_congr {D D' : Nat → Bool} {σ : St} {ws : List (Nat × St)} {k : Key} (h : ∀ i W, (i, W) ∈ ws → has W k = true → D i = D' i) : look D σ ws k = look D' σ ws k := by
  induction ws with
  | nil => rfl
  | cons a ws ih =>
    obtain ⟨i, W⟩ := a
    simp only [look]
    rw [ih fun j W' hj => h j W' (by simp [hj])]
    by_cases hk : has W k = true
    · rw [h i W (by simp) hk]
    · simp [hk]
theorem look_none {D : Nat → Bool} {σ : St} {ws : List (Nat × St)} {k : Key} (h : ∀ i W, (i, W) ∈ ws → has W k = true → D i = false) : look D σ ws k = get σ k := by
  induction ws with
  | nil => rfl
  | cons a ws ih =>
    obtain ⟨i, W⟩ := a
    simp only [look]
    rw [ih fun j W' hj => h j W' (by simp [hj])]
    by_cases hk : has W k = true
    · rw [h i W (by simp) hk]; simp
    · simp [hk]
/-- the writes with their places, the last first -/
def rws (tr : Tr) : List (Nat × St) := (tr.zipIdx.map fun x => (x.2, x.1.2)).reverse
theorem mem_rws {tr : Tr} {i : Nat} {W : St} : (i, W) ∈ rws tr ↔ ∃ R, tr[i]? = some (R, W) := by
  simp only [rws, List.mem_reverse, List.mem_map]
  constructor
  · rintro ⟨⟨⟨R, W'⟩, j⟩, hm, he⟩
    obtain ⟨rfl, rfl⟩ := Prod.mk.inj he
    exact ⟨R, by simpa using List.mk_mem_zipIdx_iff_getElem?.1 hm⟩
  · rintro ⟨R, h⟩
    exact ⟨((R, W), i), List.mk_mem_zipIdx_iff_getElem?.2 h, rfl⟩
/-- the state when the first i operations are done in the text's order -/
def after : Tr → St → Nat → St
  | _, σ, 0 => σ
  | [], σ, _ + 1 => σ
  | (_, W) :: r, σ, i + 1 => after r (W ++ σ) i
def TrReads : Tr → St → Prop
  | [], _ => True
  | (R, W) :: r, σ => Reads σ R ∧ TrReads r (W ++ σ)
theorem TrReads.at {tr : Tr} {σ : St} (h : TrReads tr σ) {i : Nat} {R : List (Key × Cell)} {W : St} (hi : tr[i]? = some (R, W)) : Reads (after tr σ i) R := by
  induction tr generalizing σ i with
  | nil => simp at hi
  | cons a tr ih =>
    obtain ⟨R', W'⟩ := a
    cases i with
    | zero => simp at hi; obtain ⟨rfl, rfl⟩ := hi; exact h.1
    | succ i => exact ih h.2 (by simpa using hi)
theorem after_succ {tr : Tr} {σ : St} {i : Nat} {R : List (Key × Cell)} {W : St} (hi : tr[i]? = some (R, W)) : after tr σ (i + 1) = W ++ after tr σ i := by
  induction tr generalizing σ i with
  | nil => simp at hi
  | cons a tr ih =>
    obtain ⟨R', W'⟩ := a
    cases i with
    | zero => simp at hi; obtain ⟨rfl, rfl⟩ := hi; simp [after]
    | succ i => exact ih (by simpa using hi)
theorem look_app {D : Nat → Bool} {σ : St} {us vs : List (Nat × St)} {k : Key} (h : ∀ i W, (i, W) ∈ us → has W k = true → D i = false) : look D σ (us ++ vs) k = look D σ vs k := by
  induction us with
  | nil => rfl
  | cons a us ih =>
    obtain ⟨i, W⟩ := a
    simp only [List.cons_append, look]
    rw [ih fun j W' hj => h j W' (by simp [hj])]
    by_cases hk : has W k = true
    · rw [h i W (by simp) hk]; simp
    · simp [hk]
theorem rws_split {tr : Tr} {i : Nat} {R : List (Key × Cell)} {W : St} (hi : tr[i]? = some (R, W)) : ∃ us vs, rws tr = us ++ (i, W) :: vs ∧ (∀ j V, (j, V) ∈ us → i < j) ∧ (∀ j V, (j, V) ∈ vs → j < i) := by
  have hlt := (List.getElem?_eq_some_iff.1 hi).1
  let l := tr.zipIdx.map fun x => (x.2, x.1.2)
  have hl : l[i]? = some (i, W) := by simp [l, hi]
  have hll : ∀ j : Nat, ∀ x, l[j]? = some x → x.1 = j := fun j x hx => by
    simp only [l, List.getElem?_map, List.getElem?_zipIdx] at hx
    cases hq : tr[j]? with
    | none => simp [hq] at hx
    | some y => simp [hq] at hx; rw [← hx]
  have hlen : i < l.length := by simpa [l] using hlt
  have hsp : l = l.take i ++ (i, W) :: l.drop (i + 1) := by
    have h1 := List.drop_eq_getElem_cons hlen
    have h2 : l[i] = (i, W) := by rw [List.getElem?_eq_getElem hlen] at hl; injection hl
    rw [h2] at h1
    rw [← h1, List.take_append_drop]
  refine ⟨(l.drop (i + 1)).reverse, (l.take i).reverse, ?_, fun j V hj => ?_, fun j V hj => ?_⟩
  · show l.reverse = _
    conv => lhs; rw [hsp]
    simp
  · obtain ⟨m, hm, he⟩ := List.getElem_of_mem (List.mem_reverse.1 hj)
    have : l[i + 1 + m]? = some (j, V) := by rw [← List.getElem?_drop, List.getElem?_eq_getElem hm, he]
    have := hll _ _ this
    simp at this; omega
  · obtain ⟨m, hm, he⟩ := List.getElem_of_mem (List.mem_reverse.1 hj)
    have hm' : m < i := by simp at hm; omega
    have : l[m]? = some (j, V) := by
      have := List.getElem?_eq_getElem hm
      rw [he, List.getElem?_take, if_pos hm'] at this; exact this
    have := hll _ _ this
    simp at this; omega
theorem get_after {tr : Tr} {σ : St} {i : Nat} (hi : i ≤ tr.length) {k : Key} : get (after tr σ i) k = look (fun j => decide (j < i)) σ (rws tr) k := by
  induction i with
  | zero => rw [look_none (fun i W _ _ => by simp)]; cases tr <;> rfl
  | succ i ih =>
    have hlt : i < tr.length := hi
    obtain ⟨us, vs, hsp, hu, hv⟩ := rws_split (tr := tr) (i := i) (R := tr[i].1) (W := tr[i].2) (by simp [hlt])
    rw [after_succ (R := tr[i].1) (W := tr[i].2) (by simp [hlt]), get_app, ih (by omega), hsp]
    rw [look_app (fun j V hj _ => by have := hu j V hj; simp; omega), look_app (fun j V hj _ => by have := hu j V hj; simp; omega)]
    simp only [look]
    have e : look (fun j => decide (j < i)) σ vs k = look (fun j => decide (j < i + 1)) σ vs k := look_congr fun j V hj _ => by have := hv j V hj; simp; omega
    rw [e]
    by_cases hk : has tr[i].2 k = true <;> simp [hk]
/-- what an operation must wait for -/
def depsOf (o : Oper) : List Nat := (o.after.toList.filter (Region.binds .any)).map (·.on)
def ancs : List Oper → List (List Nat) → List (List Nat)
  | [], acc => acc
  | o :: r, acc => ancs r (acc ++ [depsOf o ++ (depsOf o).flatMap fun j => acc.getD j []])
def anyKey (a b : List Key) : Bool := a.any fun x => b.any fun y => Key.eq x y
def apart2 (x y : List Key × List Key) : Bool := !(anyKey x.2 y.1) && !(anyKey x.2 y.2) && !(anyKey y.2 x.1)
def keysOf (x : List (Key × Cell) × St) : List Key × List Key := (x.1.map (·.1), x.2.map (·.1))
def okPairs : List (List Key × List Key) → List (List Nat) → Nat → List (List Key × List Key) → Bool
  | [], _, _, _ => true
  | x :: r, an, i, prev => (prev.zipIdx.all fun y => (an.getD i []).contains y.2 || apart2 y.1 x) && okPairs r an (i + 1) (prev ++ [x])
theorem has_keys {W : St} {k : Key} : has W k = true ↔ k ∈ W.map (·.1) := by
  induction W with
  | nil => simp [has]
  | cons a W ih => simp only [has, Bool.or_eq_true, Key.eq_iff, ih, List.map_cons, List.mem_cons]; constructor <;> (rintro (h | h) <;> first | exact .inl h.symm | exact .inr h)
theorem anyKey_false {a b : List Key} (h : anyKey a b = false) {k : Key} (ha : k ∈ a) : k ∉ b := by
  intro hb
  have : anyKey a b = true := by
    simp only [anyKey, List.any_eq_true]
    exact ⟨k, ha, k, hb, Key.eq_iff.2 rfl⟩
  rw [h] at this; cases this
theorem okPairs_spec {xs : List (List Key × List Key)} {an : List (List Nat)} {i : Nat} {prev : List (List Key × List Key)} (hp : prev.length = i) (h : okPairs xs an i prev = true) {p q : Nat} (hpq : p < q) {x y : List Key × List Key}
    (hx : (prev ++ xs)[p]? = some x) (hy : (prev ++ xs)[q]? = some y) (hq : i ≤ q) : p ∈ an.getD q [] ∨ apart2 x y = true := by
  induction xs generalizing i prev with
  | nil => rw [List.append_nil] at hy; rw [List.getElem?_eq_none (by omega)] at hy; cases hy
  | cons z xs ih =>
    simp only [okPairs, Bool.and_eq_true, List.all_eq_true] at h
    obtain ⟨h1, h2⟩ := h
    rcases Nat.lt_or_ge i q with hlt | hge
    · exact ih (i := i + 1) (prev := prev ++ [z]) (by simp [hp]) h2 (by simpa using hx) (by simpa using hy) hlt
    · have hqi : q = i := by omega
      subst hqi
      rw [List.getElem?_append_right (by omega), hp, Nat.sub_self] at hy
      simp at hy; subst hy
      rw [List.getElem?_append_left (by omega)] at hx
      have := h1 (x, p) (List.mk_mem_zipIdx_iff_getElem?.2 hx)
      rcases Bool.or_eq_true _ _ ▸ this with h | h
      · exact .inl (by simpa using h)
      · exact .inr h
def okDeps (l : List Oper) : Bool := l.zipIdx.all fun x => (depsOf x.1).all (· < x.2)
theorem ancs_spec (l : List Oper) : ∀ (acc : List (List Nat)), (∀ m o, l[m]? = some o → ∀ j ∈ depsOf o, j < acc.length + m) →
    (∀ j, j < acc.length → (ancs l acc).getD j [] = acc.getD j []) ∧ ∀ m o, l[m]? = some o → (ancs l acc).getD (acc.length + m) [] = depsOf o ++ (depsOf o).flatMap fun j => (ancs l acc).getD j [] := by
  induction l with
  | nil => intro acc _; exact ⟨fun _ _ => rfl, fun m o h => by simp at h⟩
  | cons a l ih =>
    intro acc h
    obtain ⟨h1, h2⟩ := ih (acc ++ [depsOf a ++ (depsOf a).flatMap fun j => acc.getD j []]) (fun m o hm j hj => by
      have := h (m + 1) o (by simpa using hm) j hj
      simp; omega)
    have hk : ∀ j, j < acc.length → (ancs (a :: l) acc).getD j [] = acc.getD j [] := fun j hj => by
      simp only [ancs]
      rw [h1 j (by simp; omega)]
      simp [List.getD, List.getElem?_append_left hj]
    refine ⟨hk, fun m o hm => ?_⟩
    cases m with
    | zero =>
      simp at hm; subst hm
      have hf : (depsOf a).flatMap (fun j => (ancs (a :: l) acc).getD j []) = (depsOf a).flatMap fun j => acc.getD j [] := by
        rw [List.flatMap_eq_foldl, List.flatMap_eq_foldl]
        have : ∀ (ds : List Nat) (z : List Nat), (∀ j ∈ ds, j < acc.length) → List.foldl (fun s j => s ++ (ancs (a :: l) acc).getD j []) z ds = List.foldl (fun s j => s ++ acc.getD j []) z ds := by
          intro ds
          induction ds with
          | nil => intros; rfl
          | cons d ds ihd => intro z hz; simp only [List.foldl_cons]; rw [hk d (hz d (by simp))]; exact ihd _ fun j hj => hz j (by simp [hj])
        exact this _ _ fun j hj => by have := h 0 a (by simp) j hj; simpa using this
      rw [hf]
      simp only [ancs]
      rw [h1 (acc.length + 0) (by simp)]
      simp [List.getD]
    | succ m =>
      have := h2 m o (by simpa using hm)
      simp only [List.length_append, List.length_cons, List.length_nil] at this
      simp only [ancs]
      rw [show acc.length + (m + 1) = acc.length + (0 + 1) + m by omega]
      exact this
theorem anc_in {l : List Oper} (hd : okDeps l = true) {D : Nat → Bool} (hc : ∀ i o, l[i]? = some o → D i = true → ∀ j ∈ depsOf o, D j = true) {i : Nat} {o : Oper} (ho : l[i]? = some o) (hi : ∀ j ∈ depsOf o, D j = true) :
    ∀ p ∈ (ancs l []).getD i [], D p = true := by
  have hlt : ∀ (m : Nat) o, l[m]? = some o → ∀ j ∈ depsOf o, j < m := fun m o hm j hj => by
    simp only [okDeps, List.all_eq_true] at hd
    simpa using hd (o, m) (List.mk_mem_zipIdx_iff_getElem?.2 hm) j hj
  have hs := (ancs_spec l [] (fun m o hm j hj => by have := hlt m o hm j hj; simp; omega)).2
  induction i using Nat.strongRecOn generalizing o with
  | _ i ih =>
    have h := hs i o ho
    simp only [List.length_nil, Nat.zero_add] at h
    intro p hp
    rw [h] at hp
    rcases List.mem_append.1 hp with hp | hp
    · exact hi p hp
    · obtain ⟨j, hj, hpj⟩ := List.mem_flatMap.1 hp
      have hji := hlt i o ho j hj
      have hjl : j < l.length := Nat.lt_trans hji (List.getElem?_eq_some_iff.1 ho).1
      exact ih j hji (o := l[j]) (by simp [hjl]) (hc j l[j] (by simp [hjl]) (hi j hj)) p hpj
def unl (n : Nat) (listed : Array Bool) : Nat := ((List.range n).filter fun i => !listed.getD i true).length
theorem filter_lt {l : List Nat} {p q : Nat → Bool} (h : ∀ x ∈ l, q x = true → p x = true) {x : Nat} (hx : x ∈ l) (hp : p x = true) (hq : q x = false) : (l.filter q).length < (l.filter p).length := by
  induction l with
  | nil => cases hx
  | cons a l ih =>
    have hle : ∀ (l : List Nat), (∀ x ∈ l, q x = true → p x = true) → (l.filter q).length ≤ (l.filter p).length := by
      intro l
      induction l with
      | nil => intro _; simp
      | cons b l ih2 =>
        intro hb
        have := ih2 fun x hx => hb x (by simp [hx])
        simp only [List.filter_cons]
        by_cases e : q b = true
        · rw [if_pos e, if_pos (hb b (by simp) e)]; simp; omega
        · rw [if_neg e]; split <;> simp <;> omega
    simp only [List.filter_cons]
    rcases List.mem_cons.1 hx with rfl | hx
    · rw [if_neg (by simp [hq]), if_pos hp]
      have := hle l fun x hx => h x (by simp [hx])
      simp; omega
    · have := ih (fun x hx => h x (by simp [hx])) hx
      by_cases e : q a = true
      · rw [if_pos e, if_pos (h a (by simp) e)]; simp; omega
      · rw [if_neg e]; split <;> simp <;> omega
theorem wp_drawn {Γ : Cx} {id : Nat} {l : List Oper} {K : Exit → St → Prop} {σ : St} {tr : Tr} (hm : Γ.P.follows .mixedOrders = true) (hlen : tr.length = l.length)
    (hst : ∀ (i : Nat) o R W, l[i]? = some o → tr[i]? = some (R, W) → StepOk Γ l.toArray o R W) (hr : TrReads tr σ) (hd : okDeps l = true) (hp : okPairs (tr.map keysOf) (ancs l []) 0 [] = true)
    (hK : K .normal (after tr σ tr.length)) : Wp Γ (.region id l.toArray true) K σ := by
  intro a w hs
  refine wp_region_any hm ?_
  have hpair : ∀ {p q : Nat} {x y : List (Key × Cell) × St}, p < q → tr[p]? = some x → tr[q]? = some y → p ∈ (ancs l []).getD q [] ∨ apart2 (keysOf x) (keysOf y) = true := by
    intro p q x y hpq hx hy
    exact okPairs_spec (i := 0) (prev := []) rfl hp hpq (by simp [hx]) (by simp [hy]) (Nat.zero_le _)
  have key : ∀ (fuel : Nat) (listed : Array Bool) (τ : St) (a : Act) (w : World), listed.size = l.length → unl l.length listed ≤ fuel →
      (∀ i o, l[i]? = some o → listed.getD i false = true → ∀ j ∈ depsOf o, listed.getD j false = true) → Sats Γ τ a w → (∀ k, get τ k = look (fun j => listed.getD j false) σ (rws tr) k) →
      wpAny Γ.P .any l.toArray (lift Γ K) fuel listed a w := by
    intro fuel
    have done : ∀ (listed : Array Bool) (τ : St) (a : Act) (w : World), listed.size = l.length → Region.ready .any l.toArray listed = [] → Sats Γ τ a w → (∀ k, get τ k = look (fun j => listed.getD j false) σ (rws tr) k) → lift Γ K .normal a w := by
      intro listed τ a w hsz hrd hs hg
      have hall : ∀ j, j < l.length → listed.getD j false = true := by
        intro j
        induction j using Nat.strongRecOn with
        | _ j ih =>
          intro hj
          rcases Bool.eq_false_or_eq_true (listed.getD j false) with e | e
          · exact e
          · exfalso
            have hmem : j ∈ Region.ready .any l.toArray listed := by
              refine mem_ready.2 ⟨?_, l[j], by simp [hj], fun x hx hb => ?_⟩
              · rw [Array.getD_eq_getD_getElem?] at e ⊢
                have : j < listed.size := by omega
                simpa [this] using e
              · have hdx : x.on ∈ depsOf l[j] := by
                  simp only [depsOf, List.mem_map, List.mem_filter]
                  exact ⟨x, ⟨by simpa using hx, hb⟩, rfl⟩
                have hlt : x.on < j := by
                  simp only [okDeps, List.all_eq_true] at hd
                  simpa using hd (l[j], j) (List.mk_mem_zipIdx_iff_getElem?.2 (by simp [hj])) x.on hdx
                exact ih x.on hlt (by omega)
            rw [hrd] at hmem; cases hmem
      refine ⟨_, hs.ext (τ := after tr σ tr.length) fun k => ?_, hK⟩
      rw [get_after (Nat.le_refl _), hg]
      refine look_congr fun j W hj _ => ?_
      obtain ⟨R, hR⟩ := mem_rws.1 hj
      have hjl := (List.getElem?_eq_some_iff.1 hR).1
      rw [hall j (by omega)]
      simp [hjl]
    induction fuel with
    | zero =>
      intro listed τ a w hsz hu hc hs hg
      have hrd : Region.ready .any l.toArray listed = [] := by
        rcases hq : Region.ready .any l.toArray listed with _ | ⟨x, xs⟩
        · rfl
        · exfalso
          have hx : x ∈ Region.ready .any l.toArray listed := by rw [hq]; simp
          obtain ⟨x2, o, x1, _⟩ := mem_ready.1 hx
          have x1 : x < l.length := by simpa using (Array.getElem?_eq_some_iff.1 x1).1
          have : x ∈ (List.range l.length).filter fun i => !listed.getD i true := by
            simp only [List.mem_filter, List.mem_range]
            exact ⟨x1, by rw [x2]; rfl⟩
          have hpos := List.length_pos_of_mem this
          unfold unl at hu; omega
      exact ⟨hrd, done listed τ a w hsz hrd hs hg⟩
    | succ fuel ih =>
      intro listed τ a w hsz hu hc hs hg
      refine ⟨fun hrd => done listed τ a w hsz hrd hs hg, fun i hi => ?_⟩
      obtain ⟨x2, o0, x1, x3⟩ := mem_ready.1 hi
      have hil : i < l.length := by simpa using (Array.getElem?_eq_some_iff.1 x1).1
      have hilt : i < tr.length := by omega
      have hol : l[i]? = some l[i] := by simp [hil]
      obtain ⟨R, W, htr⟩ : ∃ R W, tr[i]? = some (R, W) := ⟨tr[i].1, tr[i].2, by simp [hilt]⟩
      have hDi : listed.getD i false = false := by
        rw [Array.getD_eq_getD_getElem?] at x2 ⊢
        have : i < listed.size := by omega
        simpa [this] using x2
      have hdep : ∀ j ∈ depsOf l[i], listed.getD j false = true := by
        intro j hj
        simp only [depsOf, List.mem_map, List.mem_filter] at hj
        obtain ⟨x, ⟨hx, hb⟩, rfl⟩ := hj
        have e0 : o0 = l[i] := by rw [List.getElem?_toArray, hol] at x1; injection x1 with x1; exact x1.symm
        subst e0
        exact x3 x (by simpa using hx) hb
      have hanc := anc_in hd (D := fun j => listed.getD j false) hc hol hdep
      have hanc2 : ∀ q, listed.getD q false = true → q < l.length → i ∉ (ancs l []).getD q [] := by
        intro q hq hql hmem
        have := anc_in hd (D := fun j => listed.getD j false) hc (i := q) (o := l[q]) (by simp [hql]) (hc q l[q] (by simp [hql]) hq) i hmem
        simp only [hDi] at this; cases this
      have hDlt : ∀ j V, (j, V) ∈ rws tr → ∃ R', tr[j]? = some (R', V) ∧ j < l.length := fun j V hj => by
        obtain ⟨R', h⟩ := mem_rws.1 hj
        exact ⟨R', h, by have := (List.getElem?_eq_some_iff.1 h).1; omega⟩
      unfold wpOp
      rw [show l.toArray[i]? = some l[i] by simp [hil]]
      have hreads : ∀ kv ∈ R, get τ kv.1 = some kv.2 := by
        intro kv hkv
        have h0 := (hr.at htr).all kv hkv
        rw [hg, ← h0, get_after (by omega)]
        refine look_congr fun j V hj hk => ?_
        obtain ⟨R', hR', hjl⟩ := hDlt j V hj
        rcases Nat.lt_trichotomy j i with hji | rfl | hij
        · rcases Bool.eq_false_or_eq_true (listed.getD j false) with e | e
          · simp only [e]; simp [hji]
          · exfalso
            rcases hpair hji hR' htr with h | h
            · have := hanc j h; simp only [e] at this; cases this
            · simp only [apart2, keysOf, Bool.and_eq_true, Bool.not_eq_true'] at h
              exact anyKey_false h.1.1 (has_keys.1 hk) (List.mem_map.2 ⟨kv, hkv, rfl⟩)
        · simp only [hDi]; simp
        · rcases Bool.eq_false_or_eq_true (listed.getD j false) with e | e
          · exfalso
            rcases hpair hij htr hR' with h | h
            · exact hanc2 j e hjl h
            · simp only [apart2, keysOf, Bool.and_eq_true, Bool.not_eq_true'] at h
              exact anyKey_false h.2 (has_keys.1 hk) (List.mem_map.2 ⟨kv, hkv, rfl⟩)
          · simp only [e]; simp; omega
      have hset : ∀ j, (listed.setIfInBounds i true).getD j false = (decide (j = i) || listed.getD j false) := by
        intro j
        by_cases e : j = i
        · subst e
          have : j < listed.size := by omega
          simp [Array.getD_eq_getD_getElem?, this]
        · rw [getD_set_ne false (fun h => e h.symm)]; simp [e]
      have step := hst i l[i] R W hol htr τ a w hs hreads (wpAny Γ.P .any l.toArray (lift Γ K) fuel (listed.setIfInBounds i true)) (lift Γ K) (fun a' w' hs' => by
        refine ih _ (W ++ τ) a' w' (by simp [hsz]) ?_ ?_ hs' ?_
        · have : unl l.length (listed.setIfInBounds i true) < unl l.length listed := by
            refine filter_lt (x := i) (fun x hx hq => ?_) (by simpa using hil) (by rw [x2]; rfl) ?_
            · by_cases e : x = i
              · subst e; rw [x2]; rfl
              · rw [getD_set_ne true (fun h => e h.symm)] at hq; exact hq
            · have : i < listed.size := by omega
              simp [Array.getD_eq_getD_getElem?, this]
          omega
        · intro q o hq hl j hj
          rw [hset] at hl ⊢
          by_cases e : q = i
          · subst e
            rw [hol] at hq; injection hq with hq; subst hq
            rw [hdep j hj]; simp
          · have : listed.getD q false = true := by simpa [e] using hl
            rw [hc q o hq this j hj]; simp
        · intro k
          rw [get_app, hg]
          obtain ⟨us, vs, hsp, hu', hv'⟩ := rws_split htr
          by_cases hk : has W k = true
          · rw [if_pos hk, hsp, look_app (fun j V hj hkj => ?_)]
            · simp only [look, hset]; simp [hk]
            · have hji := hu' j V hj
              obtain ⟨R', hR', hjl⟩ := hDlt j V (by rw [hsp]; simp [hj])
              rw [hset]
              have hne : ¬ j = i := by omega
              rcases Bool.eq_false_or_eq_true (listed.getD j false) with e | e
              · exfalso
                rcases hpair hji htr hR' with h | h
                · exact hanc2 j e hjl h
                · simp only [apart2, keysOf, Bool.and_eq_true, Bool.not_eq_true'] at h
                  exact anyKey_false h.1.2 (has_keys.1 hk) (has_keys.1 hkj)
              · simp [hne, e]
          · rw [if_neg hk]
            refine look_congr fun j V hj hkj => ?_
            rw [hset]
            by_cases e : j = i
            · subst e
              obtain ⟨R', hR', _⟩ := hDlt j V hj
              rw [htr] at hR'; injection hR' with hR'
              injection hR' with _ h2
              rw [h2] at hk; exact absurd hkj hk
            · simp [e])
      split at step <;> rename_i hw
      · dsimp only; rw [if_pos hw]; exact .inl step
      · dsimp only; rw [if_neg hw]; exact step
  refine key l.length (Array.replicate l.length false) σ a { w with drawn := w.drawn + 1 } (by simp) ?_ ?_ ?_ ?_
  · unfold unl
    exact Nat.le_trans (List.length_filter_le _ _) (by simp)
  · intro i o hi hl
    have hil := (List.getElem?_eq_some_iff.1 hi).1
    simp [Array.getD_eq_getD_getElem?, hil] at hl
  · obtain ⟨ρ, I, hs⟩ := hs
    exact ⟨ρ, I, hs.world (w' := w.drew) ⟨rfl, rfl, rfl, Nat.le_refl _, fun _ _ => rfl⟩⟩
  · intro k
    refine (look_none fun j W hj _ => ?_).symm
    obtain ⟨R', hR'⟩ := mem_rws.1 hj
    have hjl : j < l.length := by have := (List.getElem?_eq_some_iff.1 hR').1; omega
    simp [Array.getD_eq_getD_getElem?, hjl]
end Cl
end Go.Proofs.Ytgmckbchcpfhcaa
