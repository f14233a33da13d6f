/- Walks over clean states, printed by wg.py. No statement is proved here. -/
import Derived.Test.YtmbodpmhokbapaaCl18
import Derived.Test.YtmbodpmhokbapaaC23
namespace Go.Proofs.Ytmbodpmhokbapaa
namespace Cl
open Go.ChangeShapes Go.WideShapes Go.ChangeAt Go.RowKit

/-- numbers as ints -/
def nI (L : List Nat) : List Int := L.map (fun x => ((x : Nat) : Int))
def gN (L : List Nat) (i : Nat) : Nat := L.getD i 0
theorem nI_len (L : List Nat) : (nI L).length = L.length := by unfold nI; simp
theorem gN_eq {L : List Nat} {i : Nat} (h : i < L.length) : gN L i = L[i] := by unfold gN; rw [List.getD_eq_getElem?_getD, List.getElem?_eq_getElem h]; rfl
theorem gI_nI {L : List Nat} {i : Nat} (h : i < L.length) : gI (nI L) i = ((gN L i : Nat) : Int) := by
  rw [gI_eq (by rw [nI_len]; exact h), gN_eq h]; unfold nI; simp
theorem nI_app (L : List Nat) (x : Nat) : nI L ++ [((x : Nat) : Int)] = nI (L ++ [x]) := by unfold nI; simp
/-- wide search, on its way -/
structure BT (s k : Nat) (L lst : List Nat) (i t : Nat) (M : List Nat) : Prop where
  eq : M = (nbT (gN lst i) t).foldl (gst (okE (free10 s)) (gN lst i)) lst
  nd : M.Nodup
  lt : ∀ z, z ∈ M → z < 100
  di : ∀ z, z ∈ M → z ∉ L
  le : i + 1 ≤ M.length
  ow : gN M i = gN lst i
structure BG (s k : Nat) (L lst : List Nat) (i : Nat) : Prop where
  sc : ScanI s k L
  fr : free10 s k = true
  kn : k ∉ L
  g : GInv nb10 (okE (free10 s)) k lst i
  lt : ∀ z, z ∈ lst → z < 100
  di : ∀ z, z ∈ lst → z ∉ L
theorem BG.zero {s k : Nat} {L : List Nat} (h : ScanI s k L) (hf : free10 s k = true) (hk : k ∉ L) : BG s k L [k] 0 :=
  ⟨h, hf, hk, GInv.init _ _ _, fun z hz => by rw [List.mem_singleton] at hz; subst hz; exact free10_lt hf, fun z hz => by rw [List.mem_singleton] at hz; subst hz; exact hk⟩
theorem BG.len {s k : Nat} {L lst : List Nat} {i : Nat} (h : BG s k L lst i) : lst.length ≤ 100 := nodup_len 100 lst h.g.nd h.lt
theorem BG.at {s k : Nat} {L lst : List Nat} {i : Nat} (h : BG s k L lst i) (hi : i < lst.length) : gN lst i < 100 := by rw [gN_eq hi]; exact h.lt _ (List.getElem_mem hi)
theorem BT.zero {s k : Nat} {L lst : List Nat} {i : Nat} (h : BG s k L lst i) (hi : i < lst.length) : BT s k L lst i 0 lst := ⟨rfl, h.g.nd, h.lt, h.di, hi, rfl⟩
theorem BT.len {s k : Nat} {L lst M : List Nat} {i t : Nat} (h : BT s k L lst i t M) : M.length ≤ 100 := nodup_len 100 M h.nd h.lt
theorem own_xy {z : Nat} (h : z < 100) : (0 ≤ ((z % 10 : Nat) : Int) ∧ ((z % 10 : Nat) : Int) ≤ 9) ∧ (0 ≤ ((z / 10 : Nat) : Int) ∧ ((z / 10 : Nat) : Int) ≤ 9) ∧ kxy ((z % 10 : Nat) : Int) ((z / 10 : Nat) : Int) = z := by unfold kxy; omega
theorem off_own {z p q : Nat} (h : z < 100) (hq : q < 3) : off10 z (3 * p + q) = (inB (((z % 10 : Nat) : Int) + ((q : Int) - 1)) 0 9 && inB (((z / 10 : Nat) : Int) + ((p : Int) - 1)) 0 9) := by
  obtain ⟨h1, h2, h3⟩ := own_xy h
  have := off_kxy (p := p) h1 h2 hq
  rw [h3] at this; exact this
theorem at_own {z p q : Nat} (h : z < 100) (hq : q < 3) (hx2 : 0 ≤ ((z % 10 : Nat) : Int) + ((q : Int) - 1)) (hy2 : 0 ≤ ((z / 10 : Nat) : Int) + ((p : Int) - 1)) : at10 z (3 * p + q) = kxy (((z % 10 : Nat) : Int) + ((q : Int) - 1)) (((z / 10 : Nat) : Int) + ((p : Int) - 1)) := by
  obtain ⟨h1, h2, h3⟩ := own_xy h
  have := at_kxy (p := p) h1 h2 hq hx2 hy2
  rw [h3] at this; exact this
/-- a neighbor that is out of the square -/
theorem BT.no1 {s k : Nat} {L lst M : List Nat} {i p q : Nat} (h : BT s k L lst i (3 * p + q) M) (hz : gN lst i < 100) (hq : q < 3) (hf : (inB (((gN lst i % 10 : Nat) : Int) + ((q : Int) - 1)) 0 9 && inB (((gN lst i / 10 : Nat) : Int) + ((p : Int) - 1)) 0 9) = false) : BT s k L lst i (3 * p + (q + 1)) M := by
  refine ⟨?_, h.nd, h.lt, h.di, h.le, h.ow⟩
  rw [show 3 * p + (q + 1) = 3 * p + q + 1 from rfl, nbT_no (by rw [off_own hz hq]; exact hf)]
  exact h.eq
theorem BT.step {s k : Nat} {L lst M : List Nat} {i p q : Nat} (h : BT s k L lst i (3 * p + q) M) (hz : gN lst i < 100) (hp : p < 3) (hq : q < 3) (hx : 0 ≤ ((gN lst i % 10 : Nat) : Int) + ((q : Int) - 1) ∧ ((gN lst i % 10 : Nat) : Int) + ((q : Int) - 1) ≤ 9) (hy : 0 ≤ ((gN lst i / 10 : Nat) : Int) + ((p : Int) - 1) ∧ ((gN lst i / 10 : Nat) : Int) + ((p : Int) - 1) ≤ 9) :
    (nbT (gN lst i) (3 * p + (q + 1))).foldl (gst (okE (free10 s)) (gN lst i)) lst = gst (okE (free10 s)) (gN lst i) M (kxy (((gN lst i % 10 : Nat) : Int) + ((q : Int) - 1)) (((gN lst i / 10 : Nat) : Int) + ((p : Int) - 1))) ∧ kxy (((gN lst i % 10 : Nat) : Int) + ((q : Int) - 1)) (((gN lst i / 10 : Nat) : Int) + ((p : Int) - 1)) ∈ nb10 (gN lst i) := by
  have ho : off10 (gN lst i) (3 * p + q) = true := by rw [off_own hz hq, inB_true.2 hx, inB_true.2 hy]; rfl
  refine ⟨?_, ?_⟩
  · rw [show 3 * p + (q + 1) = 3 * p + q + 1 from rfl, nbT_yes ho, List.foldl_append, ← h.eq, at_own hz hq hx.1 hy.1]; rfl
  · rw [← at_own hz hq hx.1 hy.1]
    rw [mem_nb10 hz, at_own hz hq hx.1 hy.1]
    obtain ⟨e1, e2, e3⟩ := kxy_at hx hy
    refine ⟨e3, ?_⟩
    rw [e1, e2]; omega
/-- a neighbor that is marked or belongs to the region -/
theorem BT.no2 {s k : Nat} {L lst M : List Nat} {i p q : Nat} (hg : BG s k L lst i) (hi : i < lst.length) (h : BT s k L lst i (3 * p + q) M) (hp : p < 3) (hq : q < 3) (hx : 0 ≤ ((gN lst i % 10 : Nat) : Int) + ((q : Int) - 1) ∧ ((gN lst i % 10 : Nat) : Int) + ((q : Int) - 1) ≤ 9) (hy : 0 ≤ ((gN lst i / 10 : Nat) : Int) + ((p : Int) - 1) ∧ ((gN lst i / 10 : Nat) : Int) + ((p : Int) - 1) ≤ 9)
    (hf : kxy (((gN lst i % 10 : Nat) : Int) + ((q : Int) - 1)) (((gN lst i / 10 : Nat) : Int) + ((p : Int) - 1)) ∈ L ++ M ∨ free10 s (kxy (((gN lst i % 10 : Nat) : Int) + ((q : Int) - 1)) (((gN lst i / 10 : Nat) : Int) + ((p : Int) - 1))) = false) : BT s k L lst i (3 * p + (q + 1)) M := by
  obtain ⟨e1, e2⟩ := h.step (hg.at hi) hp hq hx hy
  refine ⟨?_, h.nd, h.lt, h.di, h.le, h.ow⟩
  rw [e1]
  refine (gst_no ?_).symm
  rcases hf with hf | hf
  · rcases List.mem_append.1 hf with hf | hf
    · refine .inl ?_
      rcases Bool.eq_false_or_eq_true (free10 s (kxy (((gN lst i % 10 : Nat) : Int) + ((q : Int) - 1)) (((gN lst i / 10 : Nat) : Int) + ((p : Int) - 1)))) with h1 | h1
      · exact absurd hf (scan_new hg.sc hg.fr hg.kn hg.g (x := gN lst i) (by rw [gN_eq hi]; exact List.getElem_mem hi) e2 h1)
      · exact h1
    · exact .inr hf
  · exact .inl hf
theorem BT.yes {s k : Nat} {L lst M : List Nat} {i p q : Nat} (hg : BG s k L lst i) (hi : i < lst.length) (h : BT s k L lst i (3 * p + q) M) (hp : p < 3) (hq : q < 3) (hx : 0 ≤ ((gN lst i % 10 : Nat) : Int) + ((q : Int) - 1) ∧ ((gN lst i % 10 : Nat) : Int) + ((q : Int) - 1) ≤ 9) (hy : 0 ≤ ((gN lst i / 10 : Nat) : Int) + ((p : Int) - 1) ∧ ((gN lst i / 10 : Nat) : Int) + ((p : Int) - 1) ≤ 9)
    (h1 : kxy (((gN lst i % 10 : Nat) : Int) + ((q : Int) - 1)) (((gN lst i / 10 : Nat) : Int) + ((p : Int) - 1)) ∉ L ++ M) (h2 : free10 s (kxy (((gN lst i % 10 : Nat) : Int) + ((q : Int) - 1)) (((gN lst i / 10 : Nat) : Int) + ((p : Int) - 1))) = true) : BT s k L lst i (3 * p + (q + 1)) (M ++ [kxy (((gN lst i % 10 : Nat) : Int) + ((q : Int) - 1)) (((gN lst i / 10 : Nat) : Int) + ((p : Int) - 1))]) := by
  obtain ⟨e1, e2⟩ := h.step (hg.at hi) hp hq hx hy
  rw [List.mem_append, not_or] at h1
  refine ⟨?_, ?_, fun z hz => ?_, fun z hz => ?_, by rw [List.length_append]; have := h.le; omega, by rw [← h.ow]; have := h.le; rw [gN_eq (by rw [List.length_append]; omega), gN_eq (by omega), List.getElem_append_left]⟩
  · rw [e1, gst_yes (ok := okE (free10 s)) h2 h1.2]
  · rw [List.nodup_append]
    refine ⟨h.nd, by simp, fun a ha b hb e => ?_⟩
    rw [List.mem_singleton] at hb; subst hb; subst e; exact h1.2 ha
  · rw [List.mem_append, List.mem_singleton] at hz
    rcases hz with hz | rfl
    · exact h.lt z hz
    · exact (kxy_at hx hy).2.2
  · rw [List.mem_append, List.mem_singleton] at hz
    rcases hz with hz | rfl
    · exact h.di z hz
    · exact h1.1
theorem BT.out {s k : Nat} {L lst M : List Nat} {i p : Nat} (hg : BG s k L lst i) (hi : i < lst.length) (h : BT s k L lst i (3 * p) M) (hp : p = 3) : BG s k L M (i + 1) := by
  subst hp
  have e : M = grnd nb10 (okE (free10 s)) lst lst[i] := by rw [← gN_eq hi]; exact h.eq
  exact ⟨hg.sc, hg.fr, hg.kn, by rw [e]; exact hg.g.next hi, h.lt, h.di⟩
theorem BG.end {s k : Nat} {L lst : List Nat} {i : Nat} (h : BG s k L lst i) (hi : ¬ i < lst.length) : ScanI s (k + 1) (L ++ lst) ∧ rt s (k + 1) = rt s k + 1 := by
  have := h.sc.wide h.fr h.kn h.g hi h.di
  exact ⟨this.1, roots_yes this.2⟩
theorem skip_no {s k : Nat} {L : List Nat} (h : ScanI s k L) (hk : free10 s k = false ∨ k ∈ L) : ScanI s (k + 1) L ∧ rt s (k + 1) = rt s k := ⟨(h.skip hk).1, roots_no (h.skip hk).2⟩
theorem free_hasC {l : List Int} (ho : regOk l = true) {k : Nat} (hk : k < 100) {b : Bool} (h : hasC l (c10 k) = b) : free10 (regSet l) k = !b := by
  unfold free10; rw [decide_eq_true hk, Bool.true_and, ← h]
  unfold hasC hasS; rw [ho]; rfl
theorem free_hasC2 {l : List Int} (ho : regOk l = true) {x y : Int} (hx : 0 ≤ x ∧ x ≤ 9) (hy : 0 ≤ y ∧ y ≤ 9) {b : Bool} (h : hasC l ⟨x - 1, y - 1⟩ = b) : free10 (regSet l) (kxy x y) = !b := by
  rw [free_kxy hx hy, ← h]
  unfold hasC hasS; rw [ho]; rfl

theorem qC24_ti_29 : TI Try.prog 29 true 1 := ⟨⟨_, Try.underlying29, rfl⟩, by kernel_rfl⟩
theorem qC24_ti_65 : TI Try.prog 65 false 1 := ⟨⟨_, Try.underlying65, rfl⟩, by kernel_rfl⟩
theorem qC24_ti_84 : TI Try.prog 84 false 1 := ⟨⟨_, Try.underlying84, rfl⟩, by kernel_rfl⟩
theorem qC24_ti_97 : TI Try.prog 97 true 100 := ⟨⟨_, Try.underlying97, rfl⟩, by kernel_rfl⟩
theorem qC24_ti_98 : TI Try.prog 98 false 1 := ⟨⟨_, Try.underlying98, rfl⟩, by kernel_rfl⟩
theorem qC24_zi_65 : ZI Try.prog 65 (.int .u64 0) 1 8 := by unfold ZI; kernel_rfl
theorem qC24_zi_84 : ZI Try.prog 84 (.nilFunc) 1 8 := by unfold ZI; kernel_rfl
theorem qC24_zi_97 : ZI Try.prog 97 (.agg (bsl (List.replicate 100 false)).toArray) 100 100 := by unfold ZI; kernel_rfl
theorem qC24_zi_98 : ZI Try.prog 98 (.nilFunc) 1 8 := by unfold ZI; kernel_rfl
set_option maxHeartbeats 4000000 in
set_option maxRecDepth 100000 in
theorem impl_CountHoles_fn (l : List Int) (hl : l.length ≤ 4194304) : Fn Try.prog 79 [.agg [(.slv l.length 1 (isl l) : A)]] [.val (.int .i64 (hol l))] := by
 refine fn_intro (N := 37) Try.func79 rfl (by kernel_rfl) rfl (Nat.le_of_ble_eq_true rfl) [1, 3, 4, 6, 7, 11, 14, 27, 31] (ret1 rfl) (fun W => ?_)
 show Wp _ _ _ [(.s 0, some (.s (V.b (.agg [(.slv l.length 1 (isl l) : A)])))), (.o 1, some .free), (.o 3, some .free), (.o 4, some .free), (.o 6, some .free), (.o 7, some .free), (.o 11, some .free), (.o 14, some .free), (.o 27, some .free), (.o 31, some .free)]
 refine wp_seq' ?_
 refine wp_region_t ?_
 refine w1 (acts_box (d := 1) (h := 1) (b := .agg [(.slv l.length 1 (isl l) : A)]) (ltN rfl) (OpX.tmp 0 (V.b (.agg [(.slv l.length 1 (isl l) : A)]))) (by intro y hy; simp [B.cs] at hy; subst hy; rfl)) ?_
 refine w1 (acts_assign (d := 2) (ltN rfl) (OpX.const (.int .i64 0))) ?_
 refine wpl_nil ?_
 refine wp_seq' ?_
 refine wp_seq' ?_
 refine wp_region_t ?_
 refine w1 (acts_load_owns (d := 10) (t := 1) (h := 1) (off := 0) (o := ⟨29, 1, true, [(.slv l.length 1 (isl l) : A)]⟩)  (xs := [(.slv l.length 1 (isl l) : A)]) (ltN rfl) qC24_ti_29 rfl (by decide) rfl) ?_
 refine w1 (acts_call1 (d := 11) (ltN rfl) (impl_RegionOk_fn l (by omega)) (ArgVs.cons (ArgV.regv 10 l.length 1 (isl l)) (ArgVs.nil)) (ResV.val _)) ?_
 refine w1 (acts_un (d := 12) (ltN rfl) (OpV.tmp 11 (.bool (regOk l))) (r_not (c := (!(regOk l))) rfl)) ?_
 refine wpl_nil ?_
 refine wp_if (t := 12) ((!(regOk l))) (by kernel_rfl) (fun c1 => ?_) (fun c1 => ?_)
 ·skip
  have c2 : (regOk l) = false := by simpa using c1
  refine wp_seq' ?_
  refine wp_region_t ?_
  refine w1 (acts_assign (d := 2) (ltN rfl) (OpX.const (.int .i64 0))) ?_
  refine wpl_nil ?_
  refine wp_ret' ?_
  exact VRes.tmp 2 (.a (.val (.int .i64 0))) _ (by kernel_rfl) (bval (congrArg (Value.int .i64) (by exact (hol_no (by simp_all)).symm)))
 ·skip
  have c3 : (regOk l) = true := by simpa using c1
  refine wp_skip' ?_
  refine wp_seq' ?_
  refine wp_region_t ?_
  refine w1 (acts_load_owns (d := 13) (t := 1) (h := 1) (off := 0) (o := ⟨29, 1, true, [(.slv l.length 1 (isl l) : A)]⟩)  (xs := [(.slv l.length 1 (isl l) : A)]) (ltN rfl) qC24_ti_29 rfl (by decide) rfl) ?_
  refine w1 (acts_call1 (d := 14) (ltN rfl) (impl_Region__set_fn l (by omega)) (ArgVs.cons (ArgV.regv 13 l.length 1 (isl l)) (ArgVs.nil)) (ResV.val _)) ?_
  refine w1 (acts_build (d := 15) (t := 97) (cells := bsl (List.replicate 100 false)) (ltN rfl) OpVs.nil (by kernel_rfl)) ?_
  refine w1 (acts_alloc' (d := 3) (h := 3) (cap := 1) (s := 1) (cells := [(.val (.int .u64 0) : A)]) (ltN rfl) qC24_zi_65 rfl rfl (by decide)) ?_
  refine w1 (acts_alloc' (d := 4) (h := 4) (cap := 100) (s := 1) (cells := pl (bsl (List.replicate 100 false))) (ltN rfl) qC24_zi_97 rfl (by (simp [pl, bsl]; done)) (by decide)) ?_
  refine w1 (acts_store (t := 3) (h := 3) (off := 0) (o := ⟨65, 1, true, [(.val (.int .u64 0) : A)]⟩) (b := .a (.val (.int .u64 (((regSet l) : Nat) : Int)))) (cells := [(.val (.int .u64 (((regSet l) : Nat) : Int)) : A)]) qC24_ti_65 (OpX.tmp 14 (V.v (.int .u64 (((regSet l) : Nat) : Int)))) rfl (by decide) (by intro y hy; simp [B.cs] at hy; subst hy; rfl) (Nat.le_of_ble_eq_true rfl) rfl) ?_
  refine w1 (acts_store (t := 4) (h := 4) (off := 0) (o := ⟨97, 1, true, pl (bsl (List.replicate 100 false))⟩) (b := .agg ((bsl (List.replicate 100 false)).map A.val)) (cells := pl (bsl (List.replicate 100 false))) qC24_ti_97 (OpX.tmp 15 (V.av (bsl (List.replicate 100 false)))) (by (simp [B.cs, bsl]; done)) (by decide) (by simpa [B.cs, pl] using pl_one (bsl_one' _)) (by (simp [pl, bsl]; done)) (by simp [pl, B.cs, bsl])) ?_
  refine w1 (acts_assign (d := 5) (ltN rfl) (OpX.const (.int .i64 (-1)))) ?_
  refine wpl_nil ?_
  refine wp_seq' ?_
  refine wp_region_t ?_
  refine w1 (acts_makeFunc (d := 16) (f := 94) (l := [(4, 4), (3, 3)]) (ltN rfl)) ?_
  refine w1 (acts_alloc' (d := 6) (h := 6) (cap := 1) (s := 1) (cells := [(.val (.nilFunc) : A)]) (ltN rfl) qC24_zi_84 rfl rfl (by decide)) ?_
  refine w1 (acts_store (t := 6) (h := 6) (off := 0) (o := ⟨84, 1, true, [(.val (.nilFunc) : A)]⟩) (b := .a (.fn 94 [4, 3])) (cells := [(.fn 94 [4, 3] : A)]) qC24_ti_84 (OpX.tmp 16 (V.b (.a (.fn 94 [4, 3])))) rfl (by decide) (by intro y hy; simp [B.cs] at hy; subst hy; rfl) (Nat.le_of_ble_eq_true rfl) rfl) ?_
  refine wpl_nil ?_
  refine wp_seq' ?_
  refine wp_region_t ?_
  refine w1 (acts_alloc' (d := 7) (h := 7) (cap := 1) (s := 1) (cells := [(.val (.nilFunc) : A)]) (ltN rfl) qC24_zi_98 rfl rfl (by decide)) ?_
  refine wpl_nil ?_
  refine wp_seq' ?_
  refine wp_region_t ?_
  refine w1 (acts_makeFunc (d := 17) (f := 96) (l := [(4, 4), (6, 6), (7, 7)]) (ltN rfl)) ?_
  refine w1 (acts_store (t := 7) (h := 7) (off := 0) (o := ⟨98, 1, true, [(.val (.nilFunc) : A)]⟩) (b := .a (.fn 96 [4, 6, 7])) (cells := [(.fn 96 [4, 6, 7] : A)]) qC24_ti_98 (OpX.tmp 17 (V.b (.a (.fn 96 [4, 6, 7])))) rfl (by decide) (by intro y hy; simp [B.cs] at hy; subst hy; rfl) (Nat.le_of_ble_eq_true rfl) rfl) ?_
  refine wpl_nil ?_
  refine wp_seq' ?_
  refine wp_seq' ?_
  refine wp_region_t ?_
  refine w1 (acts_move (d := 18) (ltN rfl) (OpX.const (.int .i64 0))) ?_
  refine wpl_nil ?_
  refine wp_block' ?_
  refine wp_loop' (fun (x : Nat × (List Nat)) => match x with | (a, L) => a ≤ 10 ∧ ScanI (regSet l) (10 * a) L) (fun (x : Nat × (List Nat)) => match x with | (a, L) => [(.s 5, some (.s (V.v (.int .i64 (((rt (regSet l) (10 * a) : Nat) : Int) - 1))))), (.s 6, some (.s (V.p 6 0))), (.s 7, some (.s (V.p 7 0))), (.s 18, some (.s (V.v (.int .i64 ((a : Nat) : Int))))), (.o 3, some (.o ⟨65, 1, true, [(.val (.int .u64 (((regSet l) : Nat) : Int)) : A)]⟩)), (.o 4, some (.o ⟨97, 1, true, pl (bsl (mkB L))⟩)), (.o 6, some (.o ⟨84, 1, true, [(.fn 94 [4, 3] : A)]⟩)), (.o 7, some (.o ⟨98, 1, true, [(.fn 96 [4, 6, 7] : A)]⟩)), (.o 1, some .free), (.o 11, some .free), (.o 14, some .free), (.o 27, some .free), (.o 31, some .free)]) (fun (x : Nat × (List Nat)) => match x with | (a, L) => 10 - a) ((0 : Nat), ([] : List Nat)) (by exact ⟨by omega, ScanI.zero _⟩) (weak_of id [1, 11, 14, 27, 31] (by kernel_rfl) (wk_s (v' := V.v (.int .i64 (-1))) (by kernel_rfl) (vint (by rfl)) rfl (wk_s (v' := V.p 6 0) (by kernel_rfl) rfl rfl (wk_s (v' := V.p 7 0) (by kernel_rfl) rfl rfl (wk_s (v' := V.v (.int .i64 0)) (by kernel_rfl) (vint (by rfl)) rfl (wk_o (o' := ⟨65, 1, true, [(.val (.int .u64 (((regSet l) : Nat) : Int)) : A)]⟩) (by kernel_rfl) (renob_l (fun h => h) rfl rfl) rfl (wk_o (o' := ⟨97, 1, true, pl (bsl (List.replicate 100 false))⟩) (by kernel_rfl) (renob_eq (fun h => h) (congrArg bsl (by rfl))) rfl (wk_o (o' := ⟨84, 1, true, [(.fn 94 [4, 3] : A)]⟩) (by kernel_rfl) (renob_l (fun h => h) rfl rfl) rfl (wk_o (o' := ⟨98, 1, true, [(.fn 96 [4, 6, 7] : A)]⟩) (by kernel_rfl) (renob_l (fun h => h) rfl rfl) rfl (wk_f rfl (wk_f rfl (wk_f rfl (wk_f rfl (wk_f rfl (wk_nil))))))))))))))) ?_
  rintro ⟨a, L⟩ inv4
  replace inv4 : a ≤ 10 ∧ ScanI (regSet l) (10 * a) L := inv4
  obtain ⟨inv4_0, inv4_1⟩ := inv4
  show Wp _ _ _ [(.s 5, some (.s (V.v (.int .i64 (((rt (regSet l) (10 * a) : Nat) : Int) - 1))))), (.s 6, some (.s (V.p 6 0))), (.s 7, some (.s (V.p 7 0))), (.s 18, some (.s (V.v (.int .i64 ((a : Nat) : Int))))), (.o 3, some (.o ⟨65, 1, true, [(.val (.int .u64 (((regSet l) : Nat) : Int)) : A)]⟩)), (.o 4, some (.o ⟨97, 1, true, pl (bsl (mkB L))⟩)), (.o 6, some (.o ⟨84, 1, true, [(.fn 94 [4, 3] : A)]⟩)), (.o 7, some (.o ⟨98, 1, true, [(.fn 96 [4, 6, 7] : A)]⟩)), (.o 1, some .free), (.o 11, some .free), (.o 14, some .free), (.o 27, some .free), (.o 31, some .free)]
  have hS : ScanI (regSet l) (10 * a) L := by assumption
  have hrl := rt_le (regSet l) (10 * a)
  refine wp_seq' ?_
  refine wp_region_t ?_
  refine w1 (bn 19 (OpV.tmp 18 (.int .i64 ((a : Nat) : Int))) (OpV.const (.int .i64 10)) (r_lss (c := (decide (((a : Nat) : Int) < 10))) rfl)) ?_
  refine wpl_nil ?_
  refine wp_seq' ?_
  refine wp_if (t := 19) (decide (((a : Nat) : Int) < 10)) (by kernel_rfl) (fun c5 => ?_) (fun c5 => ?_)
  ·skip
   have c5P := of_decide_eq_true c5
   refine wp_skip' ?_
   refine wp_seq' ?_
   refine wp_block' ?_
   refine wp_seq' ?_
   refine wp_region_t ?_
   refine w1 (mv 20 18 (V.v (.int .i64 ((a : Nat) : Int)))) ?_
   refine w1 (asg 8 20 (V.v (.int .i64 ((a : Nat) : Int)))) ?_
   refine wpl_nil ?_
   refine wp_seq' ?_
   refine wp_region_t ?_
   refine w1 (acts_move (d := 21) (ltN rfl) (OpX.const (.int .i64 0))) ?_
   refine wpl_nil ?_
   refine wp_block' ?_
   refine wp_loop' (fun (x : Nat × (List Nat)) => match x with | (b, L2) => b ≤ 10 ∧ ScanI (regSet l) (10 * a + b) L2) (fun (x : Nat × (List Nat)) => match x with | (b, L2) => [(.s 5, some (.s (V.v (.int .i64 (((rt (regSet l) (10 * a + b) : Nat) : Int) - 1))))), (.s 6, some (.s (V.p 6 0))), (.s 7, some (.s (V.p 7 0))), (.s 8, some (.s (V.v (.int .i64 ((a : Nat) : Int))))), (.s 18, some (.s (V.v (.int .i64 ((a : Nat) : Int))))), (.s 21, some (.s (V.v (.int .i64 ((b : Nat) : Int))))), (.o 3, some (.o ⟨65, 1, true, [(.val (.int .u64 (((regSet l) : Nat) : Int)) : A)]⟩)), (.o 4, some (.o ⟨97, 1, true, pl (bsl (mkB L2))⟩)), (.o 6, some (.o ⟨84, 1, true, [(.fn 94 [4, 3] : A)]⟩)), (.o 7, some (.o ⟨98, 1, true, [(.fn 96 [4, 6, 7] : A)]⟩)), (.o 1, some .free), (.o 11, some .free), (.o 14, some .free), (.o 27, some .free), (.o 31, some .free)]) (fun (x : Nat × (List Nat)) => match x with | (b, L2) => 10 - b) ((0 : Nat), (L : List Nat)) (by exact ⟨by omega, hS⟩) (weak_of id [1, 11, 14, 27, 31] (by kernel_rfl) (wk_s (v' := V.v (.int .i64 (((rt (regSet l) (10 * a) : Nat) : Int) - 1))) (by kernel_rfl) (vint (by rfl)) rfl (wk_s (v' := V.p 6 0) (by kernel_rfl) rfl rfl (wk_s (v' := V.p 7 0) (by kernel_rfl) rfl rfl (wk_s (v' := V.v (.int .i64 ((a : Nat) : Int))) (by kernel_rfl) rfl rfl (wk_s (v' := V.v (.int .i64 ((a : Nat) : Int))) (by kernel_rfl) rfl rfl (wk_s (v' := V.v (.int .i64 0)) (by kernel_rfl) (vint (by rfl)) rfl (wk_o (o' := ⟨65, 1, true, [(.val (.int .u64 (((regSet l) : Nat) : Int)) : A)]⟩) (by kernel_rfl) (renob_l (fun h => h) rfl rfl) rfl (wk_o (o' := ⟨97, 1, true, pl (bsl (mkB L))⟩) (by kernel_rfl) (renob_pl (fun h => h)) rfl (wk_o (o' := ⟨84, 1, true, [(.fn 94 [4, 3] : A)]⟩) (by kernel_rfl) (renob_l (fun h => h) rfl rfl) rfl (wk_o (o' := ⟨98, 1, true, [(.fn 96 [4, 6, 7] : A)]⟩) (by kernel_rfl) (renob_l (fun h => h) rfl rfl) rfl (wk_f rfl (wk_f rfl (wk_f rfl (wk_f rfl (wk_f rfl (wk_nil))))))))))))))))) ?_
   rintro ⟨b, L2⟩ inv6
   replace inv6 : b ≤ 10 ∧ ScanI (regSet l) (10 * a + b) L2 := inv6
   obtain ⟨inv6_0, inv6_1⟩ := inv6
   show Wp _ _ _ [(.s 5, some (.s (V.v (.int .i64 (((rt (regSet l) (10 * a + b) : Nat) : Int) - 1))))), (.s 6, some (.s (V.p 6 0))), (.s 7, some (.s (V.p 7 0))), (.s 8, some (.s (V.v (.int .i64 ((a : Nat) : Int))))), (.s 18, some (.s (V.v (.int .i64 ((a : Nat) : Int))))), (.s 21, some (.s (V.v (.int .i64 ((b : Nat) : Int))))), (.o 3, some (.o ⟨65, 1, true, [(.val (.int .u64 (((regSet l) : Nat) : Int)) : A)]⟩)), (.o 4, some (.o ⟨97, 1, true, pl (bsl (mkB L2))⟩)), (.o 6, some (.o ⟨84, 1, true, [(.fn 94 [4, 3] : A)]⟩)), (.o 7, some (.o ⟨98, 1, true, [(.fn 96 [4, 6, 7] : A)]⟩)), (.o 1, some .free), (.o 11, some .free), (.o 14, some .free), (.o 27, some .free), (.o 31, some .free)]
   have hS2 : ScanI (regSet l) (10 * a + b) L2 := by assumption
   have hrl2 := rt_le (regSet l) (10 * a + b)
   refine wp_seq' ?_
   refine wp_region_t ?_
   refine w1 (bn 22 (OpV.tmp 21 (.int .i64 ((b : Nat) : Int))) (OpV.const (.int .i64 10)) (r_lss (c := (decide (((b : Nat) : Int) < 10))) rfl)) ?_
   refine wpl_nil ?_
   refine wp_seq' ?_
   refine wp_if (t := 22) (decide (((b : Nat) : Int) < 10)) (by kernel_rfl) (fun c7 => ?_) (fun c7 => ?_)
   ·skip
    have c7P := of_decide_eq_true c7
    refine wp_skip' ?_
    refine wp_seq' ?_
    refine wp_block' ?_
    refine wp_seq' ?_
    refine wp_region_t ?_
    refine w1 (mv 23 21 (V.v (.int .i64 ((b : Nat) : Int)))) ?_
    refine w1 (asg 9 23 (V.v (.int .i64 ((b : Nat) : Int)))) ?_
    refine wpl_nil ?_
    refine wp_seq' ?_
    refine wp_region_t ?_
    refine w1 (acts_load_own (d := 24) (t := 6) (h := 6) (off := 0) (o := ⟨84, 1, true, [(.fn 94 [4, 3] : A)]⟩)  (x := .fn 94 [4, 3]) (ltN rfl) qC24_ti_84 rfl) ?_
    refine w1 (mv 25 9 (V.v (.int .i64 ((b : Nat) : Int)))) ?_
    refine w1 (mv 26 8 (V.v (.int .i64 ((a : Nat) : Int)))) ?_
    refine w1 (acts_callV (d := 27) (f := 94) (t := 24) (caps := [4, 3]) (os := [(.o 4, some (.o ⟨97, 1, true, pl (bsl (mkB L2))⟩)), (.o 3, some (.o ⟨65, 1, true, [(.val (.int .u64 (((regSet l) : Nat) : Int)) : A)]⟩))]) (os' := [(.o 4, some (.o ⟨97, 1, true, pl (bsl (mkB L2))⟩)), (.o 3, some (.o ⟨65, 1, true, [(.val (.int .u64 (((regSet l) : Nat) : Int)) : A)]⟩))]) (r := V.v (.bool (frB (regSet l) L2 ((b : Nat) : Int) ((a : Nat) : Int)))) (bs := [.a (.val (.int .i64 ((b : Nat) : Int))), .a (.val (.int .i64 ((a : Nat) : Int)))]) (keep := [4, 3]) (new := []) (dead := []) (ltN rfl) (FnO.ren' (impl_CountHoles_1_fn (regSet l) L2 ((b : Nat) : Int) ((a : Nat) : Int) (by exact regSet_lt (by assumption)) (by omega) (by omega)) (subst1 [(2, 4)]) rfl rfl (by kernel_rfl) (by kernel_rfl) ⟨oc_pl (fun _ => rfl), ocs (by kernel_rfl), trivial⟩ (by kernel_rfl) rfl (by simp only [renS, Ob.ren, pl_ren, rws_ren_doms, rws_ren_ints, rws_ren_cels]; rfl) (by simp only [renS, Ob.ren, pl_ren, rws_ren_doms, rws_ren_ints, rws_ren_cels]; rfl) rfl rfl) (by kernel_rfl) ⟨oc_pl (fun _ => rfl), ocs (by kernel_rfl), trivial⟩ (by kernel_rfl) (ArgOs.cons (ArgO.v (OpV.tmp 25 (.int .i64 ((b : Nat) : Int)))) (ArgOs.cons (ArgO.v (OpV.tmp 26 (.int .i64 ((a : Nat) : Int)))) (ArgOs.nil)))) ?_
    refine wpl_nil ?_
    refine wp_if (t := 27) ((frB (regSet l) L2 ((b : Nat) : Int) ((a : Nat) : Int))) (by kernel_rfl) (fun c8 => ?_) (fun c8 => ?_)
    ·skip
     obtain ⟨hk1, hk2, hk3⟩ := scan_yes hS2 (by omega) (by omega) c8
     refine wp_seq' ?_
     refine wp_region_t ?_
     refine w1 (acts_load_own (d := 28) (t := 7) (h := 7) (off := 0) (o := ⟨98, 1, true, [(.fn 96 [4, 6, 7] : A)]⟩)  (x := .fn 96 [4, 6, 7]) (ltN rfl) qC24_ti_98 rfl) ?_
     refine w1 (mv 29 9 (V.v (.int .i64 ((b : Nat) : Int)))) ?_
     refine w1 (mv 30 8 (V.v (.int .i64 ((a : Nat) : Int)))) ?_
     refine w1 (acts_callV (d := 31) (f := 96) (t := 28) (caps := [4, 6, 7]) (os := [(.o 4, some (.o ⟨97, 1, true, pl (bsl (mkB L2))⟩)), (.o 6, some (.o ⟨84, 1, true, [(.fn 94 [4, 3] : A)]⟩)), (.o 7, some (.o ⟨98, 1, true, [(.fn 96 [4, 6, 7] : A)]⟩)), (.o 3, some (.o ⟨65, 1, true, [(.val (.int .u64 (((regSet l) : Nat) : Int)) : A)]⟩))]) (os' := [(.o 4, some (.o ⟨97, 1, true, pl (bsl (mkB (dfs nb10 (free10 (regSet l)) 101 L2 (kxy ((b : Nat) : Int) ((a : Nat) : Int)))))⟩)), (.o 6, some (.o ⟨84, 1, true, [(.fn 94 [4, 3] : A)]⟩)), (.o 7, some (.o ⟨98, 1, true, [(.fn 96 [4, 6, 7] : A)]⟩)), (.o 3, some (.o ⟨65, 1, true, [(.val (.int .u64 (((regSet l) : Nat) : Int)) : A)]⟩))]) (r := V.v (.tuple #[])) (bs := [.a (.val (.int .i64 ((b : Nat) : Int))), .a (.val (.int .i64 ((a : Nat) : Int)))]) (keep := [4, 6, 7, 3]) (new := []) (dead := []) (ltN rfl) (FnO.ren' (impl_CountHoles_2_fn 101 (regSet l) L2 ((b : Nat) : Int) ((a : Nat) : Int) (by exact regSet_lt (by assumption)) (by omega) (by omega) (by exact hS2.nd) (by exact hS2.lt) (by omega) (by omega)) (subst1 [(2, 4), (3, 6), (4, 7), (5, 3)]) rfl rfl (by kernel_rfl) (by kernel_rfl) ⟨oc_pl (fun _ => rfl), ocs (by kernel_rfl), ocs (by kernel_rfl), ocs (by kernel_rfl), trivial⟩ (by kernel_rfl) rfl (by simp only [renS, Ob.ren, pl_ren, rws_ren_doms, rws_ren_ints, rws_ren_cels]; rfl) (by simp only [renS, Ob.ren, pl_ren, rws_ren_doms, rws_ren_ints, rws_ren_cels]; rfl) rfl rfl) (by kernel_rfl) ⟨oc_pl (fun _ => rfl), ocs (by kernel_rfl), ocs (by kernel_rfl), ocs (by kernel_rfl), trivial⟩ (by kernel_rfl) (ArgOs.cons (ArgO.v (OpV.tmp 29 (.int .i64 ((b : Nat) : Int)))) (ArgOs.cons (ArgO.v (OpV.tmp 30 (.int .i64 ((a : Nat) : Int)))) (ArgOs.nil)))) ?_
     refine wpl_nil ?_
     refine wp_region_t ?_
     refine w1 (mv 32 5 (V.v (.int .i64 (((rt (regSet l) (10 * a + b) : Nat) : Int) - 1)))) ?_
     refine w1 (bn 33 (OpV.tmp 32 (.int .i64 (((rt (regSet l) (10 * a + b) : Nat) : Int) - 1))) (OpV.const (.int .i64 1)) (r_add (c := ((((rt (regSet l) (10 * a + b) : Nat) : Int) - 1) + 1)) (w64 (by omega) (by omega)))) ?_
     refine w1 (asg 5 33 (V.v (.int .i64 ((((rt (regSet l) (10 * a + b) : Nat) : Int) - 1) + 1)))) ?_
     refine wpl_nil ?_
     refine wp_region_t ?_
     refine w1 (bn 34 (OpV.tmp 21 (.int .i64 ((b : Nat) : Int))) (OpV.const (.int .i64 1)) (r_add (c := (((b : Nat) : Int) + 1)) (w64 (by omega) (by omega)))) ?_
     refine w1 (mv 21 34 (V.v (.int .i64 (((b : Nat) : Int) + 1)))) ?_
     refine wpl_nil ?_
     exact loop_back ((b + 1), (dfs nb10 (free10 (regSet l)) 101 L2 (kxy (b : Int) (a : Int)))) (by exact ⟨by omega, hk2⟩) (by show 10 - (b + 1) < 10 - b; omega) (weak_of id [1, 11, 14, 27, 31] (by kernel_rfl) (wk_s (v' := V.v (.int .i64 ((((rt (regSet l) (10 * a + b) : Nat) : Int) - 1) + 1))) (by kernel_rfl) (vint (by omega)) rfl (wk_s (v' := V.p 6 0) (by kernel_rfl) rfl rfl (wk_s (v' := V.p 7 0) (by kernel_rfl) rfl rfl (wk_s (v' := V.v (.int .i64 ((a : Nat) : Int))) (by kernel_rfl) rfl rfl (wk_s (v' := V.v (.int .i64 ((a : Nat) : Int))) (by kernel_rfl) rfl rfl (wk_s (v' := V.v (.int .i64 (((b : Nat) : Int) + 1))) (by kernel_rfl) (vint (by rfl)) rfl (wk_o (o' := ⟨65, 1, true, [(.val (.int .u64 (((regSet l) : Nat) : Int)) : A)]⟩) (by kernel_rfl) (renob_l (fun h => h) rfl rfl) rfl (wk_o (o' := ⟨97, 1, true, pl (bsl (mkB (dfs nb10 (free10 (regSet l)) 101 L2 (kxy ((b : Nat) : Int) ((a : Nat) : Int)))))⟩) (by kernel_rfl) (renob_eq (fun h => h) (congrArg bsl (by rfl))) rfl (wk_o (o' := ⟨84, 1, true, [(.fn 94 [4, 3] : A)]⟩) (by kernel_rfl) (renob_l (fun h => h) rfl rfl) rfl (wk_o (o' := ⟨98, 1, true, [(.fn 96 [4, 6, 7] : A)]⟩) (by kernel_rfl) (renob_l (fun h => h) rfl rfl) rfl (wk_f rfl (wk_f rfl (wk_f rfl (wk_f rfl (wk_f rfl (wk_nil)))))))))))))))))
    ·skip
     obtain ⟨hk2, hk3⟩ := scan_no hS2 (by omega) (by omega) c8
     refine wp_skip' ?_
     refine wp_region_t ?_
     refine w1 (bn 34 (OpV.tmp 21 (.int .i64 ((b : Nat) : Int))) (OpV.const (.int .i64 1)) (r_add (c := (((b : Nat) : Int) + 1)) (w64 (by omega) (by omega)))) ?_
     refine w1 (mv 21 34 (V.v (.int .i64 (((b : Nat) : Int) + 1)))) ?_
     refine wpl_nil ?_
     exact loop_back ((b + 1), L2) (by exact ⟨by omega, hk2⟩) (by show 10 - (b + 1) < 10 - b; omega) (weak_of id [1, 11, 14, 27, 31] (by kernel_rfl) (wk_s (v' := V.v (.int .i64 (((rt (regSet l) (10 * a + b) : Nat) : Int) - 1))) (by kernel_rfl) (vint (by omega)) rfl (wk_s (v' := V.p 6 0) (by kernel_rfl) rfl rfl (wk_s (v' := V.p 7 0) (by kernel_rfl) rfl rfl (wk_s (v' := V.v (.int .i64 ((a : Nat) : Int))) (by kernel_rfl) rfl rfl (wk_s (v' := V.v (.int .i64 ((a : Nat) : Int))) (by kernel_rfl) rfl rfl (wk_s (v' := V.v (.int .i64 (((b : Nat) : Int) + 1))) (by kernel_rfl) (vint (by rfl)) rfl (wk_o (o' := ⟨65, 1, true, [(.val (.int .u64 (((regSet l) : Nat) : Int)) : A)]⟩) (by kernel_rfl) (renob_l (fun h => h) rfl rfl) rfl (wk_o (o' := ⟨97, 1, true, pl (bsl (mkB L2))⟩) (by kernel_rfl) (renob_pl (fun h => h)) rfl (wk_o (o' := ⟨84, 1, true, [(.fn 94 [4, 3] : A)]⟩) (by kernel_rfl) (renob_l (fun h => h) rfl rfl) rfl (wk_o (o' := ⟨98, 1, true, [(.fn 96 [4, 6, 7] : A)]⟩) (by kernel_rfl) (renob_l (fun h => h) rfl rfl) rfl (wk_f rfl (wk_f rfl (wk_f rfl (wk_f rfl (wk_f rfl (wk_nil)))))))))))))))))
   ·skip
    have c7P := of_decide_eq_false c7
    refine wp_exit' ?_
    refine wp_region_t ?_
    refine w1 (bn 35 (OpV.tmp 18 (.int .i64 ((a : Nat) : Int))) (OpV.const (.int .i64 1)) (r_add (c := (((a : Nat) : Int) + 1)) (w64 (by omega) (by omega)))) ?_
    refine w1 (mv 18 35 (V.v (.int .i64 (((a : Nat) : Int) + 1)))) ?_
    refine wpl_nil ?_
    exact loop_back ((a + 1), L2) (by refine ⟨by omega, ?_⟩; (have e : b = 10 := by omega); subst e; exact hS2) (by show 10 - (a + 1) < 10 - a; omega) (weak_of id [1, 11, 14, 27, 31] (by kernel_rfl) (wk_s (v' := V.v (.int .i64 (((rt (regSet l) (10 * a + b) : Nat) : Int) - 1))) (by kernel_rfl) (vint (by ((have e : b = 10 := by omega); subst e; rfl))) rfl (wk_s (v' := V.p 6 0) (by kernel_rfl) rfl rfl (wk_s (v' := V.p 7 0) (by kernel_rfl) rfl rfl (wk_s (v' := V.v (.int .i64 (((a : Nat) : Int) + 1))) (by kernel_rfl) (vint (by rfl)) rfl (wk_o (o' := ⟨65, 1, true, [(.val (.int .u64 (((regSet l) : Nat) : Int)) : A)]⟩) (by kernel_rfl) (renob_l (fun h => h) rfl rfl) rfl (wk_o (o' := ⟨97, 1, true, pl (bsl (mkB L2))⟩) (by kernel_rfl) (renob_pl (fun h => h)) rfl (wk_o (o' := ⟨84, 1, true, [(.fn 94 [4, 3] : A)]⟩) (by kernel_rfl) (renob_l (fun h => h) rfl rfl) rfl (wk_o (o' := ⟨98, 1, true, [(.fn 96 [4, 6, 7] : A)]⟩) (by kernel_rfl) (renob_l (fun h => h) rfl rfl) rfl (wk_f rfl (wk_f rfl (wk_f rfl (wk_f rfl (wk_f rfl (wk_nil)))))))))))))))
  ·skip
   have c5P := of_decide_eq_false c5
   refine wp_exit' ?_
   refine wp_seq' ?_
   refine wp_region_t ?_
   refine w1 (mv 36 5 (V.v (.int .i64 (((rt (regSet l) (10 * a) : Nat) : Int) - 1)))) ?_
   refine w1 (asg 2 36 (V.v (.int .i64 (((rt (regSet l) (10 * a) : Nat) : Int) - 1)))) ?_
   refine wpl_nil ?_
   refine wp_ret' ?_
   exact VRes.tmp 2 (.a (.val (.int .i64 (((rt (regSet l) (10 * a) : Nat) : Int) - 1)))) _ (by kernel_rfl) (bval (congrArg (Value.int .i64) (by (have e : a = 10 := by omega); subst e; exact (hol_yes (by assumption)).symm)))
end Cl
end Go.Proofs.Ytmbodpmhokbapaa
