/- Walks over clean states, printed by wg.py. No statement is proved here. -/
import Derived.Test.YtjgimiicfekcpaaC23
import Derived.Test.YtjgimiicfekcpaaCl19
namespace Go.Proofs.Ytjgimiicfekcpaa
namespace Cl
open Go.ChangeShapes Go.WideShapes Go.ChangeAt Go.RowKit

/-- numbers as ints -/
def nI (L : List Nat) : List Int := L.map (fun x => ((x : Nat) : Int))
def gN (L : List Nat) (i : Nat) : Nat := L.getD i 0
theorem nI_len (L : List Nat) : (nI L).length = L.length := by unfold nI; simp
theorem gN_eq {L : List Nat} {i : Nat} (h : i < L.length) : gN L i = L[i] := by unfold gN; rw [List.getD_eq_getElem?_getD, List.getElem?_eq_getElem h]; rfl
theorem gI_nI {L : List Nat} {i : Nat} (h : i < L.length) : gI (nI L) i = ((gN L i : Nat) : Int) := by
  rw [gI_eq (by rw [nI_len]; exact h), gN_eq h]; unfold nI; simp
theorem nI_app (L : List Nat) (x : Nat) : nI L ++ [((x : Nat) : Int)] = nI (L ++ [x]) := by unfold nI; simp
/-- wide search, on its way -/
structure BT (s k : Nat) (L lst : List Nat) (i t : Nat) (M : List Nat) : Prop where
  eq : M = (nbT (gN lst i) t).foldl (gst (okE (free10 s)) (gN lst i)) lst
  nd : M.Nodup
  lt : ∀ z, z ∈ M → z < 100
  di : ∀ z, z ∈ M → z ∉ L
  le : i + 1 ≤ M.length
  ow : gN M i = gN lst i
structure BG (s k : Nat) (L lst : List Nat) (i : Nat) : Prop where
  sc : ScanI s k L
  fr : free10 s k = true
  kn : k ∉ L
  g : GInv nb10 (okE (free10 s)) k lst i
  lt : ∀ z, z ∈ lst → z < 100
  di : ∀ z, z ∈ lst → z ∉ L
theorem BG.zero {s k : Nat} {L : List Nat} (h : ScanI s k L) (hf : free10 s k = true) (hk : k ∉ L) : BG s k L [k] 0 :=
  ⟨h, hf, hk, GInv.init _ _ _, fun z hz => by rw [List.mem_singleton] at hz; subst hz; exact free10_lt hf, fun z hz => by rw [List.mem_singleton] at hz; subst hz; exact hk⟩
theorem BG.len {s k : Nat} {L lst : List Nat} {i : Nat} (h : BG s k L lst i) : lst.length ≤ 100 := nodup_len 100 lst h.g.nd h.lt
theorem BG.at {s k : Nat} {L lst : List Nat} {i : Nat} (h : BG s k L lst i) (hi : i < lst.length) : gN lst i < 100 := by rw [gN_eq hi]; exact h.lt _ (List.getElem_mem hi)
theorem BT.zero {s k : Nat} {L lst : List Nat} {i : Nat} (h : BG s k L lst i) (hi : i < lst.length) : BT s k L lst i 0 lst := ⟨rfl, h.g.nd, h.lt, h.di, hi, rfl⟩
theorem BT.len {s k : Nat} {L lst M : List Nat} {i t : Nat} (h : BT s k L lst i t M) : M.length ≤ 100 := nodup_len 100 M h.nd h.lt
theorem own_xy {z : Nat} (h : z < 100) : (0 ≤ ((z % 10 : Nat) : Int) ∧ ((z % 10 : Nat) : Int) ≤ 9) ∧ (0 ≤ ((z / 10 : Nat) : Int) ∧ ((z / 10 : Nat) : Int) ≤ 9) ∧ kxy ((z % 10 : Nat) : Int) ((z / 10 : Nat) : Int) = z := by unfold kxy; omega
theorem off_own {z p q : Nat} (h : z < 100) (hq : q < 3) : off10 z (3 * p + q) = (inB (((z % 10 : Nat) : Int) + ((q : Int) - 1)) 0 9 && inB (((z / 10 : Nat) : Int) + ((p : Int) - 1)) 0 9) := by
  obtain ⟨h1, h2, h3⟩ := own_xy h
  have := off_kxy (p := p) h1 h2 hq
  rw [h3] at this; exact this
theorem at_own {z p q : Nat} (h : z < 100) (hq : q < 3) (hx2 : 0 ≤ ((z % 10 : Nat) : Int) + ((q : Int) - 1)) (hy2 : 0 ≤ ((z / 10 : Nat) : Int) + ((p : Int) - 1)) : at10 z (3 * p + q) = kxy (((z % 10 : Nat) : Int) + ((q : Int) - 1)) (((z / 10 : Nat) : Int) + ((p : Int) - 1)) := by
  obtain ⟨h1, h2, h3⟩ := own_xy h
  have := at_kxy (p := p) h1 h2 hq hx2 hy2
  rw [h3] at this; exact this
/-- a neighbor that is out of the square -/
theorem BT.no1 {s k : Nat} {L lst M : List Nat} {i p q : Nat} (h : BT s k L lst i (3 * p + q) M) (hz : gN lst i < 100) (hq : q < 3) (hf : (inB (((gN lst i % 10 : Nat) : Int) + ((q : Int) - 1)) 0 9 && inB (((gN lst i / 10 : Nat) : Int) + ((p : Int) - 1)) 0 9) = false) : BT s k L lst i (3 * p + (q + 1)) M := by
  refine ⟨?_, h.nd, h.lt, h.di, h.le, h.ow⟩
  rw [show 3 * p + (q + 1) = 3 * p + q + 1 from rfl, nbT_no (by rw [off_own hz hq]; exact hf)]
  exact h.eq
theorem BT.step {s k : Nat} {L lst M : List Nat} {i p q : Nat} (h : BT s k L lst i (3 * p + q) M) (hz : gN lst i < 100) (hp : p < 3) (hq : q < 3) (hx : 0 ≤ ((gN lst i % 10 : Nat) : Int) + ((q : Int) - 1) ∧ ((gN lst i % 10 : Nat) : Int) + ((q : Int) - 1) ≤ 9) (hy : 0 ≤ ((gN lst i / 10 : Nat) : Int) + ((p : Int) - 1) ∧ ((gN lst i / 10 : Nat) : Int) + ((p : Int) - 1) ≤ 9) :
    (nbT (gN lst i) (3 * p + (q + 1))).foldl (gst (okE (free10 s)) (gN lst i)) lst = gst (okE (free10 s)) (gN lst i) M (kxy (((gN lst i % 10 : Nat) : Int) + ((q : Int) - 1)) (((gN lst i / 10 : Nat) : Int) + ((p : Int) - 1))) ∧ kxy (((gN lst i % 10 : Nat) : Int) + ((q : Int) - 1)) (((gN lst i / 10 : Nat) : Int) + ((p : Int) - 1)) ∈ nb10 (gN lst i) := by
  have ho : off10 (gN lst i) (3 * p + q) = true := by rw [off_own hz hq, inB_true.2 hx, inB_true.2 hy]; rfl
  refine ⟨?_, ?_⟩
  · rw [show 3 * p + (q + 1) = 3 * p + q + 1 from rfl, nbT_yes ho, List.foldl_append, ← h.eq, at_own hz hq hx.1 hy.1]; rfl
  · rw [← at_own hz hq hx.1 hy.1]
    rw [mem_nb10 hz, at_own hz hq hx.1 hy.1]
    obtain ⟨e1, e2, e3⟩ := kxy_at hx hy
    refine ⟨e3, ?_⟩
    rw [e1, e2]; omega
/-- a neighbor that is marked or belongs to the region -/
theorem BT.no2 {s k : Nat} {L lst M : List Nat} {i p q : Nat} (hg : BG s k L lst i) (hi : i < lst.length) (h : BT s k L lst i (3 * p + q) M) (hp : p < 3) (hq : q < 3) (hx : 0 ≤ ((gN lst i % 10 : Nat) : Int) + ((q : Int) - 1) ∧ ((gN lst i % 10 : Nat) : Int) + ((q : Int) - 1) ≤ 9) (hy : 0 ≤ ((gN lst i / 10 : Nat) : Int) + ((p : Int) - 1) ∧ ((gN lst i / 10 : Nat) : Int) + ((p : Int) - 1) ≤ 9)
    (hf : kxy (((gN lst i % 10 : Nat) : Int) + ((q : Int) - 1)) (((gN lst i / 10 : Nat) : Int) + ((p : Int) - 1)) ∈ L ++ M ∨ free10 s (kxy (((gN lst i % 10 : Nat) : Int) + ((q : Int) - 1)) (((gN lst i / 10 : Nat) : Int) + ((p : Int) - 1))) = false) : BT s k L lst i (3 * p + (q + 1)) M := by
  obtain ⟨e1, e2⟩ := h.step (hg.at hi) hp hq hx hy
  refine ⟨?_, h.nd, h.lt, h.di, h.le, h.ow⟩
  rw [e1]
  refine (gst_no ?_).symm
  rcases hf with hf | hf
  · rcases List.mem_append.1 hf with hf | hf
    · refine .inl ?_
      rcases Bool.eq_false_or_eq_true (free10 s (kxy (((gN lst i % 10 : Nat) : Int) + ((q : Int) - 1)) (((gN lst i / 10 : Nat) : Int) + ((p : Int) - 1)))) with h1 | h1
      · exact absurd hf (scan_new hg.sc hg.fr hg.kn hg.g (x := gN lst i) (by rw [gN_eq hi]; exact List.getElem_mem hi) e2 h1)
      · exact h1
    · exact .inr hf
  · exact .inl hf
theorem BT.yes {s k : Nat} {L lst M : List Nat} {i p q : Nat} (hg : BG s k L lst i) (hi : i < lst.length) (h : BT s k L lst i (3 * p + q) M) (hp : p < 3) (hq : q < 3) (hx : 0 ≤ ((gN lst i % 10 : Nat) : Int) + ((q : Int) - 1) ∧ ((gN lst i % 10 : Nat) : Int) + ((q : Int) - 1) ≤ 9) (hy : 0 ≤ ((gN lst i / 10 : Nat) : Int) + ((p : Int) - 1) ∧ ((gN lst i / 10 : Nat) : Int) + ((p : Int) - 1) ≤ 9)
    (h1 : kxy (((gN lst i % 10 : Nat) : Int) + ((q : Int) - 1)) (((gN lst i / 10 : Nat) : Int) + ((p : Int) - 1)) ∉ L ++ M) (h2 : free10 s (kxy (((gN lst i % 10 : Nat) : Int) + ((q : Int) - 1)) (((gN lst i / 10 : Nat) : Int) + ((p : Int) - 1))) = true) : BT s k L lst i (3 * p + (q + 1)) (M ++ [kxy (((gN lst i % 10 : Nat) : Int) + ((q : Int) - 1)) (((gN lst i / 10 : Nat) : Int) + ((p : Int) - 1))]) := by
  obtain ⟨e1, e2⟩ := h.step (hg.at hi) hp hq hx hy
  rw [List.mem_append, not_or] at h1
  refine ⟨?_, ?_, fun z hz => ?_, fun z hz => ?_, by rw [List.length_append]; have := h.le; omega, by rw [← h.ow]; have := h.le; rw [gN_eq (by rw [List.length_append]; omega), gN_eq (by omega), List.getElem_append_left]⟩
  · rw [e1, gst_yes (ok := okE (free10 s)) h2 h1.2]
  · rw [List.nodup_append]
    refine ⟨h.nd, by simp, fun a ha b hb e => ?_⟩
    rw [List.mem_singleton] at hb; subst hb; subst e; exact h1.2 ha
  · rw [List.mem_append, List.mem_singleton] at hz
    rcases hz with hz | rfl
    · exact h.lt z hz
    · exact (kxy_at hx hy).2.2
  · rw [List.mem_append, List.mem_singleton] at hz
    rcases hz with hz | rfl
    · exact h.di z hz
    · exact h1.1
theorem BT.out {s k : Nat} {L lst M : List Nat} {i p : Nat} (hg : BG s k L lst i) (hi : i < lst.length) (h : BT s k L lst i (3 * p) M) (hp : p = 3) : BG s k L M (i + 1) := by
  subst hp
  have e : M = grnd nb10 (okE (free10 s)) lst lst[i] := by rw [← gN_eq hi]; exact h.eq
  exact ⟨hg.sc, hg.fr, hg.kn, by rw [e]; exact hg.g.next hi, h.lt, h.di⟩
theorem BG.end {s k : Nat} {L lst : List Nat} {i : Nat} (h : BG s k L lst i) (hi : ¬ i < lst.length) : ScanI s (k + 1) (L ++ lst) ∧ rt s (k + 1) = rt s k + 1 := by
  have := h.sc.wide h.fr h.kn h.g hi h.di
  exact ⟨this.1, roots_yes this.2⟩
theorem skip_no {s k : Nat} {L : List Nat} (h : ScanI s k L) (hk : free10 s k = false ∨ k ∈ L) : ScanI s (k + 1) L ∧ rt s (k + 1) = rt s k := ⟨(h.skip hk).1, roots_no (h.skip hk).2⟩
theorem free_hasC {l : List Int} (ho : regOk l = true) {k : Nat} (hk : k < 100) {b : Bool} (h : hasC l (c10 k) = b) : free10 (regSet l) k = !b := by
  unfold free10; rw [decide_eq_true hk, Bool.true_and, ← h]
  unfold hasC hasS; rw [ho]; rfl
theorem free_hasC2 {l : List Int} (ho : regOk l = true) {x y : Int} (hx : 0 ≤ x ∧ x ≤ 9) (hy : 0 ≤ y ∧ y ≤ 9) {b : Bool} (h : hasC l ⟨x - 1, y - 1⟩ = b) : free10 (regSet l) (kxy x y) = !b := by
  rw [free_kxy hx hy, ← h]
  unfold hasC hasS; rw [ho]; rfl

theorem qC24_ti_29 : TI Try.prog 29 true 1 := ⟨⟨_, Try.underlying29, rfl⟩, by kernel_rfl⟩
theorem qC24_ti_57 : TI Try.prog 57 false 1 := ⟨⟨_, Try.underlying57, rfl⟩, by kernel_rfl⟩
theorem qC24_ti_87 : TI Try.prog 87 false 1 := ⟨⟨_, Try.underlying87, rfl⟩, by kernel_rfl⟩
theorem qC24_ti_94 : TI Try.prog 94 true 100 := ⟨⟨_, Try.underlying94, rfl⟩, by kernel_rfl⟩
theorem qC24_ti_95 : TI Try.prog 95 false 1 := ⟨⟨_, Try.underlying95, rfl⟩, by kernel_rfl⟩
theorem qC24_zi_57 : ZI Try.prog 57 (.int .u64 0) 1 8 := by unfold ZI; kernel_rfl
theorem qC24_zi_87 : ZI Try.prog 87 (.nilFunc) 1 8 := by unfold ZI; kernel_rfl
theorem qC24_zi_94 : ZI Try.prog 94 (.agg (bsl (List.replicate 100 false)).toArray) 100 100 := by unfold ZI; kernel_rfl
theorem qC24_zi_95 : ZI Try.prog 95 (.nilFunc) 1 8 := by unfold ZI; kernel_rfl
set_option maxHeartbeats 4000000 in
set_option maxRecDepth 100000 in
theorem impl_CountHoles_fn (l : List Int) (hl : l.length ≤ 4194304) : Fn Try.prog 78 [.agg [(.slv l.length 1 (isl l) : A)]] [.val (.int .i64 (hol l))] := by
 refine fn_intro (N := 37) Try.func78 rfl (by kernel_rfl) rfl (Nat.le_of_ble_eq_true rfl) [1, 3, 4, 6, 7, 11, 14, 27, 31] (ret1 rfl) (fun W => ?_)
 show Wp _ _ _ [kV 0 (V.b (.agg [(.slv l.length 1 (isl l) : A)])), kF 1, kF 3, kF 4, kF 6, kF 7, kF 11, kF 14, kF 27, kF 31]
 refine sq (rg ?_)
 refine z ?_ (h := fun ν => acts_box (h := 1) ν xt (by exact ob1 rfl))
 refine zk (nl (sq (sq (rg ?_))))
 refine z ?_ (h := fun ν => acts_load_owns (xs := [(.slv l.length 1 (isl l) : A)]) ν qC24_ti_29 rfl (by decide) rfl)
 refine z ?_ (h := fun ν => acts_call1 ν (impl_RegionOk_fn l (by first | omega | assumption | exact regSet_lt (by assumption) | exact hS2.nd | exact hS2.lt)) (ac (ArgV.regv _ _ 1 _) an) rv)
 refine z ?_ (h := fun ν => acts_un ν vt (r_not rfl))
 refine nl ?_
 refine wi (b := (!(regOk l))) (fun c1 => ?_) (fun c1 => ?_)
 ·skip
  have c2 : (regOk l) = false := by first | simpa using c1 | (rw [← Bool.not_eq_true']; exact c1)
  refine sq (rg (zk (nl (wp_ret' ?_))))
  exact VRes.tmp _ _ _ (by exact rfl) (bval (congrArg (Value.int .i64) (by exact (hol_no (by simp_all)).symm)))
 ·skip
  have c3 : (regOk l) = true := by first | simpa using c1 | (rw [← Bool.not_eq_false']; exact c1)
  refine sk (sq (rg ?_))
  refine z ?_ (h := fun ν => acts_load_owns (xs := [(.slv l.length 1 (isl l) : A)]) ν qC24_ti_29 rfl (by decide) rfl)
  refine z ?_ (h := fun ν => acts_call1 ν (impl_Region__set_fn l (by first | omega | assumption | exact regSet_lt (by assumption) | exact hS2.nd | exact hS2.lt)) (ac (ArgV.regv _ _ 1 _) an) rv)
  refine z ?_ (h := fun ν => acts_build (cells := bsl (List.replicate 100 false)) ν OpVs.nil (by kernel_rfl))
  refine z ?_ (h := fun ν => acts_alloc' (h := 3) (cap := 1) (s := 1) (cells := [(.val (.int .u64 0) : A)]) ν qC24_zi_57 rfl rfl (by decide))
  refine z ?_ (h := fun ν => acts_alloc' (h := 4) (cap := 100) (s := 1) (cells := pl (bsl (List.replicate 100 false))) ν qC24_zi_94 rfl (by first | (simp [pl, bsl]; done) | (simp [pl, isl_len, *]; done) | (simp [pl_len, isl_len, *]; done) | (simp [pl]; exact List.take_of_length_le (by simp [isl_len, *]))) (by decide))
  refine z ?_ (h := fun _ => acts_store (cells := [(.val (.int .u64 (((regSet l) : Nat) : Int)) : A)]) qC24_ti_57 xt (by exact rfl) (by decide) (by exact ob1 rfl) (by exact Nat.le_of_ble_eq_true rfl) (by exact rfl))
  refine z ?_ (h := fun _ => acts_store (t := 4) (h := 4) (off := 0) (o := ⟨94, 1, true, pl (bsl (List.replicate 100 false))⟩) (b := .agg ((bsl (List.replicate 100 false)).map A.val)) (cells := pl (bsl (List.replicate 100 false))) qC24_ti_94 (xt) (by first | (simp [B.cs, bsl]; done) | (simp [B.cs, bsl, *]; done)) (by decide) (by simpa [B.cs, pl] using pl_one (bsl_one' _)) (by first | (simp [pl, bsl]; done) | (simp [pl, isl_len, *]; done) | (simp [pl_len, isl_len, *]; done) | (simp [pl]; exact List.take_of_length_le (by simp [isl_len, *]))) (by simp [pl, B.cs, bsl]))
  refine zk (nl (sq (rg ?_)))
  refine z ?_ (h := fun ν => acts_makeFunc (d := 16) (f := 87) (l := [(4, 4), (3, 3)]) ν)
  refine z ?_ (h := fun ν => acts_alloc' (h := 6) (cap := 1) (s := 1) (cells := [(.val (.nilFunc) : A)]) ν qC24_zi_87 rfl rfl (by decide))
  refine z ?_ (h := fun _ => acts_store (cells := [(.fn 87 [4, 3] : A)]) qC24_ti_87 xt (by exact rfl) (by decide) (by exact ob1 rfl) (by exact Nat.le_of_ble_eq_true rfl) (by exact rfl))
  refine nl (sq (rg ?_))
  refine z ?_ (h := fun ν => acts_alloc' (h := 7) (cap := 1) (s := 1) (cells := [(.val (.nilFunc) : A)]) ν qC24_zi_95 rfl rfl (by decide))
  refine nl (sq (rg ?_))
  refine z ?_ (h := fun ν => acts_makeFunc (d := 17) (f := 88) (l := [(4, 4), (6, 6), (7, 7)]) ν)
  refine z ?_ (h := fun _ => acts_store (cells := [(.fn 88 [4, 6, 7] : A)]) qC24_ti_95 xt (by exact rfl) (by decide) (by exact ob1 rfl) (by exact Nat.le_of_ble_eq_true rfl) (by exact rfl))
  refine nl (sq (sq (rg ?_)))
  refine z ?_ (h := fun ν => mc ν)
  refine nl (bkk ?_)
  refine wp_loop' (fun ((a, L) : Nat × (List Nat)) => a ≤ 10 ∧ ScanI (regSet l) (10 * a) L) (fun ((a, L) : Nat × (List Nat)) => [kI 5 (((rt (regSet l) (10 * a) : Nat) : Int) - 1), kP 6 6 0, kP 7 7 0, kI 18 ((a : Nat) : Int), kO 3 57 1 true [(.val (.int .u64 (((regSet l) : Nat) : Int)) : A)], kO 4 94 1 true (pl (bsl (mkB L))), kO 6 87 1 true [(.fn 87 [4, 3] : A)], kO 7 95 1 true [(.fn 88 [4, 6, 7] : A)], kF 1, kF 11, kF 14, kF 27, kF 31]) (fun ((a, L) : Nat × (List Nat)) => 10 - a) ((0 : Nat), ([] : List Nat)) (by exact ⟨by omega, ScanI.zero _⟩) (wkf id (wE (e := (vint (by first | rfl | omega | exact mkB_nil | exact mkB_nil.symm | (rw [Nat.mul_zero, rt_zero]; rfl) | ((have e : b = 10 := by omega); subst e; rfl)))) <| wS <| wS <| wE (e := (vint (by first | rfl | omega | exact mkB_nil | exact mkB_nil.symm | (rw [Nat.mul_zero, rt_zero]; rfl) | ((have e : b = 10 := by omega); subst e; rfl)))) <| wX <| wO (e := renob_eq (fun h => h) (congrArg bsl (by first | rfl | omega | exact mkB_nil | exact mkB_nil.symm | (rw [Nat.mul_zero, rt_zero]; rfl) | ((have e : b = 10 := by omega); subst e; rfl)))) <| wX <| wX <| wF <| wF <| wF <| wF <| wF <| wN)) ?_
  rintro ⟨a, L⟩ inv4
  replace inv4 : a ≤ 10 ∧ ScanI (regSet l) (10 * a) L := inv4
  obtain ⟨inv4_0, inv4_1⟩ := inv4
  have hS : ScanI (regSet l) (10 * a) L := by assumption
  have hrl := rt_le (regSet l) (10 * a)
  refine sq (rg ?_)
  refine z ?_ (h := fun ν => acts_bin ν vt vc (r_lss rfl))
  refine nl (sq ?_)
  refine wi (fun c5 => ?_) (fun c5 => ?_)
  ·skip
   have c5P := of_decide_eq_true c5
   refine sk (sq (bkk (sq (rg (zm (za (nl (sq (rg ?_)))))))))
   refine z ?_ (h := fun ν => mc ν)
   refine nl (bkk ?_)
   refine wp_loop' (fun ((b, L2) : Nat × (List Nat)) => b ≤ 10 ∧ ScanI (regSet l) (10 * a + b) L2) (fun ((b, L2) : Nat × (List Nat)) => [kI 5 (((rt (regSet l) (10 * a + b) : Nat) : Int) - 1), kP 6 6 0, kP 7 7 0, kI 8 ((a : Nat) : Int), kI 18 ((a : Nat) : Int), kI 21 ((b : Nat) : Int), kO 3 57 1 true [(.val (.int .u64 (((regSet l) : Nat) : Int)) : A)], kO 4 94 1 true (pl (bsl (mkB L2))), kO 6 87 1 true [(.fn 87 [4, 3] : A)], kO 7 95 1 true [(.fn 88 [4, 6, 7] : A)], kF 1, kF 11, kF 14, kF 27, kF 31]) (fun ((b, L2) : Nat × (List Nat)) => 10 - b) ((0 : Nat), (L : List Nat)) (by exact ⟨by omega, hS⟩) (wkf id (wE (e := (vint (by first | rfl | omega))) <| wS <| wS <| wS <| wS <| wE (e := (vint (by first | rfl | omega))) <| wX <| wP <| wX <| wX <| wF <| wF <| wF <| wF <| wF <| wN)) ?_
   rintro ⟨b, L2⟩ inv6
   replace inv6 : b ≤ 10 ∧ ScanI (regSet l) (10 * a + b) L2 := inv6
   obtain ⟨inv6_0, inv6_1⟩ := inv6
   have hS2 : ScanI (regSet l) (10 * a + b) L2 := by assumption
   have hrl2 := rt_le (regSet l) (10 * a + b)
   refine sq (rg ?_)
   refine z ?_ (h := fun ν => acts_bin ν vt vc (r_lss rfl))
   refine nl (sq ?_)
   refine wi (fun c7 => ?_) (fun c7 => ?_)
   ·skip
    have c7P := of_decide_eq_true c7
    refine sk (sq (bkk (sq (rg (zm (za (nl (sq (rg ?_)))))))))
    refine z ?_ (h := fun ν => acts_load_own (x := .fn 87 [4, 3]) ν qC24_ti_87 (by exact rfl))
    refine zm (zm ?_)
    refine z ?_ (h := fun ν => acts_callV (d := 27) (f := 87) (t := 24) (caps := [4, 3]) (os := [(.o 4, some (.o ⟨94, 1, true, pl (bsl (mkB L2))⟩)), (.o 3, some (.o ⟨57, 1, true, [(.val (.int .u64 (((regSet l) : Nat) : Int)) : A)]⟩))]) (os' := [(.o 4, some (.o ⟨94, 1, true, pl (bsl (mkB L2))⟩)), (.o 3, some (.o ⟨57, 1, true, [(.val (.int .u64 (((regSet l) : Nat) : Int)) : A)]⟩))]) (r := V.v (.bool (frB (regSet l) L2 ((b : Nat) : Int) ((a : Nat) : Int)))) (bs := [.a (.val (.int .i64 ((b : Nat) : Int))), .a (.val (.int .i64 ((a : Nat) : Int)))]) (keep := [4, 3]) (new := []) (dead := []) ν (FnO.ren' (impl_CountHoles_1_fn (regSet l) L2 ((b : Nat) : Int) ((a : Nat) : Int) (by first | omega | assumption | exact regSet_lt (by assumption) | exact hS2.nd | exact hS2.lt) (by first | omega | assumption | exact regSet_lt (by assumption) | exact hS2.nd | exact hS2.lt) (by first | omega | assumption | exact regSet_lt (by assumption) | exact hS2.nd | exact hS2.lt)) (subst1 [(2, 4)]) rfl rfl (by kernel_rfl) (by kernel_rfl) ⟨oc_pl (fun _ => rfl), ocs (by kernel_rfl), trivial⟩ (by kernel_rfl) rfl (by simp only [renS, Ob.ren, pl_ren, rws_ren_doms, rws_ren_ints, rws_ren_cels]; first | done | rfl) (by simp only [renS, Ob.ren, pl_ren, rws_ren_doms, rws_ren_ints, rws_ren_cels]; first | done | rfl) rfl rfl) (by kernel_rfl) ⟨oc_pl (fun _ => rfl), ocs (by kernel_rfl), trivial⟩ (by kernel_rfl) (ArgOs.cons ((ArgO.v vt)) (ArgOs.cons ((ArgO.v vt)) (ArgOs.nil))))
    refine nl ?_
    refine wi (b := (frB (regSet l) L2 ((b : Nat) : Int) ((a : Nat) : Int))) (fun c8 => ?_) (fun c8 => ?_)
    ·skip
     obtain ⟨hk1, hk2, hk3⟩ := scan_yes hS2 (by omega) (by omega) c8
     refine sq (rg ?_)
     refine z ?_ (h := fun ν => acts_load_own (x := .fn 88 [4, 6, 7]) ν qC24_ti_95 (by exact rfl))
     refine zm (zm ?_)
     refine z ?_ (h := fun ν => acts_callV (d := 31) (f := 88) (t := 28) (caps := [4, 6, 7]) (os := [(.o 4, some (.o ⟨94, 1, true, pl (bsl (mkB L2))⟩)), (.o 6, some (.o ⟨87, 1, true, [(.fn 87 [4, 3] : A)]⟩)), (.o 7, some (.o ⟨95, 1, true, [(.fn 88 [4, 6, 7] : A)]⟩)), (.o 3, some (.o ⟨57, 1, true, [(.val (.int .u64 (((regSet l) : Nat) : Int)) : A)]⟩))]) (os' := [(.o 4, some (.o ⟨94, 1, true, pl (bsl (mkB (dfs nb10 (free10 (regSet l)) 101 L2 (kxy ((b : Nat) : Int) ((a : Nat) : Int)))))⟩)), (.o 6, some (.o ⟨87, 1, true, [(.fn 87 [4, 3] : A)]⟩)), (.o 7, some (.o ⟨95, 1, true, [(.fn 88 [4, 6, 7] : A)]⟩)), (.o 3, some (.o ⟨57, 1, true, [(.val (.int .u64 (((regSet l) : Nat) : Int)) : A)]⟩))]) (r := V.v (.tuple #[])) (bs := [.a (.val (.int .i64 ((b : Nat) : Int))), .a (.val (.int .i64 ((a : Nat) : Int)))]) (keep := [4, 6, 7, 3]) (new := []) (dead := []) ν (FnO.ren' (impl_CountHoles_2_fn 101 (regSet l) L2 ((b : Nat) : Int) ((a : Nat) : Int) (by first | omega | assumption | exact regSet_lt (by assumption) | exact hS2.nd | exact hS2.lt) (by first | omega | assumption | exact regSet_lt (by assumption) | exact hS2.nd | exact hS2.lt) (by first | omega | assumption | exact regSet_lt (by assumption) | exact hS2.nd | exact hS2.lt) (by first | omega | assumption | exact regSet_lt (by assumption) | exact hS2.nd | exact hS2.lt) (by first | omega | assumption | exact regSet_lt (by assumption) | exact hS2.nd | exact hS2.lt) (by first | omega | assumption | exact regSet_lt (by assumption) | exact hS2.nd | exact hS2.lt) (by first | omega | assumption | exact regSet_lt (by assumption) | exact hS2.nd | exact hS2.lt)) (subst1 [(2, 4), (3, 6), (4, 7), (5, 3)]) rfl rfl (by kernel_rfl) (by kernel_rfl) ⟨oc_pl (fun _ => rfl), ocs (by kernel_rfl), ocs (by kernel_rfl), ocs (by kernel_rfl), trivial⟩ (by kernel_rfl) rfl (by simp only [renS, Ob.ren, pl_ren, rws_ren_doms, rws_ren_ints, rws_ren_cels]; first | done | rfl) (by simp only [renS, Ob.ren, pl_ren, rws_ren_doms, rws_ren_ints, rws_ren_cels]; first | done | rfl) rfl rfl) (by kernel_rfl) ⟨oc_pl (fun _ => rfl), ocs (by kernel_rfl), ocs (by kernel_rfl), ocs (by kernel_rfl), trivial⟩ (by kernel_rfl) (ArgOs.cons ((ArgO.v vt)) (ArgOs.cons ((ArgO.v vt)) (ArgOs.nil))))
     refine nl (rg (zm ?_))
     refine z ?_ (h := fun ν => acts_bin ν vt vc (rA (by first | omega | assumption | exact regSet_lt (by assumption) | exact hS2.nd | exact hS2.lt) (by first | omega | assumption | exact regSet_lt (by assumption) | exact hS2.nd | exact hS2.lt)))
     refine za (nl (rg ?_))
     refine z ?_ (h := fun ν => acts_bin ν vt vc (rA (by first | omega | assumption | exact regSet_lt (by assumption) | exact hS2.nd | exact hS2.lt) (by first | omega | assumption | exact regSet_lt (by assumption) | exact hS2.nd | exact hS2.lt)))
     refine zm (nl ?_)
     exact loop_back ((b + 1), (dfs nb10 (free10 (regSet l)) 101 L2 (kxy (b : Int) (a : Int)))) (by exact ⟨by omega, hk2⟩) (by show 10 - (b + 1) < 10 - b; omega) (wkf id (wE (e := (vint (by first | rfl | omega))) <| wS <| wS <| wS <| wS <| wE (e := (vint (by first | rfl | omega))) <| wX <| wO (e := renob_eq (fun h => h) (congrArg bsl (by first | rfl | omega))) <| wX <| wX <| wF <| wF <| wF <| wF <| wF <| wN))
    ·skip
     obtain ⟨hk2, hk3⟩ := scan_no hS2 (by omega) (by omega) c8
     refine sk (rg ?_)
     refine z ?_ (h := fun ν => acts_bin ν vt vc (rA (by first | omega | assumption | exact regSet_lt (by assumption) | exact hS2.nd | exact hS2.lt) (by first | omega | assumption | exact regSet_lt (by assumption) | exact hS2.nd | exact hS2.lt)))
     refine zm (nl ?_)
     exact loop_back ((b + 1), L2) (by exact ⟨by omega, hk2⟩) (by show 10 - (b + 1) < 10 - b; omega) (wkf id (wE (e := (vint (by first | rfl | omega))) <| wS <| wS <| wS <| wS <| wE (e := (vint (by first | rfl | omega))) <| wX <| wP <| wX <| wX <| wF <| wF <| wF <| wF <| wF <| wN))
   ·skip
    have c7P := of_decide_eq_false c7
    refine wp_exit' (rg ?_)
    refine z ?_ (h := fun ν => acts_bin ν vt vc (rA (by first | omega | assumption | exact regSet_lt (by assumption) | exact hS2.nd | exact hS2.lt) (by first | omega | assumption | exact regSet_lt (by assumption) | exact hS2.nd | exact hS2.lt)))
    refine zm (nl ?_)
    exact loop_back ((a + 1), L2) (by refine ⟨by omega, ?_⟩; (have e : b = 10 := by omega); subst e; exact hS2) (by show 10 - (a + 1) < 10 - a; omega) (wkf id (wE (e := (vint (by first | rfl | omega | exact mkB_nil | exact mkB_nil.symm | (rw [Nat.mul_zero, rt_zero]; rfl) | ((have e : b = 10 := by omega); subst e; rfl)))) <| wS <| wS <| wE (e := (vint (by first | rfl | omega | exact mkB_nil | exact mkB_nil.symm | (rw [Nat.mul_zero, rt_zero]; rfl) | ((have e : b = 10 := by omega); subst e; rfl)))) <| wX <| wP <| wX <| wX <| wF <| wF <| wF <| wF <| wF <| wN))
  ·skip
   have c5P := of_decide_eq_false c5
   refine wp_exit' (sq (rg (zm (za (nl (wp_ret' ?_))))))
   exact VRes.tmp _ _ _ (by exact rfl) (bval (congrArg (Value.int .i64) (by (have e : a = 10 := by omega); subst e; exact (hol_yes (by assumption)).symm)))
end Cl
end Go.Proofs.Ytjgimiicfekcpaa
