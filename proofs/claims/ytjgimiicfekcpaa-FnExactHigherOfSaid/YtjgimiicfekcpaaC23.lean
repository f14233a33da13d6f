/- Walks over clean states, printed by wg.py. No statement is proved here. -/
import Derived.Test.YtjgimiicfekcpaaC22
import Derived.Test.YtjgimiicfekcpaaCl19
namespace Go.Proofs.Ytjgimiicfekcpaa
namespace Cl
open Go.ChangeShapes Go.WideShapes Go.ChangeAt Go.RowKit

def kxy (x y : Int) : Nat := (y * 10 + x).toNat
def frB (s : Nat) (L : List Nat) (x y : Int) : Bool := (inB x 0 9 && inB y 0 9) && (!(gB (mkB L) (kxy x y)) && !(hasS s ⟨x - 1, y - 1⟩))
theorem kxy_at {x y : Int} (hx : 0 ≤ x ∧ x ≤ 9) (hy : 0 ≤ y ∧ y ≤ 9) : kxy x y % 10 = x.toNat ∧ kxy x y / 10 = y.toNat ∧ kxy x y < 100 := by unfold kxy; omega
theorem c10_kxy {x y : Int} (hx : 0 ≤ x ∧ x ≤ 9) (hy : 0 ≤ y ∧ y ≤ 9) : c10 (kxy x y) = ⟨x - 1, y - 1⟩ := by
  obtain ⟨h1, h2, _⟩ := kxy_at hx hy
  unfold c10; rw [h1, h2]
  simp only [Cel.mk.injEq]; omega
theorem free_kxy {s : Nat} {x y : Int} (hx : 0 ≤ x ∧ x ≤ 9) (hy : 0 ≤ y ∧ y ≤ 9) : free10 s (kxy x y) = !(hasS s ⟨x - 1, y - 1⟩) := by
  unfold free10; rw [c10_kxy hx hy, decide_eq_true (kxy_at hx hy).2.2, Bool.true_and]
theorem frB_in {s : Nat} {L : List Nat} {x y : Int} (hx : 0 ≤ x ∧ x ≤ 9) (hy : 0 ≤ y ∧ y ≤ 9) : frB s L x y = (free10 s (kxy x y) && !decide (kxy x y ∈ L)) := by
  unfold frB
  rw [inB_true.2 hx, inB_true.2 hy, gB_mkB (kxy_at hx hy).2.2, free_kxy hx hy, Bool.and_comm (!(decide _))]; rfl
theorem off_kxy {x y : Int} (hx : 0 ≤ x ∧ x ≤ 9) (hy : 0 ≤ y ∧ y ≤ 9) {p q : Nat} (hq : q < 3) : off10 (kxy x y) (3 * p + q) = (inB (x + ((q : Int) - 1)) 0 9 && inB (y + ((p : Int) - 1)) 0 9) := by
  obtain ⟨h1, h2, _⟩ := kxy_at hx hy
  have e1 : (3 * p + q) % 3 = q := by omega
  have e2 : (3 * p + q) / 3 = p := by omega
  unfold off10
  rw [h1, h2, e1, e2, Bool.eq_iff_iff]
  simp only [Bool.and_eq_true, decide_eq_true_eq, inB_true]
  omega
theorem at_kxy {x y : Int} (hx : 0 ≤ x ∧ x ≤ 9) (hy : 0 ≤ y ∧ y ≤ 9) {p q : Nat} (hq : q < 3) (hx2 : 0 ≤ x + ((q : Int) - 1)) (hy2 : 0 ≤ y + ((p : Int) - 1)) : at10 (kxy x y) (3 * p + q) = kxy (x + ((q : Int) - 1)) (y + ((p : Int) - 1)) := by
  obtain ⟨h1, h2, _⟩ := kxy_at hx hy
  have e1 : (3 * p + q) % 3 = q := by omega
  have e2 : (3 * p + q) / 3 = p := by omega
  unfold at10
  rw [h1, h2, e1, e2]
  unfold kxy; omega
theorem frB_out {s : Nat} {L : List Nat} {x y : Int} (h : frB s L x y = true) : (0 ≤ x ∧ x ≤ 9) ∧ (0 ≤ y ∧ y ≤ 9) := by
  unfold frB at h; simp only [Bool.and_eq_true, inB_true] at h; exact h.1
def nbT (k t : Nat) : List Nat := ((List.range t).filter (off10 k)).map (at10 k)
theorem nbT_yes {k t : Nat} (h : off10 k t = true) : nbT k (t + 1) = nbT k t ++ [at10 k t] := by
  unfold nbT; rw [List.range_succ, List.filter_append, List.map_append]; simp [h]
theorem nbT_no {k t : Nat} (h : off10 k t = false) : nbT k (t + 1) = nbT k t := by
  unfold nbT; rw [List.range_succ, List.filter_append, List.map_append]; simp [h]
/-- deep search, on its way -/
structure DT (s n : Nat) (x y : Int) (L : List Nat) (t : Nat) (M : List Nat) : Prop where
  eq : M = (nbT (kxy x y) t).foldl (dfsW (free10 s) (dfs nb10 (free10 s) n)) (L ++ [kxy x y])
  nd : M.Nodup
  lt : ∀ z, z ∈ M → z < 100
  le : L.length + 1 ≤ M.length
theorem DT.zero {s n : Nat} {x y : Int} {L : List Nat} (hx : 0 ≤ x ∧ x ≤ 9) (hy : 0 ≤ y ∧ y ≤ 9) (hn : L.Nodup) (hl : ∀ z, z ∈ L → z < 100) (hk : kxy x y ∉ L) : DT s n x y L 0 (L ++ [kxy x y]) := by
  refine ⟨rfl, ?_, fun z hz => ?_, by simp⟩
  · rw [List.nodup_append]
    refine ⟨hn, by simp, fun a ha b hb e => ?_⟩
    rw [List.mem_singleton] at hb; subst hb; subst e; exact hk ha
  · rw [List.mem_append, List.mem_singleton] at hz
    rcases hz with hz | rfl
    · exact hl z hz
    · exact (kxy_at hx hy).2.2
theorem DT.no {s n : Nat} {x y : Int} {L M : List Nat} {p q : Nat} (h : DT s n x y L (3 * p + q) M) (hx : 0 ≤ x ∧ x ≤ 9) (hy : 0 ≤ y ∧ y ≤ 9) (hq : q < 3) (hf : frB s M (x + ((q : Int) - 1)) (y + ((p : Int) - 1)) = false) : DT s n x y L (3 * p + (q + 1)) M := by
  refine ⟨?_, h.nd, h.lt, h.le⟩
  rw [show 3 * p + (q + 1) = 3 * p + q + 1 from rfl]
  rcases Bool.eq_false_or_eq_true (off10 (kxy x y) (3 * p + q)) with ho | ho
  · rw [nbT_yes ho, List.foldl_append, ← h.eq]
    rw [off_kxy hx hy hq, Bool.and_eq_true, inB_true, inB_true] at ho
    rw [frB_in ho.1 ho.2] at hf
    show M = dfsW (free10 s) (dfs nb10 (free10 s) n) M (at10 (kxy x y) (3 * p + q))
    unfold dfsW
    rw [at_kxy hx hy hq ho.1.1 ho.2.1, hf]; rfl
  · rw [nbT_no ho]; exact h.eq
theorem DT.more {s n : Nat} {x y : Int} {L M : List Nat} {p q : Nat} (h : DT s n x y L (3 * p + q) M) (hf : frB s M (x + ((q : Int) - 1)) (y + ((p : Int) - 1)) = true) (hN : 100 < n + 1 + L.length) : (0 ≤ x + ((q : Int) - 1) ∧ x + ((q : Int) - 1) ≤ 9) ∧ (0 ≤ y + ((p : Int) - 1) ∧ y + ((p : Int) - 1) ≤ 9) ∧ free10 s (kxy (x + ((q : Int) - 1)) (y + ((p : Int) - 1))) = true ∧ kxy (x + ((q : Int) - 1)) (y + ((p : Int) - 1)) ∉ M ∧ 100 < n + M.length := by
  obtain ⟨h1, h2⟩ := frB_out hf
  rw [frB_in h1 h2] at hf
  simp only [Bool.and_eq_true, Bool.not_eq_true', decide_eq_false_iff_not] at hf
  have := h.le
  exact ⟨h1, h2, hf.1, hf.2, by omega⟩
theorem DT.yes {s n : Nat} {x y : Int} {L M : List Nat} {p q : Nat} (h : DT s n x y L (3 * p + q) M) (hx : 0 ≤ x ∧ x ≤ 9) (hy : 0 ≤ y ∧ y ≤ 9) (hq : q < 3) (hf : frB s M (x + ((q : Int) - 1)) (y + ((p : Int) - 1)) = true) (hN : 100 < n + 1 + L.length) : DT s n x y L (3 * p + (q + 1)) (dfs nb10 (free10 s) n M (kxy (x + ((q : Int) - 1)) (y + ((p : Int) - 1)))) := by
  obtain ⟨h1, h2, h3, h4, h5⟩ := h.more hf hN
  obtain ⟨e, d, _⟩ := dfs_inv (ok := free10 s) nb10_lt n M _ h.nd h.lt h4 (kxy_at h1 h2).2.2 h5
  refine ⟨?_, d.nd, d.lt, ?_⟩
  · have ho : off10 (kxy x y) (3 * p + q) = true := by rw [off_kxy hx hy hq, inB_true.2 h1, inB_true.2 h2]; rfl
    rw [show 3 * p + (q + 1) = 3 * p + q + 1 from rfl, nbT_yes ho, List.foldl_append, ← h.eq]
    show _ = dfsW (free10 s) (dfs nb10 (free10 s) n) M (at10 (kxy x y) (3 * p + q))
    unfold dfsW
    rw [at_kxy hx hy hq h1.1 h2.1, if_pos (by simp [h3, h4])]
  · rw [d.eq]; have := h.le; simp only [List.length_append]; omega
theorem DT.end {s n : Nat} {x y : Int} {L M : List Nat} {p : Nat} (h : DT s n x y L (3 * p) M) (hp : p = 3) : M = dfs nb10 (free10 s) (n + 1) L (kxy x y) := by
  subst hp; exact h.eq
noncomputable def rt (s k : Nat) : Nat := roots nb10 (free10 s) k
theorem rt_le (s k : Nat) : rt s k ≤ k := roots_le _ _ _
theorem rt_zero (s : Nat) : rt s 0 = 0 := by have := rt_le s 0; omega
theorem scan_no {s : Nat} {L : List Nat} {a b : Nat} (h : ScanI s (10 * a + b) L) (ha : a < 10) (hb : b < 10) (hf : frB s L (b : Int) (a : Int) = false) : ScanI s (10 * a + (b + 1)) L ∧ rt s (10 * a + (b + 1)) = rt s (10 * a + b) := by
  have e : kxy (b : Int) (a : Int) = 10 * a + b := by unfold kxy; omega
  rw [frB_in (by omega) (by omega), e] at hf
  have := h.skip (by
    rcases Bool.eq_false_or_eq_true (free10 s (10 * a + b)) with h1 | h1
    · rw [h1] at hf; simp at hf; exact .inr hf
    · exact .inl h1)
  exact ⟨this.1, roots_no this.2⟩
theorem scan_yes {s : Nat} {L : List Nat} {a b : Nat} (h : ScanI s (10 * a + b) L) (ha : a < 10) (hb : b < 10) (hf : frB s L (b : Int) (a : Int) = true) : kxy (b : Int) (a : Int) ∉ L ∧ ScanI s (10 * a + (b + 1)) (dfs nb10 (free10 s) 101 L (kxy (b : Int) (a : Int))) ∧ rt s (10 * a + (b + 1)) = rt s (10 * a + b) + 1 := by
  have e : kxy (b : Int) (a : Int) = 10 * a + b := by unfold kxy; omega
  rw [frB_in (by omega) (by omega), e] at hf
  simp only [Bool.and_eq_true, Bool.not_eq_true', decide_eq_false_iff_not] at hf
  have := h.deep (n := 101) hf.1 hf.2 (by omega)
  rw [e]
  exact ⟨hf.2, this.1, roots_yes this.2⟩
noncomputable def hol (l : List Int) : Int := if regOk l = true then (holesN (regSet l) : Int) - 1 else 0
theorem hol_no {l : List Int} (h : regOk l = false) : hol l = 0 := by unfold hol; rw [h]; rfl
theorem hol_yes {l : List Int} (h : regOk l = true) : hol l = (rt (regSet l) 100 : Int) - 1 := by unfold hol; rw [if_pos h]; rfl

theorem qC23_bs_52 : ∀ (a b : Int), Try.prog.built 52 [(0, .int .i64 a), (1, .int .i64 b)] = some ([.int .i64 a, .int .i64 b] : List Value).toArray := fun _ _ => rfl
theorem qC23_sz_4 : (Try.prog.info? 4).map (·.size) = some 1 := by kernel_rfl
theorem qC23_ti_4 : TI Try.prog 4 false 1 := ⟨⟨_, Try.underlying4, rfl⟩, by kernel_rfl⟩
theorem qC23_ti_57 : TI Try.prog 57 false 1 := ⟨⟨_, Try.underlying57, rfl⟩, by kernel_rfl⟩
theorem qC23_ti_87 : TI Try.prog 87 false 1 := ⟨⟨_, Try.underlying87, rfl⟩, by kernel_rfl⟩
theorem qC23_ti_95 : TI Try.prog 95 false 1 := ⟨⟨_, Try.underlying95, rfl⟩, by kernel_rfl⟩
theorem qC23_un_94 : Try.prog.underlying 94 = some (.array 100 4) := Try.underlying94
set_option maxHeartbeats 4000000 in
set_option maxRecDepth 100000 in
theorem impl_CountHoles_1_fn (s : Nat) (L : List Nat) (x y : Int) (hs : s < 18446744073709551616) (hx : -4 ≤ x ∧ x ≤ 20) (hy : -4 ≤ y ∧ y ≤ 20) : FnO Try.prog 87 [.a (.val (.int .i64 x)), .a (.val (.int .i64 y)), .a (.ptr 2 0), .a (.ptr 3 0)] [(.o 2, some (.o ⟨94, 1, true, pl (bsl (mkB L))⟩)), (.o 3, some (.o ⟨57, 1, true, [(.val (.int .u64 ((s : Nat) : Int)) : A)]⟩))] (V.v (.bool (frB s L x y))) [(.o 2, some (.o ⟨94, 1, true, pl (bsl (mkB L))⟩)), (.o 3, some (.o ⟨57, 1, true, [(.val (.int .u64 ((s : Nat) : Int)) : A)]⟩))] [2, 3] := by
 have hml := mkB_len L
 refine fn_introO (N := 32) Try.func87 rfl (by kernel_rfl) rfl (Nat.le_of_ble_eq_true rfl) rfl rfl (by kernel_rfl) (by kernel_rfl) ⟨oc_pl (fun _ => rfl), ocs (by kernel_rfl), trivial⟩ [8, 11, 29] (retO1 rfl) (fun W own kp im0 => ?_)
 show Wp _ _ _ [kI 0 x, kI 1 y, kP 2 2 0, kP 3 3 0, kO 2 94 1 true (pl (bsl (mkB L))), kO 3 57 1 true [(.val (.int .u64 ((s : Nat) : Int)) : A)], kF 8, kF 11, kF 29]
 refine sq (rg (zk (nl (sq ?_))))
 rcases Bool.eq_false_or_eq_true ((inB x 0 9)) with c1 | c1
 ·skip
  have hx1 := inB_true.1 c1
  rcases Bool.eq_false_or_eq_true ((inB y 0 9)) with c2 | c2
  ·skip
   have hy1 := inB_true.1 c2
   rcases Bool.eq_false_or_eq_true ((gB (mkB L) (((y * 10) + x).toNat))) with c3 | c3
   ·skip
    refine rg (zm ?_)
    refine z ?_ (h := fun ν => acts_call1 ν (impl_within_fn x 0 9 ) (ac (ArgV.v vt) (ac (ArgV.v vc) (ac (ArgV.v vc) an))) (resval (congrArg Value.bool c1)))
    refine zm ?_
    refine zg ?_ (h := fun ν => step_on rfl rfl (mt ν))
    refine zg ?_ (h := fun ν => step_on rfl rfl (acts_call1 ν (impl_within_fn y 0 9 ) (ac (ArgV.v vt) (ac (ArgV.v vc) (ac (ArgV.v vc) an))) (resval (congrArg Value.bool c2))))
    refine z ?_ (h := fun ν => acts_pick_t ν vt xt)
    refine zm ?_
    refine zg ?_ (h := fun ν => step_on rfl rfl (mt ν))
    refine zg ?_ (h := fun ν => step_on rfl rfl (acts_bin ν vt vc (rM (by first | omega | assumption | (rw [mkB_len]; omega)) (by first | omega | assumption | (rw [mkB_len]; omega)))))
    refine zg ?_ (h := fun ν => step_on rfl rfl (mt ν))
    refine zg ?_ (h := fun ν => step_on rfl rfl (acts_bin ν vt vt (rA (by first | omega | assumption | (rw [mkB_len]; omega)) (by first | omega | assumption | (rw [mkB_len]; omega)))))
    refine zg ?_ (h := fun ν => step_on rfl rfl (ixa (k := ((y * 10) + x).toNat) ν qC23_un_94 qC23_sz_4 vt (Int.toNat_of_nonneg (by first | omega | assumption | (rw [mkB_len]; omega))).symm (by first | omega | assumption | (rw [mkB_len]; omega))))
    refine zg ?_ (h := fun ν => step_on rfl rfl (acts_load_own ν qC23_ti_4 (by exact pl_get ((bsl_get1 (k := (((y * 10) + x).toNat)) (by first | omega | assumption | (rw [mkB_len]; omega))).trans (congrArg (fun b : Bool => some (Value.bool b)) c3)))))
    refine zg ?_ (h := fun ν => step_on rfl rfl (acts_un ν vt (r_not (c := false) rfl)))
    refine z ?_ (h := fun ν => acts_pick_t ν vt xt)
    refine zm (zo (zo (zo (zo (zo (zo (zo (zo ?_))))))))
    refine z ?_ (h := fun ν => acts_pick_f ν vt xc)
    refine za (nl (wp_ret' ?_))
    exact ⟨_, weak_id, ⟨by kernel_rfl, by kernel_rfl, trivial⟩, vo_eq 6 (.a (.val (.bool false))) (.a (.val (.bool (frB s L x y)))) (by kernel_rfl) (congrArg (fun z : Bool => B.a (.val (.bool z))) (by first | rfl | (unfold frB kxy; simp_all; done)))⟩
   ·skip
    refine rg (zm ?_)
    refine z ?_ (h := fun ν => acts_call1 ν (impl_within_fn x 0 9 ) (ac (ArgV.v vt) (ac (ArgV.v vc) (ac (ArgV.v vc) an))) (resval (congrArg Value.bool c1)))
    refine zm ?_
    refine zg ?_ (h := fun ν => step_on rfl rfl (mt ν))
    refine zg ?_ (h := fun ν => step_on rfl rfl (acts_call1 ν (impl_within_fn y 0 9 ) (ac (ArgV.v vt) (ac (ArgV.v vc) (ac (ArgV.v vc) an))) (resval (congrArg Value.bool c2))))
    refine z ?_ (h := fun ν => acts_pick_t ν vt xt)
    refine zm ?_
    refine zg ?_ (h := fun ν => step_on rfl rfl (mt ν))
    refine zg ?_ (h := fun ν => step_on rfl rfl (acts_bin ν vt vc (rM (by first | omega | assumption | (rw [mkB_len]; omega)) (by first | omega | assumption | (rw [mkB_len]; omega)))))
    refine zg ?_ (h := fun ν => step_on rfl rfl (mt ν))
    refine zg ?_ (h := fun ν => step_on rfl rfl (acts_bin ν vt vt (rA (by first | omega | assumption | (rw [mkB_len]; omega)) (by first | omega | assumption | (rw [mkB_len]; omega)))))
    refine zg ?_ (h := fun ν => step_on rfl rfl (ixa (k := ((y * 10) + x).toNat) ν qC23_un_94 qC23_sz_4 vt (Int.toNat_of_nonneg (by first | omega | assumption | (rw [mkB_len]; omega))).symm (by first | omega | assumption | (rw [mkB_len]; omega))))
    refine zg ?_ (h := fun ν => step_on rfl rfl (acts_load_own ν qC23_ti_4 (by exact pl_get ((bsl_get1 (k := (((y * 10) + x).toNat)) (by first | omega | assumption | (rw [mkB_len]; omega))).trans (congrArg (fun b : Bool => some (Value.bool b)) c3)))))
    refine zg ?_ (h := fun ν => step_on rfl rfl (acts_un ν vt (r_not (c := true) rfl)))
    refine z ?_ (h := fun ν => acts_pick_t ν vt xt)
    refine zm ?_
    refine zg ?_ (h := fun ν => step_on rfl rfl (acts_load_own (x := .val (.int .u64 ((s : Nat) : Int))) ν qC23_ti_57 (by exact rfl)))
    refine zg ?_ (h := fun ν => step_on rfl rfl (mt ν))
    refine zg ?_ (h := fun ν => step_on rfl rfl (acts_bin ν vt vc (rS (by first | omega | assumption | (rw [mkB_len]; omega)) (by first | omega | assumption | (rw [mkB_len]; omega)))))
    refine zg ?_ (h := fun ν => step_on rfl rfl (mt ν))
    refine zg ?_ (h := fun ν => step_on rfl rfl (acts_bin ν vt vc (rS (by first | omega | assumption | (rw [mkB_len]; omega)) (by first | omega | assumption | (rw [mkB_len]; omega)))))
    refine zg ?_ (h := fun ν => step_on rfl rfl (bC ν qC23_bs_52 vt vt))
    refine zg ?_ (h := fun ν => step_on rfl rfl (acts_call1 ν (impl_set__has_fn s (⟨(x - 1), (y - 1)⟩ : Cel) (by first | omega | assumption | (rw [mkB_len]; omega))) (ac (ArgV.v vt) (ac (ArgV.va va) an)) rv))
    refine zg ?_ (h := fun ν => step_on rfl rfl (acts_un ν vt (r_not rfl)))
    refine z ?_ (h := fun ν => acts_pick_t ν vt xt)
    refine za (nl (wp_ret' ?_))
    exact ⟨_, weak_id, ⟨by kernel_rfl, by kernel_rfl, trivial⟩, vo_eq 6 (.a (.val (.bool (!(hasS s (⟨(x - 1), (y - 1)⟩ : Cel)))))) (.a (.val (.bool (frB s L x y)))) (by kernel_rfl) (congrArg (fun z : Bool => B.a (.val (.bool z))) (by first | rfl | (unfold frB kxy; simp_all; done)))⟩
  ·skip
   have c2Q := inB_false.1 c2
   refine rg (zm ?_)
   refine z ?_ (h := fun ν => acts_call1 ν (impl_within_fn x 0 9 ) (ac (ArgV.v vt) (ac (ArgV.v vc) (ac (ArgV.v vc) an))) (resval (congrArg Value.bool c1)))
   refine zm ?_
   refine zg ?_ (h := fun ν => step_on rfl rfl (mt ν))
   refine zg ?_ (h := fun ν => step_on rfl rfl (acts_call1 ν (impl_within_fn y 0 9 ) (ac (ArgV.v vt) (ac (ArgV.v vc) (ac (ArgV.v vc) an))) (resval (congrArg Value.bool c2))))
   refine z ?_ (h := fun ν => acts_pick_t ν vt xt)
   refine zm (zo (zo (zo (zo (zo (zo (zo ?_)))))))
   refine z ?_ (h := fun ν => acts_pick_f ν vt xc)
   refine zm (zo (zo (zo (zo (zo (zo (zo (zo ?_))))))))
   refine z ?_ (h := fun ν => acts_pick_f ν vt xc)
   refine za (nl (wp_ret' ?_))
   exact ⟨_, weak_id, ⟨by kernel_rfl, by kernel_rfl, trivial⟩, vo_eq 6 (.a (.val (.bool false))) (.a (.val (.bool (frB s L x y)))) (by kernel_rfl) (congrArg (fun z : Bool => B.a (.val (.bool z))) (by first | rfl | (unfold frB kxy; simp_all; done)))⟩
 ·skip
  have c1Q := inB_false.1 c1
  refine rg (zm ?_)
  refine z ?_ (h := fun ν => acts_call1 ν (impl_within_fn x 0 9 ) (ac (ArgV.v vt) (ac (ArgV.v vc) (ac (ArgV.v vc) an))) (resval (congrArg Value.bool c1)))
  refine zm (zo (zo ?_))
  refine z ?_ (h := fun ν => acts_pick_f ν vt xc)
  refine zm (zo (zo (zo (zo (zo (zo (zo ?_)))))))
  refine z ?_ (h := fun ν => acts_pick_f ν vt xc)
  refine zm (zo (zo (zo (zo (zo (zo (zo (zo ?_))))))))
  refine z ?_ (h := fun ν => acts_pick_f ν vt xc)
  refine za (nl (wp_ret' ?_))
  exact ⟨_, weak_id, ⟨by kernel_rfl, by kernel_rfl, trivial⟩, vo_eq 6 (.a (.val (.bool false))) (.a (.val (.bool (frB s L x y)))) (by kernel_rfl) (congrArg (fun z : Bool => B.a (.val (.bool z))) (by first | rfl | (unfold frB kxy; simp_all; done)))⟩

set_option maxHeartbeats 4000000 in
set_option maxRecDepth 100000 in
theorem impl_CountHoles_2_fn : ∀ (n : Nat) (s : Nat) (L : List Nat) (u v : Int) (hs : s < 18446744073709551616) (hu : 0 ≤ u ∧ u ≤ 9) (hv : 0 ≤ v ∧ v ≤ 9) (hn : L.Nodup) (hL : ∀ z, z ∈ L → z < 100) (hk : kxy u v ∉ L) (hN : 100 < n + L.length), FnO Try.prog 88 [.a (.val (.int .i64 u)), .a (.val (.int .i64 v)), .a (.ptr 2 0), .a (.ptr 3 0), .a (.ptr 4 0)] [(.o 2, some (.o ⟨94, 1, true, pl (bsl (mkB L))⟩)), (.o 3, some (.o ⟨87, 1, true, [(.fn 87 [2, 5] : A)]⟩)), (.o 4, some (.o ⟨95, 1, true, [(.fn 88 [2, 3, 4] : A)]⟩)), (.o 5, some (.o ⟨57, 1, true, [(.val (.int .u64 ((s : Nat) : Int)) : A)]⟩))] (V.v (.tuple #[])) [(.o 2, some (.o ⟨94, 1, true, pl (bsl (mkB (dfs nb10 (free10 s) n L (kxy u v))))⟩)), (.o 3, some (.o ⟨87, 1, true, [(.fn 87 [2, 5] : A)]⟩)), (.o 4, some (.o ⟨95, 1, true, [(.fn 88 [2, 3, 4] : A)]⟩)), (.o 5, some (.o ⟨57, 1, true, [(.val (.int .u64 ((s : Nat) : Int)) : A)]⟩))] [2, 3, 4, 5] := by
 intro n
 induction n with
 | zero => intro s L u v hs hu hv hn hL hk hN; exfalso; (have := nodup_len 100 L hn hL; omega)
 | succ n ih =>
  intro s L u v hs hu hv hn hL hk hN
  have hml := mkB_len L
  refine fn_introO (N := 38) Try.func88 rfl (by kernel_rfl) rfl (Nat.le_of_ble_eq_true rfl) rfl rfl (by kernel_rfl) (by kernel_rfl) ⟨oc_pl (fun _ => rfl), ocs (by kernel_rfl), ocs (by kernel_rfl), ocs (by kernel_rfl), trivial⟩ [29, 37] (retO0 rfl) (fun W own kp im0 => ?_)
  show Wp _ _ _ [kI 0 u, kI 1 v, kP 2 2 0, kP 3 3 0, kP 4 4 0, kO 2 94 1 true (pl (bsl (mkB L))), kO 3 87 1 true [(.fn 87 [2, 5] : A)], kO 4 95 1 true [(.fn 88 [2, 3, 4] : A)], kO 5 57 1 true [(.val (.int .u64 ((s : Nat) : Int)) : A)], kF 29, kF 37]
  refine sq (rg (zm ?_))
  refine z ?_ (h := fun ν => acts_bin ν vt vc (rM (by first | omega | assumption | (rw [mkB_len]; omega) | exact hD2.nd | exact hD2.lt | exact hm4) (by first | omega | assumption | (rw [mkB_len]; omega) | exact hD2.nd | exact hD2.lt | exact hm4)))
  refine zm ?_
  refine z ?_ (h := fun ν => acts_bin ν vt vt (rA (by first | omega | assumption | (rw [mkB_len]; omega) | exact hD2.nd | exact hD2.lt | exact hm4) (by first | omega | assumption | (rw [mkB_len]; omega) | exact hD2.nd | exact hD2.lt | exact hm4)))
  refine z ?_ (h := fun ν => ixa (k := ((v * 10) + u).toNat) ν qC23_un_94 qC23_sz_4 vt (Int.toNat_of_nonneg (by first | omega | assumption | (rw [mkB_len]; omega) | exact hD2.nd | exact hD2.lt | exact hm4)).symm (by first | omega | assumption | (rw [mkB_len]; omega) | exact hD2.nd | exact hD2.lt | exact hm4))
  refine z ?_ (h := fun _ => sB qC23_ti_4 xc (by first | omega | assumption | (rw [mkB_len]; omega) | exact hD2.nd | exact hD2.lt | exact hm4))
  refine nl (sq (rg (zk (nl (bkk ?_)))))
  refine wp_loop' (fun ((p, M) : Nat × (List Nat)) => p ≤ 3 ∧ DT s n u v L (3 * p) M) (fun ((p, M) : Nat × (List Nat)) => [kI 0 u, kI 1 v, kP 3 3 0, kP 4 4 0, kI 7 (((p : Nat) : Int) - 1), kO 2 94 1 true (pl (bsl (mkB M))), kO 3 87 1 true [(.fn 87 [2, 5] : A)], kO 4 95 1 true [(.fn 88 [2, 3, 4] : A)], kO 5 57 1 true [(.val (.int .u64 ((s : Nat) : Int)) : A)], kF 29, kF 37]) (fun ((p, M) : Nat × (List Nat)) => 3 - p) ((0 : Nat), ((L ++ [kxy u v]) : List Nat)) (by exact ⟨by omega, DT.zero hu hv hn hL hk⟩) (wkf id (wS <| wS <| wS <| wS <| wE (e := (vint (by first | rfl | omega | exact mkB_add _ _ | exact (mkB_add _ _).symm))) <| wO (e := renob_eq (fun h => h) (congrArg bsl (by first | rfl | omega | exact mkB_add _ _ | exact (mkB_add _ _).symm))) <| wX <| wX <| wX <| wF <| wF <| wN)) ?_
  rintro ⟨p, M⟩ inv1
  replace inv1 : p ≤ 3 ∧ DT s n u v L (3 * p) M := inv1
  obtain ⟨inv1_0, inv1_1⟩ := inv1
  have hD : DT s n u v L (3 * p) M := by assumption
  refine sq (sq (rg (zm ?_)))
  refine z ?_ (h := fun ν => acts_bin ν vt vc (r_leq rfl))
  refine nl ?_
  refine wi (fun c2 => ?_) (fun c2 => ?_)
  ·skip
   have c2P := of_decide_eq_true c2
   refine sk (sq (bkk (sq (rg (zk (nl (bkk ?_)))))))
   refine wp_loop' (fun ((q, M2) : Nat × (List Nat)) => q ≤ 3 ∧ DT s n u v L (3 * p + q) M2) (fun ((q, M2) : Nat × (List Nat)) => [kI 0 u, kI 1 v, kP 3 3 0, kP 4 4 0, kI 7 (((p : Nat) : Int) - 1), kI 8 (((q : Nat) : Int) - 1), kO 2 94 1 true (pl (bsl (mkB M2))), kO 3 87 1 true [(.fn 87 [2, 5] : A)], kO 4 95 1 true [(.fn 88 [2, 3, 4] : A)], kO 5 57 1 true [(.val (.int .u64 ((s : Nat) : Int)) : A)], kF 29, kF 37]) (fun ((q, M2) : Nat × (List Nat)) => 3 - q) ((0 : Nat), (M : List Nat)) (by exact ⟨by omega, hD⟩) (wkf id (wS <| wS <| wS <| wS <| wS <| wE (e := (vint (by first | rfl | omega))) <| wP <| wX <| wX <| wX <| wF <| wF <| wN)) ?_
   rintro ⟨q, M2⟩ inv3
   replace inv3 : q ≤ 3 ∧ DT s n u v L (3 * p + q) M2 := inv3
   obtain ⟨inv3_0, inv3_1⟩ := inv3
   have hD2 : DT s n u v L (3 * p + q) M2 := by assumption
   refine sq (sq (rg (zm ?_)))
   refine z ?_ (h := fun ν => acts_bin ν vt vc (r_leq rfl))
   refine nl ?_
   refine wi (fun c4 => ?_) (fun c4 => ?_)
   ·skip
    have c4P := of_decide_eq_true c4
    refine sk (sq (bkk (sq (rg ?_))))
    refine z ?_ (h := fun ν => acts_load_own (x := .fn 87 [2, 5]) ν qC23_ti_87 (by exact rfl))
    refine zm (zm ?_)
    refine z ?_ (h := fun ν => acts_bin ν vt vt (rA (by first | omega | assumption | (rw [mkB_len]; omega) | exact hD2.nd | exact hD2.lt | exact hm4) (by first | omega | assumption | (rw [mkB_len]; omega) | exact hD2.nd | exact hD2.lt | exact hm4)))
    refine zm (zm ?_)
    refine z ?_ (h := fun ν => acts_bin ν vt vt (rA (by first | omega | assumption | (rw [mkB_len]; omega) | exact hD2.nd | exact hD2.lt | exact hm4) (by first | omega | assumption | (rw [mkB_len]; omega) | exact hD2.nd | exact hD2.lt | exact hm4)))
    refine z ?_ (h := fun ν => acts_callV (d := 29) (f := 87) (t := 22) (caps := [2, 5]) (os := [(.o 2, some (.o ⟨94, 1, true, pl (bsl (mkB M2))⟩)), (.o 5, some (.o ⟨57, 1, true, [(.val (.int .u64 ((s : Nat) : Int)) : A)]⟩))]) (os' := [(.o 2, some (.o ⟨94, 1, true, pl (bsl (mkB M2))⟩)), (.o 5, some (.o ⟨57, 1, true, [(.val (.int .u64 ((s : Nat) : Int)) : A)]⟩))]) (r := V.v (.bool (frB s M2 (u + (((q : Nat) : Int) - 1)) (v + (((p : Nat) : Int) - 1))))) (bs := [.a (.val (.int .i64 (u + (((q : Nat) : Int) - 1)))), .a (.val (.int .i64 (v + (((p : Nat) : Int) - 1))))]) (keep := [2, 5]) (new := []) (dead := []) ν (FnO.ren' (impl_CountHoles_1_fn s M2 (u + (((q : Nat) : Int) - 1)) (v + (((p : Nat) : Int) - 1)) (by first | omega | assumption | (rw [mkB_len]; omega) | exact hD2.nd | exact hD2.lt | exact hm4) (by first | omega | assumption | (rw [mkB_len]; omega) | exact hD2.nd | exact hD2.lt | exact hm4) (by first | omega | assumption | (rw [mkB_len]; omega) | exact hD2.nd | exact hD2.lt | exact hm4)) (subst1 [(3, 5)]) rfl rfl (by kernel_rfl) (by kernel_rfl) ⟨oc_pl (fun _ => rfl), ocs (by kernel_rfl), trivial⟩ (by kernel_rfl) rfl (by simp only [renS, Ob.ren, pl_ren, rws_ren_doms, rws_ren_ints, rws_ren_cels]; first | done | rfl) (by simp only [renS, Ob.ren, pl_ren, rws_ren_doms, rws_ren_ints, rws_ren_cels]; first | done | rfl) rfl rfl) (by kernel_rfl) ⟨oc_pl (fun _ => rfl), ocs (by kernel_rfl), trivial⟩ (by kernel_rfl) (ArgOs.cons ((ArgO.v vt)) (ArgOs.cons ((ArgO.v vt)) (ArgOs.nil))))
    refine nl ?_
    refine wi (b := (frB s M2 (u + (((q : Nat) : Int) - 1)) (v + (((p : Nat) : Int) - 1)))) (fun c5 => ?_) (fun c5 => ?_)
    ·skip
     obtain ⟨hm1, hm2, hm3, hm4, hm5⟩ := hD2.more c5 hN
     refine rg ?_
     refine z ?_ (h := fun ν => acts_load_own (x := .fn 88 [2, 3, 4]) ν qC23_ti_95 (by exact rfl))
     refine zm (zm ?_)
     refine z ?_ (h := fun ν => acts_bin ν vt vt (rA (by first | omega | assumption | (rw [mkB_len]; omega) | exact hD2.nd | exact hD2.lt | exact hm4) (by first | omega | assumption | (rw [mkB_len]; omega) | exact hD2.nd | exact hD2.lt | exact hm4)))
     refine zm (zm ?_)
     refine z ?_ (h := fun ν => acts_bin ν vt vt (rA (by first | omega | assumption | (rw [mkB_len]; omega) | exact hD2.nd | exact hD2.lt | exact hm4) (by first | omega | assumption | (rw [mkB_len]; omega) | exact hD2.nd | exact hD2.lt | exact hm4)))
     refine z ?_ (h := fun ν => acts_callV (d := 37) (f := 88) (t := 30) (caps := [2, 3, 4]) (os := [(.o 2, some (.o ⟨94, 1, true, pl (bsl (mkB M2))⟩)), (.o 3, some (.o ⟨87, 1, true, [(.fn 87 [2, 5] : A)]⟩)), (.o 4, some (.o ⟨95, 1, true, [(.fn 88 [2, 3, 4] : A)]⟩)), (.o 5, some (.o ⟨57, 1, true, [(.val (.int .u64 ((s : Nat) : Int)) : A)]⟩))]) (os' := [(.o 2, some (.o ⟨94, 1, true, pl (bsl (mkB (dfs nb10 (free10 s) n M2 (kxy (u + (((q : Nat) : Int) - 1)) (v + (((p : Nat) : Int) - 1))))))⟩)), (.o 3, some (.o ⟨87, 1, true, [(.fn 87 [2, 5] : A)]⟩)), (.o 4, some (.o ⟨95, 1, true, [(.fn 88 [2, 3, 4] : A)]⟩)), (.o 5, some (.o ⟨57, 1, true, [(.val (.int .u64 ((s : Nat) : Int)) : A)]⟩))]) (r := V.v (.tuple #[])) (bs := [.a (.val (.int .i64 (u + (((q : Nat) : Int) - 1)))), .a (.val (.int .i64 (v + (((p : Nat) : Int) - 1))))]) (keep := [2, 3, 4, 5]) (new := []) (dead := []) ν ((ih s M2 (u + (((q : Nat) : Int) - 1)) (v + (((p : Nat) : Int) - 1)) (by first | omega | assumption | (rw [mkB_len]; omega) | exact hD2.nd | exact hD2.lt | exact hm4) (by first | omega | assumption | (rw [mkB_len]; omega) | exact hD2.nd | exact hD2.lt | exact hm4) (by first | omega | assumption | (rw [mkB_len]; omega) | exact hD2.nd | exact hD2.lt | exact hm4) (by first | omega | assumption | (rw [mkB_len]; omega) | exact hD2.nd | exact hD2.lt | exact hm4) (by first | omega | assumption | (rw [mkB_len]; omega) | exact hD2.nd | exact hD2.lt | exact hm4) (by first | omega | assumption | (rw [mkB_len]; omega) | exact hD2.nd | exact hD2.lt | exact hm4) (by first | omega | assumption | (rw [mkB_len]; omega) | exact hD2.nd | exact hD2.lt | exact hm4))) (by kernel_rfl) ⟨oc_pl (fun _ => rfl), ocs (by kernel_rfl), ocs (by kernel_rfl), ocs (by kernel_rfl), trivial⟩ (by kernel_rfl) (ArgOs.cons ((ArgO.v vt)) (ArgOs.cons ((ArgO.v vt)) (ArgOs.nil))))
     refine nl (rg (zm ?_))
     refine z ?_ (h := fun ν => acts_bin ν vt vc (rA (by first | omega | assumption | (rw [mkB_len]; omega) | exact hD2.nd | exact hD2.lt | exact hm4) (by first | omega | assumption | (rw [mkB_len]; omega) | exact hD2.nd | exact hD2.lt | exact hm4)))
     refine za (nl ?_)
     exact loop_back ((q + 1), (dfs nb10 (free10 s) n M2 (kxy (u + ((q : Int) - 1)) (v + ((p : Int) - 1))))) (by refine ⟨by omega, ?_⟩; first | exact hD2.yes hu hv (by omega) (by assumption) hN | exact hD2.no hu hv (by omega) (by assumption)) (by show 3 - (q + 1) < 3 - q; omega) (wkf id (wS <| wS <| wS <| wS <| wS <| wE (e := (vint (by first | rfl | omega))) <| wO (e := renob_eq (fun h => h) (congrArg bsl (by first | rfl | omega))) <| wX <| wX <| wX <| wF <| wF <| wN))
    ·skip
     refine sk (rg (zm ?_))
     refine z ?_ (h := fun ν => acts_bin ν vt vc (rA (by first | omega | assumption | (rw [mkB_len]; omega) | exact hD2.nd | exact hD2.lt | exact hm4) (by first | omega | assumption | (rw [mkB_len]; omega) | exact hD2.nd | exact hD2.lt | exact hm4)))
     refine za (nl ?_)
     exact loop_back ((q + 1), M2) (by refine ⟨by omega, ?_⟩; first | exact hD2.yes hu hv (by omega) (by assumption) hN | exact hD2.no hu hv (by omega) (by assumption)) (by show 3 - (q + 1) < 3 - q; omega) (wkf id (wS <| wS <| wS <| wS <| wS <| wE (e := (vint (by first | rfl | omega))) <| wP <| wX <| wX <| wX <| wF <| wF <| wN))
   ·skip
    have c4P := of_decide_eq_false c4
    refine wp_exit' (rg (zm ?_))
    refine z ?_ (h := fun ν => acts_bin ν vt vc (rA (by first | omega | assumption | (rw [mkB_len]; omega) | exact hD2.nd | exact hD2.lt | exact hm4) (by first | omega | assumption | (rw [mkB_len]; omega) | exact hD2.nd | exact hD2.lt | exact hm4)))
    refine za (nl ?_)
    exact loop_back ((p + 1), M2) (by refine ⟨by omega, ?_⟩; (have e : q = 3 := by omega); subst e; exact hD2) (by show 3 - (p + 1) < 3 - p; omega) (wkf id (wS <| wS <| wS <| wS <| wE (e := (vint (by first | rfl | omega | exact mkB_add _ _ | exact (mkB_add _ _).symm))) <| wP <| wX <| wX <| wX <| wF <| wF <| wN))
  ·skip
   have c2P := of_decide_eq_false c2
   refine wp_exit' ?_
   exact ⟨_, weak_id, ⟨obj_eq (c := pl (bsl (mkB M))) (by kernel_rfl) (congrArg (fun z => pl (bsl z)) (by rw [← hD.end (by omega)])), by kernel_rfl, by kernel_rfl, by kernel_rfl, trivial⟩, trivial⟩
end Cl
end Go.Proofs.Ytjgimiicfekcpaa
