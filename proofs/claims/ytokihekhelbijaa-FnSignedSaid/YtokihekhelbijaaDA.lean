/- Parts put together: D4, D5, D6. -/
import Derived.Test.YtokihekhelbijaaD2
import Derived.Test.YtokihekhelbijaaD3
import Derived.Test.YtokihekhelbijaaClB
set_option linter.unusedSimpArgs false
set_option linter.unusedVariables false
namespace Go.Proofs.Ytokihekhelbijaa
namespace Cl
open Go.ChangeShapes Go.WideShapes Go.ChangeAt Go.RowKit
set_option maxRecDepth 20000

def nW (a : Int) : Int := IntKind.i64.wrap (-a)
def szM (a : Int) : Int := max a (nW a)
noncomputable def cbs (l : List Int) : Int := if (smR l).length = 0 then -1 else szM (detR (smR l))
theorem cbs_no {l : List Int} (h : (smR l).length = 0) : cbs l = -1 := by unfold cbs; rw [if_pos h]
theorem cbs_yes {l : List Int} (h : (smR l).length ≠ 0) : cbs l = szM (detR (smR l)) := by unfold cbs; rw [if_neg h]
theorem smR_pos {l : List Int} (h : balB l = true) (h2 : inB ((cellsOf l).length : Int) 1 32 = true) : 0 < (smR l).length := by
  rw [smR_yes (so3 h h2)]
  unfold signM; rw [List.length_map]
  unfold balB at h
  rw [Bool.and_eq_true, decide_eq_true_eq] at h
  have h3 := inB_true.1 h2
  have h4 := h.2
  unfold bexc at h4
  unfold blk
  omega

theorem qD4_ti_26 : TI Try.prog 26 true 1 := ⟨⟨_, Try.underlying26, rfl⟩, by kernel_rfl⟩
theorem qD4_un_29 : Try.prog.underlying 29 = some (.slice 24) := Try.underlying29
set_option maxHeartbeats 4000000 in
set_option maxRecDepth 100000 in
theorem SignMatrix_no1 (l : List Int) (hl : l.length ≤ 4194304) (hb : balB l = false) : FnO Try.prog 11 [.agg [(.sl 800 0 l.length : A)]] [(.o 800, some (.o ⟨3, 1, true, pl (isl l)⟩))] (V.v (.slice none 0 0)) [(.o 800, some (.o ⟨3, 1, true, pl (isl l)⟩))] [800] := by
 have h64 := cellsOf_len l
 refine fn_introO (N := 73) Try.func11 rfl (by kernel_rfl) rfl (Nat.le_of_ble_eq_true rfl) rfl rfl (by kernel_rfl) (by kernel_rfl) ⟨oc_pl (fun _ => rfl), trivial⟩ [1, 5, 8, 10, 14, 15, 18, 20, 21, 27, 29, 31, 32, 38, 39, 42, 46, 49, 50, 64, 65, 69, 70] (retO1 rfl) (fun W own kp im0 => ?_)
 show Wp _ _ _ [kV 0 (V.b (.agg [(.sl 800 0 l.length : A)])), kO 800 3 1 true (pl (isl l)), kF 1, kF 5, kF 8, kF 10, kF 14, kF 15, kF 18, kF 20, kF 21, kF 27, kF 29, kF 31, kF 32, kF 38, kF 39, kF 42, kF 46, kF 49, kF 50, kF 64, kF 65, kF 69, kF 70]
 refine sq (rg ?_)
 refine z ?_ (h := fun ν => acts_box (h := 1) ν xt (by exact ob1 rfl))
 refine zk (nl (sq (sq (rg ?_))))
 refine z ?_ (h := fun ν => acts_load_owns (xs := [(.sl 800 0 l.length : A)]) ν qD4_ti_26 rfl (by decide) rfl)
 refine z ?_ (h := fun ν => acts_call1 ν (impl_IsBalanced_fn l (by first | omega | assumption | exact cell_at (by omega) | (simp; omega))) (ac (ArgV.reg _ _ _ (s := 1) (by simp [isl]) (by first | exact List.take_of_length_le (by simp [isl]) | (simp [isl]; done))) an) (resval (congrArg Value.bool hb)))
 refine z ?_ (h := fun ν => acts_un ν vt (r_not (c := true) rfl))
 refine zm (zo (zo (zo (zo ?_))))
 refine z ?_ (h := fun ν => acts_pick_t ν vt xc)
 refine nl (wt (sq (rg (zk (nl (wp_ret' ?_))))))
 exact ⟨_, weak_id, ⟨by kernel_rfl, trivial⟩, VO.tmp 2 (.a (.val (.slice none 0 0))) (by kernel_rfl)⟩

set_option maxHeartbeats 4000000 in
set_option maxRecDepth 100000 in
theorem SignMatrix_no2 (l : List Int) (hl : l.length ≤ 4194304) (hb : balB l = true) (hn : inB ((cellsOf l).length : Int) 1 32 = false) : FnO Try.prog 11 [.agg [(.sl 800 0 l.length : A)]] [(.o 800, some (.o ⟨3, 1, true, pl (isl l)⟩))] (V.v (.slice none 0 0)) [(.o 800, some (.o ⟨3, 1, true, pl (isl l)⟩))] [800] := by
 have h64 := cellsOf_len l
 refine fn_introO (N := 73) Try.func11 rfl (by kernel_rfl) rfl (Nat.le_of_ble_eq_true rfl) rfl rfl (by kernel_rfl) (by kernel_rfl) ⟨oc_pl (fun _ => rfl), trivial⟩ [1, 5, 8, 10, 14, 15, 18, 20, 21, 27, 29, 31, 32, 38, 39, 42, 46, 49, 50, 64, 65, 69, 70] (retO1 rfl) (fun W own kp im0 => ?_)
 show Wp _ _ _ [kV 0 (V.b (.agg [(.sl 800 0 l.length : A)])), kO 800 3 1 true (pl (isl l)), kF 1, kF 5, kF 8, kF 10, kF 14, kF 15, kF 18, kF 20, kF 21, kF 27, kF 29, kF 31, kF 32, kF 38, kF 39, kF 42, kF 46, kF 49, kF 50, kF 64, kF 65, kF 69, kF 70]
 refine sq (rg ?_)
 refine z ?_ (h := fun ν => acts_box (h := 1) ν xt (by exact ob1 rfl))
 refine zk (nl (sq (sq (rg ?_))))
 refine z ?_ (h := fun ν => acts_load_owns (xs := [(.sl 800 0 l.length : A)]) ν qD4_ti_26 rfl (by decide) rfl)
 refine z ?_ (h := fun ν => acts_call1 ν (impl_IsBalanced_fn l (by first | omega | assumption | exact cell_at (by omega) | (simp; omega))) (ac (ArgV.reg _ _ _ (s := 1) (by simp [isl]) (by first | exact List.take_of_length_le (by simp [isl]) | (simp [isl]; done))) an) (resval (congrArg Value.bool hb)))
 refine z ?_ (h := fun ν => acts_un ν vt (r_not (c := false) rfl))
 refine zm ?_
 refine zg ?_ (h := fun ν => step_on rfl rfl (acts_load_owns (xs := [(.sl 800 0 l.length : A)]) ν qD4_ti_26 rfl (by decide) rfl))
 refine zg ?_ (h := fun ν => step_on rfl rfl (acts_call1 ν (impl_CountCells_fn l (by first | omega | assumption | exact cell_at (by omega) | (simp; omega))) (ac (ArgV.reg _ _ _ (s := 1) (by simp [isl]) (by first | exact List.take_of_length_le (by simp [isl]) | (simp [isl]; done))) an) rv))
 refine zg ?_ (h := fun ν => step_on rfl rfl (acts_call1 ν (impl_within_fn (((cellsOf l).length : Nat) : Int) 1 32 ) (ac (ArgV.v vt) (ac (ArgV.v vc) (ac (ArgV.v vc) an))) (resval (congrArg Value.bool hn))))
 refine zg ?_ (h := fun ν => step_on rfl rfl (acts_un ν vt (r_not (c := true) rfl)))
 refine z ?_ (h := fun ν => acts_pick_f ν vt xt)
 refine nl (wt (sq (rg (zk (nl (wp_ret' ?_))))))
 exact ⟨_, weak_id, ⟨by kernel_rfl, trivial⟩, VO.tmp 2 (.a (.val (.slice none 0 0))) (by kernel_rfl)⟩

set_option maxHeartbeats 4000000 in
set_option maxRecDepth 100000 in
theorem size_w (a : Int) : Fn Try.prog 17 [.a (.val (.int .i64 a))] [.val (.int .i64 (szM a))] := by
 refine fn_intro (N := 7) Try.func17 rfl (by kernel_rfl) rfl (Nat.le_of_ble_eq_true rfl) [6] (ret1 rfl) (fun W => ?_)
 show Wp _ _ _ [kI 0 a, kF 6]
 refine sq (rg (zk (nl (sq (rg (zm (zm ?_)))))))
 refine z ?_ (h := fun ν => acts_un ν vt (r_neg (c := (nW a)) rfl))
 refine z ?_ (h := fun ν => acts_max (c := (max a (nW a))) ν vt vt (by omega))
 refine za (nl (wp_ret' ?_))
 exact VRes.tmp _ _ _ (by exact rfl) (bval (congrArg (Value.int .i64) (by rfl)))

set_option maxHeartbeats 4000000 in
set_option maxRecDepth 100000 in
theorem impl_CountBySigns_fn (l : List Int) (hl : l.length ≤ 4194304) : FnO Try.prog 6 [.agg [(.sl 800 0 l.length : A)]] [(.o 800, some (.o ⟨3, 1, true, pl (isl l)⟩))] (V.v (.int .i64 (cbs l))) [(.o 800, some (.o ⟨3, 1, true, pl (isl l)⟩))] [800] := by
 have h64 := smR_len l
 have hr22 : ∀ k, k < (smR l).length → (gLs (smR l) k).length ≤ 4194304 := fun k hk => Nat.le_trans (smR_row hk) (by decide)
 refine fn_introO (N := 11) Try.func6 rfl (by kernel_rfl) rfl (Nat.le_of_ble_eq_true rfl) rfl rfl (by kernel_rfl) (by kernel_rfl) ⟨oc_pl (fun _ => rfl), trivial⟩ [1, 5, 9, 10] (retO1 rfl) (fun W own kp im0 => ?_)
 show Wp _ _ _ [kV 0 (V.b (.agg [(.sl 800 0 l.length : A)])), kO 800 3 1 true (pl (isl l)), kF 1, kF 5, kF 9, kF 10]
 refine sq (rg ?_)
 refine z ?_ (h := fun ν => acts_box (h := 1) ν xt (by exact ob1 rfl))
 refine zk (nl (sq ?_))
 rcases Bool.eq_false_or_eq_true ((balB l)) with c1 | c1
 ·skip
  rcases Bool.eq_false_or_eq_true ((inB (((cellsOf l).length : Nat) : Int) 1 32)) with c2 | c2
  ·skip
   have hps := smR_pos (by assumption) c2
   refine rg ?_
   refine z ?_ (h := fun ν => acts_load_owns (xs := [(.sl 800 0 l.length : A)]) ν qD4_ti_26 rfl (by decide) rfl)
   refine z ?_ (h := fun ν => acts_callO (d := 5) (f := 11) (os := [(.o 800, some (.o ⟨3, 1, true, pl (isl l)⟩))]) (os' := [(.o 800, some (.o ⟨3, 1, true, pl (isl l)⟩)), (.o 5, some (.o ⟨24, 1, true, rwI 3 (smR l)⟩))]) (r := V.b (.a (.sl 5 0 ((smR l).length)))) (bs := [.agg [(.sl 800 0 l.length : A)]]) (keep := [800]) (new := [5]) (dead := []) ν (FnO.ren' (impl_SignMatrix_fn l (by first | omega | assumption)) (subst1 [(900, 5)]) rfl rfl (by kernel_rfl) (by kernel_rfl) ⟨oc_pl (fun _ => rfl), oc_rwI, trivial⟩ (by kernel_rfl) rfl (by simp only [renS, Ob.ren, pl_ren, rws_ren_doms, rws_ren_ints, rws_ren_cels, rwI_ren, rwD_ren]; first | done | rfl) (by simp only [renS, Ob.ren, pl_ren, rws_ren_doms, rws_ren_ints, rws_ren_cels, rwI_ren, rwD_ren]; first | done | rfl) rfl rfl) (by kernel_rfl) ⟨oc_pl (fun _ => rfl), oc_rwI, trivial⟩ (by kernel_rfl) (ArgOs.cons (ArgO.slot 4 (.agg [(.sl 800 0 l.length : A)])) (ArgOs.nil)))
   refine za (nl (sq (sq (rg (zm ?_)))))
   refine z ?_ (h := fun ν => acts_seql ν qD4_un_29 (by first | omega | assumption))
   refine nl (wf (sk (sq (rg (zm ?_)))))
   refine z ?_ (h := fun ν => acts_call1 ν (impl_DeterminantOf_fn (smR l) (by first | omega | assumption) (by first | omega | assumption)) (ac (dvI (L := (smR l))) an) rv)
   refine z ?_ (h := fun ν => acts_call1 ν (size_w (detR (smR l)) ) (ac (ArgV.v vt) an) rv)
   refine za (nl (wp_ret' ?_))
   exact ⟨_, weak_id, ⟨by kernel_rfl, trivial⟩, vo_eq 2 (.a (.val (.int .i64 (szM (detR (smR l)))))) (.a (.val (.int .i64 (cbs l)))) (by kernel_rfl) (congrArg (fun z : Int => B.a (.val (.int .i64 z))) (by first | exact Eq.symm (cbs_no (by omega)) | exact Eq.symm (cbs_no (smR_nl hno)) | exact Eq.symm (cbs_yes (by omega))))⟩
  ·skip
   have hno := so2 c2
   refine rg ?_
   refine z ?_ (h := fun ν => acts_load_owns (xs := [(.sl 800 0 l.length : A)]) ν qD4_ti_26 rfl (by decide) rfl)
   refine z ?_ (h := fun ν => acts_callO (d := 5) (f := 11) (os := [(.o 800, some (.o ⟨3, 1, true, pl (isl l)⟩))]) (os' := [(.o 800, some (.o ⟨3, 1, true, pl (isl l)⟩))]) (r := V.v (.slice none 0 0)) (bs := [.agg [(.sl 800 0 l.length : A)]]) (keep := [800]) (new := []) (dead := []) ν ((SignMatrix_no2 l (by first | omega | assumption) (by first | omega | assumption) (by first | omega | assumption))) (by kernel_rfl) ⟨oc_pl (fun _ => rfl), trivial⟩ (by kernel_rfl) (ArgOs.cons (ArgO.slot 4 (.agg [(.sl 800 0 l.length : A)])) (ArgOs.nil)))
   refine za (nl (sq (sq (rg (zm ?_)))))
   refine z ?_ (h := fun ν => acts_bin ν vt vc (r_seql0 qD4_un_29 rfl))
   refine nl (wt (sq (rg (zk (nl (wp_ret' ?_))))))
   exact ⟨_, weak_id, ⟨by kernel_rfl, trivial⟩, vo_eq 2 (.a (.val (.int .i64 (-1)))) (.a (.val (.int .i64 (cbs l)))) (by kernel_rfl) (congrArg (fun z : Int => B.a (.val (.int .i64 z))) (by first | exact Eq.symm (cbs_no (by omega)) | exact Eq.symm (cbs_no (smR_nl hno)) | exact Eq.symm (cbs_yes (by omega))))⟩
 ·skip
  have hno := so1 c1
  refine rg ?_
  refine z ?_ (h := fun ν => acts_load_owns (xs := [(.sl 800 0 l.length : A)]) ν qD4_ti_26 rfl (by decide) rfl)
  refine z ?_ (h := fun ν => acts_callO (d := 5) (f := 11) (os := [(.o 800, some (.o ⟨3, 1, true, pl (isl l)⟩))]) (os' := [(.o 800, some (.o ⟨3, 1, true, pl (isl l)⟩))]) (r := V.v (.slice none 0 0)) (bs := [.agg [(.sl 800 0 l.length : A)]]) (keep := [800]) (new := []) (dead := []) ν ((SignMatrix_no1 l (by first | omega | assumption) (by first | omega | assumption))) (by kernel_rfl) ⟨oc_pl (fun _ => rfl), trivial⟩ (by kernel_rfl) (ArgOs.cons (ArgO.slot 4 (.agg [(.sl 800 0 l.length : A)])) (ArgOs.nil)))
  refine za (nl (sq (sq (rg (zm ?_)))))
  refine z ?_ (h := fun ν => acts_bin ν vt vc (r_seql0 qD4_un_29 rfl))
  refine nl (wt (sq (rg (zk (nl (wp_ret' ?_))))))
  exact ⟨_, weak_id, ⟨by kernel_rfl, trivial⟩, vo_eq 2 (.a (.val (.int .i64 (-1)))) (.a (.val (.int .i64 (cbs l)))) (by kernel_rfl) (congrArg (fun z : Int => B.a (.val (.int .i64 z))) (by first | exact Eq.symm (cbs_no (by omega)) | exact Eq.symm (cbs_no (smR_nl hno)) | exact Eq.symm (cbs_yes (by omega))))⟩
end Cl
end Go.Proofs.Ytokihekhelbijaa

namespace Go.Proofs.Ytokihekhelbijaa
namespace Cl
open Go.ChangeShapes Go.WideShapes Go.ChangeAt Go.RowKit
set_option maxRecDepth 20000
/-! sums and the bitmask sum of permanents -/
def sumK (g : Nat → Nat) : Nat → Nat
  | 0 => 0
  | n + 1 => sumK g n + g n
theorem sumK_congr {g g' : Nat → Nat} {n : Nat} (h : ∀ k, k < n → g k = g' k) : sumK g n = sumK g' n := by
  induction n with
  | zero => rfl
  | succ n ih => unfold sumK; rw [ih fun k hk => h k (by omega), h n (by omega)]
theorem sumK_le {g g' : Nat → Nat} {n : Nat} (h : ∀ k, k < n → g k ≤ g' k) : sumK g n ≤ sumK g' n := by
  induction n with
  | zero => exact Nat.le_refl _
  | succ n ih => unfold sumK; have := ih fun k hk => h k (by omega); have := h n (by omega); omega
theorem sumK_one {g : Nat → Nat} {n i : Nat} (h : i < n) : g i ≤ sumK g n := by
  induction n with
  | zero => omega
  | succ n ih =>
    unfold sumK
    rcases Nat.lt_or_ge i n with h1 | h1
    · have := ih h1; omega
    · rw [show i = n by omega]; omega
theorem sumK_upd {g g' : Nat → Nat} {n i d : Nat} (h : i < n) (h1 : ∀ k, k ≠ i → g' k = g k) (h2 : g' i = g i + d) : sumK g' n = sumK g n + d := by
  induction n with
  | zero => omega
  | succ n ih =>
    unfold sumK
    rcases Nat.lt_or_ge i n with h3 | h3
    · rw [ih h3, h1 n (by omega)]; omega
    · have e : i = n := by omega
      subst e
      rw [h2, sumK_congr (g := g') (g' := g) fun k hk => h1 k (by omega)]; omega
theorem sumK_zero {g : Nat → Nat} {n : Nat} (h : ∀ k, k < n → g k = 0) : sumK g n = 0 := by
  induction n with
  | zero => rfl
  | succ n ih => unfold sumK; rw [ih fun k hk => h k (by omega), h n (by omega)]
/-- the weight of what lies at t and behind it -/
def tailW (w G : Nat → Nat) (N t : Nat) : Nat := sumK (fun u => if t ≤ u then w u * G u else 0) N
theorem tailW_cut {w G : Nat → Nat} {N t : Nat} (h : t < N) : tailW w G N t = w t * G t + tailW w G N (t + 1) := by
  unfold tailW
  rw [sumK_upd (g := fun u => if t + 1 ≤ u then w u * G u else 0) (g' := fun u => if t ≤ u then w u * G u else 0) (i := t) (d := w t * G t) h (fun k hk => by
    show (if t ≤ k then w k * G k else 0) = if t + 1 ≤ k then w k * G k else 0
    by_cases h1 : t + 1 ≤ k
    · rw [if_pos h1, if_pos (by omega)]
    · rw [if_neg h1, if_neg (by omega)]) (by
    show (if t ≤ t then w t * G t else 0) = (if t + 1 ≤ t then w t * G t else 0) + w t * G t
    rw [if_pos (Nat.le_refl _), if_neg (by omega)]; omega)]
  omega
theorem tailW_add {w w' G : Nat → Nat} {N t v d : Nat} (hv : v < N) (ht : t ≤ v) (h1 : ∀ k, k ≠ v → w' k = w k) (h2 : w' v = w v + d) : tailW w' G N t = tailW w G N t + d * G v := by
  unfold tailW
  refine sumK_upd hv (fun k hk => by show (if t ≤ k then w' k * G k else 0) = _; rw [h1 k hk]) ?_
  show (if t ≤ v then w' v * G v else 0) = (if t ≤ v then w v * G v else 0) + d * G v
  rw [if_pos ht, if_pos ht, h2, Nat.add_mul]
theorem tailW_get {w G : Nat → Nat} {N t u : Nat} (hu : u < N) (ht : t ≤ u) : w u * G u ≤ tailW w G N t := by
  have := sumK_one (g := fun u => if t ≤ u then w u * G u else 0) hu
  simp only [if_pos ht] at this
  exact this
theorem tailW_last {w G : Nat → Nat} {N t : Nat} (h : t + 1 = N) : tailW w G N t = w t * G t := by
  rw [tailW_cut (by omega)]
  have : tailW w G N (t + 1) = 0 := sumK_zero fun k hk => if_neg (by omega)
  omega
/-- the steps of one mask: those from k on -/
def restW (ok : Nat → Bool) (G : Nat → Nat) (nx : Nat → Nat) (n k : Nat) : Nat := sumK (fun i => if k ≤ i ∧ ok i = true then G (nx i) else 0) n
theorem restW_yes {ok : Nat → Bool} {G nx : Nat → Nat} {n k : Nat} (h : k < n) (ho : ok k = true) : restW ok G nx n k = G (nx k) + restW ok G nx n (k + 1) := by
  unfold restW
  rw [sumK_upd (g := fun i => if k + 1 ≤ i ∧ ok i = true then G (nx i) else 0) (g' := fun i => if k ≤ i ∧ ok i = true then G (nx i) else 0) (i := k) (d := G (nx k)) h (fun i hi => by
    show (if k ≤ i ∧ ok i = true then G (nx i) else 0) = if k + 1 ≤ i ∧ ok i = true then G (nx i) else 0
    have : (k ≤ i ∧ ok i = true) ↔ (k + 1 ≤ i ∧ ok i = true) := by constructor <;> intro ⟨a, b⟩ <;> exact ⟨by omega, b⟩
    simp only [this]) (by
    show (if k ≤ k ∧ ok k = true then G (nx k) else 0) = (if k + 1 ≤ k ∧ ok k = true then G (nx k) else 0) + G (nx k)
    rw [if_pos ⟨Nat.le_refl _, ho⟩, if_neg (by omega)]; omega)]
  omega
theorem restW_no {ok : Nat → Bool} {G nx : Nat → Nat} {n k : Nat} (ho : ok k = false) : restW ok G nx n k = restW ok G nx n (k + 1) := by
  unfold restW
  refine sumK_congr fun i hi => ?_
  have : (k ≤ i ∧ ok i = true) ↔ (k + 1 ≤ i ∧ ok i = true) := by
    constructor
    · intro ⟨a, b⟩
      refine ⟨?_, b⟩
      rcases Nat.lt_or_ge k i with h | h
      · exact h
      · rw [show i = k by omega, ho] at b; cases b
    · intro ⟨a, b⟩; exact ⟨by omega, b⟩
  simp only [this]
theorem restW_end {ok : Nat → Bool} {G nx : Nat → Nat} {n k : Nat} (h : n ≤ k) : restW ok G nx n k = 0 := sumK_zero fun i hi => if_neg (by omega)
/-- one step of a mask keeps the weight -/
theorem step_keep {w w' G : Nat → Nat} {N n t k : Nat} {ok : Nat → Bool} {nx : Nat → Nat} (hk : k < n) (ho : ok k = true) (hv : nx k < N) (ht : t < nx k) (h1 : ∀ u, u ≠ nx k → w' u = w u) (h2 : w' (nx k) = w (nx k) + w t) :
    tailW w' G N (t + 1) + w' t * restW ok G nx n (k + 1) = tailW w G N (t + 1) + w t * restW ok G nx n k := by
  rw [tailW_add (d := w t) hv (by omega) h1 h2, h1 t (by omega), restW_yes hk ho, Nat.mul_add]; omega
/-- the number of ones below n -/
def pcM (n t : Nat) : Nat := sumK (fun i => if t.testBit i = true then 1 else 0) n
theorem pcN_le (n t : Nat) : pcM n t ≤ n := by
  unfold pcM
  induction n with
  | zero => exact Nat.le_refl _
  | succ n ih => unfold sumK; split <;> omega
def nxM (t k : Nat) : Nat := t ||| 2 ^ k
theorem nxt_bit (t k i : Nat) : (nxM t k).testBit i = (t.testBit i || decide (k = i)) := by
  unfold nxM
  rw [Nat.testBit_or, Nat.testBit_two_pow]
theorem pcN_nxt {n t k : Nat} (hk : k < n) (h : t.testBit k = false) : pcM n (nxM t k) = pcM n t + 1 := by
  unfold pcM
  refine sumK_upd hk (fun i hi => ?_) ?_
  · show (if (nxM t k).testBit i = true then 1 else 0) = if t.testBit i = true then 1 else 0
    rw [nxt_bit, decide_eq_false (fun e => hi e.symm), Bool.or_false]
  · show (if (nxM t k).testBit k = true then 1 else 0) = (if t.testBit k = true then 1 else 0) + 1
    rw [nxt_bit, h, decide_eq_true rfl]; rfl
theorem nxt_lt {n t k : Nat} (hk : k < n) (ht : t < 2 ^ n) : nxM t k < 2 ^ n := by
  unfold nxM
  refine Nat.or_lt_two_pow ht ?_
  exact Nat.pow_lt_pow_right (by decide) hk
theorem nxt_gt {t k : Nat} (h : t.testBit k = false) : t < nxM t k := by
  have h1 : t ≤ nxM t k := Nat.left_le_or
  rcases Nat.lt_or_ge t (nxM t k) with h2 | h2
  · exact h2
  · have e : nxM t k = t := by omega
    have := nxt_bit t k k
    rw [e, h, decide_eq_true rfl] at this; cases this
theorem pcN_full {n t : Nat} (h : t + 1 = 2 ^ n) : pcM n t = n := by
  have e : t = 2 ^ n - 1 := by omega
  subst e
  unfold pcM
  rw [sumK_congr (g' := fun _ => 1) fun i hi => by rw [Nat.testBit_two_pow_sub_one, decide_eq_true hi]; rfl]
  clear h
  induction n with
  | zero => rfl
  | succ n ih => unfold sumK; omega
theorem full_of {n t : Nat} (ht : t < 2 ^ n) (h : ¬ pcM n t < n) : t + 1 = 2 ^ n := by
  have key : ∀ m, ¬ pcM m t < m → ∀ i, i < m → t.testBit i = true := by
    intro m
    induction m with
    | zero => intro _ i hi; omega
    | succ m ih =>
      intro h i hi
      have hle := pcN_le m t
      have e : pcM (m + 1) t = pcM m t + if t.testBit m = true then 1 else 0 := rfl
      rw [e] at h
      cases hb : t.testBit m with
      | false => rw [hb] at h; simp at h; omega
      | true =>
        rw [hb] at h; simp at h
        rcases Nat.lt_or_ge i m with h1 | h1
        · exact ih (by omega) i h1
        · rw [show i = m by omega]; exact hb
  have hb := key n h
  have e : t = 2 ^ n - 1 := by
    refine Nat.eq_of_testBit_eq fun i => ?_
    rw [Nat.testBit_two_pow_sub_one]
    rcases Nat.lt_or_ge i n with h1 | h1
    · rw [hb i h1, decide_eq_true h1]
    · rw [Nat.testBit_lt_two_pow (Nat.lt_of_lt_of_le ht (Nat.pow_le_pow_right (by decide) h1)), decide_eq_false (by omega)]
  have := Nat.two_pow_pos n
  omega
/-- the permanent by rows -/
def permF (a : Nat → Nat → Bool) (n : Nat) : Nat → Nat → Nat → Nat
  | 0, _, _ => 1
  | f + 1, row, t => sumK (fun k => if a row k = true ∧ t.testBit k = false then permF a n f (row + 1) (nxM t k) else 0) n
def gP (a : Nat → Nat → Bool) (n t : Nat) : Nat := permF a n (n - pcM n t) (pcM n t) t
def okP (a : Nat → Nat → Bool) (n t k : Nat) : Bool := a (pcM n t) k && !(t.testBit k)
theorem okP_true {a : Nat → Nat → Bool} {n t k : Nat} : okP a n t k = true ↔ a (pcM n t) k = true ∧ t.testBit k = false := by
  unfold okP; rw [Bool.and_eq_true, Bool.not_eq_true']
theorem gP_step {a : Nat → Nat → Bool} {n t : Nat} (h : pcM n t < n) : restW (okP a n t) (gP a n) (nxM t) n 0 = gP a n t := by
  unfold restW
  conv => rhs; unfold gP
  rw [show n - pcM n t = (n - (pcM n t + 1)) + 1 by omega]; unfold permF
  refine sumK_congr fun k hk => ?_
  by_cases ho : a (pcM n t) k = true ∧ t.testBit k = false
  · rw [if_pos ⟨Nat.zero_le _, okP_true.2 ho⟩, if_pos ho]
    unfold gP; rw [pcN_nxt hk ho.2]
  · rw [if_neg (fun h => ho (okP_true.1 h.2)), if_neg ho]
def facN : Nat → Nat
  | 0 => 1
  | n + 1 => (n + 1) * facN n
theorem facN_pos (n : Nat) : 0 < facN n := by
  induction n with
  | zero => decide
  | succ n ih => unfold facN; exact Nat.mul_pos (by omega) ih
def gQ (n t : Nat) : Nat := facN (n - pcM n t)
theorem free_sum (n t c : Nat) : sumK (fun i => if t.testBit i = false then c else 0) n = (n - pcM n t) * c := by
  induction n with
  | zero => simp [sumK]
  | succ n ih =>
    have hle := pcN_le n t
    have e : pcM (n + 1) t = pcM n t + if t.testBit n = true then 1 else 0 := rfl
    unfold sumK; rw [ih, e]
    cases t.testBit n with
    | false =>
      simp only [if_true, Bool.false_eq_true, if_false, Nat.add_zero]
      rw [show n + 1 - pcM n t = (n - pcM n t) + 1 by omega, Nat.add_mul, Nat.one_mul]
    | true => simp
theorem gQ_step {a : Nat → Nat → Bool} {n t : Nat} (h : pcM n t < n) : restW (okP a n t) (gQ n) (nxM t) n 0 ≤ gQ n t := by
  unfold restW
  have h1 : sumK (fun i => if 0 ≤ i ∧ okP a n t i = true then gQ n (nxM t i) else 0) n ≤ sumK (fun i => if t.testBit i = false then facN (n - (pcM n t + 1)) else 0) n := by
    refine sumK_le fun k hk => ?_
    by_cases ho : a (pcM n t) k = true ∧ t.testBit k = false
    · rw [if_pos ⟨Nat.zero_le _, okP_true.2 ho⟩, if_pos ho.2]
      unfold gQ; rw [pcN_nxt hk ho.2]; exact Nat.le_refl _
    · rw [if_neg (fun h => ho (okP_true.1 h.2))]; exact Nat.zero_le _
  refine Nat.le_trans h1 ?_
  rw [free_sum]
  unfold gQ
  rw [show n - pcM n t = (n - (pcM n t + 1)) + 1 by omega]
  exact Nat.le_refl _
theorem facN_10 {n : Nat} (h : n ≤ 10) : facN n ≤ 3628800 := by
  have : n = 0 ∨ n = 1 ∨ n = 2 ∨ n = 3 ∨ n = 4 ∨ n = 5 ∨ n = 6 ∨ n = 7 ∨ n = 8 ∨ n = 9 ∨ n = 10 := by omega
  rcases this with rfl | rfl | rfl | rfl | rfl | rfl | rfl | rfl | rfl | rfl | rfl <;> decide


def aE (m : List (List Int)) (r k : Nat) : Bool := decide (gI (gLs m r) k ≠ 0)
def permR (m : List (List Int)) (row used : Nat) : Nat := permF (aE m) m.length (m.length - row) row used
theorem u10 {u n : Nat} (hu : u < 2 ^ n) (hn : n ≤ 10) : u < 1024 := Nat.lt_of_lt_of_le hu (Nat.le_trans (Nat.pow_le_pow_right (by decide) hn) (by decide))


end Cl
end Go.Proofs.Ytokihekhelbijaa

namespace Go.Proofs.Ytokihekhelbijaa
namespace Cl
open Go.ChangeShapes Go.WideShapes Go.ChangeAt Go.RowKit
set_option maxRecDepth 20000

def wyF (L : List Int) (u : Nat) : Nat := (gI L u).toNat
structure ExpI (m : List (List Int)) (L : List Int) (t : Nat) : Prop where
  len : L.length = 2 ^ m.length
  nn : ∀ u, u < 2 ^ m.length → 0 ≤ gI L u
  q : tailW (wyF L) (gQ m.length) (2 ^ m.length) t ≤ facN m.length
  p : t < 2 ^ m.length → tailW (wyF L) (gP (aE m) m.length) (2 ^ m.length) t = permR m 0 0
  e : t = 2 ^ m.length → gI L (2 ^ m.length - 1) = (permR m 0 0 : Int)
structure ExpK (m : List (List Int)) (L : List Int) (t k : Nat) : Prop where
  len : L.length = 2 ^ m.length
  nn : ∀ u, u < 2 ^ m.length → 0 ≤ gI L u
  w : wyF L t ≤ facN m.length
  q : tailW (wyF L) (gQ m.length) (2 ^ m.length) (t + 1) + wyF L t * restW (okP (aE m) m.length t) (gQ m.length) (nxM t) m.length k ≤ facN m.length
  p : tailW (wyF L) (gP (aE m) m.length) (2 ^ m.length) (t + 1) + wyF L t * restW (okP (aE m) m.length t) (gP (aE m) m.length) (nxM t) m.length k = permR m 0 0
def ExpJ (m : List (List Int)) (L : List Int) (t k : Nat) : Prop := (pcM m.length t < m.length → ExpK m L t k) ∧ (¬ pcM m.length t < m.length → ExpI m L t)
theorem gQ_pos (n u : Nat) : 1 ≤ gQ n u := facN_pos _
theorem exp_j {m : List (List Int)} {L : List Int} {t : Nat} (h : ExpI m L t) (ht : t < 2 ^ m.length) : ExpJ m L t 0 := by
  refine ⟨fun hp => ⟨h.len, h.nn, ?_, ?_, ?_⟩, fun _ => h⟩
  · have h1 := tailW_get (w := wyF L) (G := gQ m.length) ht (Nat.le_refl t)
    have h2 := Nat.mul_le_mul_left (wyF L t) (gQ_pos m.length t)
    have := h.q; omega
  · have h1 := h.q
    rw [tailW_cut ht] at h1
    have h2 := Nat.mul_le_mul_left (wyF L t) (gQ_step (a := aE m) hp)
    omega
  · have h1 := h.p ht
    rw [tailW_cut ht] at h1
    rw [gP_step hp]; omega
theorem exp_exit {m : List (List Int)} {L : List Int} {t k : Nat} (h : ExpJ m L t k) (ht : t < 2 ^ m.length) (hk : k ≤ m.length) (hx : ¬ (k < m.length ∧ pcM m.length t < m.length ∧ 0 < gI L t)) : ExpI m L (t + 1) := by
  by_cases hp : pcM m.length t < m.length
  · have hK := h.1 hp
    have hz : ∀ G : Nat → Nat, wyF L t * restW (okP (aE m) m.length t) G (nxM t) m.length k = 0 := by
      intro G
      by_cases h1 : k < m.length
      · have : wyF L t = 0 := by
          unfold wyF
          have : ¬ 0 < gI L t := fun h2 => hx ⟨h1, hp, h2⟩
          omega
        rw [this, Nat.zero_mul]
      · rw [restW_end (by omega), Nat.mul_zero]
    have hq := hK.q
    have hpp := hK.p
    rw [hz] at hq hpp
    refine ⟨hK.len, hK.nn, by omega, fun _ => by omega, fun e => ?_⟩
    exact absurd (pcN_full e) (by omega)
  · have hI := h.2 hp
    have hf := full_of ht hp
    refine ⟨hI.len, hI.nn, ?_, fun h1 => absurd h1 (by omega), fun _ => ?_⟩
    · have : tailW (wyF L) (gQ m.length) (2 ^ m.length) (t + 1) = 0 := sumK_zero fun k hk => if_neg (by omega)
      rw [this]; exact Nat.zero_le _
    · have h1 := hI.p ht
      rw [tailW_last hf] at h1
      have hg : gP (aE m) m.length t = 1 := by unfold gP; rw [pcN_full hf, Nat.sub_self]; rfl
      rw [hg, Nat.mul_one] at h1
      have h2 := hI.nn t ht
      rw [show 2 ^ m.length - 1 = t by omega, ← h1]
      unfold wyF; omega
theorem exp_no {m : List (List Int)} {L : List Int} {t k : Nat} (h : ExpJ m L t k) (ho : okP (aE m) m.length t k = false) : ExpJ m L t (k + 1) := by
  refine ⟨fun hp => ?_, h.2⟩
  have hK := h.1 hp
  have hq := hK.q
  have hpp := hK.p
  rw [restW_no ho] at hq hpp
  exact ⟨hK.len, hK.nn, hK.w, hq, hpp⟩
theorem gI_set_ne {L : List Int} {v u : Nat} {x : Int} (h : v ≠ u) : gI (L.set v x) u = gI L u := by
  unfold gI; rw [List.getD_eq_getElem?_getD, List.getD_eq_getElem?_getD, List.getElem?_set_ne h]
theorem gI_set_eq {L : List Int} {v : Nat} {x : Int} (h : v < L.length) : gI (L.set v x) v = x := by
  unfold gI; rw [List.getD_eq_getElem?_getD, List.getElem?_set_self h]; rfl
theorem exp_yes {m : List (List Int)} {L : List Int} {t k : Nat} (h : ExpJ m L t k) (ht : t < 2 ^ m.length) (hk : k < m.length) (hp : pcM m.length t < m.length) (ho : okP (aE m) m.length t k = true) :
    ExpJ m (L.set (t ||| 2 ^ k) (gI L (t ||| 2 ^ k) + gI L t)) t (k + 1) := by
  refine ⟨fun _ => ?_, fun hn => absurd hp hn⟩
  have hK := h.1 hp
  have hb := (okP_true.1 ho).2
  have hv : nxM t k < 2 ^ m.length := nxt_lt hk ht
  have hg : t < nxM t k := nxt_gt hb
  have e : t ||| 2 ^ k = nxM t k := rfl
  rw [e]
  have hvl : nxM t k < L.length := by rw [hK.len]; exact hv
  have w1 : ∀ u, u ≠ nxM t k → wyF (L.set (nxM t k) (gI L (nxM t k) + gI L t)) u = wyF L u := fun u hu => by unfold wyF; rw [gI_set_ne (Ne.symm hu)]
  have n1 := hK.nn _ hv
  have n2 := hK.nn _ ht
  have w2 : wyF (L.set (nxM t k) (gI L (nxM t k) + gI L t)) (nxM t k) = wyF L (nxM t k) + wyF L t := by unfold wyF; rw [gI_set_eq hvl]; omega
  have wt : wyF (L.set (nxM t k) (gI L (nxM t k) + gI L t)) t = wyF L t := w1 t (by omega)
  refine ⟨by rw [List.length_set]; exact hK.len, fun u hu => ?_, by rw [wt]; exact hK.w, ?_, ?_⟩
  · by_cases e : nxM t k = u
    · subst e; rw [gI_set_eq hvl]; omega
    · rw [gI_set_ne e]; exact hK.nn u hu
  · rw [step_keep hk ho hv hg w1 w2]; exact hK.q
  · rw [step_keep hk ho hv hg w1 w2]; exact hK.p
theorem exp_bd {m : List (List Int)} {L : List Int} {t k u : Nat} (h : ExpJ m L t k) (hm : m.length ≤ 10) (hp : pcM m.length t < m.length) (hu : u < 2 ^ m.length) (htu : t ≤ u) : 0 ≤ gI L u ∧ gI L u ≤ 3628800 := by
  have hK := h.1 hp
  have h0 := hK.nn u hu
  have hf := facN_10 hm
  refine ⟨h0, ?_⟩
  rcases Nat.lt_or_ge t u with h1 | h1
  · have h2 := tailW_get (w := wyF L) (G := gQ m.length) (t := t + 1) hu h1
    have h3 := Nat.mul_le_mul_left (wyF L u) (gQ_pos m.length u)
    have := hK.q
    unfold wyF at *; omega
  · have := hK.w
    rw [show u = t by omega] at h0 ⊢
    unfold wyF at *; omega

theorem blk_whi (c : List Cel) : (c.filter black).length + (c.filter whiB).length = c.length := by
  induction c with
  | nil => rfl
  | cons a c ih =>
    unfold whiB at *
    cases h : black a <;> simp [h] <;> omega
theorem smR_sq {l : List Int} : ∀ a, a < (smR l).length → (gLs (smR l) a).length = (smR l).length := by
  intro a ha
  by_cases h : signOk l = true
  · rw [smR_yes h] at *
    have h1 : (signM l).length = (blk l).length := by unfold signM; rw [List.length_map]
    rw [gLs_eq ha]
    have hm : (signM l)[a] ∈ signM l := List.getElem_mem ha
    obtain ⟨b, _, e⟩ := List.mem_map.1 hm
    rw [← e, h1]; unfold rowS; rw [List.length_map]
    unfold signOk balB at h
    rw [Bool.and_eq_true, Bool.and_eq_true, decide_eq_true_eq] at h
    have h4 := h.1.2
    unfold bexc at h4
    have h5 := blk_whi (cellsOf l)
    unfold blk whi; omega
  · rw [smR_no (by simpa using h)] at ha; exact absurd ha (by simp)
noncomputable def cbe (l : List Int) : Int := if (smR l).length = 0 ∨ 10 < (smR l).length then -1 else (permR (smR l) 0 0 : Int)
theorem cbe_no {l : List Int} (h : (smR l).length = 0 ∨ 10 < (smR l).length) : cbe l = -1 := by unfold cbe; rw [if_pos h]
theorem cbe_yes {l : List Int} (h : (smR l).length ≠ 0) (h2 : (smR l).length ≤ 10) : cbe l = (permR (smR l) 0 0 : Int) := by unfold cbe; rw [if_neg (by omega)]
theorem pcN_s (k t : Nat) : pcM (k + 1) t = pcM k t + ((t >>> k) &&& 1) := by
  have e : pcM (k + 1) t = pcM k t + if t.testBit k = true then 1 else 0 := rfl
  rw [e]
  have : (t >>> k) &&& 1 = if t.testBit k = true then 1 else 0 := by
    unfold Nat.testBit
    rw [Nat.and_comm 1, Nat.and_one_is_mod]
    have := Nat.mod_two_eq_zero_or_one (t >>> k)
    rcases this with h | h <;> rw [h] <;> rfl
  rw [this]
theorem and3_t {p q r : Prop} [Decidable p] [Decidable q] [Decidable r] (h : (decide p && (decide q && decide r)) = true) : p ∧ q ∧ r := by
  rw [Bool.and_eq_true, Bool.and_eq_true, decide_eq_true_eq, decide_eq_true_eq, decide_eq_true_eq] at h; exact h
theorem and3_f {p q r : Prop} [Decidable p] [Decidable q] [Decidable r] (h : (decide p && (decide q && decide r)) = false) : ¬ (p ∧ q ∧ r) := fun ⟨a, b, c⟩ => by
  rw [decide_eq_true a, decide_eq_true b, decide_eq_true c] at h; cases h
theorem ok_eq {m : List (List Int)} {n t j r : Nat} (hr : r = pcM n t) : okP (aE m) n t j = (!(t.testBit j) && decide (gI (gLs m r) j ≠ 0)) := by subst hr; unfold okP aE; rw [Bool.and_comm]
theorem expJ_len {m : List (List Int)} {L : List Int} {t k : Nat} (h : ExpJ m L t k) : L.length = 2 ^ m.length := by
  by_cases hp : pcM m.length t < m.length
  · exact (h.1 hp).len
  · exact (h.2 hp).len
theorem cbe_last {m : List (List Int)} {L : List Int} {t u : Nat} (h : ExpI m L t) (ht : t = 2 ^ m.length) (hu : u = 2 ^ m.length - 1) : gI L u = (permR m 0 0 : Int) := by rw [hu]; exact h.e ht
theorem exp_0 {m : List (List Int)} : ExpI m ((List.replicate (2 ^ m.length) 0).set 0 1) 0 := by
  have hN := Nat.two_pow_pos m.length
  have h0 : gI ((List.replicate (2 ^ m.length) (0 : Int)).set 0 1) 0 = 1 := gI_set_eq (by rw [List.length_replicate]; exact hN)
  have hr : ∀ u, gI (List.replicate (2 ^ m.length) (0 : Int)) u = 0 := fun u => by
    unfold gI; rw [List.getD_eq_getElem?_getD, List.getElem?_replicate]; split <;> rfl
  have h1 : ∀ u, u ≠ 0 → gI ((List.replicate (2 ^ m.length) (0 : Int)).set 0 1) u = 0 := fun u hu => by rw [gI_set_ne (Ne.symm hu)]; exact hr u
  have hw : ∀ u, u ≠ 0 → wyF ((List.replicate (2 ^ m.length) (0 : Int)).set 0 1) u = 0 := fun u hu => by unfold wyF; rw [h1 u hu]; rfl
  have hw0 : wyF ((List.replicate (2 ^ m.length) (0 : Int)).set 0 1) 0 = 1 := by unfold wyF; rw [h0]; rfl
  have ht : ∀ G : Nat → Nat, tailW (wyF ((List.replicate (2 ^ m.length) (0 : Int)).set 0 1)) G (2 ^ m.length) 0 = G 0 := fun G => by
    rw [tailW_cut hN, hw0]
    have : tailW (wyF ((List.replicate (2 ^ m.length) (0 : Int)).set 0 1)) G (2 ^ m.length) (0 + 1) = 0 := sumK_zero fun k _ => by
      by_cases h : 0 + 1 ≤ k
      · rw [if_pos h, hw k (by omega), Nat.zero_mul]
      · rw [if_neg h]
    omega
  have hp0 : pcM m.length 0 = 0 := sumK_zero fun i _ => by rw [Nat.zero_testBit]; rfl
  refine ⟨by rw [List.length_set, List.length_replicate], fun u _ => ?_, ?_, fun _ => ?_, fun e => absurd e (by omega)⟩
  · by_cases e : u = 0
    · subst e; rw [h0]; decide
    · rw [h1 u e]; exact Int.le_refl _
  · rw [ht]; unfold gQ; rw [hp0]; exact Nat.le_refl _
  · rw [ht]; unfold gP permR; rw [hp0]

theorem qD6_sz_24 : (Try.prog.info? 24).map (·.size) = some 1 := by kernel_rfl
theorem qD6_sz_3 : (Try.prog.info? 3).map (·.size) = some 1 := by kernel_rfl
theorem qD6_ti_24 : TI Try.prog 24 false 1 := ⟨⟨_, Try.underlying24, rfl⟩, by kernel_rfl⟩
theorem qD6_ti_26 : TI Try.prog 26 true 1 := ⟨⟨_, Try.underlying26, rfl⟩, by kernel_rfl⟩
theorem qD6_ti_3 : TI Try.prog 3 false 1 := ⟨⟨_, Try.underlying3, rfl⟩, by kernel_rfl⟩
theorem qD6_un_24 : Try.prog.underlying 24 = some (.slice 3) := Try.underlying24
theorem qD6_un_29 : Try.prog.underlying 29 = some (.slice 24) := Try.underlying29
theorem qD6_zi_3 : ZI Try.prog 3 (.int .i64 0) 1 8 := by unfold ZI; kernel_rfl
set_option maxHeartbeats 4000000 in
set_option maxRecDepth 100000 in
theorem impl_CountByExpansion_fn (l : List Int) (hl : l.length ≤ 4194304) : FnO Try.prog 7 [.agg [(.sl 800 0 l.length : A)]] [(.o 800, some (.o ⟨3, 1, true, pl (isl l)⟩))] (V.v (.int .i64 (cbe l))) [(.o 800, some (.o ⟨3, 1, true, pl (isl l)⟩))] [800] := by
 have h64 := smR_len l
 have hr22 : ∀ k, k < (smR l).length → (gLs (smR l) k).length ≤ 4194304 := fun k hk => Nat.le_trans (smR_row hk) (by decide)
 have hsq := smR_sq (l := l)
 refine fn_introO (N := 99) Try.func7 rfl (by kernel_rfl) rfl (Nat.le_of_ble_eq_true rfl) rfl rfl (by kernel_rfl) (by kernel_rfl) ⟨oc_pl (fun _ => rfl), trivial⟩ [1, 11, 16, 20, 22, 26, 33, 46, 51, 95] (retO1 rfl) (fun W own kp im0 => ?_)
 show Wp _ _ _ [kV 0 (V.b (.agg [(.sl 800 0 l.length : A)])), kO 800 3 1 true (pl (isl l)), kF 1, kF 11, kF 16, kF 20, kF 22, kF 26, kF 33, kF 46, kF 51, kF 95]
 refine sq (rg ?_)
 refine z ?_ (h := fun ν => acts_box (h := 1) ν xt (by exact ob1 rfl))
 refine zk (nl (sq ?_))
 rcases Bool.eq_false_or_eq_true ((balB l)) with c1 | c1
 ·skip
  rcases Bool.eq_false_or_eq_true ((inB (((cellsOf l).length : Nat) : Int) 1 32)) with c2 | c2
  ·skip
   have hps := smR_pos (by assumption) c2
   refine rg ?_
   refine z ?_ (h := fun ν => acts_load_owns (xs := [(.sl 800 0 l.length : A)]) ν qD6_ti_26 rfl (by decide) rfl)
   refine z ?_ (h := fun ν => acts_callO (d := 11) (f := 11) (os := [(.o 800, some (.o ⟨3, 1, true, pl (isl l)⟩))]) (os' := [(.o 800, some (.o ⟨3, 1, true, pl (isl l)⟩)), (.o 11, some (.o ⟨24, 1, true, rwI 3 (smR l)⟩))]) (r := V.b (.a (.sl 11 0 ((smR l).length)))) (bs := [.agg [(.sl 800 0 l.length : A)]]) (keep := [800]) (new := [11]) (dead := []) ν (FnO.ren' (impl_SignMatrix_fn l (by first | omega | assumption)) (subst1 [(900, 11)]) rfl rfl (by kernel_rfl) (by kernel_rfl) ⟨oc_pl (fun _ => rfl), oc_rwI, trivial⟩ (by kernel_rfl) rfl (by simp only [renS, Ob.ren, pl_ren, rws_ren_doms, rws_ren_ints, rws_ren_cels, rwI_ren, rwD_ren]; first | done | rfl) (by simp only [renS, Ob.ren, pl_ren, rws_ren_doms, rws_ren_ints, rws_ren_cels, rwI_ren, rwD_ren]; first | done | rfl) rfl rfl) (by kernel_rfl) ⟨oc_pl (fun _ => rfl), oc_rwI, trivial⟩ (by kernel_rfl) (ArgOs.cons (ArgO.slot 10 (.agg [(.sl 800 0 l.length : A)])) (ArgOs.nil)))
   refine za (nl (sq (sq (rg (zm ?_)))))
   refine z ?_ (h := fun ν => acts_seql ν qD6_un_29 (by first | omega | assumption))
   refine zm ?_
   refine zg ?_ (h := fun ν => step_on rfl rfl (mt ν))
   refine zg ?_ (h := fun ν => step_on rfl rfl (lnS ν qD6_un_29))
   refine zg ?_ (h := fun ν => step_on rfl rfl (acts_bin ν vt vc (r_gtr rfl)))
   refine z ?_ (h := fun ν => acts_pick_f ν vt xt)
   refine nl ?_
   refine wi (fun c3 => ?_) (fun c3 => ?_)
   ·skip
    have c3P := of_decide_eq_true c3
    refine sq (rg (zk (nl (wp_ret' ?_))))
    exact ⟨_, weak_id, ⟨by kernel_rfl, trivial⟩, vo_eq 2 (.a (.val (.int .i64 (-1)))) (.a (.val (.int .i64 (cbe l)))) (by kernel_rfl) (congrArg (fun z : Int => B.a (.val (.int .i64 z))) (by first | exact Eq.symm (cbe_no (.inl (smR_nl hno))) | exact Eq.symm (cbe_no hor) | exact Eq.symm (cbe_no (by omega)) | exact Eq.symm (cbe_yes (by omega) (by omega)) | (rw [cbe_yes (by omega) (by omega)]; first | exact cbe_last hI (by omega) (by omega) | exact Eq.symm (cbe_last hI (by omega) (by omega)))))⟩
   ·skip
    have c3P := of_decide_eq_false c3
    have hn10 : (smR l).length ≤ 10 := by omega
    have hN := u10 (n := (smR l).length) (u := 2 ^ (smR l).length - 1) (by have := Nat.two_pow_pos (smR l).length; omega) hn10
    have hNp := Nat.two_pow_pos (smR l).length
    have hRl : (List.replicate (2 ^ (smR l).length) (0 : Int)).length = 2 ^ (smR l).length := List.length_replicate
    refine sk (sq ?_)
    refine wp_weak (fzI (k := 3) (h := 11) (T0 := 24) (T := 3) (ex0 := true) (n := ((smR l).length)) (L := (smR l)) (hn := by rfl)) ?_
    refine rg (zm ?_)
    refine z ?_ (h := fun ν => lnI ν qD6_un_29)
    refine z ?_ (h := fun ν => acts_bin ν vc vt (r_shl (c := (((2 ^ ((smR l).length)) : Nat) : Int)) (by first | omega | exact Int.natCast_nonneg _) (shl1I (n := ((smR l).length)) rfl (by first | omega | assumption | exact Nat.lt_of_le_of_lt (shr_le _ _) (by first | omega | assumption | (first | omega | assumption)) | (first | omega | assumption)))))
    refine z ?_ (h := fun ν => acts_make' (h := 22) (n := (2 ^ ((smR l).length))) (xs := isl (List.replicate (2 ^ ((smR l).length)) 0)) ν qD6_un_24 qD6_zi_3 vt vt rfl rfl (by decide) (by first | omega | assumption) (made_ints' (2 ^ ((smR l).length))))
    refine za (nl (sq (rg (zm ?_))))
    refine z ?_ (h := fun ν => ix0 (k := 0) ν qD6_un_24 qD6_sz_3 vc (hlt := (by first | omega | assumption)))
    refine z ?_ (h := fun _ => sI qD6_ti_3 xc (by first | omega | assumption))
    refine nl (sq (sq (rg (zm ?_))))
    refine z ?_ (h := fun ν => lnS ν qD6_un_24)
    refine z ?_ (h := fun ν => mc ν)
    refine nl (bkk ?_)
    refine wp_loop' (fun ((t, L) : Nat × (List Int)) => t ≤ 2 ^ (smR l).length ∧ ExpI (smR l) L t) (fun ((t, L) : Nat × (List Int)) => [kV 3 (V.b (.a (.slvv 1 (vwI (smR l))))), kS 4 22 0 L.length, kS 25 22 0 (2 ^ ((smR l).length)), kI 26 (((2 ^ ((smR l).length)) : Nat) : Int), kI 27 ((t : Nat) : Int), kO 22 3 1 true (pl (isl L)), kO 800 3 1 true (pl (isl l)), kF 1, kF 16, kF 20, kF 26, kF 33, kF 46, kF 51, kF 95]) (fun ((t, L) : Nat × (List Int)) => 2 ^ (smR l).length - t) ((0 : Nat), (((List.replicate (2 ^ (smR l).length) 0).set 0 1) : List Int)) (by exact ⟨Nat.zero_le _, exp_0⟩) (wkf id (wS <| wE (e := (vsl (by first | rfl | (simp; done) | (simp; omega) | omega | (exact congrArg List.length (by first | rfl | omega | (simp; done) | (simp; omega)))) rfl)) <| wS <| wS <| wE (e := (vint (by first | rfl | omega | (simp; done) | (simp; omega)))) <| wO (e := renob_eq (fun h => h) (congrArg isl (by first | rfl | omega | (simp; done) | (simp; omega)))) <| wP <| wF <| wF <| wF <| wF <| wF <| wF <| wF <| wF <| wN)) ?_
    rintro ⟨t, L⟩ inv4
    replace inv4 : t ≤ 2 ^ (smR l).length ∧ ExpI (smR l) L t := inv4
    obtain ⟨ht1, hI⟩ := inv4
    have hLl := hI.len
    refine sq (rg ?_)
    refine z ?_ (h := fun ν => acts_bin ν vt vt (r_lss rfl))
    refine nl (sq ?_)
    refine wi (fun c5 => ?_) (fun c5 => ?_)
    ·skip
     have c5P := of_decide_eq_true c5
     have ht : t < 2 ^ (smR l).length := by omega
     refine sk (sq (bkk (sq (rg (zm ?_)))))
     refine z ?_ (h := fun ν => ix0 ν qD6_un_24 qD6_sz_3 vt (hlt := (by first | omega | assumption)))
     refine z ?_ (h := fun ν => lI ν qD6_ti_3 (by first | omega | assumption))
     refine za (za (nl (sq (rg (zk (nl (sq (sq (rg (zm ?_))))))))))
     refine z ?_ (h := fun ν => lnI ν qD6_un_29)
     refine z ?_ (h := fun ν => mc ν)
     refine nl (bkk ?_)
     refine wp_loop' (fun (k : Nat) => k ≤ (smR l).length) (fun (k : Nat) => [kV 3 (V.b (.a (.slvv 1 (vwI (smR l))))), kS 4 22 0 L.length, kI 5 ((t : Nat) : Int), kI 6 (gI L t), kI 7 (((pcM k t) : Nat) : Int), kS 25 22 0 (2 ^ ((smR l).length)), kI 26 (((2 ^ ((smR l).length)) : Nat) : Int), kI 27 ((t : Nat) : Int), kI 33 (((smR l).length : Nat) : Int), kI 34 ((k : Nat) : Int), kO 22 3 1 true (pl (isl L)), kO 800 3 1 true (pl (isl l)), kF 1, kF 16, kF 20, kF 26, kF 33, kF 46, kF 51, kF 95]) (fun (k : Nat) => (smR l).length - k) ((0 : Nat)) (by exact (Nat.zero_le _ : 0 ≤ _)) (wkf id (wS <| wS <| wS <| wS <| wE (e := (vint (by first | omega | rfl))) <| wS <| wS <| wS <| wS <| wE (e := (vint (by first | omega | rfl))) <| wP <| wP <| wF <| wF <| wF <| wF <| wF <| wF <| wF <| wF <| wN)) ?_
     rintro k inv6
     replace inv6 : k ≤ (smR l).length := inv6
     have hk1 := inv6
     have hpl := pcN_le k t
     have hps1 := pcN_s k t
     have hand1 : (t >>> k) &&& 1 ≤ 1 := Nat.and_le_right
     refine sq (rg ?_)
     refine z ?_ (h := fun ν => acts_bin ν vt vt (r_lss rfl))
     refine nl (sq ?_)
     refine wi (fun c7 => ?_) (fun c7 => ?_)
     ·skip
      have c7P := of_decide_eq_true c7
      refine sk (sq (bkk (sq (rg (zm (za (nl (rg (zm (zm (zm ?_)))))))))))
      refine z ?_ (h := fun ν => acts_bin ν vt vt (r_shr (c := (((t >>> k) : Nat) : Int)) (by first | omega | exact Int.natCast_nonneg _) (shrU (m := t) (n := k) rfl rfl (by first | omega | assumption | exact Nat.lt_of_le_of_lt (shr_le _ _) (by first | omega | assumption | (first | omega | assumption)) | (first | omega | assumption)) rfl)))
      refine z ?_ (h := fun ν => acts_bin ν vt vc (r_and (c := ((((t >>> k) &&& 1) : Nat) : Int)) (andI (m := (t >>> k)) (n := 1) rfl rfl (by first | omega | assumption | exact Nat.lt_of_le_of_lt (shr_le _ _) (by first | omega | assumption | (first | omega | assumption)) | (first | omega | assumption)) (by first | omega | assumption | exact Nat.lt_of_le_of_lt (shr_le _ _) (by first | omega | assumption | (first | omega | assumption)) | (first | omega | assumption)))))
      refine z ?_ (h := fun ν => acts_bin ν vt vt (rA (by first | omega | assumption) (by first | omega | assumption)))
      refine za (nl (rg ?_))
      refine z ?_ (h := fun ν => acts_bin ν vt vc (rA (by first | omega | assumption) (by first | omega | assumption)))
      refine zm (nl ?_)
      exact loop_back ((k + 1)) (by show _ ≤ _; omega) (by show (smR l).length - (k + 1) < (smR l).length - k; omega) (wkf id (wS <| wS <| wS <| wS <| wE (e := (vint (by first | omega | rfl))) <| wS <| wS <| wS <| wS <| wE (e := (vint (by first | omega | rfl))) <| wP <| wP <| wF <| wF <| wF <| wF <| wF <| wF <| wF <| wF <| wN))
     ·skip
      have c7P := of_decide_eq_false c7
      have hkn : k = (smR l).length := by omega
      have hpk : pcM k t = pcM (smR l).length t := by rw [hkn]
      refine wp_exit' (sq (sq (rg (zk (nl (bkk ?_))))))
      refine wp_loop' (fun ((j, X) : Nat × (List Int)) => j ≤ (smR l).length ∧ ExpJ (smR l) X t j) (fun ((j, X) : Nat × (List Int)) => [kV 3 (V.b (.a (.slvv 1 (vwI (smR l))))), kS 4 22 0 X.length, kI 5 ((t : Nat) : Int), kI 6 (gI L t), kI 7 (((pcM k t) : Nat) : Int), kI 9 ((j : Nat) : Int), kS 25 22 0 (2 ^ ((smR l).length)), kI 26 (((2 ^ ((smR l).length)) : Nat) : Int), kI 27 ((t : Nat) : Int), kO 22 3 1 true (pl (isl X)), kO 800 3 1 true (pl (isl l)), kF 1, kF 16, kF 20, kF 26, kF 33, kF 46, kF 51, kF 95]) (fun ((j, X) : Nat × (List Int)) => (smR l).length - j) ((0 : Nat), (L : List Int)) (by exact ⟨Nat.zero_le _, exp_j hI ht⟩) (wkf id (wS <| wS <| wS <| wS <| wS <| wE (e := (vint (by first | rfl | omega | (simp; done) | (simp; omega)))) <| wS <| wS <| wS <| wP <| wP <| wF <| wF <| wF <| wF <| wF <| wF <| wF <| wF <| wN)) ?_
      rintro ⟨j, X⟩ inv8
      replace inv8 : j ≤ (smR l).length ∧ ExpJ (smR l) X t j := inv8
      obtain ⟨hj1, hJ⟩ := inv8
      have hXl := expJ_len hJ
      refine sq (sq ?_)
      refine wp_join [kB 60 ((decide (((j : Nat) : Int) < (((smR l).length : Nat) : Int))) && ((decide ((((pcM k t) : Nat) : Int) < (((smR l).length : Nat) : Int))) && (decide (0 < (gI X t))))), kV 3 (V.b (.a (.slvv 1 (vwI (smR l))))), kS 4 22 0 X.length, kI 5 ((t : Nat) : Int), kI 6 (gI L t), kI 7 (((pcM k t) : Nat) : Int), kI 9 ((j : Nat) : Int), kS 25 22 0 (2 ^ ((smR l).length)), kI 26 (((2 ^ ((smR l).length)) : Nat) : Int), kI 27 ((t : Nat) : Int), kO 22 3 1 true (pl (isl X)), kO 800 3 1 true (pl (isl l)), kF 1, kF 16, kF 20, kF 26, kF 33, kF 46, kF 51, kF 95] ?_ ?_
      ·skip
       rcases Bool.eq_false_or_eq_true (decide (((j : Nat) : Int) < (((smR l).length : Nat) : Int))) with c9 | c9
       ·skip
        have c9P := of_decide_eq_true c9
        rcases Bool.eq_false_or_eq_true (decide ((((pcM k t) : Nat) : Int) < (((smR l).length : Nat) : Int))) with c10 | c10
        ·skip
         have c10P := of_decide_eq_true c10
         refine rg (zm (zm ?_))
         refine z ?_ (h := fun ν => lnI ν qD6_un_29)
         refine z ?_ (h := fun ν => acts_bin ν vt vt (r_lss (c := true) c9))
         refine zm ?_
         refine zg ?_ (h := fun ν => step_on rfl rfl (mt ν))
         refine zg ?_ (h := fun ν => step_on rfl rfl (mt ν))
         refine zg ?_ (h := fun ν => step_on rfl rfl (lnI ν qD6_un_29))
         refine zg ?_ (h := fun ν => step_on rfl rfl (acts_bin ν vt vt (r_lss (c := true) c10)))
         refine z ?_ (h := fun ν => acts_pick_t ν vt xt)
         refine zm ?_
         refine zg ?_ (h := fun ν => step_on rfl rfl (mt ν))
         refine zg ?_ (h := fun ν => step_on rfl rfl (mt ν))
         refine zg ?_ (h := fun ν => step_on rfl rfl (ix0 ν qD6_un_24 qD6_sz_3 vt (hlt := (by first | omega | assumption))))
         refine zg ?_ (h := fun ν => step_on rfl rfl (lI ν qD6_ti_3 (by first | omega | assumption)))
         refine zg ?_ (h := fun ν => step_on rfl rfl (acts_bin ν vt vc (r_gtr rfl)))
         refine z ?_ (h := fun ν => acts_pick_t ν vt xt)
         refine nl ?_
         exact ⟨rfl, weak_reads ⟨(by simp only [c9, c10]; first | done | kernel_rfl), (by repeat (first | exact trivial | refine ⟨by kernel_rfl, ?_⟩))⟩⟩
        ·skip
         have c10P := of_decide_eq_false c10
         refine rg (zm (zm ?_))
         refine z ?_ (h := fun ν => lnI ν qD6_un_29)
         refine z ?_ (h := fun ν => acts_bin ν vt vt (r_lss (c := true) c9))
         refine zm ?_
         refine zg ?_ (h := fun ν => step_on rfl rfl (mt ν))
         refine zg ?_ (h := fun ν => step_on rfl rfl (mt ν))
         refine zg ?_ (h := fun ν => step_on rfl rfl (lnI ν qD6_un_29))
         refine zg ?_ (h := fun ν => step_on rfl rfl (acts_bin ν vt vt (r_lss (c := false) c10)))
         refine z ?_ (h := fun ν => acts_pick_t ν vt xt)
         refine zm (zo (zo (zo (zo (zo ?_)))))
         refine z ?_ (h := fun ν => acts_pick_f ν vt xc)
         refine nl ?_
         exact ⟨rfl, weak_reads ⟨(by simp only [c9, c10]; first | done | kernel_rfl), (by repeat (first | exact trivial | refine ⟨by kernel_rfl, ?_⟩))⟩⟩
       ·skip
        have c9P := of_decide_eq_false c9
        refine rg (zm (zm ?_))
        refine z ?_ (h := fun ν => lnI ν qD6_un_29)
        refine z ?_ (h := fun ν => acts_bin ν vt vt (r_lss (c := false) c9))
        refine zm (zo (zo (zo (zo ?_))))
        refine z ?_ (h := fun ν => acts_pick_f ν vt xc)
        refine zm (zo (zo (zo (zo (zo ?_)))))
        refine z ?_ (h := fun ν => acts_pick_f ν vt xc)
        refine nl ?_
        exact ⟨rfl, weak_reads ⟨(by simp only [c9]; first | done | kernel_rfl), (by repeat (first | exact trivial | refine ⟨by kernel_rfl, ?_⟩))⟩⟩
      refine wi (b := ((decide (((j : Nat) : Int) < (((smR l).length : Nat) : Int))) && ((decide ((((pcM k t) : Nat) : Int) < (((smR l).length : Nat) : Int))) && (decide (0 < (gI X t)))))) (fun c11 => ?_) (fun c11 => ?_)
      ·skip
       have hjt := and3_t c11
       have hrw := hsq (pcM k t) (by omega)
       have hnx : t ||| 2 ^ j < 2 ^ (smR l).length := nxt_lt (by omega) ht
       have hb1 := exp_bd hJ hn10 (by omega) ht (Nat.le_refl _)
       have hb2 := exp_bd (u := t ||| 2 ^ j) hJ hn10 (by omega) hnx Nat.left_le_or
       have hj2 : (2 : Nat) ^ j < 1024 := u10 (Nat.pow_lt_pow_right (by decide) (by omega)) hn10
       have ht2 := u10 ht hn10
       have hnx2 := u10 hnx hn10
       obtain ⟨c12, c13⟩ := and_tt c11
       have c12P := of_decide_eq_true c12
       obtain ⟨c14, c15⟩ := and_tt c13
       have c14P := of_decide_eq_true c14
       have c15P := of_decide_eq_true c15
       refine sk (sq (bkk (sq ?_)))
       refine wp_join [kB 77 ((!(t.testBit j)) && (decide ((gI (gLs (smR l) (pcM k t)) j) ≠ 0))), kV 3 (V.b (.a (.slvv 1 (vwI (smR l))))), kS 4 22 0 X.length, kI 5 ((t : Nat) : Int), kI 6 (gI L t), kI 7 (((pcM k t) : Nat) : Int), kI 9 ((j : Nat) : Int), kS 25 22 0 (2 ^ ((smR l).length)), kI 26 (((2 ^ ((smR l).length)) : Nat) : Int), kI 27 ((t : Nat) : Int), kO 22 3 1 true (pl (isl X)), kO 800 3 1 true (pl (isl l)), kF 1, kF 16, kF 20, kF 26, kF 33, kF 46, kF 51, kF 95] ?_ ?_
       ·skip
        rcases Bool.eq_false_or_eq_true ((t.testBit j)) with c16 | c16
        ·skip
         refine rg (zm (zm ?_))
         refine z ?_ (h := fun ν => acts_bin ν vt vt (r_shr (c := (((t >>> j) : Nat) : Int)) (by first | omega | exact Int.natCast_nonneg _) (shrU (m := t) (n := j) rfl rfl (by first | omega | assumption | exact Nat.lt_of_le_of_lt (shr_le _ _) (by first | omega | assumption | (first | omega | assumption)) | (first | omega | assumption)) rfl)))
         refine z ?_ (h := fun ν => acts_bin ν vt vc (r_and (c := ((((t >>> j) &&& 1) : Nat) : Int)) (andI (m := (t >>> j)) (n := 1) rfl rfl (by first | omega | assumption | exact Nat.lt_of_le_of_lt (shr_le _ _) (by first | omega | assumption | (first | omega | assumption)) | (first | omega | assumption)) (by first | omega | assumption | exact Nat.lt_of_le_of_lt (shr_le _ _) (by first | omega | assumption | (first | omega | assumption)) | (first | omega | assumption)))))
         refine z ?_ (h := fun ν => acts_bin ν vt vc (r_eql (c := false) ((bit_zero _ _).trans (by first | (rw [c16]; done) | (rw [c16]; rfl)))))
         refine zm (zo (zo (zo (zo (zo (zo (zo (zo ?_))))))))
         refine z ?_ (h := fun ν => acts_pick_f ν vt xc)
         refine nl ?_
         exact ⟨rfl, weak_reads ⟨(by simp only [c16]; first | done | kernel_rfl), (by repeat (first | exact trivial | refine ⟨by kernel_rfl, ?_⟩))⟩⟩
        ·skip
         refine rg (zm (zm ?_))
         refine z ?_ (h := fun ν => acts_bin ν vt vt (r_shr (c := (((t >>> j) : Nat) : Int)) (by first | omega | exact Int.natCast_nonneg _) (shrU (m := t) (n := j) rfl rfl (by first | omega | assumption | exact Nat.lt_of_le_of_lt (shr_le _ _) (by first | omega | assumption | (first | omega | assumption)) | (first | omega | assumption)) rfl)))
         refine z ?_ (h := fun ν => acts_bin ν vt vc (r_and (c := ((((t >>> j) &&& 1) : Nat) : Int)) (andI (m := (t >>> j)) (n := 1) rfl rfl (by first | omega | assumption | exact Nat.lt_of_le_of_lt (shr_le _ _) (by first | omega | assumption | (first | omega | assumption)) | (first | omega | assumption)) (by first | omega | assumption | exact Nat.lt_of_le_of_lt (shr_le _ _) (by first | omega | assumption | (first | omega | assumption)) | (first | omega | assumption)))))
         refine z ?_ (h := fun ν => acts_bin ν vt vc (r_eql (c := true) ((bit_zero _ _).trans (by first | (rw [c16]; done) | (rw [c16]; rfl)))))
         refine zm ?_
         refine zg ?_ (h := fun ν => step_on rfl rfl (mt ν))
         refine zg ?_ (h := fun ν => step_on rfl rfl (mt ν))
         refine zg ?_ (h := fun ν => step_on rfl rfl (xvv ν qD6_un_29 qD6_sz_24 vt (hlt := (by simp only [vwI_len, vwD_len]; first | omega | assumption))))
         refine zg ?_ (h := fun ν => step_on rfl rfl (lvI ν qD6_ti_24 (by first | omega | assumption)))
         refine zg ?_ (h := fun ν => step_on rfl rfl (mt ν))
         refine zg ?_ (h := fun ν => step_on rfl rfl (ixv ν qD6_un_24 qD6_sz_3 vt (hlt := (by first | omega | assumption))))
         refine zg ?_ (h := fun ν => step_on rfl rfl (uI ν qD6_ti_3 (by first | omega | assumption)))
         refine zg ?_ (h := fun ν => step_on rfl rfl (acts_bin ν vt vc (r_neq rfl)))
         refine z ?_ (h := fun ν => acts_pick_t ν vt xt)
         refine nl ?_
         exact ⟨rfl, weak_reads ⟨(by simp only [c16]; first | done | kernel_rfl), (by repeat (first | exact trivial | refine ⟨by kernel_rfl, ?_⟩))⟩⟩
       refine wi (b := ((!(t.testBit j)) && (decide ((gI (gLs (smR l) (pcM k t)) j) ≠ 0)))) (fun c17 => ?_) (fun c17 => ?_)
       ·skip
        have hJ2 := exp_yes hJ ht (by omega) (by omega) ((ok_eq hpk).trans c17)
        obtain ⟨c18, c19⟩ := and_tt c17
        have c20 : (t.testBit j) = false := by first | (rw [← Bool.not_eq_true']; exact c18) | simpa using c18
        have c19P := of_decide_eq_true c19
        refine wp_dr (zdm (zdm (zdm ?_)))
        refine zd ?_ (h := fun ν => acts_bin ν vc vt (r_shl (c := (((2 ^ j) : Nat) : Int)) (by first | omega | exact Int.natCast_nonneg _) (shl1I (n := j) rfl (by first | omega | assumption | exact Nat.lt_of_le_of_lt (shr_le _ _) (by first | omega | assumption | (first | omega | assumption)) | (first | omega | assumption)))))
        refine zd ?_ (h := fun ν => acts_bin ν vt vt (r_or (c := (((t ||| (2 ^ j)) : Nat) : Int)) (orI (m := t) (n := (2 ^ j)) rfl rfl (by first | omega | assumption | exact Nat.lt_of_le_of_lt (shr_le _ _) (by first | omega | assumption | (first | omega | assumption)) | (first | omega | assumption)) (by first | omega | assumption | exact Nat.lt_of_le_of_lt (shr_le _ _) (by first | omega | assumption | (first | omega | assumption)) | (first | omega | assumption)))))
        refine zd ?_ (h := fun ν => ix0 ν qD6_un_24 qD6_sz_3 vt (hlt := (by first | omega | assumption)))
        refine zd ?_ (h := fun ν => lI ν qD6_ti_3 (by first | omega | assumption))
        refine zdm (zdm ?_)
        refine zd ?_ (h := fun ν => ix0 ν qD6_un_24 qD6_sz_3 vt (hlt := (by first | omega | assumption)))
        refine zd ?_ (h := fun ν => lI ν qD6_ti_3 (by first | omega | assumption))
        refine zd ?_ (h := fun ν => acts_bin ν vt vt (rA (by first | omega | assumption) (by first | omega | assumption)))
        refine zd ?_ (h := fun ν => ix0 ν qD6_un_24 qD6_sz_3 vt (hlt := (by first | omega | assumption)))
        refine zd ?_ (h := fun _ => sI qD6_ti_3 xt (by first | omega | assumption))
        refine dw_nil (rg (zm ?_))
        refine z ?_ (h := fun ν => acts_bin ν vt vc (rA (by first | omega | assumption) (by first | omega | assumption)))
        refine za (nl ?_)
        exact loop_back ((j + 1), (X.set (t ||| (2 ^ j)) ((gI X (t ||| (2 ^ j))) + (gI X t)))) (by exact ⟨by omega, hJ2⟩) (by show (smR l).length - (j + 1) < (smR l).length - j; omega) (wkf id (wS <| wE (e := (vsl (by first | rfl | (simp; done) | (simp; omega) | omega | (exact congrArg List.length (by first | rfl | omega | (simp; done) | (simp; omega)))) rfl)) <| wS <| wS <| wS <| wE (e := (vint (by first | rfl | omega | (simp; done) | (simp; omega)))) <| wS <| wS <| wS <| wP <| wP <| wF <| wF <| wF <| wF <| wF <| wF <| wF <| wF <| wN))
       ·skip
        have hJ2 := exp_no hJ ((ok_eq hpk).trans c17)
        have c21 := and_ff c17
        refine sk (rg (zm ?_))
        refine z ?_ (h := fun ν => acts_bin ν vt vc (rA (by first | omega | assumption) (by first | omega | assumption)))
        refine za (nl ?_)
        exact loop_back ((j + 1), X) (by exact ⟨by omega, hJ2⟩) (by show (smR l).length - (j + 1) < (smR l).length - j; omega) (wkf id (wS <| wS <| wS <| wS <| wS <| wE (e := (vint (by first | rfl | omega | (simp; done) | (simp; omega)))) <| wS <| wS <| wS <| wP <| wP <| wF <| wF <| wF <| wF <| wF <| wF <| wF <| wF <| wN))
      ·skip
       have hEx := exp_exit hJ ht hj1 (fun ⟨a, b, c⟩ => and3_f c11 ⟨by omega, by omega, c⟩)
       have c22 := and_ff c11
       refine wp_exit' (rg (zm (nl (rg ?_))))
       refine z ?_ (h := fun ν => acts_bin ν vt vc (rA (by first | omega | assumption) (by first | omega | assumption)))
       refine zm (nl ?_)
       exact loop_back ((t + 1), X) (by exact ⟨by omega, hEx⟩) (by show 2 ^ (smR l).length - (t + 1) < 2 ^ (smR l).length - t; omega) (wkf id (wS <| wS <| wS <| wS <| wE (e := (vint (by first | rfl | omega | (simp; done) | (simp; omega)))) <| wP <| wP <| wF <| wF <| wF <| wF <| wF <| wF <| wF <| wF <| wN))
    ·skip
     have c5P := of_decide_eq_false c5
     refine wp_exit' (sq (rg (zm (zm ?_))))
     refine z ?_ (h := fun ν => lnS ν qD6_un_24)
     refine z ?_ (h := fun ν => acts_bin ν vt vc (rS (by first | omega | assumption) (by first | omega | assumption)))
     refine z ?_ (h := fun ν => ix0 (k := (((L.length : Nat) : Int) - 1).toNat) ν qD6_un_24 qD6_sz_3 vt (Int.toNat_of_nonneg (by first | omega | assumption)).symm (by first | omega | assumption))
     refine z ?_ (h := fun ν => lI ν qD6_ti_3 (by first | omega | assumption))
     refine za (nl (wp_ret' ?_))
     exact ⟨_, weak_id, ⟨by kernel_rfl, trivial⟩, vo_eq 2 (.a (.val (.int .i64 (gI L ((((L.length : Nat) : Int) - 1).toNat))))) (.a (.val (.int .i64 (cbe l)))) (by kernel_rfl) (congrArg (fun z : Int => B.a (.val (.int .i64 z))) (by first | exact Eq.symm (cbe_no (.inl (smR_nl hno))) | exact Eq.symm (cbe_no hor) | exact Eq.symm (cbe_no (by omega)) | exact Eq.symm (cbe_yes (by omega) (by omega)) | (rw [cbe_yes (by omega) (by omega)]; first | exact cbe_last hI (by omega) (by omega) | exact Eq.symm (cbe_last hI (by omega) (by omega)))))⟩
  ·skip
   have hno := so2 c2
   refine rg ?_
   refine z ?_ (h := fun ν => acts_load_owns (xs := [(.sl 800 0 l.length : A)]) ν qD6_ti_26 rfl (by decide) rfl)
   refine z ?_ (h := fun ν => acts_callO (d := 11) (f := 11) (os := [(.o 800, some (.o ⟨3, 1, true, pl (isl l)⟩))]) (os' := [(.o 800, some (.o ⟨3, 1, true, pl (isl l)⟩))]) (r := V.v (.slice none 0 0)) (bs := [.agg [(.sl 800 0 l.length : A)]]) (keep := [800]) (new := []) (dead := []) ν ((SignMatrix_no2 l (by first | omega | assumption) (by first | omega | assumption) (by first | omega | assumption))) (by kernel_rfl) ⟨oc_pl (fun _ => rfl), trivial⟩ (by kernel_rfl) (ArgOs.cons (ArgO.slot 10 (.agg [(.sl 800 0 l.length : A)])) (ArgOs.nil)))
   refine za (nl (sq (sq (rg (zm ?_)))))
   refine z ?_ (h := fun ν => acts_bin ν vt vc (r_seql0 qD6_un_29 rfl))
   refine zm (zo (zo (zo ?_)))
   refine z ?_ (h := fun ν => acts_pick_t ν vt xc)
   refine nl (wt (sq (rg (zk (nl (wp_ret' ?_))))))
   exact ⟨_, weak_id, ⟨by kernel_rfl, trivial⟩, vo_eq 2 (.a (.val (.int .i64 (-1)))) (.a (.val (.int .i64 (cbe l)))) (by kernel_rfl) (congrArg (fun z : Int => B.a (.val (.int .i64 z))) (by first | exact Eq.symm (cbe_no (.inl (smR_nl hno))) | exact Eq.symm (cbe_no hor) | exact Eq.symm (cbe_no (by omega)) | exact Eq.symm (cbe_yes (by omega) (by omega)) | (rw [cbe_yes (by omega) (by omega)]; first | exact cbe_last hI (by omega) (by omega) | exact Eq.symm (cbe_last hI (by omega) (by omega)))))⟩
 ·skip
  have hno := so1 c1
  refine rg ?_
  refine z ?_ (h := fun ν => acts_load_owns (xs := [(.sl 800 0 l.length : A)]) ν qD6_ti_26 rfl (by decide) rfl)
  refine z ?_ (h := fun ν => acts_callO (d := 11) (f := 11) (os := [(.o 800, some (.o ⟨3, 1, true, pl (isl l)⟩))]) (os' := [(.o 800, some (.o ⟨3, 1, true, pl (isl l)⟩))]) (r := V.v (.slice none 0 0)) (bs := [.agg [(.sl 800 0 l.length : A)]]) (keep := [800]) (new := []) (dead := []) ν ((SignMatrix_no1 l (by first | omega | assumption) (by first | omega | assumption))) (by kernel_rfl) ⟨oc_pl (fun _ => rfl), trivial⟩ (by kernel_rfl) (ArgOs.cons (ArgO.slot 10 (.agg [(.sl 800 0 l.length : A)])) (ArgOs.nil)))
  refine za (nl (sq (sq (rg (zm ?_)))))
  refine z ?_ (h := fun ν => acts_bin ν vt vc (r_seql0 qD6_un_29 rfl))
  refine zm (zo (zo (zo ?_)))
  refine z ?_ (h := fun ν => acts_pick_t ν vt xc)
  refine nl (wt (sq (rg (zk (nl (wp_ret' ?_))))))
  exact ⟨_, weak_id, ⟨by kernel_rfl, trivial⟩, vo_eq 2 (.a (.val (.int .i64 (-1)))) (.a (.val (.int .i64 (cbe l)))) (by kernel_rfl) (congrArg (fun z : Int => B.a (.val (.int .i64 z))) (by first | exact Eq.symm (cbe_no (.inl (smR_nl hno))) | exact Eq.symm (cbe_no hor) | exact Eq.symm (cbe_no (by omega)) | exact Eq.symm (cbe_yes (by omega) (by omega)) | (rw [cbe_yes (by omega) (by omega)]; first | exact cbe_last hI (by omega) (by omega) | exact Eq.symm (cbe_last hI (by omega) (by omega)))))⟩
end Cl
end Go.Proofs.Ytokihekhelbijaa
