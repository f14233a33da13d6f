/- Walks over clean states, printed by wg.py. No statement is proved here. -/
import Derived.Test.YtgmkkfdnmdohlaaDoorDs
import Derived.Test.YtgmkkfdnmdohlaaDoorClB
set_option linter.unusedSimpArgs false
set_option linter.unusedVariables false
namespace Go.Proofs.YtgmkkfdnmdohlaaDoor
namespace Cl
open Go.ChangeShapes Go.WideShapes Go.ChangeAt Go.RowKit
set_option maxRecDepth 20000
def orT (s : List Bool) (D : List Int) (j : Nat) : List Bool := (List.range s.length).map fun i => gB s i || (decide (i < j) && decide (0 ≤ gI D i))
theorem orT_len (s : List Bool) (D : List Int) (j : Nat) : (orT s D j).length = s.length := by simp [orT]
theorem orT_at {s : List Bool} {D : List Int} {j i : Nat} (h : i < s.length) : gB (orT s D j) i = (gB s i || (decide (i < j) && decide (0 ≤ gI D i))) := by
  rw [gB_eq (by rw [orT_len]; exact h)]; simp [orT]
theorem orT_zero (s : List Bool) (D : List Int) : orT s D 0 = s := by
  apply List.ext_getElem (by simp [orT])
  intro i h1 h2
  simp only [orT, List.getElem_map, List.getElem_range, gB_eq h2]
  simp
theorem orT_snoc {s : List Bool} {D : List Int} {j : Nat} (h : j < s.length) : (orT s D j).set j (gB (orT s D j) j || decide (0 ≤ gI D j)) = orT s D (j + 1) := by
  rw [orT_at h]
  apply List.ext_getElem (by simp [orT])
  intro i h1 h2
  have hi : i < s.length := by simpa [orT] using h2
  simp only [orT, List.getElem_set, List.getElem_map, List.getElem_range]
  by_cases e : j = i
  · subst e; simp
  · rw [if_neg e]
    congr 2
    rw [decide_eq_decide]; omega
theorem orT_end {s : List Bool} {D : List Int} {j : Nat} (h : s.length ≤ j) : orT s D j = orT s D s.length := by
  unfold orT
  refine List.map_congr_left fun i hi => ?_
  have := List.mem_range.1 hi
  simp [this, show i < j by omega]
/-- parts: marks and count behind k rounds -/
noncomputable def prT (M : List (List Int)) (n : Nat) : Nat → List Bool × Int
  | 0 => (List.replicate n false, 0)
  | k + 1 => if gB (prT M n k).1 k then prT M n k else (orT (prT M n k).1 (dsM M k n) n, (prT M n k).2 + 1)
theorem prT_len (M : List (List Int)) (n : Nat) : ∀ k, (prT M n k).1.length = n
  | 0 => by simp [prT]
  | k + 1 => by
    have := prT_len M n k
    unfold prT; split
    · exact this
    · simp [orT_len, this]
theorem prT_cnt (M : List (List Int)) (n : Nat) : ∀ k, 0 ≤ (prT M n k).2 ∧ (prT M n k).2 ≤ k
  | 0 => by simp [prT]
  | k + 1 => by
    have := prT_cnt M n k
    unfold prT; split
    · omega
    · simp only; omega
theorem prT_on {M : List (List Int)} {n k : Nat} (h : gB (prT M n k).1 k = true) : prT M n (k + 1) = prT M n k := by rw [prT, if_pos h]
theorem prT_new {M : List (List Int)} {n k : Nat} (h : gB (prT M n k).1 k = false) : prT M n (k + 1) = (orT (prT M n k).1 (dsM M k n) n, (prT M n k).2 + 1) := by rw [prT, if_neg (by rw [h]; decide)]
noncomputable def prN (M : List (List Int)) (n : Nat) : Int := (prT M n n).2
theorem prN_congr {M N : List (List Int)} (h : ∀ k w, w ∈ gLs M k ↔ w ∈ gLs N k) (n : Nat) : prN M n = prN N n := by
  have e : ∀ t v, dsD M t v = dsD N t v := dsD_congr h
  have e2 : ∀ t, dsM M t n = dsM N t n := fun t => by unfold dsM; simp only [e]
  have e3 : ∀ k, prT M n k = prT N n k := by
    intro k
    induction k with
    | zero => rfl
    | succ k ih => simp only [prT, ih, e2]
  unfold prN; rw [e3]
theorem orT_set {s : List Bool} {D : List Int} {j : Nat} {v : Bool} (h : j < s.length) (hv : v = (gB (orT s D j) j || decide (0 ≤ gI D j))) : (orT s D j).set j v = orT s D (j + 1) := by rw [hv]; exact orT_snoc h
theorem pr_nr (l : List Int) : (prT (nrM (ltR l)) (nrM (ltR l)).length (nrM (ltR l)).length).2 = prN (lkM (ltR l)) (ltR l).length := by
  show prN _ _ = _
  rw [nrM_len]; exact prN_congr (nr_mem (FlipA.of l)) _
theorem pr_lk (l : List Int) : (prT (lkM (ltR l)) (lkM (ltR l)).length (lkM (ltR l)).length).2 = prN (lkM (ltR l)) (ltR l).length := by
  show prN _ _ = _
  rw [lkM_len]
theorem or_t {b c : Bool} (h : b = true) : true = (b || c) := by rw [h]; rfl
theorem or_f {b c : Bool} (h : b = false) : c = (b || c) := by rw [h]; rfl

theorem qFp_sz_3 : (Tryd.prog.info? 3).map (·.size) = some 1 := by kernel_rfl
theorem qFp_sz_4 : (Tryd.prog.info? 4).map (·.size) = some 1 := by kernel_rfl
theorem qFp_ti_27 : TI Tryd.prog 27 true 1 := ⟨⟨_, Tryd.underlying27, rfl⟩, by kernel_rfl⟩
theorem qFp_ti_3 : TI Tryd.prog 3 false 1 := ⟨⟨_, Tryd.underlying3, rfl⟩, by kernel_rfl⟩
theorem qFp_ti_4 : TI Tryd.prog 4 false 1 := ⟨⟨_, Tryd.underlying4, rfl⟩, by kernel_rfl⟩
theorem qFp_un_22 : Tryd.prog.underlying 22 = some (.slice 3) := Tryd.underlying22
theorem qFp_un_32 : Tryd.prog.underlying 32 = some (.slice 22) := Tryd.underlying32
theorem qFp_un_36 : Tryd.prog.underlying 36 = some (.slice 4) := Tryd.underlying36
theorem qFp_zi_4 : ZI Tryd.prog 4 (.bool false) 1 1 := by unfold ZI; kernel_rfl
set_option maxHeartbeats 4000000 in
set_option maxRecDepth 100000 in
theorem impl_CountFlipParts_fn (l : List Int) (hl : l.length ≤ 4194304) : FnO Tryd.prog 7 [.agg [(.sl 800 0 l.length : A)]] [(.o 800, some (.o ⟨3, 1, true, pl (isl l)⟩))] (V.v (.int .i64 (prN (lkM (ltR l)) (ltR l).length))) [(.o 800, some (.o ⟨3, 1, true, pl (isl l)⟩))] [800] := by
 have hll := ltR_len l
 have hlr : ∀ k, k < (ltR l).length → (gLd (ltR l) k).length ≤ 64 := fun k hk => Nat.le_trans (ltR_row hk) (by decide)
 have hA := FlipA.of l
 have hml := lkM_len (ltR l)
 have hnl := nrM_len (ltR l)
 have hRI : RowsIn (lkM (ltR l)) (lkM (ltR l)).length := by rw [hml]; exact rows_in hA
 have hNI : RowsIn (nrM (ltR l)) (nrM (ltR l)).length := nr_in hA
 have hpl9 := prT_len (nrM (ltR l)) (nrM (ltR l)).length 0
 refine fn_introO (N := 49) Tryd.func7 rfl (by kernel_rfl) rfl (Nat.le_of_ble_eq_true rfl) rfl rfl (by kernel_rfl) (by kernel_rfl) ⟨oc_pl (fun _ => rfl), trivial⟩ [1, 10, 11, 13, 14, 16, 28, 29, 49, 50, 51, 52] (retO1 rfl) (fun W own kp im0 => ?_)
 show Wp _ _ _ [kV 0 (V.b (.agg [(.sl 800 0 l.length : A)])), kO 800 3 1 true (pl (isl l)), kF 1, kF 10, kF 11, kF 13, kF 14, kF 16, kF 28, kF 29, kF 49, kF 50, kF 51, kF 52]
 refine sq (rg ?_)
 refine z ?_ (h := fun ν => acts_box (h := 1) ν xt (by exact ob1 rfl))
 refine zk (nl (sq (rg ?_)))
 refine z ?_ (h := fun ν => acts_load_owns (xs := [(.sl 800 0 l.length : A)]) ν qFp_ti_27 rfl (by decide) rfl)
 refine z ?_ (h := fun ν => acts_callO (d := 10) (f := 15) (os := [(.o 800, some (.o ⟨3, 1, true, pl (isl l)⟩))]) (os' := [(.o 800, some (.o ⟨3, 1, true, pl (isl l)⟩)), (.o 10, some (.o ⟨42, 1, true, rwD 63 (ltR l)⟩))]) (r := V.b (.a (.sl 10 0 ((ltR l).length)))) (bs := [.agg [(.sl 800 0 l.length : A)]]) (keep := [800]) (new := [10]) (dead := []) ν (FnO.ren' (impl_ListTilings_fn l (by first | omega | assumption | exact hlr _ (by first | assumption | omega) | exact Nat.le_trans (hlr _ (by first | assumption | omega)) (by decide))) (subst1 [(900, 10)]) rfl rfl (by kernel_rfl) (by kernel_rfl) ⟨oc_pl (fun _ => rfl), oc_rwD, trivial⟩ (by kernel_rfl) rfl (by simp only [renS, Ob.ren, pl_ren, rws_ren_doms, rws_ren_ints, rws_ren_cels, rwI_ren, rwD_ren]; first | done | rfl) (by simp only [renS, Ob.ren, pl_ren, rws_ren_doms, rws_ren_ints, rws_ren_cels, rwI_ren, rwD_ren]; first | done | rfl) rfl rfl) (by kernel_rfl) ⟨oc_pl (fun _ => rfl), oc_rwD, trivial⟩ (by kernel_rfl) (ArgOs.cons (ArgO.slot 9 (.agg [(.sl 800 0 l.length : A)])) (ArgOs.nil)))
 refine wpl_weak (fzD (k := 10) (h := 10) (T0 := 42) (T := 63) (ex0 := true) (n := ((ltR l).length)) (L := (ltR l)) (hn := by rfl)) ?_
 refine z ?_ (h := fun ν => acts_callO (d := 11) (f := 14) (os := []) (os' := []) (r := V.b (.a (.slvv 1 (vwI (nrM (ltR l)))))) (bs := [.a (.slvv 3 (vwD (ltR l)))]) (keep := []) (new := []) (dead := []) ν ((impl_flipNeighbors_fn (ltR l) (regSet l) (by first | omega | assumption | exact hA | exact hlr) (by first | omega | assumption | exact hA | exact hlr) (by first | omega | assumption | exact hA | exact hlr))) (by kernel_rfl) trivial (by kernel_rfl) (ArgOs.cons (ArgO.slot 10 (.a (.slvv 3 (vwD (ltR l))))) (ArgOs.nil)))
 refine za (nl (sq (rg (zm ?_))))
 refine z ?_ (h := fun ν => lnI ν qFp_un_32)
 refine z ?_ (h := fun ν => acts_make' (h := 14) (n := ((nrM (ltR l)).length)) (xs := bsl (List.replicate ((nrM (ltR l)).length) false)) ν qFp_un_36 qFp_zi_4 vt vt rfl rfl (by decide) (by first | omega | assumption | exact hlr _ (by first | assumption | omega) | exact Nat.le_trans (hlr _ (by first | assumption | omega)) (by decide)) (made_bools ((nrM (ltR l)).length)))
 refine za (zk (nl (sq (sq (rg (zm ?_))))))
 refine z ?_ (h := fun ν => lnI ν qFp_un_32)
 refine z ?_ (h := fun ν => mc ν)
 refine nl (bkk ?_)
 refine wp_loop' (fun (k : Nat) => k ≤ (nrM (ltR l)).length) (fun (k : Nat) => [kV 3 (V.b (.a (.slvv 1 (vwI (nrM (ltR l)))))), kS 4 14 0 (((prT (nrM (ltR l)) (nrM (ltR l)).length k).1).length), kI 5 ((prT (nrM (ltR l)) (nrM (ltR l)).length k).2), kI 16 (((nrM (ltR l)).length : Nat) : Int), kI 17 ((k : Nat) : Int), kO 14 4 1 true (pl (bsl ((prT (nrM (ltR l)) (nrM (ltR l)).length k).1))), kO 800 3 1 true (pl (isl l)), kF 1, kF 11, kF 13, kF 16, kF 28, kF 29, kF 49, kF 50, kF 51, kF 52]) (fun (k : Nat) => (nrM (ltR l)).length - k) ((0 : Nat)) (by exact (Nat.zero_le _ : 0 ≤ _)) (wkf id (wS <| wE (e := (vsl (by first | rfl | (simp; done) | (simp; omega) | omega | (exact congrArg List.length (by first | rfl | omega | (rw [hpn]; done) | (rw [hpn]; first | exact hje.trans hjq.symm | exact hjq.trans hje.symm | exact hje.symm | exact hje | rfl)))) rfl)) <| wE (e := (vint (by first | rfl | omega | (rw [hpn]; done) | (rw [hpn]; first | exact hje.trans hjq.symm | exact hjq.trans hje.symm | exact hje.symm | exact hje | rfl)))) <| wS <| wE (e := (vint (by first | rfl | omega | (rw [hpn]; done) | (rw [hpn]; first | exact hje.trans hjq.symm | exact hjq.trans hje.symm | exact hje.symm | exact hje | rfl)))) <| wO (e := renob_eq (fun h => h) (congrArg bsl (by first | rfl | omega | (rw [hpn]; done) | (rw [hpn]; first | exact hje.trans hjq.symm | exact hjq.trans hje.symm | exact hje.symm | exact hje | rfl)))) <| wP <| by (iterate 10 refine wF ?_); exact wN)) ?_
 rintro k inv1
 replace inv1 : k ≤ (nrM (ltR l)).length := inv1
 have hk := inv1
 have hpl0 := prT_len (nrM (ltR l)) (nrM (ltR l)).length k
 refine sq (rg ?_)
 refine z ?_ (h := fun ν => acts_bin ν vt vt (r_lss rfl))
 refine nl (sq ?_)
 refine wi (fun c2 => ?_) (fun c2 => ?_)
 ·skip
  have c2P := of_decide_eq_true c2
  have hpl := prT_len (nrM (ltR l)) (nrM (ltR l)).length k
  have hpc := prT_cnt (nrM (ltR l)) (nrM (ltR l)).length k
  have hdk := dsM_len (nrM (ltR l)) ((k : Nat) : Int) (nrM (ltR l)).length
  have hjl := orT_len (prT (nrM (ltR l)) (nrM (ltR l)).length k).1 (dsM (nrM (ltR l)) ((k : Nat) : Int) (nrM (ltR l)).length)
  refine sk (sq (bkk (sq (rg (zm (za (nl (sq (sq (rg (zm (zm ?_))))))))))))
  refine z ?_ (h := fun ν => ix0 ν qFp_un_36 qFp_sz_4 vt (hlt := (by first | omega | assumption | exact hlr _ (by first | assumption | omega) | exact Nat.le_trans (hlr _ (by first | assumption | omega)) (by decide))))
  refine z ?_ (h := fun ν => lB ν qFp_ti_4 (by first | omega | assumption | exact hlr _ (by first | assumption | omega) | exact Nat.le_trans (hlr _ (by first | assumption | omega)) (by decide)))
  refine nl ?_
  refine wi (b := (gB ((prT (nrM (ltR l)) (nrM (ltR l)).length k).1) k)) (fun c3 => ?_) (fun c3 => ?_)
  ·skip
   have hpn := prT_on c3
   refine wp_exit' (rg ?_)
   refine z ?_ (h := fun ν => acts_bin ν vt vc (rA (by first | omega | assumption | exact hlr _ (by first | assumption | omega) | exact Nat.le_trans (hlr _ (by first | assumption | omega)) (by decide)) (by first | omega | assumption | exact hlr _ (by first | assumption | omega) | exact Nat.le_trans (hlr _ (by first | assumption | omega)) (by decide))))
   refine zm (nl ?_)
   exact loop_back ((k + 1)) (by show _ ≤ _; omega) (by show (nrM (ltR l)).length - (k + 1) < (nrM (ltR l)).length - k; omega) (wkf id (wS <| wE (e := (vsl (by first | rfl | (simp; done) | (simp; omega) | omega | (exact congrArg List.length (by first | rfl | omega | (rw [hpn]; done) | (rw [hpn]; first | exact hje.trans hjq.symm | exact hjq.trans hje.symm | exact hje.symm | exact hje | rfl)))) rfl)) <| wE (e := (vint (by first | rfl | omega | (rw [hpn]; done) | (rw [hpn]; first | exact hje.trans hjq.symm | exact hjq.trans hje.symm | exact hje.symm | exact hje | rfl)))) <| wS <| wE (e := (vint (by first | rfl | omega | (rw [hpn]; done) | (rw [hpn]; first | exact hje.trans hjq.symm | exact hjq.trans hje.symm | exact hje.symm | exact hje | rfl)))) <| wO (e := renob_eq (fun h => h) (congrArg bsl (by first | rfl | omega | (rw [hpn]; done) | (rw [hpn]; first | exact hje.trans hjq.symm | exact hjq.trans hje.symm | exact hje.symm | exact hje | rfl)))) <| wP <| by (iterate 10 refine wF ?_); exact wN))
  ·skip
   have hpn := prT_new c3
   have h00 := orT_zero (prT (nrM (ltR l)) (nrM (ltR l)).length k).1 (dsM (nrM (ltR l)) ((k : Nat) : Int) (nrM (ltR l)).length)
   refine sk (sq (rg (zm ?_)))
   refine z ?_ (h := fun ν => acts_bin ν vt vc (rA (by first | omega | assumption | exact hlr _ (by first | assumption | omega) | exact Nat.le_trans (hlr _ (by first | assumption | omega)) (by decide)) (by first | omega | assumption | exact hlr _ (by first | assumption | omega) | exact Nat.le_trans (hlr _ (by first | assumption | omega)) (by decide))))
   refine za (nl (sq (rg (zm (zm ?_)))))
   refine z ?_ (h := fun ν => acts_call1 ν (impl_flipDistances_fn (nrM (ltR l)) ((k : Nat) : Int) (by first | omega | assumption | exact hNI | (intro k hk; exact nr_row64 hk) | exact ⟨by omega, by omega⟩) (by first | omega | assumption | exact hNI | (intro k hk; exact nr_row64 hk) | exact ⟨by omega, by omega⟩) (by first | omega | assumption | exact hNI | (intro k hk; exact nr_row64 hk) | exact ⟨by omega, by omega⟩) (by first | omega | assumption | exact hNI | (intro k hk; exact nr_row64 hk) | exact ⟨by omega, by omega⟩)) (ac (ArgV.slvv _ _ _) (ac (ArgV.v vt) an)) (ResV.row _ _ _ _ 28))
   refine z ?_ (h := fun ν => lnS ν qFp_un_22)
   refine z ?_ (h := fun ν => mc ν)
   refine nl (bkk ?_)
   refine wp_loop' (fun (j : Nat) => j ≤ (nrM (ltR l)).length) (fun (j : Nat) => [kV 3 (V.b (.a (.slvv 1 (vwI (nrM (ltR l)))))), kS 4 14 0 ((orT (prT (nrM (ltR l)) (nrM (ltR l)).length k).1 (dsM (nrM (ltR l)) ((k : Nat) : Int) (nrM (ltR l)).length) j).length), kI 5 ((prT (nrM (ltR l)) (nrM (ltR l)).length k).2 + 1), kI 16 (((nrM (ltR l)).length : Nat) : Int), kI 17 ((k : Nat) : Int), kS 28 28 0 ((dsM (nrM (ltR l)) ((k : Nat) : Int) (nrM (ltR l)).length).length), kI 29 (((dsM (nrM (ltR l)) ((k : Nat) : Int) (nrM (ltR l)).length).length : Nat) : Int), kI 30 ((j : Nat) : Int), kO 14 4 1 true (pl (bsl (orT (prT (nrM (ltR l)) (nrM (ltR l)).length k).1 (dsM (nrM (ltR l)) ((k : Nat) : Int) (nrM (ltR l)).length) j))), kO 28 3 1 true (pl (isl (dsM (nrM (ltR l)) ((k : Nat) : Int) (nrM (ltR l)).length))), kO 800 3 1 true (pl (isl l)), kF 1, kF 11, kF 13, kF 16, kF 29, kF 49, kF 50, kF 51, kF 52]) (fun (j : Nat) => (nrM (ltR l)).length - j) ((0 : Nat)) (by exact (Nat.zero_le _ : 0 ≤ _)) (wkf id (wS <| wE (e := (vsl (by first | rfl | (simp; done) | (simp; omega) | omega | (exact congrArg List.length (by first | rfl | omega | exact hov | exact hov.symm | exact h00 | exact h00.symm))) rfl)) <| wS <| wS <| wS <| wS <| wS <| wE (e := (vint (by first | rfl | omega | exact hov | exact hov.symm | exact h00 | exact h00.symm))) <| wO (e := renob_eq (fun h => h) (congrArg bsl (by first | rfl | omega | exact hov | exact hov.symm | exact h00 | exact h00.symm))) <| wP <| wP <| by (iterate 9 refine wF ?_); exact wN)) ?_
   rintro j inv4
   replace inv4 : j ≤ (nrM (ltR l)).length := inv4
   have hj := inv4
   have hjl0 := hjl j
   refine sq (rg ?_)
   refine z ?_ (h := fun ν => acts_bin ν vt vt (r_lss rfl))
   refine nl (sq ?_)
   refine wi (fun c5 => ?_) (fun c5 => ?_)
   ·skip
    have c5P := of_decide_eq_true c5
    have hjj := hjl j
    have hjj1 := hjl (j + 1)
    have hjs : j < (prT (nrM (ltR l)) (nrM (ltR l)).length k).1.length := by omega
    refine sk (sq (bkk (sq (rg (zm ?_)))))
    refine z ?_ (h := fun ν => ix0 ν qFp_un_22 qFp_sz_3 vt (hlt := (by first | omega | assumption | exact hlr _ (by first | assumption | omega) | exact Nat.le_trans (hlr _ (by first | assumption | omega)) (by decide))))
    refine z ?_ (h := fun ν => lI ν qFp_ti_3 (by first | omega | assumption | exact hlr _ (by first | assumption | omega) | exact Nat.le_trans (hlr _ (by first | assumption | omega)) (by decide)))
    refine za (za (nl ?_))
    rcases Bool.eq_false_or_eq_true ((gB (orT (prT (nrM (ltR l)) (nrM (ltR l)).length k).1 (dsM (nrM (ltR l)) ((k : Nat) : Int) (nrM (ltR l)).length) j) j)) with c6 | c6
    ·skip
     have hov := orT_set (v := true) hjs (or_t (c := decide (0 ≤ gI (dsM (nrM (ltR l)) ((k : Nat) : Int) (nrM (ltR l)).length) j)) c6)
     refine rg (zm (zm (zm (zm ?_))))
     refine z ?_ (h := fun ν => ix0 ν qFp_un_36 qFp_sz_4 vt (hlt := (by first | omega | assumption | exact hlr _ (by first | assumption | omega) | exact Nat.le_trans (hlr _ (by first | assumption | omega)) (by decide))))
     refine z ?_ (h := fun ν => acts_load_own ν qFp_ti_4 (by exact pl_get ((bsl_get1 (k := j) (by first | omega | assumption | exact hlr _ (by first | assumption | omega) | exact Nat.le_trans (hlr _ (by first | assumption | omega)) (by decide))).trans (congrArg (fun b : Bool => some (Value.bool b)) c6))))
     refine zm (zo (zo ?_))
     refine z ?_ (h := fun ν => acts_pick_t ν vt xc)
     refine z ?_ (h := fun ν => ix0 ν qFp_un_36 qFp_sz_4 vt (hlt := (by first | omega | assumption | exact hlr _ (by first | assumption | omega) | exact Nat.le_trans (hlr _ (by first | assumption | omega)) (by decide))))
     refine z ?_ (h := fun _ => sB qFp_ti_4 xt (by first | omega | assumption | exact hlr _ (by first | assumption | omega) | exact Nat.le_trans (hlr _ (by first | assumption | omega)) (by decide)))
     refine nl (rg ?_)
     refine z ?_ (h := fun ν => acts_bin ν vt vc (rA (by first | omega | assumption | exact hlr _ (by first | assumption | omega) | exact Nat.le_trans (hlr _ (by first | assumption | omega)) (by decide)) (by first | omega | assumption | exact hlr _ (by first | assumption | omega) | exact Nat.le_trans (hlr _ (by first | assumption | omega)) (by decide))))
     refine zm (nl ?_)
     exact loop_back ((j + 1)) (by show _ ≤ _; omega) (by show (nrM (ltR l)).length - (j + 1) < (nrM (ltR l)).length - j; omega) (wkf id (wS <| wE (e := (vsl (by first | rfl | (simp; done) | (simp; omega) | omega | (exact congrArg List.length (by first | rfl | omega | exact hov | exact hov.symm | exact h00 | exact h00.symm))) rfl)) <| wS <| wS <| wS <| wS <| wS <| wE (e := (vint (by first | rfl | omega | exact hov | exact hov.symm | exact h00 | exact h00.symm))) <| wO (e := renob_eq (fun h => h) (congrArg bsl (by first | rfl | omega | exact hov | exact hov.symm | exact h00 | exact h00.symm))) <| wP <| wP <| by (iterate 9 refine wF ?_); exact wN))
    ·skip
     have hov := orT_set hjs (or_f (c := decide (0 ≤ gI (dsM (nrM (ltR l)) ((k : Nat) : Int) (nrM (ltR l)).length) j)) c6)
     refine rg (zm (zm (zm (zm ?_))))
     refine z ?_ (h := fun ν => ix0 ν qFp_un_36 qFp_sz_4 vt (hlt := (by first | omega | assumption | exact hlr _ (by first | assumption | omega) | exact Nat.le_trans (hlr _ (by first | assumption | omega)) (by decide))))
     refine z ?_ (h := fun ν => acts_load_own ν qFp_ti_4 (by exact pl_get ((bsl_get1 (k := j) (by first | omega | assumption | exact hlr _ (by first | assumption | omega) | exact Nat.le_trans (hlr _ (by first | assumption | omega)) (by decide))).trans (congrArg (fun b : Bool => some (Value.bool b)) c6))))
     refine zm ?_
     refine zg ?_ (h := fun ν => step_on rfl rfl (mt ν))
     refine zg ?_ (h := fun ν => step_on rfl rfl (acts_bin ν vt vc (r_geq rfl)))
     refine z ?_ (h := fun ν => acts_pick_f ν vt xt)
     refine z ?_ (h := fun ν => ix0 ν qFp_un_36 qFp_sz_4 vt (hlt := (by first | omega | assumption | exact hlr _ (by first | assumption | omega) | exact Nat.le_trans (hlr _ (by first | assumption | omega)) (by decide))))
     refine z ?_ (h := fun _ => sB qFp_ti_4 xt (by first | omega | assumption | exact hlr _ (by first | assumption | omega) | exact Nat.le_trans (hlr _ (by first | assumption | omega)) (by decide)))
     refine nl (rg ?_)
     refine z ?_ (h := fun ν => acts_bin ν vt vc (rA (by first | omega | assumption | exact hlr _ (by first | assumption | omega) | exact Nat.le_trans (hlr _ (by first | assumption | omega)) (by decide)) (by first | omega | assumption | exact hlr _ (by first | assumption | omega) | exact Nat.le_trans (hlr _ (by first | assumption | omega)) (by decide))))
     refine zm (nl ?_)
     exact loop_back ((j + 1)) (by show _ ≤ _; omega) (by show (nrM (ltR l)).length - (j + 1) < (nrM (ltR l)).length - j; omega) (wkf id (wS <| wE (e := (vsl (by first | rfl | (simp; done) | (simp; omega) | omega | (exact congrArg List.length (by first | rfl | omega | exact hov | exact hov.symm | exact h00 | exact h00.symm))) rfl)) <| wS <| wS <| wS <| wS <| wS <| wE (e := (vint (by first | rfl | omega | exact hov | exact hov.symm | exact h00 | exact h00.symm))) <| wO (e := renob_eq (fun h => h) (congrArg bsl (by first | rfl | omega | exact hov | exact hov.symm | exact h00 | exact h00.symm))) <| wP <| wP <| by (iterate 9 refine wF ?_); exact wN))
   ·skip
    have c5P := of_decide_eq_false c5
    have hje := orT_end (s := (prT (nrM (ltR l)) (nrM (ltR l)).length k).1) (D := (dsM (nrM (ltR l)) ((k : Nat) : Int) (nrM (ltR l)).length)) (j := j) (by omega)
    rw [hpl] at hje
    have hjq := orT_end (s := (prT (nrM (ltR l)) (nrM (ltR l)).length k).1) (D := (dsM (nrM (ltR l)) ((k : Nat) : Int) (nrM (ltR l)).length)) (j := (nrM (ltR l)).length) (by omega)
    rw [hpl] at hjq
    refine wp_exit' (rg ?_)
    refine z ?_ (h := fun ν => acts_bin ν vt vc (rA (by first | omega | assumption | exact hlr _ (by first | assumption | omega) | exact Nat.le_trans (hlr _ (by first | assumption | omega)) (by decide)) (by first | omega | assumption | exact hlr _ (by first | assumption | omega) | exact Nat.le_trans (hlr _ (by first | assumption | omega)) (by decide))))
    refine zm (nl ?_)
    exact loop_back ((k + 1)) (by show _ ≤ _; omega) (by show (nrM (ltR l)).length - (k + 1) < (nrM (ltR l)).length - k; omega) (wkf id (wS <| wE (e := (vsl (by first | rfl | (simp; done) | (simp; omega) | omega | (exact congrArg List.length (by first | rfl | omega | (rw [hpn]; done) | (rw [hpn]; first | exact hje.trans hjq.symm | exact hjq.trans hje.symm | exact hje.symm | exact hje | rfl)))) rfl)) <| wE (e := (vint (by first | rfl | omega | (rw [hpn]; done) | (rw [hpn]; first | exact hje.trans hjq.symm | exact hjq.trans hje.symm | exact hje.symm | exact hje | rfl)))) <| wS <| wE (e := (vint (by first | rfl | omega | (rw [hpn]; done) | (rw [hpn]; first | exact hje.trans hjq.symm | exact hjq.trans hje.symm | exact hje.symm | exact hje | rfl)))) <| wO (e := renob_eq (fun h => h) (congrArg bsl (by first | rfl | omega | (rw [hpn]; done) | (rw [hpn]; first | exact hje.trans hjq.symm | exact hjq.trans hje.symm | exact hje.symm | exact hje | rfl)))) <| wP <| by (iterate 10 refine wF ?_); exact wN))
 ·skip
  have c2P := of_decide_eq_false c2
  have hkn : k = (nrM (ltR l)).length := by omega
  refine wp_exit' (sq (rg (zm (za (nl (wp_ret' ?_))))))
  exact ⟨_, weak_id, ⟨by kernel_rfl, trivial⟩, vo_eq 2 (.a (.val (.int .i64 ((prT (nrM (ltR l)) (nrM (ltR l)).length k).2)))) (.a (.val (.int .i64 (prN (lkM (ltR l)) (ltR l).length)))) (by kernel_rfl) (congrArg (fun z : Int => B.a (.val (.int .i64 z))) (by (rw [hkn]; exact pr_nr l)))⟩

set_option maxHeartbeats 4000000 in
set_option maxRecDepth 100000 in
theorem spec_CountFlipParts_fn (l : List Int) (hl : l.length ≤ 4194304) : FnO Tryd.prog 5 [.agg [(.sl 800 0 l.length : A)]] [(.o 800, some (.o ⟨3, 1, true, pl (isl l)⟩))] (V.v (.int .i64 (prN (lkM (ltR l)) (ltR l).length))) [(.o 800, some (.o ⟨3, 1, true, pl (isl l)⟩))] [800] := by
 have hll := ltR_len l
 have hlr : ∀ k, k < (ltR l).length → (gLd (ltR l) k).length ≤ 64 := fun k hk => Nat.le_trans (ltR_row hk) (by decide)
 have hA := FlipA.of l
 have hml := lkM_len (ltR l)
 have hnl := nrM_len (ltR l)
 have hRI : RowsIn (lkM (ltR l)) (lkM (ltR l)).length := by rw [hml]; exact rows_in hA
 have hNI : RowsIn (nrM (ltR l)) (nrM (ltR l)).length := nr_in hA
 have hpl9 := prT_len (lkM (ltR l)) (lkM (ltR l)).length 0
 refine fn_introO (N := 51) Tryd.func5 rfl (by kernel_rfl) rfl (Nat.le_of_ble_eq_true rfl) rfl rfl (by kernel_rfl) (by kernel_rfl) ⟨oc_pl (fun _ => rfl), trivial⟩ [1, 10, 11, 13, 14, 17, 29, 32, 51, 52, 53, 54] (retO1 rfl) (fun W own kp im0 => ?_)
 show Wp _ _ _ [kV 0 (V.b (.agg [(.sl 800 0 l.length : A)])), kO 800 3 1 true (pl (isl l)), kF 1, kF 10, kF 11, kF 13, kF 14, kF 17, kF 29, kF 32, kF 51, kF 52, kF 53, kF 54]
 refine sq (rg ?_)
 refine z ?_ (h := fun ν => acts_box (h := 1) ν xt (by exact ob1 rfl))
 refine zk (nl (sq (rg ?_)))
 refine z ?_ (h := fun ν => acts_load_owns (xs := [(.sl 800 0 l.length : A)]) ν qFp_ti_27 rfl (by decide) rfl)
 refine z ?_ (h := fun ν => acts_callO (d := 10) (f := 11) (os := [(.o 800, some (.o ⟨3, 1, true, pl (isl l)⟩))]) (os' := [(.o 800, some (.o ⟨3, 1, true, pl (isl l)⟩))]) (r := V.b (.a (.slvv 3 (vwD (ltR l))))) (bs := [.agg [(.sl 800 0 l.length : A)]]) (keep := [800]) (new := []) (dead := []) ν ((spec_ListTilings_fn l (by first | omega | assumption | exact hlr _ (by first | assumption | omega) | exact Nat.le_trans (hlr _ (by first | assumption | omega)) (by decide)))) (by kernel_rfl) ⟨oc_pl (fun _ => rfl), trivial⟩ (by kernel_rfl) (ArgOs.cons (ArgO.slot 9 (.agg [(.sl 800 0 l.length : A)])) (ArgOs.nil)))
 refine z ?_ (h := fun ν => acts_callO (d := 11) (f := 10) (os := []) (os' := []) (r := V.b (.a (.slvv 1 (vwI (lkM (ltR l)))))) (bs := [.a (.slvv 3 (vwD (ltR l)))]) (keep := []) (new := []) (dead := []) ν ((spec_l12Links_fn (ltR l) (by first | omega | assumption | exact hlr _ (by first | assumption | omega) | exact Nat.le_trans (hlr _ (by first | assumption | omega)) (by decide)) (by first | omega | assumption | exact hlr _ (by first | assumption | omega) | exact Nat.le_trans (hlr _ (by first | assumption | omega)) (by decide)))) (by kernel_rfl) trivial (by kernel_rfl) (ArgOs.cons (ArgO.slot 10 (.a (.slvv 3 (vwD (ltR l))))) (ArgOs.nil)))
 refine za (nl (sq (rg (zm ?_))))
 refine z ?_ (h := fun ν => lnI ν qFp_un_32)
 refine z ?_ (h := fun ν => acts_make' (h := 14) (n := ((lkM (ltR l)).length)) (xs := bsl (List.replicate ((lkM (ltR l)).length) false)) ν qFp_un_36 qFp_zi_4 vt vt rfl rfl (by decide) (by first | omega | assumption | exact hlr _ (by first | assumption | omega) | exact Nat.le_trans (hlr _ (by first | assumption | omega)) (by decide)) (made_bools ((lkM (ltR l)).length)))
 refine za (nl (sq (rg (zk (nl (sq (sq (rg (zk (nl (bkk ?_)))))))))))
 refine wp_loop' (fun (k : Nat) => k ≤ (lkM (ltR l)).length) (fun (k : Nat) => [kV 3 (V.b (.a (.slvv 1 (vwI (lkM (ltR l)))))), kS 4 14 0 (((prT (lkM (ltR l)) (lkM (ltR l)).length k).1).length), kI 5 ((prT (lkM (ltR l)) (lkM (ltR l)).length k).2), kI 6 ((k : Nat) : Int), kO 14 4 1 true (pl (bsl ((prT (lkM (ltR l)) (lkM (ltR l)).length k).1))), kO 800 3 1 true (pl (isl l)), kF 1, kF 10, kF 11, kF 13, kF 17, kF 29, kF 32, kF 51, kF 52, kF 53, kF 54]) (fun (k : Nat) => (lkM (ltR l)).length - k) ((0 : Nat)) (by exact (Nat.zero_le _ : 0 ≤ _)) (wkf id (wS <| wE (e := (vsl (by first | rfl | (simp; done) | (simp; omega) | omega | (exact congrArg List.length (by first | rfl | omega | (rw [hpn]; done) | (rw [hpn]; first | exact hje.trans hjq.symm | exact hjq.trans hje.symm | exact hje.symm | exact hje | rfl)))) rfl)) <| wE (e := (vint (by first | rfl | omega | (rw [hpn]; done) | (rw [hpn]; first | exact hje.trans hjq.symm | exact hjq.trans hje.symm | exact hje.symm | exact hje | rfl)))) <| wE (e := (vint (by first | rfl | omega | (rw [hpn]; done) | (rw [hpn]; first | exact hje.trans hjq.symm | exact hjq.trans hje.symm | exact hje.symm | exact hje | rfl)))) <| wO (e := renob_eq (fun h => h) (congrArg bsl (by first | rfl | omega | (rw [hpn]; done) | (rw [hpn]; first | exact hje.trans hjq.symm | exact hjq.trans hje.symm | exact hje.symm | exact hje | rfl)))) <| wP <| by (iterate 11 refine wF ?_); exact wN)) ?_
 rintro k inv1
 replace inv1 : k ≤ (lkM (ltR l)).length := inv1
 have hk := inv1
 have hpl0 := prT_len (lkM (ltR l)) (lkM (ltR l)).length k
 refine sq (sq (rg (zm (zm ?_))))
 refine z ?_ (h := fun ν => lnI ν qFp_un_32)
 refine z ?_ (h := fun ν => acts_bin ν vt vt (r_lss rfl))
 refine nl ?_
 refine wi (fun c2 => ?_) (fun c2 => ?_)
 ·skip
  have c2P := of_decide_eq_true c2
  have hpl := prT_len (lkM (ltR l)) (lkM (ltR l)).length k
  have hpc := prT_cnt (lkM (ltR l)) (lkM (ltR l)).length k
  have hdk := dsM_len (lkM (ltR l)) ((k : Nat) : Int) (lkM (ltR l)).length
  have hjl := orT_len (prT (lkM (ltR l)) (lkM (ltR l)).length k).1 (dsM (lkM (ltR l)) ((k : Nat) : Int) (lkM (ltR l)).length)
  refine sk (sq (bkk (sq (sq (rg (zm (zm ?_)))))))
  refine z ?_ (h := fun ν => ix0 ν qFp_un_36 qFp_sz_4 vt (hlt := (by first | omega | assumption | exact hlr _ (by first | assumption | omega) | exact Nat.le_trans (hlr _ (by first | assumption | omega)) (by decide))))
  refine z ?_ (h := fun ν => lB ν qFp_ti_4 (by first | omega | assumption | exact hlr _ (by first | assumption | omega) | exact Nat.le_trans (hlr _ (by first | assumption | omega)) (by decide)))
  refine nl ?_
  refine wi (b := (gB ((prT (lkM (ltR l)) (lkM (ltR l)).length k).1) k)) (fun c3 => ?_) (fun c3 => ?_)
  ·skip
   have hpn := prT_on c3
   refine wp_exit' (rg (zm ?_))
   refine z ?_ (h := fun ν => acts_bin ν vt vc (rA (by first | omega | assumption | exact hlr _ (by first | assumption | omega) | exact Nat.le_trans (hlr _ (by first | assumption | omega)) (by decide)) (by first | omega | assumption | exact hlr _ (by first | assumption | omega) | exact Nat.le_trans (hlr _ (by first | assumption | omega)) (by decide))))
   refine za (nl ?_)
   exact loop_back ((k + 1)) (by show _ ≤ _; omega) (by show (lkM (ltR l)).length - (k + 1) < (lkM (ltR l)).length - k; omega) (wkf id (wS <| wE (e := (vsl (by first | rfl | (simp; done) | (simp; omega) | omega | (exact congrArg List.length (by first | rfl | omega | (rw [hpn]; done) | (rw [hpn]; first | exact hje.trans hjq.symm | exact hjq.trans hje.symm | exact hje.symm | exact hje | rfl)))) rfl)) <| wE (e := (vint (by first | rfl | omega | (rw [hpn]; done) | (rw [hpn]; first | exact hje.trans hjq.symm | exact hjq.trans hje.symm | exact hje.symm | exact hje | rfl)))) <| wE (e := (vint (by first | rfl | omega | (rw [hpn]; done) | (rw [hpn]; first | exact hje.trans hjq.symm | exact hjq.trans hje.symm | exact hje.symm | exact hje | rfl)))) <| wO (e := renob_eq (fun h => h) (congrArg bsl (by first | rfl | omega | (rw [hpn]; done) | (rw [hpn]; first | exact hje.trans hjq.symm | exact hjq.trans hje.symm | exact hje.symm | exact hje | rfl)))) <| wP <| by (iterate 11 refine wF ?_); exact wN))
  ·skip
   have hpn := prT_new c3
   have h00 := orT_zero (prT (lkM (ltR l)) (lkM (ltR l)).length k).1 (dsM (lkM (ltR l)) ((k : Nat) : Int) (lkM (ltR l)).length)
   refine sk (sq (rg (zm ?_)))
   refine z ?_ (h := fun ν => acts_bin ν vt vc (rA (by first | omega | assumption | exact hlr _ (by first | assumption | omega) | exact Nat.le_trans (hlr _ (by first | assumption | omega)) (by decide)) (by first | omega | assumption | exact hlr _ (by first | assumption | omega) | exact Nat.le_trans (hlr _ (by first | assumption | omega)) (by decide))))
   refine za (nl (sq (rg (zm (zm ?_)))))
   refine z ?_ (h := fun ν => acts_call1 ν (spec_l12Distances_fn (lkM (ltR l)) ((k : Nat) : Int) (by first | omega | assumption | exact hRI | (intro k hk; exact Nat.le_trans (lk_row64 hA hk) (by decide)) | exact ⟨by omega, by omega⟩) (by first | omega | assumption | exact hRI | (intro k hk; exact Nat.le_trans (lk_row64 hA hk) (by decide)) | exact ⟨by omega, by omega⟩) (by first | omega | assumption | exact hRI | (intro k hk; exact Nat.le_trans (lk_row64 hA hk) (by decide)) | exact ⟨by omega, by omega⟩) (by first | omega | assumption | exact hRI | (intro k hk; exact Nat.le_trans (lk_row64 hA hk) (by decide)) | exact ⟨by omega, by omega⟩)) (ac (ArgV.slvv _ _ _) (ac (ArgV.v vt) an)) (ResV.row _ _ _ _ 29))
   refine za (nl (sq (rg (zk (nl (bkk ?_))))))
   refine wp_loop' (fun (j : Nat) => j ≤ (lkM (ltR l)).length) (fun (j : Nat) => [kV 3 (V.b (.a (.slvv 1 (vwI (lkM (ltR l)))))), kS 4 14 0 ((orT (prT (lkM (ltR l)) (lkM (ltR l)).length k).1 (dsM (lkM (ltR l)) ((k : Nat) : Int) (lkM (ltR l)).length) j).length), kI 5 ((prT (lkM (ltR l)) (lkM (ltR l)).length k).2 + 1), kI 6 ((k : Nat) : Int), kS 7 29 0 ((dsM (lkM (ltR l)) ((k : Nat) : Int) (lkM (ltR l)).length).length), kI 8 ((j : Nat) : Int), kO 14 4 1 true (pl (bsl (orT (prT (lkM (ltR l)) (lkM (ltR l)).length k).1 (dsM (lkM (ltR l)) ((k : Nat) : Int) (lkM (ltR l)).length) j))), kO 29 3 1 true (pl (isl (dsM (lkM (ltR l)) ((k : Nat) : Int) (lkM (ltR l)).length))), kO 800 3 1 true (pl (isl l)), kF 1, kF 10, kF 11, kF 13, kF 17, kF 32, kF 51, kF 52, kF 53, kF 54]) (fun (j : Nat) => (lkM (ltR l)).length - j) ((0 : Nat)) (by exact (Nat.zero_le _ : 0 ≤ _)) (wkf id (wS <| wE (e := (vsl (by first | rfl | (simp; done) | (simp; omega) | omega | (exact congrArg List.length (by first | rfl | omega | exact hov | exact hov.symm | exact h00 | exact h00.symm))) rfl)) <| wS <| wS <| wS <| wE (e := (vint (by first | rfl | omega | exact hov | exact hov.symm | exact h00 | exact h00.symm))) <| wO (e := renob_eq (fun h => h) (congrArg bsl (by first | rfl | omega | exact hov | exact hov.symm | exact h00 | exact h00.symm))) <| wP <| wP <| by (iterate 10 refine wF ?_); exact wN)) ?_
   rintro j inv4
   replace inv4 : j ≤ (lkM (ltR l)).length := inv4
   have hj := inv4
   have hjl0 := hjl j
   refine sq (sq (rg (zm (zm ?_))))
   refine z ?_ (h := fun ν => lnS ν qFp_un_22)
   refine z ?_ (h := fun ν => acts_bin ν vt vt (r_lss rfl))
   refine nl ?_
   refine wi (fun c5 => ?_) (fun c5 => ?_)
   ·skip
    have c5P := of_decide_eq_true c5
    have hjj := hjl j
    have hjj1 := hjl (j + 1)
    have hjs : j < (prT (lkM (ltR l)) (lkM (ltR l)).length k).1.length := by omega
    refine sk (sq (bkk ?_))
    rcases Bool.eq_false_or_eq_true ((gB (orT (prT (lkM (ltR l)) (lkM (ltR l)).length k).1 (dsM (lkM (ltR l)) ((k : Nat) : Int) (lkM (ltR l)).length) j) j)) with c6 | c6
    ·skip
     have hov := orT_set (v := true) hjs (or_t (c := decide (0 ≤ gI (dsM (lkM (ltR l)) ((k : Nat) : Int) (lkM (ltR l)).length) j)) c6)
     refine rg (zm (zm (zm (zm ?_))))
     refine z ?_ (h := fun ν => ix0 ν qFp_un_36 qFp_sz_4 vt (hlt := (by first | omega | assumption | exact hlr _ (by first | assumption | omega) | exact Nat.le_trans (hlr _ (by first | assumption | omega)) (by decide))))
     refine z ?_ (h := fun ν => acts_load_own ν qFp_ti_4 (by exact pl_get ((bsl_get1 (k := j) (by first | omega | assumption | exact hlr _ (by first | assumption | omega) | exact Nat.le_trans (hlr _ (by first | assumption | omega)) (by decide))).trans (congrArg (fun b : Bool => some (Value.bool b)) c6))))
     refine zm (zo (zo (zo (zo (zo ?_)))))
     refine z ?_ (h := fun ν => acts_pick_t ν vt xc)
     refine z ?_ (h := fun ν => ix0 ν qFp_un_36 qFp_sz_4 vt (hlt := (by first | omega | assumption | exact hlr _ (by first | assumption | omega) | exact Nat.le_trans (hlr _ (by first | assumption | omega)) (by decide))))
     refine z ?_ (h := fun _ => sB qFp_ti_4 xt (by first | omega | assumption | exact hlr _ (by first | assumption | omega) | exact Nat.le_trans (hlr _ (by first | assumption | omega)) (by decide)))
     refine nl (rg (zm ?_))
     refine z ?_ (h := fun ν => acts_bin ν vt vc (rA (by first | omega | assumption | exact hlr _ (by first | assumption | omega) | exact Nat.le_trans (hlr _ (by first | assumption | omega)) (by decide)) (by first | omega | assumption | exact hlr _ (by first | assumption | omega) | exact Nat.le_trans (hlr _ (by first | assumption | omega)) (by decide))))
     refine za (nl ?_)
     exact loop_back ((j + 1)) (by show _ ≤ _; omega) (by show (lkM (ltR l)).length - (j + 1) < (lkM (ltR l)).length - j; omega) (wkf id (wS <| wE (e := (vsl (by first | rfl | (simp; done) | (simp; omega) | omega | (exact congrArg List.length (by first | rfl | omega | exact hov | exact hov.symm | exact h00 | exact h00.symm))) rfl)) <| wS <| wS <| wS <| wE (e := (vint (by first | rfl | omega | exact hov | exact hov.symm | exact h00 | exact h00.symm))) <| wO (e := renob_eq (fun h => h) (congrArg bsl (by first | rfl | omega | exact hov | exact hov.symm | exact h00 | exact h00.symm))) <| wP <| wP <| by (iterate 10 refine wF ?_); exact wN))
    ·skip
     have hov := orT_set hjs (or_f (c := decide (0 ≤ gI (dsM (lkM (ltR l)) ((k : Nat) : Int) (lkM (ltR l)).length) j)) c6)
     refine rg (zm (zm (zm (zm ?_))))
     refine z ?_ (h := fun ν => ix0 ν qFp_un_36 qFp_sz_4 vt (hlt := (by first | omega | assumption | exact hlr _ (by first | assumption | omega) | exact Nat.le_trans (hlr _ (by first | assumption | omega)) (by decide))))
     refine z ?_ (h := fun ν => acts_load_own ν qFp_ti_4 (by exact pl_get ((bsl_get1 (k := j) (by first | omega | assumption | exact hlr _ (by first | assumption | omega) | exact Nat.le_trans (hlr _ (by first | assumption | omega)) (by decide))).trans (congrArg (fun b : Bool => some (Value.bool b)) c6))))
     refine zm ?_
     refine zg ?_ (h := fun ν => step_on rfl rfl (mt ν))
     refine zg ?_ (h := fun ν => step_on rfl rfl (mt ν))
     refine zg ?_ (h := fun ν => step_on rfl rfl (ix0 ν qFp_un_22 qFp_sz_3 vt (hlt := (by first | omega | assumption | exact hlr _ (by first | assumption | omega) | exact Nat.le_trans (hlr _ (by first | assumption | omega)) (by decide)))))
     refine zg ?_ (h := fun ν => step_on rfl rfl (lI ν qFp_ti_3 (by first | omega | assumption | exact hlr _ (by first | assumption | omega) | exact Nat.le_trans (hlr _ (by first | assumption | omega)) (by decide))))
     refine zg ?_ (h := fun ν => step_on rfl rfl (acts_bin ν vt vc (r_geq rfl)))
     refine z ?_ (h := fun ν => acts_pick_f ν vt xt)
     refine z ?_ (h := fun ν => ix0 ν qFp_un_36 qFp_sz_4 vt (hlt := (by first | omega | assumption | exact hlr _ (by first | assumption | omega) | exact Nat.le_trans (hlr _ (by first | assumption | omega)) (by decide))))
     refine z ?_ (h := fun _ => sB qFp_ti_4 xt (by first | omega | assumption | exact hlr _ (by first | assumption | omega) | exact Nat.le_trans (hlr _ (by first | assumption | omega)) (by decide)))
     refine nl (rg (zm ?_))
     refine z ?_ (h := fun ν => acts_bin ν vt vc (rA (by first | omega | assumption | exact hlr _ (by first | assumption | omega) | exact Nat.le_trans (hlr _ (by first | assumption | omega)) (by decide)) (by first | omega | assumption | exact hlr _ (by first | assumption | omega) | exact Nat.le_trans (hlr _ (by first | assumption | omega)) (by decide))))
     refine za (nl ?_)
     exact loop_back ((j + 1)) (by show _ ≤ _; omega) (by show (lkM (ltR l)).length - (j + 1) < (lkM (ltR l)).length - j; omega) (wkf id (wS <| wE (e := (vsl (by first | rfl | (simp; done) | (simp; omega) | omega | (exact congrArg List.length (by first | rfl | omega | exact hov | exact hov.symm | exact h00 | exact h00.symm))) rfl)) <| wS <| wS <| wS <| wE (e := (vint (by first | rfl | omega | exact hov | exact hov.symm | exact h00 | exact h00.symm))) <| wO (e := renob_eq (fun h => h) (congrArg bsl (by first | rfl | omega | exact hov | exact hov.symm | exact h00 | exact h00.symm))) <| wP <| wP <| by (iterate 10 refine wF ?_); exact wN))
   ·skip
    have c5P := of_decide_eq_false c5
    have hje := orT_end (s := (prT (lkM (ltR l)) (lkM (ltR l)).length k).1) (D := (dsM (lkM (ltR l)) ((k : Nat) : Int) (lkM (ltR l)).length)) (j := j) (by omega)
    rw [hpl] at hje
    have hjq := orT_end (s := (prT (lkM (ltR l)) (lkM (ltR l)).length k).1) (D := (dsM (lkM (ltR l)) ((k : Nat) : Int) (lkM (ltR l)).length)) (j := (lkM (ltR l)).length) (by omega)
    rw [hpl] at hjq
    refine wp_exit' (rg (zm ?_))
    refine z ?_ (h := fun ν => acts_bin ν vt vc (rA (by first | omega | assumption | exact hlr _ (by first | assumption | omega) | exact Nat.le_trans (hlr _ (by first | assumption | omega)) (by decide)) (by first | omega | assumption | exact hlr _ (by first | assumption | omega) | exact Nat.le_trans (hlr _ (by first | assumption | omega)) (by decide))))
    refine za (nl ?_)
    exact loop_back ((k + 1)) (by show _ ≤ _; omega) (by show (lkM (ltR l)).length - (k + 1) < (lkM (ltR l)).length - k; omega) (wkf id (wS <| wE (e := (vsl (by first | rfl | (simp; done) | (simp; omega) | omega | (exact congrArg List.length (by first | rfl | omega | (rw [hpn]; done) | (rw [hpn]; first | exact hje.trans hjq.symm | exact hjq.trans hje.symm | exact hje.symm | exact hje | rfl)))) rfl)) <| wE (e := (vint (by first | rfl | omega | (rw [hpn]; done) | (rw [hpn]; first | exact hje.trans hjq.symm | exact hjq.trans hje.symm | exact hje.symm | exact hje | rfl)))) <| wE (e := (vint (by first | rfl | omega | (rw [hpn]; done) | (rw [hpn]; first | exact hje.trans hjq.symm | exact hjq.trans hje.symm | exact hje.symm | exact hje | rfl)))) <| wO (e := renob_eq (fun h => h) (congrArg bsl (by first | rfl | omega | (rw [hpn]; done) | (rw [hpn]; first | exact hje.trans hjq.symm | exact hjq.trans hje.symm | exact hje.symm | exact hje | rfl)))) <| wP <| by (iterate 11 refine wF ?_); exact wN))
 ·skip
  have c2P := of_decide_eq_false c2
  have hkn : k = (lkM (ltR l)).length := by omega
  refine wp_exit' (sq (rg (zm (za (nl (wp_ret' ?_))))))
  exact ⟨_, weak_id, ⟨by kernel_rfl, trivial⟩, vo_eq 2 (.a (.val (.int .i64 ((prT (lkM (ltR l)) (lkM (ltR l)).length k).2)))) (.a (.val (.int .i64 (prN (lkM (ltR l)) (ltR l).length)))) (by kernel_rfl) (congrArg (fun z : Int => B.a (.val (.int .i64 z))) (by (rw [hkn]; exact pr_lk l)))⟩
end Cl
end Go.Proofs.YtgmkkfdnmdohlaaDoor
