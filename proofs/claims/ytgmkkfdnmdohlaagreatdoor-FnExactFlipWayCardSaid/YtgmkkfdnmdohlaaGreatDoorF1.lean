/- Walks over clean states, printed by wg.py. No statement is proved here. -/
import Derived.Test.YtgmkkfdnmdohlaaGreatDoorFw
import Derived.Test.YtgmkkfdnmdohlaaGreatDoorClB
set_option linter.unusedSimpArgs false
set_option linter.unusedVariables false
namespace Go.Proofs.YtgmkkfdnmdohlaaGreatDoor
namespace Cl
open Go.ChangeShapes Go.WideShapes Go.ChangeAt Go.RowKit
set_option maxRecDepth 20000

theorem gI_app {L E : List Int} {k : Nat} (hk : k < L.length) : gI (L ++ E) k = gI L k := by
  rw [gI_eq (by rw [List.length_append]; omega), gI_eq hk, List.getElem_append_left hk]
/-- a round's facts, as the walk says them -/
structure BRd (M : List (List Int)) (t : Int) (n : Nat) (L : List Int) (k i : Nat) (N : List Int) : Prop where
  b : ∀ hk : k < L.length, BIn M t n L k (L[k]) i N
theorem BRd.into {M : List (List Int)} {t : Int} {n : Nat} {L : List Int} {k : Nat} (h : BInv M t n L k) (_hk : k < L.length) : BRd M t n L k 0 L := ⟨fun hk => h.into hk⟩
theorem BInv.at {M : List (List Int)} {t : Int} {n : Nat} {L : List Int} {k : Nat} (h : BInv M t n L k) (hk : k < L.length) : (0 ≤ gI L k ∧ gI L k < (n : Int)) ∧ (0 ≤ dsD M t (gI L k) ∧ dsD M t (gI L k) < (n : Int)) := by
  rw [gI_eq hk]
  have h1 := h.bd _ (List.getElem_mem hk)
  have h2 := h.len
  exact ⟨h.lt _ (List.getElem_mem hk), h.rc _ (List.getElem_mem hk), by omega⟩
theorem BRd.fact {M : List (List Int)} {t : Int} {n : Nat} {L : List Int} {k i : Nat} {N : List Int} (hI : BInv M t n L k) (hk : k < L.length) (h : BRd M t n L k i N) : gI N k = gI L k ∧ k < N.length ∧ N.length ≤ n ∧ gI (dL M t n N) (gI L k).toNat = dsD M t (gI L k) := by
  obtain ⟨E, hE⟩ := (h.b hk).ap
  have hu := (hI.at hk).1
  refine ⟨by rw [hE, gI_app hk], by rw [hE, List.length_append]; omega, (h.b hk).len, ?_⟩
  rw [gI_dL (by omega), show (((gI L k).toNat : Nat) : Int) = gI L k by omega, if_pos]
  rw [hE, List.mem_append]; left; rw [gI_eq hk]; exact List.getElem_mem hk
theorem BRd.skip {M : List (List Int)} {t : Int} {n : Nat} {L : List Int} {k i : Nat} {N : List Int} (h : BRd M t n L k i N) (hk : k < L.length) (hi : i < (gLs M (gI L k).toNat).length) (hm : gI (gLs M (gI L k).toNat) i ∈ N) : BRd M t n L k (i + 1) N := by
  rw [gI_eq hk] at hi hm
  exact ⟨fun _ => (h.b hk).skip hi hm⟩
theorem BRd.w {M : List (List Int)} {n : Nat} {L : List Int} {k i : Nat} (hR : RowsIn M n) (hu : 0 ≤ gI L k ∧ gI L k < (n : Int)) (hi : i < (gLs M (gI L k).toNat).length) : 0 ≤ gI (gLs M (gI L k).toNat) i ∧ gI (gLs M (gI L k).toNat) i < (n : Int) :=
  hR (gI L k).toNat (by omega) _ (by rw [gI_eq hi]; exact List.getElem_mem hi)
theorem BRd.neg {M : List (List Int)} {t : Int} {n : Nat} {L : List Int} {k i : Nat} {N : List Int} (h : BRd M t n L k i N) (hk : k < L.length) {w : Int} (hw : 0 ≤ w ∧ w < (n : Int)) : gI (dL M t n N) w.toNat < 0 ↔ w ∉ N := dL_neg (h.b hk).rc hw
theorem BRd.go {M : List (List Int)} {t : Int} {n : Nat} {L : List Int} {k i : Nat} {N : List Int} (hI : BInv M t n L k) (hk : k < L.length) (hR : RowsIn M n) (h : BRd M t n L k i N) (hi : i < (gLs M (gI L k).toNat).length) (hm : gI (gLs M (gI L k).toNat) i ∉ N) :
    BRd M t n L k (i + 1) (N ++ [gI (gLs M (gI L k).toNat) i]) ∧ dL M t n (N ++ [gI (gLs M (gI L k).toNat) i]) = (dL M t n N).set (gI (gLs M (gI L k).toNat) i).toNat (gI (dL M t n N) (gI L k).toNat + 1) := by
  have hf := (h.fact hI hk).2.2.2
  have hw := BRd.w hR (hI.at hk).1 hi
  rw [hf]
  have e := gI_eq hk
  generalize hx : gI L k = x at *
  subst hx
  rw [e] at hi hm hw ⊢
  obtain ⟨h1, h2, h3⟩ := BIn.go hI hk hR (h.b hk) hi hm
  refine ⟨⟨fun _ => h1⟩, ?_⟩
  have := dL_add (M := M) (t := t) (n := n) (L := N) (v := (gI (gLs M (L[k]).toNat) i).toNat) (by omega)
  rw [show (((gI (gLs M (L[k]).toNat) i).toNat : Nat) : Int) = gI (gLs M (L[k]).toNat) i by omega] at this
  rw [this, h2]
theorem BRd.out {M : List (List Int)} {t : Int} {n : Nat} {L : List Int} {k i : Nat} {N : List Int} (hI : BInv M t n L k) (hk : k < L.length) (h : BRd M t n L k i N) (hi : ¬ i < (gLs M (gI L k).toNat).length) : BInv M t n N (k + 1) := by
  rw [gI_eq hk] at hi
  exact (h.b hk).out hI hk hi
theorem gI_dsW {M : List (List Int)} {t : Int} {n : Nat} {w : Int} (h0 : 0 ≤ w) (h : w < (n : Int)) : gI (dsM M t n) w.toNat = dsD M t w := by
  rw [gI_dsM (by omega), show ((w.toNat : Nat) : Int) = w by omega]
def rpl (n k : Nat) : List Int := List.replicate k (-1) ++ List.replicate (n - k) 0
theorem rpl_len {n k : Nat} (h : k ≤ n) : (rpl n k).length = n := by unfold rpl; simp; omega
theorem rpl_zero (n : Nat) : rpl n 0 = List.replicate n 0 := by simp [rpl]
theorem rpl_set {n k : Nat} (h : k < n) : (rpl n k).set k (-1) = rpl n (k + 1) := by
  unfold rpl
  rw [List.set_append, if_neg (by simp), List.length_replicate, Nat.sub_self, show n - k = (n - (k + 1)) + 1 by omega, List.replicate_succ, List.set_cons_zero, List.replicate_succ', List.append_assoc]; rfl
theorem rpl_init {M : List (List Int)} {t : Int} {n k : Nat} (ht : 0 ≤ t ∧ t < (n : Int)) (hk : k = n) : (rpl n k).set t.toNat 0 = dL M t n [t] := by
  subst hk
  have := dL_add (M := M) (t := t) (n := k) (L := []) (v := t.toNat) (by omega)
  rw [show ((t.toNat : Nat) : Int) = t by omega, List.nil_append, dL_nil, dsD_self] at this
  rw [this]; simp [rpl]

theorem qF1_sz_22 : (Tryz.prog.info? 22).map (·.size) = some 1 := by kernel_rfl
theorem qF1_sz_3 : (Tryz.prog.info? 3).map (·.size) = some 1 := by kernel_rfl
theorem qF1_ti_22 : TI Tryz.prog 22 false 1 := ⟨⟨_, Tryz.underlying22, rfl⟩, by kernel_rfl⟩
theorem qF1_ti_3 : TI Tryz.prog 3 false 1 := ⟨⟨_, Tryz.underlying3, rfl⟩, by kernel_rfl⟩
theorem qF1_un_22 : Tryz.prog.underlying 22 = some (.slice 3) := Tryz.underlying22
theorem qF1_un_56 : Tryz.prog.underlying 56 = some (.slice 22) := Tryz.underlying56
theorem qF1_zi_3 : ZI Tryz.prog 3 (.int .i64 0) 1 8 := by unfold ZI; kernel_rfl
set_option maxHeartbeats 4000000 in
set_option maxRecDepth 100000 in
theorem spec_l12Distances_fn (M : List (List Int)) (t : Int) (hm : M.length ≤ 300) (hR : RowsIn M M.length) (hrl : ∀ k, k < M.length → (gLs M k).length ≤ 4194304) (ht : 0 ≤ t ∧ t < (M.length : Int)) : Fn Tryz.prog 32 [.a (.slvv 1 (vwI M)), .a (.val (.int .i64 t))] [.row 3 1 (dsM M t M.length).length (isl (dsM M t M.length))] := by
 have hr0 := rpl_len (n := M.length) (Nat.zero_le _)
 have hdl0 := dL_len M t M.length [t]
 refine fn_intro (N := 77) Tryz.func32 rfl (by kernel_rfl) rfl (Nat.le_of_ble_eq_true rfl) [12, 13, 16, 27, 30, 43, 74, 75] (ret1 rfl) (fun W => ?_)
 show Wp _ _ _ [kV 0 (V.b (.a (.slvv 1 (vwI M)))), kI 1 t, kF 12, kF 13, kF 16, kF 27, kF 30, kF 43, kF 74, kF 75]
 refine sq (rg (zk (nl (sq (rg (zm ?_))))))
 refine z ?_ (h := fun ν => lnI ν qF1_un_56)
 refine z ?_ (h := fun ν => acts_make' (h := 13) (n := M.length) (xs := isl (List.replicate M.length 0)) ν qF1_un_22 qF1_zi_3 vt vt rfl rfl (by decide) (by first | omega | assumption | exact hrl _ (by omega) | (rw [dL_len]; omega)) (made_ints' M.length))
 refine za (nl (sq (sq (rg (zk (nl (bkk ?_)))))))
 refine wp_loop' (fun (k0 : Nat) => k0 ≤ M.length) (fun (k0 : Nat) => [kV 0 (V.b (.a (.slvv 1 (vwI M)))), kI 1 t, kS 5 13 0 ((rpl M.length k0).length), kI 6 ((k0 : Nat) : Int), kO 13 3 1 true (pl (isl (rpl M.length k0))), kF 12, kF 16, kF 27, kF 30, kF 43, kF 74, kF 75]) (fun (k0 : Nat) => M.length - k0) ((0 : Nat)) (by exact (Nat.zero_le _ : 0 ≤ _)) (wkf id (wS <| wS <| wE (e := (vsl (by first | rfl | (simp; done) | (simp; omega) | omega | (exact congrArg List.length (by first | rfl | omega | exact (rpl_zero _).symm | exact rpl_zero _ | exact rpl_set (by omega) | exact Eq.symm (rpl_set (by omega))))) rfl)) <| wE (e := (vint (by first | rfl | omega | exact (rpl_zero _).symm | exact rpl_zero _ | exact rpl_set (by omega) | exact Eq.symm (rpl_set (by omega))))) <| wO (e := renob_eq (fun h => h) (congrArg isl (by first | rfl | omega | exact (rpl_zero _).symm | exact rpl_zero _ | exact rpl_set (by omega) | exact Eq.symm (rpl_set (by omega))))) <| wF <| wF <| wF <| wF <| wF <| wF <| wF <| wN)) ?_
 rintro k0 inv1
 replace inv1 : k0 ≤ M.length := inv1
 have hk0 := inv1
 have hrp := rpl_len hk0
 refine sq (sq (rg (zm (zm ?_))))
 refine z ?_ (h := fun ν => lnS ν qF1_un_22)
 refine z ?_ (h := fun ν => acts_bin ν vt vt (r_lss rfl))
 refine nl ?_
 refine wi (fun c2 => ?_) (fun c2 => ?_)
 ·skip
  have c2P := of_decide_eq_true c2
  have hr1 := rpl_len (n := M.length) (k := k0 + 1) (by omega)
  refine sk (sq (bkk (rg (zm (zm ?_)))))
  refine z ?_ (h := fun ν => ix0 ν qF1_un_22 qF1_sz_3 vt (hlt := (by first | omega | assumption | exact hrl _ (by omega) | (rw [dL_len]; omega))))
  refine z ?_ (h := fun _ => sI qF1_ti_3 xc (by first | omega | assumption | exact hrl _ (by omega) | (rw [dL_len]; omega)))
  refine nl (rg (zm ?_))
  refine z ?_ (h := fun ν => acts_bin ν vt vc (rA (by first | omega | assumption | exact hrl _ (by omega) | (rw [dL_len]; omega)) (by first | omega | assumption | exact hrl _ (by omega) | (rw [dL_len]; omega))))
  refine za (nl ?_)
  exact loop_back ((k0 + 1)) (by show _ ≤ _; omega) (by show M.length - (k0 + 1) < M.length - k0; omega) (wkf id (wS <| wS <| wE (e := (vsl (by first | rfl | (simp; done) | (simp; omega) | omega | (exact congrArg List.length (by first | rfl | omega | exact (rpl_zero _).symm | exact rpl_zero _ | exact rpl_set (by omega) | exact Eq.symm (rpl_set (by omega))))) rfl)) <| wE (e := (vint (by first | rfl | omega | exact (rpl_zero _).symm | exact rpl_zero _ | exact rpl_set (by omega) | exact Eq.symm (rpl_set (by omega))))) <| wO (e := renob_eq (fun h => h) (congrArg isl (by first | rfl | omega | exact (rpl_zero _).symm | exact rpl_zero _ | exact rpl_set (by omega) | exact Eq.symm (rpl_set (by omega))))) <| wF <| wF <| wF <| wF <| wF <| wF <| wF <| wN))
 ·skip
  have c2P := of_decide_eq_false c2
  refine wp_exit' (sq (rg (zm (zm ?_))))
  refine z ?_ (h := fun ν => ix0 (k := t.toNat) ν qF1_un_22 qF1_sz_3 vt (Int.toNat_of_nonneg (by first | omega | assumption | exact hrl _ (by omega) | (rw [dL_len]; omega))).symm (by first | omega | assumption | exact hrl _ (by omega) | (rw [dL_len]; omega)))
  refine z ?_ (h := fun _ => sI qF1_ti_3 xc (by first | omega | assumption | exact hrl _ (by omega) | (rw [dL_len]; omega)))
  refine nl (sq (rg (zm ?_)))
  refine z ?_ (h := fun ν => acts_buildSlice' (h := 27) (xs := isl ([t] : List Int)) ν qF1_un_22 qF1_zi_3 (.cons vt OpVs.nil) (by decide) (by decide) (by kernel_rfl) rfl)
  refine za (nl (sq (sq (rg (zk (nl (bkk ?_)))))))
  refine wp_loop' (fun ((k, L) : Nat × (List Int)) => BInv M t M.length L k) (fun ((k, L) : Nat × (List Int)) => [kV 0 (V.b (.a (.slvv 1 (vwI M)))), kS 5 13 0 ((dL M t M.length L).length), kS 7 27 0 L.length, kI 8 ((k : Nat) : Int), kO 13 3 1 true (pl (isl (dL M t M.length L))), kO 27 3 1 true (pl (isl L)), kF 12, kF 16, kF 30, kF 43, kF 74, kF 75]) (fun ((k, L) : Nat × (List Int)) => M.length - k) ((0 : Nat), ([t] : List Int)) (by exact BInv.init ht) (wkf id (wS <| wE (e := (vsl (by first | rfl | (simp; done) | (simp; omega) | omega | (exact congrArg List.length (by first | rfl | omega | exact rpl_init ht (by omega) | exact Eq.symm (rpl_init ht (by omega)) | (simp; done)))) rfl)) <| wE (e := (vsl (by first | rfl | (simp; done) | (simp; omega) | omega | (exact congrArg List.length (by first | rfl | omega | exact rpl_init ht (by omega) | exact Eq.symm (rpl_init ht (by omega)) | (simp; done)))) rfl)) <| wE (e := (vint (by first | rfl | omega | exact rpl_init ht (by omega) | exact Eq.symm (rpl_init ht (by omega)) | (simp; done)))) <| wO (e := renob_eq (fun h => h) (congrArg isl (by first | rfl | omega | exact rpl_init ht (by omega) | exact Eq.symm (rpl_init ht (by omega)) | (simp; done)))) <| wP <| wF <| wF <| wF <| wF <| wF <| wF <| wN)) ?_
  rintro ⟨k, L⟩ inv3
  replace inv3 : BInv M t M.length L k := inv3
  have hB := inv3
  have hBl := hB.len
  have hdl := dL_len M t M.length L
  refine sq (sq (rg (zm (zm ?_))))
  refine z ?_ (h := fun ν => lnS ν qF1_un_22)
  refine z ?_ (h := fun ν => acts_bin ν vt vt (r_lss rfl))
  refine nl ?_
  refine wi (fun c4 => ?_) (fun c4 => ?_)
  ·skip
   have c4P := of_decide_eq_true c4
   have hkL : k < L.length := by omega
   obtain ⟨hu, hud⟩ := hB.at hkL
   have hrow := hrl (gI L k).toNat (by omega)
   refine sk (sq (bkk (sq (rg (zm (zm (zm ?_)))))))
   refine z ?_ (h := fun ν => ix0 ν qF1_un_22 qF1_sz_3 vt (hlt := (by first | omega | assumption | exact hrl _ (by omega) | (rw [dL_len]; omega))))
   refine z ?_ (h := fun ν => lI ν qF1_ti_3 (by first | omega | assumption | exact hrl _ (by omega) | (rw [dL_len]; omega)))
   refine z ?_ (h := fun ν => xvv (k := (gI L k).toNat) ν qF1_un_56 qF1_sz_22 vt (Int.toNat_of_nonneg (by first | omega | assumption | exact hrl _ (by omega) | (rw [dL_len]; omega))).symm (hlt := (by simp only [vwI_len, vwD_len]; first | omega | assumption | exact hrl _ (by omega) | (rw [dL_len]; omega))))
   refine z ?_ (h := fun ν => lvI ν qF1_ti_22 (by first | omega | assumption | exact hrl _ (by omega) | (rw [dL_len]; omega)))
   refine za (nl (sq (rg (zk (nl (bkk ?_))))))
   refine wp_loop' (fun ((i, N) : Nat × (List Int)) => i ≤ (gLs M (gI L k).toNat).length ∧ BRd M t M.length L k i N) (fun ((i, N) : Nat × (List Int)) => [kV 0 (V.b (.a (.slvv 1 (vwI M)))), kS 5 13 0 ((dL M t M.length N).length), kS 7 27 0 N.length, kI 8 ((k : Nat) : Int), kV 9 (V.b (.a (.slv ((gLs M ((gI L k).toNat)).length) 1 (isl (gLs M ((gI L k).toNat)))))), kI 10 ((i : Nat) : Int), kO 13 3 1 true (pl (isl (dL M t M.length N))), kO 27 3 1 true (pl (isl N)), kF 12, kF 16, kF 30, kF 43, kF 74, kF 75]) (fun ((i, N) : Nat × (List Int)) => (gLs M (gI L k).toNat).length - i) ((0 : Nat), (L : List Int)) (by exact ⟨Nat.zero_le _, BRd.into hB hkL⟩) (wkf id (wS <| wS <| wS <| wS <| wS <| wE (e := (vint (by first | rfl | omega | exact hgo.2 | exact hgo.2.symm | (rw [hNk]; exact hgo.2) | (rw [hNk]; exact hgo.2.symm) | (simp; done)))) <| wP <| wP <| wF <| wF <| wF <| wF <| wF <| wF <| wN)) ?_
   rintro ⟨i, N⟩ inv5
   replace inv5 : i ≤ (gLs M (gI L k).toNat).length ∧ BRd M t M.length L k i N := inv5
   obtain ⟨hil, hN⟩ := inv5
   obtain ⟨hNk, hkN, hNl, hNd⟩ := hN.fact hB hkL
   have hdl2 := dL_len M t M.length N
   have hNd2 : gI (dL M t M.length N) (gI N k).toNat = dsD M t (gI L k) := by rw [hNk]; exact hNd
   refine sq (sq (rg (zm (zm ?_))))
   refine z ?_ (h := fun ν => lnV ν qF1_un_22)
   refine z ?_ (h := fun ν => acts_bin ν vt vt (r_lss rfl))
   refine nl ?_
   refine wi (fun c6 => ?_) (fun c6 => ?_)
   ·skip
    have c6P := of_decide_eq_true c6
    have hiL : i < (gLs M (gI L k).toNat).length := by omega
    have hw := BRd.w hR hu hiL
    have hneg := hN.neg hkL hw
    refine sk (sq (bkk (sq (rg (zm (zm (zm ?_)))))))
    refine z ?_ (h := fun ν => ixv ν qF1_un_22 qF1_sz_3 vt (hlt := (by first | omega | assumption | exact hrl _ (by omega) | (rw [dL_len]; omega))))
    refine z ?_ (h := fun ν => uI ν qF1_ti_3 (by first | omega | assumption | exact hrl _ (by omega) | (rw [dL_len]; omega)))
    refine z ?_ (h := fun ν => ix0 (k := (gI (gLs M ((gI L k).toNat)) i).toNat) ν qF1_un_22 qF1_sz_3 vt (Int.toNat_of_nonneg (by first | omega | assumption | exact hrl _ (by omega) | (rw [dL_len]; omega))).symm (by first | omega | assumption | exact hrl _ (by omega) | (rw [dL_len]; omega)))
    refine z ?_ (h := fun ν => lI ν qF1_ti_3 (by first | omega | assumption | exact hrl _ (by omega) | (rw [dL_len]; omega)))
    refine z ?_ (h := fun ν => acts_bin ν vt vc (r_lss rfl))
    refine nl ?_
    refine wi (fun c7 => ?_) (fun c7 => ?_)
    ·skip
     have c7P := of_decide_eq_true c7
     have hgo := BRd.go hB hkL hR hN hiL (hneg.1 (by first | assumption | exact of_decide_eq_true c7))
     have hsl2 := dL_len M t M.length (N ++ [(gI (gLs M (gI L k).toNat) i)])
     refine sq (wp_dr (zdm (zdm (zdm ?_))))
     refine zd ?_ (h := fun ν => ixv ν qF1_un_22 qF1_sz_3 vt (hlt := (by first | omega | assumption | exact hrl _ (by omega) | (rw [dL_len]; omega))))
     refine zd ?_ (h := fun ν => uI ν qF1_ti_3 (by first | omega | assumption | exact hrl _ (by omega) | (rw [dL_len]; omega)))
     refine zdm (zdm (zdm ?_))
     refine zd ?_ (h := fun ν => ix0 ν qF1_un_22 qF1_sz_3 vt (hlt := (by first | omega | assumption | exact hrl _ (by omega) | (rw [dL_len]; omega))))
     refine zd ?_ (h := fun ν => lI ν qF1_ti_3 (by first | omega | assumption | exact hrl _ (by omega) | (rw [dL_len]; omega)))
     refine zd ?_ (h := fun ν => ix0 (k := (gI N k).toNat) ν qF1_un_22 qF1_sz_3 vt (Int.toNat_of_nonneg (by first | omega | assumption | exact hrl _ (by omega) | (rw [dL_len]; omega))).symm (by first | omega | assumption | exact hrl _ (by omega) | (rw [dL_len]; omega)))
     refine zd ?_ (h := fun ν => lI ν qF1_ti_3 (by first | omega | assumption | exact hrl _ (by omega) | (rw [dL_len]; omega)))
     refine zd ?_ (h := fun ν => acts_bin ν vt vc (rA (by first | omega | assumption | exact hrl _ (by omega) | (rw [dL_len]; omega)) (by first | omega | assumption | exact hrl _ (by omega) | (rw [dL_len]; omega))))
     refine zd ?_ (h := fun ν => ix0 (k := (gI (gLs M ((gI L k).toNat)) i).toNat) ν qF1_un_22 qF1_sz_3 vt (Int.toNat_of_nonneg (by first | omega | assumption | exact hrl _ (by omega) | (rw [dL_len]; omega))).symm (by first | omega | assumption | exact hrl _ (by omega) | (rw [dL_len]; omega)))
     refine zd ?_ (h := fun _ => sI qF1_ti_3 xt (by first | omega | assumption | exact hrl _ (by omega) | (rw [dL_len]; omega)))
     refine dw_nil (rg (zm (zm (zm ?_))))
     refine z ?_ (h := fun ν => ixv ν qF1_un_22 qF1_sz_3 vt (hlt := (by first | omega | assumption | exact hrl _ (by omega) | (rw [dL_len]; omega))))
     refine z ?_ (h := fun ν => uI ν qF1_ti_3 (by first | omega | assumption | exact hrl _ (by omega) | (rw [dL_len]; omega)))
     refine z ?_ (h := fun ν => acts_buildSlice' (h := 74) (xs := isl ([(gI (gLs M ((gI L k).toNat)) i)] : List Int)) ν qF1_un_22 qF1_zi_3 (.cons vt OpVs.nil) (by decide) (by decide) (by kernel_rfl) rfl)
     refine z ?_ (h := fun ν => aI_ (h2 := 75) (L3 := (N ++ [(gI (gLs M ((gI L k).toNat)) i)])) ν qF1_un_22 qF1_zi_3 (by first | exact rfl | (simp; done) | (simp; omega) | omega) rfl (by first | exact rfl | (simp; done) | (simp; omega) | omega) (by first | omega | (simp; omega) | (simp at *; omega)))
     refine za (nl (rg (zm ?_)))
     refine z ?_ (h := fun ν => acts_bin ν vt vc (rA (by first | omega | assumption | exact hrl _ (by omega) | (rw [dL_len]; omega)) (by first | omega | assumption | exact hrl _ (by omega) | (rw [dL_len]; omega))))
     refine za (nl ?_)
     exact loop_back ((i + 1), (N ++ [(gI (gLs M (gI L k).toNat) i)])) (by first | exact ⟨by omega, hsk⟩ | exact ⟨by omega, hgo.1⟩) (by show (gLs M (gI L k).toNat).length - (i + 1) < (gLs M (gI L k).toNat).length - i; omega) (wkf (subst1 [(27, 75)]) (wS <| wE (e := (vsl (by first | rfl | (simp; done) | (simp; omega) | omega | (exact congrArg List.length (by first | rfl | omega | exact hgo.2 | exact hgo.2.symm | (rw [hNk]; exact hgo.2) | (rw [hNk]; exact hgo.2.symm) | (simp; done)))) rfl)) <| wE (e := (vsl (by first | rfl | (simp; done) | (simp; omega) | omega | (exact congrArg List.length (by first | rfl | omega | exact hgo.2 | exact hgo.2.symm | (rw [hNk]; exact hgo.2) | (rw [hNk]; exact hgo.2.symm) | (simp; done)))) rfl)) <| wS <| wS <| wE (e := (vint (by first | rfl | omega | exact hgo.2 | exact hgo.2.symm | (rw [hNk]; exact hgo.2) | (rw [hNk]; exact hgo.2.symm) | (simp; done)))) <| wO (e := renob_eq (fun h => h) (congrArg isl (by first | rfl | omega | exact hgo.2 | exact hgo.2.symm | (rw [hNk]; exact hgo.2) | (rw [hNk]; exact hgo.2.symm) | (simp; done)))) <| wO (e := renob_eq (fun h => h) (congrArg isl (by first | rfl | omega | exact hgo.2 | exact hgo.2.symm | (rw [hNk]; exact hgo.2) | (rw [hNk]; exact hgo.2.symm) | (simp; done)))) <| wF <| wF <| wF <| wF <| wF <| wF <| wN))
    ·skip
     have c7P := of_decide_eq_false c7
     have hsk := hN.skip hkL hiL (Classical.not_not.1 fun hn => absurd (hneg.2 hn) (by first | assumption | exact of_decide_eq_false c7))
     refine sk (rg (zm ?_))
     refine z ?_ (h := fun ν => acts_bin ν vt vc (rA (by first | omega | assumption | exact hrl _ (by omega) | (rw [dL_len]; omega)) (by first | omega | assumption | exact hrl _ (by omega) | (rw [dL_len]; omega))))
     refine za (nl ?_)
     exact loop_back ((i + 1), N) (by first | exact ⟨by omega, hsk⟩ | exact ⟨by omega, hgo.1⟩) (by show (gLs M (gI L k).toNat).length - (i + 1) < (gLs M (gI L k).toNat).length - i; omega) (wkf id (wS <| wS <| wS <| wS <| wS <| wE (e := (vint (by first | rfl | omega | exact hgo.2 | exact hgo.2.symm | (rw [hNk]; exact hgo.2) | (rw [hNk]; exact hgo.2.symm) | (simp; done)))) <| wP <| wP <| wF <| wF <| wF <| wF <| wF <| wF <| wN))
   ·skip
    have c6P := of_decide_eq_false c6
    refine wp_exit' (rg (zm ?_))
    refine z ?_ (h := fun ν => acts_bin ν vt vc (rA (by first | omega | assumption | exact hrl _ (by omega) | (rw [dL_len]; omega)) (by first | omega | assumption | exact hrl _ (by omega) | (rw [dL_len]; omega))))
    refine za (nl ?_)
    exact loop_back ((k + 1), N) (by exact BRd.out hB hkL hN (by omega)) (by show M.length - (k + 1) < M.length - k; omega) (wkf id (wS <| wS <| wS <| wE (e := (vint (by first | rfl | omega | exact rpl_init ht (by omega) | exact Eq.symm (rpl_init ht (by omega)) | (simp; done)))) <| wP <| wP <| wF <| wF <| wF <| wF <| wF <| wF <| wN))
  ·skip
   have c4P := of_decide_eq_false c4
   refine wp_exit' (sq (rg (zm (za (nl (wp_ret' ?_))))))
   exact VRes.tmp _ _ _ (by exact rfl) (brow_ints (h := 13) (L := (dL M t M.length L)) (by kernel_rfl) (by exact dL_fin hB (by omega)) (by first | rfl | (simp; done) | (simp; omega)))

end Cl
end Go.Proofs.YtgmkkfdnmdohlaaGreatDoor
