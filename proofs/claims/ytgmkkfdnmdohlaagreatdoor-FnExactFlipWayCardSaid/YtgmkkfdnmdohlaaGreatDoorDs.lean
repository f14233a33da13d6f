/- Walks over clean states, printed by wg.py. No statement is proved here. -/
import Derived.Test.YtgmkkfdnmdohlaaGreatDoorF1
import Derived.Test.YtgmkkfdnmdohlaaGreatDoorNb
import Derived.Test.YtgmkkfdnmdohlaaGreatDoorClB
set_option linter.unusedSimpArgs false
set_option linter.unusedVariables false
namespace Go.Proofs.YtgmkkfdnmdohlaaGreatDoor
namespace Cl
open Go.ChangeShapes Go.WideShapes Go.ChangeAt Go.RowKit
set_option maxRecDepth 20000

theorem dq_get {Lw L : List Int} {off k : Nat} (h : Lw.drop off = L.drop k) (h0 : off < Lw.length) : k < L.length ∧ gI Lw off = gI L k := by
  have e := congrArg List.length h
  simp only [List.length_drop] at e
  have hk : k < L.length := by omega
  refine ⟨hk, ?_⟩
  have e2 := congrArg (fun z : List Int => z[0]?) h
  simp only [List.getElem?_drop, Nat.add_zero] at e2
  rw [gI_eq h0, gI_eq hk]
  rw [List.getElem?_eq_getElem h0, List.getElem?_eq_getElem hk] at e2
  exact Option.some.inj e2
theorem dq_none {Lw L : List Int} {off k : Nat} (h : Lw.drop off = L.drop k) (h0 : ¬ off < Lw.length) : ¬ k < L.length := by
  have e := congrArg List.length h
  simp only [List.length_drop] at e
  omega
theorem dq_more {Lw L : List Int} {off k : Nat} (h : Lw.drop off = L.drop k) : Lw.drop (off + 1) = L.drop (k + 1) := by
  rw [← List.drop_drop, ← List.drop_drop, h]
theorem dq_app {Lw L : List Int} {off k : Nat} (h : Lw.drop off = L.drop k) (hk : k ≤ L.length) (w : Int) : (Lw.drop off ++ [w]).drop 0 = (L ++ [w]).drop k := by
  rw [List.drop_zero, List.drop_append_of_le_length hk, h]
theorem rm1_len (k : Nat) : (List.replicate k (-1 : Int)).length = k := List.length_replicate
theorem rm1_snoc (k : Nat) : List.replicate k (-1 : Int) ++ [(-1)] = List.replicate (k + 1) (-1) := (List.replicate_succ' (n := k) (a := (-1 : Int))).symm
theorem rm1_init {M : List (List Int)} {t : Int} {n k : Nat} (ht : 0 ≤ t ∧ t < (n : Int)) (hk : k = n) : (List.replicate k (-1)).set t.toNat 0 = dL M t n [t] := by
  have := rpl_init (M := M) ht hk
  subst hk
  unfold rpl at this
  rw [Nat.sub_self, List.replicate_zero, List.append_nil] at this
  exact this

theorem qDs_sz_22 : (Tryz.prog.info? 22).map (·.size) = some 1 := by kernel_rfl
theorem qDs_sz_3 : (Tryz.prog.info? 3).map (·.size) = some 1 := by kernel_rfl
theorem qDs_ti_22 : TI Tryz.prog 22 false 1 := ⟨⟨_, Tryz.underlying22, rfl⟩, by kernel_rfl⟩
theorem qDs_ti_3 : TI Tryz.prog 3 false 1 := ⟨⟨_, Tryz.underlying3, rfl⟩, by kernel_rfl⟩
theorem qDs_un_22 : Tryz.prog.underlying 22 = some (.slice 3) := Tryz.underlying22
theorem qDs_un_56 : Tryz.prog.underlying 56 = some (.slice 22) := Tryz.underlying56
theorem qDs_zi_3 : ZI Tryz.prog 3 (.int .i64 0) 1 8 := by unfold ZI; kernel_rfl
set_option maxHeartbeats 4000000 in
set_option maxRecDepth 100000 in
theorem impl_flipDistances_fn (M : List (List Int)) (t : Int) (hm : M.length ≤ 300) (hR : RowsIn M M.length) (hrl : ∀ k, k < M.length → (gLs M k).length ≤ 64) (ht : 0 ≤ t ∧ t < (M.length : Int)) : Fn Tryz.prog 39 [.a (.slvv 1 (vwI M)), .a (.val (.int .i64 t))] [.row 3 1 (dsM M t M.length).length (isl (dsM M t M.length))] := by
 have hdl0 := dL_len M t M.length [t]
 refine fn_intro (N := 60) Tryz.func39 rfl (by kernel_rfl) rfl (Nat.le_of_ble_eq_true rfl) [10, 12, 16, 17, 23, 25, 36, 56, 57] (ret1 rfl) (fun W => ?_)
 show Wp _ _ _ [kV 0 (V.b (.a (.slvv 1 (vwI M)))), kI 1 t, kF 10, kF 12, kF 16, kF 17, kF 23, kF 25, kF 36, kF 56, kF 57]
 refine sq (rg (zk (nl (sq (rg ?_)))))
 refine z ?_ (h := fun ν => b0I (h := 10) ν qDs_un_22 qDs_zi_3)
 refine za (nl (sq (sq (rg (zm ?_)))))
 refine z ?_ (h := fun ν => lnI ν qDs_un_56)
 refine z ?_ (h := fun ν => mc ν)
 refine nl (bkk ?_)
 refine wp_loop' (fun (k0 : Nat) => k0 ≤ M.length) (fun (k0 : Nat) => [kV 0 (V.b (.a (.slvv 1 (vwI M)))), kI 1 t, kS 5 10 0 ((List.replicate k0 (-1)).length), kI 12 ((M.length : Nat) : Int), kI 13 ((k0 : Nat) : Int), kO 10 3 1 true (pl (isl (List.replicate k0 (-1)))), kF 12, kF 16, kF 17, kF 23, kF 25, kF 36, kF 56, kF 57]) (fun (k0 : Nat) => M.length - k0) ((0 : Nat)) (by exact (Nat.zero_le _ : 0 ≤ _)) (wkf id (wS <| wS <| wE (e := (vsl (by first | rfl | (simp; done) | (simp; omega) | omega | (exact congrArg List.length (by first | rfl | omega | exact rm1_snoc _ | exact (rm1_snoc _).symm))) rfl)) <| wS <| wE (e := (vint (by first | rfl | omega | exact rm1_snoc _ | exact (rm1_snoc _).symm))) <| wO (e := renob_eq (fun h => h) (congrArg isl (by first | rfl | omega | exact rm1_snoc _ | exact (rm1_snoc _).symm))) <| wF <| wF <| wF <| wF <| wF <| wF <| wF <| wF <| wN)) ?_
 rintro k0 inv1
 replace inv1 : k0 ≤ M.length := inv1
 have hk0 := inv1
 have hrl0 := rm1_len k0
 refine sq (rg ?_)
 refine z ?_ (h := fun ν => acts_bin ν vt vt (r_lss rfl))
 refine nl (sq ?_)
 refine wi (fun c2 => ?_) (fun c2 => ?_)
 ·skip
  have c2P := of_decide_eq_true c2
  refine sk (sq (bkk (rg (zm ?_))))
  refine z ?_ (h := fun ν => acts_buildSlice' (h := 16) (xs := isl ([(-1)] : List Int)) ν qDs_un_22 qDs_zi_3 (.cons vc OpVs.nil) (by decide) (by decide) (by kernel_rfl) rfl)
  refine z ?_ (h := fun ν => aI_ (h2 := 17) (L3 := ((List.replicate k0 (-1)) ++ [(-1)])) ν qDs_un_22 qDs_zi_3 (by first | exact rfl | (simp; done) | (simp; omega) | omega) rfl (by first | exact rfl | (simp; done) | (simp; omega) | omega) (by first | omega | (simp; omega) | (simp at *; omega)))
  refine za (nl (rg ?_))
  refine z ?_ (h := fun ν => acts_bin ν vt vc (rA (by first | omega | assumption | exact hrl _ (by omega) | (rw [dL_len]; omega) | (rw [rm1_len]; omega) | (simp only [List.length_append, List.length_drop, List.length_cons, List.length_nil]; omega)) (by first | omega | assumption | exact hrl _ (by omega) | (rw [dL_len]; omega) | (rw [rm1_len]; omega) | (simp only [List.length_append, List.length_drop, List.length_cons, List.length_nil]; omega))))
  refine zm (nl ?_)
  exact loop_back ((k0 + 1)) (by show _ ≤ _; omega) (by show M.length - (k0 + 1) < M.length - k0; omega) (wkf (subst1 [(10, 17)]) (wS <| wS <| wE (e := (vsl (by first | rfl | (simp; done) | (simp; omega) | omega | (exact congrArg List.length (by first | rfl | omega | exact rm1_snoc _ | exact (rm1_snoc _).symm))) rfl)) <| wS <| wE (e := (vint (by first | rfl | omega | exact rm1_snoc _ | exact (rm1_snoc _).symm))) <| wO (e := renob_eq (fun h => h) (congrArg isl (by first | rfl | omega | exact rm1_snoc _ | exact (rm1_snoc _).symm))) <| wF <| wF <| wF <| wF <| wF <| wF <| wF <| wF <| wN))
 ·skip
  have c2P := of_decide_eq_false c2
  refine wp_exit' (sq (rg (zm (zm ?_))))
  refine z ?_ (h := fun ν => ix0 (k := t.toNat) ν qDs_un_22 qDs_sz_3 vt (Int.toNat_of_nonneg (by first | omega | assumption | exact hrl _ (by omega) | (rw [dL_len]; omega) | (rw [rm1_len]; omega) | (simp only [List.length_append, List.length_drop, List.length_cons, List.length_nil]; omega))).symm (by first | omega | assumption | exact hrl _ (by omega) | (rw [dL_len]; omega) | (rw [rm1_len]; omega) | (simp only [List.length_append, List.length_drop, List.length_cons, List.length_nil]; omega)))
  refine z ?_ (h := fun _ => sI qDs_ti_3 xc (by first | omega | assumption | exact hrl _ (by omega) | (rw [dL_len]; omega) | (rw [rm1_len]; omega) | (simp only [List.length_append, List.length_drop, List.length_cons, List.length_nil]; omega)))
  refine nl (sq (sq (rg (zm ?_))))
  refine z ?_ (h := fun ν => acts_buildSlice' (h := 23) (xs := isl ([t] : List Int)) ν qDs_un_22 qDs_zi_3 (.cons vt OpVs.nil) (by decide) (by decide) (by kernel_rfl) rfl)
  refine za (nl (bkk ?_))
  refine wp_loop' (fun ((k, off, L, Lw) : Nat × Nat × (List Int) × (List Int)) => off ≤ Lw.length ∧ Lw.drop off = L.drop k ∧ BInv M t M.length L k) (fun ((k, off, L, Lw) : Nat × Nat × (List Int) × (List Int)) => [kV 0 (V.b (.a (.slvv 1 (vwI M)))), kS 5 10 0 ((dL M t M.length L).length), kS 6 23 off (Lw.length - off), kO 10 3 1 true (pl (isl (dL M t M.length L))), kO 23 3 1 false (pl (isl Lw)), kF 12, kF 16, kF 17, kF 25, kF 36, kF 56, kF 57]) (fun ((k, off, L, Lw) : Nat × Nat × (List Int) × (List Int)) => M.length - k) ((0 : Nat), (0 : Nat), ([t] : List Int), ([t] : List Int)) (by exact ⟨Nat.zero_le _, rfl, BInv.init ht⟩) (wkf id (wS <| wE (e := (vsl (by first | rfl | (simp; done) | (simp; omega) | omega | (exact congrArg List.length (by first | rfl | omega | exact rm1_init ht (by omega) | exact Eq.symm (rm1_init ht (by omega))))) rfl)) <| wE (e := (vsl (by first | rfl | (simp; done) | (simp; omega) | omega | (exact congrArg List.length (by first | rfl | omega | exact rm1_init ht (by omega) | exact Eq.symm (rm1_init ht (by omega))))) rfl)) <| wO (e := renob_eq (fun h => h) (congrArg isl (by first | rfl | omega | exact rm1_init ht (by omega) | exact Eq.symm (rm1_init ht (by omega))))) <| wO (e := renob_pl (fun h => by cases h)) <| wF <| wF <| wF <| wF <| wF <| wF <| wF <| wN)) ?_
  rintro ⟨k, off, L, Lw⟩ inv3
  replace inv3 : off ≤ Lw.length ∧ Lw.drop off = L.drop k ∧ BInv M t M.length L k := inv3
  obtain ⟨hof, hdr, hB⟩ := inv3
  have hBl := hB.len
  have hdl := dL_len M t M.length L
  have hdrl := congrArg List.length hdr
  simp only [List.length_drop] at hdrl
  refine sq (sq (rg (zm ?_)))
  refine z ?_ (h := fun ν => lnS ν qDs_un_22)
  refine z ?_ (h := fun ν => acts_bin ν vt vc (r_gtr rfl))
  refine nl ?_
  refine wi (fun c4 => ?_) (fun c4 => ?_)
  ·skip
   have c4P := of_decide_eq_true c4
   obtain ⟨hkL, hown1⟩ := dq_get hdr (by omega)
   obtain ⟨hu, hud⟩ := hB.at hkL
   rw [← hown1] at hu hud
   have hrow := hrl (gI Lw off).toNat (by omega)
   refine sk (bkk (sq (rg (zm ?_))))
   refine z ?_ (h := fun ν => ixz ν qDs_un_22 qDs_sz_3 vc (by first | omega | assumption | exact hrl _ (by omega) | (rw [dL_len]; omega) | (rw [rm1_len]; omega) | (simp only [List.length_append, List.length_drop, List.length_cons, List.length_nil]; omega)))
   refine z ?_ (h := fun ν => lI ν qDs_ti_3 (by first | omega | assumption | exact hrl _ (by omega) | (rw [dL_len]; omega) | (rw [rm1_len]; omega) | (simp only [List.length_append, List.length_drop, List.length_cons, List.length_nil]; omega)))
   refine za (nl (sq (rg (zm ?_))))
   refine z ?_ (h := fun ν => slS (m := ((Lw.length - off) - 1)) (off' := (off + 1)) ν qDs_un_22 qDs_sz_3 (OpB.so _ 1 vc rfl) (OpB.no _) (by first | omega | assumption | exact hrl _ (by omega) | (rw [dL_len]; omega) | (rw [rm1_len]; omega) | (simp only [List.length_append, List.length_drop, List.length_cons, List.length_nil]; omega)) (by first | omega | assumption | exact hrl _ (by omega) | (rw [dL_len]; omega) | (rw [rm1_len]; omega) | (simp only [List.length_append, List.length_drop, List.length_cons, List.length_nil]; omega)) (by exact rfl) (by omega))
   refine za (nl (sq (rg (zm (zm ?_)))))
   refine z ?_ (h := fun ν => xvv (k := (gI Lw off).toNat) ν qDs_un_56 qDs_sz_22 vt (Int.toNat_of_nonneg (by first | omega | assumption | exact hrl _ (by omega) | (rw [dL_len]; omega) | (rw [rm1_len]; omega) | (simp only [List.length_append, List.length_drop, List.length_cons, List.length_nil]; omega))).symm (hlt := (by simp only [vwI_len, vwD_len]; first | omega | assumption | exact hrl _ (by omega) | (rw [dL_len]; omega) | (rw [rm1_len]; omega) | (simp only [List.length_append, List.length_drop, List.length_cons, List.length_nil]; omega))))
   refine z ?_ (h := fun ν => lvI ν qDs_ti_22 (by first | omega | assumption | exact hrl _ (by omega) | (rw [dL_len]; omega) | (rw [rm1_len]; omega) | (simp only [List.length_append, List.length_drop, List.length_cons, List.length_nil]; omega)))
   refine z ?_ (h := fun ν => lnV ν qDs_un_22)
   refine z ?_ (h := fun ν => mc ν)
   refine nl (bkk ?_)
   refine wp_loop' (fun ((i, off2, N, Lw2) : Nat × Nat × (List Int) × (List Int)) => i ≤ (gLs M (gI Lw off).toNat).length ∧ off2 ≤ Lw2.length ∧ Lw2.drop off2 = N.drop (k + 1) ∧ BRd M t M.length L k i N) (fun ((i, off2, N, Lw2) : Nat × Nat × (List Int) × (List Int)) => [kV 0 (V.b (.a (.slvv 1 (vwI M)))), kS 5 10 0 ((dL M t M.length N).length), kS 6 23 off2 (Lw2.length - off2), kI 7 (gI Lw off), kV 35 (V.b (.a (.slv ((gLs M ((gI Lw off).toNat)).length) 1 (isl (gLs M ((gI Lw off).toNat)))))), kI 36 (((gLs M ((gI Lw off).toNat)).length : Nat) : Int), kI 37 ((i : Nat) : Int), kO 10 3 1 true (pl (isl (dL M t M.length N))), kO 23 3 1 false (pl (isl Lw2)), kF 12, kF 16, kF 17, kF 25, kF 36, kF 56, kF 57]) (fun ((i, off2, N, Lw2) : Nat × Nat × (List Int) × (List Int)) => (gLs M (gI Lw off).toNat).length - i) ((0 : Nat), ((off + 1) : Nat), (L : List Int), (Lw : List Int)) (by exact ⟨Nat.zero_le _, by omega, dq_more hdr, BRd.into hB hkL⟩) (wkf id (wS <| wS <| wE (e := (vsl (by first | rfl | (simp; done) | (simp; omega) | omega | (exact congrArg List.length (by first | rfl | omega | exact hgo.2 | exact hgo.2.symm | (simp; done) | (simp; omega)))) rfl)) <| wS <| wS <| wS <| wE (e := (vint (by first | rfl | omega | exact hgo.2 | exact hgo.2.symm | (simp; done) | (simp; omega)))) <| wP <| wP <| wF <| wF <| wF <| wF <| wF <| wF <| wF <| wN)) ?_
   rintro ⟨i, off2, N, Lw2⟩ inv5
   replace inv5 : i ≤ (gLs M (gI Lw off).toNat).length ∧ off2 ≤ Lw2.length ∧ Lw2.drop off2 = N.drop (k + 1) ∧ BRd M t M.length L k i N := inv5
   obtain ⟨hil, hof2, hdr2, hN⟩ := inv5
   obtain ⟨hNk, hkN, hNl, hNd⟩ := hN.fact hB hkL
   rw [← hown1] at hNd
   have hdl2 := dL_len M t M.length N
   have hdr3 := congrArg List.length hdr2
   simp only [List.length_drop] at hdr3
   refine sq (rg ?_)
   refine z ?_ (h := fun ν => acts_bin ν vt vt (r_lss rfl))
   refine nl (sq ?_)
   refine wi (fun c6 => ?_) (fun c6 => ?_)
   ·skip
    have c6P := of_decide_eq_true c6
    have hiL : i < (gLs M (gI Lw off).toNat).length := by omega
    have hw := BRd.w (k := k) (L := L) (i := i) hR (by rw [← hown1]; exact hu) (by rw [← hown1]; exact hiL)
    rw [← hown1] at hw
    have hneg := hN.neg hkL hw
    refine sk (sq (bkk (sq (rg ?_))))
    refine z ?_ (h := fun ν => ixv ν qDs_un_22 qDs_sz_3 vt (hlt := (by first | omega | assumption | exact hrl _ (by omega) | (rw [dL_len]; omega) | (rw [rm1_len]; omega) | (simp only [List.length_append, List.length_drop, List.length_cons, List.length_nil]; omega))))
    refine z ?_ (h := fun ν => uI ν qDs_ti_3 (by first | omega | assumption | exact hrl _ (by omega) | (rw [dL_len]; omega) | (rw [rm1_len]; omega) | (simp only [List.length_append, List.length_drop, List.length_cons, List.length_nil]; omega)))
    refine za (nl (sq (rg (zm (zm ?_)))))
    refine z ?_ (h := fun ν => ix0 (k := (gI (gLs M ((gI Lw off).toNat)) i).toNat) ν qDs_un_22 qDs_sz_3 vt (Int.toNat_of_nonneg (by first | omega | assumption | exact hrl _ (by omega) | (rw [dL_len]; omega) | (rw [rm1_len]; omega) | (simp only [List.length_append, List.length_drop, List.length_cons, List.length_nil]; omega))).symm (by first | omega | assumption | exact hrl _ (by omega) | (rw [dL_len]; omega) | (rw [rm1_len]; omega) | (simp only [List.length_append, List.length_drop, List.length_cons, List.length_nil]; omega)))
    refine z ?_ (h := fun ν => lI ν qDs_ti_3 (by first | omega | assumption | exact hrl _ (by omega) | (rw [dL_len]; omega) | (rw [rm1_len]; omega) | (simp only [List.length_append, List.length_drop, List.length_cons, List.length_nil]; omega)))
    refine z ?_ (h := fun ν => acts_bin ν vt vc (r_lss rfl))
    refine nl ?_
    refine wi (fun c7 => ?_) (fun c7 => ?_)
    ·skip
     have c7P := of_decide_eq_true c7
     have hgo := BRd.go hB hkL hR hN (by rw [← hown1]; exact hiL) (by rw [← hown1]; exact hneg.1 (by first | assumption | exact of_decide_eq_true c7))
     rw [← hown1] at hgo
     have hsl2 := dL_len M t M.length (N ++ [(gI (gLs M (gI Lw off).toNat) i)])
     refine sq (rg (zm (zm (zm (zm ?_)))))
     refine z ?_ (h := fun ν => ix0 (k := (gI Lw off).toNat) ν qDs_un_22 qDs_sz_3 vt (Int.toNat_of_nonneg (by first | omega | assumption | exact hrl _ (by omega) | (rw [dL_len]; omega) | (rw [rm1_len]; omega) | (simp only [List.length_append, List.length_drop, List.length_cons, List.length_nil]; omega))).symm (by first | omega | assumption | exact hrl _ (by omega) | (rw [dL_len]; omega) | (rw [rm1_len]; omega) | (simp only [List.length_append, List.length_drop, List.length_cons, List.length_nil]; omega)))
     refine z ?_ (h := fun ν => lI ν qDs_ti_3 (by first | omega | assumption | exact hrl _ (by omega) | (rw [dL_len]; omega) | (rw [rm1_len]; omega) | (simp only [List.length_append, List.length_drop, List.length_cons, List.length_nil]; omega)))
     refine z ?_ (h := fun ν => acts_bin ν vt vc (rA (by first | omega | assumption | exact hrl _ (by omega) | (rw [dL_len]; omega) | (rw [rm1_len]; omega) | (simp only [List.length_append, List.length_drop, List.length_cons, List.length_nil]; omega)) (by first | omega | assumption | exact hrl _ (by omega) | (rw [dL_len]; omega) | (rw [rm1_len]; omega) | (simp only [List.length_append, List.length_drop, List.length_cons, List.length_nil]; omega))))
     refine z ?_ (h := fun ν => ix0 (k := (gI (gLs M ((gI Lw off).toNat)) i).toNat) ν qDs_un_22 qDs_sz_3 vt (Int.toNat_of_nonneg (by first | omega | assumption | exact hrl _ (by omega) | (rw [dL_len]; omega) | (rw [rm1_len]; omega) | (simp only [List.length_append, List.length_drop, List.length_cons, List.length_nil]; omega))).symm (by first | omega | assumption | exact hrl _ (by omega) | (rw [dL_len]; omega) | (rw [rm1_len]; omega) | (simp only [List.length_append, List.length_drop, List.length_cons, List.length_nil]; omega)))
     refine z ?_ (h := fun _ => sI qDs_ti_3 xt (by first | omega | assumption | exact hrl _ (by omega) | (rw [dL_len]; omega) | (rw [rm1_len]; omega) | (simp only [List.length_append, List.length_drop, List.length_cons, List.length_nil]; omega)))
     refine nl (rg (zm (zm ?_)))
     refine z ?_ (h := fun ν => acts_buildSlice' (h := 56) (xs := isl ([(gI (gLs M ((gI Lw off).toNat)) i)] : List Int)) ν qDs_un_22 qDs_zi_3 (.cons vt OpVs.nil) (by decide) (by decide) (by kernel_rfl) rfl)
     refine z ?_ (h := fun ν => acts_app_ints (h2 := 57) (m := 1) (nm := ((Lw2.drop off2 ++ [(gI (gLs M ((gI Lw off).toNat)) i)]).length)) (X := .sl 56 0 1) (L := Lw2) (L2 := [(gI (gLs M ((gI Lw off).toNat)) i)]) ν qDs_un_22 qDs_zi_3 (by first | omega | (simp; omega)) xt (src_own (h := 56) (T := 3) (s := 1) (ex := true) (n := 1) (by first | exact isl_len _ | (simp [isl_len, bsl_len, dsl_len, csl_len]; done) | (simp [isl_len, bsl_len, dsl_len, csl_len]; omega))) (by first | omega | (simp; omega) | (simp at *; omega)) (by first | (simp; done) | (simp; omega) | omega))
     refine za (nl (rg ?_))
     refine z ?_ (h := fun ν => acts_bin ν vt vc (rA (by first | omega | assumption | exact hrl _ (by omega) | (rw [dL_len]; omega) | (rw [rm1_len]; omega) | (simp only [List.length_append, List.length_drop, List.length_cons, List.length_nil]; omega)) (by first | omega | assumption | exact hrl _ (by omega) | (rw [dL_len]; omega) | (rw [rm1_len]; omega) | (simp only [List.length_append, List.length_drop, List.length_cons, List.length_nil]; omega))))
     refine zm (nl ?_)
     exact loop_back ((i + 1), 0, (N ++ [(gI (gLs M (gI Lw off).toNat) i)]), (Lw2.drop off2 ++ [(gI (gLs M ((gI Lw off).toNat)) i)])) (by first | exact ⟨by omega, by assumption, by assumption, hsk⟩ | exact ⟨by omega, Nat.zero_le _, dq_app hdr2 (by omega) _, hgo.1⟩) (by show (gLs M (gI Lw off).toNat).length - (i + 1) < (gLs M (gI Lw off).toNat).length - i; omega) (wkf (subst1 [(23, 57)]) (wS <| wE (e := (vsl (by first | rfl | (simp; done) | (simp; omega) | omega | (exact congrArg List.length (by first | rfl | omega | exact hgo.2 | exact hgo.2.symm | (simp; done) | (simp; omega)))) rfl)) <| wE (e := (vsl (by first | rfl | (simp; done) | (simp; omega) | omega | (exact congrArg List.length (by first | rfl | omega | exact hgo.2 | exact hgo.2.symm | (simp; done) | (simp; omega)))) rfl)) <| wS <| wS <| wS <| wE (e := (vint (by first | rfl | omega | exact hgo.2 | exact hgo.2.symm | (simp; done) | (simp; omega)))) <| wO (e := renob_eq (fun h => h) (congrArg isl (by first | rfl | omega | exact hgo.2 | exact hgo.2.symm | (simp; done) | (simp; omega)))) <| wP <| wF <| wF <| wF <| wF <| wF <| wF <| wF <| wN))
    ·skip
     have c7P := of_decide_eq_false c7
     have hsk := hN.skip hkL (by rw [← hown1]; exact hiL) (by rw [← hown1]; exact Classical.not_not.1 fun hn => absurd (hneg.2 hn) (by first | assumption | exact of_decide_eq_false c7))
     refine sk (rg ?_)
     refine z ?_ (h := fun ν => acts_bin ν vt vc (rA (by first | omega | assumption | exact hrl _ (by omega) | (rw [dL_len]; omega) | (rw [rm1_len]; omega) | (simp only [List.length_append, List.length_drop, List.length_cons, List.length_nil]; omega)) (by first | omega | assumption | exact hrl _ (by omega) | (rw [dL_len]; omega) | (rw [rm1_len]; omega) | (simp only [List.length_append, List.length_drop, List.length_cons, List.length_nil]; omega))))
     refine zm (nl ?_)
     exact loop_back ((i + 1), off2, N, Lw2) (by first | exact ⟨by omega, by assumption, by assumption, hsk⟩ | exact ⟨by omega, Nat.zero_le _, dq_app hdr2 (by omega) _, hgo.1⟩) (by show (gLs M (gI Lw off).toNat).length - (i + 1) < (gLs M (gI Lw off).toNat).length - i; omega) (wkf id (wS <| wS <| wS <| wS <| wS <| wS <| wE (e := (vint (by first | rfl | omega | exact hgo.2 | exact hgo.2.symm | (simp; done) | (simp; omega)))) <| wP <| wP <| wF <| wF <| wF <| wF <| wF <| wF <| wF <| wN))
   ·skip
    have c6P := of_decide_eq_false c6
    have hout := hN.out hB hkL (by rw [← hown1]; omega)
    refine wp_exit' ?_
    exact Exists.intro ((k + 1), off2, N, Lw2) (And.intro (by exact ⟨by assumption, by assumption, hout⟩) (And.intro (by show M.length - (k + 1) < M.length - k; omega) (wkf id (wS <| wS <| wS <| wP <| wP <| wF <| wF <| wF <| wF <| wF <| wF <| wF <| wN))))
  ·skip
   have c4P := of_decide_eq_false c4
   have hend := dq_none hdr (by omega)
   refine wp_exit' (sq (rg (zm (za (nl (wp_ret' ?_))))))
   exact VRes.tmp _ _ _ (by exact rfl) (brow_ints (h := 10) (L := (dL M t M.length L)) (by kernel_rfl) (by exact dL_fin hB hend) (by first | rfl | (simp; done) | (simp; omega)))
end Cl
end Go.Proofs.YtgmkkfdnmdohlaaGreatDoor
