/- Walks over clean states, printed by wg.py. No statement is proved here. -/
import Derived.Test.YtjgimiicfekcpaaC32
import Derived.Test.YtjgimiicfekcpaaCl19
namespace Go.Proofs.Ytjgimiicfekcpaa
namespace Cl
open Go.ChangeShapes Go.WideShapes Go.ChangeAt Go.RowKit

theorem tfOk_p {l h : List Int} (e : (decide ((h.length : Int) ≠ 81) || !regOk l) = true) : tfOk l h = false := tfOk_o (by rw [Bool.or_comm]; exact e)

theorem qC33_fo_48_2 : fieldOff Try.prog 48 2 = some 2 := by kernel_rfl
theorem qC33_fo_52_0 : fieldOff Try.prog 52 0 = some 0 := by kernel_rfl
theorem qC33_fo_52_1 : fieldOff Try.prog 52 1 = some 1 := by kernel_rfl
theorem qC33_sz_3 : (Try.prog.info? 3).map (·.size) = some 1 := by kernel_rfl
theorem qC33_sz_52 : (Try.prog.info? 52).map (·.size) = some 2 := by kernel_rfl
theorem qC33_ti_29 : TI Try.prog 29 true 1 := ⟨⟨_, Try.underlying29, rfl⟩, by kernel_rfl⟩
theorem qC33_ti_3 : TI Try.prog 3 false 1 := ⟨⟨_, Try.underlying3, rfl⟩, by kernel_rfl⟩
theorem qC33_ti_4 : TI Try.prog 4 false 1 := ⟨⟨_, Try.underlying4, rfl⟩, by kernel_rfl⟩
theorem qC33_ti_48 : TI Try.prog 48 true 3 := ⟨⟨_, Try.underlying48, rfl⟩, by kernel_rfl⟩
theorem qC33_ti_52 : TI Try.prog 52 true 2 := ⟨⟨_, Try.underlying52, rfl⟩, by kernel_rfl⟩
theorem qC33_un_22 : Try.prog.underlying 22 = some (.slice 3) := Try.underlying22
theorem qC33_un_26 : Try.prog.underlying 26 = some (.slice 48) := Try.underlying26
theorem qC33_un_45 : Try.prog.underlying 45 = some (.slice 52) := Try.underlying45
theorem qC33_zi_48 : ZI Try.prog 48 (.agg #[.int .i64 0, .int .i64 0, .bool false]) 3 24 := by unfold ZI; kernel_rfl
theorem qC33_zi_52 : ZI Try.prog 52 (.agg #[.int .i64 0, .int .i64 0]) 2 16 := by unfold ZI; kernel_rfl
set_option maxHeartbeats 4000000 in
set_option maxRecDepth 100000 in
theorem spec_TilingFrom_fn (l h : List Int) (hl : l.length ≤ 4194304) (hh : h.length ≤ 4194304) : Fn Try.prog 7 [.agg [(.slv l.length 1 (isl l) : A)], .a (.slv h.length 1 (isl h))] [.row 48 3 (tilF l h).length (dsl (tilF l h)), .val (.bool (tfOk l h))] := by
 have h64 := cellsOf_len l
 refine fn_intro (N := 118) Try.func7 rfl (by kernel_rfl) rfl (Nat.le_of_ble_eq_true rfl) [2, 12, 14, 17, 19, 26, 30, 32, 35, 53, 59, 106, 107, 109, 112, 114] (ret2 rfl rfl (by intro u hu; injection hu with hu; subst hu; rfl)) (fun W => ?_)
 show Wp _ _ _ [kV 0 (V.b (.agg [(.slv l.length 1 (isl l) : A)])), kV 1 (V.b (.a (.slv h.length 1 (isl h)))), kF 2, kF 12, kF 14, kF 17, kF 19, kF 26, kF 30, kF 32, kF 35, kF 53, kF 59, kF 106, kF 107, kF 109, kF 112, kF 114]
 refine sq (rg ?_)
 refine z ?_ (h := fun ν => acts_box (h := 2) ν xt (by exact ob1 rfl))
 refine zk (zk (nl (sq (rg ?_))))
 refine z ?_ (h := fun ν => b0D (h := 17) ν qC33_un_26 qC33_zi_48)
 refine za (nl (sq (rg (zk (nl (sq (sq ?_)))))))
 refine wp_join [kB 28 ((decide (((h.length : Nat) : Int) ≠ 81)) || (!(regOk l))), kV 1 (V.b (.a (.slv h.length 1 (isl h)))), kP 2 2 0, kS 6 17 0 0, kI 7 9, kO 2 29 1 true [(.slv l.length 1 (isl l) : A)], kO 17 48 3 true (pl (dsl [])), kF 12, kF 14, kF 19, kF 26, kF 30, kF 32, kF 35, kF 53, kF 59, kF 106, kF 107, kF 109, kF 112, kF 114] ?_ ?_
 ·skip
  rcases Bool.eq_false_or_eq_true (decide (((h.length : Nat) : Int) ≠ 81)) with c1 | c1
  ·skip
   have c1P := of_decide_eq_true c1
   refine rg (zm ?_)
   refine z ?_ (h := fun ν => lnV ν qC33_un_22)
   refine zm (zm ?_)
   refine z ?_ (h := fun ν => acts_bin ν vt vt (r_mul (c := 81) (by exact w64 (by first | omega | assumption | exact nbr_okD (by assumption) | (have := spL_len (cellsOf l) h (k := k) (by omega); omega) | (have q1 : (sortD (spL (cellsOf l) h k)).length ≤ (spL (cellsOf l) h k).length := sortBy_len _; have q2 := hts_len l (sortD (spL (cellsOf l) h k)); omega)) (by first | omega | assumption | exact nbr_okD (by assumption) | (have := spL_len (cellsOf l) h (k := k) (by omega); omega) | (have q1 : (sortD (spL (cellsOf l) h k)).length ≤ (spL (cellsOf l) h k).length := sortBy_len _; have q2 := hts_len l (sortD (spL (cellsOf l) h k)); omega)))))
   refine z ?_ (h := fun ν => acts_bin ν vt vt (r_neq (c := true) c1))
   refine zm (zo (zo (zo ?_)))
   refine z ?_ (h := fun ν => acts_pick_t ν vt xc)
   refine nl ?_
   exact ⟨rfl, weak_reads ⟨(by simp only [c1]; first | done | kernel_rfl), (by repeat (first | exact trivial | refine ⟨by kernel_rfl, ?_⟩))⟩⟩
  ·skip
   have c1P := of_decide_eq_false c1
   refine rg (zm ?_)
   refine z ?_ (h := fun ν => lnV ν qC33_un_22)
   refine zm (zm ?_)
   refine z ?_ (h := fun ν => acts_bin ν vt vt (r_mul (c := 81) (by exact w64 (by first | omega | assumption | exact nbr_okD (by assumption) | (have := spL_len (cellsOf l) h (k := k) (by omega); omega) | (have q1 : (sortD (spL (cellsOf l) h k)).length ≤ (spL (cellsOf l) h k).length := sortBy_len _; have q2 := hts_len l (sortD (spL (cellsOf l) h k)); omega)) (by first | omega | assumption | exact nbr_okD (by assumption) | (have := spL_len (cellsOf l) h (k := k) (by omega); omega) | (have q1 : (sortD (spL (cellsOf l) h k)).length ≤ (spL (cellsOf l) h k).length := sortBy_len _; have q2 := hts_len l (sortD (spL (cellsOf l) h k)); omega)))))
   refine z ?_ (h := fun ν => acts_bin ν vt vt (r_neq (c := false) c1))
   refine zm ?_
   refine zg ?_ (h := fun ν => step_on rfl rfl (acts_load_owns (xs := [(.slv l.length 1 (isl l) : A)]) ν qC33_ti_29 rfl (by decide) rfl))
   refine zg ?_ (h := fun ν => step_on rfl rfl (acts_call1 ν (spec_RegionOk_fn l (by first | omega | assumption | exact nbr_okD (by assumption) | (have := spL_len (cellsOf l) h (k := k) (by omega); omega) | (have q1 : (sortD (spL (cellsOf l) h k)).length ≤ (spL (cellsOf l) h k).length := sortBy_len _; have q2 := hts_len l (sortD (spL (cellsOf l) h k)); omega))) (ac (ArgV.regv _ _ 1 _) an) rv))
   refine zg ?_ (h := fun ν => step_on rfl rfl (acts_un ν vt (r_not rfl)))
   refine z ?_ (h := fun ν => acts_pick_f ν vt xt)
   refine nl ?_
   exact ⟨rfl, weak_reads ⟨(by simp only [c1]; first | done | kernel_rfl), (by repeat (first | exact trivial | refine ⟨by kernel_rfl, ?_⟩))⟩⟩
 refine wi (b := ((decide (((h.length : Nat) : Int) ≠ 81)) || (!(regOk l)))) (fun c2 => ?_) (fun c2 => ?_)
 ·skip
  have c3 := or_tt c2
  refine sq (rg (zm (za (zk (nl (wp_ret' ?_))))))
  exact ⟨VRes.tmp _ _ _ (by exact rfl) (brow_doms (h := 17) (L := []) (by kernel_rfl) (by first | exact tilF_no (tfOk_p (by assumption)) | exact (tilF_no (tfOk_p (by assumption))).symm | exact (tfOk_p (by assumption)).symm) (by first | rfl | (simp; done) | (simp; omega))), VRes.tmp _ _ _ (by exact rfl) (bval (congrArg Value.bool (by first | exact tilF_no (tfOk_p (by assumption)) | exact (tilF_no (tfOk_p (by assumption))).symm | exact (tfOk_p (by assumption)).symm)))⟩
 ·skip
  obtain ⟨c4, c5⟩ := or_ff c2
  have c4P := of_decide_eq_false c4
  have c6 : (regOk l) = true := by first | simpa using c5 | (rw [← Bool.not_eq_false']; exact c5)
  have hro : regOk l = true := c6
  refine sk (sq (rg ?_))
  refine z ?_ (h := fun ν => b0D (h := 30) ν qC33_un_26 qC33_zi_48)
  refine za (nl (sq (rg ?_)))
  refine z ?_ (h := fun ν => acts_load_owns (xs := [(.slv l.length 1 (isl l) : A)]) ν qC33_ti_29 rfl (by decide) rfl)
  refine z ?_ (h := fun ν => acts_call1 ν (spec_CellsOf_fn l (by first | omega | assumption | exact nbr_okD (by assumption) | (have := spL_len (cellsOf l) h (k := k) (by omega); omega) | (have q1 : (sortD (spL (cellsOf l) h k)).length ≤ (spL (cellsOf l) h k).length := sortBy_len _; have q2 := hts_len l (sortD (spL (cellsOf l) h k)); omega))) (ac (ArgV.regv _ _ 1 _) an) (ResV.row _ _ _ _ 32))
  refine za (nl (sq (sq (rg (zk (nl (bkk ?_)))))))
  refine wp_loop' (fun (k : Nat) => k ≤ (cellsOf l).length) (fun (k : Nat) => [kV 1 (V.b (.a (.slv h.length 1 (isl h)))), kP 2 2 0, kS 6 17 0 0, kI 7 9, kS 8 30 0 ((spL (cellsOf l) h k).length), kS 9 32 0 ((cellsOf l).length), kI 10 ((k : Nat) : Int), kO 2 29 1 true [(.slv l.length 1 (isl l) : A)], kO 17 48 3 true (pl (dsl [])), kO 30 48 3 true (pl (dsl (spL (cellsOf l) h k))), kO 32 52 2 true (pl (csl (cellsOf l))), kF 12, kF 14, kF 19, kF 26, kF 35, kF 53, kF 59, kF 106, kF 107, kF 109, kF 112, kF 114]) (fun (k : Nat) => (cellsOf l).length - k) ((0 : Nat)) (by exact (Nat.zero_le _ : 0 ≤ _)) (wkf id (wS <| wS <| wS <| wS <| wE (e := (vsl (by first | rfl | (simp; done) | (simp; omega) | omega | (exact congrArg List.length (by first | rfl | omega | exact (sp_end (by omega) (by omega)).symm | exact sp_end (by omega) (by omega)))) rfl)) <| wS <| wE (e := (vint (by first | rfl | omega | exact (sp_end (by omega) (by omega)).symm | exact sp_end (by omega) (by omega)))) <| wX <| wP <| wO (e := renob_eq (fun h => h) (congrArg dsl (by first | rfl | omega | exact (sp_end (by omega) (by omega)).symm | exact sp_end (by omega) (by omega)))) <| wP <| by (iterate 12 refine wF ?_); exact wN)) ?_
  rintro k inv7
  replace inv7 : k ≤ (cellsOf l).length := inv7
  have invk := inv7
  have hml := spL_len (cellsOf l) h (k := k) (by omega)
  refine sq (sq (rg (zm (zm ?_))))
  refine z ?_ (h := fun ν => lnS ν qC33_un_45)
  refine z ?_ (h := fun ν => acts_bin ν vt vt (r_lss rfl))
  refine nl ?_
  refine wi (fun c8 => ?_) (fun c8 => ?_)
  ·skip
   have c8P := of_decide_eq_true c8
   refine sk (sq (bkk (sq (rg (zk (nl (bkk ?_)))))))
   refine wp_loop' (fun (i : Nat) => i ≤ k) (fun (i : Nat) => [kV 1 (V.b (.a (.slv h.length 1 (isl h)))), kP 2 2 0, kS 6 17 0 0, kI 7 9, kS 8 30 0 ((spL (cellsOf l) h k ++ spR (cellsOf l) h k i).length), kS 9 32 0 ((cellsOf l).length), kI 10 ((k : Nat) : Int), kI 11 ((i : Nat) : Int), kO 2 29 1 true [(.slv l.length 1 (isl l) : A)], kO 17 48 3 true (pl (dsl [])), kO 30 48 3 true (pl (dsl (spL (cellsOf l) h k ++ spR (cellsOf l) h k i))), kO 32 52 2 true (pl (csl (cellsOf l))), kF 12, kF 14, kF 19, kF 26, kF 35, kF 53, kF 59, kF 106, kF 107, kF 109, kF 112, kF 114]) (fun (i : Nat) => k - i) ((0 : Nat)) (by exact (Nat.zero_le _ : 0 ≤ _)) (wkf id (wS <| wS <| wS <| wS <| wE (e := (vsl (by first | rfl | (simp; done) | (simp; omega) | omega | (exact congrArg List.length (by first | rfl | omega | (simp [spR]; done) | exact (spI_no (.inl hnb)).symm | exact spI_no (.inl hnb) | exact (spI_no (.inr hsp)).symm | exact spI_no (.inr hsp) | exact (spI_yes hnb hsp).symm | exact spI_yes hnb hsp))) rfl)) <| wS <| wS <| wE (e := (vint (by first | rfl | omega | (simp [spR]; done) | exact (spI_no (.inl hnb)).symm | exact spI_no (.inl hnb) | exact (spI_no (.inr hsp)).symm | exact spI_no (.inr hsp) | exact (spI_yes hnb hsp).symm | exact spI_yes hnb hsp))) <| wX <| wP <| wO (e := renob_eq (fun h => h) (congrArg dsl (by first | rfl | omega | (simp [spR]; done) | exact (spI_no (.inl hnb)).symm | exact spI_no (.inl hnb) | exact (spI_no (.inr hsp)).symm | exact spI_no (.inr hsp) | exact (spI_yes hnb hsp).symm | exact spI_yes hnb hsp))) <| wP <| by (iterate 12 refine wF ?_); exact wN)) ?_
   rintro i inv9
   replace inv9 : i ≤ k := inv9
   have invi := inv9
   have hmr := spR_len (cellsOf l) h k i
   refine sq (sq (rg (zm (zm ?_))))
   refine z ?_ (h := fun ν => acts_bin ν vt vt (r_lss rfl))
   refine nl ?_
   refine wi (fun c10 => ?_) (fun c10 => ?_)
   ·skip
    have c10P := of_decide_eq_true c10
    refine sk (sq (bkk (sq (wp_dr (zdm (zdm ?_))))))
    refine zd ?_ (h := fun ν => ix0 ν qC33_un_45 qC33_sz_52 vt (hlt := (by first | omega | assumption | exact nbr_okD (by assumption) | (have := spL_len (cellsOf l) h (k := k) (by omega); omega) | (have q1 : (sortD (spL (cellsOf l) h k)).length ≤ (spL (cellsOf l) h k).length := sortBy_len _; have q2 := hts_len l (sortD (spL (cellsOf l) h k)); omega))))
    refine zd ?_ (h := fun ν => lC ν qC33_ti_52 (by first | omega | assumption | exact nbr_okD (by assumption) | (have := spL_len (cellsOf l) h (k := k) (by omega); omega) | (have q1 : (sortD (spL (cellsOf l) h k)).length ≤ (spL (cellsOf l) h k).length := sortBy_len _; have q2 := hts_len l (sortD (spL (cellsOf l) h k)); omega)))
    refine zdm (zdm ?_)
    refine zd ?_ (h := fun ν => ix0 ν qC33_un_45 qC33_sz_52 vt (hlt := (by first | omega | assumption | exact nbr_okD (by assumption) | (have := spL_len (cellsOf l) h (k := k) (by omega); omega) | (have q1 : (sortD (spL (cellsOf l) h k)).length ≤ (spL (cellsOf l) h k).length := sortBy_len _; have q2 := hts_len l (sortD (spL (cellsOf l) h k)); omega))))
    refine zd ?_ (h := fun ν => lC ν qC33_ti_52 (by first | omega | assumption | exact nbr_okD (by assumption) | (have := spL_len (cellsOf l) h (k := k) (by omega); omega) | (have q1 : (sortD (spL (cellsOf l) h k)).length ≤ (spL (cellsOf l) h k).length := sortBy_len _; have q2 := hts_len l (sortD (spL (cellsOf l) h k)); omega)))
    refine zd ?_ (h := fun ν => acts_call2 ν (spec_DominoOver_fn (gC (cellsOf l) i) (gC (cellsOf l) k) ) (ac (ArgV.va va) (ac (ArgV.va va) an)) (ResV.agg [vI ((dOv (gC (cellsOf l) i) (gC (cellsOf l) k)).x), vI ((dOv (gC (cellsOf l) i) (gC (cellsOf l) k)).y), .bool ((dOv (gC (cellsOf l) i) (gC (cellsOf l) k)).d)]) rv)
    refine zdm ?_
    refine zd ?_ (h := fun ν => acts_extract ν (by exact rfl))
    refine zd ?_ (h := fun ν => acts_extract ν (by exact rfl))
    refine zd ?_ (h := fun ν => acts_alloc' (h := 12) (cap := 1) (s := 3) (cells := [aI 0, aI 0, aB false]) ν qC33_zi_48 rfl rfl (by decide))
    refine zd ?_ (h := fun _ => acts_store (cells := [aI ((dOv (gC (cellsOf l) i) (gC (cellsOf l) k)).x), aI ((dOv (gC (cellsOf l) i) (gC (cellsOf l) k)).y), aB ((dOv (gC (cellsOf l) i) (gC (cellsOf l) k)).d)]) qC33_ti_48 xt (by exact rfl) (by decide) (by exact ob1 rfl) (by exact Nat.le_of_ble_eq_true rfl) (by exact rfl))
    refine zd ?_ (h := fun ν => gt ν)
    refine dw_nil (sq (sq (rg (zm ?_))))
    refine z ?_ (h := fun ν => acts_un ν vt (r_not rfl))
    refine nl ?_
    refine wi (b := (!(nbr (gC (cellsOf l) i) (gC (cellsOf l) k)))) (fun c11 => ?_) (fun c11 => ?_)
    ·skip
     have c12 : (nbr (gC (cellsOf l) i) (gC (cellsOf l) k)) = false := by first | simpa using c11 | (rw [← Bool.not_eq_true']; exact c11)
     have hnb := c12
     refine wp_exit' (rg (zm ?_))
     refine z ?_ (h := fun ν => acts_bin ν vt vc (rA (by first | omega | assumption | exact nbr_okD (by assumption) | (have := spL_len (cellsOf l) h (k := k) (by omega); omega) | (have q1 : (sortD (spL (cellsOf l) h k)).length ≤ (spL (cellsOf l) h k).length := sortBy_len _; have q2 := hts_len l (sortD (spL (cellsOf l) h k)); omega)) (by first | omega | assumption | exact nbr_okD (by assumption) | (have := spL_len (cellsOf l) h (k := k) (by omega); omega) | (have q1 : (sortD (spL (cellsOf l) h k)).length ≤ (spL (cellsOf l) h k).length := sortBy_len _; have q2 := hts_len l (sortD (spL (cellsOf l) h k)); omega))))
     refine za (nl ?_)
     exact loop_back ((i + 1)) (by show _ ≤ _; omega) (by show k - (i + 1) < k - i; omega) (wkf id (wS <| wS <| wS <| wS <| wE (e := (vsl (by first | rfl | (simp; done) | (simp; omega) | omega | (exact congrArg List.length (by first | rfl | omega | (simp [spR]; done) | exact (spI_no (.inl hnb)).symm | exact spI_no (.inl hnb) | exact (spI_no (.inr hsp)).symm | exact spI_no (.inr hsp) | exact (spI_yes hnb hsp).symm | exact spI_yes hnb hsp))) rfl)) <| wS <| wS <| wE (e := (vint (by first | rfl | omega | (simp [spR]; done) | exact (spI_no (.inl hnb)).symm | exact spI_no (.inl hnb) | exact (spI_no (.inr hsp)).symm | exact spI_no (.inr hsp) | exact (spI_yes hnb hsp).symm | exact spI_yes hnb hsp))) <| wX <| wP <| wO (e := renob_eq (fun h => h) (congrArg dsl (by first | rfl | omega | (simp [spR]; done) | exact (spI_no (.inl hnb)).symm | exact spI_no (.inl hnb) | exact (spI_no (.inr hsp)).symm | exact spI_no (.inr hsp) | exact (spI_yes hnb hsp).symm | exact spI_yes hnb hsp))) <| wP <| by (iterate 12 refine wF ?_); exact wN))
    ·skip
     have c13 : (nbr (gC (cellsOf l) i) (gC (cellsOf l) k)) = true := by first | simpa using c11 | (rw [← Bool.not_eq_false']; exact c11)
     have hqb := okc_true.1 (ok_cb (nbr_okD c13))
     have hnb := c13
     refine sk (sq (rg ?_))
     refine z ?_ (h := fun ν => acts_load_owns (xs := [vI ((dOv (gC (cellsOf l) i) (gC (cellsOf l) k)).x), vI ((dOv (gC (cellsOf l) i) (gC (cellsOf l) k)).y), .bool ((dOv (gC (cellsOf l) i) (gC (cellsOf l) k)).d)].map A.val) ν qC33_ti_48 rfl (by decide) rfl)
     refine z ?_ (h := fun ν => acts_call1 ν (spec_l05Second_fn (dOv (gC (cellsOf l) i) (gC (cellsOf l) k)) (by first | omega | assumption | exact nbr_okD (by assumption) | (have := spL_len (cellsOf l) h (k := k) (by omega); omega) | (have q1 : (sortD (spL (cellsOf l) h k)).length ≤ (spL (cellsOf l) h k).length := sortBy_len _; have q2 := hts_len l (sortD (spL (cellsOf l) h k)); omega))) (ac (ArgV.va va) an) (ResV.agg [vI ((cb (dOv (gC (cellsOf l) i) (gC (cellsOf l) k))).x), vI ((cb (dOv (gC (cellsOf l) i) (gC (cellsOf l) k))).y)]))
     refine z ?_ (h := fun ν => acts_alloc' (h := 14) (cap := 1) (s := 2) (cells := [aI 0, aI 0]) ν qC33_zi_52 rfl rfl (by decide))
     refine z ?_ (h := fun _ => acts_store (cells := [aI ((cb (dOv (gC (cellsOf l) i) (gC (cellsOf l) k))).x), aI ((cb (dOv (gC (cellsOf l) i) (gC (cellsOf l) k))).y)]) qC33_ti_52 xt (by exact rfl) (by decide) (by exact ob1 rfl) (by exact Nat.le_of_ble_eq_true rfl) (by exact rfl))
     refine nl (sq (rg (zm ?_)))
     refine z ?_ (h := fun ν => acts_field (off' := 1) ν qC33_fo_52_1 rfl)
     refine z ?_ (h := fun ν => acts_load_own (x := .val (.int .i64 ((cb (dOv (gC (cellsOf l) i) (gC (cellsOf l) k))).y))) ν qC33_ti_3 (by exact rfl))
     refine zm ?_
     refine z ?_ (h := fun ν => acts_bin ν vt vt (rM (by first | omega | assumption | exact nbr_okD (by assumption) | (have := spL_len (cellsOf l) h (k := k) (by omega); omega) | (have q1 : (sortD (spL (cellsOf l) h k)).length ≤ (spL (cellsOf l) h k).length := sortBy_len _; have q2 := hts_len l (sortD (spL (cellsOf l) h k)); omega)) (by first | omega | assumption | exact nbr_okD (by assumption) | (have := spL_len (cellsOf l) h (k := k) (by omega); omega) | (have q1 : (sortD (spL (cellsOf l) h k)).length ≤ (spL (cellsOf l) h k).length := sortBy_len _; have q2 := hts_len l (sortD (spL (cellsOf l) h k)); omega))))
     refine z ?_ (h := fun ν => acts_field (off' := 0) ν qC33_fo_52_0 rfl)
     refine z ?_ (h := fun ν => acts_load_own (x := .val (.int .i64 ((cb (dOv (gC (cellsOf l) i) (gC (cellsOf l) k))).x))) ν qC33_ti_3 (by exact rfl))
     refine z ?_ (h := fun ν => acts_bin ν vt vt (rA (by first | omega | assumption | exact nbr_okD (by assumption) | (have := spL_len (cellsOf l) h (k := k) (by omega); omega) | (have q1 : (sortD (spL (cellsOf l) h k)).length ≤ (spL (cellsOf l) h k).length := sortBy_len _; have q2 := hts_len l (sortD (spL (cellsOf l) h k)); omega)) (by first | omega | assumption | exact nbr_okD (by assumption) | (have := spL_len (cellsOf l) h (k := k) (by omega); omega) | (have q1 : (sortD (spL (cellsOf l) h k)).length ≤ (spL (cellsOf l) h k).length := sortBy_len _; have q2 := hts_len l (sortD (spL (cellsOf l) h k)); omega))))
     refine z ?_ (h := fun ν => ixv (k := (((cb (dOv (gC (cellsOf l) i) (gC (cellsOf l) k))).y * 9) + (cb (dOv (gC (cellsOf l) i) (gC (cellsOf l) k))).x).toNat) ν qC33_un_22 qC33_sz_3 vt (Int.toNat_of_nonneg (by first | omega | assumption | exact nbr_okD (by assumption) | (have := spL_len (cellsOf l) h (k := k) (by omega); omega) | (have q1 : (sortD (spL (cellsOf l) h k)).length ≤ (spL (cellsOf l) h k).length := sortBy_len _; have q2 := hts_len l (sortD (spL (cellsOf l) h k)); omega))).symm (by first | omega | assumption | exact nbr_okD (by assumption) | (have := spL_len (cellsOf l) h (k := k) (by omega); omega) | (have q1 : (sortD (spL (cellsOf l) h k)).length ≤ (spL (cellsOf l) h k).length := sortBy_len _; have q2 := hts_len l (sortD (spL (cellsOf l) h k)); omega)))
     refine z ?_ (h := fun ν => uI ν qC33_ti_3 (by first | omega | assumption | exact nbr_okD (by assumption) | (have := spL_len (cellsOf l) h (k := k) (by omega); omega) | (have q1 : (sortD (spL (cellsOf l) h k)).length ≤ (spL (cellsOf l) h k).length := sortBy_len _; have q2 := hts_len l (sortD (spL (cellsOf l) h k)); omega)))
     refine za (nl (sq (rg (zm ?_))))
     refine z ?_ (h := fun ν => acts_field (off' := 1) ν qC33_fo_52_1 rfl)
     refine z ?_ (h := fun ν => acts_load_own (x := .val (.int .i64 ((cb (dOv (gC (cellsOf l) i) (gC (cellsOf l) k))).y))) ν qC33_ti_3 (by exact rfl))
     refine z ?_ (h := fun ν => acts_bin ν vt vc (rA (by first | omega | assumption | exact nbr_okD (by assumption) | (have := spL_len (cellsOf l) h (k := k) (by omega); omega) | (have q1 : (sortD (spL (cellsOf l) h k)).length ≤ (spL (cellsOf l) h k).length := sortBy_len _; have q2 := hts_len l (sortD (spL (cellsOf l) h k)); omega)) (by first | omega | assumption | exact nbr_okD (by assumption) | (have := spL_len (cellsOf l) h (k := k) (by omega); omega) | (have q1 : (sortD (spL (cellsOf l) h k)).length ≤ (spL (cellsOf l) h k).length := sortBy_len _; have q2 := hts_len l (sortD (spL (cellsOf l) h k)); omega))))
     refine zm ?_
     refine z ?_ (h := fun ν => acts_bin ν vt vt (rM (by first | omega | assumption | exact nbr_okD (by assumption) | (have := spL_len (cellsOf l) h (k := k) (by omega); omega) | (have q1 : (sortD (spL (cellsOf l) h k)).length ≤ (spL (cellsOf l) h k).length := sortBy_len _; have q2 := hts_len l (sortD (spL (cellsOf l) h k)); omega)) (by first | omega | assumption | exact nbr_okD (by assumption) | (have := spL_len (cellsOf l) h (k := k) (by omega); omega) | (have q1 : (sortD (spL (cellsOf l) h k)).length ≤ (spL (cellsOf l) h k).length := sortBy_len _; have q2 := hts_len l (sortD (spL (cellsOf l) h k)); omega))))
     refine z ?_ (h := fun ν => acts_field (off' := 0) ν qC33_fo_52_0 rfl)
     refine z ?_ (h := fun ν => acts_load_own (x := .val (.int .i64 ((cb (dOv (gC (cellsOf l) i) (gC (cellsOf l) k))).x))) ν qC33_ti_3 (by exact rfl))
     refine z ?_ (h := fun ν => acts_bin ν vt vt (rA (by first | omega | assumption | exact nbr_okD (by assumption) | (have := spL_len (cellsOf l) h (k := k) (by omega); omega) | (have q1 : (sortD (spL (cellsOf l) h k)).length ≤ (spL (cellsOf l) h k).length := sortBy_len _; have q2 := hts_len l (sortD (spL (cellsOf l) h k)); omega)) (by first | omega | assumption | exact nbr_okD (by assumption) | (have := spL_len (cellsOf l) h (k := k) (by omega); omega) | (have q1 : (sortD (spL (cellsOf l) h k)).length ≤ (spL (cellsOf l) h k).length := sortBy_len _; have q2 := hts_len l (sortD (spL (cellsOf l) h k)); omega))))
     refine z ?_ (h := fun ν => ixv (k := ((((cb (dOv (gC (cellsOf l) i) (gC (cellsOf l) k))).y + 1) * 9) + (cb (dOv (gC (cellsOf l) i) (gC (cellsOf l) k))).x).toNat) ν qC33_un_22 qC33_sz_3 vt (Int.toNat_of_nonneg (by first | omega | assumption | exact nbr_okD (by assumption) | (have := spL_len (cellsOf l) h (k := k) (by omega); omega) | (have q1 : (sortD (spL (cellsOf l) h k)).length ≤ (spL (cellsOf l) h k).length := sortBy_len _; have q2 := hts_len l (sortD (spL (cellsOf l) h k)); omega))).symm (by first | omega | assumption | exact nbr_okD (by assumption) | (have := spL_len (cellsOf l) h (k := k) (by omega); omega) | (have q1 : (sortD (spL (cellsOf l) h k)).length ≤ (spL (cellsOf l) h k).length := sortBy_len _; have q2 := hts_len l (sortD (spL (cellsOf l) h k)); omega)))
     refine z ?_ (h := fun ν => uI ν qC33_ti_3 (by first | omega | assumption | exact nbr_okD (by assumption) | (have := spL_len (cellsOf l) h (k := k) (by omega); omega) | (have q1 : (sortD (spL (cellsOf l) h k)).length ≤ (spL (cellsOf l) h k).length := sortBy_len _; have q2 := hts_len l (sortD (spL (cellsOf l) h k)); omega)))
     refine za (nl (sq (sq (rg ?_))))
     refine z ?_ (h := fun ν => acts_field (off' := 2) ν qC33_fo_48_2 rfl)
     refine z ?_ (h := fun ν => acts_load_own (x := .val (.bool ((dOv (gC (cellsOf l) i) (gC (cellsOf l) k)).d))) ν qC33_ti_4 (by exact rfl))
     refine nl ?_
     refine wi (b := (dOv (gC (cellsOf l) i) (gC (cellsOf l) k)).d) (fun c14 => ?_) (fun c14 => ?_)
     ·skip
      have hsp0 := fun b e => sp_t (h := h) (b := b) c14 e
      refine rg (zm ?_)
      refine z ?_ (h := fun ν => acts_field (off' := 1) ν qC33_fo_52_1 rfl)
      refine z ?_ (h := fun ν => acts_load_own (x := .val (.int .i64 ((cb (dOv (gC (cellsOf l) i) (gC (cellsOf l) k))).y))) ν qC33_ti_3 (by exact rfl))
      refine zm ?_
      refine z ?_ (h := fun ν => acts_bin ν vt vt (rM (by first | omega | assumption | exact nbr_okD (by assumption) | (have := spL_len (cellsOf l) h (k := k) (by omega); omega) | (have q1 : (sortD (spL (cellsOf l) h k)).length ≤ (spL (cellsOf l) h k).length := sortBy_len _; have q2 := hts_len l (sortD (spL (cellsOf l) h k)); omega)) (by first | omega | assumption | exact nbr_okD (by assumption) | (have := spL_len (cellsOf l) h (k := k) (by omega); omega) | (have q1 : (sortD (spL (cellsOf l) h k)).length ≤ (spL (cellsOf l) h k).length := sortBy_len _; have q2 := hts_len l (sortD (spL (cellsOf l) h k)); omega))))
      refine z ?_ (h := fun ν => acts_field (off' := 0) ν qC33_fo_52_0 rfl)
      refine z ?_ (h := fun ν => acts_load_own (x := .val (.int .i64 ((cb (dOv (gC (cellsOf l) i) (gC (cellsOf l) k))).x))) ν qC33_ti_3 (by exact rfl))
      refine z ?_ (h := fun ν => acts_bin ν vt vt (rA (by first | omega | assumption | exact nbr_okD (by assumption) | (have := spL_len (cellsOf l) h (k := k) (by omega); omega) | (have q1 : (sortD (spL (cellsOf l) h k)).length ≤ (spL (cellsOf l) h k).length := sortBy_len _; have q2 := hts_len l (sortD (spL (cellsOf l) h k)); omega)) (by first | omega | assumption | exact nbr_okD (by assumption) | (have := spL_len (cellsOf l) h (k := k) (by omega); omega) | (have q1 : (sortD (spL (cellsOf l) h k)).length ≤ (spL (cellsOf l) h k).length := sortBy_len _; have q2 := hts_len l (sortD (spL (cellsOf l) h k)); omega))))
      refine z ?_ (h := fun ν => acts_bin ν vt vc (rA (by first | omega | assumption | exact nbr_okD (by assumption) | (have := spL_len (cellsOf l) h (k := k) (by omega); omega) | (have q1 : (sortD (spL (cellsOf l) h k)).length ≤ (spL (cellsOf l) h k).length := sortBy_len _; have q2 := hts_len l (sortD (spL (cellsOf l) h k)); omega)) (by first | omega | assumption | exact nbr_okD (by assumption) | (have := spL_len (cellsOf l) h (k := k) (by omega); omega) | (have q1 : (sortD (spL (cellsOf l) h k)).length ≤ (spL (cellsOf l) h k).length := sortBy_len _; have q2 := hts_len l (sortD (spL (cellsOf l) h k)); omega))))
      refine z ?_ (h := fun ν => ixv (k := ((((cb (dOv (gC (cellsOf l) i) (gC (cellsOf l) k))).y * 9) + (cb (dOv (gC (cellsOf l) i) (gC (cellsOf l) k))).x) + 1).toNat) ν qC33_un_22 qC33_sz_3 vt (Int.toNat_of_nonneg (by first | omega | assumption | exact nbr_okD (by assumption) | (have := spL_len (cellsOf l) h (k := k) (by omega); omega) | (have q1 : (sortD (spL (cellsOf l) h k)).length ≤ (spL (cellsOf l) h k).length := sortBy_len _; have q2 := hts_len l (sortD (spL (cellsOf l) h k)); omega))).symm (by first | omega | assumption | exact nbr_okD (by assumption) | (have := spL_len (cellsOf l) h (k := k) (by omega); omega) | (have q1 : (sortD (spL (cellsOf l) h k)).length ≤ (spL (cellsOf l) h k).length := sortBy_len _; have q2 := hts_len l (sortD (spL (cellsOf l) h k)); omega)))
      refine z ?_ (h := fun ν => uI ν qC33_ti_3 (by first | omega | assumption | exact nbr_okD (by assumption) | (have := spL_len (cellsOf l) h (k := k) (by omega); omega) | (have q1 : (sortD (spL (cellsOf l) h k)).length ≤ (spL (cellsOf l) h k).length := sortBy_len _; have q2 := hts_len l (sortD (spL (cellsOf l) h k)); omega)))
      refine za (nl (sq ?_))
      refine wp_join [kB 103 ((decide ((sW (gI h ((((cb (dOv (gC (cellsOf l) i) (gC (cellsOf l) k))).y * 9) + (cb (dOv (gC (cellsOf l) i) (gC (cellsOf l) k))).x).toNat)) (gI h (((((cb (dOv (gC (cellsOf l) i) (gC (cellsOf l) k))).y * 9) + (cb (dOv (gC (cellsOf l) i) (gC (cellsOf l) k))).x) + 1).toNat))) = 3)) || (decide ((sW (gI h (((((cb (dOv (gC (cellsOf l) i) (gC (cellsOf l) k))).y * 9) + (cb (dOv (gC (cellsOf l) i) (gC (cellsOf l) k))).x) + 1).toNat)) (gI h ((((cb (dOv (gC (cellsOf l) i) (gC (cellsOf l) k))).y * 9) + (cb (dOv (gC (cellsOf l) i) (gC (cellsOf l) k))).x).toNat))) = 3))), kV 1 (V.b (.a (.slv h.length 1 (isl h)))), kP 2 2 0, kS 6 17 0 0, kI 7 9, kS 8 30 0 ((spL (cellsOf l) h k ++ spR (cellsOf l) h k i).length), kS 9 32 0 ((cellsOf l).length), kI 10 ((k : Nat) : Int), kI 11 ((i : Nat) : Int), kP 12 12 0, kO 2 29 1 true [(.slv l.length 1 (isl l) : A)], kO 12 48 3 true [aI ((dOv (gC (cellsOf l) i) (gC (cellsOf l) k)).x), aI ((dOv (gC (cellsOf l) i) (gC (cellsOf l) k)).y), aB ((dOv (gC (cellsOf l) i) (gC (cellsOf l) k)).d)], kO 14 52 2 true [aI ((cb (dOv (gC (cellsOf l) i) (gC (cellsOf l) k))).x), aI ((cb (dOv (gC (cellsOf l) i) (gC (cellsOf l) k))).y)], kO 17 48 3 true (pl (dsl [])), kO 30 48 3 true (pl (dsl (spL (cellsOf l) h k ++ spR (cellsOf l) h k i))), kO 32 52 2 true (pl (csl (cellsOf l))), kF 19, kF 26, kF 35, kF 53, kF 59, kF 106, kF 107, kF 109, kF 112, kF 114] ?_ ?_
      ·skip
       rcases Bool.eq_false_or_eq_true (decide ((sW (gI h ((((cb (dOv (gC (cellsOf l) i) (gC (cellsOf l) k))).y * 9) + (cb (dOv (gC (cellsOf l) i) (gC (cellsOf l) k))).x).toNat)) (gI h (((((cb (dOv (gC (cellsOf l) i) (gC (cellsOf l) k))).y * 9) + (cb (dOv (gC (cellsOf l) i) (gC (cellsOf l) k))).x) + 1).toNat))) = 3)) with c15 | c15
       ·skip
        have c15P := of_decide_eq_true c15
        refine rg (zm (zm ?_))
        refine z ?_ (h := fun ν => acts_bin ν vt vt (r_sub (c := (sW (gI h ((((cb (dOv (gC (cellsOf l) i) (gC (cellsOf l) k))).y * 9) + (cb (dOv (gC (cellsOf l) i) (gC (cellsOf l) k))).x).toNat)) (gI h (((((cb (dOv (gC (cellsOf l) i) (gC (cellsOf l) k))).y * 9) + (cb (dOv (gC (cellsOf l) i) (gC (cellsOf l) k))).x) + 1).toNat)))) rfl))
        refine z ?_ (h := fun ν => acts_bin ν vt vc (r_eql (c := true) c15))
        refine zm (zo (zo (zo (zo ?_))))
        refine z ?_ (h := fun ν => acts_pick_t ν vt xc)
        refine nl ?_
        exact ⟨rfl, weak_reads ⟨(by simp only [c15]; first | done | kernel_rfl), (by repeat (first | exact trivial | refine ⟨by kernel_rfl, ?_⟩))⟩⟩
       ·skip
        have c15P := of_decide_eq_false c15
        refine rg (zm (zm ?_))
        refine z ?_ (h := fun ν => acts_bin ν vt vt (r_sub (c := (sW (gI h ((((cb (dOv (gC (cellsOf l) i) (gC (cellsOf l) k))).y * 9) + (cb (dOv (gC (cellsOf l) i) (gC (cellsOf l) k))).x).toNat)) (gI h (((((cb (dOv (gC (cellsOf l) i) (gC (cellsOf l) k))).y * 9) + (cb (dOv (gC (cellsOf l) i) (gC (cellsOf l) k))).x) + 1).toNat)))) rfl))
        refine z ?_ (h := fun ν => acts_bin ν vt vc (r_eql (c := false) c15))
        refine zm ?_
        refine zg ?_ (h := fun ν => step_on rfl rfl (mt ν))
        refine zg ?_ (h := fun ν => step_on rfl rfl (mt ν))
        refine zg ?_ (h := fun ν => step_on rfl rfl (acts_bin ν vt vt (r_sub (c := (sW (gI h (((((cb (dOv (gC (cellsOf l) i) (gC (cellsOf l) k))).y * 9) + (cb (dOv (gC (cellsOf l) i) (gC (cellsOf l) k))).x) + 1).toNat)) (gI h ((((cb (dOv (gC (cellsOf l) i) (gC (cellsOf l) k))).y * 9) + (cb (dOv (gC (cellsOf l) i) (gC (cellsOf l) k))).x).toNat)))) rfl)))
        refine zg ?_ (h := fun ν => step_on rfl rfl (acts_bin ν vt vc (r_eql rfl)))
        refine z ?_ (h := fun ν => acts_pick_f ν vt xt)
        refine nl ?_
        exact ⟨rfl, weak_reads ⟨(by simp only [c15]; first | done | kernel_rfl), (by repeat (first | exact trivial | refine ⟨by kernel_rfl, ?_⟩))⟩⟩
      refine wi (b := ((decide ((sW (gI h ((((cb (dOv (gC (cellsOf l) i) (gC (cellsOf l) k))).y * 9) + (cb (dOv (gC (cellsOf l) i) (gC (cellsOf l) k))).x).toNat)) (gI h (((((cb (dOv (gC (cellsOf l) i) (gC (cellsOf l) k))).y * 9) + (cb (dOv (gC (cellsOf l) i) (gC (cellsOf l) k))).x) + 1).toNat))) = 3)) || (decide ((sW (gI h (((((cb (dOv (gC (cellsOf l) i) (gC (cellsOf l) k))).y * 9) + (cb (dOv (gC (cellsOf l) i) (gC (cellsOf l) k))).x) + 1).toNat)) (gI h ((((cb (dOv (gC (cellsOf l) i) (gC (cellsOf l) k))).y * 9) + (cb (dOv (gC (cellsOf l) i) (gC (cellsOf l) k))).x).toNat))) = 3)))) (fun c16 => ?_) (fun c16 => ?_)
      ·skip
       have hsp := hsp0 _ c16
       have c17 := or_tt c16
       refine rg (zm ?_)
       refine z ?_ (h := fun ν => acts_load_owns (xs := [vI ((dOv (gC (cellsOf l) i) (gC (cellsOf l) k)).x), vI ((dOv (gC (cellsOf l) i) (gC (cellsOf l) k)).y), .bool ((dOv (gC (cellsOf l) i) (gC (cellsOf l) k)).d)].map A.val) ν qC33_ti_48 rfl (by decide) rfl)
       refine z ?_ (h := fun ν => acts_buildSlice' (h := 106) (xs := dsl ([(dOv (gC (cellsOf l) i) (gC (cellsOf l) k))] : List Dom)) ν qC33_un_26 qC33_zi_48 (.cons va OpVs.nil) (by decide) (by decide) (by kernel_rfl) rfl)
       refine z ?_ (h := fun ν => aD_ (h2 := 107) (L3 := ((spL (cellsOf l) h k ++ spR (cellsOf l) h k i) ++ [(dOv (gC (cellsOf l) i) (gC (cellsOf l) k))])) ν qC33_un_26 qC33_zi_48 (by first | exact rfl | (simp; done) | (simp; omega) | omega) rfl (by first | exact rfl | (simp; done) | (simp; omega) | omega) (by first | omega | (simp; omega) | (simp at *; omega)))
       refine za (nl (rg (zm ?_)))
       refine z ?_ (h := fun ν => acts_bin ν vt vc (rA (by first | omega | assumption | exact nbr_okD (by assumption) | (have := spL_len (cellsOf l) h (k := k) (by omega); omega) | (have q1 : (sortD (spL (cellsOf l) h k)).length ≤ (spL (cellsOf l) h k).length := sortBy_len _; have q2 := hts_len l (sortD (spL (cellsOf l) h k)); omega)) (by first | omega | assumption | exact nbr_okD (by assumption) | (have := spL_len (cellsOf l) h (k := k) (by omega); omega) | (have q1 : (sortD (spL (cellsOf l) h k)).length ≤ (spL (cellsOf l) h k).length := sortBy_len _; have q2 := hts_len l (sortD (spL (cellsOf l) h k)); omega))))
       refine za (nl ?_)
       exact loop_back ((i + 1)) (by show _ ≤ _; omega) (by show k - (i + 1) < k - i; omega) (wkf (subst1 [(30, 107)]) (wS <| wS <| wS <| wS <| wE (e := (vsl (by first | rfl | (simp; done) | (simp; omega) | omega | (exact congrArg List.length (by first | rfl | omega | (simp [spR]; done) | exact (spI_no (.inl hnb)).symm | exact spI_no (.inl hnb) | exact (spI_no (.inr hsp)).symm | exact spI_no (.inr hsp) | exact (spI_yes hnb hsp).symm | exact spI_yes hnb hsp))) rfl)) <| wS <| wS <| wE (e := (vint (by first | rfl | omega | (simp [spR]; done) | exact (spI_no (.inl hnb)).symm | exact spI_no (.inl hnb) | exact (spI_no (.inr hsp)).symm | exact spI_no (.inr hsp) | exact (spI_yes hnb hsp).symm | exact spI_yes hnb hsp))) <| wX <| wP <| wO (e := renob_eq (fun h => h) (congrArg dsl (by first | rfl | omega | (simp [spR]; done) | exact (spI_no (.inl hnb)).symm | exact spI_no (.inl hnb) | exact (spI_no (.inr hsp)).symm | exact spI_no (.inr hsp) | exact (spI_yes hnb hsp).symm | exact spI_yes hnb hsp))) <| wP <| by (iterate 12 refine wF ?_); exact wN))
      ·skip
       have hsp := hsp0 _ c16
       obtain ⟨c18, c19⟩ := or_ff c16
       have c18P := of_decide_eq_false c18
       have c19P := of_decide_eq_false c19
       refine sk (rg (zm ?_))
       refine z ?_ (h := fun ν => acts_bin ν vt vc (rA (by first | omega | assumption | exact nbr_okD (by assumption) | (have := spL_len (cellsOf l) h (k := k) (by omega); omega) | (have q1 : (sortD (spL (cellsOf l) h k)).length ≤ (spL (cellsOf l) h k).length := sortBy_len _; have q2 := hts_len l (sortD (spL (cellsOf l) h k)); omega)) (by first | omega | assumption | exact nbr_okD (by assumption) | (have := spL_len (cellsOf l) h (k := k) (by omega); omega) | (have q1 : (sortD (spL (cellsOf l) h k)).length ≤ (spL (cellsOf l) h k).length := sortBy_len _; have q2 := hts_len l (sortD (spL (cellsOf l) h k)); omega))))
       refine za (nl ?_)
       exact loop_back ((i + 1)) (by show _ ≤ _; omega) (by show k - (i + 1) < k - i; omega) (wkf id (wS <| wS <| wS <| wS <| wE (e := (vsl (by first | rfl | (simp; done) | (simp; omega) | omega | (exact congrArg List.length (by first | rfl | omega | (simp [spR]; done) | exact (spI_no (.inl hnb)).symm | exact spI_no (.inl hnb) | exact (spI_no (.inr hsp)).symm | exact spI_no (.inr hsp) | exact (spI_yes hnb hsp).symm | exact spI_yes hnb hsp))) rfl)) <| wS <| wS <| wE (e := (vint (by first | rfl | omega | (simp [spR]; done) | exact (spI_no (.inl hnb)).symm | exact spI_no (.inl hnb) | exact (spI_no (.inr hsp)).symm | exact spI_no (.inr hsp) | exact (spI_yes hnb hsp).symm | exact spI_yes hnb hsp))) <| wX <| wP <| wO (e := renob_eq (fun h => h) (congrArg dsl (by first | rfl | omega | (simp [spR]; done) | exact (spI_no (.inl hnb)).symm | exact spI_no (.inl hnb) | exact (spI_no (.inr hsp)).symm | exact spI_no (.inr hsp) | exact (spI_yes hnb hsp).symm | exact spI_yes hnb hsp))) <| wP <| by (iterate 12 refine wF ?_); exact wN))
     ·skip
      have hsp0 := fun b e => sp_f (h := h) (b := b) c14 e
      refine sk (sq ?_)
      refine wp_join [kB 103 ((decide ((sW (gI h ((((cb (dOv (gC (cellsOf l) i) (gC (cellsOf l) k))).y * 9) + (cb (dOv (gC (cellsOf l) i) (gC (cellsOf l) k))).x).toNat)) (gI h (((((cb (dOv (gC (cellsOf l) i) (gC (cellsOf l) k))).y + 1) * 9) + (cb (dOv (gC (cellsOf l) i) (gC (cellsOf l) k))).x).toNat))) = 3)) || (decide ((sW (gI h (((((cb (dOv (gC (cellsOf l) i) (gC (cellsOf l) k))).y + 1) * 9) + (cb (dOv (gC (cellsOf l) i) (gC (cellsOf l) k))).x).toNat)) (gI h ((((cb (dOv (gC (cellsOf l) i) (gC (cellsOf l) k))).y * 9) + (cb (dOv (gC (cellsOf l) i) (gC (cellsOf l) k))).x).toNat))) = 3))), kV 1 (V.b (.a (.slv h.length 1 (isl h)))), kP 2 2 0, kS 6 17 0 0, kI 7 9, kS 8 30 0 ((spL (cellsOf l) h k ++ spR (cellsOf l) h k i).length), kS 9 32 0 ((cellsOf l).length), kI 10 ((k : Nat) : Int), kI 11 ((i : Nat) : Int), kP 12 12 0, kO 2 29 1 true [(.slv l.length 1 (isl l) : A)], kO 12 48 3 true [aI ((dOv (gC (cellsOf l) i) (gC (cellsOf l) k)).x), aI ((dOv (gC (cellsOf l) i) (gC (cellsOf l) k)).y), aB ((dOv (gC (cellsOf l) i) (gC (cellsOf l) k)).d)], kO 14 52 2 true [aI ((cb (dOv (gC (cellsOf l) i) (gC (cellsOf l) k))).x), aI ((cb (dOv (gC (cellsOf l) i) (gC (cellsOf l) k))).y)], kO 17 48 3 true (pl (dsl [])), kO 30 48 3 true (pl (dsl (spL (cellsOf l) h k ++ spR (cellsOf l) h k i))), kO 32 52 2 true (pl (csl (cellsOf l))), kF 19, kF 26, kF 35, kF 53, kF 59, kF 106, kF 107, kF 109, kF 112, kF 114] ?_ ?_
      ·skip
       rcases Bool.eq_false_or_eq_true (decide ((sW (gI h ((((cb (dOv (gC (cellsOf l) i) (gC (cellsOf l) k))).y * 9) + (cb (dOv (gC (cellsOf l) i) (gC (cellsOf l) k))).x).toNat)) (gI h (((((cb (dOv (gC (cellsOf l) i) (gC (cellsOf l) k))).y + 1) * 9) + (cb (dOv (gC (cellsOf l) i) (gC (cellsOf l) k))).x).toNat))) = 3)) with c20 | c20
       ·skip
        have c20P := of_decide_eq_true c20
        refine rg (zm (zm ?_))
        refine z ?_ (h := fun ν => acts_bin ν vt vt (r_sub (c := (sW (gI h ((((cb (dOv (gC (cellsOf l) i) (gC (cellsOf l) k))).y * 9) + (cb (dOv (gC (cellsOf l) i) (gC (cellsOf l) k))).x).toNat)) (gI h (((((cb (dOv (gC (cellsOf l) i) (gC (cellsOf l) k))).y + 1) * 9) + (cb (dOv (gC (cellsOf l) i) (gC (cellsOf l) k))).x).toNat)))) rfl))
        refine z ?_ (h := fun ν => acts_bin ν vt vc (r_eql (c := true) c20))
        refine zm (zo (zo (zo (zo ?_))))
        refine z ?_ (h := fun ν => acts_pick_t ν vt xc)
        refine nl ?_
        exact ⟨rfl, weak_reads ⟨(by simp only [c20]; first | done | kernel_rfl), (by repeat (first | exact trivial | refine ⟨by kernel_rfl, ?_⟩))⟩⟩
       ·skip
        have c20P := of_decide_eq_false c20
        refine rg (zm (zm ?_))
        refine z ?_ (h := fun ν => acts_bin ν vt vt (r_sub (c := (sW (gI h ((((cb (dOv (gC (cellsOf l) i) (gC (cellsOf l) k))).y * 9) + (cb (dOv (gC (cellsOf l) i) (gC (cellsOf l) k))).x).toNat)) (gI h (((((cb (dOv (gC (cellsOf l) i) (gC (cellsOf l) k))).y + 1) * 9) + (cb (dOv (gC (cellsOf l) i) (gC (cellsOf l) k))).x).toNat)))) rfl))
        refine z ?_ (h := fun ν => acts_bin ν vt vc (r_eql (c := false) c20))
        refine zm ?_
        refine zg ?_ (h := fun ν => step_on rfl rfl (mt ν))
        refine zg ?_ (h := fun ν => step_on rfl rfl (mt ν))
        refine zg ?_ (h := fun ν => step_on rfl rfl (acts_bin ν vt vt (r_sub (c := (sW (gI h (((((cb (dOv (gC (cellsOf l) i) (gC (cellsOf l) k))).y + 1) * 9) + (cb (dOv (gC (cellsOf l) i) (gC (cellsOf l) k))).x).toNat)) (gI h ((((cb (dOv (gC (cellsOf l) i) (gC (cellsOf l) k))).y * 9) + (cb (dOv (gC (cellsOf l) i) (gC (cellsOf l) k))).x).toNat)))) rfl)))
        refine zg ?_ (h := fun ν => step_on rfl rfl (acts_bin ν vt vc (r_eql rfl)))
        refine z ?_ (h := fun ν => acts_pick_f ν vt xt)
        refine nl ?_
        exact ⟨rfl, weak_reads ⟨(by simp only [c20]; first | done | kernel_rfl), (by repeat (first | exact trivial | refine ⟨by kernel_rfl, ?_⟩))⟩⟩
      refine wi (b := ((decide ((sW (gI h ((((cb (dOv (gC (cellsOf l) i) (gC (cellsOf l) k))).y * 9) + (cb (dOv (gC (cellsOf l) i) (gC (cellsOf l) k))).x).toNat)) (gI h (((((cb (dOv (gC (cellsOf l) i) (gC (cellsOf l) k))).y + 1) * 9) + (cb (dOv (gC (cellsOf l) i) (gC (cellsOf l) k))).x).toNat))) = 3)) || (decide ((sW (gI h (((((cb (dOv (gC (cellsOf l) i) (gC (cellsOf l) k))).y + 1) * 9) + (cb (dOv (gC (cellsOf l) i) (gC (cellsOf l) k))).x).toNat)) (gI h ((((cb (dOv (gC (cellsOf l) i) (gC (cellsOf l) k))).y * 9) + (cb (dOv (gC (cellsOf l) i) (gC (cellsOf l) k))).x).toNat))) = 3)))) (fun c21 => ?_) (fun c21 => ?_)
      ·skip
       have hsp := hsp0 _ c21
       have c22 := or_tt c21
       refine rg (zm ?_)
       refine z ?_ (h := fun ν => acts_load_owns (xs := [vI ((dOv (gC (cellsOf l) i) (gC (cellsOf l) k)).x), vI ((dOv (gC (cellsOf l) i) (gC (cellsOf l) k)).y), .bool ((dOv (gC (cellsOf l) i) (gC (cellsOf l) k)).d)].map A.val) ν qC33_ti_48 rfl (by decide) rfl)
       refine z ?_ (h := fun ν => acts_buildSlice' (h := 106) (xs := dsl ([(dOv (gC (cellsOf l) i) (gC (cellsOf l) k))] : List Dom)) ν qC33_un_26 qC33_zi_48 (.cons va OpVs.nil) (by decide) (by decide) (by kernel_rfl) rfl)
       refine z ?_ (h := fun ν => aD_ (h2 := 107) (L3 := ((spL (cellsOf l) h k ++ spR (cellsOf l) h k i) ++ [(dOv (gC (cellsOf l) i) (gC (cellsOf l) k))])) ν qC33_un_26 qC33_zi_48 (by first | exact rfl | (simp; done) | (simp; omega) | omega) rfl (by first | exact rfl | (simp; done) | (simp; omega) | omega) (by first | omega | (simp; omega) | (simp at *; omega)))
       refine za (nl (rg (zm ?_)))
       refine z ?_ (h := fun ν => acts_bin ν vt vc (rA (by first | omega | assumption | exact nbr_okD (by assumption) | (have := spL_len (cellsOf l) h (k := k) (by omega); omega) | (have q1 : (sortD (spL (cellsOf l) h k)).length ≤ (spL (cellsOf l) h k).length := sortBy_len _; have q2 := hts_len l (sortD (spL (cellsOf l) h k)); omega)) (by first | omega | assumption | exact nbr_okD (by assumption) | (have := spL_len (cellsOf l) h (k := k) (by omega); omega) | (have q1 : (sortD (spL (cellsOf l) h k)).length ≤ (spL (cellsOf l) h k).length := sortBy_len _; have q2 := hts_len l (sortD (spL (cellsOf l) h k)); omega))))
       refine za (nl ?_)
       exact loop_back ((i + 1)) (by show _ ≤ _; omega) (by show k - (i + 1) < k - i; omega) (wkf (subst1 [(30, 107)]) (wS <| wS <| wS <| wS <| wE (e := (vsl (by first | rfl | (simp; done) | (simp; omega) | omega | (exact congrArg List.length (by first | rfl | omega | (simp [spR]; done) | exact (spI_no (.inl hnb)).symm | exact spI_no (.inl hnb) | exact (spI_no (.inr hsp)).symm | exact spI_no (.inr hsp) | exact (spI_yes hnb hsp).symm | exact spI_yes hnb hsp))) rfl)) <| wS <| wS <| wE (e := (vint (by first | rfl | omega | (simp [spR]; done) | exact (spI_no (.inl hnb)).symm | exact spI_no (.inl hnb) | exact (spI_no (.inr hsp)).symm | exact spI_no (.inr hsp) | exact (spI_yes hnb hsp).symm | exact spI_yes hnb hsp))) <| wX <| wP <| wO (e := renob_eq (fun h => h) (congrArg dsl (by first | rfl | omega | (simp [spR]; done) | exact (spI_no (.inl hnb)).symm | exact spI_no (.inl hnb) | exact (spI_no (.inr hsp)).symm | exact spI_no (.inr hsp) | exact (spI_yes hnb hsp).symm | exact spI_yes hnb hsp))) <| wP <| by (iterate 12 refine wF ?_); exact wN))
      ·skip
       have hsp := hsp0 _ c21
       obtain ⟨c23, c24⟩ := or_ff c21
       have c23P := of_decide_eq_false c23
       have c24P := of_decide_eq_false c24
       refine sk (rg (zm ?_))
       refine z ?_ (h := fun ν => acts_bin ν vt vc (rA (by first | omega | assumption | exact nbr_okD (by assumption) | (have := spL_len (cellsOf l) h (k := k) (by omega); omega) | (have q1 : (sortD (spL (cellsOf l) h k)).length ≤ (spL (cellsOf l) h k).length := sortBy_len _; have q2 := hts_len l (sortD (spL (cellsOf l) h k)); omega)) (by first | omega | assumption | exact nbr_okD (by assumption) | (have := spL_len (cellsOf l) h (k := k) (by omega); omega) | (have q1 : (sortD (spL (cellsOf l) h k)).length ≤ (spL (cellsOf l) h k).length := sortBy_len _; have q2 := hts_len l (sortD (spL (cellsOf l) h k)); omega))))
       refine za (nl ?_)
       exact loop_back ((i + 1)) (by show _ ≤ _; omega) (by show k - (i + 1) < k - i; omega) (wkf id (wS <| wS <| wS <| wS <| wE (e := (vsl (by first | rfl | (simp; done) | (simp; omega) | omega | (exact congrArg List.length (by first | rfl | omega | (simp [spR]; done) | exact (spI_no (.inl hnb)).symm | exact spI_no (.inl hnb) | exact (spI_no (.inr hsp)).symm | exact spI_no (.inr hsp) | exact (spI_yes hnb hsp).symm | exact spI_yes hnb hsp))) rfl)) <| wS <| wS <| wE (e := (vint (by first | rfl | omega | (simp [spR]; done) | exact (spI_no (.inl hnb)).symm | exact spI_no (.inl hnb) | exact (spI_no (.inr hsp)).symm | exact spI_no (.inr hsp) | exact (spI_yes hnb hsp).symm | exact spI_yes hnb hsp))) <| wX <| wP <| wO (e := renob_eq (fun h => h) (congrArg dsl (by first | rfl | omega | (simp [spR]; done) | exact (spI_no (.inl hnb)).symm | exact spI_no (.inl hnb) | exact (spI_no (.inr hsp)).symm | exact spI_no (.inr hsp) | exact (spI_yes hnb hsp).symm | exact spI_yes hnb hsp))) <| wP <| by (iterate 12 refine wF ?_); exact wN))
   ·skip
    have c10P := of_decide_eq_false c10
    refine wp_exit' (rg (zm ?_))
    refine z ?_ (h := fun ν => acts_bin ν vt vc (rA (by first | omega | assumption | exact nbr_okD (by assumption) | (have := spL_len (cellsOf l) h (k := k) (by omega); omega) | (have q1 : (sortD (spL (cellsOf l) h k)).length ≤ (spL (cellsOf l) h k).length := sortBy_len _; have q2 := hts_len l (sortD (spL (cellsOf l) h k)); omega)) (by first | omega | assumption | exact nbr_okD (by assumption) | (have := spL_len (cellsOf l) h (k := k) (by omega); omega) | (have q1 : (sortD (spL (cellsOf l) h k)).length ≤ (spL (cellsOf l) h k).length := sortBy_len _; have q2 := hts_len l (sortD (spL (cellsOf l) h k)); omega))))
    refine za (nl ?_)
    exact loop_back ((k + 1)) (by show _ ≤ _; omega) (by show (cellsOf l).length - (k + 1) < (cellsOf l).length - k; omega) (wkf id (wS <| wS <| wS <| wS <| wE (e := (vsl (by first | rfl | (simp; done) | (simp; omega) | omega | (exact congrArg List.length (by first | rfl | omega | exact (sp_end (by omega) (by omega)).symm | exact sp_end (by omega) (by omega)))) rfl)) <| wS <| wE (e := (vint (by first | rfl | omega | exact (sp_end (by omega) (by omega)).symm | exact sp_end (by omega) (by omega)))) <| wX <| wP <| wO (e := renob_eq (fun h => h) (congrArg dsl (by first | rfl | omega | exact (sp_end (by omega) (by omega)).symm | exact sp_end (by omega) (by omega)))) <| wP <| by (iterate 12 refine wF ?_); exact wN))
  ·skip
   have c8P := of_decide_eq_false c8
   refine wp_exit' (sq (rg (zm ?_)))
   refine z ?_ (h := fun ν => acts_call1 ν (spec_SortDominoes_fn (spL (cellsOf l) h k) (by first | omega | assumption | exact nbr_okD (by assumption) | (have := spL_len (cellsOf l) h (k := k) (by omega); omega) | (have q1 : (sortD (spL (cellsOf l) h k)).length ≤ (spL (cellsOf l) h k).length := sortBy_len _; have q2 := hts_len l (sortD (spL (cellsOf l) h k)); omega))) (ac (argv_own (by first | exact dsl_len _ | (simp [isl_len, bsl_len, dsl_len, csl_len]; done) | (simp [isl_len, bsl_len, dsl_len, csl_len]; omega))) an) (ResV.row _ _ _ _ 109))
   refine za (nl (sq (sq (rg ?_))))
   refine z ?_ (h := fun ν => acts_load_owns (xs := [(.slv l.length 1 (isl l) : A)]) ν qC33_ti_29 rfl (by decide) rfl)
   refine zm ?_
   refine z ?_ (h := fun ν => acts_call1 ν (spec_HeightsOf_fn l (sortD (spL (cellsOf l) h k)) (by first | omega | assumption | exact nbr_okD (by assumption) | (have := spL_len (cellsOf l) h (k := k) (by omega); omega) | (have q1 : (sortD (spL (cellsOf l) h k)).length ≤ (spL (cellsOf l) h k).length := sortBy_len _; have q2 := hts_len l (sortD (spL (cellsOf l) h k)); omega)) (by first | omega | assumption | exact nbr_okD (by assumption) | (have := spL_len (cellsOf l) h (k := k) (by omega); omega) | (have q1 : (sortD (spL (cellsOf l) h k)).length ≤ (spL (cellsOf l) h k).length := sortBy_len _; have q2 := hts_len l (sortD (spL (cellsOf l) h k)); omega))) (ac (ArgV.regv _ _ 1 _) (ac (argv_own (by first | exact dsl_len _ | (simp [isl_len, bsl_len, dsl_len, csl_len]; done) | (simp [isl_len, bsl_len, dsl_len, csl_len]; omega))) an)) (ResV.row _ _ _ _ 112))
   refine zm ?_
   refine z ?_ (h := fun ν => acts_call1 ν (spec_l13Ints_fn (hts l (sortD (spL (cellsOf l) h k))) h (by first | omega | assumption | exact nbr_okD (by assumption) | (have := spL_len (cellsOf l) h (k := k) (by omega); omega) | (have q1 : (sortD (spL (cellsOf l) h k)).length ≤ (spL (cellsOf l) h k).length := sortBy_len _; have q2 := hts_len l (sortD (spL (cellsOf l) h k)); omega)) (by first | omega | assumption | exact nbr_okD (by assumption) | (have := spL_len (cellsOf l) h (k := k) (by omega); omega) | (have q1 : (sortD (spL (cellsOf l) h k)).length ≤ (spL (cellsOf l) h k).length := sortBy_len _; have q2 := hts_len l (sortD (spL (cellsOf l) h k)); omega))) (ac (argv_own (by first | exact isl_len _ | (simp [isl_len, bsl_len, dsl_len, csl_len]; done) | (simp [isl_len, bsl_len, dsl_len, csl_len]; omega))) (ac (ArgV.slv _ _ _ _) an)) rv)
   refine z ?_ (h := fun ν => acts_un ν vt (r_not rfl))
   refine nl ?_
   refine wi (b := (!(decide ((hts l (sortD (spL (cellsOf l) h k))) = h)))) (fun c25 => ?_) (fun c25 => ?_)
   ·skip
    have c26 : decide ((hts l (sortD (spL (cellsOf l) h k))) = h) = false := by first | simpa using c25 | (rw [← Bool.not_eq_true']; exact c25)
    have c26P := of_decide_eq_false c26
    refine sq (rg (zm (za (zk (nl (wp_ret' ?_))))))
    exact ⟨VRes.tmp _ _ _ (by exact rfl) (brow_doms (h := 17) (L := []) (by kernel_rfl) (by first | exact (tilF_no (tfs_no (h := h) (k := k) hro (by omega) (by omega) (by simp_all))).symm | exact (tfs_no (h := h) (k := k) hro (by omega) (by omega) (by simp_all)).symm) (by first | rfl | (simp; done) | (simp; omega))), VRes.tmp _ _ _ (by exact rfl) (bval (congrArg Value.bool (by first | exact (tilF_no (tfs_no (h := h) (k := k) hro (by omega) (by omega) (by simp_all))).symm | exact (tfs_no (h := h) (k := k) hro (by omega) (by omega) (by simp_all)).symm)))⟩
   ·skip
    have c27 : decide ((hts l (sortD (spL (cellsOf l) h k))) = h) = true := by first | simpa using c25 | (rw [← Bool.not_eq_false']; exact c25)
    have c27P := of_decide_eq_true c27
    refine sk (sq (rg (zm (za (zk (nl (wp_ret' ?_)))))))
    exact ⟨VRes.tmp _ _ _ (by exact rfl) (brow_doms (h := 109) (L := (sortD (spL (cellsOf l) h k))) (by kernel_rfl) (by first | exact (tfs_yes (h := h) (k := k) hro (by omega) (by omega) (by omega) (by simp_all)).1.symm | exact (tfs_yes (h := h) (k := k) hro (by omega) (by omega) (by omega) (by simp_all)).2.symm) (by first | rfl | (simp; done) | (simp; omega))), VRes.tmp _ _ _ (by exact rfl) (bval (congrArg Value.bool (by first | exact (tfs_yes (h := h) (k := k) hro (by omega) (by omega) (by omega) (by simp_all)).1.symm | exact (tfs_yes (h := h) (k := k) hro (by omega) (by omega) (by omega) (by simp_all)).2.symm)))⟩
end Cl
end Go.Proofs.Ytjgimiicfekcpaa
