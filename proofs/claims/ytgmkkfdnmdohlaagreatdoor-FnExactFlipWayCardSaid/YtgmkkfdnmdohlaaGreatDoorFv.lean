/- Walks over clean states, printed by wg.py. No statement is proved here. -/
import Derived.Test.YtgmkkfdnmdohlaaGreatDoorFp
import Derived.Test.YtgmkkfdnmdohlaaGreatDoorClB
set_option linter.unusedSimpArgs false
set_option linter.unusedVariables false
namespace Go.Proofs.YtgmkkfdnmdohlaaGreatDoor
namespace Cl
open Go.ChangeShapes Go.WideShapes Go.ChangeAt Go.RowKit
set_option maxRecDepth 20000
/-- the way of fewest flips: the first cell that leads one step nearer to the goal t -/
noncomputable def wyS (a : List (List Dom)) (t : Int) (P : List Dom) : Cel := ((flipsOf P).find? fun c => decide (dsD (lkM a) t (ixT a (flipAt P c)) = dsD (lkM a) t (ixT a P) - 1)).getD ⟨0, 0⟩
noncomputable def wyP (a : List (List Dom)) (t : Int) (P : List Dom) : Nat → List Dom
  | 0 => P
  | j + 1 => flipAt (wyP a t P j) (wyS a t (wyP a t P j))
noncomputable def wyL (a : List (List Dom)) (t : Int) (P : List Dom) : Nat → List Cel
  | 0 => []
  | j + 1 => wyL a t P j ++ [wyS a t (wyP a t P j)]
theorem wyL_len (a : List (List Dom)) (t : Int) (P : List Dom) : ∀ j, (wyL a t P j).length = j
  | 0 => rfl
  | j + 1 => by rw [wyL, List.length_append, wyL_len a t P j]; rfl
theorem near_ex {s : Nat} {a : List (List Dom)} (hA : FlipA s a) {P T : List Dom} (hP : P ∈ a) (hT : T ∈ a) (h : 0 < dsD (lkM a) (ixT a T) (ixT a P)) :
    ∃ c ∈ flipsOf P, dsD (lkM a) (ixT a T) (ixT a (flipAt P c)) = dsD (lkM a) (ixT a T) (ixT a P) - 1 := by
  have hp := dsD_path (Int.le_of_lt h)
  obtain ⟨n, hn⟩ : ∃ n, (dsD (lkM a) (ixT a T) (ixT a P)).toNat = n + 1 := ⟨(dsD (lkM a) (ixT a T) (ixT a P)).toNat - 1, by omega⟩
  rw [hn] at hp
  have hb := ((gp_iff hA hT hP).1 hp).back (hA.ti T hT)
  cases hb with
  | step _ _ _ c hc hr =>
    have hcf := flips_of hc
    have hQ := hA.flip hP hcf
    refine ⟨c, hcf, ?_⟩
    have h1 := dsD_of ((gp_iff hA hT hQ).2 (hr.back (hA.ti _ hQ)))
    have h2 := dsD_step (M := lkM a) (t := ixT a T) (u := ixT a (flipAt P c)) (w := ixT a P) h1.1 (by
      rw [row_nb hA hQ]
      refine List.mem_map.2 ⟨c, ?_, by rw [(flip_back (hA.ti P hP) hc).2]⟩
      exact flips_of (flip_back (hA.ti P hP) hc).1)
    omega
theorem wyS_ok {s : Nat} {a : List (List Dom)} (hA : FlipA s a) {P T : List Dom} (hP : P ∈ a) (hT : T ∈ a) (h : 0 < dsD (lkM a) (ixT a T) (ixT a P)) :
    wyS a (ixT a T) P ∈ flipsOf P ∧ dsD (lkM a) (ixT a T) (ixT a (flipAt P (wyS a (ixT a T) P))) = dsD (lkM a) (ixT a T) (ixT a P) - 1 := by
  obtain ⟨c, hc, hd⟩ := near_ex hA hP hT h
  unfold wyS
  cases hf : (flipsOf P).find? (fun c => decide (dsD (lkM a) (ixT a T) (ixT a (flipAt P c)) = dsD (lkM a) (ixT a T) (ixT a P) - 1)) with
  | none => exact absurd (List.find?_eq_none.1 hf c hc) (by simp [hd])
  | some d => exact ⟨List.mem_of_find?_eq_some hf, by simpa using List.find?_some hf⟩
theorem wyP_ok {s : Nat} {a : List (List Dom)} (hA : FlipA s a) {P T : List Dom} (hP : P ∈ a) (hT : T ∈ a) : ∀ j : Nat, (j : Int) ≤ dsD (lkM a) (ixT a T) (ixT a P) → wyP a (ixT a T) P j ∈ a ∧ dsD (lkM a) (ixT a T) (ixT a (wyP a (ixT a T) P j)) = dsD (lkM a) (ixT a T) (ixT a P) - j
  | 0, _ => ⟨hP, by simp [wyP]⟩
  | j + 1, h => by
    obtain ⟨h1, h2⟩ := wyP_ok hA hP hT j (by omega)
    obtain ⟨h3, h4⟩ := wyS_ok hA h1 hT (by omega)
    exact ⟨hA.flip h1 h3, by rw [wyP, h4, h2]; omega⟩
theorem ds_zero {s : Nat} {a : List (List Dom)} (hA : FlipA s a) {P T : List Dom} (hP : P ∈ a) (hT : T ∈ a) : dsD (lkM a) (ixT a T) (ixT a P) = 0 ↔ ixT a P = ixT a T := by
  constructor
  · intro h
    have := dsD_path (M := lkM a) (t := ixT a T) (v := ixT a P) (by omega)
    rw [h] at this
    cases (gp_iff hA hT hP).1 this
    rfl
  · intro h; rw [h]; exact dsD_self _ _
/-- the search's hit -/
theorem wyS_hit {a : List (List Dom)} {t : Int} {P : List Dom} {k : Nat} (hk : k < (flipsOf P).length) (h : dsD (lkM a) t (ixT a (flipAt P (gC (flipsOf P) k))) = dsD (lkM a) t (ixT a P) - 1)
    (hn : ∀ i, i < k → dsD (lkM a) t (ixT a (flipAt P (gC (flipsOf P) i))) ≠ dsD (lkM a) t (ixT a P) - 1) : wyS a t P = gC (flipsOf P) k := by
  unfold wyS
  have : (flipsOf P).find? (fun c => decide (dsD (lkM a) t (ixT a (flipAt P c)) = dsD (lkM a) t (ixT a P) - 1)) = some (gC (flipsOf P) k) := by
    rw [List.find?_eq_some_iff_getElem]
    refine ⟨decide_eq_true h, k, hk, (gC_eq hk).symm, fun j hj => ?_⟩
    have := hn j hj
    rw [gC_eq (by omega)] at this
    simpa using this
  rw [this]; rfl


noncomputable def fwR (l : List Int) (p q : List Dom) : List Cel := if fdR l p q < 0 then [] else wyL (ltR l) (ixT (ltR l) q) p (fdR l p q).toNat
def fwB (n : Int) : Bool := decide (0 ≤ n)
theorem fwR_no {l : List Int} {p q : List Dom} (h : fdR l p q < 0) : fwR l p q = [] := by unfold fwR; rw [if_pos h]
theorem fwR_yes {l : List Int} {p q : List Dom} {j : Nat} (h : ¬ fdR l p q < 0) (hj : j = (fdR l p q).toNat) : wyL (ltR l) (ixT (ltR l) q) p j = fwR l p q := by unfold fwR; rw [if_neg h, hj]
theorem fwB_no {n : Int} (h : n < 0) : fwB n = false := by unfold fwB; rw [decide_eq_false]; omega
theorem fwB_yes {n : Int} (h : ¬ n < 0) : fwB n = true := by unfold fwB; rw [decide_eq_true]; omega
theorem fd_neg {l : List Int} {p q : List Dom} (h : ixT (ltR l) p < 0 ∨ ixT (ltR l) q < 0) : fdR l p q < 0 := by rw [fdR_no h]; decide
theorem wy_bad {a : List (List Dom)} {t v : Int} {P : List Dom} {i : Nat} (hx : ∃ c ∈ flipsOf P, dsD (lkM a) t (ixT a (flipAt P c)) = v) (hi : ¬ i < (flipsOf P).length) (hn : ∀ k, k < i → dsD (lkM a) t (ixT a (flipAt P (gC (flipsOf P) k))) ≠ v) : False := by
  obtain ⟨c, hc, hd⟩ := hx
  obtain ⟨k, hk, e⟩ := List.getElem_of_mem hc
  refine hn k (by omega) ?_
  rw [gC_eq hk, e]; exact hd
theorem wy_more {a : List (List Dom)} {t v : Int} {P : List Dom} {i : Nat} (hn : ∀ k, k < i → dsD (lkM a) t (ixT a (flipAt P (gC (flipsOf P) k))) ≠ v) (h : dsD (lkM a) t (ixT a (flipAt P (gC (flipsOf P) i))) ≠ v) : ∀ k, k < i + 1 → dsD (lkM a) t (ixT a (flipAt P (gC (flipsOf P) k))) ≠ v := by
  intro k hk
  rcases Nat.lt_or_ge k i with h1 | h1
  · exact hn k h1
  · have : k = i := by omega
    subst this; exact h

theorem qFv_sz_22 : (Tryz.prog.info? 22).map (·.size) = some 1 := by kernel_rfl
theorem qFv_sz_3 : (Tryz.prog.info? 3).map (·.size) = some 1 := by kernel_rfl
theorem qFv_sz_31 : (Tryz.prog.info? 31).map (·.size) = some 1 := by kernel_rfl
theorem qFv_sz_70 : (Tryz.prog.info? 70).map (·.size) = some 2 := by kernel_rfl
theorem qFv_ti_22 : TI Tryz.prog 22 false 1 := ⟨⟨_, Tryz.underlying22, rfl⟩, by kernel_rfl⟩
theorem qFv_ti_29 : TI Tryz.prog 29 true 1 := ⟨⟨_, Tryz.underlying29, rfl⟩, by kernel_rfl⟩
theorem qFv_ti_3 : TI Tryz.prog 3 false 1 := ⟨⟨_, Tryz.underlying3, rfl⟩, by kernel_rfl⟩
theorem qFv_ti_31 : TI Tryz.prog 31 false 1 := ⟨⟨_, Tryz.underlying31, rfl⟩, by kernel_rfl⟩
theorem qFv_ti_70 : TI Tryz.prog 70 true 2 := ⟨⟨_, Tryz.underlying70, rfl⟩, by kernel_rfl⟩
theorem qFv_un_22 : Tryz.prog.underlying 22 = some (.slice 3) := Tryz.underlying22
theorem qFv_un_36 : Tryz.prog.underlying 36 = some (.slice 70) := Tryz.underlying36
theorem qFv_un_56 : Tryz.prog.underlying 56 = some (.slice 22) := Tryz.underlying56
theorem qFv_un_58 : Tryz.prog.underlying 58 = some (.slice 31) := Tryz.underlying58
theorem qFv_zi_70 : ZI Tryz.prog 70 (.agg #[.int .i64 0, .int .i64 0]) 2 16 := by unfold ZI; kernel_rfl
set_option maxHeartbeats 4000000 in
set_option maxRecDepth 100000 in
theorem impl_FlipWay_fn_o (l : List Int) (p q : List Dom) (hl : l.length ≤ 4194304) (hp : p.length ≤ 4194304) (hq : q.length ≤ 4194304) : FnO Tryz.prog 15 [.agg [(.sl 800 0 l.length : A)], .a (.sl 801 0 p.length), .a (.sl 802 0 q.length)] [(.o 800, some (.o ⟨3, 1, true, pl (isl l)⟩)), (.o 801, some (.o ⟨62, 3, true, pl (dsl p)⟩)), (.o 802, some (.o ⟨62, 3, true, pl (dsl q)⟩))] (V.tup [.a (.sl 900 0 ((fwR l p q).length)), .a (.val (.bool (fwB (fdR l p q))))]) [(.o 800, some (.o ⟨3, 1, true, pl (isl l)⟩)), (.o 801, some (.o ⟨62, 3, true, pl (dsl p)⟩)), (.o 802, some (.o ⟨62, 3, true, pl (dsl q)⟩)), (.o 900, some (.o ⟨70, 2, true, pl (csl (fwR l p q))⟩))] [800, 801, 802] := by
 have hll := ltR_len l
 have hlr : ∀ k, k < (ltR l).length → (gLd (ltR l) k).length ≤ 64 := fun k hk => Nat.le_trans (ltR_row hk) (by decide)
 have hA := FlipA.of l
 have hml := lkM_len (ltR l)
 have hnl := nrM_len (ltR l)
 have hi1 := ixT_lt (ltR l) p
 have hi2 := ixT_lt (ltR l) q
 have hRI : RowsIn (lkM (ltR l)) (lkM (ltR l)).length := by rw [hml]; exact rows_in hA
 have hNI : RowsIn (nrM (ltR l)) (nrM (ltR l)).length := nr_in hA
 have hdl := dsM_len (lkM (ltR l)) (ixT (ltR l) q) (lkM (ltR l)).length
 have hdn := dsM_len (nrM (ltR l)) (ixT (ltR l) p) (nrM (ltR l)).length
 refine fn_introO (N := 82) Tryz.func15 rfl (by kernel_rfl) rfl (Nat.le_of_ble_eq_true rfl) rfl rfl (by kernel_rfl) (by kernel_rfl) ⟨oc_pl (fun _ => rfl), oc_pl (fun _ => rfl), oc_pl (fun _ => rfl), trivial⟩ [3, 15, 20, 23, 26, 34, 36, 42, 44, 49, 50, 58, 63, 76, 77, 82, 83, 84, 85] (retO2 rfl) (fun W own kp im0 => ?_)
 show Wp _ _ _ [kV 0 (V.b (.agg [(.sl 800 0 l.length : A)])), kS 1 801 0 p.length, kS 2 802 0 q.length, kO 800 3 1 true (pl (isl l)), kO 801 62 3 true (pl (dsl p)), kO 802 62 3 true (pl (dsl q)), kF 3, kF 15, kF 20, kF 23, kF 26, kF 34, kF 36, kF 42, kF 44, kF 49, kF 50, kF 58, kF 63, kF 76, kF 77, kF 82, kF 83, kF 84, kF 85]
 refine sq (rg ?_)
 refine z ?_ (h := fun ν => acts_box (h := 3) ν xt (by exact ob1 rfl))
 refine zk (zk (nl (sq (rg ?_))))
 refine z ?_ (h := fun ν => acts_load_owns (xs := [(.sl 800 0 l.length : A)]) ν qFv_ti_29 rfl (by decide) rfl)
 refine z ?_ (h := fun ν => acts_callO (d := 20) (f := 37) (os := [(.o 800, some (.o ⟨3, 1, true, pl (isl l)⟩))]) (os' := [(.o 800, some (.o ⟨3, 1, true, pl (isl l)⟩)), (.o 15, some (.o ⟨31, 1, true, rwD 62 (ltR l)⟩))]) (r := V.b (.a (.sl 15 0 ((ltR l).length)))) (bs := [.agg [(.sl 800 0 l.length : A)]]) (keep := [800]) (new := [15]) (dead := []) ν (FnO.ren' (impl_ListTilings_fn l (by omega)) (subst1 [(900, 15)]) rfl rfl (by kernel_rfl) (by kernel_rfl) ⟨oc_pl (fun _ => rfl), oc_rwD, trivial⟩ (by kernel_rfl) rfl (by simp only [renS, Ob.ren, pl_ren, rws_ren_doms, rws_ren_ints, rws_ren_cels, rwI_ren, rwD_ren]; first | done | rfl) (by simp only [renS, Ob.ren, pl_ren, rws_ren_doms, rws_ren_ints, rws_ren_cels, rwI_ren, rwD_ren]; first | done | rfl) rfl rfl) (by kernel_rfl) ⟨oc_pl (fun _ => rfl), oc_rwD, trivial⟩ (by kernel_rfl) (ArgOs.cons (ArgO.slot 19 (.agg [(.sl 800 0 l.length : A)])) (ArgOs.nil)))
 refine za (nl (sq (rg (zm (zm ?_)))))
 refine z ?_ (h := fun ν => acts_call1 ν (impl_indexIn_fn (ltR l) p (by omega) (by (intro k hk; exact Nat.le_trans (hlr k hk) (by decide))) (by omega)) (ac (dvD (L := (ltR l))) (ac (argv_own (by exact dsl_len _)) an)) rv)
 refine zm (zm ?_)
 refine z ?_ (h := fun ν => acts_call1 ν (impl_indexIn_fn (ltR l) q (by omega) (by (intro k hk; exact Nat.le_trans (hlr k hk) (by decide))) (by omega)) (ac (dvD (L := (ltR l))) (ac (argv_own (by exact dsl_len _)) an)) rv)
 refine za (za (nl (sq (sq ?_))))
 rcases Bool.eq_false_or_eq_true (decide ((ixT (ltR l) p) < 0)) with c1 | c1
 ·skip
  have c1P := of_decide_eq_true c1
  refine rg (zm ?_)
  refine z ?_ (h := fun ν => acts_bin ν vt vc (r_lss (c := true) c1))
  refine zm (zo (zo ?_))
  refine z ?_ (h := fun ν => acts_pick_t ν vt xc)
  refine nl (wt (sq (rg (zk (zk (nl ?_))))))
  refine wp_weak (wnC (k := 6) (h := 20) (T := 70) (by kernel_rfl) (by kernel_rfl)) ?_
  refine wp_ret' ?_
  exact ⟨[kS 6 900 0 0, kB 7 false, kO 800 3 1 true (pl (isl l)), kO 801 62 3 true (pl (dsl p)), kO 802 62 3 true (pl (dsl q)), kO 900 70 2 true (pl (csl [])), kF 3, kF 15, kF 20, kF 23, kF 26, kF 34, kF 36, kF 42, kF 44, kF 49, kF 50, kF 58, kF 63, kF 76, kF 77, kF 82, kF 83, kF 84, kF 85], wkf (subst1 [(900, 20)]) (wS <| wS <| wP <| wP <| wP <| wP <| by (iterate 19 refine wF ?_); exact wN), ⟨by kernel_rfl, by kernel_rfl, by kernel_rfl, obj_eq (c := pl (csl [])) (by kernel_rfl) (congrArg (fun z => pl (csl z)) (by (rw [fwR_no (fd_neg (by omega))]; done))), trivial⟩, ⟨vo_eq 6 (.a (.sl 900 0 0)) (.a (.sl 900 0 ((fwR l p q).length))) (by kernel_rfl) (congrArg (fun z : Nat => B.a (.sl 900 0 z)) (by (rw [fwR_no (fd_neg (by omega))]; rfl))), vo_eq 7 (.a (.val (.bool false))) (.a (.val (.bool (fwB (fdR l p q))))) (by kernel_rfl) (congrArg (fun z : Bool => B.a (.val (.bool z))) (by exact (fwB_no (fd_neg (by omega))).symm))⟩⟩
 ·skip
  have c1P := of_decide_eq_false c1
  refine rg (zm ?_)
  refine z ?_ (h := fun ν => acts_bin ν vt vc (r_lss (c := false) c1))
  refine zm ?_
  refine zg ?_ (h := fun ν => step_on rfl rfl (mt ν))
  refine zg ?_ (h := fun ν => step_on rfl rfl (acts_bin ν vt vc (r_lss rfl)))
  refine z ?_ (h := fun ν => acts_pick_f ν vt xt)
  refine nl ?_
  refine wi (fun c2 => ?_) (fun c2 => ?_)
  ·skip
   have c2P := of_decide_eq_true c2
   refine sq (rg (zk (zk (nl ?_))))
   refine wp_weak (wnC (k := 6) (h := 20) (T := 70) (by kernel_rfl) (by kernel_rfl)) ?_
   refine wp_ret' ?_
   exact ⟨[kS 6 900 0 0, kB 7 false, kO 800 3 1 true (pl (isl l)), kO 801 62 3 true (pl (dsl p)), kO 802 62 3 true (pl (dsl q)), kO 900 70 2 true (pl (csl [])), kF 3, kF 15, kF 20, kF 23, kF 26, kF 34, kF 36, kF 42, kF 44, kF 49, kF 50, kF 58, kF 63, kF 76, kF 77, kF 82, kF 83, kF 84, kF 85], wkf (subst1 [(900, 20)]) (wS <| wS <| wP <| wP <| wP <| wP <| by (iterate 19 refine wF ?_); exact wN), ⟨by kernel_rfl, by kernel_rfl, by kernel_rfl, obj_eq (c := pl (csl [])) (by kernel_rfl) (congrArg (fun z => pl (csl z)) (by (rw [fwR_no (fd_neg (by omega))]; done))), trivial⟩, ⟨vo_eq 6 (.a (.sl 900 0 0)) (.a (.sl 900 0 ((fwR l p q).length))) (by kernel_rfl) (congrArg (fun z : Nat => B.a (.sl 900 0 z)) (by (rw [fwR_no (fd_neg (by omega))]; rfl))), vo_eq 7 (.a (.val (.bool false))) (.a (.val (.bool (fwB (fdR l p q))))) (by kernel_rfl) (congrArg (fun z : Bool => B.a (.val (.bool z))) (by exact (fwB_no (fd_neg (by omega))).symm))⟩⟩
  ·skip
   have c2P := of_decide_eq_false c2
   refine sk (sq ?_)
   obtain ⟨hpm, hpa, hpl⟩ := ix_in (l := l) (q := p) (by omega)
   obtain ⟨hqm, hqa, hql⟩ := ix_in (l := l) (q := q) (by omega)
   have hDe := fdR_yes (l := l) (p := p) (q := q) (by omega) (by omega)
   have hp64 := len_mem hlr hpm
   have hD300 := dsD_lt (M := lkM (ltR l)) (t := ixT (ltR l) q) hRI ⟨by omega, by omega⟩ (ixT (ltR l) p)
   refine wp_weak (fzD (k := 8) (h := 15) (T0 := 31) (T := 62) (ex0 := true) (n := ((ltR l).length)) (L := (ltR l)) (hn := by rfl)) ?_
   refine rg (zm ?_)
   refine z ?_ (h := fun ν => acts_callO (d := 34) (f := 40) (os := []) (os' := []) (r := V.b (.a (.slvv 1 (vwI (nrM (ltR l)))))) (bs := [.a (.slvv 3 (vwD (ltR l)))]) (keep := []) (new := []) (dead := []) ν ((impl_flipNeighbors_fn (ltR l) (regSet l) (by omega) (by omega) (by omega))) (by kernel_rfl) trivial (by kernel_rfl) (ArgOs.cons (ArgO.slot 33 (.a (.slvv 3 (vwD (ltR l))))) (ArgOs.nil)))
   refine zm ?_
   refine z ?_ (h := fun ν => acts_call1 ν (impl_flipDistances_fn (nrM (ltR l)) (ixT (ltR l) q) (by omega) (by omega) (by (intro k hk; exact nr_row64 hk)) (by omega)) (ac (ArgV.slvv _ _ _) (ac (ArgV.v vt) an)) (ResV.row _ _ _ _ 36))
   refine za (nl (sq (sq ?_)))
   have hD0 := fwI_at (q := q) hpm
   have hdn2 := dsM_len (nrM (ltR l)) (ixT (ltR l) q) (nrM (ltR l)).length
   refine rg (zm (zm ?_))
   refine z ?_ (h := fun ν => ix0 (k := (ixT (ltR l) p).toNat) ν qFv_un_22 qFv_sz_3 vt (Int.toNat_of_nonneg (by omega)).symm (by omega))
   refine z ?_ (h := fun ν => lI ν qFv_ti_3 (by omega))
   refine z ?_ (h := fun ν => acts_bin ν vt vc (r_lss rfl))
   refine nl ?_
   refine wi (fun c3 => ?_) (fun c3 => ?_)
   ·skip
    have c3P := of_decide_eq_true c3
    have hng : fdR l p q < 0 := by omega
    refine sq (rg (zk (zk (nl ?_))))
    refine wp_weak (wnC (k := 6) (h := 20) (T := 70) (by kernel_rfl) (by kernel_rfl)) ?_
    refine wp_ret' ?_
    exact ⟨[kS 6 900 0 0, kB 7 false, kO 800 3 1 true (pl (isl l)), kO 801 62 3 true (pl (dsl p)), kO 802 62 3 true (pl (dsl q)), kO 900 70 2 true (pl (csl [])), kF 3, kF 20, kF 23, kF 26, kF 34, kF 36, kF 42, kF 44, kF 49, kF 50, kF 58, kF 63, kF 76, kF 77, kF 82, kF 83, kF 84, kF 85], wkf (subst1 [(900, 20)]) (wS <| wS <| wP <| wP <| wP <| wP <| by (iterate 18 refine wF ?_); exact wN), ⟨by kernel_rfl, by kernel_rfl, by kernel_rfl, obj_eq (c := pl (csl [])) (by kernel_rfl) (congrArg (fun z => pl (csl z)) (by (rw [fwR_no (by assumption)]; done))), trivial⟩, ⟨vo_eq 6 (.a (.sl 900 0 0)) (.a (.sl 900 0 ((fwR l p q).length))) (by kernel_rfl) (congrArg (fun z : Nat => B.a (.sl 900 0 z)) (by (rw [fwR_no (by assumption)]; rfl))), vo_eq 7 (.a (.val (.bool false))) (.a (.val (.bool (fwB (fdR l p q))))) (by kernel_rfl) (congrArg (fun z : Bool => B.a (.val (.bool z))) (by exact (fwB_no (by assumption)).symm))⟩⟩
   ·skip
    have c3P := of_decide_eq_false c3
    have hng : ¬ fdR l p q < 0 := by omega
    refine sk (sq (rg ?_))
    refine z ?_ (h := fun ν => b0C (h := 42) ν qFv_un_36 qFv_zi_70)
    refine zm ?_
    refine z ?_ (h := fun ν => acts_call1 ν (impl_copyDominoes_fn p (by omega)) (ac (argv_own (by exact dsl_len _)) an) (ResV.row _ _ _ _ 44))
    refine za (za (nl (sq (bkk ?_))))
    refine wp_loop' (fun (j : Nat) => j ≤ (fdR l p q).toNat) (fun (j : Nat) => [kV 8 (V.b (.a (.slvv 3 (vwD (ltR l))))), kI 9 (ixT (ltR l) (wyP (ltR l) (ixT (ltR l) q) p j)), kI 10 (ixT (ltR l) q), kS 11 36 0 ((dsM (nrM (ltR l)) (ixT (ltR l) q) (nrM (ltR l)).length).length), kS 12 42 0 ((wyL (ltR l) (ixT (ltR l) q) p j).length), kS 13 44 0 ((wyP (ltR l) (ixT (ltR l) q) p j).length), kO 36 3 1 true (pl (isl (dsM (nrM (ltR l)) (ixT (ltR l) q) (nrM (ltR l)).length))), kO 42 70 2 true (pl (csl (wyL (ltR l) (ixT (ltR l) q) p j))), kO 44 62 3 true (pl (dsl (wyP (ltR l) (ixT (ltR l) q) p j))), kO 800 3 1 true (pl (isl l)), kO 801 62 3 true (pl (dsl p)), kO 802 62 3 true (pl (dsl q)), kF 3, kF 20, kF 23, kF 26, kF 34, kF 49, kF 50, kF 58, kF 63, kF 76, kF 77, kF 82, kF 83, kF 84, kF 85]) (fun (j : Nat) => (fdR l p q).toNat - j) ((0 : Nat)) (by exact (Nat.zero_le _ : 0 ≤ _)) (wkf id (wS <| wE (e := (vint (by rfl))) <| wS <| wS <| wE (e := (vsl (by rfl) rfl)) <| wE (e := (vsl (by rfl) rfl)) <| wP <| wO (e := renob_eq (fun h => h) (congrArg csl (by rfl))) <| wO (e := renob_eq (fun h => h) (congrArg dsl (by rfl))) <| wP <| wP <| wP <| by (iterate 15 refine wF ?_); exact wN)) ?_
    rintro j inv4
    replace inv4 : j ≤ (fdR l p q).toNat := inv4
    have invj := inv4
    obtain ⟨hPm, hPd⟩ := wyP_ok hA hpm hqm j (by omega)
    have hPi := ixT_mem hPm
    have hPl := (ixT_lt (ltR l) (wyP (ltR l) (ixT (ltR l) q) p j)).1
    have hPu := (ixT_lt (ltR l) (wyP (ltR l) (ixT (ltR l) q) p j)).2
    have hP64 := len_mem hlr hPm
    have hwl := wyL_len (ltR l) (ixT (ltR l) q) p j
    refine sq (sq (rg (zm (zm ?_))))
    refine z ?_ (h := fun ν => acts_bin ν vt vt (r_neq rfl))
    refine nl ?_
    refine wi (fun c5 => ?_) (fun c5 => ?_)
    ·skip
     have c5P := of_decide_eq_true c5
     have hnz : ¬ dsD (lkM (ltR l)) (ixT (ltR l) q) (ixT (ltR l) (wyP (ltR l) (ixT (ltR l) q) p j)) = 0 := fun e => absurd ((ds_zero hA hPm hqm).1 e) (by exact of_decide_eq_true c5)
     have hpos : 0 < dsD (lkM (ltR l)) (ixT (ltR l) q) (ixT (ltR l) (wyP (ltR l) (ixT (ltR l) q) p j)) := by omega
     have hex := near_ex hA hPm hqm hpos
     have hfl := flips_len (wyP (ltR l) (ixT (ltR l) q) p j)
     refine sk (bkk (sq (rg (zm ?_))))
     refine z ?_ (h := fun ν => acts_call1 ν (impl_FlipsOf_fn (wyP (ltR l) (ixT (ltR l) q) p j) (by omega)) (ac (argv_own (by exact dsl_len _)) an) (ResV.row _ _ _ _ 49))
     refine z ?_ (h := fun ν => lnS ν qFv_un_36)
     refine z ?_ (h := fun ν => mc ν)
     refine nl (bkk ?_)
     refine wp_loop' (fun (i : Nat) => i ≤ (flipsOf (wyP (ltR l) (ixT (ltR l) q) p j)).length ∧ ∀ k, k < i → dsD (lkM (ltR l)) (ixT (ltR l) q) (ixT (ltR l) (flipAt (wyP (ltR l) (ixT (ltR l) q) p j) (gC (flipsOf (wyP (ltR l) (ixT (ltR l) q) p j)) k))) ≠ dsD (lkM (ltR l)) (ixT (ltR l) q) (ixT (ltR l) (wyP (ltR l) (ixT (ltR l) q) p j)) - 1) (fun (i : Nat) => [kV 8 (V.b (.a (.slvv 3 (vwD (ltR l))))), kI 9 (ixT (ltR l) (wyP (ltR l) (ixT (ltR l) q) p j)), kI 10 (ixT (ltR l) q), kS 11 36 0 ((dsM (nrM (ltR l)) (ixT (ltR l) q) (nrM (ltR l)).length).length), kS 12 42 0 ((wyL (ltR l) (ixT (ltR l) q) p j).length), kS 13 44 0 ((wyP (ltR l) (ixT (ltR l) q) p j).length), kS 49 49 0 ((flipsOf (wyP (ltR l) (ixT (ltR l) q) p j)).length), kI 50 (((flipsOf (wyP (ltR l) (ixT (ltR l) q) p j)).length : Nat) : Int), kI 51 ((i : Nat) : Int), kO 36 3 1 true (pl (isl (dsM (nrM (ltR l)) (ixT (ltR l) q) (nrM (ltR l)).length))), kO 42 70 2 true (pl (csl (wyL (ltR l) (ixT (ltR l) q) p j))), kO 44 62 3 true (pl (dsl (wyP (ltR l) (ixT (ltR l) q) p j))), kO 49 70 2 true (pl (csl (flipsOf (wyP (ltR l) (ixT (ltR l) q) p j)))), kO 800 3 1 true (pl (isl l)), kO 801 62 3 true (pl (dsl p)), kO 802 62 3 true (pl (dsl q)), kF 3, kF 20, kF 23, kF 26, kF 34, kF 50, kF 58, kF 63, kF 76, kF 77, kF 82, kF 83, kF 84, kF 85]) (fun (i : Nat) => (flipsOf (wyP (ltR l) (ixT (ltR l) q) p j)).length - i) ((0 : Nat)) (by exact ⟨Nat.zero_le _, fun k hk => absurd hk (Nat.not_lt_zero k)⟩) (wkf id (wS <| wS <| wS <| wS <| wS <| wS <| wS <| wS <| wE (e := (vint (by rfl))) <| wP <| wP <| wP <| wP <| wP <| wP <| wP <| by (iterate 14 refine wF ?_); exact wN)) ?_
     rintro i inv6
     replace inv6 : i ≤ (flipsOf (wyP (ltR l) (ixT (ltR l) q) p j)).length ∧ ∀ k, k < i → dsD (lkM (ltR l)) (ixT (ltR l) q) (ixT (ltR l) (flipAt (wyP (ltR l) (ixT (ltR l) q) p j) (gC (flipsOf (wyP (ltR l) (ixT (ltR l) q) p j)) k))) ≠ dsD (lkM (ltR l)) (ixT (ltR l) q) (ixT (ltR l) (wyP (ltR l) (ixT (ltR l) q) p j)) - 1 := inv6
     obtain ⟨hi, hn⟩ := inv6
     refine sq (rg ?_)
     refine z ?_ (h := fun ν => acts_bin ν vt vt (r_lss rfl))
     refine nl (sq ?_)
     refine wi (fun c7 => ?_) (fun c7 => ?_)
     ·skip
      have c7P := of_decide_eq_true c7
      have hQm := hA.flip hPm (c := (gC (flipsOf (wyP (ltR l) (ixT (ltR l) q) p j)) i)) (gC_mem (by omega))
      have hQi := ixT_mem hQm
      have hQl := (ixT_lt (ltR l) (flipAt (wyP (ltR l) (ixT (ltR l) q) p j) (gC (flipsOf (wyP (ltR l) (ixT (ltR l) q) p j)) i))).1
      have hQ64 := len_mem hlr hQm
      have hDP := fwI_at (q := q) hPm
      have hDQ := fwI_at (q := q) hQm
      have hge := dsD_ge (lkM (ltR l)) (ixT (ltR l) q) (ixT (ltR l) (flipAt (wyP (ltR l) (ixT (ltR l) q) p j) (gC (flipsOf (wyP (ltR l) (ixT (ltR l) q) p j)) i)))
      refine sk (sq (bkk (sq (rg ?_))))
      refine z ?_ (h := fun ν => ix0 ν qFv_un_36 qFv_sz_70 vt (hlt := (by omega)))
      refine z ?_ (h := fun ν => lC ν qFv_ti_70 (by omega))
      refine z ?_ (h := fun ν => acts_alloc' (h := 3) (cap := 1) (s := 2) (cells := [aI 0, aI 0]) ν qFv_zi_70 rfl rfl (by decide))
      refine z ?_ (h := fun _ => acts_store (cells := [aI ((gC (flipsOf (wyP (ltR l) (ixT (ltR l) q) p j)) i).x), aI ((gC (flipsOf (wyP (ltR l) (ixT (ltR l) q) p j)) i).y)]) qFv_ti_70 xt (by exact rfl) (by decide) (by exact ob1 rfl) (by exact Nat.le_of_ble_eq_true rfl) (by exact rfl))
      refine nl (sq (rg (zm ?_)))
      refine z ?_ (h := fun ν => acts_load_owns (xs := [vI ((gC (flipsOf (wyP (ltR l) (ixT (ltR l) q) p j)) i).x), vI ((gC (flipsOf (wyP (ltR l) (ixT (ltR l) q) p j)) i).y)].map A.val) ν qFv_ti_70 rfl (by decide) rfl)
      refine z ?_ (h := fun ν => acts_call2 ν (impl_FlipAt_fn (wyP (ltR l) (ixT (ltR l) q) p j) (gC (flipsOf (wyP (ltR l) (ixT (ltR l) q) p j)) i) (by omega)) (ac (argv_own (by exact dsl_len _)) (ac (ArgV.va va) an)) (ResV.row _ _ _ _ 58) rv)
      refine zm ?_
      refine z ?_ (h := fun ν => acts_extract ν (by exact rfl))
      refine z ?_ (h := fun ν => acts_extract ν (by exact rfl))
      refine za (za (nl (sq (rg (zm (zm ?_))))))
      refine z ?_ (h := fun ν => acts_call1 ν (impl_indexIn_fn (ltR l) (flipAt (wyP (ltR l) (ixT (ltR l) q) p j) (gC (flipsOf (wyP (ltR l) (ixT (ltR l) q) p j)) i)) (by omega) (by (intro k hk; exact Nat.le_trans (hlr k hk) (by decide))) (by omega)) (ac (ArgV.slvv _ _ _) (ac (argv_own (by exact dsl_len _)) an)) rv)
      refine za (nl (sq (wp_dr (zdm (zdm ?_)))))
      refine zd ?_ (h := fun ν => ix0 (k := (ixT (ltR l) (flipAt (wyP (ltR l) (ixT (ltR l) q) p j) (gC (flipsOf (wyP (ltR l) (ixT (ltR l) q) p j)) i))).toNat) ν qFv_un_22 qFv_sz_3 vt (Int.toNat_of_nonneg (by omega)).symm (by omega))
      refine zd ?_ (h := fun ν => lI ν qFv_ti_3 (by omega))
      refine zdm (zdm ?_)
      refine zd ?_ (h := fun ν => ix0 (k := (ixT (ltR l) (wyP (ltR l) (ixT (ltR l) q) p j)).toNat) ν qFv_un_22 qFv_sz_3 vt (Int.toNat_of_nonneg (by omega)).symm (by omega))
      refine zd ?_ (h := fun ν => lI ν qFv_ti_3 (by omega))
      refine zd ?_ (h := fun ν => acts_bin ν vt vc (rS (by omega) (by omega)))
      refine zd ?_ (h := fun ν => acts_bin ν vt vt (r_eql rfl))
      refine dw_nil ?_
      refine wi (fun c8 => ?_) (fun c8 => ?_)
      ·skip
       have c8P := of_decide_eq_true c8
       have hhit := wyS_hit (t := ixT (ltR l) q) (by omega) (by omega) hn
       have hL1 : wyL (ltR l) (ixT (ltR l) q) p j ++ [(gC (flipsOf (wyP (ltR l) (ixT (ltR l) q) p j)) i)] = wyL (ltR l) (ixT (ltR l) q) p (j + 1) := by rw [wyL, hhit]
       have hP1 : (flipAt (wyP (ltR l) (ixT (ltR l) q) p j) (gC (flipsOf (wyP (ltR l) (ixT (ltR l) q) p j)) i)) = wyP (ltR l) (ixT (ltR l) q) p (j + 1) := by rw [wyP, hhit]
       have hX1 : ixT (ltR l) (flipAt (wyP (ltR l) (ixT (ltR l) q) p j) (gC (flipsOf (wyP (ltR l) (ixT (ltR l) q) p j)) i)) = ixT (ltR l) (wyP (ltR l) (ixT (ltR l) q) p (j + 1)) := by rw [hP1]
       have hwl1 := wyL_len (ltR l) (ixT (ltR l) q) p (j + 1)
       refine sq (rg (zm ?_))
       refine z ?_ (h := fun ν => acts_load_owns (xs := [vI ((gC (flipsOf (wyP (ltR l) (ixT (ltR l) q) p j)) i).x), vI ((gC (flipsOf (wyP (ltR l) (ixT (ltR l) q) p j)) i).y)].map A.val) ν qFv_ti_70 rfl (by decide) rfl)
       refine z ?_ (h := fun ν => acts_buildSlice' (h := 76) (xs := csl ([(gC (flipsOf (wyP (ltR l) (ixT (ltR l) q) p j)) i)] : List Cel)) ν qFv_un_36 qFv_zi_70 (.cons va OpVs.nil) (by decide) (by decide) (by kernel_rfl) rfl)
       refine z ?_ (h := fun ν => aC_ (h2 := 77) (L3 := ((wyL (ltR l) (ixT (ltR l) q) p j) ++ [(gC (flipsOf (wyP (ltR l) (ixT (ltR l) q) p j)) i)])) ν qFv_un_36 qFv_zi_70 (by exact rfl) rfl (by exact rfl) (by (simp; omega)))
       refine zm (zm (za (za (za (nl (wp_exit' ?_))))))
       exact Exists.intro ((j + 1)) (And.intro (by (show _ ≤ _; omega)) (And.intro (by (first | (exact hbad.elim) | (show (fdR l p q).toNat - (j + 1) < (fdR l p q).toNat - j; omega))) (wkf (subst1 [(42, 77), (44, 58)]) (wS <| wE (e := (vint (by omega))) <| wS <| wS <| wE (e := (vsl (by (simp; omega)) rfl)) <| wE (e := (vsl (by (exact congrArg List.length (by first | rfl | omega | exact hL1 | exact hL1.symm | exact hP1 | exact hP1.symm | exact hX1 | exact hX1.symm))) rfl)) <| wP <| wO (e := renob_eq (fun h => h) (congrArg csl (by exact hL1.symm))) <| wO (e := renob_eq (fun h => h) (congrArg dsl (by exact hP1.symm))) <| wP <| wP <| wP <| by (iterate 15 refine wF ?_); exact wN))))
      ·skip
       have c8P := of_decide_eq_false c8
       have hn2 := wy_more hn (by omega)
       refine sk (rg ?_)
       refine z ?_ (h := fun ν => acts_bin ν vt vc (rA (by omega) (by omega)))
       refine zm (nl ?_)
       exact loop_back ((i + 1)) (by exact ⟨by omega, hn2⟩) (by show (flipsOf (wyP (ltR l) (ixT (ltR l) q) p j)).length - (i + 1) < (flipsOf (wyP (ltR l) (ixT (ltR l) q) p j)).length - i; omega) (wkf id (wS <| wS <| wS <| wS <| wS <| wS <| wS <| wS <| wE (e := (vint (by rfl))) <| wP <| wP <| wP <| wP <| wP <| wP <| wP <| by (iterate 14 refine wF ?_); exact wN))
     ·skip
      have c7P := of_decide_eq_false c7
      have hbad := wy_bad hex (by omega) hn
      refine wp_exit' ?_
      exact Exists.intro (j) (And.intro (by (exact hbad.elim)) (And.intro (by (first | (exact hbad.elim) | (show (fdR l p q).toNat - (j + 1) < (fdR l p q).toNat - j; omega))) (wkf id (wS <| wS <| wS <| wS <| wS <| wS <| wP <| wP <| wP <| wP <| wP <| wP <| by (iterate 15 refine wF ?_); exact wN))))
    ·skip
     have c5P := of_decide_eq_false c5
     have hze : dsD (lkM (ltR l)) (ixT (ltR l) q) (ixT (ltR l) (wyP (ltR l) (ixT (ltR l) q) p j)) = 0 := (ds_zero hA hPm hqm).2 (Decidable.not_not.1 (by exact of_decide_eq_false c5))
     have hje : j = (fdR l p q).toNat := by omega
     refine wp_exit' (sq (rg (zm (za (zk (nl (wp_ret' ?_)))))))
     exact ⟨[kS 6 900 0 ((wyL (ltR l) (ixT (ltR l) q) p j).length), kB 7 true, kO 800 3 1 true (pl (isl l)), kO 801 62 3 true (pl (dsl p)), kO 802 62 3 true (pl (dsl q)), kO 900 70 2 true (pl (csl (wyL (ltR l) (ixT (ltR l) q) p j))), kF 3, kF 20, kF 23, kF 26, kF 34, kF 36, kF 42, kF 44, kF 49, kF 50, kF 58, kF 63, kF 76, kF 77, kF 82, kF 83, kF 84, kF 85], wkf (subst1 [(900, 42)]) (wS <| wS <| wP <| wP <| wP <| wP <| by (iterate 18 refine wF ?_); exact wN), ⟨by kernel_rfl, by kernel_rfl, by kernel_rfl, obj_eq (c := pl (csl (wyL (ltR l) (ixT (ltR l) q) p j))) (by kernel_rfl) (congrArg (fun z => pl (csl z)) (by exact fwR_yes (by assumption) hje)), trivial⟩, ⟨vo_eq 6 (.a (.sl 900 0 ((wyL (ltR l) (ixT (ltR l) q) p j).length))) (.a (.sl 900 0 ((fwR l p q).length))) (by kernel_rfl) (congrArg (fun z : Nat => B.a (.sl 900 0 z)) (by exact congrArg List.length (fwR_yes (by assumption) hje))), vo_eq 7 (.a (.val (.bool true))) (.a (.val (.bool (fwB (fdR l p q))))) (by kernel_rfl) (congrArg (fun z : Bool => B.a (.val (.bool z))) (by exact (fwB_yes (by assumption)).symm))⟩⟩

set_option maxHeartbeats 4000000 in
set_option maxRecDepth 100000 in
theorem spec_FlipWay_fn_o (l : List Int) (p q : List Dom) (hl : l.length ≤ 4194304) (hp : p.length ≤ 4194304) (hq : q.length ≤ 4194304) : FnO Tryz.prog 14 [.agg [(.sl 800 0 l.length : A)], .a (.sl 801 0 p.length), .a (.sl 802 0 q.length)] [(.o 800, some (.o ⟨3, 1, true, pl (isl l)⟩)), (.o 801, some (.o ⟨62, 3, true, pl (dsl p)⟩)), (.o 802, some (.o ⟨62, 3, true, pl (dsl q)⟩))] (V.tup [.a (.sl 900 0 ((fwR l p q).length)), .a (.val (.bool (fwB (fdR l p q))))]) [(.o 800, some (.o ⟨3, 1, true, pl (isl l)⟩)), (.o 801, some (.o ⟨62, 3, true, pl (dsl p)⟩)), (.o 802, some (.o ⟨62, 3, true, pl (dsl q)⟩)), (.o 900, some (.o ⟨70, 2, true, pl (csl (fwR l p q))⟩))] [800, 801, 802] := by
 have hll := ltR_len l
 have hlr : ∀ k, k < (ltR l).length → (gLd (ltR l) k).length ≤ 64 := fun k hk => Nat.le_trans (ltR_row hk) (by decide)
 have hA := FlipA.of l
 have hml := lkM_len (ltR l)
 have hnl := nrM_len (ltR l)
 have hi1 := ixT_lt (ltR l) p
 have hi2 := ixT_lt (ltR l) q
 have hRI : RowsIn (lkM (ltR l)) (lkM (ltR l)).length := by rw [hml]; exact rows_in hA
 have hNI : RowsIn (nrM (ltR l)) (nrM (ltR l)).length := nr_in hA
 have hdl := dsM_len (lkM (ltR l)) (ixT (ltR l) q) (lkM (ltR l)).length
 have hdn := dsM_len (nrM (ltR l)) (ixT (ltR l) p) (nrM (ltR l)).length
 refine fn_introO (N := 88) Tryz.func14 rfl (by kernel_rfl) rfl (Nat.le_of_ble_eq_true rfl) rfl rfl (by kernel_rfl) (by kernel_rfl) ⟨oc_pl (fun _ => rfl), oc_pl (fun _ => rfl), oc_pl (fun _ => rfl), trivial⟩ [3, 16, 19, 22, 31, 33, 36, 50, 53, 78, 79, 88, 89, 90, 91] (retO2 rfl) (fun W own kp im0 => ?_)
 show Wp _ _ _ [kV 0 (V.b (.agg [(.sl 800 0 l.length : A)])), kS 1 801 0 p.length, kS 2 802 0 q.length, kO 800 3 1 true (pl (isl l)), kO 801 62 3 true (pl (dsl p)), kO 802 62 3 true (pl (dsl q)), kF 3, kF 16, kF 19, kF 22, kF 31, kF 33, kF 36, kF 50, kF 53, kF 78, kF 79, kF 88, kF 89, kF 90, kF 91]
 refine sq (rg ?_)
 refine z ?_ (h := fun ν => acts_box (h := 3) ν xt (by exact ob1 rfl))
 refine zk (zk (nl (sq (rg ?_))))
 refine z ?_ (h := fun ν => b0C (h := 16) ν qFv_un_36 qFv_zi_70)
 refine za (nl (sq (rg ?_)))
 refine z ?_ (h := fun ν => acts_load_owns (xs := [(.sl 800 0 l.length : A)]) ν qFv_ti_29 rfl (by decide) rfl)
 refine zm ?_
 refine z ?_ (h := fun ν => acts_callO (d := 19) (f := 30) (os := [(.o 800, some (.o ⟨3, 1, true, pl (isl l)⟩)), (.o 801, some (.o ⟨62, 3, true, pl (dsl p)⟩))]) (os' := [(.o 800, some (.o ⟨3, 1, true, pl (isl l)⟩)), (.o 801, some (.o ⟨62, 3, true, pl (dsl p)⟩))]) (r := V.v (.int .i64 (ixT (ltR l) p))) (bs := [.agg [(.sl 800 0 l.length : A)], .a (.sl 801 0 p.length)]) (keep := [800, 801]) (new := []) (dead := []) ν ((spec_IndexOf_fn l p (by omega) (by omega))) (by kernel_rfl) ⟨oc_pl (fun _ => rfl), oc_pl (fun _ => rfl), trivial⟩ (by kernel_rfl) (ArgOs.cons (ArgO.slot 17 (.agg [(.sl 800 0 l.length : A)])) (ArgOs.cons (ArgO.slot 18 (.a (.sl 801 0 p.length))) (ArgOs.nil))))
 refine za (nl (sq (rg ?_)))
 refine z ?_ (h := fun ν => acts_load_owns (xs := [(.sl 800 0 l.length : A)]) ν qFv_ti_29 rfl (by decide) rfl)
 refine zm ?_
 refine z ?_ (h := fun ν => acts_callO (d := 22) (f := 30) (os := [(.o 800, some (.o ⟨3, 1, true, pl (isl l)⟩)), (.o 802, some (.o ⟨62, 3, true, pl (dsl q)⟩))]) (os' := [(.o 800, some (.o ⟨3, 1, true, pl (isl l)⟩)), (.o 802, some (.o ⟨62, 3, true, pl (dsl q)⟩))]) (r := V.v (.int .i64 (ixT (ltR l) q))) (bs := [.agg [(.sl 800 0 l.length : A)], .a (.sl 802 0 q.length)]) (keep := [800, 802]) (new := []) (dead := []) ν (FnO.ren' (spec_IndexOf_fn l q (by omega) (by omega)) (subst1 [(801, 802)]) rfl rfl (by kernel_rfl) (by kernel_rfl) ⟨oc_pl (fun _ => rfl), oc_pl (fun _ => rfl), trivial⟩ (by kernel_rfl) rfl (by simp only [renS, Ob.ren, pl_ren, rws_ren_doms, rws_ren_ints, rws_ren_cels, rwI_ren, rwD_ren]; first | done | rfl) (by simp only [renS, Ob.ren, pl_ren, rws_ren_doms, rws_ren_ints, rws_ren_cels, rwI_ren, rwD_ren]; first | done | rfl) rfl rfl) (by kernel_rfl) ⟨oc_pl (fun _ => rfl), oc_pl (fun _ => rfl), trivial⟩ (by kernel_rfl) (ArgOs.cons (ArgO.slot 20 (.agg [(.sl 800 0 l.length : A)])) (ArgOs.cons (ArgO.slot 21 (.a (.sl 802 0 q.length))) (ArgOs.nil))))
 refine za (nl (sq (sq ?_)))
 rcases Bool.eq_false_or_eq_true (decide ((ixT (ltR l) p) < 0)) with c1 | c1
 ·skip
  have c1P := of_decide_eq_true c1
  refine rg (zm ?_)
  refine z ?_ (h := fun ν => acts_bin ν vt vc (r_lss (c := true) c1))
  refine zm (zo (zo ?_))
  refine z ?_ (h := fun ν => acts_pick_t ν vt xc)
  refine nl (wt (sq (rg (zm (za (zk (nl (wp_ret' ?_))))))))
  exact ⟨[kS 6 900 0 0, kB 7 false, kO 800 3 1 true (pl (isl l)), kO 801 62 3 true (pl (dsl p)), kO 802 62 3 true (pl (dsl q)), kO 900 70 2 true (pl (csl [])), kF 3, kF 16, kF 19, kF 22, kF 31, kF 33, kF 36, kF 50, kF 53, kF 78, kF 79, kF 88, kF 89, kF 90, kF 91], wkf (subst1 [(900, 16)]) (wS <| wS <| wP <| wP <| wP <| wP <| by (iterate 15 refine wF ?_); exact wN), ⟨by kernel_rfl, by kernel_rfl, by kernel_rfl, obj_eq (c := pl (csl [])) (by kernel_rfl) (congrArg (fun z => pl (csl z)) (by (rw [fwR_no (fd_neg (by omega))]; done))), trivial⟩, ⟨vo_eq 6 (.a (.sl 900 0 0)) (.a (.sl 900 0 ((fwR l p q).length))) (by kernel_rfl) (congrArg (fun z : Nat => B.a (.sl 900 0 z)) (by (rw [fwR_no (fd_neg (by omega))]; rfl))), vo_eq 7 (.a (.val (.bool false))) (.a (.val (.bool (fwB (fdR l p q))))) (by kernel_rfl) (congrArg (fun z : Bool => B.a (.val (.bool z))) (by exact (fwB_no (fd_neg (by omega))).symm))⟩⟩
 ·skip
  have c1P := of_decide_eq_false c1
  refine rg (zm ?_)
  refine z ?_ (h := fun ν => acts_bin ν vt vc (r_lss (c := false) c1))
  refine zm ?_
  refine zg ?_ (h := fun ν => step_on rfl rfl (mt ν))
  refine zg ?_ (h := fun ν => step_on rfl rfl (acts_bin ν vt vc (r_lss rfl)))
  refine z ?_ (h := fun ν => acts_pick_f ν vt xt)
  refine nl ?_
  refine wi (fun c2 => ?_) (fun c2 => ?_)
  ·skip
   have c2P := of_decide_eq_true c2
   refine sq (rg (zm (za (zk (nl (wp_ret' ?_))))))
   exact ⟨[kS 6 900 0 0, kB 7 false, kO 800 3 1 true (pl (isl l)), kO 801 62 3 true (pl (dsl p)), kO 802 62 3 true (pl (dsl q)), kO 900 70 2 true (pl (csl [])), kF 3, kF 16, kF 19, kF 22, kF 31, kF 33, kF 36, kF 50, kF 53, kF 78, kF 79, kF 88, kF 89, kF 90, kF 91], wkf (subst1 [(900, 16)]) (wS <| wS <| wP <| wP <| wP <| wP <| by (iterate 15 refine wF ?_); exact wN), ⟨by kernel_rfl, by kernel_rfl, by kernel_rfl, obj_eq (c := pl (csl [])) (by kernel_rfl) (congrArg (fun z => pl (csl z)) (by (rw [fwR_no (fd_neg (by omega))]; done))), trivial⟩, ⟨vo_eq 6 (.a (.sl 900 0 0)) (.a (.sl 900 0 ((fwR l p q).length))) (by kernel_rfl) (congrArg (fun z : Nat => B.a (.sl 900 0 z)) (by (rw [fwR_no (fd_neg (by omega))]; rfl))), vo_eq 7 (.a (.val (.bool false))) (.a (.val (.bool (fwB (fdR l p q))))) (by kernel_rfl) (congrArg (fun z : Bool => B.a (.val (.bool z))) (by exact (fwB_no (fd_neg (by omega))).symm))⟩⟩
  ·skip
   have c2P := of_decide_eq_false c2
   refine sk (sq ?_)
   obtain ⟨hpm, hpa, hpl⟩ := ix_in (l := l) (q := p) (by omega)
   obtain ⟨hqm, hqa, hql⟩ := ix_in (l := l) (q := q) (by omega)
   have hDe := fdR_yes (l := l) (p := p) (q := q) (by omega) (by omega)
   have hp64 := len_mem hlr hpm
   have hD300 := dsD_lt (M := lkM (ltR l)) (t := ixT (ltR l) q) hRI ⟨by omega, by omega⟩ (ixT (ltR l) p)
   refine rg ?_
   refine z ?_ (h := fun ν => acts_load_owns (xs := [(.sl 800 0 l.length : A)]) ν qFv_ti_29 rfl (by decide) rfl)
   refine z ?_ (h := fun ν => acts_callO (d := 31) (f := 34) (os := [(.o 800, some (.o ⟨3, 1, true, pl (isl l)⟩))]) (os' := [(.o 800, some (.o ⟨3, 1, true, pl (isl l)⟩))]) (r := V.b (.a (.slvv 3 (vwD (ltR l))))) (bs := [.agg [(.sl 800 0 l.length : A)]]) (keep := [800]) (new := []) (dead := []) ν ((spec_ListTilings_fn l (by omega))) (by kernel_rfl) ⟨oc_pl (fun _ => rfl), trivial⟩ (by kernel_rfl) (ArgOs.cons (ArgO.slot 30 (.agg [(.sl 800 0 l.length : A)])) (ArgOs.nil)))
   refine za (nl (sq (rg (zm ?_))))
   refine z ?_ (h := fun ν => acts_callO (d := 33) (f := 33) (os := []) (os' := []) (r := V.b (.a (.slvv 1 (vwI (lkM (ltR l)))))) (bs := [.a (.slvv 3 (vwD (ltR l)))]) (keep := []) (new := []) (dead := []) ν ((spec_l12Links_fn (ltR l) (by omega) (by omega))) (by kernel_rfl) trivial (by kernel_rfl) (ArgOs.cons (ArgO.slot 32 (.a (.slvv 3 (vwD (ltR l))))) (ArgOs.nil)))
   refine za (nl (sq (rg (zm (zm ?_)))))
   refine z ?_ (h := fun ν => acts_call1 ν (spec_l12Distances_fn (lkM (ltR l)) (ixT (ltR l) q) (by omega) (by omega) (by (intro k hk; exact Nat.le_trans (lk_row64 hA hk) (by decide))) (by omega)) (ac (ArgV.slvv _ _ _) (ac (ArgV.v vt) an)) (ResV.row _ _ _ _ 36))
   refine za (nl (sq (sq ?_)))
   have hD0 := fwS_at (q := q) hpm
   refine rg (zm (zm ?_))
   refine z ?_ (h := fun ν => ix0 (k := (ixT (ltR l) p).toNat) ν qFv_un_22 qFv_sz_3 vt (Int.toNat_of_nonneg (by omega)).symm (by omega))
   refine z ?_ (h := fun ν => lI ν qFv_ti_3 (by omega))
   refine z ?_ (h := fun ν => acts_bin ν vt vc (r_lss rfl))
   refine nl ?_
   refine wi (fun c3 => ?_) (fun c3 => ?_)
   ·skip
    have c3P := of_decide_eq_true c3
    have hng : fdR l p q < 0 := by omega
    refine sq (rg (zm (za (zk (nl (wp_ret' ?_))))))
    exact ⟨[kS 6 900 0 0, kB 7 false, kO 800 3 1 true (pl (isl l)), kO 801 62 3 true (pl (dsl p)), kO 802 62 3 true (pl (dsl q)), kO 900 70 2 true (pl (csl [])), kF 3, kF 16, kF 19, kF 22, kF 31, kF 33, kF 36, kF 50, kF 53, kF 78, kF 79, kF 88, kF 89, kF 90, kF 91], wkf (subst1 [(900, 16)]) (wS <| wS <| wP <| wP <| wP <| wP <| by (iterate 15 refine wF ?_); exact wN), ⟨by kernel_rfl, by kernel_rfl, by kernel_rfl, obj_eq (c := pl (csl [])) (by kernel_rfl) (congrArg (fun z => pl (csl z)) (by (rw [fwR_no (by assumption)]; done))), trivial⟩, ⟨vo_eq 6 (.a (.sl 900 0 0)) (.a (.sl 900 0 ((fwR l p q).length))) (by kernel_rfl) (congrArg (fun z : Nat => B.a (.sl 900 0 z)) (by (rw [fwR_no (by assumption)]; rfl))), vo_eq 7 (.a (.val (.bool false))) (.a (.val (.bool (fwB (fdR l p q))))) (by kernel_rfl) (congrArg (fun z : Bool => B.a (.val (.bool z))) (by exact (fwB_no (by assumption)).symm))⟩⟩
   ·skip
    have c3P := of_decide_eq_false c3
    have hng : ¬ fdR l p q < 0 := by omega
    refine sk (sq (bkk ?_))
    refine wp_loop' (fun (j : Nat) => j ≤ (fdR l p q).toNat) (fun (j : Nat) => [kS 8 16 0 ((wyL (ltR l) (ixT (ltR l) q) p j).length), kI 9 (ixT (ltR l) (wyP (ltR l) (ixT (ltR l) q) p j)), kI 10 (ixT (ltR l) q), kV 11 (V.b (.a (.slvv 3 (vwD (ltR l))))), kV 12 (V.b (.a (.slvv 1 (vwI (lkM (ltR l)))))), kS 13 36 0 ((dsM (lkM (ltR l)) (ixT (ltR l) q) (lkM (ltR l)).length).length), kO 16 70 2 true (pl (csl (wyL (ltR l) (ixT (ltR l) q) p j))), kO 36 3 1 true (pl (isl (dsM (lkM (ltR l)) (ixT (ltR l) q) (lkM (ltR l)).length))), kO 800 3 1 true (pl (isl l)), kO 801 62 3 true (pl (dsl p)), kO 802 62 3 true (pl (dsl q)), kF 3, kF 19, kF 22, kF 31, kF 33, kF 50, kF 53, kF 78, kF 79, kF 88, kF 89, kF 90, kF 91]) (fun (j : Nat) => (fdR l p q).toNat - j) ((0 : Nat)) (by exact (Nat.zero_le _ : 0 ≤ _)) (wkf id (wE (e := (vsl (by rfl) rfl)) <| wE (e := (vint (by rfl))) <| wS <| wS <| wS <| wS <| wO (e := renob_eq (fun h => h) (congrArg csl (by rfl))) <| wP <| wP <| wP <| wP <| by (iterate 13 refine wF ?_); exact wN)) ?_
    rintro j inv4
    replace inv4 : j ≤ (fdR l p q).toNat := inv4
    have invj := inv4
    obtain ⟨hPm, hPd⟩ := wyP_ok hA hpm hqm j (by omega)
    have hPi := ixT_mem hPm
    have hPl := (ixT_lt (ltR l) (wyP (ltR l) (ixT (ltR l) q) p j)).1
    have hPu := (ixT_lt (ltR l) (wyP (ltR l) (ixT (ltR l) q) p j)).2
    have hP64 := len_mem hlr hPm
    have hwl := wyL_len (ltR l) (ixT (ltR l) q) p j
    refine sq (sq (rg (zm (zm ?_))))
    refine z ?_ (h := fun ν => acts_bin ν vt vt (r_neq rfl))
    refine nl ?_
    refine wi (fun c5 => ?_) (fun c5 => ?_)
    ·skip
     have c5P := of_decide_eq_true c5
     have hnz : ¬ dsD (lkM (ltR l)) (ixT (ltR l) q) (ixT (ltR l) (wyP (ltR l) (ixT (ltR l) q) p j)) = 0 := fun e => absurd ((ds_zero hA hPm hqm).1 e) (by exact of_decide_eq_true c5)
     have hpos : 0 < dsD (lkM (ltR l)) (ixT (ltR l) q) (ixT (ltR l) (wyP (ltR l) (ixT (ltR l) q) p j)) := by omega
     have hex := near_ex hA hPm hqm hpos
     have hfl := flips_len (wyP (ltR l) (ixT (ltR l) q) p j)
     have hGP : (gLd (ltR l) (ixT (ltR l) (wyP (ltR l) (ixT (ltR l) q) p j)).toNat) = (wyP (ltR l) (ixT (ltR l) q) p j) := (ixT_at hPi).2
     have hfg : (flipsOf (gLd (ltR l) (ixT (ltR l) (wyP (ltR l) (ixT (ltR l) q) p j)).toNat)).length = (flipsOf (wyP (ltR l) (ixT (ltR l) q) p j)).length := by rw [hGP]
     have hrw := row_nb hA hPm
     have hrl : (gLs (lkM (ltR l)) (ixT (ltR l) (wyP (ltR l) (ixT (ltR l) q) p j)).toNat).length = (flipsOf (wyP (ltR l) (ixT (ltR l) q) p j)).length := by rw [hrw, nbI_len]
     refine sk (bkk (sq (rg (zm (zm ?_)))))
     refine z ?_ (h := fun ν => xvv (k := (ixT (ltR l) (wyP (ltR l) (ixT (ltR l) q) p j)).toNat) ν qFv_un_58 qFv_sz_31 vt (Int.toNat_of_nonneg (by omega)).symm (hlt := (by simp only [vwI_len, vwD_len]; first | omega | assumption | exact hlr _ (by first | assumption | omega) | exact Nat.le_trans (hlr _ (by first | assumption | omega)) (by decide))))
     refine z ?_ (h := fun ν => lvD ν qFv_ti_31 (by omega))
     refine z ?_ (h := fun ν => acts_call1 ν (spec_FlipsOf_fn (gLd (ltR l) ((ixT (ltR l) (wyP (ltR l) (ixT (ltR l) q) p j)).toNat)) (by exact Nat.le_trans (hlr _ (by first | assumption | omega)) (by decide))) (ac (ArgV.slv _ _ _ _) an) (ResV.row _ _ _ _ 50))
     refine za (nl (sq (rg (zk (nl (bkk ?_))))))
     refine wp_loop' (fun (i : Nat) => i ≤ (flipsOf (wyP (ltR l) (ixT (ltR l) q) p j)).length ∧ ∀ k, k < i → dsD (lkM (ltR l)) (ixT (ltR l) q) (ixT (ltR l) (flipAt (wyP (ltR l) (ixT (ltR l) q) p j) (gC (flipsOf (wyP (ltR l) (ixT (ltR l) q) p j)) k))) ≠ dsD (lkM (ltR l)) (ixT (ltR l) q) (ixT (ltR l) (wyP (ltR l) (ixT (ltR l) q) p j)) - 1) (fun (i : Nat) => [kS 8 16 0 ((wyL (ltR l) (ixT (ltR l) q) p j).length), kI 9 (ixT (ltR l) (wyP (ltR l) (ixT (ltR l) q) p j)), kI 10 (ixT (ltR l) q), kV 11 (V.b (.a (.slvv 3 (vwD (ltR l))))), kV 12 (V.b (.a (.slvv 1 (vwI (lkM (ltR l)))))), kS 13 36 0 ((dsM (lkM (ltR l)) (ixT (ltR l) q) (lkM (ltR l)).length).length), kS 14 50 0 ((flipsOf (gLd (ltR l) ((ixT (ltR l) (wyP (ltR l) (ixT (ltR l) q) p j)).toNat))).length), kI 15 ((i : Nat) : Int), kO 16 70 2 true (pl (csl (wyL (ltR l) (ixT (ltR l) q) p j))), kO 36 3 1 true (pl (isl (dsM (lkM (ltR l)) (ixT (ltR l) q) (lkM (ltR l)).length))), kO 50 70 2 true (pl (csl (flipsOf (gLd (ltR l) ((ixT (ltR l) (wyP (ltR l) (ixT (ltR l) q) p j)).toNat))))), kO 800 3 1 true (pl (isl l)), kO 801 62 3 true (pl (dsl p)), kO 802 62 3 true (pl (dsl q)), kF 3, kF 19, kF 22, kF 31, kF 33, kF 53, kF 78, kF 79, kF 88, kF 89, kF 90, kF 91]) (fun (i : Nat) => (flipsOf (wyP (ltR l) (ixT (ltR l) q) p j)).length - i) ((0 : Nat)) (by exact ⟨Nat.zero_le _, fun k hk => absurd hk (Nat.not_lt_zero k)⟩) (wkf id (wS <| wS <| wS <| wS <| wS <| wS <| wS <| wE (e := (vint (by rfl))) <| wP <| wP <| wP <| wP <| wP <| wP <| by (iterate 12 refine wF ?_); exact wN)) ?_
     rintro i inv6
     replace inv6 : i ≤ (flipsOf (wyP (ltR l) (ixT (ltR l) q) p j)).length ∧ ∀ k, k < i → dsD (lkM (ltR l)) (ixT (ltR l) q) (ixT (ltR l) (flipAt (wyP (ltR l) (ixT (ltR l) q) p j) (gC (flipsOf (wyP (ltR l) (ixT (ltR l) q) p j)) k))) ≠ dsD (lkM (ltR l)) (ixT (ltR l) q) (ixT (ltR l) (wyP (ltR l) (ixT (ltR l) q) p j)) - 1 := inv6
     obtain ⟨hi, hn⟩ := inv6
     refine sq (sq (rg (zm (zm ?_))))
     refine z ?_ (h := fun ν => lnS ν qFv_un_36)
     refine z ?_ (h := fun ν => acts_bin ν vt vt (r_lss rfl))
     refine nl ?_
     refine wi (fun c7 => ?_) (fun c7 => ?_)
     ·skip
      have c7P := of_decide_eq_true c7
      have hQm := hA.flip hPm (c := (gC (flipsOf (wyP (ltR l) (ixT (ltR l) q) p j)) i)) (gC_mem (by omega))
      have hQi := ixT_mem hQm
      have hQl := (ixT_lt (ltR l) (flipAt (wyP (ltR l) (ixT (ltR l) q) p j) (gC (flipsOf (wyP (ltR l) (ixT (ltR l) q) p j)) i))).1
      have hDP := fwS_at (q := q) hPm
      have hDQ := fwS_at (q := q) hQm
      have hge := dsD_ge (lkM (ltR l)) (ixT (ltR l) q) (ixT (ltR l) (flipAt (wyP (ltR l) (ixT (ltR l) q) p j) (gC (flipsOf (wyP (ltR l) (ixT (ltR l) q) p j)) i)))
      have hCG : (gC (flipsOf (gLd (ltR l) (ixT (ltR l) (wyP (ltR l) (ixT (ltR l) q) p j)).toNat)) i) = (gC (flipsOf (wyP (ltR l) (ixT (ltR l) q) p j)) i) := by rw [hGP]
      have hWQ : (gI (gLs (lkM (ltR l)) (ixT (ltR l) (wyP (ltR l) (ixT (ltR l) q) p j)).toNat) i) = ixT (ltR l) (flipAt (wyP (ltR l) (ixT (ltR l) q) p j) (gC (flipsOf (wyP (ltR l) (ixT (ltR l) q) p j)) i)) := by rw [hrw]; exact nbI_at (by omega)
      rw [← hWQ] at hQi hQl hDQ
      refine sk (sq (bkk (sq (wp_dr (zdm (zdm (zdm ?_)))))))
      refine zd ?_ (h := fun ν => xvv (k := (ixT (ltR l) (wyP (ltR l) (ixT (ltR l) q) p j)).toNat) ν qFv_un_56 qFv_sz_22 vt (Int.toNat_of_nonneg (by omega)).symm (hlt := (by simp only [vwI_len, vwD_len]; first | omega | assumption | exact hlr _ (by first | assumption | omega) | exact Nat.le_trans (hlr _ (by first | assumption | omega)) (by decide))))
      refine zd ?_ (h := fun ν => lvI ν qFv_ti_22 (by omega))
      refine zdm ?_
      refine zd ?_ (h := fun ν => ixv ν qFv_un_22 qFv_sz_3 vt (hlt := (by omega)))
      refine zd ?_ (h := fun ν => uI ν qFv_ti_3 (by omega))
      refine zd ?_ (h := fun ν => ix0 (k := (gI (gLs (lkM (ltR l)) ((ixT (ltR l) (wyP (ltR l) (ixT (ltR l) q) p j)).toNat)) i).toNat) ν qFv_un_22 qFv_sz_3 vt (Int.toNat_of_nonneg (by omega)).symm (by omega))
      refine zd ?_ (h := fun ν => lI ν qFv_ti_3 (by omega))
      refine zdm (zdm ?_)
      refine zd ?_ (h := fun ν => ix0 (k := (ixT (ltR l) (wyP (ltR l) (ixT (ltR l) q) p j)).toNat) ν qFv_un_22 qFv_sz_3 vt (Int.toNat_of_nonneg (by omega)).symm (by omega))
      refine zd ?_ (h := fun ν => lI ν qFv_ti_3 (by omega))
      refine zd ?_ (h := fun ν => acts_bin ν vt vc (rS (by omega) (by omega)))
      refine zd ?_ (h := fun ν => acts_bin ν vt vt (r_eql rfl))
      refine dw_nil ?_
      refine wi (fun c8 => ?_) (fun c8 => ?_)
      ·skip
       have c8P := of_decide_eq_true c8
       rw [hWQ] at hDQ
       have hDW : dsD (lkM (ltR l)) (ixT (ltR l) q) (ixT (ltR l) (flipAt (wyP (ltR l) (ixT (ltR l) q) p j) (gC (flipsOf (wyP (ltR l) (ixT (ltR l) q) p j)) i))) = dsD (lkM (ltR l)) (ixT (ltR l) q) (ixT (ltR l) (wyP (ltR l) (ixT (ltR l) q) p j)) - 1 := by rw [hWQ] at c8P; omega
       have hhit := wyS_hit (t := ixT (ltR l) q) (by omega) hDW hn
       have hL1 : wyL (ltR l) (ixT (ltR l) q) p j ++ [(gC (flipsOf (gLd (ltR l) (ixT (ltR l) (wyP (ltR l) (ixT (ltR l) q) p j)).toNat)) i)] = wyL (ltR l) (ixT (ltR l) q) p (j + 1) := by rw [hCG, wyL, hhit]
       have hP1 : (flipAt (wyP (ltR l) (ixT (ltR l) q) p j) (gC (flipsOf (wyP (ltR l) (ixT (ltR l) q) p j)) i)) = wyP (ltR l) (ixT (ltR l) q) p (j + 1) := by rw [wyP, hhit]
       have hX1 : (gI (gLs (lkM (ltR l)) (ixT (ltR l) (wyP (ltR l) (ixT (ltR l) q) p j)).toNat) i) = ixT (ltR l) (wyP (ltR l) (ixT (ltR l) q) p (j + 1)) := by rw [hWQ, hP1]
       have hwl1 := wyL_len (ltR l) (ixT (ltR l) q) p (j + 1)
       refine sq (rg (zm (zm (zm ?_))))
       refine z ?_ (h := fun ν => ix0 ν qFv_un_36 qFv_sz_70 vt (hlt := (by omega)))
       refine z ?_ (h := fun ν => lC ν qFv_ti_70 (by omega))
       refine z ?_ (h := fun ν => acts_buildSlice' (h := 78) (xs := csl ([(gC (flipsOf (gLd (ltR l) ((ixT (ltR l) (wyP (ltR l) (ixT (ltR l) q) p j)).toNat))) i)] : List Cel)) ν qFv_un_36 qFv_zi_70 (.cons va OpVs.nil) (by decide) (by decide) (by kernel_rfl) rfl)
       refine z ?_ (h := fun ν => aC_ (h2 := 79) (L3 := ((wyL (ltR l) (ixT (ltR l) q) p j) ++ [(gC (flipsOf (gLd (ltR l) ((ixT (ltR l) (wyP (ltR l) (ixT (ltR l) q) p j)).toNat))) i)])) ν qFv_un_36 qFv_zi_70 (by exact rfl) rfl (by exact rfl) (by (simp; omega)))
       refine za (nl (sq (rg (zm (zm ?_)))))
       refine z ?_ (h := fun ν => xvv (k := (ixT (ltR l) (wyP (ltR l) (ixT (ltR l) q) p j)).toNat) ν qFv_un_56 qFv_sz_22 vt (Int.toNat_of_nonneg (by omega)).symm (hlt := (by simp only [vwI_len, vwD_len]; first | omega | assumption | exact hlr _ (by first | assumption | omega) | exact Nat.le_trans (hlr _ (by first | assumption | omega)) (by decide))))
       refine z ?_ (h := fun ν => lvI ν qFv_ti_22 (by omega))
       refine zm ?_
       refine z ?_ (h := fun ν => ixv ν qFv_un_22 qFv_sz_3 vt (hlt := (by omega)))
       refine z ?_ (h := fun ν => uI ν qFv_ti_3 (by omega))
       refine za (nl (wp_exit' ?_))
       exact Exists.intro ((j + 1)) (And.intro (by (show _ ≤ _; omega)) (And.intro (by (first | (exact hbad.elim) | (show (fdR l p q).toNat - (j + 1) < (fdR l p q).toNat - j; omega))) (wkf (subst1 [(16, 79)]) (wE (e := (vsl (by (simp; omega)) rfl)) <| wE (e := (vint (by omega))) <| wS <| wS <| wS <| wS <| wO (e := renob_eq (fun h => h) (congrArg csl (by exact hL1.symm))) <| wP <| wP <| wP <| wP <| by (iterate 13 refine wF ?_); exact wN))))
      ·skip
       have c8P := of_decide_eq_false c8
       rw [hWQ] at hDQ
       have hDW : ¬ dsD (lkM (ltR l)) (ixT (ltR l) q) (ixT (ltR l) (flipAt (wyP (ltR l) (ixT (ltR l) q) p j) (gC (flipsOf (wyP (ltR l) (ixT (ltR l) q) p j)) i))) = dsD (lkM (ltR l)) (ixT (ltR l) q) (ixT (ltR l) (wyP (ltR l) (ixT (ltR l) q) p j)) - 1 := by intro e; rw [hWQ] at c8P; omega
       have hn2 := wy_more hn hDW
       refine sk (rg (zm ?_))
       refine z ?_ (h := fun ν => acts_bin ν vt vc (rA (by omega) (by omega)))
       refine za (nl ?_)
       exact loop_back ((i + 1)) (by exact ⟨by omega, hn2⟩) (by show (flipsOf (wyP (ltR l) (ixT (ltR l) q) p j)).length - (i + 1) < (flipsOf (wyP (ltR l) (ixT (ltR l) q) p j)).length - i; omega) (wkf id (wS <| wS <| wS <| wS <| wS <| wS <| wS <| wE (e := (vint (by rfl))) <| wP <| wP <| wP <| wP <| wP <| wP <| by (iterate 12 refine wF ?_); exact wN))
     ·skip
      have c7P := of_decide_eq_false c7
      have hbad := wy_bad hex (by omega) hn
      refine wp_exit' ?_
      exact Exists.intro (j) (And.intro (by (exact hbad.elim)) (And.intro (by (first | (exact hbad.elim) | (show (fdR l p q).toNat - (j + 1) < (fdR l p q).toNat - j; omega))) (wkf id (wS <| wS <| wS <| wS <| wS <| wS <| wP <| wP <| wP <| wP <| wP <| by (iterate 13 refine wF ?_); exact wN))))
    ·skip
     have c5P := of_decide_eq_false c5
     have hze : dsD (lkM (ltR l)) (ixT (ltR l) q) (ixT (ltR l) (wyP (ltR l) (ixT (ltR l) q) p j)) = 0 := (ds_zero hA hPm hqm).2 (Decidable.not_not.1 (by exact of_decide_eq_false c5))
     have hje : j = (fdR l p q).toNat := by omega
     refine wp_exit' (sq (rg (zm (za (zk (nl (wp_ret' ?_)))))))
     exact ⟨[kS 6 900 0 ((wyL (ltR l) (ixT (ltR l) q) p j).length), kB 7 true, kO 800 3 1 true (pl (isl l)), kO 801 62 3 true (pl (dsl p)), kO 802 62 3 true (pl (dsl q)), kO 900 70 2 true (pl (csl (wyL (ltR l) (ixT (ltR l) q) p j))), kF 3, kF 16, kF 19, kF 22, kF 31, kF 33, kF 36, kF 50, kF 53, kF 78, kF 79, kF 88, kF 89, kF 90, kF 91], wkf (subst1 [(900, 16)]) (wS <| wS <| wP <| wP <| wP <| wP <| by (iterate 15 refine wF ?_); exact wN), ⟨by kernel_rfl, by kernel_rfl, by kernel_rfl, obj_eq (c := pl (csl (wyL (ltR l) (ixT (ltR l) q) p j))) (by kernel_rfl) (congrArg (fun z => pl (csl z)) (by exact fwR_yes (by assumption) hje)), trivial⟩, ⟨vo_eq 6 (.a (.sl 900 0 ((wyL (ltR l) (ixT (ltR l) q) p j).length))) (.a (.sl 900 0 ((fwR l p q).length))) (by kernel_rfl) (congrArg (fun z : Nat => B.a (.sl 900 0 z)) (by exact congrArg List.length (fwR_yes (by assumption) hje))), vo_eq 7 (.a (.val (.bool true))) (.a (.val (.bool (fwB (fdR l p q))))) (by kernel_rfl) (congrArg (fun z : Bool => B.a (.val (.bool z))) (by exact (fwB_yes (by assumption)).symm))⟩⟩
end Cl
end Go.Proofs.YtgmkkfdnmdohlaaGreatDoor
