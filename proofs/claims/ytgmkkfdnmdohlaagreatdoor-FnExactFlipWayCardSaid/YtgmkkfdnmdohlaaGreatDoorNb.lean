/- Walks over clean states, printed by wg.py. No statement is proved here. -/
import Derived.Test.YtgmkkfdnmdohlaaGreatDoorClC
import Derived.Test.YtgmkkfdnmdohlaaGreatDoorTx
import Derived.Test.YtgmkkfdnmdohlaaGreatDoorFw
import Derived.Test.YtgmkkfdnmdohlaaGreatDoorE8
import Derived.Test.YtgmkkfdnmdohlaaGreatDoorClB
set_option linter.unusedSimpArgs false
set_option linter.unusedVariables false
namespace Go.Proofs.YtgmkkfdnmdohlaaGreatDoor
namespace Cl
open Go.ChangeShapes Go.WideShapes Go.ChangeAt Go.RowKit
set_option maxRecDepth 20000
/-- what the map holds after k rounds: text of the i-th tiling -> i -/
def mpD (L : List (List Dom)) : Nat → DataW Unit
  | 0 => .map []
  | k + 1 => (mpD L k).put (.string (tT (L.getD k []))) (.lit (.int .i64 k))
theorem mpD_isMap (L : List (List Dom)) : ∀ k, Maps.IsMap (mpD L k)
  | 0 => Maps.isMap_empty
  | k + 1 => by
    obtain ⟨es, h⟩ := mpD_isMap L k
    exact ⟨_, by rw [mpD, h]; rfl⟩
theorem mpD_at {L : List (List Dom)} (hn : L.Nodup) (hb : ∀ l ∈ L, ∀ d ∈ l, dBd d) {i : Nat} (z : DataW Unit) : ∀ k, i < k → k ≤ L.length → (mpD L k).atKey (.string (tT (L.getD i []))) z = .lit (.int .i64 i)
  | 0, h, _ => absurd h (Nat.not_lt_zero _)
  | k + 1, h, hk => by
    rw [mpD]
    by_cases e : i = k
    · subst e
      exact Maps.atKey_put_same (mpD_isMap L i) (by simp [WideAt.IsKeyLit]) _ _
    · rw [Maps.atKey_put_other, mpD_at hn hb z k (by omega) (by omega)]
      intro e2
      injection e2 with e2
      have h1 : i < L.length := by omega
      have h2 : k < L.length := by omega
      rw [List.getD_eq_getElem?_getD, List.getD_eq_getElem?_getD, List.getElem?_eq_getElem h1, List.getElem?_eq_getElem h2, Option.getD_some, Option.getD_some] at e2
      have := tT_inj (hb _ (List.getElem_mem h1)) (hb _ (List.getElem_mem h2)) e2
      exact e ((List.getElem_inj hn).1 this)

/-- neighbors, sorted, of every tiling of a list (what the program's search uses) -/
def nrM (a : List (List Dom)) : List (List Int) := a.map fun P => srt (nbI a P)
theorem nrM_len (a : List (List Dom)) : (nrM a).length = a.length := by simp [nrM]
theorem nrM_row {a : List (List Dom)} {k : Nat} (h : k < a.length) : gLs (nrM a) k = srt (nbI a (gLd a k)) := by
  rw [gLs_eq (by rw [nrM_len]; exact h), gLd_eq h]; simp [nrM]
def nrT (a : List (List Dom)) (k : Nat) : List (List Int) := (a.take k).map fun P => srt (nbI a P)
theorem nrT_snoc {a : List (List Dom)} {k : Nat} (h : k < a.length) : nrT a k ++ [srt (nbI a (gLd a k))] = nrT a (k + 1) := by
  unfold nrT; rw [List.take_succ_eq_append_getElem h, List.map_append, gLd_eq h]; rfl
theorem nrT_end {a : List (List Dom)} {k : Nat} (h : ¬ k < a.length) : nrT a k = nrM a := by unfold nrT nrM; rw [List.take_of_length_le (by omega)]
theorem nrT_len {a : List (List Dom)} {k : Nat} (h : k ≤ a.length) : (nrT a k).length = k := by unfold nrT; rw [List.length_map, List.length_take]; omega
theorem gLs_out {M : List (List Int)} {k : Nat} (h : M.length ≤ k) : gLs M k = [] := by unfold gLs; simp [List.getD_eq_getElem?_getD, List.getElem?_eq_none h]
theorem nr_mem {s : Nat} {a : List (List Dom)} (hA : FlipA s a) (k : Nat) (w : Int) : w ∈ gLs (nrM a) k ↔ w ∈ gLs (lkM a) k := by
  by_cases h : k < a.length
  · have hP : gLd a k ∈ a := by rw [gLd_eq h]; exact List.getElem_mem h
    rw [nrM_row h, lkM_row h, lkR_nb hA hP]
    exact (srt_perm _).mem_iff
  · rw [gLs_out (by rw [nrM_len]; omega), gLs_out (by rw [lkM_len]; omega)]
theorem GP.congr {M N : List (List Int)} (h : ∀ k w, w ∈ gLs M k → w ∈ gLs N k) {n : Nat} {t v : Int} (hp : GP M n t v) : GP N n t v := by
  induction hp with
  | nil u => exact .nil u
  | snoc n u v w _ hw ih => exact .snoc n u v w ih (h _ _ hw)
theorem dsD_congr {M N : List (List Int)} (h : ∀ k w, w ∈ gLs M k ↔ w ∈ gLs N k) (t v : Int) : dsD M t v = dsD N t v := by
  have e : IsD M t v = IsD N t v := by
    funext d
    have : ∀ n, GP M n t v ↔ GP N n t v := fun n => ⟨GP.congr fun k w => (h k w).1, GP.congr fun k w => (h k w).2⟩
    unfold IsD; simp only [this]
  unfold dsD; rw [e]
theorem dsD_nr {s : Nat} {a : List (List Dom)} (hA : FlipA s a) (t v : Int) : dsD (nrM a) t v = dsD (lkM a) t v := dsD_congr (nr_mem hA) t v
theorem nr_in {s : Nat} {a : List (List Dom)} (hA : FlipA s a) : RowsIn (nrM a) (nrM a).length := by
  rw [nrM_len]
  intro k hk w hw
  exact rows_in hA k hk w ((nr_mem hA k w).1 hw)
theorem nr_row64 {a : List (List Dom)} {k : Nat} (hk : k < (nrM a).length) : (gLs (nrM a) k).length ≤ 64 := by
  rw [nrM_len] at hk
  rw [nrM_row hk, (srt_perm _).length_eq, nbI_len]
  exact flips_len _
/-- the program's distance is the reference's -/
theorem fd_nr {l : List Int} {p q : List Dom} (h1 : ¬ ixT (ltR l) p < 0) (h2 : ¬ ixT (ltR l) q < 0) : dsD (nrM (ltR l)) (ixT (ltR l) p) (ixT (ltR l) q) = fdR l p q := by
  have hA := FlipA.of l
  have m1 := (ix_in (l := l) (q := p) h1).1
  have m2 := (ix_in (l := l) (q := q) h2).1
  rw [fdR_yes h1 h2, dsD_nr hA, dsD_swap hA m1 m2]


theorem mpD_ix {s : Nat} {a : List (List Dom)} (hA : FlipA s a) {P : List Dom} (hP : P ∈ a) (z : DataW Unit) : (mpD a a.length).atKey (.string (tT P)) z = .lit (.int .i64 (ixT a P)) := by
  have h1 := ixT_mem hP
  obtain ⟨h2, h3⟩ := ixT_at (a := a) (q := P) h1
  have h4 := mpD_at hA.nd (fun l hl d hd => okD_dBd ((hA.ti l hl).ok d hd)) (i := (ixT a P).toNat) z a.length h2 (Nat.le_refl _)
  have h5 : a.getD (ixT a P).toNat [] = P := h3
  rw [h5] at h4
  rw [h4, show (((ixT a P).toNat : Nat) : Int) = ixT a P by omega]
theorem len_mem {a : List (List Dom)} (hr : ∀ k, k < a.length → (gLd a k).length ≤ 64) {P : List Dom} (hP : P ∈ a) : P.length ≤ 64 := by
  obtain ⟨k, hk, rfl⟩ := List.getElem_of_mem hP
  have := hr k hk; rwa [gLd_eq hk] at this
theorem tT_small {l : List Dom} (h : l.length ≤ 64) : (tT l).length ≤ maxLen := by have := tT_len l; unfold maxLen; omega
/-- the i-th round of a tiling's neighbors -/
def nrK (a : List (List Dom)) (P : List Dom) (i : Nat) : List Int := srt ((nbI a P).take i)
theorem nrK_zero (a : List (List Dom)) (P : List Dom) : nrK a P 0 = [] := by simp [nrK, srt]
theorem nrK_snoc {a : List (List Dom)} {P : List Dom} {i : Nat} (h : i < (flipsOf P).length) : putL (nrK a P i) (ixT a (flipAt P (gC (flipsOf P) i))) = nrK a P (i + 1) := by
  have := srt_snoc (nbI a P) i (by rw [nbI_len]; omega)
  rw [nbI_at h] at this; exact this.symm
theorem nrK_end {a : List (List Dom)} {P : List Dom} {i : Nat} (h : ¬ i < (flipsOf P).length) : nrK a P i = srt (nbI a P) := by
  unfold nrK; rw [List.take_of_length_le (by rw [nbI_len]; omega)]
theorem nrK_len {a : List (List Dom)} {P : List Dom} {i : Nat} (h : i ≤ (flipsOf P).length) : (nrK a P i).length = i := by
  unfold nrK; rw [srt_len, List.length_take, nbI_len]; omega

theorem qNb_sz_31 : (Tryz.prog.info? 31).map (·.size) = some 1 := by kernel_rfl
theorem qNb_sz_70 : (Tryz.prog.info? 70).map (·.size) = some 2 := by kernel_rfl
theorem qNb_ti_31 : TI Tryz.prog 31 false 1 := ⟨⟨_, Tryz.underlying31, rfl⟩, by kernel_rfl⟩
theorem qNb_ti_70 : TI Tryz.prog 70 true 2 := ⟨⟨_, Tryz.underlying70, rfl⟩, by kernel_rfl⟩
theorem qNb_un_22 : Tryz.prog.underlying 22 = some (.slice 3) := Tryz.underlying22
theorem qNb_un_3 : Tryz.prog.underlying 3 = some (.int .i64) := Tryz.underlying3
theorem qNb_un_36 : Tryz.prog.underlying 36 = some (.slice 70) := Tryz.underlying36
theorem qNb_un_56 : Tryz.prog.underlying 56 = some (.slice 22) := Tryz.underlying56
theorem qNb_un_58 : Tryz.prog.underlying 58 = some (.slice 31) := Tryz.underlying58
theorem qNb_un_86 : Tryz.prog.underlying 86 = some (.map 9 3) := Tryz.underlying86
theorem qNb_un_9 : Tryz.prog.underlying 9 = some .string := Tryz.underlying9
theorem qNb_zi_22 : ZI Tryz.prog 22 (.slice none 0 0) 1 24 := by unfold ZI; kernel_rfl
theorem qNb_zi_3 : ZI Tryz.prog 3 (.int .i64 0) 1 8 := by unfold ZI; kernel_rfl
theorem qNb_zi_70 : ZI Tryz.prog 70 (.agg #[.int .i64 0, .int .i64 0]) 2 16 := by unfold ZI; kernel_rfl
set_option maxHeartbeats 4000000 in
set_option maxRecDepth 100000 in
theorem impl_flipNeighbors_fn (a : List (List Dom)) (s : Nat) (hA : FlipA s a) (ha : a.length ≤ 300) (hr : ∀ k, k < a.length → (gLd a k).length ≤ 64) : FnO Tryz.prog 40 [.a (.slvv 3 (vwD a))] [] (V.b (.a (.slvv 1 (vwI (nrM a))))) [] [] := by
 refine fn_introO (N := 61) Tryz.func40 rfl (by kernel_rfl) rfl (Nat.le_of_ble_eq_true rfl) rfl rfl (by kernel_rfl) (by kernel_rfl) trivial [11, 16, 24, 27, 29, 34, 36, 37, 45, 51, 53, 57, 58, 61, 62, 63, 64] (retO1 rfl) (fun W own kp im0 => ?_)
 show Wp _ _ _ [kV 0 (V.b (.a (.slvv 3 (vwD a)))), kF 11, kF 16, kF 24, kF 27, kF 29, kF 34, kF 36, kF 37, kF 45, kF 51, kF 53, kF 57, kF 58, kF 61, kF 62, kF 63, kF 64]
 refine sq (rg (zk (nl ?_)))
 refine wp_make (H := Unit) (k := 9) (e := 3) (ltN rfl) (fun Bm w0 hM hown => ?_)
 refine ⟨_, fun Q hQ => zQ (wq_nil hQ) (h := fun ν => gt ν), ?_⟩
 refine wm_seq ?_
 refine wm_seq ?_
 refine wm_in hM ?_
 refine rg (zm ?_)
 refine z ?_ (h := fun ν => lnD ν qNb_un_58)
 refine z ?_ (h := fun ν => mc ν)
 refine nl ?_
 refine fun hM => ?_
 refine wm_block ?_
 refine wm_loop (fun (k : Nat) (u : World) => k ≤ a.length ∧ u.ownsMap Tryz.prog 9 (plainElem Tryz.prog 3) Bm k (mpD a k)) (fun (k : Nat) => [kV 0 (V.b (.a (.slvv 3 (vwD a)))), kV 3 (V.v (.map (some Bm))), kV 15 (V.b (.a (.slvv 3 (vwD a)))), kI 16 ((a.length : Nat) : Int), kI 17 ((k : Nat) : Int), kF 11, kF 16, kF 24, kF 27, kF 29, kF 34, kF 36, kF 37, kF 45, kF 51, kF 53, kF 57, kF 58, kF 61, kF 62, kF 63, kF 64]) (fun (k : Nat) => a.length - k) ((0 : Nat)) (by exact ⟨Nat.zero_le _, hown⟩) hM (wkf id (wS <| wS <| wS <| wS <| wE (e := (vint (by first | rfl | omega | (simp; done) | (simp; omega)))) <| by (iterate 17 refine wF ?_); exact wN)) ?_
 intro k w1 hM inv1
 obtain ⟨hk, hown⟩ := inv1
 refine wm_seq ?_
 refine wm_in hM ?_
 refine rg ?_
 refine z ?_ (h := fun ν => acts_bin ν vt vt (r_lss rfl))
 refine nl ?_
 refine fun hM => ?_
 refine wm_seq ?_
 refine wm_in hM ?_
 refine wi (fun c2 => ?_) (fun c2 => ?_)
 ·skip
  have c2P := of_decide_eq_true c2
  have hrk := hr k (by omega)
  have hPk : gLd a k ∈ a := by rw [gLd_eq (by omega)]; exact List.getElem_mem _
  have hokk : ∀ d ∈ gLd a k, okD d = true := (hA.ti _ hPk).ok
  have hfl := flips_len (gLd a k)
  refine sk ?_
  refine fun hM => ?_
  refine wm_seq ?_
  refine wm_block ?_
  refine wm_seq ?_
  refine wm_in hM ?_
  refine rg (zm ?_)
  refine z ?_ (h := fun ν => xvv ν qNb_un_58 qNb_sz_31 vt (hlt := (by simp only [vwI_len, vwD_len]; first | omega | assumption | exact hr _ (by omega) | exact Nat.le_trans (hr _ (by omega)) (by decide) | exact tT_small (by omega) | exact hokk | exact hokq | exact Nat.lt_of_lt_of_le (show _ < 300 by omega) (by decide))))
  refine z ?_ (h := fun ν => lvD ν qNb_ti_31 (by first | omega | assumption | exact hr _ (by omega) | exact Nat.le_trans (hr _ (by omega)) (by decide) | exact tT_small (by omega) | exact hokk | exact hokq | exact Nat.lt_of_lt_of_le (show _ < 300 by omega) (by decide)))
  refine za (za (nl ?_))
  refine fun hM => ?_
  refine wm_region ?_
  refine zM ?_ (h := fun ν => mt ν)
  refine zM ?_ (h := fun ν => mt ν)
  refine zM ?_ (h := fun ν => acts_call1 ν (impl_TilingText_fn (gLd a k) (by first | omega | assumption | exact hr _ (by omega) | exact Nat.le_trans (hr _ (by omega)) (by decide) | exact tT_small (by omega) | exact hokk | exact hokq | exact Nat.lt_of_lt_of_le (show _ < 300 by omega) (by decide)) (by first | omega | assumption | exact hr _ (by omega) | exact Nat.le_trans (hr _ (by omega)) (by decide) | exact tT_small (by omega) | exact hokk | exact hokq | exact Nat.lt_of_lt_of_le (show _ < 300 by omega) (by decide))) (ac (ArgV.slv _ _ _ _) an) rv)
  refine zM ?_ (h := fun ν => mt ν)
  refine wlm_update (n := k) (c := ((k : Nat) : Int)) hM (mapK qNb_un_9) qNb_un_86 qNb_un_3 hown (by first | omega | assumption | exact hr _ (by omega) | exact Nat.le_trans (hr _ (by omega)) (by decide) | exact tT_small (by omega) | exact hokk | exact hokq | exact Nat.lt_of_lt_of_le (show _ < 300 by omega) (by decide)) (keyT qNb_un_9 (by first | omega | assumption | exact hr _ (by omega) | exact Nat.le_trans (hr _ (by omega)) (by decide) | exact tT_small (by omega) | exact hokk | exact hokq | exact Nat.lt_of_lt_of_le (show _ < 300 by omega) (by decide))) (wfI (by omega) (by omega)) vt vt vt (by exact rfl) (fun w1 hM hown => ?_)
  refine wlm_nil hM ?_
  refine fun hM => ?_
  refine wm_in hM ?_
  refine rg ?_
  refine z ?_ (h := fun ν => acts_bin ν vt vc (rA (by first | omega | assumption | exact hr _ (by omega) | exact Nat.le_trans (hr _ (by omega)) (by decide) | exact tT_small (by omega) | exact hokk | exact hokq | exact Nat.lt_of_lt_of_le (show _ < 300 by omega) (by decide)) (by first | omega | assumption | exact hr _ (by omega) | exact Nat.le_trans (hr _ (by omega)) (by decide) | exact tT_small (by omega) | exact hokk | exact hokq | exact Nat.lt_of_lt_of_le (show _ < 300 by omega) (by decide))))
  refine zm (nl ?_)
  exact Exists.intro ((k + 1)) (And.intro (by exact ⟨by omega, hown⟩) (And.intro (by show a.length - (k + 1) < a.length - k; omega) (wkf id (wS <| wS <| wS <| wS <| wE (e := (vint (by first | rfl | omega | (simp; done) | (simp; omega)))) <| by (iterate 17 refine wF ?_); exact wN))))
 ·skip
  have c2P := of_decide_eq_false c2
  have hka : k = a.length := by omega
  rw [hka] at hown
  refine wp_exit' ?_
  refine fun hM => ?_
  refine wm_in hM ?_
  refine sq (rg ?_)
  refine z ?_ (h := fun ν => b0Q (h := 27) (T := 3) ν qNb_un_56 qNb_zi_22)
  refine za (nl (sq (sq (rg (zm ?_)))))
  refine z ?_ (h := fun ν => lnD ν qNb_un_58)
  refine z ?_ (h := fun ν => mc ν)
  refine nl (bkk ?_)
  refine wp_loop' (fun (j : Nat) => j ≤ a.length) (fun (j : Nat) => [kV 3 (V.v (.map (some Bm))), kS 6 27 0 ((nrT a j).length), kV 28 (V.b (.a (.slvv 3 (vwD a)))), kI 29 ((a.length : Nat) : Int), kI 30 ((j : Nat) : Int), kO 27 22 1 true (rwI 3 (nrT a j)), kF 11, kF 16, kF 24, kF 29, kF 34, kF 36, kF 37, kF 45, kF 51, kF 53, kF 57, kF 58, kF 61, kF 62, kF 63, kF 64]) (fun (j : Nat) => a.length - j) ((0 : Nat)) (by exact (Nat.zero_le _ : 0 ≤ _)) (wkf id (wS <| wE (e := (vsl (by first | rfl | (simp; done) | (simp; omega) | omega | (exact congrArg List.length (by first | rfl | omega | (rw [hle]; exact nrT_snoc (by omega)) | (rw [hle]; exact Eq.symm (nrT_snoc (by omega)))))) rfl)) <| wS <| wS <| wE (e := (vint (by first | rfl | omega | (rw [hle]; exact nrT_snoc (by omega)) | (rw [hle]; exact Eq.symm (nrT_snoc (by omega)))))) <| wQI (e := (by first | rfl | omega | (rw [hle]; exact nrT_snoc (by omega)) | (rw [hle]; exact Eq.symm (nrT_snoc (by omega))))) <| by (iterate 16 refine wF ?_); exact wN)) ?_
  rintro j inv3
  replace inv3 : j ≤ a.length := inv3
  have invj := inv3
  have htl := nrT_len invj
  refine sq (rg ?_)
  refine z ?_ (h := fun ν => acts_bin ν vt vt (r_lss rfl))
  refine nl (sq ?_)
  refine wi (fun c4 => ?_) (fun c4 => ?_)
  ·skip
   have c4P := of_decide_eq_true c4
   have hrk := hr j (by omega)
   have hPk : gLd a j ∈ a := by rw [gLd_eq (by omega)]; exact List.getElem_mem _
   have hokk : ∀ d ∈ gLd a j, okD d = true := (hA.ti _ hPk).ok
   have hfl := flips_len (gLd a j)
   refine sk (sq (bkk (sq (rg ?_))))
   refine z ?_ (h := fun ν => xvv ν qNb_un_58 qNb_sz_31 vt (hlt := (by simp only [vwI_len, vwD_len]; first | omega | assumption | exact hr _ (by omega) | exact Nat.le_trans (hr _ (by omega)) (by decide) | exact tT_small (by omega) | exact hokk | exact hokq | exact Nat.lt_of_lt_of_le (show _ < 300 by omega) (by decide))))
   refine z ?_ (h := fun ν => lvD ν qNb_ti_31 (by first | omega | assumption | exact hr _ (by omega) | exact Nat.le_trans (hr _ (by omega)) (by decide) | exact tT_small (by omega) | exact hokk | exact hokq | exact Nat.lt_of_lt_of_le (show _ < 300 by omega) (by decide)))
   refine za (nl (sq (rg ?_)))
   refine z ?_ (h := fun ν => b0I (h := 34) ν qNb_un_22 qNb_zi_3)
   refine za (nl (sq (sq (rg (zm ?_)))))
   refine z ?_ (h := fun ν => acts_call1 ν (impl_FlipsOf_fn (gLd a j) (by first | omega | assumption | exact hr _ (by omega) | exact Nat.le_trans (hr _ (by omega)) (by decide) | exact tT_small (by omega) | exact hokk | exact hokq | exact Nat.lt_of_lt_of_le (show _ < 300 by omega) (by decide))) (ac (ArgV.slv _ _ _ _) an) (ResV.row _ _ _ _ 36))
   refine z ?_ (h := fun ν => lnS ν qNb_un_36)
   refine z ?_ (h := fun ν => mc ν)
   refine nl (bkk ?_)
   refine wp_loop' (fun (i : Nat) => i ≤ (flipsOf (gLd a j)).length) (fun (i : Nat) => [kV 3 (V.v (.map (some Bm))), kS 6 27 0 ((nrT a j).length), kV 8 (V.b (.a (.slv ((gLd a j).length) 3 (dsl (gLd a j))))), kS 9 34 0 ((nrK a (gLd a j) i).length), kV 28 (V.b (.a (.slvv 3 (vwD a)))), kI 29 ((a.length : Nat) : Int), kI 30 ((j : Nat) : Int), kS 36 36 0 ((flipsOf (gLd a j)).length), kI 37 (((flipsOf (gLd a j)).length : Nat) : Int), kI 38 ((i : Nat) : Int), kO 27 22 1 true (rwI 3 (nrT a j)), kO 34 3 1 true (pl (isl (nrK a (gLd a j) i))), kO 36 70 2 true (pl (csl (flipsOf (gLd a j)))), kF 11, kF 16, kF 24, kF 29, kF 37, kF 45, kF 51, kF 53, kF 57, kF 58, kF 61, kF 62, kF 63, kF 64]) (fun (i : Nat) => (flipsOf (gLd a j)).length - i) ((0 : Nat)) (by exact (Nat.zero_le _ : 0 ≤ _)) (wkf id (wS <| wS <| wS <| wE (e := (vsl (by first | rfl | (simp; done) | (simp; omega) | omega | (exact congrArg List.length (by first | rfl | omega | exact hsn | exact hsn.symm | exact nrK_zero _ _ | exact (nrK_zero _ _).symm))) rfl)) <| wS <| wS <| wS <| wS <| wS <| wE (e := (vint (by first | rfl | omega | exact hsn | exact hsn.symm | exact nrK_zero _ _ | exact (nrK_zero _ _).symm))) <| wQI <| wO (e := renob_eq (fun h => h) (congrArg isl (by first | rfl | omega | exact hsn | exact hsn.symm | exact nrK_zero _ _ | exact (nrK_zero _ _).symm))) <| wP <| by (iterate 14 refine wF ?_); exact wN)) ?_
   rintro i inv5
   replace inv5 : i ≤ (flipsOf (gLd a j)).length := inv5
   have invi := inv5
   have hkl := nrK_len (a := a) (P := gLd a j) invi
   refine sq (rg ?_)
   refine z ?_ (h := fun ν => acts_bin ν vt vt (r_lss rfl))
   refine nl (sq ?_)
   refine wi (fun c6 => ?_) (fun c6 => ?_)
   ·skip
    have c6P := of_decide_eq_true c6
    have hQi := hA.flip hPk (c := gC (flipsOf (gLd a j)) i) (by rw [gC_eq (by omega)]; exact List.getElem_mem _)
    have hokq : ∀ d ∈ (flipAt (gLd a j) (gC (flipsOf (gLd a j)) i)), okD d = true := (hA.ti _ hQi).ok
    have hq64 := len_mem hr hQi
    have hsn := nrK_snoc (a := a) (P := (gLd a j)) (i := i) (by omega)
    refine sk (sq (bkk (sq (rg ?_))))
    refine z ?_ (h := fun ν => ix0 ν qNb_un_36 qNb_sz_70 vt (hlt := (by first | omega | assumption | exact hr _ (by omega) | exact Nat.le_trans (hr _ (by omega)) (by decide) | exact tT_small (by omega) | exact hokk | exact hokq | exact Nat.lt_of_lt_of_le (show _ < 300 by omega) (by decide))))
    refine z ?_ (h := fun ν => lC ν qNb_ti_70 (by first | omega | assumption | exact hr _ (by omega) | exact Nat.le_trans (hr _ (by omega)) (by decide) | exact tT_small (by omega) | exact hokk | exact hokq | exact Nat.lt_of_lt_of_le (show _ < 300 by omega) (by decide)))
    refine z ?_ (h := fun ν => acts_alloc' (h := 11) (cap := 1) (s := 2) (cells := [aI 0, aI 0]) ν qNb_zi_70 rfl rfl (by decide))
    refine z ?_ (h := fun _ => acts_store (cells := [aI ((gC (flipsOf (gLd a j)) i).x), aI ((gC (flipsOf (gLd a j)) i).y)]) qNb_ti_70 xt (by exact rfl) (by decide) (by exact ob1 rfl) (by exact Nat.le_of_ble_eq_true rfl) (by exact rfl))
    refine nl (sq (rg (zm ?_)))
    refine z ?_ (h := fun ν => acts_load_owns (xs := [vI ((gC (flipsOf (gLd a j)) i).x), vI ((gC (flipsOf (gLd a j)) i).y)].map A.val) ν qNb_ti_70 rfl (by decide) rfl)
    refine z ?_ (h := fun ν => acts_call2 ν (impl_FlipAt_fn (gLd a j) (gC (flipsOf (gLd a j)) i) (by first | omega | assumption | exact hr _ (by omega) | exact Nat.le_trans (hr _ (by omega)) (by decide) | exact tT_small (by omega) | exact hokk | exact hokq | exact Nat.lt_of_lt_of_le (show _ < 300 by omega) (by decide))) (ac (ArgV.slv _ _ _ _) (ac (ArgV.va va) an)) (ResV.row _ _ _ _ 45) rv)
    refine zm ?_
    refine z ?_ (h := fun ν => acts_extract ν (by exact rfl))
    refine z ?_ (h := fun ν => acts_extract ν (by exact rfl))
    refine za (za (nl (rg (zm (zm (zm ?_))))))
    refine z ?_ (h := fun ν => acts_call1 ν (impl_TilingText_fn (flipAt (gLd a j) (gC (flipsOf (gLd a j)) i)) (by first | omega | assumption | exact hr _ (by omega) | exact Nat.le_trans (hr _ (by omega)) (by decide) | exact tT_small (by omega) | exact hokk | exact hokq | exact Nat.lt_of_lt_of_le (show _ < 300 by omega) (by decide)) (by first | omega | assumption | exact hr _ (by omega) | exact Nat.le_trans (hr _ (by omega)) (by decide) | exact tT_small (by omega) | exact hokk | exact hokq | exact Nat.lt_of_lt_of_le (show _ < 300 by omega) (by decide))) (ac (argv_own (by first | exact dsl_len _ | (simp [isl_len, bsl_len, dsl_len, csl_len]; done) | (simp [isl_len, bsl_len, dsl_len, csl_len]; omega))) an) rv)
    refine z ?_ (h := fun ν => acts_lookup (c := (ixT a (flipAt (gLd a j) (gC (flipsOf (gLd a j)) i)))) hM ν (mapK qNb_un_9) qNb_un_86 qNb_un_3 (zvI qNb_zi_3) hown vt vt (keyT qNb_un_9 (by first | omega | assumption | exact hr _ (by omega) | exact Nat.le_trans (hr _ (by omega)) (by decide) | exact tT_small (by omega) | exact hokk | exact hokq | exact Nat.lt_of_lt_of_le (show _ < 300 by omega) (by decide))) (mpD_ix hA hQi _))
    refine z ?_ (h := fun ν => acts_call1 ν (impl_put_fn (nrK a (gLd a j) i) (ixT a (flipAt (gLd a j) (gC (flipsOf (gLd a j)) i))) (by first | omega | assumption | exact hr _ (by omega) | exact Nat.le_trans (hr _ (by omega)) (by decide) | exact tT_small (by omega) | exact hokk | exact hokq | exact Nat.lt_of_lt_of_le (show _ < 300 by omega) (by decide))) (ac (argv_own (by first | exact isl_len _ | (simp [isl_len, bsl_len, dsl_len, csl_len]; done) | (simp [isl_len, bsl_len, dsl_len, csl_len]; omega))) (ac (ArgV.v vt) an)) (ResV.row _ _ _ _ 53))
    refine za (nl (rg ?_))
    refine z ?_ (h := fun ν => acts_bin ν vt vc (rA (by first | omega | assumption | exact hr _ (by omega) | exact Nat.le_trans (hr _ (by omega)) (by decide) | exact tT_small (by omega) | exact hokk | exact hokq | exact Nat.lt_of_lt_of_le (show _ < 300 by omega) (by decide)) (by first | omega | assumption | exact hr _ (by omega) | exact Nat.le_trans (hr _ (by omega)) (by decide) | exact tT_small (by omega) | exact hokk | exact hokq | exact Nat.lt_of_lt_of_le (show _ < 300 by omega) (by decide))))
    refine zm (nl ?_)
    exact loop_back ((i + 1)) (by show _ ≤ _; omega) (by show (flipsOf (gLd a j)).length - (i + 1) < (flipsOf (gLd a j)).length - i; omega) (wkf (subst1 [(34, 53)]) (wS <| wS <| wS <| wE (e := (vsl (by first | rfl | (simp; done) | (simp; omega) | omega | (exact congrArg List.length (by first | rfl | omega | exact hsn | exact hsn.symm | exact nrK_zero _ _ | exact (nrK_zero _ _).symm))) rfl)) <| wS <| wS <| wS <| wS <| wS <| wE (e := (vint (by first | rfl | omega | exact hsn | exact hsn.symm | exact nrK_zero _ _ | exact (nrK_zero _ _).symm))) <| wQI <| wO (e := renob_eq (fun h => h) (congrArg isl (by first | rfl | omega | exact hsn | exact hsn.symm | exact nrK_zero _ _ | exact (nrK_zero _ _).symm))) <| wP <| by (iterate 14 refine wF ?_); exact wN))
   ·skip
    have c6P := of_decide_eq_false c6
    have hle := nrK_end (a := a) (P := (gLd a j)) (i := i) (by omega)
    refine wp_exit' (rg (zm (zm ?_)))
    refine z ?_ (h := fun ν => bs1 (h := 57) ν qNb_un_56 qNb_zi_22 (by exact ⟨_, _, _, .inl rfl⟩))
    refine z ?_ (h := fun ν => aQ (h2 := 58) (nm := ((nrT a j) ++ [(nrK a (gLd a j) i)]).length) ν qNb_un_56 qNb_zi_22 (by exact ⟨_, _, _, .inl rfl⟩) (by simp [rwI_len, rwD_len]) (by first | omega | (simp; omega) | (first | omega | assumption | exact hr _ (by omega) | exact Nat.le_trans (hr _ (by omega)) (by decide) | exact tT_small (by omega) | exact hokk | exact hokq | exact Nat.lt_of_lt_of_le (show _ < 300 by omega) (by decide))) (by simp))
    refine za (nl ?_)
    refine wp_weak (pkI (h := 58) (h1 := 34) (T := 3) (T0 := 22) (s0 := 1) (ex0 := true) (n := ((nrK a (gLd a j) i).length)) (L := (nrT a j)) (r := (nrK a (gLd a j) i))) ?_
    refine rg ?_
    refine z ?_ (h := fun ν => acts_bin ν vt vc (rA (by first | omega | assumption | exact hr _ (by omega) | exact Nat.le_trans (hr _ (by omega)) (by decide) | exact tT_small (by omega) | exact hokk | exact hokq | exact Nat.lt_of_lt_of_le (show _ < 300 by omega) (by decide)) (by first | omega | assumption | exact hr _ (by omega) | exact Nat.le_trans (hr _ (by omega)) (by decide) | exact tT_small (by omega) | exact hokk | exact hokq | exact Nat.lt_of_lt_of_le (show _ < 300 by omega) (by decide))))
    refine zm (nl ?_)
    exact loop_back ((j + 1)) (by show _ ≤ _; omega) (by show a.length - (j + 1) < a.length - j; omega) (wkf (subst1 [(27, 58)]) (wS <| wE (e := (vsl (by first | rfl | (simp; done) | (simp; omega) | omega | (exact congrArg List.length (by first | rfl | omega | (rw [hle]; exact nrT_snoc (by omega)) | (rw [hle]; exact Eq.symm (nrT_snoc (by omega)))))) rfl)) <| wS <| wS <| wE (e := (vint (by first | rfl | omega | (rw [hle]; exact nrT_snoc (by omega)) | (rw [hle]; exact Eq.symm (nrT_snoc (by omega)))))) <| wQI (e := (by first | rfl | omega | (rw [hle]; exact nrT_snoc (by omega)) | (rw [hle]; exact Eq.symm (nrT_snoc (by omega))))) <| by (iterate 16 refine wF ?_); exact wN))
  ·skip
   have c4P := of_decide_eq_false c4
   refine wp_exit' (sq (rg (zm (za (nl ?_)))))
   refine wp_weak (fzI (k := 2) (h := 27) (T0 := 22) (T := 3) (ex0 := true) (n := ((nrT a j).length)) (L := (nrT a j)) (hn := by rfl)) ?_
   refine wp_ret' ?_
   exact ⟨_, weak_id, trivial, vo_eq 2 (.a (.slvv 1 (vwI (nrT a j)))) (.a (.slvv 1 (vwI (nrM a)))) (by kernel_rfl) (congrArg (fun z => B.a (.slvv 1 (vwI z))) (by exact nrT_end (by omega)))⟩
end Cl
end Go.Proofs.YtgmkkfdnmdohlaaGreatDoor
