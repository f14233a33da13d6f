/- Walks over clean states, printed by wg.py. No statement is proved here. -/
import Derived.Test.YtjlcphpabeamaaaP2
namespace Go.Proofs.Ytjlcphpabeamaaa
namespace Cl
open Go.ChangeShapes Go.WideShapes Go.ChangeAt Go.RowKit

def goAll (l : List Dom) (cs : List Cel) : Option (List Dom) := cs.foldlM (fun o c => if canB o c.x c.y then some (flipAt o c) else none) l
def fAll (l : List Dom) (cs : List Cel) : List Dom := if 200 < cs.length then l else (goAll l cs).getD l
def fOk (l : List Dom) (cs : List Cel) : Bool := !(decide (200 < cs.length)) && (goAll l cs).isSome
theorem goAll_yes {l o : List Dom} {cs : List Cel} {k : Nat} (h : k < cs.length) (hg : goAll l (cs.take k) = some o) (hc : canB o (gC cs k).x (gC cs k).y = true) : goAll l (cs.take (k+1)) = some (flipAt o (gC cs k)) := by
  unfold goAll at *
  rw [List.take_succ_eq_append_getElem h, List.foldlM_append, hg, ← gC_eq h]
  simp [hc]
theorem goAll_no {l o : List Dom} {cs : List Cel} {k : Nat} (h : k < cs.length) (hg : goAll l (cs.take k) = some o) (hc : canB o (gC cs k).x (gC cs k).y = false) : goAll l cs = none := by
  have e : cs = cs.take k ++ gC cs k :: cs.drop (k+1) := by
    rw [gC_eq h, ← List.drop_eq_getElem_cons h, List.take_append_drop]
  unfold goAll at *
  rw [e, List.foldlM_append, hg]
  simp [hc]
theorem fAll_no {l o : List Dom} {cs : List Cel} {k : Nat} (h : k < cs.length) (hg : goAll l (cs.take k) = some o) (hc : canB o (gC cs k).x (gC cs k).y = false) : l = fAll l cs ∧ false = fOk l cs := by
  have := goAll_no h hg hc
  unfold fAll fOk; rw [this]; simp
theorem goAll_len (cs : List Cel) : ∀ (l o : List Dom), goAll l cs = some o → o.length ≤ l.length + 2 * cs.length := by
  induction cs with
  | nil => intro l o h; simp [goAll] at h; subst h; simp
  | cons c cs ih =>
    intro l o h
    unfold goAll at h
    rw [List.foldlM_cons] at h
    by_cases hc : canB l c.x c.y = true
    · simp only [hc, if_true, Option.bind_eq_bind, Option.bind_some] at h
      have h1 := ih _ _ h
      have h2 := flipAt_len l c
      simp; omega
    · simp [hc] at h
theorem fAll_len (l : List Dom) (cs : List Cel) : (fAll l cs).length ≤ l.length + 400 := by
  unfold fAll
  split
  · omega
  · cases h : goAll l cs with
    | none => simp
    | some o => have := goAll_len cs l o h; simp; omega
theorem fAll_long {l : List Dom} {cs : List Cel} (h : 200 < cs.length) : l = fAll l cs ∧ false = fOk l cs := by
  unfold fAll fOk; simp [h]
theorem fAll_end {l o : List Dom} {cs : List Cel} {k : Nat} (hk : ¬ (k : Int) < (cs.length : Int)) (h2 : cs.length ≤ 200) (hg : goAll l (cs.take k) = some o) : o = fAll l cs ∧ true = fOk l cs := by
  rw [List.take_of_length_le (by omega)] at hg
  unfold fAll fOk; rw [hg]; simp; omega

theorem qP3_sz_29 : (Try.prog.info? 29).map (·.size) = some 2 := by kernel_rfl
theorem qP3_ti_29 : TI Try.prog 29 true 2 := ⟨⟨_, Try.underlying29, rfl⟩, by kernel_rfl⟩
theorem qP3_un_27 : Try.prog.underlying 27 = some (.slice 54) := Try.underlying27
theorem qP3_un_33 : Try.prog.underlying 33 = some (.slice 29) := Try.underlying33
theorem qP3_zi_29 : ZI Try.prog 29 (.agg #[.int .i64 0, .int .i64 0]) 2 16 := by unfold ZI; kernel_rfl
theorem qP3_zi_54 : ZI Try.prog 54 (.agg #[.int .i64 0, .int .i64 0, .bool false]) 3 24 := by unfold ZI; kernel_rfl
set_option maxHeartbeats 4000000 in
set_option maxRecDepth 100000 in
theorem impl_FlipAll_fn (l : List Dom) (cs : List Cel) (hl : l.length ≤ 1048576) (hc : cs.length ≤ 1048576) : Fn Try.prog 27 [.a (.slv l.length 3 (dsl l)), .a (.slv cs.length 2 (csl cs))] [.row 54 3 (fAll l cs).length (dsl (fAll l cs)), .val (.bool (fOk l cs))] := by
  refine fn_intro (N := 37) Try.func27 rfl (by kernel_rfl) rfl (Nat.le_of_ble_eq_true rfl) [8, 12, 15, 17, 19, 27, 33] (ret2 rfl rfl (by intro u hu; injection hu with hu; subst hu; rfl)) (fun W => ?_)
  show Wp _ _ _ [(.s 0, some (.s (V.b (.a (.slv l.length 3 (dsl l)))))), (.s 1, some (.s (V.b (.a (.slv cs.length 2 (csl cs)))))), (.o 8, some .free), (.o 12, some .free), (.o 15, some .free), (.o 17, some .free), (.o 19, some .free), (.o 27, some .free), (.o 33, some .free)]
  refine wp_seq' ?_
  refine wp_region_t ?_
  refine wpc (step_plain rfl (acts_assign (d := 4) (ltN rfl) (OpX.const (.slice none 0 0)))) (by kernel_rfl) ?_
  refine wpc (step_plain rfl (acts_assign (d := 5) (ltN rfl) (OpX.const (.bool false)))) (by kernel_rfl) ?_
  refine wpl_nil ?_
  refine wp_seq' ?_
  refine wp_seq' ?_
  refine wp_region_t ?_
  refine wpc (step_plain rfl (acts_move (d := 11) (ltN rfl) (OpX.tmp 1 (V.b (.a (.slv cs.length 2 (csl cs))))))) (by kernel_rfl) ?_
  refine wpc (step_plain rfl (acts_len (d := 12) (X := .slv cs.length 2 (csl cs)) (n := cs.length) (iv := ((cs.length : Nat) : Int)) (ltN rfl) qP3_un_33 (OpX.tmp 11 (V.b (.a (.slv cs.length 2 (csl cs))))) (LenOf.slv _ _ _) rfl)) (by kernel_rfl) ?_
  refine wpc (step_plain rfl (acts_bin (d := 13) (ltN rfl) (OpV.tmp 12 (.int .i64 ((cs.length : Nat) : Int))) (OpV.const (.int .i64 200)) (r_gtr (c := (decide (200 < ((cs.length : Nat) : Int)))) rfl))) (by kernel_rfl) ?_
  refine wpl_nil ?_
  refine wp_if (t := 13) (decide (200 < ((cs.length : Nat) : Int))) (by kernel_rfl) (fun c1 => ?_) (fun c1 => ?_)
  · skip
    have c1P := of_decide_eq_true c1
    refine wp_seq' ?_
    refine wp_region_t ?_
    refine wpc (step_plain rfl (acts_move (d := 14) (ltN rfl) (OpX.tmp 0 (V.b (.a (.slv l.length 3 (dsl l))))))) (by kernel_rfl) ?_
    refine wpc (step_plain rfl (acts_call1 (d := 15) (ltN rfl) (impl_copyDominoes_fn l (by omega)) (ArgVs.cons (ArgV.slv 14 l.length 3 (dsl l)) (ArgVs.nil)) (ResV.row 54 3 l.length (dsl l) 15))) (by kernel_rfl) ?_
    refine wpc (step_plain rfl (acts_assign (d := 4) (ltN rfl) (OpX.tmp 15 (V.b (.a (.sl 15 0 l.length)))))) (by kernel_rfl) ?_
    refine wpc (step_plain rfl (acts_assign (d := 5) (ltN rfl) (OpX.const (.bool false)))) (by kernel_rfl) ?_
    refine wpl_nil ?_
    refine wp_ret' ?_
    exact ⟨VRes.tmp 4 (.a (.sl 15 0 l.length)) _ (by kernel_rfl) (brow_doms (h := 15) (L := l) (by kernel_rfl) (by exact (fAll_long (by omega)).1) (by first | rfl | (simp; done) | (simp; omega))), VRes.tmp 5 (.a (.val (.bool false))) _ (by kernel_rfl) (bval (congrArg Value.bool (by exact (fAll_long (by omega)).2)))⟩
  · skip
    have c1P := of_decide_eq_false c1
    refine wp_skip' ?_
    refine wp_seq' ?_
    refine wp_region_t ?_
    refine wpc (step_plain rfl (acts_move (d := 16) (ltN rfl) (OpX.tmp 0 (V.b (.a (.slv l.length 3 (dsl l))))))) (by kernel_rfl) ?_
    refine wpc (step_plain rfl (acts_call1 (d := 17) (ltN rfl) (impl_copyDominoes_fn l (by omega)) (ArgVs.cons (ArgV.slv 16 l.length 3 (dsl l)) (ArgVs.nil)) (ResV.row 54 3 l.length (dsl l) 17))) (by kernel_rfl) ?_
    refine wpc (step_plain rfl (acts_assign (d := 6) (ltN rfl) (OpX.tmp 17 (V.b (.a (.sl 17 0 l.length)))))) (by kernel_rfl) ?_
    refine wpl_nil ?_
    refine wp_seq' ?_
    refine wp_seq' ?_
    refine wp_region_t ?_
    refine wpc (step_plain rfl (acts_move (d := 18) (ltN rfl) (OpX.tmp 1 (V.b (.a (.slv cs.length 2 (csl cs))))))) (by kernel_rfl) ?_
    refine wpc (step_plain rfl (acts_len (d := 19) (X := .slv cs.length 2 (csl cs)) (n := cs.length) (iv := ((cs.length : Nat) : Int)) (ltN rfl) qP3_un_33 (OpX.tmp 18 (V.b (.a (.slv cs.length 2 (csl cs))))) (LenOf.slv _ _ _) rfl)) (by kernel_rfl) ?_
    refine wpc (step_plain rfl (acts_move (d := 20) (ltN rfl) (OpX.const (.int .i64 0)))) (by kernel_rfl) ?_
    refine wpl_nil ?_
    refine wp_block' ?_
    refine wp_loop' (fun (x : Nat × (List Dom)) => match x with | (k, out) => k ≤ cs.length ∧ goAll l (cs.take k) = some out ∧ out.length ≤ l.length + 2 * k) (fun (x : Nat × (List Dom)) => match x with | (k, out) => [(.s 0, some (.s (V.b (.a (.slv l.length 3 (dsl l)))))), (.s 6, some (.s (V.b (.a (.sl 17 0 out.length))))), (.s 18, some (.s (V.b (.a (.slv cs.length 2 (csl cs)))))), (.s 19, some (.s (V.v (.int .i64 ((cs.length : Nat) : Int))))), (.s 20, some (.s (V.v (.int .i64 ((k : Nat) : Int))))), (.o 17, some (.o ⟨54, 3, true, pl (dsl out)⟩)), (.o 8, some .free), (.o 12, some .free), (.o 15, some .free), (.o 19, some .free), (.o 27, some .free), (.o 33, some .free)]) (fun (x : Nat × (List Dom)) => match x with | (k, out) => cs.length - k) ((0 : Nat), (l : List Dom)) (by exact ⟨Nat.zero_le _, rfl, by omega⟩) (weak_of id [8, 12, 15, 19, 27, 33] (by kernel_rfl) (wk_s (v' := V.b (.a (.slv l.length 3 (dsl l)))) (by kernel_rfl) rfl rfl (wk_s (v' := V.b (.a (.sl 17 0 l.length))) (by kernel_rfl) rfl rfl (wk_s (v' := V.b (.a (.slv cs.length 2 (csl cs)))) (by kernel_rfl) rfl rfl (wk_s (v' := V.v (.int .i64 ((cs.length : Nat) : Int))) (by kernel_rfl) rfl rfl (wk_s (v' := V.v (.int .i64 0)) (by kernel_rfl) (vint (by first | rfl | omega | (simp; done) | (simp; omega))) rfl (wk_o (o' := ⟨54, 3, true, pl (dsl l)⟩) (by kernel_rfl) (renob_pl (fun h => h)) rfl (wk_f rfl (wk_f rfl (wk_f rfl (wk_f rfl (wk_f rfl (wk_f rfl (wk_nil)))))))))))))) ?_
    rintro ⟨k, out⟩ inv2
    replace inv2 : k ≤ cs.length ∧ goAll l (cs.take k) = some out ∧ out.length ≤ l.length + 2 * k := inv2
    obtain ⟨inv2_0, inv2_1, inv2_2⟩ := inv2
    show Wp _ _ _ [(.s 0, some (.s (V.b (.a (.slv l.length 3 (dsl l)))))), (.s 6, some (.s (V.b (.a (.sl 17 0 out.length))))), (.s 18, some (.s (V.b (.a (.slv cs.length 2 (csl cs)))))), (.s 19, some (.s (V.v (.int .i64 ((cs.length : Nat) : Int))))), (.s 20, some (.s (V.v (.int .i64 ((k : Nat) : Int))))), (.o 17, some (.o ⟨54, 3, true, pl (dsl out)⟩)), (.o 8, some .free), (.o 12, some .free), (.o 15, some .free), (.o 19, some .free), (.o 27, some .free), (.o 33, some .free)]
    have hcs : cs.length ≤ 200 := by omega
    refine wp_seq' ?_
    refine wp_region_t ?_
    refine wpc (step_plain rfl (acts_bin (d := 21) (ltN rfl) (OpV.tmp 20 (.int .i64 ((k : Nat) : Int))) (OpV.tmp 19 (.int .i64 ((cs.length : Nat) : Int))) (r_lss (c := (decide (((k : Nat) : Int) < ((cs.length : Nat) : Int)))) rfl))) (by kernel_rfl) ?_
    refine wpl_nil ?_
    refine wp_seq' ?_
    refine wp_if (t := 21) (decide (((k : Nat) : Int) < ((cs.length : Nat) : Int))) (by kernel_rfl) (fun c3 => ?_) (fun c3 => ?_)
    · skip
      have c3P := of_decide_eq_true c3
      refine wp_skip' ?_
      refine wp_seq' ?_
      refine wp_block' ?_
      refine wp_seq' ?_
      refine wp_region_t ?_
      refine wpc (step_plain rfl (acts_index_v (d := 22) (x := 18) (n := cs.length) (s := 2) (k := k) (xs := csl cs) (ltN rfl) qP3_un_33 qP3_sz_29 (OpV.tmp 20 (.int .i64 ((k : Nat) : Int))) (by first | rfl | omega) (by omega))) (by kernel_rfl) ?_
      refine wpc (step_plain rfl (acts_load_vs (d := 23) (t := 22) (s := 2) (off := (k * 2)) (xs := csl cs)  (vs := [(.int .i64 ((gC cs k).x) : Value), .int .i64 ((gC cs k).y)]) (ltN rfl) qP3_ti_29 rfl (csl_at (k := k) (by omega)))) (by kernel_rfl) ?_
      refine wpc (step_plain rfl (acts_alloc' (d := 8) (h := 8) (cap := 1) (s := 2) (cells := [(.val (.int .i64 0) : A), .val (.int .i64 0)]) (ltN rfl) qP3_zi_29 rfl rfl (by decide))) (by kernel_rfl) ?_
      refine wpc (step_plain rfl (acts_store (t := 8) (h := 8) (off := 0) (o := ⟨29, 2, true, [(.val (.int .i64 0) : A), .val (.int .i64 0)]⟩) (b := .agg ([(.int .i64 ((gC cs k).x) : Value), .int .i64 ((gC cs k).y)].map A.val)) (cells := [(.val (.int .i64 ((gC cs k).x)) : A), .val (.int .i64 ((gC cs k).y))]) qP3_ti_29 (OpX.tmp 23 (V.av [(.int .i64 ((gC cs k).x) : Value), .int .i64 ((gC cs k).y)])) rfl (by decide) (by intro y hy; simp [B.cs] at hy; rcases hy with rfl | rfl <;> rfl) (Nat.le_of_ble_eq_true rfl) rfl)) (by kernel_rfl) ?_
      refine wpl_nil ?_
      refine wp_seq' ?_
      refine wp_region_t ?_
      refine wpc (step_plain rfl (acts_move (d := 25) (ltN rfl) (OpX.tmp 6 (V.b (.a (.sl 17 0 out.length)))))) (by kernel_rfl) ?_
      refine wpc (step_plain rfl (acts_load_owns (d := 26) (t := 8) (h := 8) (off := 0) (o := ⟨29, 2, true, [(.val (.int .i64 ((gC cs k).x)) : A), .val (.int .i64 ((gC cs k).y))]⟩)  (xs := [(.int .i64 ((gC cs k).x) : Value), .int .i64 ((gC cs k).y)].map A.val) (ltN rfl) qP3_ti_29 rfl (by decide) rfl)) (by kernel_rfl) ?_
      refine wpc (step_plain rfl (acts_call2 (d := 27) (ltN rfl) (impl_FlipAt_fn out (gC cs k) (by omega)) (ArgVs.cons (argv_own (t := 25) (h := 17) (n := out.length) (T := 54) (s := 3) (ex := true) (xs := dsl out) (by first | exact dsl_len _ | (simp [isl_len, bsl_len, dsl_len, csl_len]; done) | (simp [isl_len, bsl_len, dsl_len, csl_len]; omega))) (ArgVs.cons (ArgV.va (vs := [(.int .i64 ((gC cs k).x) : Value), .int .i64 ((gC cs k).y)]) (OpV.agg 26 [(.int .i64 ((gC cs k).x) : Value), .int .i64 ((gC cs k).y)])) (ArgVs.nil))) (ResV.row 54 3 ((flipAt out (gC cs k)).length) (dsl (flipAt out (gC cs k))) 27) (ResV.val _))) (by kernel_rfl) ?_
      refine wpc (step_plain rfl (acts_move (d := 24) (ltN rfl) (OpX.tmp 27 (V.tup [.a (.sl 27 0 ((flipAt out (gC cs k)).length)), .a (.val (.bool (canB out (gC cs k).x (gC cs k).y)))])))) (by kernel_rfl) ?_
      refine wpc (step_plain rfl (acts_extract (d := 28) (t := 24) (ix := 0) (xs := [.a (.sl 27 0 ((flipAt out (gC cs k)).length)), .a (.val (.bool (canB out (gC cs k).x (gC cs k).y)))]) (X := .a (.sl 27 0 ((flipAt out (gC cs k)).length))) (ltN rfl) rfl)) (by kernel_rfl) ?_
      refine wpc (step_plain rfl (acts_extract (d := 29) (t := 24) (ix := 1) (xs := [.a (.sl 27 0 ((flipAt out (gC cs k)).length)), .a (.val (.bool (canB out (gC cs k).x (gC cs k).y)))]) (X := .a (.val (.bool (canB out (gC cs k).x (gC cs k).y)))) (ltN rfl) rfl)) (by kernel_rfl) ?_
      refine wpc (step_plain rfl (acts_assign (d := 9) (ltN rfl) (OpX.tmp 28 (V.b (.a (.sl 27 0 ((flipAt out (gC cs k)).length))))))) (by kernel_rfl) ?_
      refine wpc (step_plain rfl (acts_assign (d := 10) (ltN rfl) (OpX.tmp 29 (V.v (.bool (canB out (gC cs k).x (gC cs k).y)))))) (by kernel_rfl) ?_
      refine wpl_nil ?_
      refine wp_seq' ?_
      refine wp_seq' ?_
      refine wp_region_t ?_
      refine wpc (step_plain rfl (acts_move (d := 30) (ltN rfl) (OpX.tmp 10 (V.v (.bool (canB out (gC cs k).x (gC cs k).y)))))) (by kernel_rfl) ?_
      refine wpc (step_plain rfl (acts_un (d := 31) (ltN rfl) (OpV.tmp 30 (.bool (canB out (gC cs k).x (gC cs k).y))) (r_not (c := (!(canB out (gC cs k).x (gC cs k).y))) rfl))) (by kernel_rfl) ?_
      refine wpl_nil ?_
      refine wp_if (t := 31) ((!(canB out (gC cs k).x (gC cs k).y))) (by kernel_rfl) (fun c4 => ?_) (fun c4 => ?_)
      · skip
        have c5 : (canB out (gC cs k).x (gC cs k).y) = false := by simpa using c4
        refine wp_seq' ?_
        refine wp_region_t ?_
        refine wpc (step_plain rfl (acts_move (d := 32) (ltN rfl) (OpX.tmp 0 (V.b (.a (.slv l.length 3 (dsl l))))))) (by kernel_rfl) ?_
        refine wpc (step_plain rfl (acts_call1 (d := 33) (ltN rfl) (impl_copyDominoes_fn l (by omega)) (ArgVs.cons (ArgV.slv 32 l.length 3 (dsl l)) (ArgVs.nil)) (ResV.row 54 3 l.length (dsl l) 33))) (by kernel_rfl) ?_
        refine wpc (step_plain rfl (acts_assign (d := 4) (ltN rfl) (OpX.tmp 33 (V.b (.a (.sl 33 0 l.length)))))) (by kernel_rfl) ?_
        refine wpc (step_plain rfl (acts_assign (d := 5) (ltN rfl) (OpX.const (.bool false)))) (by kernel_rfl) ?_
        refine wpl_nil ?_
        refine wp_ret' ?_
        exact ⟨VRes.tmp 4 (.a (.sl 33 0 l.length)) _ (by kernel_rfl) (brow_doms (h := 33) (L := l) (by kernel_rfl) (by exact (fAll_no (k := k) (by omega) (by assumption) (by assumption)).1) (by first | rfl | (simp; done) | (simp; omega))), VRes.tmp 5 (.a (.val (.bool false))) _ (by kernel_rfl) (bval (congrArg Value.bool (by exact (fAll_no (k := k) (by omega) (by assumption) (by assumption)).2)))⟩
      · skip
        have c6 : (canB out (gC cs k).x (gC cs k).y) = true := by simpa using c4
        refine wp_skip' ?_
        refine wp_region_t ?_
        refine wpc (step_plain rfl (acts_move (d := 34) (ltN rfl) (OpX.tmp 9 (V.b (.a (.sl 27 0 ((flipAt out (gC cs k)).length))))))) (by kernel_rfl) ?_
        refine wpc (step_plain rfl (acts_assign (d := 6) (ltN rfl) (OpX.tmp 34 (V.b (.a (.sl 27 0 ((flipAt out (gC cs k)).length))))))) (by kernel_rfl) ?_
        refine wpl_nil ?_
        refine wp_region_t ?_
        refine wpc (step_plain rfl (acts_bin (d := 35) (ltN rfl) (OpV.tmp 20 (.int .i64 ((k : Nat) : Int))) (OpV.const (.int .i64 1)) (r_add (c := (((k : Nat) : Int) + 1)) (w64 (by omega) (by omega))))) (by kernel_rfl) ?_
        refine wpc (step_plain rfl (acts_move (d := 20) (ltN rfl) (OpX.tmp 35 (V.v (.int .i64 (((k : Nat) : Int) + 1)))))) (by kernel_rfl) ?_
        refine wpl_nil ?_
        exact loop_back ((k + 1), (flipAt out (gC cs k))) (by refine ⟨by omega, goAll_yes (by omega) (by assumption) (by assumption), ?_⟩; have := flipAt_len out (gC cs k); omega) (by show cs.length - (k + 1) < cs.length - k; omega) (weak_of (subst1 [(17, 27)]) [8, 12, 15, 19, 27, 33] (by kernel_rfl) (wk_s (v' := V.b (.a (.slv l.length 3 (dsl l)))) (by kernel_rfl) rfl rfl (wk_s (v' := V.b (.a (.sl 27 0 ((flipAt out (gC cs k)).length)))) (by kernel_rfl) rfl rfl (wk_s (v' := V.b (.a (.slv cs.length 2 (csl cs)))) (by kernel_rfl) rfl rfl (wk_s (v' := V.v (.int .i64 ((cs.length : Nat) : Int))) (by kernel_rfl) rfl rfl (wk_s (v' := V.v (.int .i64 (((k : Nat) : Int) + 1))) (by kernel_rfl) (vint (by first | rfl | omega | (simp; done) | (simp; omega))) rfl (wk_o (o' := ⟨54, 3, true, pl (dsl (flipAt out (gC cs k)))⟩) (by kernel_rfl) (renob_pl (fun h => h)) rfl (wk_f rfl (wk_f rfl (wk_f rfl (wk_f rfl (wk_f rfl (wk_f rfl (wk_nil))))))))))))))
    · skip
      have c3P := of_decide_eq_false c3
      refine wp_exit' ?_
      refine wp_seq' ?_
      refine wp_region_t ?_
      refine wpc (step_plain rfl (acts_move (d := 36) (ltN rfl) (OpX.tmp 6 (V.b (.a (.sl 17 0 out.length)))))) (by kernel_rfl) ?_
      refine wpc (step_plain rfl (acts_assign (d := 4) (ltN rfl) (OpX.tmp 36 (V.b (.a (.sl 17 0 out.length)))))) (by kernel_rfl) ?_
      refine wpc (step_plain rfl (acts_assign (d := 5) (ltN rfl) (OpX.const (.bool true)))) (by kernel_rfl) ?_
      refine wpl_nil ?_
      refine wp_ret' ?_
      exact ⟨VRes.tmp 4 (.a (.sl 17 0 out.length)) _ (by kernel_rfl) (brow_doms (h := 17) (L := out) (by kernel_rfl) (by exact (fAll_end (k := k) (by omega) (by omega) (by assumption)).1) (by first | rfl | (simp; done) | (simp; omega))), VRes.tmp 5 (.a (.val (.bool true))) _ (by kernel_rfl) (bval (congrArg Value.bool (by exact (fAll_end (k := k) (by omega) (by omega) (by assumption)).2)))⟩

set_option maxHeartbeats 4000000 in
set_option maxRecDepth 100000 in
theorem spec_FlipAll_fn (l : List Dom) (cs : List Cel) (hl : l.length ≤ 1048576) (hc : cs.length ≤ 1048576) : Fn Try.prog 25 [.a (.slv l.length 3 (dsl l)), .a (.slv cs.length 2 (csl cs))] [.row 54 3 (fAll l cs).length (dsl (fAll l cs)), .val (.bool (fOk l cs))] := by
  refine fn_intro (N := 40) Try.func25 rfl (by kernel_rfl) rfl (Nat.le_of_ble_eq_true rfl) [10, 12, 15, 25, 32, 35, 37] (ret2 rfl rfl (by intro u hu; injection hu with hu; subst hu; rfl)) (fun W => ?_)
  show Wp _ _ _ [(.s 0, some (.s (V.b (.a (.slv l.length 3 (dsl l)))))), (.s 1, some (.s (V.b (.a (.slv cs.length 2 (csl cs)))))), (.o 10, some .free), (.o 12, some .free), (.o 15, some .free), (.o 25, some .free), (.o 32, some .free), (.o 35, some .free), (.o 37, some .free)]
  refine wp_seq' ?_
  refine wp_region_t ?_
  refine wpc (step_plain rfl (acts_assign (d := 4) (ltN rfl) (OpX.const (.slice none 0 0)))) (by kernel_rfl) ?_
  refine wpc (step_plain rfl (acts_assign (d := 5) (ltN rfl) (OpX.const (.bool false)))) (by kernel_rfl) ?_
  refine wpl_nil ?_
  refine wp_seq' ?_
  refine wp_region_t ?_
  refine wpc (step_plain rfl (acts_buildSlice0' (d := 10) (h := 10) (s := 3) (ltN rfl) qP3_un_27 qP3_zi_54)) (by kernel_rfl) ?_
  refine wpc (step_plain rfl (acts_move (d := 11) (ltN rfl) (OpX.tmp 0 (V.b (.a (.slv l.length 3 (dsl l))))))) (by kernel_rfl) ?_
  refine wpc (step_plain rfl (acts_app (d := 12) (x := 10) (h := 10) (h2 := 12) (n := 0) (m := l.length) (nm := l.length) (X := .slv l.length 3 (dsl l)) (xs := dsl []) (ys := dsl l) (zs := dsl l) (ltN rfl) qP3_un_27 qP3_zi_54 rfl (by decide) (by decide) (by first | exact dsl_len _ | (simp [isl_len, bsl_len, dsl_len, csl_len]; done) | (simp [isl_len, bsl_len, dsl_len, csl_len]; omega)) (OpX.tmp 11 (V.b (.a (.slv l.length 3 (dsl l))))) (Src.slv _ _ _) (dsl_one' _) (by first | omega | (simp; omega) | (simp at *; omega)) (by first | exact (dsl_append _ _).symm | rfl | simp [dsl_append]) (by first | rfl | (simp; done) | (simp; omega) | omega))) (by kernel_rfl) ?_
  refine wpc (step_plain rfl (acts_assign (d := 6) (ltN rfl) (OpX.tmp 12 (V.b (.a (.sl 12 0 l.length)))))) (by kernel_rfl) ?_
  refine wpl_nil ?_
  refine wp_seq' ?_
  refine wp_seq' ?_
  refine wp_region_t ?_
  refine wpc (step_plain rfl (acts_assign (d := 7) (ltN rfl) (OpX.const (.int .i64 0)))) (by kernel_rfl) ?_
  refine wpl_nil ?_
  refine wp_block' ?_
  refine wp_loop' (fun (x : Nat × (List Dom)) => match x with | (k, out) => k ≤ cs.length ∧ goAll l (cs.take k) = some out ∧ out.length ≤ l.length + 2 * k ∧ (k = 0 ∨ cs.length ≤ 200)) (fun (x : Nat × (List Dom)) => match x with | (k, out) => [(.s 0, some (.s (V.b (.a (.slv l.length 3 (dsl l)))))), (.s 1, some (.s (V.b (.a (.slv cs.length 2 (csl cs)))))), (.s 6, some (.s (V.b (.a (.sl 12 0 out.length))))), (.s 7, some (.s (V.v (.int .i64 ((k : Nat) : Int))))), (.o 12, some (.o ⟨54, 3, true, pl (dsl out)⟩)), (.o 15, some .free), (.o 25, some .free), (.o 32, some .free), (.o 35, some .free), (.o 37, some .free)]) (fun (x : Nat × (List Dom)) => match x with | (k, out) => cs.length - k) ((0 : Nat), (l : List Dom)) (by exact ⟨Nat.zero_le _, rfl, by omega, .inl rfl⟩) (weak_of id [15, 25, 32, 35, 37] (by kernel_rfl) (wk_s (v' := V.b (.a (.slv l.length 3 (dsl l)))) (by kernel_rfl) rfl rfl (wk_s (v' := V.b (.a (.slv cs.length 2 (csl cs)))) (by kernel_rfl) rfl rfl (wk_s (v' := V.b (.a (.sl 12 0 l.length))) (by kernel_rfl) rfl rfl (wk_s (v' := V.v (.int .i64 0)) (by kernel_rfl) (vint (by first | rfl | omega | (simp; done) | (simp; omega))) rfl (wk_o (o' := ⟨54, 3, true, pl (dsl l)⟩) (by kernel_rfl) (renob_pl (fun h => h)) rfl (wk_f rfl (wk_f rfl (wk_f rfl (wk_f rfl (wk_f rfl (wk_nil)))))))))))) ?_
  rintro ⟨k, out⟩ inv1
  replace inv1 : k ≤ cs.length ∧ goAll l (cs.take k) = some out ∧ out.length ≤ l.length + 2 * k ∧ (k = 0 ∨ cs.length ≤ 200) := inv1
  obtain ⟨inv1_0, inv1_1, inv1_2, inv1_3⟩ := inv1
  show Wp _ _ _ [(.s 0, some (.s (V.b (.a (.slv l.length 3 (dsl l)))))), (.s 1, some (.s (V.b (.a (.slv cs.length 2 (csl cs)))))), (.s 6, some (.s (V.b (.a (.sl 12 0 out.length))))), (.s 7, some (.s (V.v (.int .i64 ((k : Nat) : Int))))), (.o 12, some (.o ⟨54, 3, true, pl (dsl out)⟩)), (.o 15, some .free), (.o 25, some .free), (.o 32, some .free), (.o 35, some .free), (.o 37, some .free)]
  refine wp_seq' ?_
  refine wp_seq' ?_
  refine wp_region_t ?_
  refine wpc (step_plain rfl (acts_move (d := 13) (ltN rfl) (OpX.tmp 7 (V.v (.int .i64 ((k : Nat) : Int)))))) (by kernel_rfl) ?_
  refine wpc (step_plain rfl (acts_move (d := 14) (ltN rfl) (OpX.tmp 1 (V.b (.a (.slv cs.length 2 (csl cs))))))) (by kernel_rfl) ?_
  refine wpc (step_plain rfl (acts_len (d := 15) (X := .slv cs.length 2 (csl cs)) (n := cs.length) (iv := ((cs.length : Nat) : Int)) (ltN rfl) qP3_un_33 (OpX.tmp 14 (V.b (.a (.slv cs.length 2 (csl cs))))) (LenOf.slv _ _ _) rfl)) (by kernel_rfl) ?_
  refine wpc (step_plain rfl (acts_bin (d := 16) (ltN rfl) (OpV.tmp 13 (.int .i64 ((k : Nat) : Int))) (OpV.tmp 15 (.int .i64 ((cs.length : Nat) : Int))) (r_lss (c := (decide (((k : Nat) : Int) < ((cs.length : Nat) : Int)))) rfl))) (by kernel_rfl) ?_
  refine wpl_nil ?_
  refine wp_if (t := 16) (decide (((k : Nat) : Int) < ((cs.length : Nat) : Int))) (by kernel_rfl) (fun c2 => ?_) (fun c2 => ?_)
  · skip
    have c2P := of_decide_eq_true c2
    refine wp_skip' ?_
    refine wp_seq' ?_
    refine wp_block' ?_
    refine wp_seq' ?_
    refine wp_region_t ?_
    refine wpc (step_plain rfl (acts_move (d := 20) (ltN rfl) (OpX.tmp 6 (V.b (.a (.sl 12 0 out.length)))))) (by kernel_rfl) ?_
    refine wpc (step_plain rfl (acts_move (d := 21) (ltN rfl) (OpX.tmp 1 (V.b (.a (.slv cs.length 2 (csl cs))))))) (by kernel_rfl) ?_
    refine wpc (step_plain rfl (acts_move (d := 22) (ltN rfl) (OpX.tmp 7 (V.v (.int .i64 ((k : Nat) : Int)))))) (by kernel_rfl) ?_
    refine wpc (step_plain rfl (acts_index_v (d := 23) (x := 21) (n := cs.length) (s := 2) (k := k) (xs := csl cs) (ltN rfl) qP3_un_33 qP3_sz_29 (OpV.tmp 22 (.int .i64 ((k : Nat) : Int))) (by first | rfl | omega) (by omega))) (by kernel_rfl) ?_
    refine wpc (step_plain rfl (acts_load_vs (d := 24) (t := 23) (s := 2) (off := (k * 2)) (xs := csl cs)  (vs := [(.int .i64 ((gC cs k).x) : Value), .int .i64 ((gC cs k).y)]) (ltN rfl) qP3_ti_29 rfl (csl_at (k := k) (by omega)))) (by kernel_rfl) ?_
    refine wpc (step_plain rfl (acts_call2 (d := 25) (ltN rfl) (spec_FlipAt_fn out (gC cs k) (by omega)) (ArgVs.cons (argv_own (t := 20) (h := 12) (n := out.length) (T := 54) (s := 3) (ex := true) (xs := dsl out) (by first | exact dsl_len _ | (simp [isl_len, bsl_len, dsl_len, csl_len]; done) | (simp [isl_len, bsl_len, dsl_len, csl_len]; omega))) (ArgVs.cons (ArgV.va (vs := [(.int .i64 ((gC cs k).x) : Value), .int .i64 ((gC cs k).y)]) (OpV.agg 24 [(.int .i64 ((gC cs k).x) : Value), .int .i64 ((gC cs k).y)])) (ArgVs.nil))) (ResV.row 54 3 ((flipAt out (gC cs k)).length) (dsl (flipAt out (gC cs k))) 25) (ResV.val _))) (by kernel_rfl) ?_
    refine wpc (step_plain rfl (acts_move (d := 19) (ltN rfl) (OpX.tmp 25 (V.tup [.a (.sl 25 0 ((flipAt out (gC cs k)).length)), .a (.val (.bool (canB out (gC cs k).x (gC cs k).y)))])))) (by kernel_rfl) ?_
    refine wpc (step_plain rfl (acts_extract (d := 26) (t := 19) (ix := 0) (xs := [.a (.sl 25 0 ((flipAt out (gC cs k)).length)), .a (.val (.bool (canB out (gC cs k).x (gC cs k).y)))]) (X := .a (.sl 25 0 ((flipAt out (gC cs k)).length))) (ltN rfl) rfl)) (by kernel_rfl) ?_
    refine wpc (step_plain rfl (acts_extract (d := 27) (t := 19) (ix := 1) (xs := [.a (.sl 25 0 ((flipAt out (gC cs k)).length)), .a (.val (.bool (canB out (gC cs k).x (gC cs k).y)))]) (X := .a (.val (.bool (canB out (gC cs k).x (gC cs k).y)))) (ltN rfl) rfl)) (by kernel_rfl) ?_
    refine wpc (step_plain rfl (acts_assign (d := 8) (ltN rfl) (OpX.tmp 26 (V.b (.a (.sl 25 0 ((flipAt out (gC cs k)).length))))))) (by kernel_rfl) ?_
    refine wpc (step_plain rfl (acts_assign (d := 9) (ltN rfl) (OpX.tmp 27 (V.v (.bool (canB out (gC cs k).x (gC cs k).y)))))) (by kernel_rfl) ?_
    refine wpl_nil ?_
    refine wp_seq' ?_
    refine wp_seq' ?_
    rcases Bool.eq_false_or_eq_true ((canB out (gC cs k).x (gC cs k).y)) with c3 | c3
    · skip
      refine wp_region_t ?_
      refine wpc (step_plain rfl (acts_move (d := 28) (ltN rfl) (OpX.tmp 9 (V.v (.bool (canB out (gC cs k).x (gC cs k).y)))))) (by kernel_rfl) ?_
      refine wpc (step_plain rfl (acts_un (d := 29) (ltN rfl) (OpV.tmp 28 (.bool (canB out (gC cs k).x (gC cs k).y))) (r_not (c := false) (by first | (rw [c3]; done) | (rw [c3]; rfl))))) (by kernel_rfl) ?_
      refine wpc (step_plain rfl (acts_move (d := 30) (ltN rfl) (OpX.tmp 29 (V.v (.bool false))))) (by kernel_rfl) ?_
      refine wpc (step_on (dj := 30) rfl rfl (acts_move (d := 31) (ltN rfl) (OpX.tmp 1 (V.b (.a (.slv cs.length 2 (csl cs))))))) (by kernel_rfl) ?_
      refine wpc (step_on (dj := 30) rfl rfl (acts_len (d := 32) (X := .slv cs.length 2 (csl cs)) (n := cs.length) (iv := ((cs.length : Nat) : Int)) (ltN rfl) qP3_un_33 (OpX.tmp 31 (V.b (.a (.slv cs.length 2 (csl cs))))) (LenOf.slv _ _ _) rfl)) (by kernel_rfl) ?_
      refine wpc (step_on (dj := 30) rfl rfl (acts_bin (d := 33) (ltN rfl) (OpV.tmp 32 (.int .i64 ((cs.length : Nat) : Int))) (OpV.const (.int .i64 200)) (r_gtr (c := (decide (200 < ((cs.length : Nat) : Int)))) rfl))) (by kernel_rfl) ?_
      refine wpc (step_plain rfl (acts_pick_f (d := 34) (ltN rfl) (OpV.tmp 30 (.bool false)) (OpX.tmp 33 (V.v (.bool (decide (200 < ((cs.length : Nat) : Int)))))))) (by kernel_rfl) ?_
      refine wpl_nil ?_
      refine wp_if (t := 34) (decide (200 < ((cs.length : Nat) : Int))) (by kernel_rfl) (fun c4 => ?_) (fun c4 => ?_)
      · skip
        have c4P := of_decide_eq_true c4
        refine wp_seq' ?_
        refine wp_region_t ?_
        refine wpc (step_plain rfl (acts_buildSlice0' (d := 35) (h := 35) (s := 3) (ltN rfl) qP3_un_27 qP3_zi_54)) (by kernel_rfl) ?_
        refine wpc (step_plain rfl (acts_move (d := 36) (ltN rfl) (OpX.tmp 0 (V.b (.a (.slv l.length 3 (dsl l))))))) (by kernel_rfl) ?_
        refine wpc (step_plain rfl (acts_app (d := 37) (x := 35) (h := 35) (h2 := 37) (n := 0) (m := l.length) (nm := l.length) (X := .slv l.length 3 (dsl l)) (xs := dsl []) (ys := dsl l) (zs := dsl l) (ltN rfl) qP3_un_27 qP3_zi_54 rfl (by decide) (by decide) (by first | exact dsl_len _ | (simp [isl_len, bsl_len, dsl_len, csl_len]; done) | (simp [isl_len, bsl_len, dsl_len, csl_len]; omega)) (OpX.tmp 36 (V.b (.a (.slv l.length 3 (dsl l))))) (Src.slv _ _ _) (dsl_one' _) (by first | omega | (simp; omega) | (simp at *; omega)) (by first | exact (dsl_append _ _).symm | rfl | simp [dsl_append]) (by first | rfl | (simp; done) | (simp; omega) | omega))) (by kernel_rfl) ?_
        refine wpc (step_plain rfl (acts_assign (d := 4) (ltN rfl) (OpX.tmp 37 (V.b (.a (.sl 37 0 l.length)))))) (by kernel_rfl) ?_
        refine wpc (step_plain rfl (acts_assign (d := 5) (ltN rfl) (OpX.const (.bool false)))) (by kernel_rfl) ?_
        refine wpl_nil ?_
        refine wp_ret' ?_
        exact ⟨VRes.tmp 4 (.a (.sl 37 0 l.length)) _ (by kernel_rfl) (brow_doms (h := 37) (L := l) (by kernel_rfl) (by exact (fAll_long (by omega)).1) (by first | rfl | (simp; done) | (simp; omega))), VRes.tmp 5 (.a (.val (.bool false))) _ (by kernel_rfl) (bval (congrArg Value.bool (by exact (fAll_long (by omega)).2)))⟩
      · skip
        have c4P := of_decide_eq_false c4
        refine wp_skip' ?_
        refine wp_region_t ?_
        refine wpc (step_plain rfl (acts_move (d := 38) (ltN rfl) (OpX.tmp 8 (V.b (.a (.sl 25 0 ((flipAt out (gC cs k)).length))))))) (by kernel_rfl) ?_
        refine wpc (step_plain rfl (acts_assign (d := 6) (ltN rfl) (OpX.tmp 38 (V.b (.a (.sl 25 0 ((flipAt out (gC cs k)).length))))))) (by kernel_rfl) ?_
        refine wpl_nil ?_
        refine wp_region_t ?_
        refine wpc (step_plain rfl (acts_move (d := 17) (ltN rfl) (OpX.tmp 7 (V.v (.int .i64 ((k : Nat) : Int)))))) (by kernel_rfl) ?_
        refine wpc (step_plain rfl (acts_bin (d := 18) (ltN rfl) (OpV.tmp 17 (.int .i64 ((k : Nat) : Int))) (OpV.const (.int .i64 1)) (r_add (c := (((k : Nat) : Int) + 1)) (w64 (by omega) (by omega))))) (by kernel_rfl) ?_
        refine wpc (step_plain rfl (acts_assign (d := 7) (ltN rfl) (OpX.tmp 18 (V.v (.int .i64 (((k : Nat) : Int) + 1)))))) (by kernel_rfl) ?_
        refine wpl_nil ?_
        exact loop_back ((k + 1), (flipAt out (gC cs k))) (by refine ⟨by omega, goAll_yes (by omega) (by assumption) (by assumption), ?_, by omega⟩; have := flipAt_len out (gC cs k); omega) (by show cs.length - (k + 1) < cs.length - k; omega) (weak_of (subst1 [(12, 25)]) [15, 25, 32, 35, 37] (by kernel_rfl) (wk_s (v' := V.b (.a (.slv l.length 3 (dsl l)))) (by kernel_rfl) rfl rfl (wk_s (v' := V.b (.a (.slv cs.length 2 (csl cs)))) (by kernel_rfl) rfl rfl (wk_s (v' := V.b (.a (.sl 25 0 ((flipAt out (gC cs k)).length)))) (by kernel_rfl) rfl rfl (wk_s (v' := V.v (.int .i64 (((k : Nat) : Int) + 1))) (by kernel_rfl) (vint (by first | rfl | omega | (simp; done) | (simp; omega))) rfl (wk_o (o' := ⟨54, 3, true, pl (dsl (flipAt out (gC cs k)))⟩) (by kernel_rfl) (renob_pl (fun h => h)) rfl (wk_f rfl (wk_f rfl (wk_f rfl (wk_f rfl (wk_f rfl (wk_nil))))))))))))
    · skip
      refine wp_region_t ?_
      refine wpc (step_plain rfl (acts_move (d := 28) (ltN rfl) (OpX.tmp 9 (V.v (.bool (canB out (gC cs k).x (gC cs k).y)))))) (by kernel_rfl) ?_
      refine wpc (step_plain rfl (acts_un (d := 29) (ltN rfl) (OpV.tmp 28 (.bool (canB out (gC cs k).x (gC cs k).y))) (r_not (c := true) (by first | (rw [c3]; done) | (rw [c3]; rfl))))) (by kernel_rfl) ?_
      refine wpc (step_plain rfl (acts_move (d := 30) (ltN rfl) (OpX.tmp 29 (V.v (.bool true))))) (by kernel_rfl) ?_
      refine wpc (step_off (dj := 30) (b' := true) rfl rfl (by decide) rfl (ltN rfl)) (by kernel_rfl) ?_
      refine wpc (step_off (dj := 30) (b' := true) rfl rfl (by decide) rfl (ltN rfl)) (by kernel_rfl) ?_
      refine wpc (step_off (dj := 30) (b' := true) rfl rfl (by decide) rfl (ltN rfl)) (by kernel_rfl) ?_
      refine wpc (step_plain rfl (acts_pick_t (d := 34) (ltN rfl) (OpV.tmp 30 (.bool true)) (OpX.const (.bool true)))) (by kernel_rfl) ?_
      refine wpl_nil ?_
      refine wp_if_t (t := 34) (by kernel_rfl) ?_
      refine wp_seq' ?_
      refine wp_region_t ?_
      refine wpc (step_plain rfl (acts_buildSlice0' (d := 35) (h := 35) (s := 3) (ltN rfl) qP3_un_27 qP3_zi_54)) (by kernel_rfl) ?_
      refine wpc (step_plain rfl (acts_move (d := 36) (ltN rfl) (OpX.tmp 0 (V.b (.a (.slv l.length 3 (dsl l))))))) (by kernel_rfl) ?_
      refine wpc (step_plain rfl (acts_app (d := 37) (x := 35) (h := 35) (h2 := 37) (n := 0) (m := l.length) (nm := l.length) (X := .slv l.length 3 (dsl l)) (xs := dsl []) (ys := dsl l) (zs := dsl l) (ltN rfl) qP3_un_27 qP3_zi_54 rfl (by decide) (by decide) (by first | exact dsl_len _ | (simp [isl_len, bsl_len, dsl_len, csl_len]; done) | (simp [isl_len, bsl_len, dsl_len, csl_len]; omega)) (OpX.tmp 36 (V.b (.a (.slv l.length 3 (dsl l))))) (Src.slv _ _ _) (dsl_one' _) (by first | omega | (simp; omega) | (simp at *; omega)) (by first | exact (dsl_append _ _).symm | rfl | simp [dsl_append]) (by first | rfl | (simp; done) | (simp; omega) | omega))) (by kernel_rfl) ?_
      refine wpc (step_plain rfl (acts_assign (d := 4) (ltN rfl) (OpX.tmp 37 (V.b (.a (.sl 37 0 l.length)))))) (by kernel_rfl) ?_
      refine wpc (step_plain rfl (acts_assign (d := 5) (ltN rfl) (OpX.const (.bool false)))) (by kernel_rfl) ?_
      refine wpl_nil ?_
      refine wp_ret' ?_
      exact ⟨VRes.tmp 4 (.a (.sl 37 0 l.length)) _ (by kernel_rfl) (brow_doms (h := 37) (L := l) (by kernel_rfl) (by exact (fAll_no (k := k) (by omega) (by assumption) (by assumption)).1) (by first | rfl | (simp; done) | (simp; omega))), VRes.tmp 5 (.a (.val (.bool false))) _ (by kernel_rfl) (bval (congrArg Value.bool (by exact (fAll_no (k := k) (by omega) (by assumption) (by assumption)).2)))⟩
  · skip
    have c2P := of_decide_eq_false c2
    refine wp_exit' ?_
    refine wp_seq' ?_
    refine wp_region_t ?_
    refine wpc (step_plain rfl (acts_move (d := 39) (ltN rfl) (OpX.tmp 6 (V.b (.a (.sl 12 0 out.length)))))) (by kernel_rfl) ?_
    refine wpc (step_plain rfl (acts_assign (d := 4) (ltN rfl) (OpX.tmp 39 (V.b (.a (.sl 12 0 out.length)))))) (by kernel_rfl) ?_
    refine wpc (step_plain rfl (acts_assign (d := 5) (ltN rfl) (OpX.const (.bool true)))) (by kernel_rfl) ?_
    refine wpl_nil ?_
    refine wp_ret' ?_
    exact ⟨VRes.tmp 4 (.a (.sl 12 0 out.length)) _ (by kernel_rfl) (brow_doms (h := 12) (L := out) (by kernel_rfl) (by exact (fAll_end (k := k) (by omega) (by omega) (by assumption)).1) (by first | rfl | (simp; done) | (simp; omega))), VRes.tmp 5 (.a (.val (.bool true))) _ (by kernel_rfl) (bval (congrArg Value.bool (by exact (fAll_end (k := k) (by omega) (by omega) (by assumption)).2)))⟩
end Cl
end Go.Proofs.Ytjlcphpabeamaaa
