/- Walks over clean states, printed by wg.py. No statement is proved here. -/
import Derived.Test.YtjgjeflidcembaaP2
import Derived.Test.YtjgjeflidcembaaP7
import Derived.Test.YtjgjeflidcembaaE4
import Derived.Test.YtjgjeflidcembaaClB
namespace Go.Proofs.Ytjgjeflidcembaa
namespace Cl
open Go.ChangeShapes Go.WideShapes Go.ChangeAt Go.RowKit
set_option maxRecDepth 20000

def atB (b : List Nat) (i : Nat) : Nat := if b.length = 0 then 0 else gY b ((i * 5 + 1) % b.length)
theorem atB_lt {b : List Nat} (hy : ∀ x ∈ b, x < 256) (i : Nat) : atB b i < 256 := by
  unfold atB; split
  · decide
  · exact gY_bd hy _
theorem lex_ne {P Q : List Dom} (h : LexN P Q) {i : Nat} (hs : ∀ j, j < i → gD P j = gD Q j) (hne : gD Q i ≠ gD P i) : (gD P i).d = false ∧ (gD Q i).d = true := by
  obtain ⟨j, j1, j2, j3, j4, j5, j6⟩ := lex_at h
  rcases Nat.lt_trichotomy i j with h1 | h1 | h1
  · exact absurd (j3 i h1).symm hne
  · subst h1; exact ⟨j5, j6⟩
  · exact absurd (hs j h1) j4
theorem lex_last {P Q : List Dom} (h : LexN P Q) {i : Nat} (hs : ∀ j, j < i + 1 → gD P j = gD Q j) : i + 1 < Q.length := by
  obtain ⟨j, j1, j2, j3, j4, j5, j6⟩ := lex_at h
  rcases Nat.lt_or_ge j (i + 1) with h1 | h1
  · exact absurd (hs j h1) j4
  · omega
theorem gD_same {P Q : List Dom} {i : Nat} (hs : ∀ j, j < i → gD P j = gD Q j) (h : gD Q i = gD P i) : ∀ j, j < i + 1 → gD P j = gD Q j := by
  intro j hj
  rcases Nat.lt_or_ge j i with h1 | h1
  · exact hs j h1
  · rw [show j = i by omega, h]
/-- what is known of a list of tilings that is not too long -/
structure LT (R : List Int) : Prop where
  ok : regOk R = true
  len : (ltR R).length = cntR R
  pos : 1 ≤ cntR R ∧ cntR R ≤ 300
  fst : ftR R = gLd (ltR R) 0
  til : ∀ k, k < (ltR R).length → isTil R (gLd (ltR R) k) = true
  ts : ∀ k, k < (ltR R).length → TilS (regSet R) (gLd (ltR R) k)
  lex : ∀ k, 0 < k → k < (ltR R).length → LexN (gLd (ltR R) (k - 1)) (gLd (ltR R) k)
  row : ∀ k, k < (ltR R).length → (gLd (ltR R) k).length ≤ 33
  eql : ∀ k, 0 < k → k < (ltR R).length → (gLd (ltR R) (k - 1)).length = (gLd (ltR R) k).length
  ix : ∀ k, k < (ltR R).length → ixT (ltR R) (gLd (ltR R) k) = (k : Int)
theorem LT.of {R : List Int} (ho : regOk R = true) (h1 : 1 ≤ cnt (regSet R)) (h2 : cnt (regSet R) ≤ 300) : LT R := by
  have hs := regSet_lt ho
  have hp : popc (regSet R) < 2 * 33 := by have := popc_le (regSet R); omega
  have hc := cntR_yes ho
  have hlt : ltR R = tls 33 (regSet R) := (ltR_yes (inB_true.2 (by omega))).1
  have hlen := tls_len 33 _ hs hp
  have hmem : ∀ k, k < (ltR R).length → TilS (regSet R) (gLd (ltR R) k) := fun k hk => by
    refine (ltR_mem (l := R) ?_).2
    rw [gLd_eq hk]; exact List.getElem_mem hk
  refine ⟨ho, by rw [hlt, hlen, hc], by omega, ?_, fun k hk => til_isTil ho (hmem k hk), hmem, fun k h0 hk => ltR_lex (by omega) hk, fun k hk => ltR_row hk, fun k h0 hk => ?_, fun k hk => ixT_self (ltR_nodup R) hk⟩
  · unfold ftR
    rw [if_neg (by omega), hlt, tls_first 33 _ hs hp (by omega)]
  · have q1 := til_len hs (hmem (k - 1) (by omega))
    have q2 := til_len hs (hmem k hk)
    omega
theorem LT.r8 {b : List Nat} {R : List Int} (h : (r8 b 6 (cu0 b)).1 = R) : LT R := by
  subst h
  obtain ⟨h1, h2, h3⟩ := r8_cnt b 6 (cu0 b)
  exact LT.of h1 h2 h3

theorem qP8_eg_37 : Try.prog.eqGuardType Try.prog.depth 37 = false := by kernel_rfl
theorem qP8_fo_37_2 : fieldOff Try.prog 37 2 = some 2 := by kernel_rfl
theorem qP8_sz_30 : (Try.prog.info? 30).map (·.size) = some 1 := by kernel_rfl
theorem qP8_sz_37 : (Try.prog.info? 37).map (·.size) = some 3 := by kernel_rfl
theorem qP8_sz_5 : (Try.prog.info? 5).map (·.size) = some 1 := by kernel_rfl
theorem qP8_ti_26 : TI Try.prog 26 true 1 := ⟨⟨_, Try.underlying26, rfl⟩, by kernel_rfl⟩
theorem qP8_ti_30 : TI Try.prog 30 false 1 := ⟨⟨_, Try.underlying30, rfl⟩, by kernel_rfl⟩
theorem qP8_ti_37 : TI Try.prog 37 true 3 := ⟨⟨_, Try.underlying37, rfl⟩, by kernel_rfl⟩
theorem qP8_ti_4 : TI Try.prog 4 false 1 := ⟨⟨_, Try.underlying4, rfl⟩, by kernel_rfl⟩
theorem qP8_ti_5 : TI Try.prog 5 false 1 := ⟨⟨_, Try.underlying5, rfl⟩, by kernel_rfl⟩
theorem qP8_un_22 : Try.prog.underlying 22 = some (.slice 5) := Try.underlying22
theorem qP8_un_28 : Try.prog.underlying 28 = some (.slice 30) := Try.underlying28
theorem qP8_un_3 : Try.prog.underlying 3 = some (.int .i64) := Try.underlying3
theorem qP8_un_30 : Try.prog.underlying 30 = some (.slice 37) := Try.underlying30
theorem qP8_un_5 : Try.prog.underlying 5 = some (.int .u8) := Try.underlying5
theorem qP8_zi_26 : ZI Try.prog 26 (.agg #[.slice none 0 0]) 1 24 := by unfold ZI; kernel_rfl
set_option maxHeartbeats 4000000 in
set_option maxRecDepth 100000 in
theorem laws_big_fn (b : List Nat) : Fn Try.prog 7 [.a (.slv b.length 1 (ysl b))] [.val (.bool (decide (1048576 < ((b.length : Nat) : Int))))] := by
 refine fn_intro (N := 6) Try.func7 rfl (by kernel_rfl) rfl (Nat.le_of_ble_eq_true rfl) [4] (ret1 rfl) (fun W => ?_)
 show Wp _ _ _ [kV 0 (V.b (.a (.slv b.length 1 (ysl b)))), kF 4]
 refine sq (rg (zk (nl (sq (rg (zm ?_))))))
 refine z ?_ (h := fun ν => lnV ν qP8_un_22)
 refine z ?_ (h := fun ν => acts_bin ν vt vc (r_gtr rfl))
 refine za (nl (wp_ret' ?_))
 exact VRes.tmp _ _ _ (by exact rfl) (bval (congrArg Value.bool (by first | rfl | simp_all)))

set_option maxHeartbeats 4000000 in
set_option maxRecDepth 100000 in
theorem laws_at_fn (b : List Nat) (i : Nat) (hb : b.length ≤ 1048576) (hy : ∀ x ∈ b, x < 256) (hi : i ≤ 64) : Fn Try.prog 14 [.a (.slv b.length 1 (ysl b)), .a (.val (.int .i64 ((i : Nat) : Int)))] [.val (.int .i64 (((atB b i) : Nat) : Int))] := by
 have hgy := gY_bd hy ((i * 5 + 1) % b.length)
 refine fn_intro (N := 18) Try.func14 rfl (by kernel_rfl) rfl (Nat.le_of_ble_eq_true rfl) [6, 13] (ret1 rfl) (fun W => ?_)
 show Wp _ _ _ [kV 0 (V.b (.a (.slv b.length 1 (ysl b)))), kI 1 ((i : Nat) : Int), kF 6, kF 13]
 refine sq (rg (zk (nl (sq (sq (rg (zm ?_)))))))
 refine z ?_ (h := fun ν => lnV ν qP8_un_22)
 refine z ?_ (h := fun ν => acts_bin ν vt vc (r_eql rfl))
 refine nl ?_
 refine wi (fun c1 => ?_) (fun c1 => ?_)
 ·skip
  have c1P := of_decide_eq_true c1
  refine sq (rg (zk (nl (wp_ret' ?_))))
  exact VRes.tmp _ _ _ (by exact rfl) (bval (congrArg (Value.int .i64) (by (unfold atB; rw [if_pos (by omega)]; rfl))))
 ·skip
  have c1P := of_decide_eq_false c1
  have hml := Nat.mod_lt (i * 5 + 1) (y := b.length) (by omega)
  refine sk (sq (rg (zm (zm ?_))))
  refine z ?_ (h := fun ν => acts_bin ν vt vc rM)
  refine z ?_ (h := fun ν => acts_bin ν vt vc rA)
  refine zm ?_
  refine z ?_ (h := fun ν => lnV ν qP8_un_22)
  refine z ?_ (h := fun ν => acts_bin ν vt vt (r_rem (c := (((((i * 5) + 1) % b.length) : Nat) : Int)) (by omega) (by rw [remI (by omega)]; first | done | (push_cast; first | done | rfl))))
  refine z ?_ (h := fun ν => ixv ν qP8_un_22 qP8_sz_5 vt)
  refine z ?_ (h := fun ν => uY ν qP8_ti_5)
  refine z ?_ (h := fun ν => acts_conv ν vt (r_conv (c := (((gY b (((i * 5) + 1) % b.length)) : Nat) : Int)) qP8_un_5 qP8_un_3 (w_i64 (by omega) (by omega))))
  refine za (nl (wp_ret' ?_))
  exact VRes.tmp _ _ _ (by exact rfl) (bval (congrArg (Value.int .i64) (by (unfold atB; rw [if_neg (by omega)]))))

set_option maxHeartbeats 4000000 in
set_option maxRecDepth 100000 in
theorem DrawTileable_R (b : List Nat) (R : List Int) (hb : b.length ≤ 1048576) (hy : ∀ x ∈ b, x < 256) (hR : (r8 b 6 (cu0 b)).1 = R) : FnO Try.prog 8 [.a (.slv b.length 1 (ysl b))] [] (V.b (.agg [(.sl 900 0 R.length : A)])) [(.o 900, some (.o ⟨3, 1, true, pl (isl R)⟩))] [] := by
 refine fn_introO (N := 6) Try.func8 rfl (by kernel_rfl) rfl (Nat.le_of_ble_eq_true rfl) rfl rfl (by kernel_rfl) (by kernel_rfl) trivial [2, 4, 5] (retO1 rfl) (fun W own kp im0 => ?_)
 show Wp _ _ _ [kV 0 (V.b (.a (.slv b.length 1 (ysl b)))), kF 2, kF 4, kF 5]
 refine sq (rg ?_)
 refine z ?_ (h := fun ν => acts_alloc' (h := 2) (cap := 1) (s := 1) (cells := [(.val (.slice none 0 0) : A)]) ν qP8_zi_26 rfl rfl (by decide))
 refine nl (sq (rg (zm ?_)))
 refine z ?_ (h := fun ν => acts_callO (d := 4) (f := 43) (os := []) (os' := [(.o 4, some (.o ⟨97, 3, true, [(.slv b.length 1 (ysl b) : A), aI (((cu0 b).i : Nat) : Int), aI ((cu0 b).h)]⟩))]) (r := V.p 4 0) (bs := [.a (.slv b.length 1 (ysl b))]) (keep := []) (new := [4]) (dead := []) ν (FnO.ren' (spec_l01New_fn b (by first | omega | assumption | exact (Nat.zero_le _ : 0 ≤ _)) (by first | omega | assumption | exact (Nat.zero_le _ : 0 ≤ _))) (subst1 [(900, 4)]) rfl rfl (by kernel_rfl) (by kernel_rfl) ⟨ocs (by kernel_rfl), trivial⟩ (by kernel_rfl) rfl (by simp only [renS, Ob.ren, pl_ren, rws_ren_doms, rws_ren_ints, rws_ren_cels, rwI_ren, rwD_ren]; first | done | rfl) (by simp only [renS, Ob.ren, pl_ren, rws_ren_doms, rws_ren_ints, rws_ren_cels, rwI_ren, rwD_ren]; first | done | rfl) rfl rfl) (by kernel_rfl) ⟨ocs (by kernel_rfl), trivial⟩ (by kernel_rfl) (ArgOs.cons (ArgO.slot 3 (.a (.slv b.length 1 (ysl b)))) (ArgOs.nil)))
 refine z ?_ (h := fun ν => acts_callO (d := 5) (f := 42) (os := [(.o 4, some (.o ⟨97, 3, true, [(.slv b.length 1 (ysl b) : A), aI (((cu0 b).i : Nat) : Int), aI ((cu0 b).h)]⟩))]) (os' := [(.o 4, some (.o ⟨97, 3, true, [(.slv b.length 1 (ysl b) : A), aI ((((r8 b 6 (cu0 b)).2).i : Nat) : Int), aI (((r8 b 6 (cu0 b)).2).h)]⟩)), (.o 5, some (.o ⟨3, 1, true, pl (isl ((r8 b 6 (cu0 b)).1))⟩))]) (r := V.b (.agg [(.sl 5 0 ((r8 b 6 (cu0 b)).1.length) : A)])) (bs := [.a (.ptr 4 0)]) (keep := [4]) (new := [5]) (dead := []) ν (FnO.ren' (spec_l08Region_fn b (cu0 b) (by first | omega | assumption | exact (Nat.zero_le _ : 0 ≤ _)) (by first | omega | assumption | exact (Nat.zero_le _ : 0 ≤ _)) (by first | omega | assumption | exact (Nat.zero_le _ : 0 ≤ _))) (subst1 [(1, 4), (900, 5)]) rfl rfl (by kernel_rfl) (by kernel_rfl) ⟨ocs (by kernel_rfl), oc_pl (fun _ => rfl), trivial⟩ (by kernel_rfl) rfl (by simp only [renS, Ob.ren, pl_ren, rws_ren_doms, rws_ren_ints, rws_ren_cels, rwI_ren, rwD_ren]; first | done | rfl) (by simp only [renS, Ob.ren, pl_ren, rws_ren_doms, rws_ren_ints, rws_ren_cels, rwI_ren, rwD_ren]; first | done | rfl) rfl rfl) (by kernel_rfl) ⟨ocs (by kernel_rfl), oc_pl (fun _ => rfl), trivial⟩ (by kernel_rfl) (ArgOs.cons (ArgO.slot 4 (.a (.ptr 4 0))) (ArgOs.nil)))
 refine z ?_ (h := fun _ => acts_store (cells := [(.sl 5 0 ((r8 b 6 (cu0 b)).1.length) : A)]) qP8_ti_26 xt (by exact rfl) (by decide) (by exact ob1 rfl) (by exact Nat.le_of_ble_eq_true rfl) (by exact rfl))
 refine nl (wp_ret' ?_)
 exact ⟨[kP 2 2 0, kO 2 26 1 true [(.sl 900 0 ((r8 b 6 (cu0 b)).1.length) : A)], kO 900 3 1 true (pl (isl ((r8 b 6 (cu0 b)).1))), kF 4, kF 5], wkf (subst1 [(900, 5)]) (wS <| wX <| wP <| wF <| wF <| wN), ⟨obj_eq (c := pl (isl ((r8 b 6 (cu0 b)).1))) (by kernel_rfl) (congrArg (fun z => pl (isl z)) (by exact hR)), trivial⟩, vo_cells (h := 2) ⟨26, 1, true, [(.sl 900 0 ((r8 b 6 (cu0 b)).1.length) : A)]⟩ (by kernel_rfl) (by kernel_rfl) qP8_ti_26 (Nat.le_of_ble_eq_true rfl) (by first | rfl | (exact congrArg (fun z : Nat => [A.sl 900 0 z]) (by rw [hR])))⟩

set_option maxHeartbeats 4000000 in
set_option maxRecDepth 100000 in
theorem IndexOf_v (l : List Int) (q : List Dom) (hl : l.length ≤ 4194304) (hq : q.length ≤ 4194304) : FnO Try.prog 15 [.agg [(.sl 800 0 l.length : A)], .a (.slv q.length 3 (dsl q))] [(.o 800, some (.o ⟨3, 1, true, pl (isl l)⟩))] (V.v (.int .i64 (ixT (ltR l) q))) [(.o 800, some (.o ⟨3, 1, true, pl (isl l)⟩))] [800] := by
 have hll := ltR_len l
 have hlr : ∀ k, k < (ltR l).length → (gLd (ltR l) k).length ≤ 4194304 := fun k hk => Nat.le_trans (ltR_row hk) (by decide)
 refine fn_introO (N := 9) Try.func15 rfl (by kernel_rfl) rfl (Nat.le_of_ble_eq_true rfl) rfl rfl (by kernel_rfl) (by kernel_rfl) ⟨oc_pl (fun _ => rfl), trivial⟩ [2, 6, 8] (retO1 rfl) (fun W own kp im0 => ?_)
 show Wp _ _ _ [kV 0 (V.b (.agg [(.sl 800 0 l.length : A)])), kV 1 (V.b (.a (.slv q.length 3 (dsl q)))), kO 800 3 1 true (pl (isl l)), kF 2, kF 6, kF 8]
 refine sq (rg ?_)
 refine z ?_ (h := fun ν => acts_box (h := 2) ν xt (by exact ob1 rfl))
 refine zk (nl (sq (rg ?_)))
 refine z ?_ (h := fun ν => acts_load_owns (xs := [(.sl 800 0 l.length : A)]) ν qP8_ti_26 rfl (by decide) rfl)
 refine z ?_ (h := fun ν => acts_callO (d := 6) (f := 9) (os := [(.o 800, some (.o ⟨3, 1, true, pl (isl l)⟩))]) (os' := [(.o 800, some (.o ⟨3, 1, true, pl (isl l)⟩)), (.o 6, some (.o ⟨30, 1, true, rwD 37 (ltR l)⟩))]) (r := V.b (.a (.sl 6 0 ((ltR l).length)))) (bs := [.agg [(.sl 800 0 l.length : A)]]) (keep := [800]) (new := [6]) (dead := []) ν (FnO.ren' (impl_ListTilings_fn l (by first | omega | assumption)) (subst1 [(900, 6)]) rfl rfl (by kernel_rfl) (by kernel_rfl) ⟨oc_pl (fun _ => rfl), oc_rwD, trivial⟩ (by kernel_rfl) rfl (by simp only [renS, Ob.ren, pl_ren, rws_ren_doms, rws_ren_ints, rws_ren_cels, rwI_ren, rwD_ren]; first | done | rfl) (by simp only [renS, Ob.ren, pl_ren, rws_ren_doms, rws_ren_ints, rws_ren_cels, rwI_ren, rwD_ren]; first | done | rfl) rfl rfl) (by kernel_rfl) ⟨oc_pl (fun _ => rfl), oc_rwD, trivial⟩ (by kernel_rfl) (ArgOs.cons (ArgO.slot 5 (.agg [(.sl 800 0 l.length : A)])) (ArgOs.nil)))
 refine zm ?_
 refine z ?_ (h := fun ν => acts_call1 ν (impl_indexIn_fn (ltR l) q (by first | omega | assumption) (by first | omega | assumption) (by first | omega | assumption)) (ac (dvD (L := (ltR l))) (ac (ArgV.slv _ _ _ _) an)) rv)
 refine za (nl (wp_ret' ?_))
 exact ⟨_, weak_id, ⟨by kernel_rfl, trivial⟩, VO.tmp 4 (.a (.val (.int .i64 (ixT (ltR l) q)))) (by kernel_rfl)⟩

set_option maxHeartbeats 4000000 in
set_option maxRecDepth 100000 in
theorem laws_FnLists_R (b : List Nat) (R : List Int) (hbb : b.length ≤ 9223372036854775807) (hy : ∀ x ∈ b, x < 256) (hR : (r8 b 6 (cu0 b)).1 = R) : Fn Try.prog 3 [.a (.slv b.length 1 (ysl b))] [.val (.bool true)] := by
 have hT := LT.r8 hR
 have h8 := (regOk_true hT.ok).1
 have hlen := hT.len
 have hpos := hT.pos
 have hcd : decide (0 < cntR R) = true := decide_eq_true (by omega)
 have hab := atB_lt hy 0
 have hfl := ftR_len R
 have hr0 := hT.row 0 (by omega)
 refine fn_intro (N := 126) Try.func3 rfl (by kernel_rfl) rfl (Nat.le_of_ble_eq_true rfl) [3, 11, 13, 15, 18, 22, 24, 28, 40, 45, 54, 64, 110, 114, 116, 123] (ret1 rfl) (fun W => ?_)
 show Wp _ _ _ [kV 0 (V.b (.a (.slv b.length 1 (ysl b)))), kF 3, kF 11, kF 13, kF 15, kF 18, kF 22, kF 24, kF 28, kF 40, kF 45, kF 54, kF 64, kF 110, kF 114, kF 116, kF 123]
 refine sq (rg (zk (nl (sq (sq (rg (zm ?_)))))))
 refine z ?_ (h := fun ν => acts_call1 ν (laws_big_fn b ) (ac (ArgV.slv _ _ _ _) an) rv)
 refine nl ?_
 refine wi (b := (decide (1048576 < ((b.length : Nat) : Int)))) (fun c1 => ?_) (fun c1 => ?_)
 ·skip
  refine sq (rg (zk (nl (wp_ret' ?_))))
  exact VRes.tmp _ _ _ (by exact rfl) (BRes.val _)
 ·skip
  have hb : b.length ≤ 1048576 := by have := of_decide_eq_false c1; omega
  refine sk (sq (rg (zm ?_)))
  refine z ?_ (h := fun ν => acts_callO (d := 13) (f := 8) (os := []) (os' := [(.o 3, some (.o ⟨3, 1, true, pl (isl R)⟩))]) (r := V.b (.agg [(.sl 3 0 R.length : A)])) (bs := [.a (.slv b.length 1 (ysl b))]) (keep := []) (new := [3]) (dead := []) ν (FnO.ren' (DrawTileable_R b R (by first | exact hR | omega | assumption) (by first | exact hR | omega | assumption) (by first | exact hR | omega | assumption)) (subst1 [(900, 3)]) rfl rfl (by kernel_rfl) (by kernel_rfl) ⟨oc_pl (fun _ => rfl), trivial⟩ (by kernel_rfl) rfl (by simp only [renS, Ob.ren, pl_ren, rws_ren_doms, rws_ren_ints, rws_ren_cels, rwI_ren, rwD_ren]; first | done | rfl) (by simp only [renS, Ob.ren, pl_ren, rws_ren_doms, rws_ren_ints, rws_ren_cels, rwI_ren, rwD_ren]; first | done | rfl) rfl rfl) (by kernel_rfl) ⟨oc_pl (fun _ => rfl), trivial⟩ (by kernel_rfl) (ArgOs.cons (ArgO.slot 12 (.a (.slv b.length 1 (ysl b)))) (ArgOs.nil)))
  refine z ?_ (h := fun ν => acts_alloc' (h := 11) (cap := 1) (s := 1) (cells := [(.val (.slice none 0 0) : A)]) ν qP8_zi_26 rfl rfl (by decide))
  refine z ?_ (h := fun _ => acts_store (cells := [(.sl 3 0 R.length : A)]) qP8_ti_26 xt (by exact rfl) (by decide) (by exact ob1 rfl) (by exact Nat.le_of_ble_eq_true rfl) (by exact rfl))
  refine nl (sq (rg ?_))
  refine z ?_ (h := fun ν => acts_load_owns (xs := [(.sl 3 0 R.length : A)]) ν qP8_ti_26 rfl (by decide) rfl)
  refine z ?_ (h := fun ν => acts_callO (d := 15) (f := 9) (os := [(.o 3, some (.o ⟨3, 1, true, pl (isl R)⟩))]) (os' := [(.o 3, some (.o ⟨3, 1, true, pl (isl R)⟩)), (.o 13, some (.o ⟨30, 1, true, rwD 37 (ltR R)⟩))]) (r := V.b (.a (.sl 13 0 ((ltR R).length)))) (bs := [.agg [(.sl 3 0 R.length : A)]]) (keep := [3]) (new := [13]) (dead := []) ν (FnO.ren' (impl_ListTilings_fn R (by first | omega | assumption | exact hT.ok)) (subst1 [(800, 3), (900, 13)]) rfl rfl (by kernel_rfl) (by kernel_rfl) ⟨oc_pl (fun _ => rfl), oc_rwD, trivial⟩ (by kernel_rfl) rfl (by simp only [renS, Ob.ren, pl_ren, rws_ren_doms, rws_ren_ints, rws_ren_cels, rwI_ren, rwD_ren]; first | done | rfl) (by simp only [renS, Ob.ren, pl_ren, rws_ren_doms, rws_ren_ints, rws_ren_cels, rwI_ren, rwD_ren]; first | done | rfl) rfl rfl) (by kernel_rfl) ⟨oc_pl (fun _ => rfl), oc_rwD, trivial⟩ (by kernel_rfl) (ArgOs.cons (ArgO.slot 14 (.agg [(.sl 3 0 R.length : A)])) (ArgOs.nil)))
  refine za (nl (sq ?_))
  refine wp_weak (fzD (k := 4) (h := 13) (T0 := 30) (T := 37) (ex0 := true) (n := ((ltR R).length)) (L := (ltR R)) (hn := by rfl)) ?_
  refine rg ?_
  refine z ?_ (h := fun ν => acts_load_owns (xs := [(.sl 3 0 R.length : A)]) ν qP8_ti_26 rfl (by decide) rfl)
  refine z ?_ (h := fun ν => acts_call2 ν (impl_FirstTiling_fn R (by first | omega | assumption | exact hT.ok)) (ac (ArgV.reg _ _ _ (s := 1) (by simp [isl]) (by first | exact List.take_of_length_le (by simp [isl]) | (simp [isl]; done))) an) (ResV.row _ _ _ _ 18) (resval (congrArg Value.bool hcd)))
  refine zm ?_
  refine z ?_ (h := fun ν => acts_extract ν (by exact rfl))
  refine z ?_ (h := fun ν => acts_extract ν (by exact rfl))
  refine za (za (nl (sq (sq ?_))))
  rcases Bool.eq_false_or_eq_true (decide ((((ltR R).length : Nat) : Int) ≠ (((cntR R) : Nat) : Int))) with c2 | c2
  ·skip
   have c2P := of_decide_eq_true c2
   refine rg (zm ?_)
   refine z ?_ (h := fun ν => lnD ν qP8_un_28)
   refine z ?_ (h := fun ν => acts_load_owns (xs := [(.sl 3 0 R.length : A)]) ν qP8_ti_26 rfl (by decide) rfl)
   refine z ?_ (h := fun ν => acts_call1 ν (impl_CountTilings_fn R (by first | omega | assumption | exact hT.ok)) (ac (ArgV.reg _ _ _ (s := 1) (by simp [isl]) (by first | exact List.take_of_length_le (by simp [isl]) | (simp [isl]; done))) an) rv)
   refine z ?_ (h := fun ν => acts_bin ν vt vt (r_neq (c := true) c2))
   refine zm (zo (zo (zo ?_)))
   refine z ?_ (h := fun ν => acts_pick_t ν vt xc)
   refine zm (zo (zo ?_))
   refine z ?_ (h := fun ν => acts_pick_t ν vt xc)
   refine zm (zo (zo (zo (zo (zo (zo ?_))))))
   refine z ?_ (h := fun ν => acts_pick_t ν vt xc)
   refine nl (wt (sq (rg (zk (nl (wp_ret' ?_))))))
   exact VRes.tmp _ _ _ (by exact rfl) (bval (congrArg Value.bool (by first | rfl | (exfalso; omega) | (exfalso; exact absurd hT.fst (by assumption)) | (exact decide_eq_true hix) | (simp_all; done) | (exfalso; simp_all; done) | (exfalso; simp_all; omega))))
  ·skip
   have c2P := of_decide_eq_false c2
   rcases Bool.eq_false_or_eq_true (decide ((((ltR R).length : Nat) : Int) = 0)) with c3 | c3
   ·skip
    have c3P := of_decide_eq_true c3
    refine rg (zm ?_)
    refine z ?_ (h := fun ν => lnD ν qP8_un_28)
    refine z ?_ (h := fun ν => acts_load_owns (xs := [(.sl 3 0 R.length : A)]) ν qP8_ti_26 rfl (by decide) rfl)
    refine z ?_ (h := fun ν => acts_call1 ν (impl_CountTilings_fn R (by first | omega | assumption | exact hT.ok)) (ac (ArgV.reg _ _ _ (s := 1) (by simp [isl]) (by first | exact List.take_of_length_le (by simp [isl]) | (simp [isl]; done))) an) rv)
    refine z ?_ (h := fun ν => acts_bin ν vt vt (r_neq (c := false) c2))
    refine zm ?_
    refine zg ?_ (h := fun ν => step_on rfl rfl (mt ν))
    refine zg ?_ (h := fun ν => step_on rfl rfl (lnD ν qP8_un_28))
    refine zg ?_ (h := fun ν => step_on rfl rfl (acts_bin ν vt vc (r_eql (c := true) c3)))
    refine z ?_ (h := fun ν => acts_pick_f ν vt xt)
    refine zm (zo (zo ?_))
    refine z ?_ (h := fun ν => acts_pick_t ν vt xc)
    refine zm (zo (zo (zo (zo (zo (zo ?_))))))
    refine z ?_ (h := fun ν => acts_pick_t ν vt xc)
    refine nl (wt (sq (rg (zk (nl (wp_ret' ?_))))))
    exact VRes.tmp _ _ _ (by exact rfl) (bval (congrArg Value.bool (by first | rfl | (exfalso; omega) | (exfalso; exact absurd hT.fst (by assumption)) | (exact decide_eq_true hix) | (simp_all; done) | (exfalso; simp_all; done) | (exfalso; simp_all; omega))))
   ·skip
    have c3P := of_decide_eq_false c3
    refine rg (zm ?_)
    refine z ?_ (h := fun ν => lnD ν qP8_un_28)
    refine z ?_ (h := fun ν => acts_load_owns (xs := [(.sl 3 0 R.length : A)]) ν qP8_ti_26 rfl (by decide) rfl)
    refine z ?_ (h := fun ν => acts_call1 ν (impl_CountTilings_fn R (by first | omega | assumption | exact hT.ok)) (ac (ArgV.reg _ _ _ (s := 1) (by simp [isl]) (by first | exact List.take_of_length_le (by simp [isl]) | (simp [isl]; done))) an) rv)
    refine z ?_ (h := fun ν => acts_bin ν vt vt (r_neq (c := false) c2))
    refine zm ?_
    refine zg ?_ (h := fun ν => step_on rfl rfl (mt ν))
    refine zg ?_ (h := fun ν => step_on rfl rfl (lnD ν qP8_un_28))
    refine zg ?_ (h := fun ν => step_on rfl rfl (acts_bin ν vt vc (r_eql (c := false) c3)))
    refine z ?_ (h := fun ν => acts_pick_f ν vt xt)
    refine zm ?_
    refine zg ?_ (h := fun ν => step_on rfl rfl (mt ν))
    refine zg ?_ (h := fun ν => step_on rfl rfl (acts_un ν vt (r_not (c := false) rfl)))
    refine z ?_ (h := fun ν => acts_pick_f ν vt xt)
    refine zm ?_
    refine zg ?_ (h := fun ν => step_on rfl rfl (mt ν))
    refine zg ?_ (h := fun ν => step_on rfl rfl (mt ν))
    refine zg ?_ (h := fun ν => step_on rfl rfl (xvv (k := 0) ν qP8_un_28 qP8_sz_30 vc (hlt := (by simp only [vwI_len, vwD_len]; first | omega | assumption | exact hT.ok))))
    refine zg ?_ (h := fun ν => step_on rfl rfl (lvD ν qP8_ti_30 (by first | omega | assumption | exact hT.ok)))
    refine zg ?_ (h := fun ν => step_on rfl rfl (acts_call1 ν (impl_SameDominoes_fn (ftR R) (gLd (ltR R) 0) (by first | omega | assumption | exact hT.ok) (by first | omega | assumption | exact hT.ok)) (ac (argv_own (by first | exact dsl_len _ | (simp [isl_len, bsl_len, dsl_len, csl_len]; done) | (simp [isl_len, bsl_len, dsl_len, csl_len]; omega))) (ac (ArgV.slv _ _ _ _) an)) rv))
    refine zg ?_ (h := fun ν => step_on rfl rfl (acts_un ν vt (r_not rfl)))
    refine z ?_ (h := fun ν => acts_pick_f ν vt xt)
    refine nl ?_
    refine wi (b := (!(decide ((ftR R) = (gLd (ltR R) 0))))) (fun c4 => ?_) (fun c4 => ?_)
    ·skip
     have c5 : decide ((ftR R) = (gLd (ltR R) 0)) = false := by first | (rw [← Bool.not_eq_true']; exact c4) | simpa using c4
     have c5P := of_decide_eq_false c5
     refine sq (rg (zk (nl (wp_ret' ?_))))
     exact VRes.tmp _ _ _ (by exact rfl) (bval (congrArg Value.bool (by first | rfl | (exfalso; omega) | (exfalso; exact absurd hT.fst (by assumption)) | (exact decide_eq_true hix) | (simp_all; done) | (exfalso; simp_all; done) | (exfalso; simp_all; omega))))
    ·skip
     have c6 : decide ((ftR R) = (gLd (ltR R) 0)) = true := by first | (rw [← Bool.not_eq_false']; exact c4) | simpa using c4
     have c6P := of_decide_eq_true c6
     refine sk (sq (sq (rg (zk (nl (bkk ?_))))))
     refine wp_loop' (fun (k : Nat) => k ≤ (ltR R).length) (fun (k : Nat) => [kV 0 (V.b (.a (.slv b.length 1 (ysl b)))), kP 3 11 0, kV 4 (V.b (.a (.slvv 3 (vwD (ltR R))))), kI 7 ((k : Nat) : Int), kO 3 3 1 true (pl (isl R)), kO 11 26 1 true [(.sl 3 0 R.length : A)], kF 15, kF 18, kF 22, kF 24, kF 28, kF 40, kF 45, kF 54, kF 64, kF 110, kF 114, kF 116, kF 123]) (fun (k : Nat) => (ltR R).length - k) ((0 : Nat)) (by exact (Nat.zero_le _ : 0 ≤ _)) (wkf id (wS <| wS <| wS <| wE (e := (vint (by first | rfl | omega | (simp; done) | (simp; omega)))) <| wP <| wX <| by (iterate 13 refine wF ?_); exact wN)) ?_
     rintro k inv7
     replace inv7 : k ≤ (ltR R).length := inv7
     have invk := inv7
     refine sq (sq (rg (zm (zm ?_))))
     refine z ?_ (h := fun ν => lnD ν qP8_un_28)
     refine z ?_ (h := fun ν => acts_bin ν vt vt (r_lss rfl))
     refine nl ?_
     refine wi (fun c8 => ?_) (fun c8 => ?_)
     ·skip
      have c8P := of_decide_eq_true c8
      have hkl : k < (ltR R).length := by omega
      have htil := hT.til k hkl
      have hrow := hT.row k hkl
      refine sk (sq (bkk (sq (sq (wp_dr ?_)))))
      refine zd ?_ (h := fun ν => acts_load_owns (xs := [(.sl 3 0 R.length : A)]) ν qP8_ti_26 rfl (by decide) rfl)
      refine zdm (zdm ?_)
      refine zd ?_ (h := fun ν => xvv ν qP8_un_28 qP8_sz_30 vt (hlt := (by simp only [vwI_len, vwD_len]; first | omega | assumption | exact hT.ok)))
      refine zd ?_ (h := fun ν => lvD ν qP8_ti_30 (by first | omega | assumption | exact hT.ok))
      refine zd ?_ (h := fun ν => acts_call1 ν (spec_IsTiling_fn R (gLd (ltR R) k) (by first | omega | assumption | exact hT.ok) (by first | omega | assumption | exact hT.ok)) (ac (ArgV.reg _ _ _ (s := 1) (by simp [isl]) (by first | exact List.take_of_length_le (by simp [isl]) | (simp [isl]; done))) (ac (ArgV.slv _ _ _ _) an)) rv)
      refine zd ?_ (h := fun ν => acts_un ν vt (r_not rfl))
      refine dw_nil ?_
      refine wi (b := (!(isTil R (gLd (ltR R) k)))) (fun c9 => ?_) (fun c9 => ?_)
      ·skip
       have c10 : (isTil R (gLd (ltR R) k)) = false := by first | (rw [← Bool.not_eq_true']; exact c9) | simpa using c9
       refine sq (rg (zk (nl (wp_ret' ?_))))
       exact VRes.tmp _ _ _ (by exact rfl) (bval (congrArg Value.bool (by first | rfl | (exfalso; omega) | (exfalso; exact absurd hT.fst (by assumption)) | (exact decide_eq_true hix) | (simp_all; done) | (exfalso; simp_all; done) | (exfalso; simp_all; omega))))
      ·skip
       have c11 : (isTil R (gLd (ltR R) k)) = true := by first | (rw [← Bool.not_eq_false']; exact c9) | simpa using c9
       refine sk (sq (rg (zk (nl (bkk ?_)))))
       refine wp_loop' (fun (i : Nat) => i ≤ (gLd (ltR R) k).length ∧ (0 < k → ∀ j, j < i → gD (gLd (ltR R) ((((k : Nat) : Int) - 1).toNat)) j = gD (gLd (ltR R) k) j)) (fun (i : Nat) => [kV 0 (V.b (.a (.slv b.length 1 (ysl b)))), kP 3 11 0, kV 4 (V.b (.a (.slvv 3 (vwD (ltR R))))), kI 7 ((k : Nat) : Int), kI 8 ((i : Nat) : Int), kO 3 3 1 true (pl (isl R)), kO 11 26 1 true [(.sl 3 0 R.length : A)], kF 15, kF 18, kF 22, kF 24, kF 28, kF 40, kF 45, kF 54, kF 64, kF 110, kF 114, kF 116, kF 123]) (fun (i : Nat) => (gLd (ltR R) k).length - i) ((0 : Nat)) (by exact ⟨Nat.zero_le _, fun _ j hj => absurd hj (Nat.not_lt_zero j)⟩) (wkf id (wS <| wS <| wS <| wS <| wE (e := (vint (by first | rfl | omega | (simp; done) | (simp; omega)))) <| wP <| wX <| by (iterate 13 refine wF ?_); exact wN)) ?_
       rintro i inv12
       replace inv12 : i ≤ (gLd (ltR R) k).length ∧ (0 < k → ∀ j, j < i → gD (gLd (ltR R) ((((k : Nat) : Int) - 1).toNat)) j = gD (gLd (ltR R) k) j) := inv12
       obtain ⟨hil, hsm⟩ := inv12
       refine sq (sq ?_)
       rcases Bool.eq_false_or_eq_true (decide (0 < ((k : Nat) : Int))) with c13 | c13
       ·skip
        have c13P := of_decide_eq_true c13
        have hkm : ((((k : Nat) : Int) - 1).toNat) = k - 1 := by omega
        have hlex := hT.lex k (by omega) hkl
        have heql := hT.eql k (by omega) hkl
        rw [← hkm] at hlex heql
        refine rg (zm ?_)
        refine z ?_ (h := fun ν => acts_bin ν vt vc (r_gtr (c := true) c13))
        refine zm ?_
        refine zg ?_ (h := fun ν => step_on rfl rfl (mt ν))
        refine zg ?_ (h := fun ν => step_on rfl rfl (mt ν))
        refine zg ?_ (h := fun ν => step_on rfl rfl (mt ν))
        refine zg ?_ (h := fun ν => step_on rfl rfl (xvv ν qP8_un_28 qP8_sz_30 vt (hlt := (by simp only [vwI_len, vwD_len]; first | omega | assumption | exact hT.ok))))
        refine zg ?_ (h := fun ν => step_on rfl rfl (lvD ν qP8_ti_30 (by first | omega | assumption | exact hT.ok)))
        refine zg ?_ (h := fun ν => step_on rfl rfl (lnV ν qP8_un_30))
        refine zg ?_ (h := fun ν => step_on rfl rfl (acts_bin ν vt vt (r_lss rfl)))
        refine z ?_ (h := fun ν => acts_pick_t ν vt xt)
        refine nl ?_
        refine wi (fun c14 => ?_) (fun c14 => ?_)
        ·skip
         have c14P := of_decide_eq_true c14
         refine sk (sq (bkk (sq (sq (wp_dr (zdm (zdm ?_)))))))
         refine zd ?_ (h := fun ν => xvv ν qP8_un_28 qP8_sz_30 vt (hlt := (by simp only [vwI_len, vwD_len]; first | omega | assumption | exact hT.ok)))
         refine zd ?_ (h := fun ν => lvD ν qP8_ti_30 (by first | omega | assumption | exact hT.ok))
         refine zdm ?_
         refine zd ?_ (h := fun ν => ixv ν qP8_un_30 qP8_sz_37 vt (hlt := (by first | omega | assumption | exact hT.ok)))
         refine zd ?_ (h := fun ν => uD ν qP8_ti_37 (by first | omega | assumption | exact hT.ok))
         refine zdm (zdm ?_)
         refine zd ?_ (h := fun ν => acts_bin ν vt vc (rS (by first | omega | assumption | exact hT.ok) (by first | omega | assumption | exact hT.ok)))
         refine zd ?_ (h := fun ν => xvv (k := (((k : Nat) : Int) - 1).toNat) ν qP8_un_28 qP8_sz_30 vt (Int.toNat_of_nonneg (by first | omega | assumption | exact hT.ok)).symm (hlt := (by simp only [vwI_len, vwD_len]; first | omega | assumption | exact hT.ok)))
         refine zd ?_ (h := fun ν => lvD ν qP8_ti_30 (by first | omega | assumption | exact hT.ok))
         refine zdm ?_
         refine zd ?_ (h := fun ν => ixv ν qP8_un_30 qP8_sz_37 vt (hlt := (by first | omega | assumption | exact hT.ok)))
         refine zd ?_ (h := fun ν => uD ν qP8_ti_37 (by first | omega | assumption | exact hT.ok))
         refine zd ?_ (h := fun ν => acts_bin ν va va (r_aggne qP8_eg_37 (fun w => (run_neq_dom ((gD (gLd (ltR R) k) i).x) ((gD (gLd (ltR R) k) i).y) ((gD (gLd (ltR R) k) i).d) ((gD (gLd (ltR R) ((((k : Nat) : Int) - 1).toNat)) i).x) ((gD (gLd (ltR R) ((((k : Nat) : Int) - 1).toNat)) i).y) ((gD (gLd (ltR R) ((((k : Nat) : Int) - 1).toNat)) i).d) w).trans (congrArg (fun z => Result.ok (Value.bool z) w) (rfl : (!(dEq ((gD (gLd (ltR R) k) i).x) ((gD (gLd (ltR R) k) i).y) ((gD (gLd (ltR R) k) i).d) ((gD (gLd (ltR R) ((((k : Nat) : Int) - 1).toNat)) i).x) ((gD (gLd (ltR R) ((((k : Nat) : Int) - 1).toNat)) i).y) ((gD (gLd (ltR R) ((((k : Nat) : Int) - 1).toNat)) i).d))) = (!(dEq ((gD (gLd (ltR R) k) i).x) ((gD (gLd (ltR R) k) i).y) ((gD (gLd (ltR R) k) i).d) ((gD (gLd (ltR R) ((((k : Nat) : Int) - 1).toNat)) i).x) ((gD (gLd (ltR R) ((((k : Nat) : Int) - 1).toNat)) i).y) ((gD (gLd (ltR R) ((((k : Nat) : Int) - 1).toNat)) i).d))))))))
         refine dw_nil ?_
         refine wi (b := (!(dEq ((gD (gLd (ltR R) k) i).x) ((gD (gLd (ltR R) k) i).y) ((gD (gLd (ltR R) k) i).d) ((gD (gLd (ltR R) ((((k : Nat) : Int) - 1).toNat)) i).x) ((gD (gLd (ltR R) ((((k : Nat) : Int) - 1).toNat)) i).y) ((gD (gLd (ltR R) ((((k : Nat) : Int) - 1).toNat)) i).d)))) (fun c15 => ?_) (fun c15 => ?_)
         ·skip
          have c16 : (dEq ((gD (gLd (ltR R) k) i).x) ((gD (gLd (ltR R) k) i).y) ((gD (gLd (ltR R) k) i).d) ((gD (gLd (ltR R) ((((k : Nat) : Int) - 1).toNat)) i).x) ((gD (gLd (ltR R) ((((k : Nat) : Int) - 1).toNat)) i).y) ((gD (gLd (ltR R) ((((k : Nat) : Int) - 1).toNat)) i).d)) = false := by first | (rw [← Bool.not_eq_true']; exact c15) | simpa using c15
          rw [dEq_dom, decide_eq_false_iff_not] at c16
          obtain ⟨hd1, hd2⟩ := lex_ne hlex (hsm (by omega)) c16
          refine sq (sq ?_)
          rcases Bool.eq_false_or_eq_true ((gD (gLd (ltR R) ((((k : Nat) : Int) - 1).toNat)) i).d) with c17 | c17
          ·skip
           refine rg (zm (zm ?_))
           refine z ?_ (h := fun ν => acts_bin ν vt vc (rS (by first | omega | assumption | exact hT.ok) (by first | omega | assumption | exact hT.ok)))
           refine z ?_ (h := fun ν => xvv (k := (((k : Nat) : Int) - 1).toNat) ν qP8_un_28 qP8_sz_30 vt (Int.toNat_of_nonneg (by first | omega | assumption | exact hT.ok)).symm (hlt := (by simp only [vwI_len, vwD_len]; first | omega | assumption | exact hT.ok)))
           refine z ?_ (h := fun ν => lvD ν qP8_ti_30 (by first | omega | assumption | exact hT.ok))
           refine zm ?_
           refine z ?_ (h := fun ν => ixv ν qP8_un_30 qP8_sz_37 vt (hlt := (by first | omega | assumption | exact hT.ok)))
           refine z ?_ (h := fun ν => acts_field_v (off' := (i * 3 + 2)) ν qP8_fo_37_2 rfl)
           refine z ?_ (h := fun ν => acts_load_v ν qP8_ti_4 (by exact ((dsl_d (k := i) (by first | omega | assumption | exact hT.ok)).trans (congrArg (fun b : Bool => some (Value.bool b)) c17))))
           refine zm (zo (zo (zo (zo (zo (zo (zo (zo (zo ?_)))))))))
           refine z ?_ (h := fun ν => acts_pick_t ν vt xc)
           refine nl (wt (sq (rg (zk (nl (wp_ret' ?_))))))
           exact VRes.tmp _ _ _ (by exact rfl) (bval (congrArg Value.bool (by first | rfl | (exfalso; omega) | (exfalso; exact absurd hT.fst (by assumption)) | (exact decide_eq_true hix) | (simp_all; done) | (exfalso; simp_all; done) | (exfalso; simp_all; omega))))
          ·skip
           refine rg (zm (zm ?_))
           refine z ?_ (h := fun ν => acts_bin ν vt vc (rS (by first | omega | assumption | exact hT.ok) (by first | omega | assumption | exact hT.ok)))
           refine z ?_ (h := fun ν => xvv (k := (((k : Nat) : Int) - 1).toNat) ν qP8_un_28 qP8_sz_30 vt (Int.toNat_of_nonneg (by first | omega | assumption | exact hT.ok)).symm (hlt := (by simp only [vwI_len, vwD_len]; first | omega | assumption | exact hT.ok)))
           refine z ?_ (h := fun ν => lvD ν qP8_ti_30 (by first | omega | assumption | exact hT.ok))
           refine zm ?_
           refine z ?_ (h := fun ν => ixv ν qP8_un_30 qP8_sz_37 vt (hlt := (by first | omega | assumption | exact hT.ok)))
           refine z ?_ (h := fun ν => acts_field_v (off' := (i * 3 + 2)) ν qP8_fo_37_2 rfl)
           refine z ?_ (h := fun ν => acts_load_v ν qP8_ti_4 (by exact ((dsl_d (k := i) (by first | omega | assumption | exact hT.ok)).trans (congrArg (fun b : Bool => some (Value.bool b)) c17))))
           refine zm ?_
           refine zg ?_ (h := fun ν => step_on rfl rfl (mt ν))
           refine zg ?_ (h := fun ν => step_on rfl rfl (mt ν))
           refine zg ?_ (h := fun ν => step_on rfl rfl (xvv ν qP8_un_28 qP8_sz_30 vt (hlt := (by simp only [vwI_len, vwD_len]; first | omega | assumption | exact hT.ok))))
           refine zg ?_ (h := fun ν => step_on rfl rfl (lvD ν qP8_ti_30 (by first | omega | assumption | exact hT.ok)))
           refine zg ?_ (h := fun ν => step_on rfl rfl (mt ν))
           refine zg ?_ (h := fun ν => step_on rfl rfl (ixv ν qP8_un_30 qP8_sz_37 vt (hlt := (by first | omega | assumption | exact hT.ok))))
           refine zg ?_ (h := fun ν => step_on rfl rfl (acts_field_v (off' := (i * 3 + 2)) ν qP8_fo_37_2 rfl))
           refine zg ?_ (h := fun ν => step_on rfl rfl (acts_load_v ν qP8_ti_4 (by exact (dsl_d (k := i) (by first | omega | assumption | exact hT.ok)))))
           refine zg ?_ (h := fun ν => step_on rfl rfl (acts_un ν vt (r_not rfl)))
           refine z ?_ (h := fun ν => acts_pick_f ν vt xt)
           refine nl ?_
           refine wi (b := (!((gD (gLd (ltR R) k) i).d))) (fun c18 => ?_) (fun c18 => ?_)
           ·skip
            have c19 : ((gD (gLd (ltR R) k) i).d) = false := by first | (rw [← Bool.not_eq_true']; exact c18) | simpa using c18
            refine sq (rg (zk (nl (wp_ret' ?_))))
            exact VRes.tmp _ _ _ (by exact rfl) (bval (congrArg Value.bool (by first | rfl | (exfalso; omega) | (exfalso; exact absurd hT.fst (by assumption)) | (exact decide_eq_true hix) | (simp_all; done) | (exfalso; simp_all; done) | (exfalso; simp_all; omega))))
           ·skip
            have c20 : ((gD (gLd (ltR R) k) i).d) = true := by first | (rw [← Bool.not_eq_false']; exact c18) | simpa using c18
            refine sk (wp_exit' (rg (zm ?_)))
            refine z ?_ (h := fun ν => acts_bin ν vt vc (rA (by first | omega | assumption | exact hT.ok) (by first | omega | assumption | exact hT.ok)))
            refine za (nl ?_)
            exact loop_back ((k + 1)) (by show _ ≤ _; omega) (by show (ltR R).length - (k + 1) < (ltR R).length - k; omega) (wkf id (wS <| wS <| wS <| wE (e := (vint (by first | rfl | omega | (simp; done) | (simp; omega)))) <| wP <| wX <| by (iterate 13 refine wF ?_); exact wN))
         ·skip
          have c21 : (dEq ((gD (gLd (ltR R) k) i).x) ((gD (gLd (ltR R) k) i).y) ((gD (gLd (ltR R) k) i).d) ((gD (gLd (ltR R) ((((k : Nat) : Int) - 1).toNat)) i).x) ((gD (gLd (ltR R) ((((k : Nat) : Int) - 1).toNat)) i).y) ((gD (gLd (ltR R) ((((k : Nat) : Int) - 1).toNat)) i).d)) = true := by first | (rw [← Bool.not_eq_false']; exact c15) | simpa using c15
          rw [dEq_dom, decide_eq_true_eq] at c21
          have hsm2 := gD_same (hsm (by omega)) c21
          have hlst := lex_last hlex hsm2
          refine sk (sq (rg (zm (zm (zm ?_)))))
          refine z ?_ (h := fun ν => xvv ν qP8_un_28 qP8_sz_30 vt (hlt := (by simp only [vwI_len, vwD_len]; first | omega | assumption | exact hT.ok)))
          refine z ?_ (h := fun ν => lvD ν qP8_ti_30 (by first | omega | assumption | exact hT.ok))
          refine z ?_ (h := fun ν => lnV ν qP8_un_30)
          refine z ?_ (h := fun ν => acts_bin ν vt vc (rS (by first | omega | assumption | exact hT.ok) (by first | omega | assumption | exact hT.ok)))
          refine z ?_ (h := fun ν => acts_bin ν vt vt (r_eql rfl))
          refine nl ?_
          refine wi (fun c22 => ?_) (fun c22 => ?_)
          ·skip
           have c22P := of_decide_eq_true c22
           refine sq (rg (zk (nl (wp_ret' ?_))))
           exact VRes.tmp _ _ _ (by exact rfl) (bval (congrArg Value.bool (by first | rfl | (exfalso; omega) | (exfalso; exact absurd hT.fst (by assumption)) | (exact decide_eq_true hix) | (simp_all; done) | (exfalso; simp_all; done) | (exfalso; simp_all; omega))))
          ·skip
           have c22P := of_decide_eq_false c22
           refine sk (rg (zm ?_))
           refine z ?_ (h := fun ν => acts_bin ν vt vc (rA (by first | omega | assumption | exact hT.ok) (by first | omega | assumption | exact hT.ok)))
           refine za (nl ?_)
           exact loop_back ((i + 1)) (by exact ⟨by omega, fun _ => hsm2⟩) (by show (gLd (ltR R) k).length - (i + 1) < (gLd (ltR R) k).length - i; omega) (wkf id (wS <| wS <| wS <| wS <| wE (e := (vint (by first | rfl | omega | (simp; done) | (simp; omega)))) <| wP <| wX <| by (iterate 13 refine wF ?_); exact wN))
        ·skip
         have c14P := of_decide_eq_false c14
         refine wp_exit' (rg (zm ?_))
         refine z ?_ (h := fun ν => acts_bin ν vt vc (rA (by first | omega | assumption | exact hT.ok) (by first | omega | assumption | exact hT.ok)))
         refine za (nl ?_)
         exact loop_back ((k + 1)) (by show _ ≤ _; omega) (by show (ltR R).length - (k + 1) < (ltR R).length - k; omega) (wkf id (wS <| wS <| wS <| wE (e := (vint (by first | rfl | omega | (simp; done) | (simp; omega)))) <| wP <| wX <| by (iterate 13 refine wF ?_); exact wN))
       ·skip
        have c13P := of_decide_eq_false c13
        refine rg (zm ?_)
        refine z ?_ (h := fun ν => acts_bin ν vt vc (r_gtr (c := false) c13))
        refine zm (zo (zo (zo (zo (zo (zo (zo ?_)))))))
        refine z ?_ (h := fun ν => acts_pick_f ν vt xc)
        refine nl (wf (wp_exit' (rg (zm ?_))))
        refine z ?_ (h := fun ν => acts_bin ν vt vc (rA (by first | omega | assumption | exact hT.ok) (by first | omega | assumption | exact hT.ok)))
        refine za (nl ?_)
        exact loop_back ((k + 1)) (by show _ ≤ _; omega) (by show (ltR R).length - (k + 1) < (ltR R).length - k; omega) (wkf id (wS <| wS <| wS <| wE (e := (vint (by first | rfl | omega | (simp; done) | (simp; omega)))) <| wP <| wX <| by (iterate 13 refine wF ?_); exact wN))
     ·skip
      have c8P := of_decide_eq_false c8
      have hal : (atB b 0 % (ltR R).length) < (ltR R).length := Nat.mod_lt _ (by omega)
      have hix := hT.ix _ hal
      have hrow := hT.row _ hal
      refine wp_exit' (sq (rg (zm ?_)))
      refine z ?_ (h := fun ν => acts_call1 ν (laws_at_fn b 0 (by first | omega | assumption | exact hT.ok) (by first | omega | assumption | exact hT.ok) (by first | omega | assumption | exact hT.ok)) (ac (ArgV.slv _ _ _ _) (ac (ArgV.v vc) an)) rv)
      refine zm ?_
      refine z ?_ (h := fun ν => lnD ν qP8_un_28)
      refine z ?_ (h := fun ν => acts_bin ν vt vt (r_rem (c := ((((atB b 0) % (ltR R).length) : Nat) : Int)) (by first | omega | assumption | exact hT.ok) (by rw [remI (by first | omega | assumption | exact hT.ok)]; first | done | (push_cast; first | done | rfl))))
      refine za (nl (sq (wp_dr ?_)))
      refine zd ?_ (h := fun ν => acts_load_owns (xs := [(.sl 3 0 R.length : A)]) ν qP8_ti_26 rfl (by decide) rfl)
      refine zdm (zdm ?_)
      refine zd ?_ (h := fun ν => xvv ν qP8_un_28 qP8_sz_30 vt (hlt := (by simp only [vwI_len, vwD_len]; first | omega | assumption | exact hT.ok)))
      refine zd ?_ (h := fun ν => lvD ν qP8_ti_30 (by first | omega | assumption | exact hT.ok))
      refine zd ?_ (h := fun ν => acts_callO (d := 123) (f := 15) (os := [(.o 3, some (.o ⟨3, 1, true, pl (isl R)⟩))]) (os' := [(.o 3, some (.o ⟨3, 1, true, pl (isl R)⟩))]) (r := V.v (.int .i64 (ixT (ltR R) (gLd (ltR R) ((atB b 0) % (ltR R).length))))) (bs := [.agg [(.sl 3 0 R.length : A)], .a (.slv ((gLd (ltR R) ((atB b 0) % (ltR R).length)).length) 3 (dsl (gLd (ltR R) ((atB b 0) % (ltR R).length))))]) (keep := [3]) (new := []) (dead := []) ν (FnO.ren' (IndexOf_v R (gLd (ltR R) ((atB b 0) % (ltR R).length)) (by first | omega | assumption | exact hT.ok) (by first | omega | assumption | exact hT.ok)) (subst1 [(800, 3)]) rfl rfl (by kernel_rfl) (by kernel_rfl) ⟨oc_pl (fun _ => rfl), trivial⟩ (by kernel_rfl) rfl (by simp only [renS, Ob.ren, pl_ren, rws_ren_doms, rws_ren_ints, rws_ren_cels, rwI_ren, rwD_ren]; first | done | rfl) (by simp only [renS, Ob.ren, pl_ren, rws_ren_doms, rws_ren_ints, rws_ren_cels, rwI_ren, rwD_ren]; first | done | rfl) rfl rfl) (by kernel_rfl) ⟨oc_pl (fun _ => rfl), trivial⟩ (by kernel_rfl) (ArgOs.cons (ArgO.slot 118 (.agg [(.sl 3 0 R.length : A)])) (ArgOs.cons (ArgO.slot 122 (.a (.slv ((gLd (ltR R) ((atB b 0) % (ltR R).length)).length) 3 (dsl (gLd (ltR R) ((atB b 0) % (ltR R).length)))))) (ArgOs.nil))))
      refine zdm ?_
      refine zd ?_ (h := fun ν => acts_bin ν vt vt (r_eql rfl))
      refine zd ?_ (h := fun ν => gt ν)
      refine dw_nil (wp_ret' ?_)
      exact VRes.tmp _ _ _ (by exact rfl) (bval (congrArg Value.bool (by first | rfl | (exfalso; omega) | (exfalso; exact absurd hT.fst (by assumption)) | (exact decide_eq_true hix) | (simp_all; done) | (exfalso; simp_all; done) | (exfalso; simp_all; omega))))
end Cl
end Go.Proofs.Ytjgjeflidcembaa
