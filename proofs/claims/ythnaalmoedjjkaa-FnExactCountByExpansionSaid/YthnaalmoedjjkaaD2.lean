/- Walks over clean states, printed by wg.py. No statement is proved here. -/
import Derived.Test.YthnaalmoedjjkaaC1
import Derived.Test.YthnaalmoedjjkaaCl24
namespace Go.Proofs.Ythnaalmoedjjkaa
namespace Cl
open Go.ChangeShapes Go.WideShapes Go.ChangeAt Go.RowKit

def selB (l : List Int) (b : Bool) : List Cel := (cellsOf l).filter fun c => decide (black c = b)
theorem selB_len (l : List Int) (b : Bool) : (selB l b).length ≤ 64 := Nat.le_trans (List.length_filter_le _ _) (cellsOf_len l)
theorem selB_mem {l : List Int} {b : Bool} {k : Nat} (h : k < (selB l b).length) : okc (gC (selB l b) k).x (gC (selB l b) k).y = true := cellsOf_ok (List.mem_filter.1 (gC_mem h)).1
theorem cell_at {l : List Int} {k : Nat} (h : k < (cellsOf l).length) : okc (gC (cellsOf l) k).x (gC (cellsOf l) k).y = true := cellsOf_ok (gC_mem h)
noncomputable def bexc (l : List Int) : Int := 2 * (((cellsOf l).filter black).length : Int) - ((cellsOf l).length : Int)
noncomputable def balB (l : List Int) : Bool := regOk l && decide (bexc l = 0)
theorem bexc_no {l : List Int} (h : regOk l = false) : bexc l = 0 := by
  have : cellsOf l = [] := by unfold cellsOf; rw [h]; rfl
  unfold bexc; rw [this]; rfl
noncomputable def signOk (l : List Int) : Bool := balB l && inB ((cellsOf l).length : Int) 1 32
def sgE (b w : Cel) : Int := if nbr b w = true then (if b.y = w.y ∨ b.x % 2 = 0 then 1 else -1) else 0
def whiB (c : Cel) : Bool := !(black c)
noncomputable def blk (l : List Int) : List Cel := (cellsOf l).filter black
noncomputable def whi (l : List Int) : List Cel := (cellsOf l).filter whiB
noncomputable def rowS (l : List Int) (b : Cel) : List Int := (whi l).map (sgE b)
noncomputable def signM (l : List Int) : List (List Int) := (blk l).map (rowS l)
noncomputable def smR (l : List Int) : List (List Int) := if signOk l = true then signM l else []
noncomputable def rowK (l : List Int) (b : Cel) (j : Nat) : List Int := (((cellsOf l).take j).filter whiB).map (sgE b)
noncomputable def sgnK (l : List Int) (k : Nat) : List (List Int) := (((cellsOf l).take k).filter black).map (rowS l)
theorem rowK_len (l : List Int) (b : Cel) (j : Nat) : (rowK l b j).length ≤ j := by unfold rowK; rw [List.length_map]; exact cfilt_len _ _ _
theorem sgnK_len (l : List Int) (k : Nat) : (sgnK l k).length ≤ k := by unfold sgnK; rw [List.length_map]; exact cfilt_len _ _ _
theorem rowK_zero (l : List Int) (b : Cel) : rowK l b 0 = [] := by simp [rowK]
theorem sgnK_zero (l : List Int) : sgnK l 0 = [] := by simp [sgnK]
theorem rowK_end {l : List Int} {b : Cel} {j : Nat} (h : ¬ j < (cellsOf l).length) : rowK l b j = rowS l b := by unfold rowK rowS whi; rw [List.take_of_length_le (by omega)]
theorem sgnK_end {l : List Int} {j : Nat} (h : ¬ j < (cellsOf l).length) : sgnK l j = signM l := by unfold sgnK signM blk; rw [List.take_of_length_le (by omega)]
theorem rowK_b {l : List Int} {b : Cel} {j : Nat} (h : j < (cellsOf l).length) (hb : black (gC (cellsOf l) j) = true) : rowK l b (j + 1) = rowK l b j := by unfold rowK; rw [cfilt_no h (by unfold whiB; rw [hb]; rfl)]
theorem rowK_w {l : List Int} {b : Cel} {j : Nat} (h : j < (cellsOf l).length) (hb : black (gC (cellsOf l) j) = false) {x : Int} (hx : sgE b (gC (cellsOf l) j) = x) : rowK l b (j + 1) = rowK l b j ++ [x] := by
  subst hx; unfold rowK; rw [cfilt_yes h (by unfold whiB; rw [hb]; rfl), List.map_append]; rfl
theorem sgnK_w {l : List Int} {j : Nat} (h : j < (cellsOf l).length) (hb : black (gC (cellsOf l) j) = false) : sgnK l (j + 1) = sgnK l j := by unfold sgnK; rw [cfilt_no h hb]
theorem sgnK_b {l : List Int} {j : Nat} (h : j < (cellsOf l).length) (hb : black (gC (cellsOf l) j) = true) : sgnK l (j + 1) = sgnK l j ++ [rowS l (gC (cellsOf l) j)] := by
  unfold sgnK; rw [cfilt_yes h hb, List.map_append]; rfl
theorem sgE_n {a b : Cel} (h : nbr a b = false) : sgE a b = 0 := by unfold sgE; rw [h]; rfl
theorem sgE_p {a b : Cel} (h : nbr a b = true) (h2 : a.y = b.y ∨ a.x % 2 = 0) : sgE a b = 1 := by unfold sgE; rw [if_pos h, if_pos h2]
theorem sgE_m {a b : Cel} (h : nbr a b = true) (h2 : ¬ (a.y = b.y ∨ a.x % 2 = 0)) : sgE a b = -1 := by unfold sgE; rw [if_pos h, if_neg h2]
theorem nbr_xy {a b : Cel} (h : nbr a b = true) : (0 ≤ a.x ∧ (a.x = b.x ↔ ¬ a.y = b.y)) := by
  unfold nbr at h
  rw [Bool.and_eq_true, Bool.and_eq_true, decide_eq_true_eq] at h
  obtain ⟨⟨h1, _⟩, h3⟩ := h
  have hq := okc_true.1 h1
  refine ⟨by omega, ?_⟩
  rcases iabs_or (a.x - b.x) with q1 | q1 <;> rcases iabs_or (a.y - b.y) with q2 | q2 <;> omega
theorem sgE_bd (a b : Cel) : -1 ≤ sgE a b ∧ sgE a b ≤ 1 := by unfold sgE; split <;> (try split) <;> omega
theorem blk_len (l : List Int) : (blk l).length ≤ 64 := Nat.le_trans (List.length_filter_le _ _) (cellsOf_len l)
theorem whi_len (l : List Int) : (whi l).length ≤ 64 := Nat.le_trans (List.length_filter_le _ _) (cellsOf_len l)
theorem mapT_snoc {β : Type} {l : List Cel} {f : Cel → β} {k : Nat} (h : k < l.length) {x : β} (hx : f (gC l k) = x) : (l.take (k + 1)).map f = (l.take k).map f ++ [x] := by
  subst hx; rw [List.take_succ_eq_append_getElem h, List.map_append, gC_eq h]; rfl
def mapT {β : Type} (f : Cel → β) (l : List Cel) (k : Nat) : List β := (l.take k).map f
theorem mapT_len {β : Type} (f : Cel → β) (l : List Cel) (k : Nat) : (mapT f l k).length ≤ k := by unfold mapT; rw [List.length_map, List.length_take]; omega
theorem mapT_s {β : Type} {l : List Cel} {f : Cel → β} {k : Nat} (h : k < l.length) {x : β} (hx : f (gC l k) = x) : mapT f l (k + 1) = mapT f l k ++ [x] := mapT_snoc h hx
theorem mapT_zero {β : Type} (f : Cel → β) (l : List Cel) : mapT f l 0 = [] := by simp [mapT]
theorem mapT_end {β : Type} {l : List Cel} {f : Cel → β} {k : Nat} (h : ¬ k < l.length) : mapT f l k = l.map f := by unfold mapT; rw [List.take_of_length_le (by omega)]
theorem nand_of {p q : Prop} [Decidable p] [Decidable q] (h : (decide p && decide q) = false) : ¬ (p ∧ q) := fun ⟨h1, h2⟩ => by rw [decide_eq_true h1, decide_eq_true h2] at h; cases h
theorem selB_t (l : List Int) : selB l true = blk l := by unfold selB blk; congr 1; funext c; cases black c <;> rfl
theorem selB_f (l : List Int) : selB l false = whi l := by unfold selB whi whiB; congr 1; funext c; cases black c <;> rfl
theorem sgn_end {l : List Int} {k : Nat} (h : ¬ k < (selB l true).length) : mapT (rowS l) (selB l true) k = signM l := by rw [mapT_end h, selB_t]; rfl
theorem row_end' {l : List Int} {b : Cel} {k : Nat} (h : ¬ k < (selB l false).length) : mapT (sgE b) (selB l false) k = rowS l b := by rw [mapT_end h, selB_f]; rfl
theorem smR_no {l : List Int} (h : signOk l = false) : smR l = [] := by unfold smR; rw [h]; rfl
theorem smR_yes {l : List Int} (h : signOk l = true) : smR l = signM l := by unfold smR; rw [if_pos h]
theorem signM_len (l : List Int) : (signM l).length ≤ 64 := by unfold signM; rw [List.length_map]; exact blk_len l
theorem smR_nl {l : List Int} (h : signOk l = false) : (smR l).length = 0 := by rw [smR_no h]; rfl
theorem so1 {l : List Int} (h : balB l = false) : signOk l = false := by unfold signOk; rw [h]; rfl
theorem so2 {l : List Int} (h : inB ((cellsOf l).length : Int) 1 32 = false) : signOk l = false := by unfold signOk; rw [h, Bool.and_false]
theorem so3 {l : List Int} (h : balB l = true) (h2 : inB ((cellsOf l).length : Int) 1 32 = true) : signOk l = true := by unfold signOk; rw [h, h2]; rfl
theorem so4 {l : List Int} (h : (!(balB l) || !(inB ((cellsOf l).length : Int) 1 32)) = true) : signOk l = false := by
  rw [Bool.or_eq_true, Bool.not_eq_true', Bool.not_eq_true'] at h
  exact h.elim so1 so2
theorem so5 {l : List Int} (h : (!(balB l) || !(inB ((cellsOf l).length : Int) 1 32)) = false) : signOk l = true := by
  rw [Bool.or_eq_false_iff, Bool.not_eq_false', Bool.not_eq_false'] at h
  exact so3 h.1 h.2
theorem smR_len (l : List Int) : (smR l).length ≤ 64 := by unfold smR; split; exact signM_len l; simp
theorem smR_row {l : List Int} {k : Nat} (h : k < (smR l).length) : (gLs (smR l) k).length ≤ 64 := by
  rw [gLs_eq h]
  have hm : (smR l)[k] ∈ smR l := List.getElem_mem h
  generalize (smR l)[k] = r at hm
  unfold smR at hm
  split at hm
  · obtain ⟨b, _, rfl⟩ := List.mem_map.1 hm
    unfold rowS; rw [List.length_map]; exact whi_len l
  · cases hm

theorem qD2_fo_49_0 : fieldOff Try.prog 49 0 = some 0 := by kernel_rfl
theorem qD2_fo_49_1 : fieldOff Try.prog 49 1 = some 1 := by kernel_rfl
theorem qD2_sz_49 : (Try.prog.info? 49).map (·.size) = some 2 := by kernel_rfl
theorem qD2_ti_3 : TI Try.prog 3 false 1 := ⟨⟨_, Try.underlying3, rfl⟩, by kernel_rfl⟩
theorem qD2_ti_33 : TI Try.prog 33 true 1 := ⟨⟨_, Try.underlying33, rfl⟩, by kernel_rfl⟩
theorem qD2_ti_49 : TI Try.prog 49 true 2 := ⟨⟨_, Try.underlying49, rfl⟩, by kernel_rfl⟩
theorem qD2_un_22 : Try.prog.underlying 22 = some (.slice 28) := Try.underlying22
theorem qD2_un_28 : Try.prog.underlying 28 = some (.slice 3) := Try.underlying28
theorem qD2_un_4 : Try.prog.underlying 4 = some .bool := Try.underlying4
theorem qD2_un_45 : Try.prog.underlying 45 = some (.slice 49) := Try.underlying45
theorem qD2_zi_28 : ZI Try.prog 28 (.slice none 0 0) 1 24 := by unfold ZI; kernel_rfl
theorem qD2_zi_3 : ZI Try.prog 3 (.int .i64 0) 1 8 := by unfold ZI; kernel_rfl
theorem qD2_zi_49 : ZI Try.prog 49 (.agg #[.int .i64 0, .int .i64 0]) 2 16 := by unfold ZI; kernel_rfl
set_option maxHeartbeats 4000000 in
set_option maxRecDepth 100000 in
theorem impl_set__countBlack_fn (s : Nat) (hs : s < 18446744073709551616) : Fn Try.prog 61 [.a (.val (.int .u64 ((s : Nat) : Int)))] [.val (.int .i64 ((((setCells s).filter black).length : Nat) : Int))] := by
 have h64 := setCells_len s
 refine fn_intro (N := 19) Try.func61 rfl (by kernel_rfl) rfl (Nat.le_of_ble_eq_true rfl) [5, 7, 8, 14] (ret1 rfl) (fun W => ?_)
 show Wp _ _ _ [kU 0 ((s : Nat) : Int), kF 5, kF 7, kF 8, kF 14]
 refine sq (rg (zk (nl (sq (rg (zk (nl (sq (sq (rg (zm ?_)))))))))))
 refine z ?_ (h := fun ν => acts_call1 ν (impl_set__cells_fn s (by first | omega | assumption | (have := cfilt_len black (setCells s) k; omega))) (ac (ArgV.v vt) an) (ResV.row _ _ _ _ 7))
 refine z ?_ (h := fun ν => lnS ν qD2_un_45)
 refine z ?_ (h := fun ν => mc ν)
 refine nl (bkk ?_)
 refine wp_loop' (fun (k : Nat) => k ≤ (setCells s).length) (fun (k : Nat) => [kI 3 (((((setCells s).take k).filter black).length : Nat) : Int), kS 7 7 0 ((setCells s).length), kI 8 (((setCells s).length : Nat) : Int), kI 9 ((k : Nat) : Int), kO 7 49 2 true (pl (csl (setCells s))), kF 5, kF 8, kF 14]) (fun (k : Nat) => (setCells s).length - k) ((0 : Nat)) (by exact (Nat.zero_le _ : 0 ≤ _)) (wkf id (wE (e := (vint (by first | rfl | (rw [cfilt_yes (by omega) (by assumption)]; simp; done) | (rw [cfilt_no (by omega) (by assumption)]; done) | omega))) <| wS <| wS <| wE (e := (vint (by first | rfl | (rw [cfilt_yes (by omega) (by assumption)]; simp; done) | (rw [cfilt_no (by omega) (by assumption)]; done) | omega))) <| wP <| wF <| wF <| wF <| wN)) ?_
 rintro k inv1
 replace inv1 : k ≤ (setCells s).length := inv1
 have inv := inv1
 have hck := cfilt_len black (setCells s) k
 refine sq (rg ?_)
 refine z ?_ (h := fun ν => acts_bin ν vt vt (r_lss rfl))
 refine nl (sq ?_)
 refine wi (fun c2 => ?_) (fun c2 => ?_)
 ·skip
  have c2P := of_decide_eq_true c2
  refine sk (sq (bkk (sq (rg ?_))))
  refine z ?_ (h := fun ν => ix0 ν qD2_un_45 qD2_sz_49 vt (hlt := (by first | omega | assumption | (have := cfilt_len black (setCells s) k; omega))))
  refine z ?_ (h := fun ν => lC ν qD2_ti_49 (by first | omega | assumption | (have := cfilt_len black (setCells s) k; omega)))
  refine z ?_ (h := fun ν => acts_alloc' (h := 5) (cap := 1) (s := 2) (cells := [aI 0, aI 0]) ν qD2_zi_49 rfl rfl (by decide))
  refine z ?_ (h := fun _ => acts_store (cells := [aI ((gC (setCells s) k).x), aI ((gC (setCells s) k).y)]) qD2_ti_49 xt (by exact rfl) (by decide) (by exact ob1 rfl) (by exact Nat.le_of_ble_eq_true rfl) (by exact rfl))
  refine nl (sq (rg ?_))
  refine z ?_ (h := fun ν => acts_load_owns (xs := [vI ((gC (setCells s) k).x), vI ((gC (setCells s) k).y)].map A.val) ν qD2_ti_49 rfl (by decide) rfl)
  refine z ?_ (h := fun ν => acts_call1 ν (impl_IsBlack_fn (gC (setCells s) k) ) (ac (ArgV.va va) an) rv)
  refine nl ?_
  refine wi (b := (black (gC (setCells s) k))) (fun c3 => ?_) (fun c3 => ?_)
  ·skip
   refine rg (zm ?_)
   refine z ?_ (h := fun ν => acts_bin ν vt vc (rA (by first | omega | assumption | (have := cfilt_len black (setCells s) k; omega)) (by first | omega | assumption | (have := cfilt_len black (setCells s) k; omega))))
   refine za (nl (rg ?_))
   refine z ?_ (h := fun ν => acts_bin ν vt vc (rA (by first | omega | assumption | (have := cfilt_len black (setCells s) k; omega)) (by first | omega | assumption | (have := cfilt_len black (setCells s) k; omega))))
   refine zm (nl ?_)
   exact loop_back ((k + 1)) (by show _ ≤ _; omega) (by show (setCells s).length - (k + 1) < (setCells s).length - k; omega) (wkf id (wE (e := (vint (by first | rfl | (rw [cfilt_yes (by omega) (by assumption)]; simp; done) | (rw [cfilt_no (by omega) (by assumption)]; done) | omega))) <| wS <| wS <| wE (e := (vint (by first | rfl | (rw [cfilt_yes (by omega) (by assumption)]; simp; done) | (rw [cfilt_no (by omega) (by assumption)]; done) | omega))) <| wP <| wF <| wF <| wF <| wN))
  ·skip
   refine sk (rg ?_)
   refine z ?_ (h := fun ν => acts_bin ν vt vc (rA (by first | omega | assumption | (have := cfilt_len black (setCells s) k; omega)) (by first | omega | assumption | (have := cfilt_len black (setCells s) k; omega))))
   refine zm (nl ?_)
   exact loop_back ((k + 1)) (by show _ ≤ _; omega) (by show (setCells s).length - (k + 1) < (setCells s).length - k; omega) (wkf id (wE (e := (vint (by first | rfl | (rw [cfilt_yes (by omega) (by assumption)]; simp; done) | (rw [cfilt_no (by omega) (by assumption)]; done) | omega))) <| wS <| wS <| wE (e := (vint (by first | rfl | (rw [cfilt_yes (by omega) (by assumption)]; simp; done) | (rw [cfilt_no (by omega) (by assumption)]; done) | omega))) <| wP <| wF <| wF <| wF <| wN))
 ·skip
  have c2P := of_decide_eq_false c2
  refine wp_exit' (sq (rg (zm (za (nl (wp_ret' ?_))))))
  exact VRes.tmp _ _ _ (by exact rfl) (bval (congrArg (Value.int .i64) (by rw [List.take_of_length_le (by omega)])))

set_option maxHeartbeats 4000000 in
set_option maxRecDepth 100000 in
theorem impl_BlackExcess_fn (l : List Int) (hl : l.length ≤ 4194304) : Fn Try.prog 54 [.agg [(.slv l.length 1 (isl l) : A)]] [.val (.int .i64 (bexc l))] := by
 have h64 := cellsOf_len l
 have hb64 := List.length_filter_le black (cellsOf l)
 have hs64 := setCells_len (regSet l)
 have hc64 := List.length_filter_le black (setCells (regSet l))
 refine fn_intro (N := 13) Try.func54 rfl (by kernel_rfl) rfl (Nat.le_of_ble_eq_true rfl) [1, 4, 7, 8, 11] (ret1 rfl) (fun W => ?_)
 show Wp _ _ _ [kV 0 (V.b (.agg [(.slv l.length 1 (isl l) : A)])), kF 1, kF 4, kF 7, kF 8, kF 11]
 refine sq (rg ?_)
 refine z ?_ (h := fun ν => acts_box (h := 1) ν xt (by exact ob1 rfl))
 refine zk (nl (sq (sq (rg ?_))))
 refine z ?_ (h := fun ν => acts_load_owns (xs := [(.slv l.length 1 (isl l) : A)]) ν qD2_ti_33 rfl (by decide) rfl)
 refine z ?_ (h := fun ν => acts_call1 ν (impl_RegionOk_fn l (by first | omega | assumption | exact regSet_lt (by assumption))) (ac (ArgV.regv _ _ 1 _) an) rv)
 refine z ?_ (h := fun ν => acts_un ν vt (r_not rfl))
 refine nl ?_
 refine wi (b := (!(regOk l))) (fun c1 => ?_) (fun c1 => ?_)
 ·skip
  have c2 : (regOk l) = false := by first | (rw [← Bool.not_eq_true']; exact c1) | simpa using c1
  refine sq (rg (zk (nl (wp_ret' ?_))))
  exact VRes.tmp _ _ _ (by exact rfl) (bval (congrArg (Value.int .i64) (by exact (bexc_no (by assumption)).symm)))
 ·skip
  have c3 : (regOk l) = true := by first | (rw [← Bool.not_eq_false']; exact c1) | simpa using c1
  refine sk (sq (wp_dr ?_))
  refine zd ?_ (h := fun ν => acts_load_owns (xs := [(.slv l.length 1 (isl l) : A)]) ν qD2_ti_33 rfl (by decide) rfl)
  refine zd ?_ (h := fun ν => acts_call1 ν (impl_Region__set_fn l (by first | omega | assumption | exact regSet_lt (by assumption))) (ac (ArgV.regv _ _ 1 _) an) rv)
  refine zd ?_ (h := fun ν => acts_call1 ν (impl_set__countBlack_fn (regSet l) (by first | omega | assumption | exact regSet_lt (by assumption))) (ac (ArgV.v vt) an) rv)
  refine zd ?_ (h := fun ν => acts_bin ν vc vt (rM (by first | omega | assumption | exact regSet_lt (by assumption)) (by first | omega | assumption | exact regSet_lt (by assumption))))
  refine zd ?_ (h := fun ν => acts_load_owns (xs := [(.slv l.length 1 (isl l) : A)]) ν qD2_ti_33 rfl (by decide) rfl)
  refine zd ?_ (h := fun ν => acts_call1 ν (impl_CountCells_fn l (by first | omega | assumption | exact regSet_lt (by assumption))) (ac (ArgV.regv _ _ 1 _) an) rv)
  refine zd ?_ (h := fun ν => acts_bin ν vt vt (rS (by first | omega | assumption | exact regSet_lt (by assumption)) (by first | omega | assumption | exact regSet_lt (by assumption))))
  refine zd ?_ (h := fun ν => gt ν)
  refine dw_nil (wp_ret' ?_)
  exact VRes.tmp _ _ _ (by exact rfl) (bval (congrArg (Value.int .i64) (by unfold bexc cellsOf; rw [if_pos (by assumption)])))

set_option maxHeartbeats 4000000 in
set_option maxRecDepth 100000 in
theorem spec_BlackExcess_fn (l : List Int) (hl : l.length ≤ 4194304) : Fn Try.prog 49 [.agg [(.slv l.length 1 (isl l) : A)]] [.val (.int .i64 (bexc l))] := by
 have h64 := cellsOf_len l
 have hb64 := List.length_filter_le black (cellsOf l)
 refine fn_intro (N := 24) Try.func49 rfl (by kernel_rfl) rfl (Nat.le_of_ble_eq_true rfl) [1, 7, 10, 18] (ret1 rfl) (fun W => ?_)
 show Wp _ _ _ [kV 0 (V.b (.agg [(.slv l.length 1 (isl l) : A)])), kF 1, kF 7, kF 10, kF 18]
 refine sq (rg ?_)
 refine z ?_ (h := fun ν => acts_box (h := 1) ν xt (by exact ob1 rfl))
 refine zk (nl (sq (rg (zk (nl (sq (rg ?_)))))))
 refine z ?_ (h := fun ν => acts_load_owns (xs := [(.slv l.length 1 (isl l) : A)]) ν qD2_ti_33 rfl (by decide) rfl)
 refine z ?_ (h := fun ν => acts_call1 ν (spec_CellsOf_fn l (by first | omega | assumption | (have := cfilt_len black (cellsOf l) k; omega))) (ac (ArgV.regv _ _ 1 _) an) (ResV.row _ _ _ _ 7))
 refine za (nl (sq (sq (rg (zk (nl (bkk ?_)))))))
 refine wp_loop' (fun (k : Nat) => k ≤ (cellsOf l).length) (fun (k : Nat) => [kI 3 (2 * ((((cellsOf l).take k).filter black).length : Int) - (k : Int)), kS 4 7 0 ((cellsOf l).length), kI 5 ((k : Nat) : Int), kO 7 49 2 true (pl (csl (cellsOf l))), kF 1, kF 10, kF 18]) (fun (k : Nat) => (cellsOf l).length - k) ((0 : Nat)) (by exact (Nat.zero_le _ : 0 ≤ _)) (wkf id (wE (e := (vint (by first | rfl | (rw [cfilt_yes (by omega) (by assumption)]; simp; omega) | (rw [cfilt_no (by omega) (by assumption)]; omega) | omega | (simp; done)))) <| wS <| wE (e := (vint (by first | rfl | (rw [cfilt_yes (by omega) (by assumption)]; simp; omega) | (rw [cfilt_no (by omega) (by assumption)]; omega) | omega | (simp; done)))) <| wP <| wF <| wF <| wF <| wN)) ?_
 rintro k inv1
 replace inv1 : k ≤ (cellsOf l).length := inv1
 have inv := inv1
 have hck := cfilt_len black (cellsOf l) k
 refine sq (sq (rg (zm (zm ?_))))
 refine z ?_ (h := fun ν => lnS ν qD2_un_45)
 refine z ?_ (h := fun ν => acts_bin ν vt vt (r_lss rfl))
 refine nl ?_
 refine wi (fun c2 => ?_) (fun c2 => ?_)
 ·skip
  have c2P := of_decide_eq_true c2
  refine sk (sq (bkk (sq (rg (zm (zm ?_))))))
  refine z ?_ (h := fun ν => ix0 ν qD2_un_45 qD2_sz_49 vt (hlt := (by first | omega | assumption | (have := cfilt_len black (cellsOf l) k; omega))))
  refine z ?_ (h := fun ν => lC ν qD2_ti_49 (by first | omega | assumption | (have := cfilt_len black (cellsOf l) k; omega)))
  refine z ?_ (h := fun ν => acts_call1 ν (spec_IsBlack_fn (gC (cellsOf l) k) ) (ac (ArgV.va va) an) rv)
  refine nl ?_
  refine wi (b := (black (gC (cellsOf l) k))) (fun c3 => ?_) (fun c3 => ?_)
  ·skip
   refine rg (zm ?_)
   refine z ?_ (h := fun ν => acts_bin ν vt vc (rA (by first | omega | assumption | (have := cfilt_len black (cellsOf l) k; omega)) (by first | omega | assumption | (have := cfilt_len black (cellsOf l) k; omega))))
   refine za (nl (rg (zm ?_)))
   refine z ?_ (h := fun ν => acts_bin ν vt vc (rA (by first | omega | assumption | (have := cfilt_len black (cellsOf l) k; omega)) (by first | omega | assumption | (have := cfilt_len black (cellsOf l) k; omega))))
   refine za (nl ?_)
   exact loop_back ((k + 1)) (by show _ ≤ _; omega) (by show (cellsOf l).length - (k + 1) < (cellsOf l).length - k; omega) (wkf id (wE (e := (vint (by first | rfl | (rw [cfilt_yes (by omega) (by assumption)]; simp; omega) | (rw [cfilt_no (by omega) (by assumption)]; omega) | omega | (simp; done)))) <| wS <| wE (e := (vint (by first | rfl | (rw [cfilt_yes (by omega) (by assumption)]; simp; omega) | (rw [cfilt_no (by omega) (by assumption)]; omega) | omega | (simp; done)))) <| wP <| wF <| wF <| wF <| wN))
  ·skip
   refine rg (zm ?_)
   refine z ?_ (h := fun ν => acts_bin ν vt vc (rS (by first | omega | assumption | (have := cfilt_len black (cellsOf l) k; omega)) (by first | omega | assumption | (have := cfilt_len black (cellsOf l) k; omega))))
   refine za (nl (rg (zm ?_)))
   refine z ?_ (h := fun ν => acts_bin ν vt vc (rA (by first | omega | assumption | (have := cfilt_len black (cellsOf l) k; omega)) (by first | omega | assumption | (have := cfilt_len black (cellsOf l) k; omega))))
   refine za (nl ?_)
   exact loop_back ((k + 1)) (by show _ ≤ _; omega) (by show (cellsOf l).length - (k + 1) < (cellsOf l).length - k; omega) (wkf id (wE (e := (vint (by first | rfl | (rw [cfilt_yes (by omega) (by assumption)]; simp; omega) | (rw [cfilt_no (by omega) (by assumption)]; omega) | omega | (simp; done)))) <| wS <| wE (e := (vint (by first | rfl | (rw [cfilt_yes (by omega) (by assumption)]; simp; omega) | (rw [cfilt_no (by omega) (by assumption)]; omega) | omega | (simp; done)))) <| wP <| wF <| wF <| wF <| wN))
 ·skip
  have c2P := of_decide_eq_false c2
  refine wp_exit' (sq (rg (zm (za (nl (wp_ret' ?_))))))
  exact VRes.tmp _ _ _ (by exact rfl) (bval (congrArg (Value.int .i64) (by (have e : k = (cellsOf l).length := by omega); subst e; unfold bexc; rw [List.take_length])))

set_option maxHeartbeats 4000000 in
set_option maxRecDepth 100000 in
theorem impl_IsBalanced_fn (l : List Int) (hl : l.length ≤ 4194304) : Fn Try.prog 37 [.agg [(.slv l.length 1 (isl l) : A)]] [.val (.bool (balB l))] := by
 refine fn_intro (N := 10) Try.func37 rfl (by kernel_rfl) rfl (Nat.le_of_ble_eq_true rfl) [1, 4, 7] (ret1 rfl) (fun W => ?_)
 show Wp _ _ _ [kV 0 (V.b (.agg [(.slv l.length 1 (isl l) : A)])), kF 1, kF 4, kF 7]
 refine sq (rg ?_)
 refine z ?_ (h := fun ν => acts_box (h := 1) ν xt (by exact ob1 rfl))
 refine zk (nl (sq ?_))
 rcases Bool.eq_false_or_eq_true ((regOk l)) with c1 | c1
 ·skip
  refine rg ?_
  refine z ?_ (h := fun ν => acts_load_owns (xs := [(.slv l.length 1 (isl l) : A)]) ν qD2_ti_33 rfl (by decide) rfl)
  refine z ?_ (h := fun ν => acts_call1 ν (impl_RegionOk_fn l (by omega)) (ac (ArgV.regv _ _ 1 _) an) (resval (congrArg Value.bool c1)))
  refine zm ?_
  refine zg ?_ (h := fun ν => step_on rfl rfl (acts_load_owns (xs := [(.slv l.length 1 (isl l) : A)]) ν qD2_ti_33 rfl (by decide) rfl))
  refine zg ?_ (h := fun ν => step_on rfl rfl (acts_call1 ν (impl_BlackExcess_fn l (by omega)) (ac (ArgV.regv _ _ 1 _) an) rv))
  refine zg ?_ (h := fun ν => step_on rfl rfl (acts_bin ν vt vc (r_eql rfl)))
  refine z ?_ (h := fun ν => acts_pick_t ν vt xt)
  refine za (nl (wp_ret' ?_))
  exact VRes.tmp _ _ _ (by exact rfl) (bval (congrArg Value.bool (by first | rfl | (unfold balB; simp_all; done) | (simp_all [balB]; done))))
 ·skip
  refine rg ?_
  refine z ?_ (h := fun ν => acts_load_owns (xs := [(.slv l.length 1 (isl l) : A)]) ν qD2_ti_33 rfl (by decide) rfl)
  refine z ?_ (h := fun ν => acts_call1 ν (impl_RegionOk_fn l (by omega)) (ac (ArgV.regv _ _ 1 _) an) (resval (congrArg Value.bool c1)))
  refine zm (zo (zo (zo ?_)))
  refine z ?_ (h := fun ν => acts_pick_f ν vt xc)
  refine za (nl (wp_ret' ?_))
  exact VRes.tmp _ _ _ (by exact rfl) (bval (congrArg Value.bool (by first | rfl | (unfold balB; simp_all; done) | (simp_all [balB]; done))))

set_option maxHeartbeats 4000000 in
set_option maxRecDepth 100000 in
theorem spec_IsBalanced_fn (l : List Int) (hl : l.length ≤ 4194304) : Fn Try.prog 33 [.agg [(.slv l.length 1 (isl l) : A)]] [.val (.bool (balB l))] := by
 refine fn_intro (N := 10) Try.func33 rfl (by kernel_rfl) rfl (Nat.le_of_ble_eq_true rfl) [1, 4, 7] (ret1 rfl) (fun W => ?_)
 show Wp _ _ _ [kV 0 (V.b (.agg [(.slv l.length 1 (isl l) : A)])), kF 1, kF 4, kF 7]
 refine sq (rg ?_)
 refine z ?_ (h := fun ν => acts_box (h := 1) ν xt (by exact ob1 rfl))
 refine zk (nl (sq ?_))
 rcases Bool.eq_false_or_eq_true ((regOk l)) with c1 | c1
 ·skip
  refine rg ?_
  refine z ?_ (h := fun ν => acts_load_owns (xs := [(.slv l.length 1 (isl l) : A)]) ν qD2_ti_33 rfl (by decide) rfl)
  refine z ?_ (h := fun ν => acts_call1 ν (spec_RegionOk_fn l (by omega)) (ac (ArgV.regv _ _ 1 _) an) (resval (congrArg Value.bool c1)))
  refine zm ?_
  refine zg ?_ (h := fun ν => step_on rfl rfl (acts_load_owns (xs := [(.slv l.length 1 (isl l) : A)]) ν qD2_ti_33 rfl (by decide) rfl))
  refine zg ?_ (h := fun ν => step_on rfl rfl (acts_call1 ν (spec_BlackExcess_fn l (by omega)) (ac (ArgV.regv _ _ 1 _) an) rv))
  refine zg ?_ (h := fun ν => step_on rfl rfl (acts_bin ν vt vc (r_eql rfl)))
  refine z ?_ (h := fun ν => acts_pick_t ν vt xt)
  refine za (nl (wp_ret' ?_))
  exact VRes.tmp _ _ _ (by exact rfl) (bval (congrArg Value.bool (by first | rfl | (unfold balB; simp_all; done) | (simp_all [balB]; done))))
 ·skip
  refine rg ?_
  refine z ?_ (h := fun ν => acts_load_owns (xs := [(.slv l.length 1 (isl l) : A)]) ν qD2_ti_33 rfl (by decide) rfl)
  refine z ?_ (h := fun ν => acts_call1 ν (spec_RegionOk_fn l (by omega)) (ac (ArgV.regv _ _ 1 _) an) (resval (congrArg Value.bool c1)))
  refine zm (zo (zo (zo ?_)))
  refine z ?_ (h := fun ν => acts_pick_f ν vt xc)
  refine za (nl (wp_ret' ?_))
  exact VRes.tmp _ _ _ (by exact rfl) (bval (congrArg Value.bool (by first | rfl | (unfold balB; simp_all; done) | (simp_all [balB]; done))))

set_option maxHeartbeats 4000000 in
set_option maxRecDepth 100000 in
theorem impl_SignMatrix_fn (l : List Int) (hl : l.length ≤ 4194304) : FnO Try.prog 18 [.agg [(.sl 800 0 l.length : A)]] [(.o 800, some (.o ⟨3, 1, true, pl (isl l)⟩))] (V.b (.a (.sl 900 0 ((smR l).length)))) [(.o 800, some (.o ⟨3, 1, true, pl (isl l)⟩)), (.o 900, some (.o ⟨28, 1, true, rwI 3 (smR l)⟩))] [800] := by
 have h64 := cellsOf_len l
 refine fn_introO (N := 73) Try.func18 rfl (by kernel_rfl) rfl (Nat.le_of_ble_eq_true rfl) rfl rfl (by kernel_rfl) (by kernel_rfl) ⟨oc_pl (fun _ => rfl), trivial⟩ [1, 5, 8, 10, 14, 15, 18, 20, 21, 27, 29, 31, 32, 38, 39, 42, 46, 49, 50, 64, 65, 69, 70] (retO1 rfl) (fun W own kp im0 => ?_)
 show Wp _ _ _ [kV 0 (V.b (.agg [(.sl 800 0 l.length : A)])), kO 800 3 1 true (pl (isl l)), kF 1, kF 5, kF 8, kF 10, kF 14, kF 15, kF 18, kF 20, kF 21, kF 27, kF 29, kF 31, kF 32, kF 38, kF 39, kF 42, kF 46, kF 49, kF 50, kF 64, kF 65, kF 69, kF 70]
 refine sq (rg ?_)
 refine z ?_ (h := fun ν => acts_box (h := 1) ν xt (by exact ob1 rfl))
 refine zk (nl (sq (sq ?_)))
 rcases Bool.eq_false_or_eq_true ((balB l)) with c1 | c1
 ·skip
  refine rg ?_
  refine z ?_ (h := fun ν => acts_load_owns (xs := [(.sl 800 0 l.length : A)]) ν qD2_ti_33 rfl (by decide) rfl)
  refine z ?_ (h := fun ν => acts_call1 ν (impl_IsBalanced_fn l (by first | omega | assumption | exact cell_at (by omega) | (simp; omega))) (ac (ArgV.reg _ _ _ (s := 1) (by simp [isl]) (by first | exact List.take_of_length_le (by simp [isl]) | (simp [isl]; done))) an) (resval (congrArg Value.bool c1)))
  refine z ?_ (h := fun ν => acts_un ν vt (r_not (c := false) rfl))
  refine zm ?_
  refine zg ?_ (h := fun ν => step_on rfl rfl (acts_load_owns (xs := [(.sl 800 0 l.length : A)]) ν qD2_ti_33 rfl (by decide) rfl))
  refine zg ?_ (h := fun ν => step_on rfl rfl (acts_call1 ν (impl_CountCells_fn l (by first | omega | assumption | exact cell_at (by omega) | (simp; omega))) (ac (ArgV.reg _ _ _ (s := 1) (by simp [isl]) (by first | exact List.take_of_length_le (by simp [isl]) | (simp [isl]; done))) an) rv))
  refine zg ?_ (h := fun ν => step_on rfl rfl (acts_call1 ν (impl_within_fn (((cellsOf l).length : Nat) : Int) 1 32 ) (ac (ArgV.v vt) (ac (ArgV.v vc) (ac (ArgV.v vc) an))) rv))
  refine zg ?_ (h := fun ν => step_on rfl rfl (acts_un ν vt (r_not rfl)))
  refine z ?_ (h := fun ν => acts_pick_f ν vt xt)
  refine nl ?_
  refine wi (b := (!(inB (((cellsOf l).length : Nat) : Int) 1 32))) (fun c2 => ?_) (fun c2 => ?_)
  ·skip
   have c3 : (inB (((cellsOf l).length : Nat) : Int) 1 32) = false := by first | (rw [← Bool.not_eq_true']; exact c2) | simpa using c2
   have hno := so2 c3
   refine sq (rg (zk (nl ?_)))
   refine wp_weak (wnQ (k := 2) (h := 5) (T := 28) (T' := 3) (by kernel_rfl) (by kernel_rfl)) ?_
   refine wp_ret' ?_
   exact ⟨[kS 2 900 0 0, kO 800 3 1 true (pl (isl l)), kO 900 28 1 true (rwI 3 []), kF 1, kF 5, kF 8, kF 10, kF 14, kF 15, kF 18, kF 20, kF 21, kF 27, kF 29, kF 31, kF 32, kF 38, kF 39, kF 42, kF 46, kF 49, kF 50, kF 64, kF 65, kF 69, kF 70], wkf (subst1 [(900, 5)]) (wS <| wP <| wQI <| by (iterate 23 refine wF ?_); exact wN), ⟨by kernel_rfl, obj_eq (c := rwI 3 []) (by kernel_rfl) (congrArg (fun z => rwI 3 z) (by first | rfl | exact Eq.symm (smR_no hno) | exact Eq.symm (smR_nl hno) | (rw [smR_yes hyes, sgnK_end (j := k) (by omega)]; done))), trivial⟩, vo_eq 2 (.a (.sl 900 0 0)) (.a (.sl 900 0 ((smR l).length))) (by kernel_rfl) (congrArg (fun z : Nat => B.a (.sl 900 0 z)) (by first | rfl | exact Eq.symm (smR_no hno) | exact Eq.symm (smR_nl hno) | (rw [smR_yes hyes, sgnK_end (j := k) (by omega)]; done)))⟩
  ·skip
   have c4 : (inB (((cellsOf l).length : Nat) : Int) 1 32) = true := by first | (rw [← Bool.not_eq_false']; exact c2) | simpa using c2
   have hyes := so3 (by assumption) c4
   refine sk (sq (rg ?_))
   refine z ?_ (h := fun ν => b0Q (h := 18) (T := 3) ν qD2_un_22 qD2_zi_28)
   refine za (nl (sq (sq (rg ?_))))
   refine z ?_ (h := fun ν => acts_load_owns (xs := [(.sl 800 0 l.length : A)]) ν qD2_ti_33 rfl (by decide) rfl)
   refine z ?_ (h := fun ν => acts_call1 ν (impl_CellsOf_fn l (by first | omega | assumption | exact cell_at (by omega) | (simp; omega))) (ac (ArgV.reg _ _ _ (s := 1) (by simp [isl]) (by first | exact List.take_of_length_le (by simp [isl]) | (simp [isl]; done))) an) (ResV.row _ _ _ _ 20))
   refine z ?_ (h := fun ν => lnS ν qD2_un_45)
   refine z ?_ (h := fun ν => mc ν)
   refine nl (bkk ?_)
   refine wp_loop' (fun (k : Nat) => k ≤ (cellsOf l).length) (fun (k : Nat) => [kP 1 1 0, kS 3 18 0 ((sgnK l k).length), kS 20 20 0 ((cellsOf l).length), kI 21 (((cellsOf l).length : Nat) : Int), kI 22 ((k : Nat) : Int), kO 1 33 1 true [(.sl 800 0 l.length : A)], kO 18 28 1 true (rwI 3 (sgnK l k)), kO 20 49 2 true (pl (csl (cellsOf l))), kO 800 3 1 true (pl (isl l)), kF 5, kF 8, kF 10, kF 14, kF 15, kF 21, kF 27, kF 29, kF 31, kF 32, kF 38, kF 39, kF 42, kF 46, kF 49, kF 50, kF 64, kF 65, kF 69, kF 70]) (fun (k : Nat) => (cellsOf l).length - k) ((0 : Nat)) (by exact (Nat.zero_le _ : 0 ≤ _)) (wkf id (wS <| wE (e := (vsl (by first | rfl | (simp; done) | (simp; omega) | omega | (exact congrArg List.length (by first | rfl | omega | exact sgnK_zero _ | exact Eq.symm (sgnK_zero _) | exact sgnK_w (by omega) (by assumption) | exact Eq.symm (sgnK_w (by omega) (by assumption)) | (rw [sgnK_b (j := k) (by omega) (by assumption), ← rowK_end (j := j) (by omega)]; done)))) rfl)) <| wS <| wS <| wE (e := (vint (by first | rfl | omega | exact sgnK_zero _ | exact Eq.symm (sgnK_zero _) | exact sgnK_w (by omega) (by assumption) | exact Eq.symm (sgnK_w (by omega) (by assumption)) | (rw [sgnK_b (j := k) (by omega) (by assumption), ← rowK_end (j := j) (by omega)]; done)))) <| wX <| wQI (e := (by first | rfl | omega | exact sgnK_zero _ | exact Eq.symm (sgnK_zero _) | exact sgnK_w (by omega) (by assumption) | exact Eq.symm (sgnK_w (by omega) (by assumption)) | (rw [sgnK_b (j := k) (by omega) (by assumption), ← rowK_end (j := j) (by omega)]; done))) <| wP <| wP <| by (iterate 20 refine wF ?_); exact wN)) ?_
   rintro k inv5
   replace inv5 : k ≤ (cellsOf l).length := inv5
   have inv := inv5
   have hsk := sgnK_len l k
   refine sq (rg ?_)
   refine z ?_ (h := fun ν => acts_bin ν vt vt (r_lss rfl))
   refine nl (sq ?_)
   refine wi (fun c6 => ?_) (fun c6 => ?_)
   ·skip
    have c6P := of_decide_eq_true c6
    refine sk (sq (bkk (sq (rg ?_))))
    refine z ?_ (h := fun ν => ix0 ν qD2_un_45 qD2_sz_49 vt (hlt := (by first | omega | assumption | exact cell_at (by omega) | (simp; omega))))
    refine z ?_ (h := fun ν => lC ν qD2_ti_49 (by first | omega | assumption | exact cell_at (by omega) | (simp; omega)))
    refine z ?_ (h := fun ν => acts_alloc' (h := 5) (cap := 1) (s := 2) (cells := [aI 0, aI 0]) ν qD2_zi_49 rfl rfl (by decide))
    refine z ?_ (h := fun _ => acts_store (cells := [aI ((gC (cellsOf l) k).x), aI ((gC (cellsOf l) k).y)]) qD2_ti_49 xt (by exact rfl) (by decide) (by exact ob1 rfl) (by exact Nat.le_of_ble_eq_true rfl) (by exact rfl))
    refine nl (sq (sq (rg ?_)))
    refine z ?_ (h := fun ν => acts_load_owns (xs := [vI ((gC (cellsOf l) k).x), vI ((gC (cellsOf l) k).y)].map A.val) ν qD2_ti_49 rfl (by decide) rfl)
    refine z ?_ (h := fun ν => acts_call1 ν (impl_IsBlack_fn (gC (cellsOf l) k) ) (ac (ArgV.va va) an) rv)
    refine z ?_ (h := fun ν => acts_un ν vt (r_not rfl))
    refine nl ?_
    refine wi (b := (!(black (gC (cellsOf l) k)))) (fun c7 => ?_) (fun c7 => ?_)
    ·skip
     have c8 : (black (gC (cellsOf l) k)) = false := by first | (rw [← Bool.not_eq_true']; exact c7) | simpa using c7
     refine wp_exit' (rg ?_)
     refine z ?_ (h := fun ν => acts_bin ν vt vc (rA (by first | omega | assumption | exact cell_at (by omega) | (simp; omega)) (by first | omega | assumption | exact cell_at (by omega) | (simp; omega))))
     refine zm (nl ?_)
     exact loop_back ((k + 1)) (by show _ ≤ _; omega) (by show (cellsOf l).length - (k + 1) < (cellsOf l).length - k; omega) (wkf id (wS <| wE (e := (vsl (by first | rfl | (simp; done) | (simp; omega) | omega | (exact congrArg List.length (by first | rfl | omega | exact sgnK_zero _ | exact Eq.symm (sgnK_zero _) | exact sgnK_w (by omega) (by assumption) | exact Eq.symm (sgnK_w (by omega) (by assumption)) | (rw [sgnK_b (j := k) (by omega) (by assumption), ← rowK_end (j := j) (by omega)]; done)))) rfl)) <| wS <| wS <| wE (e := (vint (by first | rfl | omega | exact sgnK_zero _ | exact Eq.symm (sgnK_zero _) | exact sgnK_w (by omega) (by assumption) | exact Eq.symm (sgnK_w (by omega) (by assumption)) | (rw [sgnK_b (j := k) (by omega) (by assumption), ← rowK_end (j := j) (by omega)]; done)))) <| wX <| wQI (e := (by first | rfl | omega | exact sgnK_zero _ | exact Eq.symm (sgnK_zero _) | exact sgnK_w (by omega) (by assumption) | exact Eq.symm (sgnK_w (by omega) (by assumption)) | (rw [sgnK_b (j := k) (by omega) (by assumption), ← rowK_end (j := j) (by omega)]; done))) <| wP <| wP <| by (iterate 20 refine wF ?_); exact wN))
    ·skip
     have c9 : (black (gC (cellsOf l) k)) = true := by first | (rw [← Bool.not_eq_false']; exact c7) | simpa using c7
     refine sk (sq (rg ?_))
     refine z ?_ (h := fun ν => b0I (h := 29) ν qD2_un_28 qD2_zi_3)
     refine za (nl (sq (sq (rg ?_))))
     refine z ?_ (h := fun ν => acts_load_owns (xs := [(.sl 800 0 l.length : A)]) ν qD2_ti_33 rfl (by decide) rfl)
     refine z ?_ (h := fun ν => acts_call1 ν (impl_CellsOf_fn l (by first | omega | assumption | exact cell_at (by omega) | (simp; omega))) (ac (ArgV.reg _ _ _ (s := 1) (by simp [isl]) (by first | exact List.take_of_length_le (by simp [isl]) | (simp [isl]; done))) an) (ResV.row _ _ _ _ 31))
     refine z ?_ (h := fun ν => lnS ν qD2_un_45)
     refine z ?_ (h := fun ν => mc ν)
     refine nl (bkk ?_)
     refine wp_loop' (fun (j : Nat) => j ≤ (cellsOf l).length) (fun (j : Nat) => [kP 1 1 0, kS 3 18 0 ((sgnK l k).length), kP 5 5 0, kS 6 29 0 ((rowK l (gC (cellsOf l) k) j).length), kS 20 20 0 ((cellsOf l).length), kI 21 (((cellsOf l).length : Nat) : Int), kI 22 ((k : Nat) : Int), kS 31 31 0 ((cellsOf l).length), kI 32 (((cellsOf l).length : Nat) : Int), kI 33 ((j : Nat) : Int), kO 1 33 1 true [(.sl 800 0 l.length : A)], kO 5 49 2 true [aI ((gC (cellsOf l) k).x), aI ((gC (cellsOf l) k).y)], kO 18 28 1 true (rwI 3 (sgnK l k)), kO 20 49 2 true (pl (csl (cellsOf l))), kO 29 3 1 true (pl (isl (rowK l (gC (cellsOf l) k) j))), kO 31 49 2 true (pl (csl (cellsOf l))), kO 800 3 1 true (pl (isl l)), kF 8, kF 10, kF 14, kF 15, kF 21, kF 27, kF 32, kF 38, kF 39, kF 42, kF 46, kF 49, kF 50, kF 64, kF 65, kF 69, kF 70]) (fun (j : Nat) => (cellsOf l).length - j) ((0 : Nat)) (by exact (Nat.zero_le _ : 0 ≤ _)) (wkf id (wS <| wS <| wS <| wE (e := (vsl (by first | rfl | (simp; done) | (simp; omega) | omega | (exact congrArg List.length (by first | rfl | omega | exact rowK_zero _ _ | exact Eq.symm (rowK_zero _ _) | (rw [rowK_b (j := j) (by omega) (by assumption)]; done) | (rw [rowK_w (j := j) (by omega) (by assumption) (sgE_n (by assumption))]; done) | (have hxy := nbr_xy (a := (gC (cellsOf l) k)) (b := (gC (cellsOf l) j)) (by assumption); first | (rw [rowK_w (j := j) (by omega) (by assumption) (sgE_p (by assumption) (by omega))]; done) | (rw [rowK_w (j := j) (by omega) (by assumption) (sgE_m (by assumption) (by omega))]; done))))) rfl)) <| wS <| wS <| wS <| wS <| wS <| wE (e := (vint (by first | rfl | omega | exact rowK_zero _ _ | exact Eq.symm (rowK_zero _ _) | (rw [rowK_b (j := j) (by omega) (by assumption)]; done) | (rw [rowK_w (j := j) (by omega) (by assumption) (sgE_n (by assumption))]; done) | (have hxy := nbr_xy (a := (gC (cellsOf l) k)) (b := (gC (cellsOf l) j)) (by assumption); first | (rw [rowK_w (j := j) (by omega) (by assumption) (sgE_p (by assumption) (by omega))]; done) | (rw [rowK_w (j := j) (by omega) (by assumption) (sgE_m (by assumption) (by omega))]; done))))) <| wX <| wX <| wQI <| wP <| wO (e := renob_eq (fun h => h) (congrArg isl (by first | rfl | omega | exact rowK_zero _ _ | exact Eq.symm (rowK_zero _ _) | (rw [rowK_b (j := j) (by omega) (by assumption)]; done) | (rw [rowK_w (j := j) (by omega) (by assumption) (sgE_n (by assumption))]; done) | (have hxy := nbr_xy (a := (gC (cellsOf l) k)) (b := (gC (cellsOf l) j)) (by assumption); first | (rw [rowK_w (j := j) (by omega) (by assumption) (sgE_p (by assumption) (by omega))]; done) | (rw [rowK_w (j := j) (by omega) (by assumption) (sgE_m (by assumption) (by omega))]; done))))) <| wP <| wP <| by (iterate 17 refine wF ?_); exact wN)) ?_
     rintro j inv10
     replace inv10 : j ≤ (cellsOf l).length := inv10
     have inv := inv10
     have hrk := rowK_len l (gC (cellsOf l) k) j
     refine sq (rg ?_)
     refine z ?_ (h := fun ν => acts_bin ν vt vt (r_lss rfl))
     refine nl (sq ?_)
     refine wi (fun c11 => ?_) (fun c11 => ?_)
     ·skip
      have c11P := of_decide_eq_true c11
      refine sk (sq (bkk (sq (rg ?_))))
      refine z ?_ (h := fun ν => ix0 ν qD2_un_45 qD2_sz_49 vt (hlt := (by first | omega | assumption | exact cell_at (by omega) | (simp; omega))))
      refine z ?_ (h := fun ν => lC ν qD2_ti_49 (by first | omega | assumption | exact cell_at (by omega) | (simp; omega)))
      refine z ?_ (h := fun ν => acts_alloc' (h := 8) (cap := 1) (s := 2) (cells := [aI 0, aI 0]) ν qD2_zi_49 rfl rfl (by decide))
      refine z ?_ (h := fun _ => acts_store (cells := [aI ((gC (cellsOf l) j).x), aI ((gC (cellsOf l) j).y)]) qD2_ti_49 xt (by exact rfl) (by decide) (by exact ob1 rfl) (by exact Nat.le_of_ble_eq_true rfl) (by exact rfl))
      refine nl (bkk (sq (rg ?_)))
      refine z ?_ (h := fun ν => acts_load_owns (xs := [vI ((gC (cellsOf l) j).x), vI ((gC (cellsOf l) j).y)].map A.val) ν qD2_ti_49 rfl (by decide) rfl)
      refine z ?_ (h := fun ν => acts_call1 ν (impl_IsBlack_fn (gC (cellsOf l) j) ) (ac (ArgV.va va) an) rv)
      refine za (nl ?_)
      refine wi (b := (black (gC (cellsOf l) j))) (fun c12 => ?_) (fun c12 => ?_)
      ·skip
       refine sk (rg ?_)
       refine z ?_ (h := fun ν => acts_bin ν vt vc (rA (by first | omega | assumption | exact cell_at (by omega) | (simp; omega)) (by first | omega | assumption | exact cell_at (by omega) | (simp; omega))))
       refine zm (nl ?_)
       exact loop_back ((j + 1)) (by show _ ≤ _; omega) (by show (cellsOf l).length - (j + 1) < (cellsOf l).length - j; omega) (wkf id (wS <| wS <| wS <| wE (e := (vsl (by first | rfl | (simp; done) | (simp; omega) | omega | (exact congrArg List.length (by first | rfl | omega | exact rowK_zero _ _ | exact Eq.symm (rowK_zero _ _) | (rw [rowK_b (j := j) (by omega) (by assumption)]; done) | (rw [rowK_w (j := j) (by omega) (by assumption) (sgE_n (by assumption))]; done) | (have hxy := nbr_xy (a := (gC (cellsOf l) k)) (b := (gC (cellsOf l) j)) (by assumption); first | (rw [rowK_w (j := j) (by omega) (by assumption) (sgE_p (by assumption) (by omega))]; done) | (rw [rowK_w (j := j) (by omega) (by assumption) (sgE_m (by assumption) (by omega))]; done))))) rfl)) <| wS <| wS <| wS <| wS <| wS <| wE (e := (vint (by first | rfl | omega | exact rowK_zero _ _ | exact Eq.symm (rowK_zero _ _) | (rw [rowK_b (j := j) (by omega) (by assumption)]; done) | (rw [rowK_w (j := j) (by omega) (by assumption) (sgE_n (by assumption))]; done) | (have hxy := nbr_xy (a := (gC (cellsOf l) k)) (b := (gC (cellsOf l) j)) (by assumption); first | (rw [rowK_w (j := j) (by omega) (by assumption) (sgE_p (by assumption) (by omega))]; done) | (rw [rowK_w (j := j) (by omega) (by assumption) (sgE_m (by assumption) (by omega))]; done))))) <| wX <| wX <| wQI <| wP <| wO (e := renob_eq (fun h => h) (congrArg isl (by first | rfl | omega | exact rowK_zero _ _ | exact Eq.symm (rowK_zero _ _) | (rw [rowK_b (j := j) (by omega) (by assumption)]; done) | (rw [rowK_w (j := j) (by omega) (by assumption) (sgE_n (by assumption))]; done) | (have hxy := nbr_xy (a := (gC (cellsOf l) k)) (b := (gC (cellsOf l) j)) (by assumption); first | (rw [rowK_w (j := j) (by omega) (by assumption) (sgE_p (by assumption) (by omega))]; done) | (rw [rowK_w (j := j) (by omega) (by assumption) (sgE_m (by assumption) (by omega))]; done))))) <| wP <| wP <| by (iterate 17 refine wF ?_); exact wN))
      ·skip
       refine sq (rg ?_)
       refine z ?_ (h := fun ν => acts_load_owns (xs := [vI ((gC (cellsOf l) k).x), vI ((gC (cellsOf l) k).y)].map A.val) ν qD2_ti_49 rfl (by decide) rfl)
       refine z ?_ (h := fun ν => acts_load_owns (xs := [vI ((gC (cellsOf l) j).x), vI ((gC (cellsOf l) j).y)].map A.val) ν qD2_ti_49 rfl (by decide) rfl)
       refine z ?_ (h := fun ν => acts_call1 ν (impl_AreNeighbors_fn (gC (cellsOf l) k) (gC (cellsOf l) j) ) (ac (ArgV.va va) (ac (ArgV.va va) an)) rv)
       refine z ?_ (h := fun ν => acts_un ν vt (r_not rfl))
       refine za (nl ?_)
       refine wi (b := (!(nbr (gC (cellsOf l) k) (gC (cellsOf l) j)))) (fun c13 => ?_) (fun c13 => ?_)
       ·skip
        have c14 : (nbr (gC (cellsOf l) k) (gC (cellsOf l) j)) = false := by first | (rw [← Bool.not_eq_true']; exact c13) | simpa using c13
        refine rg (zm ?_)
        refine z ?_ (h := fun ν => acts_buildSlice' (h := 49) (xs := isl ([0] : List Int)) ν qD2_un_28 qD2_zi_3 (.cons vc OpVs.nil) (by decide) (by decide) (by kernel_rfl) rfl)
        refine z ?_ (h := fun ν => aI_ (h2 := 50) (L3 := ((rowK l (gC (cellsOf l) k) j) ++ [0])) ν qD2_un_28 qD2_zi_3 (by first | exact rfl | (simp; done) | (simp; omega) | omega) rfl (by first | exact rfl | (simp; done) | (simp; omega) | omega) (by first | omega | (simp; omega) | (simp at *; omega)))
        refine za (nl (rg ?_))
        refine z ?_ (h := fun ν => acts_bin ν vt vc (rA (by first | omega | assumption | exact cell_at (by omega) | (simp; omega)) (by first | omega | assumption | exact cell_at (by omega) | (simp; omega))))
        refine zm (nl ?_)
        exact loop_back ((j + 1)) (by show _ ≤ _; omega) (by show (cellsOf l).length - (j + 1) < (cellsOf l).length - j; omega) (wkf (subst1 [(29, 50)]) (wS <| wS <| wS <| wE (e := (vsl (by first | rfl | (simp; done) | (simp; omega) | omega | (exact congrArg List.length (by first | rfl | omega | exact rowK_zero _ _ | exact Eq.symm (rowK_zero _ _) | (rw [rowK_b (j := j) (by omega) (by assumption)]; done) | (rw [rowK_w (j := j) (by omega) (by assumption) (sgE_n (by assumption))]; done) | (have hxy := nbr_xy (a := (gC (cellsOf l) k)) (b := (gC (cellsOf l) j)) (by assumption); first | (rw [rowK_w (j := j) (by omega) (by assumption) (sgE_p (by assumption) (by omega))]; done) | (rw [rowK_w (j := j) (by omega) (by assumption) (sgE_m (by assumption) (by omega))]; done))))) rfl)) <| wS <| wS <| wS <| wS <| wS <| wE (e := (vint (by first | rfl | omega | exact rowK_zero _ _ | exact Eq.symm (rowK_zero _ _) | (rw [rowK_b (j := j) (by omega) (by assumption)]; done) | (rw [rowK_w (j := j) (by omega) (by assumption) (sgE_n (by assumption))]; done) | (have hxy := nbr_xy (a := (gC (cellsOf l) k)) (b := (gC (cellsOf l) j)) (by assumption); first | (rw [rowK_w (j := j) (by omega) (by assumption) (sgE_p (by assumption) (by omega))]; done) | (rw [rowK_w (j := j) (by omega) (by assumption) (sgE_m (by assumption) (by omega))]; done))))) <| wX <| wX <| wQI <| wP <| wO (e := renob_eq (fun h => h) (congrArg isl (by first | rfl | omega | exact rowK_zero _ _ | exact Eq.symm (rowK_zero _ _) | (rw [rowK_b (j := j) (by omega) (by assumption)]; done) | (rw [rowK_w (j := j) (by omega) (by assumption) (sgE_n (by assumption))]; done) | (have hxy := nbr_xy (a := (gC (cellsOf l) k)) (b := (gC (cellsOf l) j)) (by assumption); first | (rw [rowK_w (j := j) (by omega) (by assumption) (sgE_p (by assumption) (by omega))]; done) | (rw [rowK_w (j := j) (by omega) (by assumption) (sgE_m (by assumption) (by omega))]; done))))) <| wP <| wP <| by (iterate 17 refine wF ?_); exact wN))
       ·skip
        have c15 : (nbr (gC (cellsOf l) k) (gC (cellsOf l) j)) = true := by first | (rw [← Bool.not_eq_false']; exact c13) | simpa using c13
        have hxy := nbr_xy c15
        refine sq ?_
        rcases Bool.eq_false_or_eq_true (decide ((gC (cellsOf l) k).y = (gC (cellsOf l) j).y)) with c16 | c16
        ·skip
         have c16P := of_decide_eq_true c16
         refine rg ?_
         refine z ?_ (h := fun ν => acts_field (off' := 1) ν qD2_fo_49_1 rfl)
         refine z ?_ (h := fun ν => acts_load_own (x := .val (.int .i64 ((gC (cellsOf l) k).y))) ν qD2_ti_3 (by exact rfl))
         refine z ?_ (h := fun ν => acts_field (off' := 1) ν qD2_fo_49_1 rfl)
         refine z ?_ (h := fun ν => acts_load_own (x := .val (.int .i64 ((gC (cellsOf l) j).y))) ν qD2_ti_3 (by exact rfl))
         refine z ?_ (h := fun ν => acts_bin ν vt vt (r_eql (c := true) c16))
         refine zm (zo (zo (zo (zo ?_))))
         refine z ?_ (h := fun ν => acts_pick_t ν vt xc)
         refine za (nl (wt (rg (zm ?_))))
         refine z ?_ (h := fun ν => acts_buildSlice' (h := 64) (xs := isl ([1] : List Int)) ν qD2_un_28 qD2_zi_3 (.cons vc OpVs.nil) (by decide) (by decide) (by kernel_rfl) rfl)
         refine z ?_ (h := fun ν => aI_ (h2 := 65) (L3 := ((rowK l (gC (cellsOf l) k) j) ++ [1])) ν qD2_un_28 qD2_zi_3 (by first | exact rfl | (simp; done) | (simp; omega) | omega) rfl (by first | exact rfl | (simp; done) | (simp; omega) | omega) (by first | omega | (simp; omega) | (simp at *; omega)))
         refine za (nl (rg ?_))
         refine z ?_ (h := fun ν => acts_bin ν vt vc (rA (by first | omega | assumption | exact cell_at (by omega) | (simp; omega)) (by first | omega | assumption | exact cell_at (by omega) | (simp; omega))))
         refine zm (nl ?_)
         exact loop_back ((j + 1)) (by show _ ≤ _; omega) (by show (cellsOf l).length - (j + 1) < (cellsOf l).length - j; omega) (wkf (subst1 [(29, 65)]) (wS <| wS <| wS <| wE (e := (vsl (by first | rfl | (simp; done) | (simp; omega) | omega | (exact congrArg List.length (by first | rfl | omega | exact rowK_zero _ _ | exact Eq.symm (rowK_zero _ _) | (rw [rowK_b (j := j) (by omega) (by assumption)]; done) | (rw [rowK_w (j := j) (by omega) (by assumption) (sgE_n (by assumption))]; done) | (have hxy := nbr_xy (a := (gC (cellsOf l) k)) (b := (gC (cellsOf l) j)) (by assumption); first | (rw [rowK_w (j := j) (by omega) (by assumption) (sgE_p (by assumption) (by omega))]; done) | (rw [rowK_w (j := j) (by omega) (by assumption) (sgE_m (by assumption) (by omega))]; done))))) rfl)) <| wS <| wS <| wS <| wS <| wS <| wE (e := (vint (by first | rfl | omega | exact rowK_zero _ _ | exact Eq.symm (rowK_zero _ _) | (rw [rowK_b (j := j) (by omega) (by assumption)]; done) | (rw [rowK_w (j := j) (by omega) (by assumption) (sgE_n (by assumption))]; done) | (have hxy := nbr_xy (a := (gC (cellsOf l) k)) (b := (gC (cellsOf l) j)) (by assumption); first | (rw [rowK_w (j := j) (by omega) (by assumption) (sgE_p (by assumption) (by omega))]; done) | (rw [rowK_w (j := j) (by omega) (by assumption) (sgE_m (by assumption) (by omega))]; done))))) <| wX <| wX <| wQI <| wP <| wO (e := renob_eq (fun h => h) (congrArg isl (by first | rfl | omega | exact rowK_zero _ _ | exact Eq.symm (rowK_zero _ _) | (rw [rowK_b (j := j) (by omega) (by assumption)]; done) | (rw [rowK_w (j := j) (by omega) (by assumption) (sgE_n (by assumption))]; done) | (have hxy := nbr_xy (a := (gC (cellsOf l) k)) (b := (gC (cellsOf l) j)) (by assumption); first | (rw [rowK_w (j := j) (by omega) (by assumption) (sgE_p (by assumption) (by omega))]; done) | (rw [rowK_w (j := j) (by omega) (by assumption) (sgE_m (by assumption) (by omega))]; done))))) <| wP <| wP <| by (iterate 17 refine wF ?_); exact wN))
        ·skip
         have c16P := of_decide_eq_false c16
         refine rg ?_
         refine z ?_ (h := fun ν => acts_field (off' := 1) ν qD2_fo_49_1 rfl)
         refine z ?_ (h := fun ν => acts_load_own (x := .val (.int .i64 ((gC (cellsOf l) k).y))) ν qD2_ti_3 (by exact rfl))
         refine z ?_ (h := fun ν => acts_field (off' := 1) ν qD2_fo_49_1 rfl)
         refine z ?_ (h := fun ν => acts_load_own (x := .val (.int .i64 ((gC (cellsOf l) j).y))) ν qD2_ti_3 (by exact rfl))
         refine z ?_ (h := fun ν => acts_bin ν vt vt (r_eql (c := false) c16))
         refine zm ?_
         refine zg ?_ (h := fun ν => step_on rfl rfl (acts_field (off' := 0) ν qD2_fo_49_0 rfl))
         refine zg ?_ (h := fun ν => step_on rfl rfl (acts_load_own (x := .val (.int .i64 ((gC (cellsOf l) k).x))) ν qD2_ti_3 (by exact rfl)))
         refine zg ?_ (h := fun ν => step_on rfl rfl (acts_bin ν vt vc (r_rem (c := ((gC (cellsOf l) k).x % 2)) (by first | omega | assumption | exact cell_at (by omega) | (simp; omega)) (remI (by first | omega | assumption | exact cell_at (by omega) | (simp; omega))))))
         refine zg ?_ (h := fun ν => step_on rfl rfl (acts_bin ν vt vc (r_eql rfl)))
         refine z ?_ (h := fun ν => acts_pick_f ν vt xt)
         refine za (nl ?_)
         refine wi (fun c17 => ?_) (fun c17 => ?_)
         ·skip
          have c17P := of_decide_eq_true c17
          refine rg (zm ?_)
          refine z ?_ (h := fun ν => acts_buildSlice' (h := 64) (xs := isl ([1] : List Int)) ν qD2_un_28 qD2_zi_3 (.cons vc OpVs.nil) (by decide) (by decide) (by kernel_rfl) rfl)
          refine z ?_ (h := fun ν => aI_ (h2 := 65) (L3 := ((rowK l (gC (cellsOf l) k) j) ++ [1])) ν qD2_un_28 qD2_zi_3 (by first | exact rfl | (simp; done) | (simp; omega) | omega) rfl (by first | exact rfl | (simp; done) | (simp; omega) | omega) (by first | omega | (simp; omega) | (simp at *; omega)))
          refine za (nl (rg ?_))
          refine z ?_ (h := fun ν => acts_bin ν vt vc (rA (by first | omega | assumption | exact cell_at (by omega) | (simp; omega)) (by first | omega | assumption | exact cell_at (by omega) | (simp; omega))))
          refine zm (nl ?_)
          exact loop_back ((j + 1)) (by show _ ≤ _; omega) (by show (cellsOf l).length - (j + 1) < (cellsOf l).length - j; omega) (wkf (subst1 [(29, 65)]) (wS <| wS <| wS <| wE (e := (vsl (by first | rfl | (simp; done) | (simp; omega) | omega | (exact congrArg List.length (by first | rfl | omega | exact rowK_zero _ _ | exact Eq.symm (rowK_zero _ _) | (rw [rowK_b (j := j) (by omega) (by assumption)]; done) | (rw [rowK_w (j := j) (by omega) (by assumption) (sgE_n (by assumption))]; done) | (have hxy := nbr_xy (a := (gC (cellsOf l) k)) (b := (gC (cellsOf l) j)) (by assumption); first | (rw [rowK_w (j := j) (by omega) (by assumption) (sgE_p (by assumption) (by omega))]; done) | (rw [rowK_w (j := j) (by omega) (by assumption) (sgE_m (by assumption) (by omega))]; done))))) rfl)) <| wS <| wS <| wS <| wS <| wS <| wE (e := (vint (by first | rfl | omega | exact rowK_zero _ _ | exact Eq.symm (rowK_zero _ _) | (rw [rowK_b (j := j) (by omega) (by assumption)]; done) | (rw [rowK_w (j := j) (by omega) (by assumption) (sgE_n (by assumption))]; done) | (have hxy := nbr_xy (a := (gC (cellsOf l) k)) (b := (gC (cellsOf l) j)) (by assumption); first | (rw [rowK_w (j := j) (by omega) (by assumption) (sgE_p (by assumption) (by omega))]; done) | (rw [rowK_w (j := j) (by omega) (by assumption) (sgE_m (by assumption) (by omega))]; done))))) <| wX <| wX <| wQI <| wP <| wO (e := renob_eq (fun h => h) (congrArg isl (by first | rfl | omega | exact rowK_zero _ _ | exact Eq.symm (rowK_zero _ _) | (rw [rowK_b (j := j) (by omega) (by assumption)]; done) | (rw [rowK_w (j := j) (by omega) (by assumption) (sgE_n (by assumption))]; done) | (have hxy := nbr_xy (a := (gC (cellsOf l) k)) (b := (gC (cellsOf l) j)) (by assumption); first | (rw [rowK_w (j := j) (by omega) (by assumption) (sgE_p (by assumption) (by omega))]; done) | (rw [rowK_w (j := j) (by omega) (by assumption) (sgE_m (by assumption) (by omega))]; done))))) <| wP <| wP <| by (iterate 17 refine wF ?_); exact wN))
         ·skip
          have c17P := of_decide_eq_false c17
          refine rg (zm ?_)
          refine z ?_ (h := fun ν => acts_buildSlice' (h := 38) (xs := isl ([(-1)] : List Int)) ν qD2_un_28 qD2_zi_3 (.cons vc OpVs.nil) (by decide) (by decide) (by kernel_rfl) rfl)
          refine z ?_ (h := fun ν => aI_ (h2 := 39) (L3 := ((rowK l (gC (cellsOf l) k) j) ++ [(-1)])) ν qD2_un_28 qD2_zi_3 (by first | exact rfl | (simp; done) | (simp; omega) | omega) rfl (by first | exact rfl | (simp; done) | (simp; omega) | omega) (by first | omega | (simp; omega) | (simp at *; omega)))
          refine za (nl (rg ?_))
          refine z ?_ (h := fun ν => acts_bin ν vt vc (rA (by first | omega | assumption | exact cell_at (by omega) | (simp; omega)) (by first | omega | assumption | exact cell_at (by omega) | (simp; omega))))
          refine zm (nl ?_)
          exact loop_back ((j + 1)) (by show _ ≤ _; omega) (by show (cellsOf l).length - (j + 1) < (cellsOf l).length - j; omega) (wkf (subst1 [(29, 39)]) (wS <| wS <| wS <| wE (e := (vsl (by first | rfl | (simp; done) | (simp; omega) | omega | (exact congrArg List.length (by first | rfl | omega | exact rowK_zero _ _ | exact Eq.symm (rowK_zero _ _) | (rw [rowK_b (j := j) (by omega) (by assumption)]; done) | (rw [rowK_w (j := j) (by omega) (by assumption) (sgE_n (by assumption))]; done) | (have hxy := nbr_xy (a := (gC (cellsOf l) k)) (b := (gC (cellsOf l) j)) (by assumption); first | (rw [rowK_w (j := j) (by omega) (by assumption) (sgE_p (by assumption) (by omega))]; done) | (rw [rowK_w (j := j) (by omega) (by assumption) (sgE_m (by assumption) (by omega))]; done))))) rfl)) <| wS <| wS <| wS <| wS <| wS <| wE (e := (vint (by first | rfl | omega | exact rowK_zero _ _ | exact Eq.symm (rowK_zero _ _) | (rw [rowK_b (j := j) (by omega) (by assumption)]; done) | (rw [rowK_w (j := j) (by omega) (by assumption) (sgE_n (by assumption))]; done) | (have hxy := nbr_xy (a := (gC (cellsOf l) k)) (b := (gC (cellsOf l) j)) (by assumption); first | (rw [rowK_w (j := j) (by omega) (by assumption) (sgE_p (by assumption) (by omega))]; done) | (rw [rowK_w (j := j) (by omega) (by assumption) (sgE_m (by assumption) (by omega))]; done))))) <| wX <| wX <| wQI <| wP <| wO (e := renob_eq (fun h => h) (congrArg isl (by first | rfl | omega | exact rowK_zero _ _ | exact Eq.symm (rowK_zero _ _) | (rw [rowK_b (j := j) (by omega) (by assumption)]; done) | (rw [rowK_w (j := j) (by omega) (by assumption) (sgE_n (by assumption))]; done) | (have hxy := nbr_xy (a := (gC (cellsOf l) k)) (b := (gC (cellsOf l) j)) (by assumption); first | (rw [rowK_w (j := j) (by omega) (by assumption) (sgE_p (by assumption) (by omega))]; done) | (rw [rowK_w (j := j) (by omega) (by assumption) (sgE_m (by assumption) (by omega))]; done))))) <| wP <| wP <| by (iterate 17 refine wF ?_); exact wN))
     ·skip
      have c11P := of_decide_eq_false c11
      refine wp_exit' (rg (zm (zm ?_)))
      refine z ?_ (h := fun ν => bs1 (h := 69) ν qD2_un_22 qD2_zi_28 (by exact ⟨_, _, _, .inl rfl⟩))
      refine z ?_ (h := fun ν => aQ (h2 := 70) (nm := ((sgnK l k) ++ [(rowK l (gC (cellsOf l) k) j)]).length) ν qD2_un_22 qD2_zi_28 (by exact ⟨_, _, _, .inl rfl⟩) (by simp [rwI_len, rwD_len]) (by first | omega | (simp; omega) | (first | omega | assumption | exact cell_at (by omega) | (simp; omega))) (by simp))
      refine za (nl ?_)
      refine wp_weak (pkI (h := 70) (h1 := 29) (T := 3) (T0 := 28) (s0 := 1) (ex0 := true) (n := ((rowK l (gC (cellsOf l) k) j).length)) (L := (sgnK l k)) (r := (rowK l (gC (cellsOf l) k) j))) ?_
      refine rg ?_
      refine z ?_ (h := fun ν => acts_bin ν vt vc (rA (by first | omega | assumption | exact cell_at (by omega) | (simp; omega)) (by first | omega | assumption | exact cell_at (by omega) | (simp; omega))))
      refine zm (nl ?_)
      exact loop_back ((k + 1)) (by show _ ≤ _; omega) (by show (cellsOf l).length - (k + 1) < (cellsOf l).length - k; omega) (wkf (subst1 [(18, 70)]) (wS <| wE (e := (vsl (by first | rfl | (simp; done) | (simp; omega) | omega | (exact congrArg List.length (by first | rfl | omega | exact sgnK_zero _ | exact Eq.symm (sgnK_zero _) | exact sgnK_w (by omega) (by assumption) | exact Eq.symm (sgnK_w (by omega) (by assumption)) | (rw [sgnK_b (j := k) (by omega) (by assumption), ← rowK_end (j := j) (by omega)]; done)))) rfl)) <| wS <| wS <| wE (e := (vint (by first | rfl | omega | exact sgnK_zero _ | exact Eq.symm (sgnK_zero _) | exact sgnK_w (by omega) (by assumption) | exact Eq.symm (sgnK_w (by omega) (by assumption)) | (rw [sgnK_b (j := k) (by omega) (by assumption), ← rowK_end (j := j) (by omega)]; done)))) <| wX <| wQI (e := (by first | rfl | omega | exact sgnK_zero _ | exact Eq.symm (sgnK_zero _) | exact sgnK_w (by omega) (by assumption) | exact Eq.symm (sgnK_w (by omega) (by assumption)) | (rw [sgnK_b (j := k) (by omega) (by assumption), ← rowK_end (j := j) (by omega)]; done))) <| wP <| wP <| by (iterate 20 refine wF ?_); exact wN))
   ·skip
    have c6P := of_decide_eq_false c6
    refine wp_exit' (sq (rg (zm (za (nl (wp_ret' ?_))))))
    exact ⟨[kS 2 900 0 ((sgnK l k).length), kO 800 3 1 true (pl (isl l)), kO 900 28 1 true (rwI 3 (sgnK l k)), kF 1, kF 5, kF 8, kF 10, kF 14, kF 15, kF 18, kF 20, kF 21, kF 27, kF 29, kF 31, kF 32, kF 38, kF 39, kF 42, kF 46, kF 49, kF 50, kF 64, kF 65, kF 69, kF 70], wkf (subst1 [(900, 18)]) (wS <| wP <| wQI <| by (iterate 23 refine wF ?_); exact wN), ⟨by kernel_rfl, obj_eq (c := rwI 3 (sgnK l k)) (by kernel_rfl) (congrArg (fun z => rwI 3 z) (by first | rfl | exact Eq.symm (smR_no hno) | exact Eq.symm (smR_nl hno) | (rw [smR_yes hyes, sgnK_end (j := k) (by omega)]; done))), trivial⟩, vo_eq 2 (.a (.sl 900 0 ((sgnK l k).length))) (.a (.sl 900 0 ((smR l).length))) (by kernel_rfl) (congrArg (fun z : Nat => B.a (.sl 900 0 z)) (by first | rfl | exact Eq.symm (smR_no hno) | exact Eq.symm (smR_nl hno) | (rw [smR_yes hyes, sgnK_end (j := k) (by omega)]; done)))⟩
 ·skip
  have hno := so1 c1
  refine rg ?_
  refine z ?_ (h := fun ν => acts_load_owns (xs := [(.sl 800 0 l.length : A)]) ν qD2_ti_33 rfl (by decide) rfl)
  refine z ?_ (h := fun ν => acts_call1 ν (impl_IsBalanced_fn l (by first | omega | assumption | exact cell_at (by omega) | (simp; omega))) (ac (ArgV.reg _ _ _ (s := 1) (by simp [isl]) (by first | exact List.take_of_length_le (by simp [isl]) | (simp [isl]; done))) an) (resval (congrArg Value.bool c1)))
  refine z ?_ (h := fun ν => acts_un ν vt (r_not (c := true) rfl))
  refine zm (zo (zo (zo (zo ?_))))
  refine z ?_ (h := fun ν => acts_pick_t ν vt xc)
  refine nl (wt (sq (rg (zk (nl ?_)))))
  refine wp_weak (wnQ (k := 2) (h := 5) (T := 28) (T' := 3) (by kernel_rfl) (by kernel_rfl)) ?_
  refine wp_ret' ?_
  exact ⟨[kS 2 900 0 0, kO 800 3 1 true (pl (isl l)), kO 900 28 1 true (rwI 3 []), kF 1, kF 5, kF 8, kF 10, kF 14, kF 15, kF 18, kF 20, kF 21, kF 27, kF 29, kF 31, kF 32, kF 38, kF 39, kF 42, kF 46, kF 49, kF 50, kF 64, kF 65, kF 69, kF 70], wkf (subst1 [(900, 5)]) (wS <| wP <| wQI <| by (iterate 23 refine wF ?_); exact wN), ⟨by kernel_rfl, obj_eq (c := rwI 3 []) (by kernel_rfl) (congrArg (fun z => rwI 3 z) (by first | rfl | exact Eq.symm (smR_no hno) | exact Eq.symm (smR_nl hno) | (rw [smR_yes hyes, sgnK_end (j := k) (by omega)]; done))), trivial⟩, vo_eq 2 (.a (.sl 900 0 0)) (.a (.sl 900 0 ((smR l).length))) (by kernel_rfl) (congrArg (fun z : Nat => B.a (.sl 900 0 z)) (by first | rfl | exact Eq.symm (smR_no hno) | exact Eq.symm (smR_nl hno) | (rw [smR_yes hyes, sgnK_end (j := k) (by omega)]; done)))⟩

set_option maxHeartbeats 4000000 in
set_option maxRecDepth 100000 in
theorem spec_l16Cells_fn (l : List Int) (b : Bool) (hl : l.length ≤ 4194304) : Fn Try.prog 35 [.agg [(.slv l.length 1 (isl l) : A)], .a (.val (.bool b))] [.row 49 2 (selB l b).length (csl (selB l b))] := by
 have h64 := cellsOf_len l
 refine fn_intro (N := 32) Try.func35 rfl (by kernel_rfl) rfl (Nat.le_of_ble_eq_true rfl) [2, 8, 10, 13, 21, 29, 30] (ret1 rfl) (fun W => ?_)
 show Wp _ _ _ [kV 0 (V.b (.agg [(.slv l.length 1 (isl l) : A)])), kB 1 b, kF 2, kF 8, kF 10, kF 13, kF 21, kF 29, kF 30]
 refine sq (rg ?_)
 refine z ?_ (h := fun ν => acts_box (h := 2) ν xt (by exact ob1 rfl))
 refine zk (nl (sq (rg ?_)))
 refine z ?_ (h := fun ν => b0C (h := 8) ν qD2_un_45 qD2_zi_49)
 refine za (nl (sq (rg ?_)))
 refine z ?_ (h := fun ν => acts_load_owns (xs := [(.slv l.length 1 (isl l) : A)]) ν qD2_ti_33 rfl (by decide) rfl)
 refine z ?_ (h := fun ν => acts_call1 ν (spec_CellsOf_fn l (by first | omega | assumption | (have := cfilt_len (fun c => decide (black c = b)) (cellsOf l) k; omega))) (ac (ArgV.regv _ _ 1 _) an) (ResV.row _ _ _ _ 10))
 refine za (nl (sq (sq (rg (zk (nl (bkk ?_)))))))
 refine wp_loop' (fun (k : Nat) => k ≤ (cellsOf l).length) (fun (k : Nat) => [kB 1 b, kS 5 8 0 ((((cellsOf l).take k).filter (fun c => decide (black c = b))).length), kS 6 10 0 ((cellsOf l).length), kI 7 ((k : Nat) : Int), kO 8 49 2 true (pl (csl (((cellsOf l).take k).filter (fun c => decide (black c = b))))), kO 10 49 2 true (pl (csl (cellsOf l))), kF 2, kF 13, kF 21, kF 29, kF 30]) (fun (k : Nat) => (cellsOf l).length - k) ((0 : Nat)) (by exact (Nat.zero_le _ : 0 ≤ _)) (wkf id (wS <| wE (e := (vsl (by first | rfl | (simp; done) | (simp; omega) | omega | (exact congrArg List.length (by first | rfl | omega | (rw [cfilt_yes (by omega) (by assumption)]; done) | (rw [cfilt_no (by omega) (by assumption)]; done) | (simp; done)))) rfl)) <| wS <| wE (e := (vint (by first | rfl | omega | (rw [cfilt_yes (by omega) (by assumption)]; done) | (rw [cfilt_no (by omega) (by assumption)]; done) | (simp; done)))) <| wO (e := renob_eq (fun h => h) (congrArg csl (by first | rfl | omega | (rw [cfilt_yes (by omega) (by assumption)]; done) | (rw [cfilt_no (by omega) (by assumption)]; done) | (simp; done)))) <| wP <| wF <| wF <| wF <| wF <| wF <| wN)) ?_
 rintro k inv1
 replace inv1 : k ≤ (cellsOf l).length := inv1
 have inv := inv1
 have hck := cfilt_len (fun c => decide (black c = b)) (cellsOf l) k
 refine sq (sq (rg (zm (zm ?_))))
 refine z ?_ (h := fun ν => lnS ν qD2_un_45)
 refine z ?_ (h := fun ν => acts_bin ν vt vt (r_lss rfl))
 refine nl ?_
 refine wi (fun c2 => ?_) (fun c2 => ?_)
 ·skip
  have c2P := of_decide_eq_true c2
  refine sk (sq (bkk (sq (rg (zm (zm ?_))))))
  refine z ?_ (h := fun ν => ix0 ν qD2_un_45 qD2_sz_49 vt (hlt := (by first | omega | assumption | (have := cfilt_len (fun c => decide (black c = b)) (cellsOf l) k; omega))))
  refine z ?_ (h := fun ν => lC ν qD2_ti_49 (by first | omega | assumption | (have := cfilt_len (fun c => decide (black c = b)) (cellsOf l) k; omega)))
  refine z ?_ (h := fun ν => acts_call1 ν (spec_IsBlack_fn (gC (cellsOf l) k) ) (ac (ArgV.va va) an) rv)
  refine zm ?_
  refine z ?_ (h := fun ν => acts_bin ν vt vt (r_beql (c := (decide ((black (gC (cellsOf l) k)) = b))) qD2_un_4 rfl))
  refine nl ?_
  refine wi (fun c3 => ?_) (fun c3 => ?_)
  ·skip
   have c3P := of_decide_eq_true c3
   refine rg (zm (zm (zm ?_)))
   refine z ?_ (h := fun ν => ix0 ν qD2_un_45 qD2_sz_49 vt (hlt := (by first | omega | assumption | (have := cfilt_len (fun c => decide (black c = b)) (cellsOf l) k; omega))))
   refine z ?_ (h := fun ν => lC ν qD2_ti_49 (by first | omega | assumption | (have := cfilt_len (fun c => decide (black c = b)) (cellsOf l) k; omega)))
   refine z ?_ (h := fun ν => acts_buildSlice' (h := 29) (xs := csl ([(gC (cellsOf l) k)] : List Cel)) ν qD2_un_45 qD2_zi_49 (.cons va OpVs.nil) (by decide) (by decide) (by kernel_rfl) rfl)
   refine z ?_ (h := fun ν => aC_ (h2 := 30) (L3 := ((((cellsOf l).take k).filter (fun c => decide (black c = b))) ++ [(gC (cellsOf l) k)])) ν qD2_un_45 qD2_zi_49 (by first | exact rfl | (simp; done) | (simp; omega) | omega) rfl (by first | exact rfl | (simp; done) | (simp; omega) | omega) (by first | omega | (simp; omega) | (simp at *; omega)))
   refine za (nl (rg (zm ?_)))
   refine z ?_ (h := fun ν => acts_bin ν vt vc (rA (by first | omega | assumption | (have := cfilt_len (fun c => decide (black c = b)) (cellsOf l) k; omega)) (by first | omega | assumption | (have := cfilt_len (fun c => decide (black c = b)) (cellsOf l) k; omega))))
   refine za (nl ?_)
   exact loop_back ((k + 1)) (by show _ ≤ _; omega) (by show (cellsOf l).length - (k + 1) < (cellsOf l).length - k; omega) (wkf (subst1 [(8, 30)]) (wS <| wE (e := (vsl (by first | rfl | (simp; done) | (simp; omega) | omega | (exact congrArg List.length (by first | rfl | omega | (rw [cfilt_yes (by omega) (by assumption)]; done) | (rw [cfilt_no (by omega) (by assumption)]; done) | (simp; done)))) rfl)) <| wS <| wE (e := (vint (by first | rfl | omega | (rw [cfilt_yes (by omega) (by assumption)]; done) | (rw [cfilt_no (by omega) (by assumption)]; done) | (simp; done)))) <| wO (e := renob_eq (fun h => h) (congrArg csl (by first | rfl | omega | (rw [cfilt_yes (by omega) (by assumption)]; done) | (rw [cfilt_no (by omega) (by assumption)]; done) | (simp; done)))) <| wP <| wF <| wF <| wF <| wF <| wF <| wN))
  ·skip
   have c3P := of_decide_eq_false c3
   refine sk (rg (zm ?_))
   refine z ?_ (h := fun ν => acts_bin ν vt vc (rA (by first | omega | assumption | (have := cfilt_len (fun c => decide (black c = b)) (cellsOf l) k; omega)) (by first | omega | assumption | (have := cfilt_len (fun c => decide (black c = b)) (cellsOf l) k; omega))))
   refine za (nl ?_)
   exact loop_back ((k + 1)) (by show _ ≤ _; omega) (by show (cellsOf l).length - (k + 1) < (cellsOf l).length - k; omega) (wkf id (wS <| wE (e := (vsl (by first | rfl | (simp; done) | (simp; omega) | omega | (exact congrArg List.length (by first | rfl | omega | (rw [cfilt_yes (by omega) (by assumption)]; done) | (rw [cfilt_no (by omega) (by assumption)]; done) | (simp; done)))) rfl)) <| wS <| wE (e := (vint (by first | rfl | omega | (rw [cfilt_yes (by omega) (by assumption)]; done) | (rw [cfilt_no (by omega) (by assumption)]; done) | (simp; done)))) <| wO (e := renob_eq (fun h => h) (congrArg csl (by first | rfl | omega | (rw [cfilt_yes (by omega) (by assumption)]; done) | (rw [cfilt_no (by omega) (by assumption)]; done) | (simp; done)))) <| wP <| wF <| wF <| wF <| wF <| wF <| wN))
 ·skip
  have c2P := of_decide_eq_false c2
  refine wp_exit' (sq (rg (zm (za (nl (wp_ret' ?_))))))
  exact VRes.tmp _ _ _ (by exact rfl) (brow_cels (h := 8) (L := (((cellsOf l).take k).filter (fun c => decide (black c = b)))) (by kernel_rfl) (by unfold selB; rw [List.take_of_length_le (by omega)]) (by first | rfl | (simp; done) | (simp; omega)))

set_option maxHeartbeats 4000000 in
set_option maxRecDepth 100000 in
theorem spec_SignMatrix_fn (l : List Int) (hl : l.length ≤ 4194304) : FnO Try.prog 16 [.agg [(.sl 800 0 l.length : A)]] [(.o 800, some (.o ⟨3, 1, true, pl (isl l)⟩))] (V.b (.a (.sl 900 0 ((smR l).length)))) [(.o 800, some (.o ⟨3, 1, true, pl (isl l)⟩)), (.o 900, some (.o ⟨28, 1, true, rwI 3 (smR l)⟩))] [800] := by
 have hb64 := selB_len l true
 have hw64 := selB_len l false
 refine fn_introO (N := 76) Try.func16 rfl (by kernel_rfl) rfl (Nat.le_of_ble_eq_true rfl) rfl rfl (by kernel_rfl) (by kernel_rfl) ⟨oc_pl (fun _ => rfl), trivial⟩ [1, 10, 12, 16, 17, 22, 24, 27, 31, 34, 46, 69, 70, 73, 74] (retO1 rfl) (fun W own kp im0 => ?_)
 show Wp _ _ _ [kV 0 (V.b (.agg [(.sl 800 0 l.length : A)])), kO 800 3 1 true (pl (isl l)), kF 1, kF 10, kF 12, kF 16, kF 17, kF 22, kF 24, kF 27, kF 31, kF 34, kF 46, kF 69, kF 70, kF 73, kF 74]
 refine sq (rg ?_)
 refine z ?_ (h := fun ν => acts_box (h := 1) ν xt (by exact ob1 rfl))
 refine zk (nl (sq (rg ?_)))
 refine z ?_ (h := fun ν => b0Q (h := 10) (T := 3) ν qD2_un_22 qD2_zi_28)
 refine za (nl (sq (sq ?_)))
 refine wp_join [kB 19 ((!(balB l)) || (!(inB (((cellsOf l).length : Nat) : Int) 1 32))), kP 1 1 0, kS 3 10 0 0, kO 1 33 1 true [(.sl 800 0 l.length : A)], kO 10 28 1 true (rwI 3 []), kO 800 3 1 true (pl (isl l)), kF 12, kF 16, kF 17, kF 22, kF 24, kF 27, kF 31, kF 34, kF 46, kF 69, kF 70, kF 73, kF 74] ?_ ?_
 ·skip
  rcases Bool.eq_false_or_eq_true ((balB l)) with c1 | c1
  ·skip
   refine rg ?_
   refine z ?_ (h := fun ν => acts_load_owns (xs := [(.sl 800 0 l.length : A)]) ν qD2_ti_33 rfl (by decide) rfl)
   refine z ?_ (h := fun ν => acts_call1 ν (spec_IsBalanced_fn l (by first | omega | assumption | exact selB_mem (by omega) | (simp; omega))) (ac (ArgV.reg _ _ _ (s := 1) (by simp [isl]) (by first | exact List.take_of_length_le (by simp [isl]) | (simp [isl]; done))) an) (resval (congrArg Value.bool c1)))
   refine z ?_ (h := fun ν => acts_un ν vt (r_not (c := false) rfl))
   refine zm ?_
   refine zg ?_ (h := fun ν => step_on rfl rfl (acts_load_owns (xs := [(.sl 800 0 l.length : A)]) ν qD2_ti_33 rfl (by decide) rfl))
   refine zg ?_ (h := fun ν => step_on rfl rfl (acts_call1 ν (spec_CountCells_fn l (by first | omega | assumption | exact selB_mem (by omega) | (simp; omega))) (ac (ArgV.reg _ _ _ (s := 1) (by simp [isl]) (by first | exact List.take_of_length_le (by simp [isl]) | (simp [isl]; done))) an) rv))
   refine zg ?_ (h := fun ν => step_on rfl rfl (acts_call1 ν (spec_l01In_fn (((cellsOf l).length : Nat) : Int) 1 32 ) (ac (ArgV.v vt) (ac (ArgV.v vc) (ac (ArgV.v vc) an))) rv))
   refine zg ?_ (h := fun ν => step_on rfl rfl (acts_un ν vt (r_not rfl)))
   refine z ?_ (h := fun ν => acts_pick_f ν vt xt)
   refine nl ?_
   exact ⟨rfl, weak_reads ⟨(by simp only [c1]; first | done | kernel_rfl), (by repeat (first | exact trivial | refine ⟨by kernel_rfl, ?_⟩))⟩⟩
  ·skip
   have hno := so1 c1
   refine rg ?_
   refine z ?_ (h := fun ν => acts_load_owns (xs := [(.sl 800 0 l.length : A)]) ν qD2_ti_33 rfl (by decide) rfl)
   refine z ?_ (h := fun ν => acts_call1 ν (spec_IsBalanced_fn l (by first | omega | assumption | exact selB_mem (by omega) | (simp; omega))) (ac (ArgV.reg _ _ _ (s := 1) (by simp [isl]) (by first | exact List.take_of_length_le (by simp [isl]) | (simp [isl]; done))) an) (resval (congrArg Value.bool c1)))
   refine z ?_ (h := fun ν => acts_un ν vt (r_not (c := true) rfl))
   refine zm (zo (zo (zo (zo ?_))))
   refine z ?_ (h := fun ν => acts_pick_t ν vt xc)
   refine nl ?_
   exact ⟨rfl, weak_reads ⟨(by simp only [c1]; first | done | kernel_rfl), (by repeat (first | exact trivial | refine ⟨by kernel_rfl, ?_⟩))⟩⟩
 refine wi (b := ((!(balB l)) || (!(inB (((cellsOf l).length : Nat) : Int) 1 32)))) (fun c2 => ?_) (fun c2 => ?_)
 ·skip
  have hno := so4 c2
  have c3 := or_tt c2
  refine sq (rg (zm (za (nl (wp_ret' ?_)))))
  exact ⟨[kS 2 900 0 0, kO 800 3 1 true (pl (isl l)), kO 900 28 1 true (rwI 3 []), kF 1, kF 10, kF 12, kF 16, kF 17, kF 22, kF 24, kF 27, kF 31, kF 34, kF 46, kF 69, kF 70, kF 73, kF 74], wkf (subst1 [(900, 10)]) (wS <| wP <| wQI <| by (iterate 15 refine wF ?_); exact wN), ⟨by kernel_rfl, obj_eq (c := rwI 3 []) (by kernel_rfl) (congrArg (fun z => rwI 3 z) (by first | rfl | exact Eq.symm (smR_no hno) | exact Eq.symm (smR_nl hno) | (rw [smR_yes hyes, sgn_end (k := k) (by omega)]; done))), trivial⟩, vo_eq 2 (.a (.sl 900 0 0)) (.a (.sl 900 0 ((smR l).length))) (by kernel_rfl) (congrArg (fun z : Nat => B.a (.sl 900 0 z)) (by first | rfl | exact Eq.symm (smR_no hno) | exact Eq.symm (smR_nl hno) | (rw [smR_yes hyes, sgn_end (k := k) (by omega)]; done)))⟩
 ·skip
  have hyes := so5 c2
  obtain ⟨c4, c5⟩ := or_ff c2
  have c6 : (balB l) = true := by first | (rw [← Bool.not_eq_false']; exact c4) | simpa using c4
  have c7 : (inB (((cellsOf l).length : Nat) : Int) 1 32) = true := by first | (rw [← Bool.not_eq_false']; exact c5) | simpa using c5
  have hyes := so3 (by assumption) c7
  refine sk (sq (rg ?_))
  refine z ?_ (h := fun ν => acts_load_owns (xs := [(.sl 800 0 l.length : A)]) ν qD2_ti_33 rfl (by decide) rfl)
  refine z ?_ (h := fun ν => acts_call1 ν (spec_l16Cells_fn l true (by first | omega | assumption | exact selB_mem (by omega) | (simp; omega))) (ac (ArgV.reg _ _ _ (s := 1) (by simp [isl]) (by first | exact List.take_of_length_le (by simp [isl]) | (simp [isl]; done))) (ac (ArgV.v vc) an)) (ResV.row _ _ _ _ 22))
  refine za (nl (sq (rg ?_)))
  refine z ?_ (h := fun ν => acts_load_owns (xs := [(.sl 800 0 l.length : A)]) ν qD2_ti_33 rfl (by decide) rfl)
  refine z ?_ (h := fun ν => acts_call1 ν (spec_l16Cells_fn l false (by first | omega | assumption | exact selB_mem (by omega) | (simp; omega))) (ac (ArgV.reg _ _ _ (s := 1) (by simp [isl]) (by first | exact List.take_of_length_le (by simp [isl]) | (simp [isl]; done))) (ac (ArgV.v vc) an)) (ResV.row _ _ _ _ 24))
  refine za (nl (sq (sq (rg (zk (nl (bkk ?_)))))))
  refine wp_loop' (fun (k : Nat) => k ≤ (selB l true).length) (fun (k : Nat) => [kS 3 10 0 ((mapT (rowS l) (selB l true) k).length), kS 4 22 0 ((selB l true).length), kS 5 24 0 ((selB l false).length), kI 6 ((k : Nat) : Int), kO 10 28 1 true (rwI 3 (mapT (rowS l) (selB l true) k)), kO 22 49 2 true (pl (csl (selB l true))), kO 24 49 2 true (pl (csl (selB l false))), kO 800 3 1 true (pl (isl l)), kF 1, kF 12, kF 16, kF 17, kF 27, kF 31, kF 34, kF 46, kF 69, kF 70, kF 73, kF 74]) (fun (k : Nat) => (selB l true).length - k) ((0 : Nat)) (by exact (Nat.zero_le _ : 0 ≤ _)) (wkf id (wE (e := (vsl (by first | rfl | (simp; done) | (simp; omega) | omega | (exact congrArg List.length (by first | rfl | omega | exact mapT_zero _ _ | exact Eq.symm (mapT_zero _ _) | (rw [mapT_s (l := selB l true) (k := k) (by omega) rfl, ← row_end' (k := j) (by omega)]; done)))) rfl)) <| wS <| wS <| wE (e := (vint (by first | rfl | omega | exact mapT_zero _ _ | exact Eq.symm (mapT_zero _ _) | (rw [mapT_s (l := selB l true) (k := k) (by omega) rfl, ← row_end' (k := j) (by omega)]; done)))) <| wQI (e := (by first | rfl | omega | exact mapT_zero _ _ | exact Eq.symm (mapT_zero _ _) | (rw [mapT_s (l := selB l true) (k := k) (by omega) rfl, ← row_end' (k := j) (by omega)]; done))) <| wP <| wP <| wP <| by (iterate 12 refine wF ?_); exact wN)) ?_
  rintro k inv8
  replace inv8 : k ≤ (selB l true).length := inv8
  have inv := inv8
  have hsk := mapT_len (rowS l) (selB l true) k
  refine sq (sq (rg (zm (zm ?_))))
  refine z ?_ (h := fun ν => lnS ν qD2_un_45)
  refine z ?_ (h := fun ν => acts_bin ν vt vt (r_lss rfl))
  refine nl ?_
  refine wi (fun c9 => ?_) (fun c9 => ?_)
  ·skip
   have c9P := of_decide_eq_true c9
   refine sk (sq (bkk (sq (rg ?_))))
   refine z ?_ (h := fun ν => b0I (h := 31) ν qD2_un_28 qD2_zi_3)
   refine za (nl (sq (sq (rg (zk (nl (bkk ?_)))))))
   refine wp_loop' (fun (j : Nat) => j ≤ (selB l false).length) (fun (j : Nat) => [kS 3 10 0 ((mapT (rowS l) (selB l true) k).length), kS 4 22 0 ((selB l true).length), kS 5 24 0 ((selB l false).length), kI 6 ((k : Nat) : Int), kS 7 31 0 ((mapT (sgE (gC (selB l true) k)) (selB l false) j).length), kI 8 ((j : Nat) : Int), kO 10 28 1 true (rwI 3 (mapT (rowS l) (selB l true) k)), kO 22 49 2 true (pl (csl (selB l true))), kO 24 49 2 true (pl (csl (selB l false))), kO 31 3 1 true (pl (isl (mapT (sgE (gC (selB l true) k)) (selB l false) j))), kO 800 3 1 true (pl (isl l)), kF 1, kF 12, kF 16, kF 17, kF 27, kF 34, kF 46, kF 69, kF 70, kF 73, kF 74]) (fun (j : Nat) => (selB l false).length - j) ((0 : Nat)) (by exact (Nat.zero_le _ : 0 ≤ _)) (wkf id (wS <| wS <| wS <| wS <| wE (e := (vsl (by first | rfl | (simp; done) | (simp; omega) | omega | (exact congrArg List.length (by first | rfl | omega | exact mapT_zero _ _ | exact Eq.symm (mapT_zero _ _) | (rw [mapT_s (l := selB l false) (k := j) (by omega) (sgE_n (by assumption))]; done) | (rw [mapT_s (l := selB l false) (k := j) (by omega) (sgE_p (by assumption) (by omega))]; done) | (rw [mapT_s (l := selB l false) (k := j) (by omega) (sgE_m (by assumption) (by omega))]; done)))) rfl)) <| wE (e := (vint (by first | rfl | omega | exact mapT_zero _ _ | exact Eq.symm (mapT_zero _ _) | (rw [mapT_s (l := selB l false) (k := j) (by omega) (sgE_n (by assumption))]; done) | (rw [mapT_s (l := selB l false) (k := j) (by omega) (sgE_p (by assumption) (by omega))]; done) | (rw [mapT_s (l := selB l false) (k := j) (by omega) (sgE_m (by assumption) (by omega))]; done)))) <| wQI <| wP <| wP <| wO (e := renob_eq (fun h => h) (congrArg isl (by first | rfl | omega | exact mapT_zero _ _ | exact Eq.symm (mapT_zero _ _) | (rw [mapT_s (l := selB l false) (k := j) (by omega) (sgE_n (by assumption))]; done) | (rw [mapT_s (l := selB l false) (k := j) (by omega) (sgE_p (by assumption) (by omega))]; done) | (rw [mapT_s (l := selB l false) (k := j) (by omega) (sgE_m (by assumption) (by omega))]; done)))) <| wP <| by (iterate 11 refine wF ?_); exact wN)) ?_
   rintro j inv10
   replace inv10 : j ≤ (selB l false).length := inv10
   have inv := inv10
   have hrk := mapT_len (sgE (gC (selB l true) k)) (selB l false) j
   refine sq (sq (rg (zm (zm ?_))))
   refine z ?_ (h := fun ν => lnS ν qD2_un_45)
   refine z ?_ (h := fun ν => acts_bin ν vt vt (r_lss rfl))
   refine nl ?_
   refine wi (fun c11 => ?_) (fun c11 => ?_)
   ·skip
    have c11P := of_decide_eq_true c11
    refine sk (sq (bkk (sq (rg (zk (nl (sq (sq (wp_dr (zdm (zdm ?_)))))))))))
    refine zd ?_ (h := fun ν => ix0 ν qD2_un_45 qD2_sz_49 vt (hlt := (by first | omega | assumption | exact selB_mem (by omega) | (simp; omega))))
    refine zd ?_ (h := fun ν => lC ν qD2_ti_49 (by first | omega | assumption | exact selB_mem (by omega) | (simp; omega)))
    refine zdm (zdm ?_)
    refine zd ?_ (h := fun ν => ix0 ν qD2_un_45 qD2_sz_49 vt (hlt := (by first | omega | assumption | exact selB_mem (by omega) | (simp; omega))))
    refine zd ?_ (h := fun ν => lC ν qD2_ti_49 (by first | omega | assumption | exact selB_mem (by omega) | (simp; omega)))
    refine zd ?_ (h := fun ν => acts_call1 ν (spec_AreNeighbors_fn (gC (selB l true) k) (gC (selB l false) j) ) (ac (ArgV.va va) (ac (ArgV.va va) an)) rv)
    refine dw_nil ?_
    refine wi (b := (nbr (gC (selB l true) k) (gC (selB l false) j))) (fun c12 => ?_) (fun c12 => ?_)
    ·skip
     have hxy := nbr_xy c12
     refine sq (rg (zk (nl (sq ?_))))
     refine wp_join [kB 66 ((decide ((gC (selB l true) k).x = (gC (selB l false) j).x)) && (decide (((gC (selB l true) k).x % 2) = 1))), kS 3 10 0 ((mapT (rowS l) (selB l true) k).length), kS 4 22 0 ((selB l true).length), kS 5 24 0 ((selB l false).length), kI 6 ((k : Nat) : Int), kS 7 31 0 ((mapT (sgE (gC (selB l true) k)) (selB l false) j).length), kI 8 ((j : Nat) : Int), kI 9 1, kO 10 28 1 true (rwI 3 (mapT (rowS l) (selB l true) k)), kO 22 49 2 true (pl (csl (selB l true))), kO 24 49 2 true (pl (csl (selB l false))), kO 31 3 1 true (pl (isl (mapT (sgE (gC (selB l true) k)) (selB l false) j))), kO 800 3 1 true (pl (isl l)), kF 1, kF 12, kF 16, kF 17, kF 27, kF 34, kF 46, kF 69, kF 70, kF 73, kF 74] ?_ ?_
     ·skip
      rcases Bool.eq_false_or_eq_true (decide ((gC (selB l true) k).x = (gC (selB l false) j).x)) with c13 | c13
      ·skip
       have c13P := of_decide_eq_true c13
       refine wp_dr (zdm (zdm ?_))
       refine zd ?_ (h := fun ν => ix0 ν qD2_un_45 qD2_sz_49 vt (hlt := (by first | omega | assumption | exact selB_mem (by omega) | (simp; omega))))
       refine zd ?_ (h := fun ν => acts_field (off' := (k * 2)) ν qD2_fo_49_0 rfl)
       refine zd ?_ (h := fun ν => acts_load_own ν qD2_ti_3 (by exact pl_get (csl_x (k := k) (by first | omega | assumption | exact selB_mem (by omega) | (simp; omega)))))
       refine zdm (zdm ?_)
       refine zd ?_ (h := fun ν => ix0 ν qD2_un_45 qD2_sz_49 vt (hlt := (by first | omega | assumption | exact selB_mem (by omega) | (simp; omega))))
       refine zd ?_ (h := fun ν => acts_field (off' := (j * 2)) ν qD2_fo_49_0 rfl)
       refine zd ?_ (h := fun ν => acts_load_own ν qD2_ti_3 (by exact pl_get (csl_x (k := j) (by first | omega | assumption | exact selB_mem (by omega) | (simp; omega)))))
       refine zd ?_ (h := fun ν => acts_bin ν vt vt (r_eql (c := true) c13))
       refine zdm ?_
       refine zdg ?_ (h := fun ν => step_on rfl rfl (mt ν))
       refine zdg ?_ (h := fun ν => step_on rfl rfl (mt ν))
       refine zdg ?_ (h := fun ν => step_on rfl rfl (ix0 ν qD2_un_45 qD2_sz_49 vt (hlt := (by first | omega | assumption | exact selB_mem (by omega) | (simp; omega)))))
       refine zdg ?_ (h := fun ν => step_on rfl rfl (acts_field (off' := (k * 2)) ν qD2_fo_49_0 rfl))
       refine zdg ?_ (h := fun ν => step_on rfl rfl (acts_load_own ν qD2_ti_3 (by exact pl_get (csl_x (k := k) (by first | omega | assumption | exact selB_mem (by omega) | (simp; omega))))))
       refine zdg ?_ (h := fun ν => step_on rfl rfl (acts_bin ν vt vc (r_rem (c := ((gC (selB l true) k).x % 2)) (by first | omega | assumption | exact selB_mem (by omega) | (simp; omega)) (remI (by first | omega | assumption | exact selB_mem (by omega) | (simp; omega))))))
       refine zdg ?_ (h := fun ν => step_on rfl rfl (acts_bin ν vt vc (r_eql rfl)))
       refine zd ?_ (h := fun ν => acts_pick_t ν vt xt)
       refine dw_nil ?_
       exact ⟨rfl, weak_reads ⟨(by simp only [c13]; first | done | kernel_rfl), (by repeat (first | exact trivial | refine ⟨by kernel_rfl, ?_⟩))⟩⟩
      ·skip
       have c13P := of_decide_eq_false c13
       refine wp_dr (zdm (zdm ?_))
       refine zd ?_ (h := fun ν => ix0 ν qD2_un_45 qD2_sz_49 vt (hlt := (by first | omega | assumption | exact selB_mem (by omega) | (simp; omega))))
       refine zd ?_ (h := fun ν => acts_field (off' := (k * 2)) ν qD2_fo_49_0 rfl)
       refine zd ?_ (h := fun ν => acts_load_own ν qD2_ti_3 (by exact pl_get (csl_x (k := k) (by first | omega | assumption | exact selB_mem (by omega) | (simp; omega)))))
       refine zdm (zdm ?_)
       refine zd ?_ (h := fun ν => ix0 ν qD2_un_45 qD2_sz_49 vt (hlt := (by first | omega | assumption | exact selB_mem (by omega) | (simp; omega))))
       refine zd ?_ (h := fun ν => acts_field (off' := (j * 2)) ν qD2_fo_49_0 rfl)
       refine zd ?_ (h := fun ν => acts_load_own ν qD2_ti_3 (by exact pl_get (csl_x (k := j) (by first | omega | assumption | exact selB_mem (by omega) | (simp; omega)))))
       refine zd ?_ (h := fun ν => acts_bin ν vt vt (r_eql (c := false) c13))
       refine zdm ?_
       refine zdg ?_ (h := fun ν => step_off rfl rfl (by decide) rfl ν)
       refine zdg ?_ (h := fun ν => step_off rfl rfl (by decide) rfl ν)
       refine zdg ?_ (h := fun ν => step_off rfl rfl (by decide) rfl ν)
       refine zdg ?_ (h := fun ν => step_off rfl rfl (by decide) rfl ν)
       refine zdg ?_ (h := fun ν => step_off rfl rfl (by decide) rfl ν)
       refine zdg ?_ (h := fun ν => step_off rfl rfl (by decide) rfl ν)
       refine zdg ?_ (h := fun ν => step_off rfl rfl (by decide) rfl ν)
       refine zd ?_ (h := fun ν => acts_pick_f ν vt xc)
       refine dw_nil ?_
       exact ⟨rfl, weak_reads ⟨(by simp only [c13]; first | done | kernel_rfl), (by repeat (first | exact trivial | refine ⟨by kernel_rfl, ?_⟩))⟩⟩
     refine wi (b := ((decide ((gC (selB l true) k).x = (gC (selB l false) j).x)) && (decide (((gC (selB l true) k).x % 2) = 1)))) (fun c14 => ?_) (fun c14 => ?_)
     ·skip
      obtain ⟨c15, c16⟩ := and_tt c14
      have c15P := of_decide_eq_true c15
      have c16P := of_decide_eq_true c16
      refine rg (zk (nl (rg (zm (zm ?_)))))
      refine z ?_ (h := fun ν => acts_buildSlice' (h := 69) (xs := isl ([(-1)] : List Int)) ν qD2_un_28 qD2_zi_3 (.cons vt OpVs.nil) (by decide) (by decide) (by kernel_rfl) rfl)
      refine z ?_ (h := fun ν => aI_ (h2 := 70) (L3 := ((mapT (sgE (gC (selB l true) k)) (selB l false) j) ++ [(-1)])) ν qD2_un_28 qD2_zi_3 (by first | exact rfl | (simp; done) | (simp; omega) | omega) rfl (by first | exact rfl | (simp; done) | (simp; omega) | omega) (by first | omega | (simp; omega) | (simp at *; omega)))
      refine za (nl (rg (zm ?_)))
      refine z ?_ (h := fun ν => acts_bin ν vt vc (rA (by first | omega | assumption | exact selB_mem (by omega) | (simp; omega)) (by first | omega | assumption | exact selB_mem (by omega) | (simp; omega))))
      refine za (nl ?_)
      exact loop_back ((j + 1)) (by show _ ≤ _; omega) (by show (selB l false).length - (j + 1) < (selB l false).length - j; omega) (wkf (subst1 [(31, 70)]) (wS <| wS <| wS <| wS <| wE (e := (vsl (by first | rfl | (simp; done) | (simp; omega) | omega | (exact congrArg List.length (by first | rfl | omega | exact mapT_zero _ _ | exact Eq.symm (mapT_zero _ _) | (rw [mapT_s (l := selB l false) (k := j) (by omega) (sgE_n (by assumption))]; done) | (rw [mapT_s (l := selB l false) (k := j) (by omega) (sgE_p (by assumption) (by omega))]; done) | (rw [mapT_s (l := selB l false) (k := j) (by omega) (sgE_m (by assumption) (by omega))]; done)))) rfl)) <| wE (e := (vint (by first | rfl | omega | exact mapT_zero _ _ | exact Eq.symm (mapT_zero _ _) | (rw [mapT_s (l := selB l false) (k := j) (by omega) (sgE_n (by assumption))]; done) | (rw [mapT_s (l := selB l false) (k := j) (by omega) (sgE_p (by assumption) (by omega))]; done) | (rw [mapT_s (l := selB l false) (k := j) (by omega) (sgE_m (by assumption) (by omega))]; done)))) <| wQI <| wP <| wP <| wO (e := renob_eq (fun h => h) (congrArg isl (by first | rfl | omega | exact mapT_zero _ _ | exact Eq.symm (mapT_zero _ _) | (rw [mapT_s (l := selB l false) (k := j) (by omega) (sgE_n (by assumption))]; done) | (rw [mapT_s (l := selB l false) (k := j) (by omega) (sgE_p (by assumption) (by omega))]; done) | (rw [mapT_s (l := selB l false) (k := j) (by omega) (sgE_m (by assumption) (by omega))]; done)))) <| wP <| by (iterate 11 refine wF ?_); exact wN))
     ·skip
      have hnand := nand_of c14
      have c17 := and_ff c14
      refine sk (rg (zm (zm ?_)))
      refine z ?_ (h := fun ν => acts_buildSlice' (h := 69) (xs := isl ([1] : List Int)) ν qD2_un_28 qD2_zi_3 (.cons vt OpVs.nil) (by decide) (by decide) (by kernel_rfl) rfl)
      refine z ?_ (h := fun ν => aI_ (h2 := 70) (L3 := ((mapT (sgE (gC (selB l true) k)) (selB l false) j) ++ [1])) ν qD2_un_28 qD2_zi_3 (by first | exact rfl | (simp; done) | (simp; omega) | omega) rfl (by first | exact rfl | (simp; done) | (simp; omega) | omega) (by first | omega | (simp; omega) | (simp at *; omega)))
      refine za (nl (rg (zm ?_)))
      refine z ?_ (h := fun ν => acts_bin ν vt vc (rA (by first | omega | assumption | exact selB_mem (by omega) | (simp; omega)) (by first | omega | assumption | exact selB_mem (by omega) | (simp; omega))))
      refine za (nl ?_)
      exact loop_back ((j + 1)) (by show _ ≤ _; omega) (by show (selB l false).length - (j + 1) < (selB l false).length - j; omega) (wkf (subst1 [(31, 70)]) (wS <| wS <| wS <| wS <| wE (e := (vsl (by first | rfl | (simp; done) | (simp; omega) | omega | (exact congrArg List.length (by first | rfl | omega | exact mapT_zero _ _ | exact Eq.symm (mapT_zero _ _) | (rw [mapT_s (l := selB l false) (k := j) (by omega) (sgE_n (by assumption))]; done) | (rw [mapT_s (l := selB l false) (k := j) (by omega) (sgE_p (by assumption) (by omega))]; done) | (rw [mapT_s (l := selB l false) (k := j) (by omega) (sgE_m (by assumption) (by omega))]; done)))) rfl)) <| wE (e := (vint (by first | rfl | omega | exact mapT_zero _ _ | exact Eq.symm (mapT_zero _ _) | (rw [mapT_s (l := selB l false) (k := j) (by omega) (sgE_n (by assumption))]; done) | (rw [mapT_s (l := selB l false) (k := j) (by omega) (sgE_p (by assumption) (by omega))]; done) | (rw [mapT_s (l := selB l false) (k := j) (by omega) (sgE_m (by assumption) (by omega))]; done)))) <| wQI <| wP <| wP <| wO (e := renob_eq (fun h => h) (congrArg isl (by first | rfl | omega | exact mapT_zero _ _ | exact Eq.symm (mapT_zero _ _) | (rw [mapT_s (l := selB l false) (k := j) (by omega) (sgE_n (by assumption))]; done) | (rw [mapT_s (l := selB l false) (k := j) (by omega) (sgE_p (by assumption) (by omega))]; done) | (rw [mapT_s (l := selB l false) (k := j) (by omega) (sgE_m (by assumption) (by omega))]; done)))) <| wP <| by (iterate 11 refine wF ?_); exact wN))
    ·skip
     refine sk (rg (zm (zm ?_)))
     refine z ?_ (h := fun ν => acts_buildSlice' (h := 69) (xs := isl ([0] : List Int)) ν qD2_un_28 qD2_zi_3 (.cons vt OpVs.nil) (by decide) (by decide) (by kernel_rfl) rfl)
     refine z ?_ (h := fun ν => aI_ (h2 := 70) (L3 := ((mapT (sgE (gC (selB l true) k)) (selB l false) j) ++ [0])) ν qD2_un_28 qD2_zi_3 (by first | exact rfl | (simp; done) | (simp; omega) | omega) rfl (by first | exact rfl | (simp; done) | (simp; omega) | omega) (by first | omega | (simp; omega) | (simp at *; omega)))
     refine za (nl (rg (zm ?_)))
     refine z ?_ (h := fun ν => acts_bin ν vt vc (rA (by first | omega | assumption | exact selB_mem (by omega) | (simp; omega)) (by first | omega | assumption | exact selB_mem (by omega) | (simp; omega))))
     refine za (nl ?_)
     exact loop_back ((j + 1)) (by show _ ≤ _; omega) (by show (selB l false).length - (j + 1) < (selB l false).length - j; omega) (wkf (subst1 [(31, 70)]) (wS <| wS <| wS <| wS <| wE (e := (vsl (by first | rfl | (simp; done) | (simp; omega) | omega | (exact congrArg List.length (by first | rfl | omega | exact mapT_zero _ _ | exact Eq.symm (mapT_zero _ _) | (rw [mapT_s (l := selB l false) (k := j) (by omega) (sgE_n (by assumption))]; done) | (rw [mapT_s (l := selB l false) (k := j) (by omega) (sgE_p (by assumption) (by omega))]; done) | (rw [mapT_s (l := selB l false) (k := j) (by omega) (sgE_m (by assumption) (by omega))]; done)))) rfl)) <| wE (e := (vint (by first | rfl | omega | exact mapT_zero _ _ | exact Eq.symm (mapT_zero _ _) | (rw [mapT_s (l := selB l false) (k := j) (by omega) (sgE_n (by assumption))]; done) | (rw [mapT_s (l := selB l false) (k := j) (by omega) (sgE_p (by assumption) (by omega))]; done) | (rw [mapT_s (l := selB l false) (k := j) (by omega) (sgE_m (by assumption) (by omega))]; done)))) <| wQI <| wP <| wP <| wO (e := renob_eq (fun h => h) (congrArg isl (by first | rfl | omega | exact mapT_zero _ _ | exact Eq.symm (mapT_zero _ _) | (rw [mapT_s (l := selB l false) (k := j) (by omega) (sgE_n (by assumption))]; done) | (rw [mapT_s (l := selB l false) (k := j) (by omega) (sgE_p (by assumption) (by omega))]; done) | (rw [mapT_s (l := selB l false) (k := j) (by omega) (sgE_m (by assumption) (by omega))]; done)))) <| wP <| by (iterate 11 refine wF ?_); exact wN))
   ·skip
    have c11P := of_decide_eq_false c11
    refine wp_exit' (rg (zm (zm ?_)))
    refine z ?_ (h := fun ν => bs1 (h := 73) ν qD2_un_22 qD2_zi_28 (by exact ⟨_, _, _, .inl rfl⟩))
    refine z ?_ (h := fun ν => aQ (h2 := 74) (nm := ((mapT (rowS l) (selB l true) k) ++ [(mapT (sgE (gC (selB l true) k)) (selB l false) j)]).length) ν qD2_un_22 qD2_zi_28 (by exact ⟨_, _, _, .inl rfl⟩) (by simp [rwI_len, rwD_len]) (by first | omega | (simp; omega) | (first | omega | assumption | exact selB_mem (by omega) | (simp; omega))) (by simp))
    refine za (nl ?_)
    refine wp_weak (pkI (h := 74) (h1 := 31) (T := 3) (T0 := 28) (s0 := 1) (ex0 := true) (n := ((mapT (sgE (gC (selB l true) k)) (selB l false) j).length)) (L := (mapT (rowS l) (selB l true) k)) (r := (mapT (sgE (gC (selB l true) k)) (selB l false) j))) ?_
    refine rg (zm ?_)
    refine z ?_ (h := fun ν => acts_bin ν vt vc (rA (by first | omega | assumption | exact selB_mem (by omega) | (simp; omega)) (by first | omega | assumption | exact selB_mem (by omega) | (simp; omega))))
    refine za (nl ?_)
    exact loop_back ((k + 1)) (by show _ ≤ _; omega) (by show (selB l true).length - (k + 1) < (selB l true).length - k; omega) (wkf (subst1 [(10, 74)]) (wE (e := (vsl (by first | rfl | (simp; done) | (simp; omega) | omega | (exact congrArg List.length (by first | rfl | omega | exact mapT_zero _ _ | exact Eq.symm (mapT_zero _ _) | (rw [mapT_s (l := selB l true) (k := k) (by omega) rfl, ← row_end' (k := j) (by omega)]; done)))) rfl)) <| wS <| wS <| wE (e := (vint (by first | rfl | omega | exact mapT_zero _ _ | exact Eq.symm (mapT_zero _ _) | (rw [mapT_s (l := selB l true) (k := k) (by omega) rfl, ← row_end' (k := j) (by omega)]; done)))) <| wQI (e := (by first | rfl | omega | exact mapT_zero _ _ | exact Eq.symm (mapT_zero _ _) | (rw [mapT_s (l := selB l true) (k := k) (by omega) rfl, ← row_end' (k := j) (by omega)]; done))) <| wP <| wP <| wP <| by (iterate 12 refine wF ?_); exact wN))
  ·skip
   have c9P := of_decide_eq_false c9
   refine wp_exit' (sq (rg (zm (za (nl (wp_ret' ?_))))))
   exact ⟨[kS 2 900 0 ((mapT (rowS l) (selB l true) k).length), kO 800 3 1 true (pl (isl l)), kO 900 28 1 true (rwI 3 (mapT (rowS l) (selB l true) k)), kF 1, kF 10, kF 12, kF 16, kF 17, kF 22, kF 24, kF 27, kF 31, kF 34, kF 46, kF 69, kF 70, kF 73, kF 74], wkf (subst1 [(900, 10)]) (wS <| wP <| wQI <| by (iterate 15 refine wF ?_); exact wN), ⟨by kernel_rfl, obj_eq (c := rwI 3 (mapT (rowS l) (selB l true) k)) (by kernel_rfl) (congrArg (fun z => rwI 3 z) (by first | rfl | exact Eq.symm (smR_no hno) | exact Eq.symm (smR_nl hno) | (rw [smR_yes hyes, sgn_end (k := k) (by omega)]; done))), trivial⟩, vo_eq 2 (.a (.sl 900 0 ((mapT (rowS l) (selB l true) k).length))) (.a (.sl 900 0 ((smR l).length))) (by kernel_rfl) (congrArg (fun z : Nat => B.a (.sl 900 0 z)) (by first | rfl | exact Eq.symm (smR_no hno) | exact Eq.symm (smR_nl hno) | (rw [smR_yes hyes, sgn_end (k := k) (by omega)]; done)))⟩
end Cl
end Go.Proofs.Ythnaalmoedjjkaa
