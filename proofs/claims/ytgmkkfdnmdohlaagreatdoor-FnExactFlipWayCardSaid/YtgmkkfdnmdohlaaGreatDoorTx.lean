/- Walks over clean states, printed by wg.py. No statement is proved here. -/
import Derived.Test.YtgmkkfdnmdohlaaGreatDoorClC
import Derived.Test.YtgmkkfdnmdohlaaGreatDoorShelf
import Derived.Test.YtgmkkfdnmdohlaaGreatDoorC3w
import Derived.Test.YtgmkkfdnmdohlaaGreatDoorClB
set_option linter.unusedSimpArgs false
set_option linter.unusedVariables false
namespace Go.Proofs.YtgmkkfdnmdohlaaGreatDoor
namespace Cl
open Go.ChangeShapes Go.WideShapes Go.ChangeAt Go.RowKit
set_option maxRecDepth 20000
/-- a domino's text, a tiling's text -/
def dT (d : Dom) : List UInt8 := [UInt8.ofNat (48 + d.x.toNat), 44, UInt8.ofNat (48 + d.y.toNat), if d.d then 100 else 114]
def tT (l : List Dom) : List UInt8 := Lib.join (l.map dT) [32]
def dBd (d : Dom) : Prop := 0 ≤ d.x ∧ d.x ≤ 7 ∧ 0 ≤ d.y ∧ d.y ≤ 7
theorem dig_inj {a b : Nat} (ha : a ≤ 7) (hb : b ≤ 7) (h : UInt8.ofNat (48 + a) = UInt8.ofNat (48 + b)) : a = b := by
  have := congrArg UInt8.toNat h
  simp only [UInt8.toNat_ofNat'] at this
  omega
theorem dT_inj {d e : Dom} (hd : dBd d) (he : dBd e) (h : dT d = dT e) : d = e := by
  obtain ⟨x, y, b⟩ := d; obtain ⟨x', y', b'⟩ := e
  unfold dBd at hd he
  simp only [dT, List.cons.injEq, and_true, true_and] at h hd he
  obtain ⟨h1, h2, h3⟩ := h
  have e1 := dig_inj (by omega) (by omega) h1
  have e2 := dig_inj (by omega) (by omega) h2
  have e3 : b = b' := by cases b <;> cases b' <;> first | rfl | (simp at h3)
  have : x = x' := by omega
  have : y = y' := by omega
  subst_vars; rfl
theorem tT_nil : tT [] = [] := rfl
theorem tT_one (d : Dom) : tT [d] = dT d := by simp [tT, Lib.join_one]
theorem tT_two (d e : Dom) (l : List Dom) : tT (d :: e :: l) = dT d ++ 32 :: tT (e :: l) := by
  simp [tT, Lib.join, List.intercalate]
theorem tT_inj : ∀ {l m : List Dom}, (∀ d ∈ l, dBd d) → (∀ d ∈ m, dBd d) → tT l = tT m → l = m
  | [], [], _, _, _ => rfl
  | [], [d], _, _, h => by rw [tT_nil, tT_one] at h; simp [dT] at h
  | [], d :: e :: m, _, _, h => by rw [tT_nil, tT_two] at h; simp [dT] at h
  | [d], [], _, _, h => by rw [tT_nil, tT_one] at h; simp [dT] at h
  | d :: e :: l, [], _, _, h => by rw [tT_nil, tT_two] at h; simp [dT] at h
  | [d], [e], hl, hm, h => by
    rw [tT_one, tT_one] at h
    rw [dT_inj (hl d (by simp)) (hm e (by simp)) h]
  | [d], e :: f :: m, _, _, h => by
    rw [tT_one, tT_two] at h
    have := congrArg List.length h
    simp [dT] at this
  | d :: f :: l, [e], _, _, h => by
    rw [tT_one, tT_two] at h
    have := congrArg List.length h
    simp [dT] at this
  | d :: f :: l, e :: g :: m, hl, hm, h => by
    rw [tT_two, tT_two] at h
    have h' : dT d = dT e ∧ tT (f :: l) = tT (g :: m) := by
      simp only [dT, List.cons_append, List.nil_append, List.cons.injEq, true_and] at h ⊢
      exact ⟨⟨h.1, h.2.1, h.2.2.1, trivial⟩, h.2.2.2⟩
    rw [dT_inj (hl d (by simp)) (hm e (by simp)) h'.1, tT_inj (fun x hx => hl x (List.mem_cons_of_mem _ hx)) (fun x hx => hm x (List.mem_cons_of_mem _ hx)) h'.2]
theorem tT_len : ∀ l : List Dom, (tT l).length ≤ 5 * l.length
  | [] => by simp [tT_nil]
  | [d] => by rw [tT_one]; simp [dT]
  | d :: e :: l => by
    have := tT_len (e :: l)
    rw [tT_two]; simp [dT] at this ⊢; omega


theorem dec1 {n : Int} (h1 : n ≤ 7) : Lib.decDigits n.toNat = [UInt8.ofNat (48 + n.toNat)] := by
  rw [Lib.decDigits, dif_pos (by omega)]
theorem dec1_len {n : Int} (h1 : n ≤ 7) : (Lib.decDigits n.toNat).length = 1 := by rw [dec1 h1]; rfl
theorem okD_dBd {d : Dom} (h : okD d = true) : dBd d := by have := okD_bd h; unfold dBd; omega
theorem dT_t {d : Dom} (h : okD d = true) (hd : d.d = true) : (((Lib.decDigits d.x.toNat ++ [44]) ++ Lib.decDigits d.y.toNat) ++ [100]) = dT d := by
  have := okD_bd h
  rw [dec1 (by omega), dec1 (by omega), dT, hd]; rfl
theorem dT_f {d : Dom} (h : okD d = true) (hd : d.d = false) : (((Lib.decDigits d.x.toNat ++ [44]) ++ Lib.decDigits d.y.toNat) ++ [114]) = dT d := by
  have := okD_bd h
  rw [dec1 (by omega), dec1 (by omega), dT, hd]; rfl
def tTk (l : List Dom) (k : Nat) : List (List UInt8) := (l.take k).map dT
theorem tTk_snoc {l : List Dom} {k : Nat} (h : k < l.length) : tTk l k ++ [dT (gD l k)] = tTk l (k + 1) := by
  unfold tTk; rw [List.take_succ_eq_append_getElem h, List.map_append, gD_eq h]; rfl
theorem tTk_len {l : List Dom} {k : Nat} (h : k ≤ l.length) : (tTk l k).length = k := by unfold tTk; rw [List.length_map, List.length_take]; omega
theorem tTk_end {l : List Dom} {k : Nat} (h : ¬ k < l.length) : Lib.join (tTk l k) [32] = tT l := by unfold tTk tT; rw [List.take_of_length_le (by omega)]
theorem tTk_jlen {l : List Dom} {k : Nat} (h : ¬ k < l.length) (hl : l.length ≤ 64) : (Lib.join (tTk l k) [32]).length ≤ 140737488355328 := by
  rw [tTk_end h]; have := tT_len l; omega


theorem strconv_Itoa_fn (n : Int) (h0 : 0 ≤ n) (h1 : n < 100) : Fn Tryz.prog 123 [.a (.val (.int .i64 n))] [.val (.string ⟨(Lib.decDigits n.toNat).toArray⟩)] :=
  fn_itoa ⟨_, Tryz.func123, by kernel_rfl, by kernel_rfl⟩ (fun i hi w => sh_strconv_Itoa_small i hi w) h0 h1


theorem strings_Join_fn (L : List (List UInt8)) (p : List UInt8) (hl : L.length ≤ 140737488355328) (hj : (Lib.join L p).length ≤ 140737488355328) : Fn Tryz.prog 95 [.a (.slv L.length 1 (tsl L)), .a (.val (.string ⟨p.toArray⟩))] [.val (.string ⟨(Lib.join L p).toArray⟩)] :=
  fn_joinT ⟨_, Tryz.func95, by kernel_rfl, by kernel_rfl⟩ (fun a c sep w => sh_strings_Join_none a c sep w) (fun bk o c xs sep w h1 h2 h3 h4 h5 => sh_strings_Join bk o c xs sep w h1 h2 h3 h4 h5) L p hl hj

theorem qTx_fo_62_0 : fieldOff Tryz.prog 62 0 = some 0 := by kernel_rfl
theorem qTx_fo_62_1 : fieldOff Tryz.prog 62 1 = some 1 := by kernel_rfl
theorem qTx_fo_62_2 : fieldOff Tryz.prog 62 2 = some 2 := by kernel_rfl
theorem qTx_sz_62 : (Tryz.prog.info? 62).map (·.size) = some 3 := by kernel_rfl
theorem qTx_ti_3 : TI Tryz.prog 3 false 1 := ⟨⟨_, Tryz.underlying3, rfl⟩, by kernel_rfl⟩
theorem qTx_ti_4 : TI Tryz.prog 4 false 1 := ⟨⟨_, Tryz.underlying4, rfl⟩, by kernel_rfl⟩
theorem qTx_ti_62 : TI Tryz.prog 62 true 3 := ⟨⟨_, Tryz.underlying62, rfl⟩, by kernel_rfl⟩
theorem qTx_un_113 : Tryz.prog.underlying 113 = some (.slice 9) := Tryz.underlying113
theorem qTx_un_31 : Tryz.prog.underlying 31 = some (.slice 62) := Tryz.underlying31
theorem qTx_zi_62 : ZI Tryz.prog 62 (.agg #[.int .i64 0, .int .i64 0, .bool false]) 3 24 := by unfold ZI; kernel_rfl
theorem qTx_zi_9 : ZI Tryz.prog 9 (.string ⟨([] : List UInt8).toArray⟩) 1 16 := by unfold ZI; kernel_rfl
set_option maxHeartbeats 4000000 in
set_option maxRecDepth 100000 in
theorem impl_FormatInt_fn (n : Int) (h0 : 0 ≤ n) (h1 : n < 100) : Fn Tryz.prog 114 [.a (.val (.int .i64 n))] [.val (.string ⟨(Lib.decDigits (n).toNat).toArray⟩)] := by
 refine fn_intro (N := 5) Tryz.func114 rfl (by kernel_rfl) rfl (Nat.le_of_ble_eq_true rfl) [4] (ret1 rfl) (fun W => ?_)
 show Wp _ _ _ [kI 0 n, kF 4]
 refine sq (rg (zk (nl (sq (rg (zm ?_))))))
 refine z ?_ (h := fun ν => acts_call1 ν (strconv_Itoa_fn n (by omega) (by omega)) (ac (ArgV.v vt) an) rv)
 refine za (nl (wp_ret' ?_))
 exact VRes.tmp _ _ _ (by exact rfl) (BRes.val _)

set_option maxHeartbeats 4000000 in
set_option maxRecDepth 100000 in
theorem impl_DominoText_fn (d : Dom) (ho : okD d = true) : Fn Tryz.prog 94 [.agg ([vI d.x, vI d.y, .bool d.d].map A.val)] [.val (.string ⟨(dT d).toArray⟩)] := by
 have hq := okD_bd ho
 have hx1 := dec1_len (n := d.x) (by omega)
 have hy1 := dec1_len (n := d.y) (by omega)
 refine fn_intro (N := 26) Tryz.func94 rfl (by kernel_rfl) rfl (Nat.le_of_ble_eq_true rfl) [1, 4, 10, 14, 19, 23] (ret1 rfl) (fun W => ?_)
 show Wp _ _ _ [kV 0 (V.av [vI d.x, vI d.y, .bool d.d]), kF 1, kF 4, kF 10, kF 14, kF 19, kF 23]
 refine sq (rg ?_)
 refine z ?_ (h := fun ν => acts_box (h := 1) ν xt (by exact ob1 rfl))
 refine zk (nl (sq (sq (rg ?_))))
 refine z ?_ (h := fun ν => acts_load_owns (xs := [vI d.x, vI d.y, .bool d.d].map A.val) ν qTx_ti_62 rfl (by decide) rfl)
 refine z ?_ (h := fun ν => acts_call1 ν (impl_DominoOk_fn d ) (ac (ArgV.va va) an) (resval (congrArg Value.bool ho)))
 refine z ?_ (h := fun ν => acts_un ν vt (r_not (c := false) rfl))
 refine nl (wf (sk (sq (sq (rg ?_)))))
 refine z ?_ (h := fun ν => acts_field (off' := 2) ν qTx_fo_62_2 rfl)
 refine z ?_ (h := fun ν => acts_load_own (x := .val (.bool d.d)) ν qTx_ti_4 (by exact rfl))
 refine nl ?_
 refine wi (b := d.d) (fun c1 => ?_) (fun c1 => ?_)
 ·skip
  refine sq (wp_dr ?_)
  refine zd ?_ (h := fun ν => acts_field (off' := 0) ν qTx_fo_62_0 rfl)
  refine zd ?_ (h := fun ν => acts_load_own (x := .val (.int .i64 d.x)) ν qTx_ti_3 (by exact rfl))
  refine zd ?_ (h := fun ν => acts_call1 ν (impl_FormatInt_fn d.x (by first | omega | (simp only [List.length_append, List.length_cons, List.length_nil, maxLen]; omega)) (by first | omega | (simp only [List.length_append, List.length_cons, List.length_nil, maxLen]; omega))) (ac (ArgV.v vt) an) rv)
  refine zd ?_ (h := fun ν => acts_catL (s := (Lib.decDigits (d.x).toNat)) (t := [44]) (r := ((Lib.decDigits (d.x).toNat) ++ [44])) ν vt vc rfl (by first | omega | (simp only [List.length_append, List.length_cons, List.length_nil, maxLen]; omega)))
  refine zd ?_ (h := fun ν => acts_field (off' := 1) ν qTx_fo_62_1 rfl)
  refine zd ?_ (h := fun ν => acts_load_own (x := .val (.int .i64 d.y)) ν qTx_ti_3 (by exact rfl))
  refine zd ?_ (h := fun ν => acts_call1 ν (impl_FormatInt_fn d.y (by first | omega | (simp only [List.length_append, List.length_cons, List.length_nil, maxLen]; omega)) (by first | omega | (simp only [List.length_append, List.length_cons, List.length_nil, maxLen]; omega))) (ac (ArgV.v vt) an) rv)
  refine zd ?_ (h := fun ν => acts_catL (s := ((Lib.decDigits (d.x).toNat) ++ [44])) (t := (Lib.decDigits (d.y).toNat)) (r := (((Lib.decDigits (d.x).toNat) ++ [44]) ++ (Lib.decDigits (d.y).toNat))) ν vt vt rfl (by first | omega | (simp only [List.length_append, List.length_cons, List.length_nil, maxLen]; omega)))
  refine zd ?_ (h := fun ν => acts_catL (s := (((Lib.decDigits (d.x).toNat) ++ [44]) ++ (Lib.decDigits (d.y).toNat))) (t := [100]) (r := ((((Lib.decDigits (d.x).toNat) ++ [44]) ++ (Lib.decDigits (d.y).toNat)) ++ [100])) ν vt vc rfl (by first | omega | (simp only [List.length_append, List.length_cons, List.length_nil, maxLen]; omega)))
  refine zd ?_ (h := fun ν => gt ν)
  refine dw_nil (wp_ret' ?_)
  exact VRes.tmp _ _ _ (by exact rfl) (bval (congrArg (fun z : List UInt8 => Value.string ⟨z.toArray⟩) (by first | exact dT_t ho (by assumption) | exact dT_f ho (by assumption))))
 ·skip
  refine sk (sq (wp_dr ?_))
  refine zd ?_ (h := fun ν => acts_field (off' := 0) ν qTx_fo_62_0 rfl)
  refine zd ?_ (h := fun ν => acts_load_own (x := .val (.int .i64 d.x)) ν qTx_ti_3 (by exact rfl))
  refine zd ?_ (h := fun ν => acts_call1 ν (impl_FormatInt_fn d.x (by first | omega | (simp only [List.length_append, List.length_cons, List.length_nil, maxLen]; omega)) (by first | omega | (simp only [List.length_append, List.length_cons, List.length_nil, maxLen]; omega))) (ac (ArgV.v vt) an) rv)
  refine zd ?_ (h := fun ν => acts_catL (s := (Lib.decDigits (d.x).toNat)) (t := [44]) (r := ((Lib.decDigits (d.x).toNat) ++ [44])) ν vt vc rfl (by first | omega | (simp only [List.length_append, List.length_cons, List.length_nil, maxLen]; omega)))
  refine zd ?_ (h := fun ν => acts_field (off' := 1) ν qTx_fo_62_1 rfl)
  refine zd ?_ (h := fun ν => acts_load_own (x := .val (.int .i64 d.y)) ν qTx_ti_3 (by exact rfl))
  refine zd ?_ (h := fun ν => acts_call1 ν (impl_FormatInt_fn d.y (by first | omega | (simp only [List.length_append, List.length_cons, List.length_nil, maxLen]; omega)) (by first | omega | (simp only [List.length_append, List.length_cons, List.length_nil, maxLen]; omega))) (ac (ArgV.v vt) an) rv)
  refine zd ?_ (h := fun ν => acts_catL (s := ((Lib.decDigits (d.x).toNat) ++ [44])) (t := (Lib.decDigits (d.y).toNat)) (r := (((Lib.decDigits (d.x).toNat) ++ [44]) ++ (Lib.decDigits (d.y).toNat))) ν vt vt rfl (by first | omega | (simp only [List.length_append, List.length_cons, List.length_nil, maxLen]; omega)))
  refine zd ?_ (h := fun ν => acts_catL (s := (((Lib.decDigits (d.x).toNat) ++ [44]) ++ (Lib.decDigits (d.y).toNat))) (t := [114]) (r := ((((Lib.decDigits (d.x).toNat) ++ [44]) ++ (Lib.decDigits (d.y).toNat)) ++ [114])) ν vt vc rfl (by first | omega | (simp only [List.length_append, List.length_cons, List.length_nil, maxLen]; omega)))
  refine zd ?_ (h := fun ν => gt ν)
  refine dw_nil (wp_ret' ?_)
  exact VRes.tmp _ _ _ (by exact rfl) (bval (congrArg (fun z : List UInt8 => Value.string ⟨z.toArray⟩) (by first | exact dT_t ho (by assumption) | exact dT_f ho (by assumption))))

set_option maxHeartbeats 4000000 in
set_option maxRecDepth 100000 in
theorem impl_TilingText_fn (l : List Dom) (ho : ∀ d ∈ l, okD d = true) (hl : l.length ≤ 64) : Fn Tryz.prog 67 [.a (.slv l.length 3 (dsl l))] [.val (.string ⟨(tT l).toArray⟩)] := by
 refine fn_intro (N := 24) Tryz.func67 rfl (by kernel_rfl) rfl (Nat.le_of_ble_eq_true rfl) [5, 6, 8, 14, 18, 19, 20, 23] (ret1 rfl) (fun W => ?_)
 show Wp _ _ _ [kV 0 (V.b (.a (.slv l.length 3 (dsl l)))), kF 5, kF 6, kF 8, kF 14, kF 18, kF 19, kF 20, kF 23]
 refine sq (rg (zk (nl (sq (rg ?_)))))
 refine z ?_ (h := fun ν => b0T (h := 6) ν qTx_un_113 qTx_zi_9)
 refine za (nl (sq (sq (rg (zm ?_)))))
 refine z ?_ (h := fun ν => lnV ν qTx_un_31)
 refine z ?_ (h := fun ν => mc ν)
 refine nl (bkk ?_)
 refine wp_loop' (fun (k : Nat) => k ≤ l.length) (fun (k : Nat) => [kS 3 6 0 ((tTk l k).length), kV 7 (V.b (.a (.slv l.length 3 (dsl l)))), kI 8 ((l.length : Nat) : Int), kI 9 ((k : Nat) : Int), kO 6 9 1 true (pl (tsl (tTk l k))), kF 5, kF 8, kF 14, kF 18, kF 19, kF 20, kF 23]) (fun (k : Nat) => l.length - k) ((0 : Nat)) (by exact (Nat.zero_le _ : 0 ≤ _)) (wkf id (wE (e := (vsl (by first | rfl | (simp; done) | (simp; omega) | omega | (exact congrArg List.length (by first | rfl | omega | exact tTk_snoc (by omega) | exact Eq.symm (tTk_snoc (by omega))))) rfl)) <| wS <| wS <| wE (e := (vint (by first | rfl | omega | exact tTk_snoc (by omega) | exact Eq.symm (tTk_snoc (by omega))))) <| wO (e := renob_eq (fun h => h) (congrArg tsl (by first | rfl | omega | exact tTk_snoc (by omega) | exact Eq.symm (tTk_snoc (by omega))))) <| wF <| wF <| wF <| wF <| wF <| wF <| wF <| wN)) ?_
 rintro k inv1
 replace inv1 : k ≤ l.length := inv1
 have hk := inv1
 have htl := tTk_len hk
 refine sq (rg ?_)
 refine z ?_ (h := fun ν => acts_bin ν vt vt (r_lss rfl))
 refine nl (sq ?_)
 refine wi (fun c2 => ?_) (fun c2 => ?_)
 ·skip
  have c2P := of_decide_eq_true c2
  have hok : okD (gD l k) = true := ho _ (gD_mem (by omega))
  refine sk (sq (bkk (sq (rg ?_))))
  refine z ?_ (h := fun ν => ixv ν qTx_un_31 qTx_sz_62 vt (hlt := (by first | omega | assumption | exact tTk_jlen (by omega) hl)))
  refine z ?_ (h := fun ν => uD ν qTx_ti_62 (by first | omega | assumption | exact tTk_jlen (by omega) hl))
  refine z ?_ (h := fun ν => acts_alloc' (h := 5) (cap := 1) (s := 3) (cells := [aI 0, aI 0, aB false]) ν qTx_zi_62 rfl rfl (by decide))
  refine z ?_ (h := fun _ => acts_store (cells := [aI ((gD l k).x), aI ((gD l k).y), aB ((gD l k).d)]) qTx_ti_62 xt (by exact rfl) (by decide) (by exact ob1 rfl) (by exact Nat.le_of_ble_eq_true rfl) (by exact rfl))
  refine nl (sq (sq (rg ?_)))
  refine z ?_ (h := fun ν => acts_load_owns (xs := [vI ((gD l k).x), vI ((gD l k).y), .bool ((gD l k).d)].map A.val) ν qTx_ti_62 rfl (by decide) rfl)
  refine z ?_ (h := fun ν => acts_call1 ν (impl_DominoOk_fn (gD l k) ) (ac (ArgV.va va) an) (resval (congrArg Value.bool hok)))
  refine z ?_ (h := fun ν => acts_un ν vt (r_not (c := false) rfl))
  refine nl (wf (sk (rg (zm ?_))))
  refine z ?_ (h := fun ν => acts_load_owns (xs := [vI ((gD l k).x), vI ((gD l k).y), .bool ((gD l k).d)].map A.val) ν qTx_ti_62 rfl (by decide) rfl)
  refine z ?_ (h := fun ν => acts_call1 ν (impl_DominoText_fn (gD l k) (by first | omega | assumption | exact tTk_jlen (by omega) hl)) (ac (ArgV.va va) an) rv)
  refine z ?_ (h := fun ν => acts_buildSlice' (h := 19) (xs := tsl ([(dT (gD l k))] : List (List UInt8))) ν qTx_un_113 qTx_zi_9 (.cons vt OpVs.nil) (by decide) (by decide) (by kernel_rfl) rfl)
  refine z ?_ (h := fun ν => aT_ (h2 := 20) (L3 := ((tTk l k) ++ [(dT (gD l k))])) ν qTx_un_113 qTx_zi_9 (by first | exact rfl | (simp; done) | (simp; omega) | omega) rfl (by first | exact rfl | (simp; done) | (simp; omega) | omega) (by first | omega | (simp; omega) | (simp at *; omega)))
  refine za (nl (rg ?_))
  refine z ?_ (h := fun ν => acts_bin ν vt vc (rA (by first | omega | assumption | exact tTk_jlen (by omega) hl) (by first | omega | assumption | exact tTk_jlen (by omega) hl)))
  refine zm (nl ?_)
  exact loop_back ((k + 1)) (by show _ ≤ _; omega) (by show l.length - (k + 1) < l.length - k; omega) (wkf (subst1 [(6, 20)]) (wE (e := (vsl (by first | rfl | (simp; done) | (simp; omega) | omega | (exact congrArg List.length (by first | rfl | omega | exact tTk_snoc (by omega) | exact Eq.symm (tTk_snoc (by omega))))) rfl)) <| wS <| wS <| wE (e := (vint (by first | rfl | omega | exact tTk_snoc (by omega) | exact Eq.symm (tTk_snoc (by omega))))) <| wO (e := renob_eq (fun h => h) (congrArg tsl (by first | rfl | omega | exact tTk_snoc (by omega) | exact Eq.symm (tTk_snoc (by omega))))) <| wF <| wF <| wF <| wF <| wF <| wF <| wF <| wN))
 ·skip
  have c2P := of_decide_eq_false c2
  refine wp_exit' (sq (rg (zm ?_)))
  refine z ?_ (h := fun ν => acts_call1 ν (strings_Join_fn (tTk l k) [32] (by first | omega | assumption | exact tTk_jlen (by omega) hl) (by first | omega | assumption | exact tTk_jlen (by omega) hl)) (ac (argv_own (by first | exact tsl_len _ | (simp [isl_len, bsl_len, dsl_len, csl_len]; done) | (simp [isl_len, bsl_len, dsl_len, csl_len]; omega))) (ac (ArgV.v vc) an)) rv)
  refine za (nl (wp_ret' ?_))
  exact VRes.tmp _ _ _ (by exact rfl) (bval (congrArg (fun z : List UInt8 => Value.string ⟨z.toArray⟩) (by exact tTk_end (by omega))))
end Cl
end Go.Proofs.YtgmkkfdnmdohlaaGreatDoor
