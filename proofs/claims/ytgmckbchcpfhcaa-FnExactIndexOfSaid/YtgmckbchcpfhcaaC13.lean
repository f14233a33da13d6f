/- Walks over clean states, printed by wg.py. No statement is proved here. -/
import Derived.Test.YtgmckbchcpfhcaaC11
import Derived.Test.YtgmckbchcpfhcaaC12
import Derived.Test.YtgmckbchcpfhcaaC3w
import Derived.Test.YtgmckbchcpfhcaaCl24
namespace Go.Proofs.Ytgmckbchcpfhcaa
namespace Cl
open Go.ChangeShapes Go.WideShapes Go.ChangeAt Go.RowKit
set_option maxRecDepth 20000

theorem cntR_yes {l : List Int} (h : regOk l = true) : cntR l = cnt (regSet l) := by unfold cntR; rw [if_pos h]
theorem cntR_no {l : List Int} (h : regOk l = false) : cntR l = 0 := by unfold cntR; rw [h]; rfl
theorem cntW_yes {l : List Int} {d : Dom} (h : regOk l = true) (h2 : fitD (regSet l) d = true) : cntW l d = cnt (andn (regSet l) (domS d)) := by unfold cntW; rw [h, h2]; rfl
theorem cntW_no1 {l : List Int} {d : Dom} (h : regOk l = false) : cntW l d = 0 := by unfold cntW; rw [h]; rfl
theorem cntW_no2 {l : List Int} {d : Dom} (h : okD d = false) : cntW l d = 0 := by unfold cntW fitD; rw [h]; simp
theorem cntW_no3 {l : List Int} {d : Dom} (h : ¬ regSet l &&& domS d = domS d) : cntW l d = 0 := by unfold cntW fitD; simp [h]
theorem cntW_no4 {l : List Int} {d : Dom} (h : hasC l (ca d) = false ∨ hasC l (cb d) = false) : cntW l d = 0 := by
  unfold cntW
  rw [if_neg]
  rw [Bool.and_eq_true]
  rintro ⟨h1, h2⟩
  obtain ⟨h3, h4, h5⟩ := fit_ok h2
  unfold hasC at h
  rw [h1, h4, h5, ok_ca h3, ok_cb h3] at h
  simp at h
theorem fit_hasC {l : List Int} {d : Dom} (ho : okD d = true) (h1 : hasC l (ca d) = true) (h2 : hasC l (cb d) = true) : regOk l = true ∧ fitD (regSet l) d = true := by
  have hr := hasC_reg h1
  unfold hasC at h1 h2
  simp only [Bool.and_eq_true] at h1 h2
  refine ⟨hr, ?_⟩
  unfold fitD; rw [fit_bits, ho, h1.2.2, h2.2.2]; rfl
theorem nat_ne {a b : Nat} (h : ((a : Nat) : Int) ≠ (b : Int)) : ¬ a = b := fun e => h (by rw [e])
theorem nat_eq {a b : Nat} (h : ¬ ((a : Nat) : Int) ≠ (b : Int)) : a = b := by omega
def gD0 : Int := 0
def padP (l : List Int) (p : Nat) : List Int := l ++ List.replicate p 0
theorem pad_add (l : List Int) (p : Nat) : padP l p ++ [0] = padP l (p + 1) := by unfold padP; rw [List.append_assoc, List.replicate_succ']
theorem pad_zero (l : List Int) : l = padP l 0 := by unfold padP; simp
theorem pad_len (l : List Int) (p : Nat) : (padP l p).length = l.length + p := by unfold padP; simp
theorem pad_end {l : List Int} {p : Nat} (h8 : l.length + p ≤ 8) (h : ¬ ((((padP l p).length : Nat) : Int) < 8)) : padP l p = padR l := by
  have : p = 8 - l.length := by rw [pad_len] at h; omega
  subst this; rfl
theorem gI_padp {l : List Int} (p k : Nat) : gI (padP l p) k = gI l k := by
  unfold gI padP
  rw [List.getD_eq_getElem?_getD, List.getD_eq_getElem?_getD, List.getElem?_append]
  split
  · rfl
  · rename_i h
    rw [List.getElem?_replicate, List.getElem?_eq_none (by omega)]
    split <;> rfl
theorem or_bd {a x : Nat} (ha : a < 256) (hx : x < 8) : (a ||| 2 ^ x) < 256 := or_lt ha hx
theorem pow_or (a x : Nat) : 2 ^ x ≤ a ||| 2 ^ x := Nat.right_le_or
theorem delL_end {l : List Int} {p : Nat} {c : Cel} (ho : regOk l = true) (hc : okc c.x c.y = true) (h8 : l.length + p ≤ 8) (h : ¬ ((((padP l p).length : Nat) : Int) < 8)) :
    ((padP l p).set c.y.toNat (((gI (padP l p) c.y.toNat).toNat ||| 2 ^ c.x.toNat : Nat) : Int)).set c.y.toNat (gI ((padP l p).set c.y.toNat (((gI (padP l p) c.y.toNat).toNat ||| 2 ^ c.x.toNat : Nat) : Int)) c.y.toNat - ((2 ^ c.x.toNat : Nat) : Int)) = delL l c := by
  have hq := okc_true.1 hc
  rw [pad_end h8 h, gI_set (by rw [padR_len (regOk_true ho).1]; omega), if_pos rfl, List.set_set]
  rfl
theorem gcd_step (x y : Nat) : Nat.gcd y (x % y) = Nat.gcd x y := by
  rw [Nat.gcd_comm y (x % y), ← Nat.gcd_rec y x, Nat.gcd_comm]

theorem qC13_ti_28 : TI Try.prog 28 true 1 := ⟨⟨_, Try.underlying28, rfl⟩, by kernel_rfl⟩
set_option maxHeartbeats 4000000 in
set_option maxRecDepth 100000 in
theorem impl_CountTilings_fn (l : List Int) (hl : l.length ≤ 4194304) : Fn Try.prog 32 [.agg [(.slv l.length 1 (isl l) : A)]] [.val (.int .i64 (((cntR l) : Nat) : Int))] := by
 refine fn_intro (N := 9) Try.func32 rfl (by kernel_rfl) rfl (Nat.le_of_ble_eq_true rfl) [1, 4, 7, 8] (ret1 rfl) (fun W => ?_)
 show Wp _ _ _ [kV 0 (V.b (.agg [(.slv l.length 1 (isl l) : A)])), kF 1, kF 4, kF 7, kF 8]
 refine sq (rg ?_)
 refine z ?_ (h := fun ν => acts_box (h := 1) ν xt (by exact ob1 rfl))
 refine zk (nl (sq (sq (rg ?_))))
 refine z ?_ (h := fun ν => acts_load_owns (xs := [(.slv l.length 1 (isl l) : A)]) ν qC13_ti_28 rfl (by decide) rfl)
 refine z ?_ (h := fun ν => acts_call1 ν (impl_RegionOk_fn l (by first | omega | assumption | exact regSet_lt (by assumption))) (ac (ArgV.regv _ _ 1 _) an) rv)
 refine z ?_ (h := fun ν => acts_un ν vt (r_not rfl))
 refine nl ?_
 refine wi (b := (!(regOk l))) (fun c1 => ?_) (fun c1 => ?_)
 ·skip
  have c2 : (regOk l) = false := by first | (rw [← Bool.not_eq_true']; exact c1) | simpa using c1
  refine sq (rg (zk (nl (wp_ret' ?_))))
  exact VRes.tmp _ _ _ (by exact rfl) (bval (congrArg (Value.int .i64) (by first | (rw [cntR_no (by assumption)]; rfl) | rw [cntR_yes (by assumption)])))
 ·skip
  have c3 : (regOk l) = true := by first | (rw [← Bool.not_eq_false']; exact c1) | simpa using c1
  refine sk (sq (rg ?_))
  refine z ?_ (h := fun ν => acts_load_owns (xs := [(.slv l.length 1 (isl l) : A)]) ν qC13_ti_28 rfl (by decide) rfl)
  refine z ?_ (h := fun ν => acts_call1 ν (impl_Region__set_fn l (by first | omega | assumption | exact regSet_lt (by assumption))) (ac (ArgV.regv _ _ 1 _) an) rv)
  refine z ?_ (h := fun ν => acts_call1 ν (impl_set__count_fn (regSet l) (by first | omega | assumption | exact regSet_lt (by assumption))) (ac (ArgV.v vt) an) rv)
  refine za (nl (wp_ret' ?_))
  exact VRes.tmp _ _ _ (by exact rfl) (bval (congrArg (Value.int .i64) (by first | (rw [cntR_no (by assumption)]; rfl) | rw [cntR_yes (by assumption)])))

set_option maxHeartbeats 4000000 in
set_option maxRecDepth 100000 in
theorem spec_CountTilings_fn (l : List Int) (hl : l.length ≤ 4194304) : Fn Try.prog 28 [.agg [(.slv l.length 1 (isl l) : A)]] [.val (.int .i64 (((cntR l) : Nat) : Int))] := by
 refine fn_intro (N := 8) Try.func28 rfl (by kernel_rfl) rfl (Nat.le_of_ble_eq_true rfl) [1, 4, 7] (ret1 rfl) (fun W => ?_)
 show Wp _ _ _ [kV 0 (V.b (.agg [(.slv l.length 1 (isl l) : A)])), kF 1, kF 4, kF 7]
 refine sq (rg ?_)
 refine z ?_ (h := fun ν => acts_box (h := 1) ν xt (by exact ob1 rfl))
 refine zk (nl (sq (sq (rg ?_))))
 refine z ?_ (h := fun ν => acts_load_owns (xs := [(.slv l.length 1 (isl l) : A)]) ν qC13_ti_28 rfl (by decide) rfl)
 refine z ?_ (h := fun ν => acts_call1 ν (spec_RegionOk_fn l (by first | omega | assumption | exact regSet_lt (by assumption))) (ac (ArgV.regv _ _ 1 _) an) rv)
 refine z ?_ (h := fun ν => acts_un ν vt (r_not rfl))
 refine nl ?_
 refine wi (b := (!(regOk l))) (fun c1 => ?_) (fun c1 => ?_)
 ·skip
  have c2 : (regOk l) = false := by first | (rw [← Bool.not_eq_true']; exact c1) | simpa using c1
  refine sq (rg (zk (nl (wp_ret' ?_))))
  exact VRes.tmp _ _ _ (by exact rfl) (bval (congrArg (Value.int .i64) (by first | (rw [cntR_no (by assumption)]; rfl) | rw [cntR_yes (by assumption)])))
 ·skip
  have c3 : (regOk l) = true := by first | (rw [← Bool.not_eq_false']; exact c1) | simpa using c1
  refine sk (sq (rg ?_))
  refine z ?_ (h := fun ν => acts_load_owns (xs := [(.slv l.length 1 (isl l) : A)]) ν qC13_ti_28 rfl (by decide) rfl)
  refine z ?_ (h := fun ν => acts_call1 ν (spec_l07Count_fn l (by first | omega | assumption | exact regSet_lt (by assumption))) (ac (ArgV.regv _ _ 1 _) an) rv)
  refine za (nl (wp_ret' ?_))
  exact VRes.tmp _ _ _ (by exact rfl) (bval (congrArg (Value.int .i64) (by first | (rw [cntR_no (by assumption)]; rfl) | rw [cntR_yes (by assumption)])))
end Cl
end Go.Proofs.Ytgmckbchcpfhcaa
