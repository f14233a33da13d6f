/- Walks over clean states, printed by wg.py. No statement is proved here. -/
import Derived.Test.YtonlghbbdcddoaaP2
import Derived.Test.YtonlghbbdcddoaaP7
import Derived.Test.YtonlghbbdcddoaaE4
import Derived.Test.YtonlghbbdcddoaaClB
namespace Go.Proofs.Ytonlghbbdcddoaa
namespace Cl
open Go.ChangeShapes Go.WideShapes Go.ChangeAt Go.RowKit
set_option maxRecDepth 20000

def atB (b : List Nat) (i : Nat) : Nat := if b.length = 0 then 0 else gY b ((i * 5 + 1) % b.length)
structure LT (R : List Int) : Prop where
  ok : regOk R = true
  len : (ltR R).length = cntR R
  pos : 1 ≤ cntR R ∧ cntR R ≤ 300
  fst : ftR R = gLd (ltR R) 0
  til : ∀ k, k < (ltR R).length → isTil R (gLd (ltR R) k) = true
  ts : ∀ k, k < (ltR R).length → TilS (regSet R) (gLd (ltR R) k)
  lex : ∀ k, 0 < k → k < (ltR R).length → LexN (gLd (ltR R) (k - 1)) (gLd (ltR R) k)
  row : ∀ k, k < (ltR R).length → (gLd (ltR R) k).length ≤ 33
  eql : ∀ k, 0 < k → k < (ltR R).length → (gLd (ltR R) (k - 1)).length = (gLd (ltR R) k).length
  ix : ∀ k, k < (ltR R).length → ixT (ltR R) (gLd (ltR R) k) = (k : Int)
theorem LT.of {R : List Int} (ho : regOk R = true) (h1 : 1 ≤ cnt (regSet R)) (h2 : cnt (regSet R) ≤ 300) : LT R := by
  have hs := regSet_lt ho
  have hp : popc (regSet R) < 2 * 33 := by have := popc_le (regSet R); omega
  have hc := cntR_yes ho
  have hlt : ltR R = tls 33 (regSet R) := (ltR_yes (inB_true.2 (by omega))).1
  have hlen := tls_len 33 _ hs hp
  have hmem : ∀ k, k < (ltR R).length → TilS (regSet R) (gLd (ltR R) k) := fun k hk => by
    refine (ltR_mem (l := R) ?_).2
    rw [gLd_eq hk]; exact List.getElem_mem hk
  refine ⟨ho, by rw [hlt, hlen, hc], by omega, ?_, fun k hk => til_isTil ho (hmem k hk), hmem, fun k h0 hk => ltR_lex (by omega) hk, fun k hk => ltR_row hk, fun k h0 hk => ?_, fun k hk => ixT_self (ltR_nodup R) hk⟩
  · unfold ftR
    rw [if_neg (by omega), hlt, tls_first 33 _ hs hp (by omega)]
  · have q1 := til_len hs (hmem (k - 1) (by omega))
    have q2 := til_len hs (hmem k hk)
    omega
theorem qP8_sz_5 : (Try.prog.info? 5).map (·.size) = some 1 := by kernel_rfl
theorem qP8_ti_5 : TI Try.prog 5 false 1 := ⟨⟨_, Try.underlying5, rfl⟩, by kernel_rfl⟩
theorem qP8_un_3 : Try.prog.underlying 3 = some (.int .i64) := Try.underlying3
theorem qP8_un_36 : Try.prog.underlying 36 = some (.slice 5) := Try.underlying36
theorem qP8_un_5 : Try.prog.underlying 5 = some (.int .u8) := Try.underlying5
set_option maxHeartbeats 4000000 in
set_option maxRecDepth 100000 in
theorem laws_big_fn (b : List Nat) : Fn Try.prog 17 [.a (.slv b.length 1 (ysl b))] [.val (.bool (decide (1048576 < ((b.length : Nat) : Int))))] := by
 refine fn_intro (N := 6) Try.func17 rfl (by kernel_rfl) rfl (Nat.le_of_ble_eq_true rfl) [4] (ret1 rfl) (fun W => ?_)
 show Wp _ _ _ [kV 0 (V.b (.a (.slv b.length 1 (ysl b)))), kF 4]
 refine sq (rg (zk (nl (sq (rg (zm ?_))))))
 refine z ?_ (h := fun ν => lnV ν qP8_un_36)
 refine z ?_ (h := fun ν => acts_bin ν vt vc (r_gtr rfl))
 refine za (nl (wp_ret' ?_))
 exact VRes.tmp _ _ _ (by exact rfl) (bval (congrArg Value.bool (by first | rfl | simp_all)))

set_option maxHeartbeats 4000000 in
set_option maxRecDepth 100000 in
theorem laws_at_fn (b : List Nat) (i : Nat) (hb : b.length ≤ 1048576) (hy : ∀ x ∈ b, x < 256) (hi : i ≤ 64) : Fn Try.prog 26 [.a (.slv b.length 1 (ysl b)), .a (.val (.int .i64 ((i : Nat) : Int)))] [.val (.int .i64 (((atB b i) : Nat) : Int))] := by
 have hgy := gY_bd hy ((i * 5 + 1) % b.length)
 refine fn_intro (N := 18) Try.func26 rfl (by kernel_rfl) rfl (Nat.le_of_ble_eq_true rfl) [6, 13] (ret1 rfl) (fun W => ?_)
 show Wp _ _ _ [kV 0 (V.b (.a (.slv b.length 1 (ysl b)))), kI 1 ((i : Nat) : Int), kF 6, kF 13]
 refine sq (rg (zk (nl (sq (sq (rg (zm ?_)))))))
 refine z ?_ (h := fun ν => lnV ν qP8_un_36)
 refine z ?_ (h := fun ν => acts_bin ν vt vc (r_eql rfl))
 refine nl ?_
 refine wi (fun c1 => ?_) (fun c1 => ?_)
 ·skip
  have c1P := of_decide_eq_true c1
  refine sq (rg (zk (nl (wp_ret' ?_))))
  exact VRes.tmp _ _ _ (by exact rfl) (bval (congrArg (Value.int .i64) (by (unfold atB; rw [if_pos (by omega)]; rfl))))
 ·skip
  have c1P := of_decide_eq_false c1
  have hml := Nat.mod_lt (i * 5 + 1) (y := b.length) (by omega)
  refine sk (sq (rg (zm (zm ?_))))
  refine z ?_ (h := fun ν => acts_bin ν vt vc rM)
  refine z ?_ (h := fun ν => acts_bin ν vt vc rA)
  refine zm ?_
  refine z ?_ (h := fun ν => lnV ν qP8_un_36)
  refine z ?_ (h := fun ν => acts_bin ν vt vt (r_rem (c := (((((i * 5) + 1) % b.length) : Nat) : Int)) (by omega) (by rw [remI (by omega)]; first | done | (push_cast; first | done | rfl))))
  refine z ?_ (h := fun ν => ixv ν qP8_un_36 qP8_sz_5 vt)
  refine z ?_ (h := fun ν => uY ν qP8_ti_5)
  refine z ?_ (h := fun ν => acts_conv ν vt (r_conv (c := (((gY b (((i * 5) + 1) % b.length)) : Nat) : Int)) qP8_un_5 qP8_un_3 (w_i64 (by omega) (by omega))))
  refine za (nl (wp_ret' ?_))
  exact VRes.tmp _ _ _ (by exact rfl) (bval (congrArg (Value.int .i64) (by (unfold atB; rw [if_neg (by omega)]))))
end Cl
end Go.Proofs.Ytonlghbbdcddoaa
