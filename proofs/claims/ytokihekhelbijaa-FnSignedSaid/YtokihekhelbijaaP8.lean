/- Walks over clean states, printed by wg.py. No statement is proved here. -/
import Derived.Test.YtokihekhelbijaaP2
import Derived.Test.YtokihekhelbijaaP7
import Derived.Test.YtokihekhelbijaaE4
import Derived.Test.YtokihekhelbijaaClB
namespace Go.Proofs.Ytokihekhelbijaa
namespace Cl
open Go.ChangeShapes Go.WideShapes Go.ChangeAt Go.RowKit
set_option maxRecDepth 20000

structure LT (R : List Int) : Prop where
  ok : regOk R = true
  len : (ltR R).length = cntR R
  pos : 1 ≤ cntR R ∧ cntR R ≤ 300
  fst : ftR R = gLd (ltR R) 0
  til : ∀ k, k < (ltR R).length → isTil R (gLd (ltR R) k) = true
  ts : ∀ k, k < (ltR R).length → TilS (regSet R) (gLd (ltR R) k)
  lex : ∀ k, 0 < k → k < (ltR R).length → LexN (gLd (ltR R) (k - 1)) (gLd (ltR R) k)
  row : ∀ k, k < (ltR R).length → (gLd (ltR R) k).length ≤ 33
  eql : ∀ k, 0 < k → k < (ltR R).length → (gLd (ltR R) (k - 1)).length = (gLd (ltR R) k).length
  ix : ∀ k, k < (ltR R).length → ixT (ltR R) (gLd (ltR R) k) = (k : Int)
theorem LT.of {R : List Int} (ho : regOk R = true) (h1 : 1 ≤ cnt (regSet R)) (h2 : cnt (regSet R) ≤ 300) : LT R := by
  have hs := regSet_lt ho
  have hp : popc (regSet R) < 2 * 33 := by have := popc_le (regSet R); omega
  have hc := cntR_yes ho
  have hlt : ltR R = tls 33 (regSet R) := (ltR_yes (inB_true.2 (by omega))).1
  have hlen := tls_len 33 _ hs hp
  have hmem : ∀ k, k < (ltR R).length → TilS (regSet R) (gLd (ltR R) k) := fun k hk => by
    refine (ltR_mem (l := R) ?_).2
    rw [gLd_eq hk]; exact List.getElem_mem hk
  refine ⟨ho, by rw [hlt, hlen, hc], by omega, ?_, fun k hk => til_isTil ho (hmem k hk), hmem, fun k h0 hk => ltR_lex (by omega) hk, fun k hk => ltR_row hk, fun k h0 hk => ?_, fun k hk => ixT_self (ltR_nodup R) hk⟩
  · unfold ftR
    rw [if_neg (by omega), hlt, tls_first 33 _ hs hp (by omega)]
  · have q1 := til_len hs (hmem (k - 1) (by omega))
    have q2 := til_len hs (hmem k hk)
    omega
theorem LT.r8 {b : List Nat} {R : List Int} (h : (r8 b 6 (cu0 b)).1 = R) : LT R := by
  subst h
  obtain ⟨h1, h2, h3⟩ := r8_cnt b 6 (cu0 b)
  exact LT.of h1 h2 h3

theorem qP8_un_22 : Try.prog.underlying 22 = some (.slice 5) := Try.underlying22
set_option maxHeartbeats 4000000 in
set_option maxRecDepth 100000 in
theorem laws_big_fn (b : List Nat) : Fn Try.prog 4 [.a (.slv b.length 1 (ysl b))] [.val (.bool (decide (1048576 < ((b.length : Nat) : Int))))] := by
 refine fn_intro (N := 6) Try.func4 rfl (by kernel_rfl) rfl (Nat.le_of_ble_eq_true rfl) [4] (ret1 rfl) (fun W => ?_)
 show Wp _ _ _ [kV 0 (V.b (.a (.slv b.length 1 (ysl b)))), kF 4]
 refine sq (rg (zk (nl (sq (rg (zm ?_))))))
 refine z ?_ (h := fun ν => lnV ν qP8_un_22)
 refine z ?_ (h := fun ν => acts_bin ν vt vc (r_gtr rfl))
 refine za (nl (wp_ret' ?_))
 exact VRes.tmp _ _ _ (by exact rfl) (bval (congrArg Value.bool (by first | rfl | simp_all)))
end Cl
end Go.Proofs.Ytokihekhelbijaa
