/- Walks over clean states, printed by wg.py. No statement is proved here. -/
import Derived.Test.YthnaalmoedjjkaaW1
import Derived.Test.YthnaalmoedjjkaaD3
import Derived.Test.YthnaalmoedjjkaaCl22
namespace Go.Proofs.Ythnaalmoedjjkaa
namespace Cl
open Go.ChangeShapes Go.WideShapes Go.ChangeAt Go.RowKit


set_option maxHeartbeats 4000000 in
set_option maxRecDepth 100000 in
theorem laws_FnExactDeterminantOf_fn (m : List (List Int)) (hm : m.length ≤ 9223372036854775807) (hr : ∀ k, k < m.length → (gLs m k).length ≤ 9223372036854775807) : Fn Try.prog 4 [.a (.slvv 1 (vwI m))] [.val (.bool true)] := by
 refine fn_intro (N := 27) Try.func4 rfl (by kernel_rfl) rfl (Nat.le_of_ble_eq_true rfl) [9, 13, 14, 16, 18, 24, 25] (ret1 rfl) (fun W => ?_)
 show Wp _ _ _ [kV 0 (V.b (.a (.slvv 1 (vwI m)))), kF 9, kF 13, kF 14, kF 16, kF 18, kF 24, kF 25]
 refine sq (rg (zk (nl (sq (rg (zk (nl (sq (rg (zm (zm ?_)))))))))))
 refine z ?_ (h := fun ν => acts_call1 ν (laws_szIntSS_fn m 1048576 (by first | omega | assumption) (by first | omega | assumption) (by first | omega | assumption)) (ac (ArgV.slvv _ _ _) (ac (ArgV.v vt) an)) rv)
 refine za (nl (sq (sq (rg (zm ?_)))))
 refine z ?_ (h := fun ν => acts_bin ν vt vc (r_lss rfl))
 refine nl ?_
 refine wi (fun c1 => ?_) (fun c1 => ?_)
 ·skip
  have c1P := of_decide_eq_true c1
  refine sq (rg (zk (nl (wp_ret' ?_))))
  exact VRes.tmp _ _ _ (by exact rfl) (BRes.val _)
 ·skip
  have c1P := of_decide_eq_false c1
  have hso := szSS_ok (m := m) (z := 1048576) (by omega)
  have hA : m.length ≤ 4194304 := by have := hso.1; omega
  have hB : ∀ k, k < m.length → (gLs m k).length ≤ 4194304 := fun k hk => by have := hso.2 k hk; omega
  refine sk (sq (rg (zm ?_)))
  refine z ?_ (h := fun ν => acts_callO (d := 13) (f := 10) (os := []) (os' := [(.o 9, some (.o ⟨28, 1, true, rwI 3 m⟩))]) (r := V.b (.a (.sl 9 0 m.length))) (bs := [.a (.slvv 1 (vwI m))]) (keep := []) (new := [9]) (dead := []) ν (FnO.ren' (laws_toIntSS_fn m (by first | omega | assumption) (by first | omega | assumption)) (subst1 [(900, 9)]) rfl rfl (by kernel_rfl) (by kernel_rfl) ⟨oc_rwI, trivial⟩ (by kernel_rfl) rfl (by simp only [renS, Ob.ren, pl_ren, rws_ren_doms, rws_ren_ints, rws_ren_cels, rwI_ren, rwD_ren]; first | done | rfl) (by simp only [renS, Ob.ren, pl_ren, rws_ren_doms, rws_ren_ints, rws_ren_cels, rwI_ren, rwD_ren]; first | done | rfl) rfl rfl) (by kernel_rfl) ⟨oc_rwI, trivial⟩ (by kernel_rfl) (ArgOs.cons (ArgO.slot 12 (.a (.slvv 1 (vwI m)))) (ArgOs.nil)))
  refine z ?_ (h := fun ν => acts_call1 ν (spec_DeterminantOf_fn m (by first | omega | assumption) (by first | omega | assumption)) (ac (dvI (L := m)) an) rv)
  refine za (nl (sq (rg (zm ?_))))
  refine z ?_ (h := fun ν => acts_callO (d := 16) (f := 10) (os := []) (os' := [(.o 13, some (.o ⟨28, 1, true, rwI 3 m⟩))]) (r := V.b (.a (.sl 13 0 m.length))) (bs := [.a (.slvv 1 (vwI m))]) (keep := []) (new := [13]) (dead := []) ν (FnO.ren' (laws_toIntSS_fn m (by first | omega | assumption) (by first | omega | assumption)) (subst1 [(900, 13)]) rfl rfl (by kernel_rfl) (by kernel_rfl) ⟨oc_rwI, trivial⟩ (by kernel_rfl) rfl (by simp only [renS, Ob.ren, pl_ren, rws_ren_doms, rws_ren_ints, rws_ren_cels, rwI_ren, rwD_ren]; first | done | rfl) (by simp only [renS, Ob.ren, pl_ren, rws_ren_doms, rws_ren_ints, rws_ren_cels, rwI_ren, rwD_ren]; first | done | rfl) rfl rfl) (by kernel_rfl) ⟨oc_rwI, trivial⟩ (by kernel_rfl) (ArgOs.cons (ArgO.slot 15 (.a (.slvv 1 (vwI m)))) (ArgOs.nil)))
  refine za (nl (sq (rg (zm ?_))))
  refine z ?_ (h := fun ν => acts_call1 ν (impl_DeterminantOf_fn m (by first | omega | assumption) (by first | omega | assumption)) (ac (dvI (L := m)) an) rv)
  refine za (nl (sq (sq (rg (zm (zm ?_))))))
  refine z ?_ (h := fun ν => acts_bin ν vt vt (r_neq rfl))
  refine nl ?_
  refine wi (fun c2 => ?_) (fun c2 => ?_)
  ·skip
   have c2P := of_decide_eq_true c2
   refine sq (rg (zk (nl (wp_ret' ?_))))
   exact VRes.tmp _ _ _ (by exact rfl) (bval (congrArg Value.bool (by first | rfl | exact absurd (Eq.refl m) (by assumption) | exact absurd (Eq.refl (detR m)) (by assumption) | (exfalso; simp_all; done))))
  ·skip
   have c2P := of_decide_eq_false c2
   refine sk (sq (sq (rg (zm (zm ?_)))))
   refine z ?_ (h := fun ν => acts_callO (d := 24) (f := 10) (os := []) (os' := [(.o 14, some (.o ⟨28, 1, true, rwI 3 m⟩))]) (r := V.b (.a (.sl 14 0 m.length))) (bs := [.a (.slvv 1 (vwI m))]) (keep := []) (new := [14]) (dead := []) ν (FnO.ren' (laws_toIntSS_fn m (by first | omega | assumption) (by first | omega | assumption)) (subst1 [(900, 14)]) rfl rfl (by kernel_rfl) (by kernel_rfl) ⟨oc_rwI, trivial⟩ (by kernel_rfl) rfl (by simp only [renS, Ob.ren, pl_ren, rws_ren_doms, rws_ren_ints, rws_ren_cels, rwI_ren, rwD_ren]; first | done | rfl) (by simp only [renS, Ob.ren, pl_ren, rws_ren_doms, rws_ren_ints, rws_ren_cels, rwI_ren, rwD_ren]; first | done | rfl) rfl rfl) (by kernel_rfl) ⟨oc_rwI, trivial⟩ (by kernel_rfl) (ArgOs.cons (ArgO.slot 23 (.a (.slvv 1 (vwI m)))) (ArgOs.nil)))
   refine z ?_ (h := fun ν => acts_call1 ν (laws_eqIntSS_fn m m (by first | omega | assumption) (by first | omega | assumption) (by first | omega | assumption) (by first | omega | assumption)) (ac (dvI (L := m)) (ac (dvI (L := m)) an)) rv)
   refine z ?_ (h := fun ν => acts_un ν vt (r_not rfl))
   refine nl ?_
   refine wi (b := (!(decide (m = m)))) (fun c3 => ?_) (fun c3 => ?_)
   ·skip
    have c4 : decide (m = m) = false := by first | (rw [← Bool.not_eq_true']; exact c3) | simpa using c3
    have c4P := of_decide_eq_false c4
    refine sq (rg (zk (nl (wp_ret' ?_))))
    exact VRes.tmp _ _ _ (by exact rfl) (bval (congrArg Value.bool (by first | rfl | exact absurd (Eq.refl m) (by assumption) | exact absurd (Eq.refl (detR m)) (by assumption) | (exfalso; simp_all; done))))
   ·skip
    have c5 : decide (m = m) = true := by first | (rw [← Bool.not_eq_false']; exact c3) | simpa using c3
    have c5P := of_decide_eq_true c5
    refine sk (sq (rg (zk (nl (wp_ret' ?_)))))
    exact VRes.tmp _ _ _ (by exact rfl) (BRes.val _)
end Cl
end Go.Proofs.Ythnaalmoedjjkaa
