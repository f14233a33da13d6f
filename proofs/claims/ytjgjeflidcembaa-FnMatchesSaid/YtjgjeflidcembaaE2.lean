/- Walks over clean states, printed by wg.py. No statement is proved here. -/
import Derived.Test.YtjgjeflidcembaaE1
import Derived.Test.YtjgjeflidcembaaClB
namespace Go.Proofs.Ytjgjeflidcembaa
namespace Cl
open Go.ChangeShapes Go.WideShapes Go.ChangeAt Go.RowKit
set_option maxRecDepth 20000

theorem qE2_un_30 : Try.prog.underlying 30 = some (.slice 37) := Try.underlying30
theorem qE2_zi_37 : ZI Try.prog 37 (.agg #[.int .i64 0, .int .i64 0, .bool false]) 3 24 := by unfold ZI; kernel_rfl
set_option maxHeartbeats 4000000 in
set_option maxRecDepth 100000 in
theorem impl_copyDominoes_fn (ds : List Dom) (hl : ds.length ≤ 1048576) : Fn Try.prog 48 [.a (.slv ds.length 3 (dsl ds))] [.row 37 3 ds.length (dsl ds)] := by
 refine fn_intro (N := 6) Try.func48 rfl (by kernel_rfl) rfl (Nat.le_of_ble_eq_true rfl) [3, 5] (ret1 rfl) (fun W => ?_)
 show Wp _ _ _ [kV 0 (V.b (.a (.slv ds.length 3 (dsl ds)))), kF 3, kF 5]
 refine sq (rg (zk (nl (sq (rg ?_)))))
 refine z ?_ (h := fun ν => b0D (h := 3) ν qE2_un_30 qE2_zi_37)
 refine zm ?_
 refine z ?_ (h := fun ν => acts_app (h2 := 5) (m := ds.length) (nm := ds.length) (X := .slv ds.length 3 (dsl ds)) (xs := dsl []) (ys := dsl ds) (zs := dsl ds) ν qE2_un_30 qE2_zi_37 rfl (by decide) (by decide) (by first | exact dsl_len _ | (simp [isl_len, bsl_len, dsl_len, csl_len]; done) | (simp [isl_len, bsl_len, dsl_len, csl_len]; omega)) xt (Src.slv _ _ _) (dsl_one' _) (by first | omega | (simp; omega) | (simp at *; omega)) (by first | exact (dsl_append _ _).symm | rfl | simp [dsl_append]) (by first | rfl | (simp; done) | (simp; omega) | omega))
 refine za (nl (wp_ret' ?_))
 exact VRes.tmp _ _ _ (by exact rfl) (BRes.row 5 ds.length _ 3 _ (by kernel_rfl) (by first | exact dsl_len _ | (simp [isl_len, bsl_len, dsl_len, csl_len]; done) | (simp [isl_len, bsl_len, dsl_len, csl_len]; omega)))

end Cl
end Go.Proofs.Ytjgjeflidcembaa
