
/- FnExactGrowDiamond: the program's GrowDiamond returns what the reference's returns, for all arguments. No condition. -/
import Derived.Test.YtabgfoindidigaaLaw
import Derived.Test.YtabgfoindidigaaC5
namespace Go.Proofs.Ytabgfoindidigaa.lGrowDiamond
set_option maxRecDepth 20000
open Go.ChangeShapes Go.WideShapes Go.ChangeAt Go.RowKit Cl

set_option maxHeartbeats 2000000 in
theorem walk (w : World) (l0 : Int) (_ : (Lit.int .i64 l0).wf = true) (A1 : Option Addr) (n1 c1 : Nat) (l1 : List Dom) (hr1 : RdA w 3 A1 n1 (dsl l1)) (hm1 : n1 ≤ maxLen) (_ : ∀ z ∈ l1, (Lit.int .i64 z.x).wf = true ∧ (Lit.int .i64 z.y).wf = true) :
    Calls Try.prog 8 #[.int .i64 l0, .slice A1 n1 c1] w fun e w' => e = .returned (.bool true) ∧ Below w.heap.size w w' := by
  unfold maxLen at hm1
  have HN1 := Lib.hid (show n1 = l1.length by have := hr1.1; rw [dsl_len] at this; omega)
  have hsz : w.heap.size ≤ w.heap.size := Nat.le_refl _
  by_cases hn1 : n1 ≤ 1048576
  rotate_left
  · go_enter Try.func8, Try.ntmps8
    go_wp2_with fail
    refine (szDominoS_c (1048576) _ _ _ (by omega) (by omega) (by omega) _).mono ?_
    rintro e wz0 ⟨rfl, rfl⟩
    rw [if_pos (by omega)]
    go_wp2
    go_ret
    exact ⟨rfl, by ((repeat (first | exact Below.refl _ _ | with_reducible assumption | refine Below.alloc0 ?_ _ | refine Below.step0 ?_ (by with_reducible assumption) | refine Below.step ?_ (by with_reducible assumption) ?_ | refine Below.alloc ?_ ?_ _ | refine Below.drew ?_ | refine below_drewN ?_ _ | refine Below.setCell ?_ ?_ _)) <;> (first | omega | exact hsz | exact Below.size (by with_reducible assumption) | (simp; done) | (simp; omega) | (simp at *; omega)))⟩
  go_enter Try.func8, Try.ntmps8
  go_wp2_with fail
  refine (szDominoS_c (1048576) _ _ _ (by omega) (by omega) (by omega) _).mono ?_
  rintro e wz0 ⟨rfl, rfl⟩
  rw [if_neg (by omega)]
  have hfl : (gro l0 l1).length ≤ 1048578 := (by have h1 := gro_len l0 l1; have h2 := HN1.out; omega)
  have e1 : ((groOk l0 l1) == (groOk l0 l1)) = true := by simp
  have e1' : ((groOk l0 l1) != (groOk l0 l1)) = false := by simp
  go_wp2_with fail
  refine Calls.mono (toDominoS_c l1 _ _ _ _ ?_ (by omega)) ?_
  · ((repeat (first | with_reducible assumption | with_reducible refine Rd.alloc ?_ _ | with_reducible refine Rd.step ?_ (by with_reducible assumption) | with_reducible refine Rd.drew ?_ | with_reducible refine Rd.drewN ?_ _ | with_reducible refine RdA.alloc ?_ _ | with_reducible refine RdA.step ?_ (by with_reducible assumption) | with_reducible refine RdA.drew ?_ | with_reducible refine RdA.drewN ?_ _)))
  rintro e w1 ⟨v1, rfl, ho1, hb1⟩
  obtain ⟨A1, d1, rfl, hle1⟩ := own_form3 ho1
  have hx1 := own_rd ho1
  have hob1 := own_mono (base' := w.heap.size) ho1 (by ((repeat (first | exact Nat.le_refl _ | with_reducible assumption | with_reducible refine Nat.le_trans ?_ (Below.size (by with_reducible assumption)) | with_reducible refine Nat.le_trans ?_ (grown_size (by with_reducible assumption)) | with_reducible refine size_alloc ?_ _ | with_reducible refine size_drewN ?_ _ | with_reducible refine size_drew ?_))))
  go_wp2_with fail
  refine Calls.mono (kit_rowv (spec_GrowDiamond_fn l0 l1 (by have := HN1.out; omega)) (args2 (mk_v _) (mk_slv' ?_ ?_ HN1.out))) ?_
  · ((repeat (first | with_reducible assumption | with_reducible refine Rd.alloc ?_ _ | with_reducible refine Rd.step ?_ (by with_reducible assumption) | with_reducible refine Rd.drew ?_ | with_reducible refine Rd.drewN ?_ _ | with_reducible refine RdA.alloc ?_ _ | with_reducible refine RdA.step ?_ (by with_reducible assumption) | with_reducible refine RdA.drew ?_ | with_reducible refine RdA.drewN ?_ _)))
  · (try assumption)
  rintro e w2 ⟨v2_0, rfl, ho2_0, hb2⟩
  obtain ⟨A2_0, d2_0, rfl, hle2_0⟩ := own_form3 ho2_0
  have hx2_0 := own_rd ho2_0
  have hob2_0 := own_mono (base' := w.heap.size) ho2_0 (by ((repeat (first | exact Nat.le_refl _ | with_reducible assumption | with_reducible refine Nat.le_trans ?_ (Below.size (by with_reducible assumption)) | with_reducible refine Nat.le_trans ?_ (grown_size (by with_reducible assumption)) | with_reducible refine size_alloc ?_ _ | with_reducible refine size_drewN ?_ _ | with_reducible refine size_drew ?_))))
  go_wp2_with fail
  refine Calls.mono (toDominoS_c l1 _ _ _ _ ?_ (by omega)) ?_
  · ((repeat (first | with_reducible assumption | with_reducible refine Rd.alloc ?_ _ | with_reducible refine Rd.step ?_ (by with_reducible assumption) | with_reducible refine Rd.drew ?_ | with_reducible refine Rd.drewN ?_ _ | with_reducible refine RdA.alloc ?_ _ | with_reducible refine RdA.step ?_ (by with_reducible assumption) | with_reducible refine RdA.drew ?_ | with_reducible refine RdA.drewN ?_ _)))
  rintro e w3 ⟨v3, rfl, ho3, hb3⟩
  obtain ⟨A3, d3, rfl, hle3⟩ := own_form3 ho3
  have hx3 := own_rd ho3
  have hob3 := own_mono (base' := w.heap.size) ho3 (by ((repeat (first | exact Nat.le_refl _ | with_reducible assumption | with_reducible refine Nat.le_trans ?_ (Below.size (by with_reducible assumption)) | with_reducible refine Nat.le_trans ?_ (grown_size (by with_reducible assumption)) | with_reducible refine size_alloc ?_ _ | with_reducible refine size_drewN ?_ _ | with_reducible refine size_drew ?_))))
  go_wp2_with fail
  refine Calls.mono (kit_rowv (impl_GrowDiamond_fn l0 l1 (by have := HN1.out; omega)) (args2 (mk_v _) (mk_slv' ?_ ?_ HN1.out))) ?_
  · ((repeat (first | with_reducible assumption | with_reducible refine Rd.alloc ?_ _ | with_reducible refine Rd.step ?_ (by with_reducible assumption) | with_reducible refine Rd.drew ?_ | with_reducible refine Rd.drewN ?_ _ | with_reducible refine RdA.alloc ?_ _ | with_reducible refine RdA.step ?_ (by with_reducible assumption) | with_reducible refine RdA.drew ?_ | with_reducible refine RdA.drewN ?_ _)))
  · (try assumption)
  rintro e w4 ⟨v4_0, rfl, ho4_0, hb4⟩
  obtain ⟨A4_0, d4_0, rfl, hle4_0⟩ := own_form3 ho4_0
  have hx4_0 := own_rd ho4_0
  have hob4_0 := own_mono (base' := w.heap.size) ho4_0 (by ((repeat (first | exact Nat.le_refl _ | with_reducible assumption | with_reducible refine Nat.le_trans ?_ (Below.size (by with_reducible assumption)) | with_reducible refine Nat.le_trans ?_ (grown_size (by with_reducible assumption)) | with_reducible refine size_alloc ?_ _ | with_reducible refine size_drewN ?_ _ | with_reducible refine size_drew ?_))))
  go_wp2_with fail
  refine Calls.mono (eqDominoS_c (gro l0 l1) (gro l0 l1) A4_0 A2_0 (gro l0 l1).length _ (gro l0 l1).length _ _ ?_ ?_ ?_ ?_) ?_
  · ((repeat (first | with_reducible assumption | with_reducible refine Rd.alloc ?_ _ | with_reducible refine Rd.step ?_ (by with_reducible assumption) | with_reducible refine Rd.drew ?_ | with_reducible refine Rd.drewN ?_ _ | with_reducible refine RdA.alloc ?_ _ | with_reducible refine RdA.step ?_ (by with_reducible assumption) | with_reducible refine RdA.drew ?_ | with_reducible refine RdA.drewN ?_ _)))
  · ((repeat (first | with_reducible assumption | with_reducible refine Rd.alloc ?_ _ | with_reducible refine Rd.step ?_ (by with_reducible assumption) | with_reducible refine Rd.drew ?_ | with_reducible refine Rd.drewN ?_ _ | with_reducible refine RdA.alloc ?_ _ | with_reducible refine RdA.step ?_ (by with_reducible assumption) | with_reducible refine RdA.drew ?_ | with_reducible refine RdA.drewN ?_ _)))
  · (first | omega | assumption)
  · (first | omega | assumption)
  rintro e w5 ⟨rfl, hb5⟩
  go_wp2_with fail
  refine Calls.mono (toDominoS_c l1 _ _ _ _ ?_ (by omega)) ?_
  · ((repeat (first | with_reducible assumption | with_reducible refine Rd.alloc ?_ _ | with_reducible refine Rd.step ?_ (by with_reducible assumption) | with_reducible refine Rd.drew ?_ | with_reducible refine Rd.drewN ?_ _ | with_reducible refine RdA.alloc ?_ _ | with_reducible refine RdA.step ?_ (by with_reducible assumption) | with_reducible refine RdA.drew ?_ | with_reducible refine RdA.drewN ?_ _)))
  rintro e w6 ⟨v6, rfl, ho6, hb6⟩
  obtain ⟨A6, d6, rfl, hle6⟩ := own_form3 ho6
  have hx6 := own_rd ho6
  have hob6 := own_mono (base' := w.heap.size) ho6 (by ((repeat (first | exact Nat.le_refl _ | with_reducible assumption | with_reducible refine Nat.le_trans ?_ (Below.size (by with_reducible assumption)) | with_reducible refine Nat.le_trans ?_ (grown_size (by with_reducible assumption)) | with_reducible refine size_alloc ?_ _ | with_reducible refine size_drewN ?_ _ | with_reducible refine size_drew ?_))))
  go_wp2_with fail
  refine Calls.mono (eqDominoS_c l1 l1 A3 A6 n1 _ n1 _ _ ?_ ?_ ?_ ?_) ?_
  · ((repeat (first | with_reducible assumption | with_reducible refine Rd.alloc ?_ _ | with_reducible refine Rd.step ?_ (by with_reducible assumption) | with_reducible refine Rd.drew ?_ | with_reducible refine Rd.drewN ?_ _ | with_reducible refine RdA.alloc ?_ _ | with_reducible refine RdA.step ?_ (by with_reducible assumption) | with_reducible refine RdA.drew ?_ | with_reducible refine RdA.drewN ?_ _)))
  · ((repeat (first | with_reducible assumption | with_reducible refine Rd.alloc ?_ _ | with_reducible refine Rd.step ?_ (by with_reducible assumption) | with_reducible refine Rd.drew ?_ | with_reducible refine Rd.drewN ?_ _ | with_reducible refine RdA.alloc ?_ _ | with_reducible refine RdA.step ?_ (by with_reducible assumption) | with_reducible refine RdA.drew ?_ | with_reducible refine RdA.drewN ?_ _)))
  · (first | omega | assumption)
  · (first | omega | assumption)
  rintro e w7 ⟨rfl, hb7⟩
  go_wp2_with fail
  refine Calls.mono (markDominoS_c l1 A3 n1 _ w.heap.size _ _ ?_ ?_ (by omega) (by omega)) ?_
  · ((repeat (first | with_reducible assumption | with_reducible refine own_alloc ?_ _ | with_reducible refine own_step ?_ (by with_reducible assumption) | with_reducible refine own_drew ?_ | with_reducible refine own_drewN ?_ _)))
  · (first | omega | assumption)
  rintro e w8 ⟨rfl, hom8, hgm8, hbm8⟩
  have hch8 : Below w.heap.size w w8 := by
    refine Below.trans ?_ (hbm8.mono (by ((repeat (first | exact Nat.le_refl _ | with_reducible assumption | with_reducible refine Nat.le_trans ?_ (Below.size (by with_reducible assumption)) | with_reducible refine Nat.le_trans ?_ (grown_size (by with_reducible assumption)) | with_reducible refine size_alloc ?_ _ | with_reducible refine size_drewN ?_ _ | with_reducible refine size_drew ?_)))))
    ((repeat (first | exact Below.refl _ _ | with_reducible assumption | refine Below.alloc0 ?_ _ | refine Below.step0 ?_ (by with_reducible assumption) | refine Below.step ?_ (by with_reducible assumption) ?_ | refine Below.alloc ?_ ?_ _ | refine Below.drew ?_ | refine below_drewN ?_ _ | refine Below.setCell ?_ ?_ _)) <;> (first | omega | exact hsz | exact Below.size (by with_reducible assumption) | (simp; done) | (simp; omega) | (simp at *; omega)))
  have ho8_w0 := World.ownsRow.kept (base := w.heap.size) (e := 32) (size := 3) (v := .slice A2_0 (gro l0 l1).length d2_0) (n := (gro l0 l1).length) (xs := dsl (gro l0 l1)) (by ((repeat (first | with_reducible assumption | with_reducible refine own_alloc ?_ _ | with_reducible refine own_step ?_ (by with_reducible assumption) | with_reducible refine own_drew ?_ | with_reducible refine own_drewN ?_ _)))) hgm8 (by first | (refine own_disj ho2_0 ho3 ?_; ((repeat (first | exact Nat.le_refl _ | with_reducible assumption | with_reducible refine Nat.le_trans ?_ (Below.size (by with_reducible assumption)) | with_reducible refine Nat.le_trans ?_ (grown_size (by with_reducible assumption)) | with_reducible refine size_alloc ?_ _ | with_reducible refine size_drewN ?_ _ | with_reducible refine size_drew ?_))); done) | (refine own_disj' ho2_0 ho3 ?_; ((repeat (first | exact Nat.le_refl _ | with_reducible assumption | with_reducible refine Nat.le_trans ?_ (Below.size (by with_reducible assumption)) | with_reducible refine Nat.le_trans ?_ (grown_size (by with_reducible assumption)) | with_reducible refine size_alloc ?_ _ | with_reducible refine size_drewN ?_ _ | with_reducible refine size_drew ?_))); done))
  have hx8_w0 := own_rd ho8_w0
  have ho8_g0 := World.ownsRow.kept (base := w.heap.size) (e := 32) (size := 3) (v := .slice A4_0 (gro l0 l1).length d4_0) (n := (gro l0 l1).length) (xs := dsl (gro l0 l1)) (by ((repeat (first | with_reducible assumption | with_reducible refine own_alloc ?_ _ | with_reducible refine own_step ?_ (by with_reducible assumption) | with_reducible refine own_drew ?_ | with_reducible refine own_drewN ?_ _)))) hgm8 (by first | (refine own_disj ho4_0 ho3 ?_; ((repeat (first | exact Nat.le_refl _ | with_reducible assumption | with_reducible refine Nat.le_trans ?_ (Below.size (by with_reducible assumption)) | with_reducible refine Nat.le_trans ?_ (grown_size (by with_reducible assumption)) | with_reducible refine size_alloc ?_ _ | with_reducible refine size_drewN ?_ _ | with_reducible refine size_drew ?_))); done) | (refine own_disj' ho4_0 ho3 ?_; ((repeat (first | exact Nat.le_refl _ | with_reducible assumption | with_reducible refine Nat.le_trans ?_ (Below.size (by with_reducible assumption)) | with_reducible refine Nat.le_trans ?_ (grown_size (by with_reducible assumption)) | with_reducible refine size_alloc ?_ _ | with_reducible refine size_drewN ?_ _ | with_reducible refine size_drew ?_))); done))
  have hx8_g0 := own_rd ho8_g0
  have hx8_m := own_rd hom8
  have hr1_8 := hr1.below hch8 (Nat.le_refl _)
  go_wp2_with fail
  refine Calls.mono (eqDominoS_c (gro l0 l1) (gro l0 l1) A4_0 A2_0 (gro l0 l1).length _ (gro l0 l1).length _ _ ?_ ?_ ?_ ?_) ?_
  · ((repeat (first | with_reducible assumption | with_reducible refine Rd.alloc ?_ _ | with_reducible refine Rd.step ?_ (by with_reducible assumption) | with_reducible refine Rd.drew ?_ | with_reducible refine Rd.drewN ?_ _ | with_reducible refine RdA.alloc ?_ _ | with_reducible refine RdA.step ?_ (by with_reducible assumption) | with_reducible refine RdA.drew ?_ | with_reducible refine RdA.drewN ?_ _)))
  · ((repeat (first | with_reducible assumption | with_reducible refine Rd.alloc ?_ _ | with_reducible refine Rd.step ?_ (by with_reducible assumption) | with_reducible refine Rd.drew ?_ | with_reducible refine Rd.drewN ?_ _ | with_reducible refine RdA.alloc ?_ _ | with_reducible refine RdA.step ?_ (by with_reducible assumption) | with_reducible refine RdA.drew ?_ | with_reducible refine RdA.drewN ?_ _)))
  · (first | omega | assumption)
  · (first | omega | assumption)
  rintro e w9 ⟨rfl, hb9⟩
  go_wp2_with fail
  refine Calls.mono (markDominoS_c (gro l0 l1) A4_0 (gro l0 l1).length _ w.heap.size _ _ ?_ ?_ (by omega) (by omega)) ?_
  · ((repeat (first | with_reducible assumption | with_reducible refine own_alloc ?_ _ | with_reducible refine own_step ?_ (by with_reducible assumption) | with_reducible refine own_drew ?_ | with_reducible refine own_drewN ?_ _)))
  · (first | omega | assumption)
  rintro e w10 ⟨rfl, hom10, hgm10, hbm10⟩
  have hch10 : Below w.heap.size w w10 := by
    refine Below.trans ?_ (hbm10.mono (by ((repeat (first | exact Nat.le_refl _ | with_reducible assumption | with_reducible refine Nat.le_trans ?_ (Below.size (by with_reducible assumption)) | with_reducible refine Nat.le_trans ?_ (grown_size (by with_reducible assumption)) | with_reducible refine size_alloc ?_ _ | with_reducible refine size_drewN ?_ _ | with_reducible refine size_drew ?_)))))
    ((repeat (first | exact Below.refl _ _ | with_reducible assumption | refine Below.alloc0 ?_ _ | refine Below.step0 ?_ (by with_reducible assumption) | refine Below.step ?_ (by with_reducible assumption) ?_ | refine Below.alloc ?_ ?_ _ | refine Below.drew ?_ | refine below_drewN ?_ _ | refine Below.setCell ?_ ?_ _)) <;> (first | omega | exact hsz | exact Below.size (by with_reducible assumption) | (simp; done) | (simp; omega) | (simp at *; omega)))
  have ho10_w0 := World.ownsRow.kept (base := w.heap.size) (e := 32) (size := 3) (v := .slice A2_0 (gro l0 l1).length d2_0) (n := (gro l0 l1).length) (xs := dsl (gro l0 l1)) (by ((repeat (first | with_reducible assumption | with_reducible refine own_alloc ?_ _ | with_reducible refine own_step ?_ (by with_reducible assumption) | with_reducible refine own_drew ?_ | with_reducible refine own_drewN ?_ _)))) hgm10 (by first | (refine own_disj ho2_0 ho4_0 ?_; ((repeat (first | exact Nat.le_refl _ | with_reducible assumption | with_reducible refine Nat.le_trans ?_ (Below.size (by with_reducible assumption)) | with_reducible refine Nat.le_trans ?_ (grown_size (by with_reducible assumption)) | with_reducible refine size_alloc ?_ _ | with_reducible refine size_drewN ?_ _ | with_reducible refine size_drew ?_))); done) | (refine own_disj' ho2_0 ho4_0 ?_; ((repeat (first | exact Nat.le_refl _ | with_reducible assumption | with_reducible refine Nat.le_trans ?_ (Below.size (by with_reducible assumption)) | with_reducible refine Nat.le_trans ?_ (grown_size (by with_reducible assumption)) | with_reducible refine size_alloc ?_ _ | with_reducible refine size_drewN ?_ _ | with_reducible refine size_drew ?_))); done))
  have hx10_w0 := own_rd ho10_w0
  have hx10_m := own_rd hom10
  have hr1_10 := hr1.below hch10 (Nat.le_refl _)
  go_wp2_with fail
  refine Calls.mono (heldDominoS_c A4_0 (gro l0 l1).length _ _ _ ?_ ?_ (by omega) (by omega)) ?_
  · ((repeat (first | with_reducible assumption | with_reducible refine Rd.alloc ?_ _ | with_reducible refine Rd.step ?_ (by with_reducible assumption) | with_reducible refine Rd.drew ?_ | with_reducible refine Rd.drewN ?_ _ | with_reducible refine RdA.alloc ?_ _ | with_reducible refine RdA.step ?_ (by with_reducible assumption) | with_reducible refine RdA.drew ?_ | with_reducible refine RdA.drewN ?_ _)))
  · (first | omega | assumption)
  rintro e w11 ⟨rfl, hb11⟩
  go_wp2_with fail
  refine Calls.mono (toDominoS_c l1 _ _ _ _ ?_ (by omega)) ?_
  · ((repeat (first | with_reducible assumption | with_reducible refine Rd.alloc ?_ _ | with_reducible refine Rd.step ?_ (by with_reducible assumption) | with_reducible refine Rd.drew ?_ | with_reducible refine Rd.drewN ?_ _ | with_reducible refine RdA.alloc ?_ _ | with_reducible refine RdA.step ?_ (by with_reducible assumption) | with_reducible refine RdA.drew ?_ | with_reducible refine RdA.drewN ?_ _)))
  rintro e w12 ⟨v12, rfl, ho12, hb12⟩
  obtain ⟨A12, d12, rfl, hle12⟩ := own_form3 ho12
  have hx12 := own_rd ho12
  have hob12 := own_mono (base' := w.heap.size) ho12 (by ((repeat (first | exact Nat.le_refl _ | with_reducible assumption | with_reducible refine Nat.le_trans ?_ (Below.size (by with_reducible assumption)) | with_reducible refine Nat.le_trans ?_ (grown_size (by with_reducible assumption)) | with_reducible refine size_alloc ?_ _ | with_reducible refine size_drewN ?_ _ | with_reducible refine size_drew ?_))))
  go_wp2_with fail
  refine Calls.mono (kit_rowv (impl_GrowDiamond_fn l0 l1 (by have := HN1.out; omega)) (args2 (mk_v _) (mk_slv' ?_ ?_ HN1.out))) ?_
  · ((repeat (first | with_reducible assumption | with_reducible refine Rd.alloc ?_ _ | with_reducible refine Rd.step ?_ (by with_reducible assumption) | with_reducible refine Rd.drew ?_ | with_reducible refine Rd.drewN ?_ _ | with_reducible refine RdA.alloc ?_ _ | with_reducible refine RdA.step ?_ (by with_reducible assumption) | with_reducible refine RdA.drew ?_ | with_reducible refine RdA.drewN ?_ _)))
  · (try assumption)
  rintro e w13 ⟨v13_0, rfl, ho13_0, hb13⟩
  obtain ⟨A13_0, d13_0, rfl, hle13_0⟩ := own_form3 ho13_0
  have hx13_0 := own_rd ho13_0
  have hob13_0 := own_mono (base' := w.heap.size) ho13_0 (by ((repeat (first | exact Nat.le_refl _ | with_reducible assumption | with_reducible refine Nat.le_trans ?_ (Below.size (by with_reducible assumption)) | with_reducible refine Nat.le_trans ?_ (grown_size (by with_reducible assumption)) | with_reducible refine size_alloc ?_ _ | with_reducible refine size_drewN ?_ _ | with_reducible refine size_drew ?_))))
  go_wp2_with fail
  refine Calls.mono (eqDominoS_c (gro l0 l1) (gro l0 l1) A13_0 A2_0 (gro l0 l1).length _ (gro l0 l1).length _ _ ?_ ?_ ?_ ?_) ?_
  · ((repeat (first | with_reducible assumption | with_reducible refine Rd.alloc ?_ _ | with_reducible refine Rd.step ?_ (by with_reducible assumption) | with_reducible refine Rd.drew ?_ | with_reducible refine Rd.drewN ?_ _ | with_reducible refine RdA.alloc ?_ _ | with_reducible refine RdA.step ?_ (by with_reducible assumption) | with_reducible refine RdA.drew ?_ | with_reducible refine RdA.drewN ?_ _)))
  · ((repeat (first | with_reducible assumption | with_reducible refine Rd.alloc ?_ _ | with_reducible refine Rd.step ?_ (by with_reducible assumption) | with_reducible refine Rd.drew ?_ | with_reducible refine Rd.drewN ?_ _ | with_reducible refine RdA.alloc ?_ _ | with_reducible refine RdA.step ?_ (by with_reducible assumption) | with_reducible refine RdA.drew ?_ | with_reducible refine RdA.drewN ?_ _)))
  · (first | omega | assumption)
  · (first | omega | assumption)
  rintro e w14 ⟨rfl, hb14⟩
  go_wp2_with fail
  refine Calls.mono (heldDominoS_c A4_0 (gro l0 l1).length _ _ _ ?_ ?_ (by omega) (by omega)) ?_
  · ((repeat (first | with_reducible assumption | with_reducible refine Rd.alloc ?_ _ | with_reducible refine Rd.step ?_ (by with_reducible assumption) | with_reducible refine Rd.drew ?_ | with_reducible refine Rd.drewN ?_ _ | with_reducible refine RdA.alloc ?_ _ | with_reducible refine RdA.step ?_ (by with_reducible assumption) | with_reducible refine RdA.drew ?_ | with_reducible refine RdA.drewN ?_ _)))
  · (first | omega | assumption)
  rintro e w15 ⟨rfl, hb15⟩
  go_wp2
  go_ret
  exact ⟨rfl, by ((repeat (first | exact Below.refl _ _ | with_reducible assumption | refine Below.alloc0 ?_ _ | refine Below.step0 ?_ (by with_reducible assumption) | refine Below.step ?_ (by with_reducible assumption) ?_ | refine Below.alloc ?_ ?_ _ | refine Below.drew ?_ | refine below_drewN ?_ _ | refine Below.setCell ?_ ?_ _)) <;> (first | omega | exact hsz | exact Below.size (by with_reducible assumption) | (simp; done) | (simp; omega) | (simp at *; omega)))⟩

set_option maxRecDepth 100000 in
theorem lifted (os : Os) (started : os.Started) (H : Type) (enc : TypeId × Value → H) :
    ReturnsInHanded {} Try.checked os 8 .any (Rows.fnExactGrowDiamondSpec.pre6 enc Try.prog Try.f8 Rows.fnExactGrowDiamondRow.domain false) (Rows.fnExactGrowDiamondSpec.post enc Try.prog Try.f8 false true false false) := by
  refine returnsInHanded_of_change (C := Try.checked) own_knob started (by kernel_rfl) Try.func8
    (ChangeSpec.witness6 (enc := enc) (C := Try.checked) false ⟨#[], #[.int .i64 0, .slice none 0 0], []⟩ 8 (by kernel_rfl) (by kernel_rfl) (by kernel_rfl) (by kernel_rfl)) ?_
  intro W base args ds gs before hval0 hW hcnd _
  have hval : ∀ (j : Nat) t v, Try.f8.params[j]? = some t → args[j]? = some v → Value.okWide Try.prog W .any base t v := hval0
  have hW' := hW
  obtain ⟨p, q, hA0, hV, rfl, hfz, hnd⟩ := hW
  have hA : DataW.TrodAll enc Try.prog W 0 (fun _ => true) true Try.f8.params.toList args.toList ds p := hA0
  rw [Try.params8] at hA hval
  obtain ⟨v0, vs0, d0, ds0, p0, q0, hargs, rfl, rfl, h0, r0⟩ := trodAll_cons hA
  obtain ⟨v1, vs1, d1, ds1, p1, q1, rfl, rfl, rfl, h1, r1⟩ := trodAll_cons r0
  obtain ⟨rfl, rfl, rfl⟩ := trodAll_nil r1
  obtain rfl : args = #[v0, v1] := by cases args; simp_all
  obtain ⟨rfl, rfl⟩ := trodVars_none hV
  obtain ⟨a0, rfl, rfl, rfl, w0⟩ := open_int Try.underlying3 (hval 0 _ v0 rfl rfl) h0
  obtain ⟨A1, n1, c1, l1, rfl, hr1, hm1, hw1⟩ := open_ds (hval 1 _ v1 rfl rfl) h1
  clear hA0 hval0
  refine (walk W a0 w0 A1 n1 c1 l1 hr1 hm1 hw1).mono fun e W' ⟨he, hg⟩ => ?_
  subst he
  exact ⟨_, rfl, post_law laid_out (by rw [Try.params8]; decide +kernel) rfl rfl Try.underlying4 rfl hW' hg⟩

theorem over : Rows.fnExactGrowDiamondRow.holds Try.pinned (OpenSpec.ofChange Rows.fnExactGrowDiamondSpec) :=
  OpenClaim.holds_of_wide 8 Try.f8 rfl rfl rfl rfl rfl rfl rfl ⟨rfl, rfl, rfl, rfl, rfl⟩ rfl rfl rfl rfl rfl (by kernel_rfl) Try.func8 (by kernel_rfl)
    (of_decide_eq_true (by kernel_rfl)) (by unfold Func.isWrapper; first | (rw [if_pos (by decide +kernel)]; kernel_rfl) | (rw [if_neg (by decide +kernel)]; exact ⟨rfl, rfl⟩))
    (fun os started H enc _ => lifted os started H enc)

theorem proved : Rows.FnExactGrowDiamondSaid :=
  over
#print axioms proved

end Go.Proofs.Ytabgfoindidigaa.lGrowDiamond
