/- The law's own helpers over a region (a struct with one slice of rows): toRegion, eqRegion, szRegion, markRegion, heldRegion. -/
import Derived.Test.YtffifeljpegknaaInts
namespace Go.Proofs.Ytffifeljpegknaa
open Go.ChangeShapes Go.WideShapes Go.ChangeAt Go.RowKit

theorem eqRegion_c (l m : List Int) (A B : Option Addr) (n c n' c' : Nat) (w : World) (hl : Rd w 1 A n (isl l)) (hm : Rd w 1 B n' (isl m)) (hb : n ≤ 4194304) (hb' : n' ≤ 4194304) :
    Calls Try.prog 26 #[.agg #[.slice A n c], .agg #[.slice B n' c']] w fun e w' => e = .returned (.bool (decide (l = m))) ∧ Below w.heap.size w w' := by
  go_enter Try.func26, Try.ntmps26
  go_wp2_with (go_at_call 14; refine (eqIntS_c l m _ _ _ _ _ _ _ (by ((repeat (first | with_reducible assumption | refine Rd.alloc ?_ _ | refine Rd.step ?_ (by with_reducible assumption) | refine Rd.drew ?_ | refine Rd.drewN ?_ _ | refine RdA.alloc ?_ _ | refine RdA.step ?_ (by with_reducible assumption) | refine RdA.drew ?_ | refine RdA.drewN ?_ _)))) (by ((repeat (first | with_reducible assumption | refine Rd.alloc ?_ _ | refine Rd.step ?_ (by with_reducible assumption) | refine Rd.drew ?_ | refine Rd.drewN ?_ _ | refine RdA.alloc ?_ _ | refine RdA.step ?_ (by with_reducible assumption) | refine RdA.drew ?_ | refine RdA.drewN ?_ _)))) hb hb').mono ?_; rintro e w2 ⟨rfl, hb2⟩)
  all_goals (go_ret; refine ⟨ret_bool (by simp_all), by ((repeat (first | exact Below.refl _ _ | with_reducible assumption | refine Below.alloc0 ?_ _ | refine Below.step0 ?_ (by with_reducible assumption) | refine Below.step ?_ (by with_reducible assumption) ?_ | refine Below.alloc ?_ ?_ _ | refine Below.drew ?_ | refine below_drewN ?_ _ | refine Below.setCell ?_ ?_ _)) <;> (first | omega | exact hsz | exact Below.size (by with_reducible assumption) | (simp; done) | (simp; omega) | (simp at *; omega)))⟩)
theorem grown_alloc_l {w w' : World} {o : Obj} {row : Option Nat} (h : (w.alloc o).grownBy w' row) : w.grownBy w' row :=
  ⟨h.os, h.tape, h.output, Nat.le_trans (by simp) h.size, fun k hk hne => (h.block k (by simp; omega) hne).trans (Below.heap_alloc w o k hk)⟩
theorem markRegion_c (l : List Int) (A : Option Addr) (n c B : Nat) (k0 : Int) (w : World) (hown : w.ownsRow B 3 1 (.slice A n c) n (isl l)) (hb : n ≤ 4194304) (hk0 : 0 ≤ k0) (hk1 : k0 ≤ 1099511627776) (hB : B ≤ w.heap.size) :
    Calls Try.prog 27 #[.agg #[.slice A n c], .int .i64 k0] w fun e w' => e = .returned (.int .i64 (k0 + n)) ∧ w'.ownsRow B 3 1 (.slice A n c) n (isl (seqI k0 n)) ∧ w.grownBy w' (Value.slice A n c).ownBlock ∧ Below B w w' := by
  go_enter Try.func27, Try.ntmps27
  go_wp2_with (go_at_call 41; refine (markIntS_c l _ _ _ B _ _ (hown.alloc _) hb hk0 hk1).mono ?_; rintro e w2 ⟨rfl, ho2, hg2, hb2⟩)
  go_ret
  exact ⟨rfl, ho2, grown_alloc_l hg2, ((Below.refl _ _).alloc hB _).trans hb2⟩
theorem heldRegion_c (A : Option Addr) (n c : Nat) (k0 : Int) (w : World) (hrd : Rd w 1 A n (isl (seqI k0 n))) (hb : n ≤ 4194304) (hk0 : 0 ≤ k0) (hk1 : k0 ≤ 1099511627776) :
    Calls Try.prog 28 #[.agg #[.slice A n c], .int .i64 k0] w fun e w' => e = .returned (.int .i64 (k0 + n)) ∧ Below w.heap.size w w' := by
  go_enter Try.func28, Try.ntmps28
  go_wp2_with (go_at_call 42; refine (heldIntS_c _ _ _ _ _ (by ((repeat (first | with_reducible assumption | refine Rd.alloc ?_ _ | refine Rd.step ?_ (by with_reducible assumption) | refine Rd.drew ?_ | refine Rd.drewN ?_ _ | refine RdA.alloc ?_ _ | refine RdA.step ?_ (by with_reducible assumption) | refine RdA.drew ?_ | refine RdA.drewN ?_ _)))) hb hk0 hk1).mono ?_; rintro e w2 ⟨rfl, hb2⟩)
  all_goals go_ways
  all_goals first | (go_ret; exact ⟨rfl, by ((repeat (first | exact Below.refl _ _ | with_reducible assumption | refine Below.alloc0 ?_ _ | refine Below.step0 ?_ (by with_reducible assumption) | refine Below.step ?_ (by with_reducible assumption) ?_ | refine Below.alloc ?_ ?_ _ | refine Below.drew ?_ | refine below_drewN ?_ _ | refine Below.setCell ?_ ?_ _)) <;> (first | omega | exact hsz | exact Below.size (by with_reducible assumption) | (simp; done) | (simp; omega) | (simp at *; omega)))⟩) | (exfalso; omega)
end Go.Proofs.Ytffifeljpegknaa
