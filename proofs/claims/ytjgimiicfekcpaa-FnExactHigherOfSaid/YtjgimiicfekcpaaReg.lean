
/- The law's own helpers over a region (a struct with one slice of rows): toRegion, eqRegion, szRegion, markRegion, heldRegion. -/
import Derived.Test.YtjgimiicfekcpaaInts
namespace Go.Proofs.Ytjgimiicfekcpaa
open Go.ChangeShapes Go.WideShapes Go.ChangeAt Go.RowKit

theorem toRegion_c (l : List Int) (A : Option Addr) (n c : Nat) (w : World) (hrd : RdA w 1 A n (isl l)) (hl : n ≤ 1048576) :
    Calls Try.prog 8 #[.agg #[.slice A n c]] w fun e w' => ∃ v, e = .returned (.agg #[v]) ∧ w'.ownsRow w.heap.size 3 1 v n (isl l) ∧ Below w.heap.size w w' := by
  go_enter Try.func8, Try.ntmps8
  go_wp2_with (go_at_call 9; refine (toIntS_c l A n c _ (by ((repeat (first | with_reducible assumption | with_reducible refine Rd.alloc ?_ _ | with_reducible refine Rd.step ?_ (by with_reducible assumption) | with_reducible refine Rd.drew ?_ | with_reducible refine Rd.drewN ?_ _ | with_reducible refine RdA.alloc ?_ _ | with_reducible refine RdA.step ?_ (by with_reducible assumption) | with_reducible refine RdA.drew ?_ | with_reducible refine RdA.drewN ?_ _)))) hl).mono ?_; rintro e w2 ⟨v, rfl, ho2, hb2⟩; obtain ⟨A2, c2, rfl⟩ := own_form2 ho2; have hc2 : w2.cell? ⟨w.heap.size + 1 + 1, 0, none⟩ = some (.slice none 0 0) := (hb2.cell (by simp)).trans (by go_simp); have hf2 : w2.frozen? ⟨w.heap.size + 1 + 1, 0, none⟩ = false := (hb2.frozen (by simp)).trans (by go_simp); have hd2 : w2.cell? ⟨w.heap.size + 1, 0, none⟩ = some (.slice none 0 0) := (hb2.cell (by simp)).trans (by go_simp); have he2 : w2.frozen? ⟨w.heap.size + 1, 0, none⟩ = false := (hb2.frozen (by simp)).trans (by go_simp))
  refine bodyPost_ret (v := .agg #[.slice A2 n c2]) (by simp [results, Try.results8, go_sem]; go_simp) rfl ⟨_, rfl, ?_, ?_⟩
  · exact own_mono (ownsRow_setCell_below (ownsRow_setCell_below ho2 (by simp) _) (by simp) _) (by simp; omega)
  · exact ((((((Below.refl _ _).alloc (Nat.le_refl _) _).alloc (by simp) _).alloc (by simp; omega) _).trans (hb2.mono (by simp; omega))).setCell (by simp; omega) _).setCell (by simp) _
theorem szRegion_c (left : Int) (A : Option Addr) (n c : Nat) (h0 : 0 ≤ left) (h1 : left ≤ 1048576) (h2 : n ≤ 9223372036854775807) (w : World) :
    Calls Try.prog 6 #[.agg #[.slice A n c], .int .i64 left] w fun e w' => e = .returned (.int .i64 (if left < n then -1 else left - n)) ∧ Below w.heap.size w w' := by
  go_enter Try.func6, Try.ntmps6
  go_wp2_with (go_at_call 24; refine (szIntS_c (n : Int) left A n c rfl h0 h1 h2 _).mono ?_; rintro e w2 ⟨rfl, rfl⟩)
  all_goals (go_ret; refine ⟨ret_int ?_, by ((repeat (first | exact Below.refl _ _ | with_reducible assumption | refine Below.alloc0 ?_ _ | refine Below.step0 ?_ (by with_reducible assumption) | refine Below.step ?_ (by with_reducible assumption) ?_ | refine Below.alloc ?_ ?_ _ | refine Below.drew ?_ | refine below_drewN ?_ _ | refine Below.setCell ?_ ?_ _)) <;> (first | omega | exact hsz | exact Below.size (by with_reducible assumption) | (simp; done) | (simp; omega) | (simp at *; omega)))⟩; first | rfl | rw [if_pos (by omega)] | rw [if_neg (by omega)])
theorem eqRegion_c (l m : List Int) (A B : Option Addr) (n c n' c' : Nat) (w : World) (hl : Rd w 1 A n (isl l)) (hm : Rd w 1 B n' (isl m)) (hb : n ≤ 4194304) (hb' : n' ≤ 4194304) :
    Calls Try.prog 12 #[.agg #[.slice A n c], .agg #[.slice B n' c']] w fun e w' => e = .returned (.bool (decide (l = m))) ∧ Below w.heap.size w w' := by
  go_enter Try.func12, Try.ntmps12
  go_wp2_with (go_at_call 13; refine (eqIntS_c l m _ _ _ _ _ _ _ (by ((repeat (first | with_reducible assumption | with_reducible refine Rd.alloc ?_ _ | with_reducible refine Rd.step ?_ (by with_reducible assumption) | with_reducible refine Rd.drew ?_ | with_reducible refine Rd.drewN ?_ _ | with_reducible refine RdA.alloc ?_ _ | with_reducible refine RdA.step ?_ (by with_reducible assumption) | with_reducible refine RdA.drew ?_ | with_reducible refine RdA.drewN ?_ _)))) (by ((repeat (first | with_reducible assumption | with_reducible refine Rd.alloc ?_ _ | with_reducible refine Rd.step ?_ (by with_reducible assumption) | with_reducible refine Rd.drew ?_ | with_reducible refine Rd.drewN ?_ _ | with_reducible refine RdA.alloc ?_ _ | with_reducible refine RdA.step ?_ (by with_reducible assumption) | with_reducible refine RdA.drew ?_ | with_reducible refine RdA.drewN ?_ _)))) hb hb').mono ?_; rintro e w2 ⟨rfl, hb2⟩)
  all_goals (go_ret; refine ⟨ret_bool (by simp_all), by ((repeat (first | exact Below.refl _ _ | with_reducible assumption | refine Below.alloc0 ?_ _ | refine Below.step0 ?_ (by with_reducible assumption) | refine Below.step ?_ (by with_reducible assumption) ?_ | refine Below.alloc ?_ ?_ _ | refine Below.drew ?_ | refine below_drewN ?_ _ | refine Below.setCell ?_ ?_ _)) <;> (first | omega | exact hsz | exact Below.size (by with_reducible assumption) | (simp; done) | (simp; omega) | (simp at *; omega)))⟩)
theorem grown_alloc_l {w w' : World} {o : Obj} {row : Option Nat} (h : (w.alloc o).grownBy w' row) : w.grownBy w' row :=
  ⟨h.os, h.tape, h.output, Nat.le_trans (by simp) h.size, fun k hk hne => (h.block k (by simp; omega) hne).trans (Below.heap_alloc w o k hk)⟩
theorem markRegion_c (l : List Int) (A : Option Addr) (n c B : Nat) (k0 : Int) (w : World) (hown : w.ownsRow B 3 1 (.slice A n c) n (isl l)) (hb : n ≤ 4194304) (hk0 : 0 ≤ k0) (hk1 : k0 ≤ 1099511627776) (hB : B ≤ w.heap.size) :
    Calls Try.prog 14 #[.agg #[.slice A n c], .int .i64 k0] w fun e w' => e = .returned (.int .i64 (k0 + n)) ∧ w'.ownsRow B 3 1 (.slice A n c) n (isl (seqI k0 n)) ∧ w.grownBy w' (Value.slice A n c).ownBlock ∧ Below B w w' := by
  go_enter Try.func14, Try.ntmps14
  go_wp2_with (go_at_call 15; refine (markIntS_c l _ _ _ B _ _ (hown.alloc _) hb hk0 hk1).mono ?_; rintro e w2 ⟨rfl, ho2, hg2, hb2⟩)
  go_ret
  exact ⟨rfl, ho2, grown_alloc_l hg2, ((Below.refl _ _).alloc hB _).trans hb2⟩
end Go.Proofs.Ytjgimiicfekcpaa
