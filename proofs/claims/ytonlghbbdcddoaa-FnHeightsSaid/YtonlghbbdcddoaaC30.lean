/- Walks over clean states, printed by wg.py. No statement is proved here. -/
import Derived.Test.YtonlghbbdcddoaaC29
import Derived.Test.YtonlghbbdcddoaaClB
namespace Go.Proofs.Ytonlghbbdcddoaa
namespace Cl
open Go.ChangeShapes Go.WideShapes Go.ChangeAt Go.RowKit
set_option maxRecDepth 20000

theorem HeightsOf_no (l : List Int) (ds : List Dom) (hl : l.length ≤ 4194304) (hd : ds.length ≤ 2097152) (hg : (simB l && isTil l ds) = false) : Fn Try.prog 19 [.agg [(.slv l.length 1 (isl l) : A)], .a (.slv ds.length 3 (dsl ds))] [.val (.slice none 0 0)] := by
  rcases Bool.eq_false_or_eq_true (simB l) with h1 | h1
  · rw [h1, Bool.true_and] at hg
    exact HeightsOf_no2 l ds hl hd h1 hg
  · exact HeightsOf_no1 l ds hl hd h1
theorem HIn.ow {dir : Nat → Int × Int} {l : List Int} {ds : List Dom} {L M : List Nat} {u t k : Nat} (h : HIn dir l ds L u t M) (hk : k < L.length) : gI (nI M) k = ((gN L k : Nat) : Int) := by
  obtain ⟨e, he⟩ := foldl_pre (opE (regSet l) ds) u (hnbT dir u t) L
  have : M = L ++ e := by rw [h.eq]; exact he
  rw [gI_nI (by rw [this, List.length_append]; omega), this, gN_eq hk, gN_eq (by rw [List.length_append]; omega), List.getElem_append_left hk]
end Cl
end Go.Proofs.Ytonlghbbdcddoaa
