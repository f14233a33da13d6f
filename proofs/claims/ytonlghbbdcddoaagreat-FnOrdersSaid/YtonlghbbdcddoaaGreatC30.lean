/- Walks. -/
import Derived.Test.YtonlghbbdcddoaaGreatC29
import Derived.Test.YtonlghbbdcddoaaGreatClB
namespace Go.Proofs.YtonlghbbdcddoaaGreat
namespace Cl
open Go.ChangeShapes Go.WideShapes Go.ChangeAt Go.RowKit
set_option maxRecDepth 20000
theorem iL (l:List Int) (ds:List Dom) (hl:l.length≤4194304) (hd:ds.length≤2097152) (hg:(cu l&&ct l ds)=false):Fn Tryz.prog 35 [.agg [(.slv l.length 1 (isl l):A)],.a (.slv ds.length 3 (dsl ds))] [.val (.slice none 0 0)]:=by
 rcases Bool.eq_false_or_eq_true (cu l)with h1 |h1
 ·rw[h1,Bool.true_and]at hg
  exact wn l ds hl hd h1 hg
 ·exact wm l ds hl hd h1
theorem HIn.ow {dir:Nat→Int × Int} {l:List Int} {ds:List Dom} {L M:List Nat} {u t k:Nat} (h:HIn dir l ds L u t M) (hk:k<L.length):gI (nI M) k=((gN L k:Nat):Int):=by
 obtain⟨e,he⟩:=rX (opE (ag l) ds) u (wG dir u t) L
 have:M=L++e:=by rw[h.eq];exact he
 rw[GT (by rw[this,List.length_append];omega),this,pK hk,pK (by rw[List.length_append];omega),List.getElem_append_left hk]
end Cl
end Go.Proofs.YtonlghbbdcddoaaGreat
