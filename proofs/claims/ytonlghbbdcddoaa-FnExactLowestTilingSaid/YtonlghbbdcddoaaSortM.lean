
/- Sorted lists of dominoes: the plain law of inserting. No program here. -/
import Derived.Test.YtonlghbbdcddoaaBase
namespace Go.Proofs.Ytonlghbbdcddoaa

def Dom.ord (d : Dom) : Int := 2 * (8 * d.y + d.x) + (if d.d then 1 else 0)
def Dom.valid (d : Dom) : Prop := 0 ≤ d.x ∧ d.x ≤ 7 ∧ 0 ≤ d.y ∧ d.y ≤ 7
end Go.Proofs.Ytonlghbbdcddoaa
