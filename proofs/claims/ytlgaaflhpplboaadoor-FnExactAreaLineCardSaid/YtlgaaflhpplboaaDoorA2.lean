/- Lists of area rows: which are good, the laws' conversions and comparisons of lists. Condition: names and lists have lengths that an int holds. -/
import Derived.Test.YtlgaaflhpplboaaDoorA1
namespace Go.Proofs.YtlgaaflhpplboaaDoor
open Go.RowKit

def areaStep (l : List AreaR) (i : Nat) : Bool :=
  if h : i < l.length then l[i].ok && (decide (i = 0) || Op.bytesLess l[i-1].nm.toList l[i].nm.toList) else true
def areasB (l : List AreaR) : Bool := allUpto (areaStep l) l.length && decide (l.length ≤ 10)
theorem areasB_no {l : List AreaR} {k : Nat} (hk : k < l.length) (h : areaStep l k = false) : areasB l = false := by
  rw [areasB, allUpto_no hk h]; rfl

end Go.Proofs.YtlgaaflhpplboaaDoor
