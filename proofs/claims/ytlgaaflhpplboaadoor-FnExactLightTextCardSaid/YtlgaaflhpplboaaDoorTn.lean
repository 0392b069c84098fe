/- The name of the table that strconv reads, off the row's own list. -/
import Derived.Test.YtlgaaflhpplboaaDoorRows
namespace Go.Proofs.YtlgaaflhpplboaaDoor
def tabN : String := Rows.fnExactAreaLineRow.named.getD 0 "x"
end Go.Proofs.YtlgaaflhpplboaaDoor
