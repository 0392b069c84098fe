/- The name of the table that strconv reads, off the row's own list. -/
import Derived.Test.YtcljcbbkbepmjaaDoorRows
namespace Go.Proofs.YtcljcbbkbepmjaaDoor
def tabN : String := Rows.fnToDoRow.named.getD 0 "x"
end Go.Proofs.YtcljcbbkbepmjaaDoor
