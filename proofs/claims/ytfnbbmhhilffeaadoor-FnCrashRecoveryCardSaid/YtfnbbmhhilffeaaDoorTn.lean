/- The name of the table that strconv reads, off the row's own list. -/
import Derived.Test.YtfnbbmhhilffeaaDoorRows
namespace Go.Proofs.YtfnbbmhhilffeaaDoor
def tabN : String := Rows.fnLogRow.named.getD 1 "x"
end Go.Proofs.YtfnbbmhhilffeaaDoor
