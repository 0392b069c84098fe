/- The name of the table that strconv reads, off the row's own list. -/
import Derived.Test.YtjlaidjogladaaaDoorRows
namespace Go.Proofs.YtjlaidjogladaaaDoor
def tabN : String := Rows.fnLightsRow.named.getD 0 "x"
end Go.Proofs.YtjlaidjogladaaaDoor
