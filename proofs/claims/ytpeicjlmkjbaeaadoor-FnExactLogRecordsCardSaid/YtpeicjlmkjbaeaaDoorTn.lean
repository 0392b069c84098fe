/- The name of the table that strconv reads, off the row's own list. -/
import Derived.Test.YtpeicjlmkjbaeaaDoorRows
namespace Go.Proofs.YtpeicjlmkjbaeaaDoor
def tabN : String := Rows.fnExactEncodeRecordRow.named.getD 1 "x"
end Go.Proofs.YtpeicjlmkjbaeaaDoor
