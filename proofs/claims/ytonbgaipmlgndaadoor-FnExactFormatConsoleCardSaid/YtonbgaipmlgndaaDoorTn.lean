/- The name of the table that strconv reads, off the row's own list. -/
import Derived.Test.YtonbgaipmlgndaaDoorRows
namespace Go.Proofs.YtonbgaipmlgndaaDoor
def tabN : String := Rows.fnExactIsValidConsoleRow.named.getD 1 "x"
end Go.Proofs.YtonbgaipmlgndaaDoor
