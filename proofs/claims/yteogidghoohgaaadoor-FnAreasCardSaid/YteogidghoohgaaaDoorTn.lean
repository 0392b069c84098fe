/- The name of the table that strconv reads, off the row's own list. -/
import Derived.Test.YteogidghoohgaaaDoorRows
namespace Go.Proofs.YteogidghoohgaaaDoor
def tabN : String := Rows.fnExactSurveyReportRow.named.getD 0 "x"
end Go.Proofs.YteogidghoohgaaaDoor
