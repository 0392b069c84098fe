/- The name of the table that strconv reads, off the row's own list. -/
import Derived.Test.YtcmeiojfmpkkeaaDoorRows
namespace Go.Proofs.YtcmeiojfmpkkeaaDoor
def tabN : String := Rows.fnExactSurveyDayTextRow.named.getD 0 "x"
end Go.Proofs.YtcmeiojfmpkkeaaDoor
