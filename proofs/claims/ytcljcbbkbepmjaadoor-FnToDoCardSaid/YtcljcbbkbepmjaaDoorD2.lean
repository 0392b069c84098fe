/- The laws' conversions of days: sizes, copies, comparison of equal ones. -/
import Derived.Test.YtcljcbbkbepmjaaDoorD1
namespace Go.Proofs.YtcljcbbkbepmjaaDoor
open Go.RowKit

end Go.Proofs.YtcljcbbkbepmjaaDoor
