/- The laws' conversions of days: sizes, copies, comparison of equal ones. -/
import Derived.Test.YtcljcbbkbepmjaaD1
namespace Go.Proofs.Ytcljcbbkbepmjaa
open Go.RowKit

end Go.Proofs.Ytcljcbbkbepmjaa
