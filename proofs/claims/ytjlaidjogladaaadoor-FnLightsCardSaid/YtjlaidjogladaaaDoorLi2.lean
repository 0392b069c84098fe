/- The laws' conversions of phases and lights: sizes, copies, comparison of equal ones. -/
import Derived.Test.YtjlaidjogladaaaDoorLi1
namespace Go.Proofs.YtjlaidjogladaaaDoor
open Go.RowKit

end Go.Proofs.YtjlaidjogladaaaDoor
