/- Logs that came in as arguments. -/
import Derived.Test.YtfnbbmhhilffeaaDoorDoor
import Derived.Test.YtfnbbmhhilffeaaDoorH1
import Derived.Test.YtfnbbmhhilffeaaDoorOpen
namespace Go.Proofs.YtfnbbmhhilffeaaDoor
open Go.ChangeShapes Go.WideShapes Go.ChangeAt Go.RowKit Go.Deep Go.Joins
open Go.ChangeMaps (open_string shut_string)

theorem env_of {W : World} (hT : Tab W) (h : W.ShapedOpen Tryd.prog) : Env W := ⟨hT, Tryd.laysM145.s1_3 W h⟩
end Go.Proofs.YtfnbbmhhilffeaaDoor
