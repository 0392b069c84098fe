/- The tables that the row lists: what they give, and a world for the witness. -/
import Derived.Test.YtjlaidjogladaaaDoorCards
import Derived.Test.YtjlaidjogladaaaDoorTie
import Derived.Test.YtjlaidjogladaaaDoorN1
import Derived.ProofKit
import Derived.OpenShut
import Derived.Deep.DeepHandedRow
import Derived.Lib.LaidTab
import Derived.Stop.LaidErr
namespace Go.Proofs.YtjlaidjogladaaaDoor
open Go.ChangeShapes Go.WideShapes Go.ChangeAt Go.RowKit

theorem own_knob : ownKnob Tryd.prog.godebug = none := by kernel_rfl
theorem laid_out : laidOutB Tryd.prog = true := by kernel_rfl
theorem gTabType : (Tryd.prog.globals[0]?).map (·.type) = some 74 := by kernel_rfl
theorem tabCells : Tryd.prog.cellsOf 74 = 20 := by kernel_rfl
theorem numCells : Tryd.prog.cellsOf 42 = 1 := by kernel_rfl
/-- What the row's list gives: the table's cells hold its numbers. -/
theorem laid_tab : (Rows.laid_internal_strconv_uint64pow10 : DataW Unit) = Go.Lib.tabData .u64 Go.Lib.pow10Tab := by kernel_rfl
theorem tab_of {W : World} {x y : String × DataW Unit} {rest : List (String × DataW Unit)} (h : laidMet Tryd.prog (x :: y :: (tabN, Rows.laid_internal_strconv_uint64pow10) :: rest) W) : Tab W := by
  rw [laid_tab] at h
  exact Go.Lib.tabIs_of_head gTab gTabType Tryd.underlying74 Tryd.underlying42 numCells tabCells h.tail.tail
def litVal : DataW Unit → Value
  | .lit l => l.value
  | _ => .int .i64 0
def litCells : DataW Unit → Array Value
  | .agg l => (l.map litVal).toArray
  | _ => #[]
def laidObj (d : DataW Unit) : Obj → Obj
  | .cells _ t frozen => .cells (litCells d) t frozen
  | o => o
/-- A world that holds the tables. -/
noncomputable def laidWorld (os : Os) : World :=
  { World.holding Tryd.prog os ⟨#[], #[], []⟩ with heap := (((World.holding Tryd.prog os ⟨#[], #[], []⟩).heap.modify 1 (laidObj Rows.laid_math_bits_deBruijn32tab)).modify 2 (laidObj Rows.laid_math_bits_deBruijn64tab)).modify 0 (laidObj Rows.laid_internal_strconv_uint64pow10) }
end Go.Proofs.YtjlaidjogladaaaDoor
