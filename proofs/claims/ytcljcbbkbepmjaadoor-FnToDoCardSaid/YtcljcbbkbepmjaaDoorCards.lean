/-
  DERIVED. GIVEN WITH THE SEED: THE CARDS: each row of YtcljcbbkbepmjaaDoorRows.lean that lists a variable, with what it lists TIED to the program's text (the seventh form; the later family's looks); each row that meets fmt, with fmt's text TOLD by the authors' own Lean function (tested against real Go, not proved from fmt's source: count such statements apart). THE CARD IS WHAT COUNTS. Prove the row's statement (the work); the ties are given (YtcljcbbkbepmjaaDoorTie.lean); close each card by the builder's one call (the guide's Derived/Test/ToyasCard.lean, 'card_holds'). Laid BY PROGRAM, IN A SANDBOX (cutbox-door.mjs). By AI agents, Wed Nov 11 2026. No macro, syntax, notation, axiom, sorry.
-/
import Derived.Test.YtcljcbbkbepmjaaDoorRows
import GoSem.ClaimSeven
namespace Go.Proofs.YtcljcbbkbepmjaaDoor
namespace Rows

/-- THE TIED CARD OF 'laws.FnToDo'. -/
def fnToDoCard : Claim7 := { stood := { row := fnToDoRow, standIns := [], harness := (true, "afb87a44c6eae31e9ac49ff300b9ade7d4fe9a5ff30b5c926e35e24094698f37"), looks := false }, kinds := [], alts := [], laidByText := true, laidKinds := [.data, .data, .data], laidTests := true, laidLooks := .later }
def FnToDoCardSaid : Prop := Claim7.holds Tryd.pinned (.plain (OpenSpec.ofChange fnToDoSpec)) fnToDoCard

/-- THE SECOND FORM's CARD OF 'laws.FnToDo'. -/
def fnToDoUptoCard : Claim7 := { stood := { row := fnToDoUptoRow, standIns := [], harness := (true, "afb87a44c6eae31e9ac49ff300b9ade7d4fe9a5ff30b5c926e35e24094698f37"), looks := false }, kinds := [], alts := [], laidByText := true, laidKinds := [.data, .data, .data], laidTests := true, laidLooks := .later }
def FnToDoUptoCardSaid : Prop := Claim7.holds Tryd.pinned (.plain (OpenSpec.upto fnToDoSpec)) fnToDoUptoCard
end Rows
end Go.Proofs.YtcljcbbkbepmjaaDoor
