/-
  DERIVED. GIVEN WITH THE SEED: THE CARDS: each row of YtjlaidjogladaaaDoorRows.lean that lists a variable, with what it lists TIED to the program's text (the seventh form; the later family's looks); each row that meets fmt, with fmt's text TOLD by the authors' own Lean function (tested against real Go, not proved from fmt's source: count such statements apart). THE CARD IS WHAT COUNTS. Prove the row's statement (the work); the ties are given (YtjlaidjogladaaaDoorTie.lean); close each card by the builder's one call (the guide's Derived/Test/ToyasCard.lean, 'card_holds'). Laid BY PROGRAM, IN A SANDBOX (cutbox-door.mjs). By AI agents, Wed Nov 11 2026. No macro, syntax, notation, axiom, sorry.
-/
import Derived.Test.YtjlaidjogladaaaDoorRows
import GoSem.ClaimSeven
namespace Go.Proofs.YtjlaidjogladaaaDoor
namespace Rows

/-- THE TIED CARD OF 'laws.FnLights'. -/
def fnLightsCard : Claim7 := { stood := { row := fnLightsRow, standIns := [], harness := (true, "69a28be1e759f743c15dcac864fe333acea60b610b2c03508ea89371ca0aad7b"), looks := false }, kinds := [], alts := [], laidByText := true, laidKinds := [.data, .data, .data], laidTests := true, laidLooks := .later }
def FnLightsCardSaid : Prop := Claim7.holds Tryd.pinned (.plain (OpenSpec.ofChange fnLightsSpec)) fnLightsCard

/-- THE SECOND FORM's CARD OF 'laws.FnLights'. -/
def fnLightsUptoCard : Claim7 := { stood := { row := fnLightsUptoRow, standIns := [], harness := (true, "69a28be1e759f743c15dcac864fe333acea60b610b2c03508ea89371ca0aad7b"), looks := false }, kinds := [], alts := [], laidByText := true, laidKinds := [.data, .data, .data], laidTests := true, laidLooks := .later }
def FnLightsUptoCardSaid : Prop := Claim7.holds Tryd.pinned (.plain (OpenSpec.upto fnLightsSpec)) fnLightsUptoCard
end Rows
end Go.Proofs.YtjlaidjogladaaaDoor
