/-
  DERIVED. GIVEN WITH THE SEED: THE CARDS: each row of YtlgaaflhpplboaaDoorRows.lean that lists a variable, with what it lists TIED to the program's text (the seventh form; the later family's looks); each row that meets fmt, with fmt's text TOLD by the authors' own Lean function (tested against real Go, not proved from fmt's source: count such statements apart). THE CARD IS WHAT COUNTS. Prove the row's statement (the work); the ties are given (YtlgaaflhpplboaaDoorTie.lean); close each card by the builder's one call (the guide's Derived/Test/ToyasCard.lean, 'card_holds'). Laid BY PROGRAM, IN A SANDBOX (cutbox-door.mjs). By AI agents, Wed Nov 11 2026. No macro, syntax, notation, axiom, sorry.
-/
import Derived.Test.YtlgaaflhpplboaaDoorRows
import GoSem.ClaimSeven
namespace Go.Proofs.YtlgaaflhpplboaaDoor
namespace Rows

/-- THE TIED CARD OF 'laws.FnExactAreaLine'. -/
def fnExactAreaLineCard : Claim7 := { stood := { row := fnExactAreaLineRow, standIns := [], harness := (true, "867fb8645788b00105c211bcdc781f1953cb9983dad9d149397f795e9bb2bc58"), looks := false }, kinds := [], alts := [], laidByText := true, laidKinds := [.data, .data, .data], laidTests := true, laidLooks := .later }
def FnExactAreaLineCardSaid : Prop := Claim7.holds Tryd.pinned (.plain (OpenSpec.ofChange fnExactAreaLineSpec)) fnExactAreaLineCard

/-- THE TIED CARD OF 'laws.FnExactLightText'. -/
def fnExactLightTextCard : Claim7 := { stood := { row := fnExactLightTextRow, standIns := [], harness := (true, "867fb8645788b00105c211bcdc781f1953cb9983dad9d149397f795e9bb2bc58"), looks := false }, kinds := [], alts := [], laidByText := true, laidKinds := [.data, .data, .data], laidTests := true, laidLooks := .later }
def FnExactLightTextCardSaid : Prop := Claim7.holds Tryd.pinned (.plain (OpenSpec.ofChange fnExactLightTextSpec)) fnExactLightTextCard

/-- THE SECOND FORM's CARD OF 'laws.FnExactAreaLine'. -/
def fnExactAreaLineUptoCard : Claim7 := { stood := { row := fnExactAreaLineUptoRow, standIns := [], harness := (true, "867fb8645788b00105c211bcdc781f1953cb9983dad9d149397f795e9bb2bc58"), looks := false }, kinds := [], alts := [], laidByText := true, laidKinds := [.data, .data, .data], laidTests := true, laidLooks := .later }
def FnExactAreaLineUptoCardSaid : Prop := Claim7.holds Tryd.pinned (.plain (OpenSpec.upto fnExactAreaLineSpec)) fnExactAreaLineUptoCard

/-- THE SECOND FORM's CARD OF 'laws.FnExactLightText'. -/
def fnExactLightTextUptoCard : Claim7 := { stood := { row := fnExactLightTextUptoRow, standIns := [], harness := (true, "867fb8645788b00105c211bcdc781f1953cb9983dad9d149397f795e9bb2bc58"), looks := false }, kinds := [], alts := [], laidByText := true, laidKinds := [.data, .data, .data], laidTests := true, laidLooks := .later }
def FnExactLightTextUptoCardSaid : Prop := Claim7.holds Tryd.pinned (.plain (OpenSpec.upto fnExactLightTextSpec)) fnExactLightTextUptoCard
end Rows
end Go.Proofs.YtlgaaflhpplboaaDoor
