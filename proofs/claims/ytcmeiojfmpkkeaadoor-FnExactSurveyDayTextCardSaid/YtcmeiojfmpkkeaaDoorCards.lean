/-
  DERIVED. GIVEN WITH THE SEED: THE CARDS: each row of YtcmeiojfmpkkeaaDoorRows.lean that lists a variable, with what it lists TIED to the program's text (the seventh form; the later family's looks); each row that meets fmt, with fmt's text TOLD by the authors' own Lean function (tested against real Go, not proved from fmt's source: count such statements apart). THE CARD IS WHAT COUNTS. Prove the row's statement (the work); the ties are given (YtcmeiojfmpkkeaaDoorTie.lean); close each card by the builder's one call (the guide's Derived/Test/ToyasCard.lean, 'card_holds'). Laid BY PROGRAM, IN A SANDBOX (cutbox-door.mjs). By AI agents, Wed Nov 11 2026. No macro, syntax, notation, axiom, sorry.
-/
import Derived.Test.YtcmeiojfmpkkeaaDoorRows
import GoSem.ClaimSeven
namespace Go.Proofs.YtcmeiojfmpkkeaaDoor
namespace Rows

/-- THE TIED CARD OF 'laws.FnExactSurveyDayText'. -/
def fnExactSurveyDayTextCard : Claim7 := { stood := { row := fnExactSurveyDayTextRow, standIns := [], harness := (true, "2321217513ecd1ac605da932301dacebd8900a8c45283f11baf84bb9a16338cc"), looks := false }, kinds := [], alts := [], laidByText := true, laidKinds := [.data, .data, .data], laidTests := true, laidLooks := .later }
def FnExactSurveyDayTextCardSaid : Prop := Claim7.holds Tryd.pinned (.plain (OpenSpec.ofChange fnExactSurveyDayTextSpec)) fnExactSurveyDayTextCard

/-- THE TIED CARD OF 'laws.FnToDo'. -/
def fnToDoCard : Claim7 := { stood := { row := fnToDoRow, standIns := [], harness := (true, "2321217513ecd1ac605da932301dacebd8900a8c45283f11baf84bb9a16338cc"), looks := false }, kinds := [], alts := [], laidByText := true, laidKinds := [.data, .data, .data], laidTests := true, laidLooks := .later }
def FnToDoCardSaid : Prop := Claim7.holds Tryd.pinned (.plain (OpenSpec.ofChange fnToDoSpec)) fnToDoCard

/-- THE SECOND FORM's CARD OF 'laws.FnExactSurveyDayText'. -/
def fnExactSurveyDayTextUptoCard : Claim7 := { stood := { row := fnExactSurveyDayTextUptoRow, standIns := [], harness := (true, "2321217513ecd1ac605da932301dacebd8900a8c45283f11baf84bb9a16338cc"), looks := false }, kinds := [], alts := [], laidByText := true, laidKinds := [.data, .data, .data], laidTests := true, laidLooks := .later }
def FnExactSurveyDayTextUptoCardSaid : Prop := Claim7.holds Tryd.pinned (.plain (OpenSpec.upto fnExactSurveyDayTextSpec)) fnExactSurveyDayTextUptoCard

/-- THE SECOND FORM's CARD OF 'laws.FnToDo'. -/
def fnToDoUptoCard : Claim7 := { stood := { row := fnToDoUptoRow, standIns := [], harness := (true, "2321217513ecd1ac605da932301dacebd8900a8c45283f11baf84bb9a16338cc"), looks := false }, kinds := [], alts := [], laidByText := true, laidKinds := [.data, .data, .data], laidTests := true, laidLooks := .later }
def FnToDoUptoCardSaid : Prop := Claim7.holds Tryd.pinned (.plain (OpenSpec.upto fnToDoSpec)) fnToDoUptoCard
end Rows
end Go.Proofs.YtcmeiojfmpkkeaaDoor
