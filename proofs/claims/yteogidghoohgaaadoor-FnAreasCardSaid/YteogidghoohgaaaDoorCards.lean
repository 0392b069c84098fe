/-
  DERIVED. GIVEN WITH THE SEED: THE CARDS: each row of YteogidghoohgaaaDoorRows.lean that lists a variable, with what it lists TIED to the program's text (the seventh form; the later family's looks); each row that meets fmt, with fmt's text TOLD by the authors' own Lean function (tested against real Go, not proved from fmt's source: count such statements apart). THE CARD IS WHAT COUNTS. Prove the row's statement (the work); the ties are given (YteogidghoohgaaaDoorTie.lean); close each card by the builder's one call (the guide's Derived/Test/ToyasCard.lean, 'card_holds'). Laid BY PROGRAM, IN A SANDBOX (cutbox-door.mjs). By AI agents, Wed Nov 11 2026. No macro, syntax, notation, axiom, sorry.
-/
import Derived.Test.YteogidghoohgaaaDoorRows
import GoSem.ClaimSeven
namespace Go.Proofs.YteogidghoohgaaaDoor
namespace Rows

/-- THE TIED CARD OF 'laws.FnExactSurveyReport'. -/
def fnExactSurveyReportCard : Claim7 := { stood := { row := fnExactSurveyReportRow, standIns := [], harness := (true, "15e6302ead8ef9dc0ae80658cca5ed4855f593a1bdf74bf32020057ea1064b2e"), looks := false }, kinds := [], alts := [], laidByText := true, laidKinds := [.data, .data, .data], laidTests := true, laidLooks := .later }
def FnExactSurveyReportCardSaid : Prop := Claim7.holds Tryd.pinned (.plain (OpenSpec.ofChange fnExactSurveyReportSpec)) fnExactSurveyReportCard

/-- THE TIED CARD OF 'laws.FnAreas'. -/
def fnAreasCard : Claim7 := { stood := { row := fnAreasRow, standIns := [], harness := (true, "15e6302ead8ef9dc0ae80658cca5ed4855f593a1bdf74bf32020057ea1064b2e"), looks := false }, kinds := [], alts := [], laidByText := true, laidKinds := [.data, .data, .data], laidTests := true, laidLooks := .later }
def FnAreasCardSaid : Prop := Claim7.holds Tryd.pinned (.plain (OpenSpec.ofChange fnAreasSpec)) fnAreasCard

/-- THE SECOND FORM's CARD OF 'laws.FnExactSurveyReport'. -/
def fnExactSurveyReportUptoCard : Claim7 := { stood := { row := fnExactSurveyReportUptoRow, standIns := [], harness := (true, "15e6302ead8ef9dc0ae80658cca5ed4855f593a1bdf74bf32020057ea1064b2e"), looks := false }, kinds := [], alts := [], laidByText := true, laidKinds := [.data, .data, .data], laidTests := true, laidLooks := .later }
def FnExactSurveyReportUptoCardSaid : Prop := Claim7.holds Tryd.pinned (.plain (OpenSpec.upto fnExactSurveyReportSpec)) fnExactSurveyReportUptoCard

/-- THE SECOND FORM's CARD OF 'laws.FnAreas'. -/
def fnAreasUptoCard : Claim7 := { stood := { row := fnAreasUptoRow, standIns := [], harness := (true, "15e6302ead8ef9dc0ae80658cca5ed4855f593a1bdf74bf32020057ea1064b2e"), looks := false }, kinds := [], alts := [], laidByText := true, laidKinds := [.data, .data, .data], laidTests := true, laidLooks := .later }
def FnAreasUptoCardSaid : Prop := Claim7.holds Tryd.pinned (.plain (OpenSpec.upto fnAreasSpec)) fnAreasUptoCard
end Rows
end Go.Proofs.YteogidghoohgaaaDoor
