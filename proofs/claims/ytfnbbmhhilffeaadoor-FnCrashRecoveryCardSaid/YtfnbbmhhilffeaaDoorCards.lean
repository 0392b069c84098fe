/-
  DERIVED. GIVEN WITH THE SEED: THE CARDS: each row of YtfnbbmhhilffeaaDoorRows.lean that lists a variable, with what it lists TIED to the program's text (the seventh form; the later family's looks); each row that meets fmt, with fmt's text TOLD by the authors' own Lean function (tested against real Go, not proved from fmt's source: count such statements apart). THE CARD IS WHAT COUNTS. Prove the row's statement (the work); the ties are given (YtfnbbmhhilffeaaDoorTie.lean); close each card by the builder's one call (the guide's Derived/Test/ToyasCard.lean, 'card_holds'). Laid BY PROGRAM, IN A SANDBOX (cutbox-door.mjs). By AI agents, Wed Nov 11 2026. No macro, syntax, notation, axiom, sorry.
-/
import Derived.Test.YtfnbbmhhilffeaaDoorRows
import GoSem.ClaimSeven
namespace Go.Proofs.YtfnbbmhhilffeaaDoor
namespace Rows

/-- THE TIED CARD OF 'laws.FnLog'. -/
def fnLogCard : Claim7 := { stood := { row := fnLogRow, standIns := [], harness := (true, "dced4d44b12b30deeb126bfd523f108ea7b23894ec39f5ca1398b9cbe1afb754"), looks := false }, kinds := [], alts := [], laidByText := true, laidKinds := [.data, .data, .data], laidTests := true, laidLooks := .later }
def FnLogCardSaid : Prop := Claim7.holds Tryd.pinned (.plain (OpenSpec.ofChange fnLogSpec)) fnLogCard

/-- THE TIED CARD OF 'laws.FnLogLines'. -/
def fnLogLinesCard : Claim7 := { stood := { row := fnLogLinesRow, standIns := [], harness := (true, "dced4d44b12b30deeb126bfd523f108ea7b23894ec39f5ca1398b9cbe1afb754"), looks := false }, kinds := [], alts := [], laidByText := true, laidKinds := [.data, .data, .data], laidTests := true, laidLooks := .later }
def FnLogLinesCardSaid : Prop := Claim7.holds Tryd.pinned (.plain (OpenSpec.ofChange fnLogLinesSpec)) fnLogLinesCard

/-- THE TIED CARD OF 'laws.FnCrashRecovery'. -/
def fnCrashRecoveryCard : Claim7 := { stood := { row := fnCrashRecoveryRow, standIns := [], harness := (true, "dced4d44b12b30deeb126bfd523f108ea7b23894ec39f5ca1398b9cbe1afb754"), looks := false }, kinds := [], alts := [], laidByText := true, laidKinds := [.data, .data, .data], laidTests := true, laidLooks := .later }
def FnCrashRecoveryCardSaid : Prop := Claim7.holds Tryd.pinned (.plain (OpenSpec.ofChange fnCrashRecoverySpec)) fnCrashRecoveryCard

/-- THE SECOND FORM's CARD OF 'laws.FnLog'. -/
def fnLogUptoCard : Claim7 := { stood := { row := fnLogUptoRow, standIns := [], harness := (true, "dced4d44b12b30deeb126bfd523f108ea7b23894ec39f5ca1398b9cbe1afb754"), looks := false }, kinds := [], alts := [], laidByText := true, laidKinds := [.data, .data, .data], laidTests := true, laidLooks := .later }
def FnLogUptoCardSaid : Prop := Claim7.holds Tryd.pinned (.plain (OpenSpec.upto fnLogSpec)) fnLogUptoCard

/-- THE SECOND FORM's CARD OF 'laws.FnLogLines'. -/
def fnLogLinesUptoCard : Claim7 := { stood := { row := fnLogLinesUptoRow, standIns := [], harness := (true, "dced4d44b12b30deeb126bfd523f108ea7b23894ec39f5ca1398b9cbe1afb754"), looks := false }, kinds := [], alts := [], laidByText := true, laidKinds := [.data, .data, .data], laidTests := true, laidLooks := .later }
def FnLogLinesUptoCardSaid : Prop := Claim7.holds Tryd.pinned (.plain (OpenSpec.upto fnLogLinesSpec)) fnLogLinesUptoCard

/-- THE SECOND FORM's CARD OF 'laws.FnCrashRecovery'. -/
def fnCrashRecoveryUptoCard : Claim7 := { stood := { row := fnCrashRecoveryUptoRow, standIns := [], harness := (true, "dced4d44b12b30deeb126bfd523f108ea7b23894ec39f5ca1398b9cbe1afb754"), looks := false }, kinds := [], alts := [], laidByText := true, laidKinds := [.data, .data, .data], laidTests := true, laidLooks := .later }
def FnCrashRecoveryUptoCardSaid : Prop := Claim7.holds Tryd.pinned (.plain (OpenSpec.upto fnCrashRecoverySpec)) fnCrashRecoveryUptoCard
end Rows
end Go.Proofs.YtfnbbmhhilffeaaDoor
