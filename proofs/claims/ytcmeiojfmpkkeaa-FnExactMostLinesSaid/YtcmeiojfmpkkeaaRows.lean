/-
  No cell of these rows narrows 'for every input' (looked for: loops, veiled, ifaces, maps, wideKeys, modest, calm, conditions, laid).
  DERIVED. THE GIVEN ROWS OF THIS SEAT. 9 by the template 'for every input the law returns true; each argument reads behind the call as it read before'; 0 by the template 'total and deterministic' (their statements: YtcmeiojfmpkkeaaTotals.lean).
  GIVEN WITH THE SEED: the statements are not yours to turn. If you find one false, say at which input.
  Laid BY PROGRAM, IN A SANDBOX (cutbox-rows.mjs): the forced cells as the released guide's own fill.sh prints them over the translation 2ff197bb477b1152… (all of the seat's roots in one cut). By AI agents, Wed Nov 11 2026. No macro, syntax, notation, axiom, sorry.
-/
import Derived.Test.YtcmeiojfmpkkeaaChecked
import GoSem.Claim
import GoSem.ClaimJoined
import GoSem.ClaimMapViews
import Derived.JoinedTies
import Derived.KernelRfl
namespace Go.Proofs.Ytcmeiojfmpkkeaa
/- THE CELL 'sum', in the pinned program and in every row, IS THE sha256 OF THE DUMP (.gsa) THAT YtcmeiojfmpkkeaaProg.lean LOADS. Nothing in Lean hashes anything: it is a label: what it is worth is what the hold of that sum in a sandbox is worth. -/
noncomputable def Try.pinned : Pinned := { name := "ytcmeiojfmpkkeaa", sum := "2ff197bb477b1152ab76587a012b8efc8c0315f1d118fda7720bba3bd5775830", checked := Try.checked }
namespace Rows
def none {H : Type} : Left H := { results := [], args := [] }

/-- 'laws.FnExactIsSurveyDay': WHATEVER THE INPUT: true; the input reads as it did. -/
def fnExactIsSurveyDaySpec : ChangeSpec := { name := "fnExactIsSurveyDay", fn := fun _ => fun
  | [d] => { results := [.lit (.bool true)], args := [d] }
  | _ => none }
def fnExactIsSurveyDayRow : OpenClaim := { program := "ytcmeiojfmpkkeaa", sum := "2ff197bb477b1152ab76587a012b8efc8c0315f1d118fda7720bba3bd5775830", func := "loop.example/g01031/laws.FnExactIsSurveyDay", spec := "fnExactIsSurveyDay", apart := false }
def FnExactIsSurveyDaySaid : Prop := fnExactIsSurveyDayRow.holds Try.pinned (OpenSpec.ofChange fnExactIsSurveyDaySpec)

/-- ITS FALSE NEIGHBOUR: 'it returns false'. Refute it at one input. -/
def fnExactIsSurveyDayWrong : ChangeSpec := { name := "fnExactIsSurveyDay", fn := fun _ => fun
  | [d] => { results := [.lit (.bool false)], args := [d] }
  | _ => none }
def FnExactIsSurveyDayWrongFalsely : Prop := fnExactIsSurveyDayRow.holds Try.pinned (OpenSpec.ofChange fnExactIsSurveyDayWrong)

/-- 'laws.FnExactCastIsGood': WHATEVER THE INPUT: true; the input reads as it did. -/
def fnExactCastIsGoodSpec : ChangeSpec := { name := "fnExactCastIsGood", fn := fun _ => fun
  | [d] => { results := [.lit (.bool true)], args := [d] }
  | _ => none }
def fnExactCastIsGoodRow : OpenClaim := { program := "ytcmeiojfmpkkeaa", sum := "2ff197bb477b1152ab76587a012b8efc8c0315f1d118fda7720bba3bd5775830", func := "loop.example/g01031/laws.FnExactCastIsGood", spec := "fnExactCastIsGood", apart := false }
def FnExactCastIsGoodSaid : Prop := fnExactCastIsGoodRow.holds Try.pinned (OpenSpec.ofChange fnExactCastIsGoodSpec)

/-- ITS FALSE NEIGHBOUR: 'it returns false'. Refute it at one input. -/
def fnExactCastIsGoodWrong : ChangeSpec := { name := "fnExactCastIsGood", fn := fun _ => fun
  | [d] => { results := [.lit (.bool false)], args := [d] }
  | _ => none }
def FnExactCastIsGoodWrongFalsely : Prop := fnExactCastIsGoodRow.holds Try.pinned (OpenSpec.ofChange fnExactCastIsGoodWrong)

/-- 'laws.FnExactSurveyMinutesLeft': WHATEVER THE INPUT: true; the input reads as it did. -/
def fnExactSurveyMinutesLeftSpec : ChangeSpec := { name := "fnExactSurveyMinutesLeft", fn := fun _ => fun
  | [d] => { results := [.lit (.bool true)], args := [d] }
  | _ => none }
def fnExactSurveyMinutesLeftRow : OpenClaim := { program := "ytcmeiojfmpkkeaa", sum := "2ff197bb477b1152ab76587a012b8efc8c0315f1d118fda7720bba3bd5775830", func := "loop.example/g01031/laws.FnExactSurveyMinutesLeft", spec := "fnExactSurveyMinutesLeft", apart := false }
def FnExactSurveyMinutesLeftSaid : Prop := fnExactSurveyMinutesLeftRow.holds Try.pinned (OpenSpec.ofChange fnExactSurveyMinutesLeftSpec)

/-- ITS FALSE NEIGHBOUR: 'it returns false'. Refute it at one input. -/
def fnExactSurveyMinutesLeftWrong : ChangeSpec := { name := "fnExactSurveyMinutesLeft", fn := fun _ => fun
  | [d] => { results := [.lit (.bool false)], args := [d] }
  | _ => none }
def FnExactSurveyMinutesLeftWrongFalsely : Prop := fnExactSurveyMinutesLeftRow.holds Try.pinned (OpenSpec.ofChange fnExactSurveyMinutesLeftWrong)

/-- 'laws.FnExactNewSurveyDay': WHATEVER THE INPUT: true; the input reads as it did. -/
def fnExactNewSurveyDaySpec : ChangeSpec := { name := "fnExactNewSurveyDay", fn := fun _ => fun
  | [d1, d2] => { results := [.lit (.bool true)], args := [d1, d2] }
  | _ => none }
def fnExactNewSurveyDayRow : OpenClaim := { program := "ytcmeiojfmpkkeaa", sum := "2ff197bb477b1152ab76587a012b8efc8c0315f1d118fda7720bba3bd5775830", func := "loop.example/g01031/laws.FnExactNewSurveyDay", spec := "fnExactNewSurveyDay", apart := false }
def FnExactNewSurveyDaySaid : Prop := fnExactNewSurveyDayRow.holds Try.pinned (OpenSpec.ofChange fnExactNewSurveyDaySpec)

/-- ITS FALSE NEIGHBOUR: 'it returns false'. Refute it at one input. -/
def fnExactNewSurveyDayWrong : ChangeSpec := { name := "fnExactNewSurveyDay", fn := fun _ => fun
  | [d1, d2] => { results := [.lit (.bool false)], args := [d1, d2] }
  | _ => none }
def FnExactNewSurveyDayWrongFalsely : Prop := fnExactNewSurveyDayRow.holds Try.pinned (OpenSpec.ofChange fnExactNewSurveyDayWrong)

/-- 'laws.FnExactLinesToDo': WHATEVER THE INPUT: true; the input reads as it did. -/
def fnExactLinesToDoSpec : ChangeSpec := { name := "fnExactLinesToDo", fn := fun _ => fun
  | [d] => { results := [.lit (.bool true)], args := [d] }
  | _ => none }
def fnExactLinesToDoRow : OpenClaim := { program := "ytcmeiojfmpkkeaa", sum := "2ff197bb477b1152ab76587a012b8efc8c0315f1d118fda7720bba3bd5775830", func := "loop.example/g01031/laws.FnExactLinesToDo", spec := "fnExactLinesToDo", apart := false }
def FnExactLinesToDoSaid : Prop := fnExactLinesToDoRow.holds Try.pinned (OpenSpec.ofChange fnExactLinesToDoSpec)

/-- ITS FALSE NEIGHBOUR: 'it returns false'. Refute it at one input. -/
def fnExactLinesToDoWrong : ChangeSpec := { name := "fnExactLinesToDo", fn := fun _ => fun
  | [d] => { results := [.lit (.bool false)], args := [d] }
  | _ => none }
def FnExactLinesToDoWrongFalsely : Prop := fnExactLinesToDoRow.holds Try.pinned (OpenSpec.ofChange fnExactLinesToDoWrong)

/-- 'laws.FnExactStepDay': WHATEVER THE INPUT: true; the input reads as it did. -/
def fnExactStepDaySpec : ChangeSpec := { name := "fnExactStepDay", fn := fun _ => fun
  | [d1, d2] => { results := [.lit (.bool true)], args := [d1, d2] }
  | _ => none }
def fnExactStepDayRow : OpenClaim := { program := "ytcmeiojfmpkkeaa", sum := "2ff197bb477b1152ab76587a012b8efc8c0315f1d118fda7720bba3bd5775830", func := "loop.example/g01031/laws.FnExactStepDay", spec := "fnExactStepDay", apart := false }
def FnExactStepDaySaid : Prop := fnExactStepDayRow.holds Try.pinned (OpenSpec.ofChange fnExactStepDaySpec)

/-- ITS FALSE NEIGHBOUR: 'it returns false'. Refute it at one input. -/
def fnExactStepDayWrong : ChangeSpec := { name := "fnExactStepDay", fn := fun _ => fun
  | [d1, d2] => { results := [.lit (.bool false)], args := [d1, d2] }
  | _ => none }
def FnExactStepDayWrongFalsely : Prop := fnExactStepDayRow.holds Try.pinned (OpenSpec.ofChange fnExactStepDayWrong)

/-- 'laws.FnExactRunDay': WHATEVER THE INPUT: true; the input reads as it did. -/
def fnExactRunDaySpec : ChangeSpec := { name := "fnExactRunDay", fn := fun _ => fun
  | [d1, d2] => { results := [.lit (.bool true)], args := [d1, d2] }
  | _ => none }
def fnExactRunDayRow : OpenClaim := { program := "ytcmeiojfmpkkeaa", sum := "2ff197bb477b1152ab76587a012b8efc8c0315f1d118fda7720bba3bd5775830", func := "loop.example/g01031/laws.FnExactRunDay", spec := "fnExactRunDay", apart := false }
def FnExactRunDaySaid : Prop := fnExactRunDayRow.holds Try.pinned (OpenSpec.ofChange fnExactRunDaySpec)

/-- ITS FALSE NEIGHBOUR: 'it returns false'. Refute it at one input. -/
def fnExactRunDayWrong : ChangeSpec := { name := "fnExactRunDay", fn := fun _ => fun
  | [d1, d2] => { results := [.lit (.bool false)], args := [d1, d2] }
  | _ => none }
def FnExactRunDayWrongFalsely : Prop := fnExactRunDayRow.holds Try.pinned (OpenSpec.ofChange fnExactRunDayWrong)

/-- 'laws.FnExactMostLines': WHATEVER THE INPUT: true; the input reads as it did. -/
def fnExactMostLinesSpec : ChangeSpec := { name := "fnExactMostLines", fn := fun _ => fun
  | [d] => { results := [.lit (.bool true)], args := [d] }
  | _ => none }
def fnExactMostLinesRow : OpenClaim := { program := "ytcmeiojfmpkkeaa", sum := "2ff197bb477b1152ab76587a012b8efc8c0315f1d118fda7720bba3bd5775830", func := "loop.example/g01031/laws.FnExactMostLines", spec := "fnExactMostLines", recurses := true, apart := false }
def FnExactMostLinesSaid : Prop := fnExactMostLinesRow.holds Try.pinned (OpenSpec.ofChange fnExactMostLinesSpec)

/-- ITS FALSE NEIGHBOUR: 'it returns false'. Refute it at one input. -/
def fnExactMostLinesWrong : ChangeSpec := { name := "fnExactMostLines", fn := fun _ => fun
  | [d] => { results := [.lit (.bool false)], args := [d] }
  | _ => none }
def FnExactMostLinesWrongFalsely : Prop := fnExactMostLinesRow.holds Try.pinned (OpenSpec.ofChange fnExactMostLinesWrong)

/-- 'laws.FnSurveyDays': WHATEVER THE INPUT: true; the input reads as it did. -/
def fnSurveyDaysSpec : ChangeSpec := { name := "fnSurveyDays", fn := fun _ => fun
  | [d] => { results := [.lit (.bool true)], args := [d] }
  | _ => none }
def fnSurveyDaysRow : OpenClaim := { program := "ytcmeiojfmpkkeaa", sum := "2ff197bb477b1152ab76587a012b8efc8c0315f1d118fda7720bba3bd5775830", func := "loop.example/g01031/laws.FnSurveyDays", spec := "fnSurveyDays", apart := false }
def FnSurveyDaysSaid : Prop := fnSurveyDaysRow.holds Try.pinned (OpenSpec.ofChange fnSurveyDaysSpec)

/-- ITS FALSE NEIGHBOUR: 'it returns false'. Refute it at one input. -/
def fnSurveyDaysWrong : ChangeSpec := { name := "fnSurveyDays", fn := fun _ => fun
  | [d] => { results := [.lit (.bool false)], args := [d] }
  | _ => none }
def FnSurveyDaysWrongFalsely : Prop := fnSurveyDaysRow.holds Try.pinned (OpenSpec.ofChange fnSurveyDaysWrong)

/- THE SECOND FORM. 'bulk': how many values and letters a reading holds, each counted each time it is reached (what is shared counts as often as it is met; a slice's spare places count too). A statement '..UptoSaid' is the law's where the arguments, and the package variables that the reading takes, are together of bulk at most 1048576: NARROWER than '..Said'. Prove '..Said' where nothing that the law and all that it calls make is longer than what came in: it says more and counts as full. Else prove '..UptoSaid'. A law counts once. -/
mutual
def uptoBulk {H : Type} : DataW H → Nat
  | .lit (.string bytes) => bytes.length + 1
  | .lit _ => 1
  | .nil => 1
  | .ptr d => uptoBulk d + 1
  | .slice elems spare => uptoBulkAll elems + uptoBulkAll spare + 1
  | .agg parts => uptoBulkAll parts + 1
  | .iface _ d => uptoBulk d + 1
  | .map entries => uptoBulkEntries entries + 1
  | .held _ => 1
def uptoBulkAll {H : Type} : List (DataW H) → Nat
  | [] => 0
  | d :: r => uptoBulk d + uptoBulkAll r
def uptoBulkEntries {H : Type} : List (Lit × DataW H) → Nat
  | [] => 0
  | x :: r => uptoBulkEntry x + uptoBulkEntries r
def uptoBulkEntry {H : Type} : Lit × DataW H → Nat
  | (.string bytes, d) => bytes.length + uptoBulk d + 1
  | (_, d) => uptoBulk d + 1
 end
def uptoSmall : (H : Type) → List (DataW H) → Bool := fun _ ds => decide (uptoBulkAll ds ≤ 1048576)
def OpenSpec.upto (s : _root_.Go.ChangeSpec) : _root_.Go.OpenSpec := { _root_.Go.OpenSpec.ofChange s with cond := some uptoSmall }

/-- 'laws.FnExactIsSurveyDay', WHERE WHAT IT READS IS OF BULK AT MOST 1048576: true; the input reads as it did. -/
def fnExactIsSurveyDayUptoRow : OpenClaim := { program := "ytcmeiojfmpkkeaa", sum := "2ff197bb477b1152ab76587a012b8efc8c0315f1d118fda7720bba3bd5775830", func := "loop.example/g01031/laws.FnExactIsSurveyDay", spec := "fnExactIsSurveyDay", apart := false, narrowed := true }
def FnExactIsSurveyDayUptoSaid : Prop := fnExactIsSurveyDayUptoRow.holds Try.pinned (OpenSpec.upto fnExactIsSurveyDaySpec)

/-- 'laws.FnExactCastIsGood', WHERE WHAT IT READS IS OF BULK AT MOST 1048576: true; the input reads as it did. -/
def fnExactCastIsGoodUptoRow : OpenClaim := { program := "ytcmeiojfmpkkeaa", sum := "2ff197bb477b1152ab76587a012b8efc8c0315f1d118fda7720bba3bd5775830", func := "loop.example/g01031/laws.FnExactCastIsGood", spec := "fnExactCastIsGood", apart := false, narrowed := true }
def FnExactCastIsGoodUptoSaid : Prop := fnExactCastIsGoodUptoRow.holds Try.pinned (OpenSpec.upto fnExactCastIsGoodSpec)

/-- 'laws.FnExactSurveyMinutesLeft', WHERE WHAT IT READS IS OF BULK AT MOST 1048576: true; the input reads as it did. -/
def fnExactSurveyMinutesLeftUptoRow : OpenClaim := { program := "ytcmeiojfmpkkeaa", sum := "2ff197bb477b1152ab76587a012b8efc8c0315f1d118fda7720bba3bd5775830", func := "loop.example/g01031/laws.FnExactSurveyMinutesLeft", spec := "fnExactSurveyMinutesLeft", apart := false, narrowed := true }
def FnExactSurveyMinutesLeftUptoSaid : Prop := fnExactSurveyMinutesLeftUptoRow.holds Try.pinned (OpenSpec.upto fnExactSurveyMinutesLeftSpec)

/-- 'laws.FnExactNewSurveyDay', WHERE WHAT IT READS IS OF BULK AT MOST 1048576: true; the input reads as it did. -/
def fnExactNewSurveyDayUptoRow : OpenClaim := { program := "ytcmeiojfmpkkeaa", sum := "2ff197bb477b1152ab76587a012b8efc8c0315f1d118fda7720bba3bd5775830", func := "loop.example/g01031/laws.FnExactNewSurveyDay", spec := "fnExactNewSurveyDay", apart := false, narrowed := true }
def FnExactNewSurveyDayUptoSaid : Prop := fnExactNewSurveyDayUptoRow.holds Try.pinned (OpenSpec.upto fnExactNewSurveyDaySpec)

/-- 'laws.FnExactLinesToDo', WHERE WHAT IT READS IS OF BULK AT MOST 1048576: true; the input reads as it did. -/
def fnExactLinesToDoUptoRow : OpenClaim := { program := "ytcmeiojfmpkkeaa", sum := "2ff197bb477b1152ab76587a012b8efc8c0315f1d118fda7720bba3bd5775830", func := "loop.example/g01031/laws.FnExactLinesToDo", spec := "fnExactLinesToDo", apart := false, narrowed := true }
def FnExactLinesToDoUptoSaid : Prop := fnExactLinesToDoUptoRow.holds Try.pinned (OpenSpec.upto fnExactLinesToDoSpec)

/-- 'laws.FnExactStepDay', WHERE WHAT IT READS IS OF BULK AT MOST 1048576: true; the input reads as it did. -/
def fnExactStepDayUptoRow : OpenClaim := { program := "ytcmeiojfmpkkeaa", sum := "2ff197bb477b1152ab76587a012b8efc8c0315f1d118fda7720bba3bd5775830", func := "loop.example/g01031/laws.FnExactStepDay", spec := "fnExactStepDay", apart := false, narrowed := true }
def FnExactStepDayUptoSaid : Prop := fnExactStepDayUptoRow.holds Try.pinned (OpenSpec.upto fnExactStepDaySpec)

/-- 'laws.FnExactRunDay', WHERE WHAT IT READS IS OF BULK AT MOST 1048576: true; the input reads as it did. -/
def fnExactRunDayUptoRow : OpenClaim := { program := "ytcmeiojfmpkkeaa", sum := "2ff197bb477b1152ab76587a012b8efc8c0315f1d118fda7720bba3bd5775830", func := "loop.example/g01031/laws.FnExactRunDay", spec := "fnExactRunDay", apart := false, narrowed := true }
def FnExactRunDayUptoSaid : Prop := fnExactRunDayUptoRow.holds Try.pinned (OpenSpec.upto fnExactRunDaySpec)

/-- 'laws.FnExactMostLines', WHERE WHAT IT READS IS OF BULK AT MOST 1048576: true; the input reads as it did. -/
def fnExactMostLinesUptoRow : OpenClaim := { program := "ytcmeiojfmpkkeaa", sum := "2ff197bb477b1152ab76587a012b8efc8c0315f1d118fda7720bba3bd5775830", func := "loop.example/g01031/laws.FnExactMostLines", spec := "fnExactMostLines", recurses := true, apart := false, narrowed := true }
def FnExactMostLinesUptoSaid : Prop := fnExactMostLinesUptoRow.holds Try.pinned (OpenSpec.upto fnExactMostLinesSpec)

/-- 'laws.FnSurveyDays', WHERE WHAT IT READS IS OF BULK AT MOST 1048576: true; the input reads as it did. -/
def fnSurveyDaysUptoRow : OpenClaim := { program := "ytcmeiojfmpkkeaa", sum := "2ff197bb477b1152ab76587a012b8efc8c0315f1d118fda7720bba3bd5775830", func := "loop.example/g01031/laws.FnSurveyDays", spec := "fnSurveyDays", apart := false, narrowed := true }
def FnSurveyDaysUptoSaid : Prop := fnSurveyDaysUptoRow.holds Try.pinned (OpenSpec.upto fnSurveyDaysSpec)

end Rows
end Go.Proofs.Ytcmeiojfmpkkeaa
