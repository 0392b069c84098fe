/-
  No cell of these rows narrows 'for every input' (looked for: loops, veiled, ifaces, maps, wideKeys, modest, calm, conditions, laid).
  DERIVED. THE GIVEN ROWS OF THIS SEAT. 9 by the template 'for every input the law returns true; each argument reads behind the call as it read before'; 0 by the template 'total and deterministic' (their statements: YthpemgjfifjnbaaTotals.lean).
  GIVEN WITH THE SEED: the statements are not yours to turn. If you find one false, say at which input.
  Laid BY PROGRAM, IN A SANDBOX (cutbox-rows.mjs): the forced cells as the released guide's own fill.sh prints them over the translation b53930e5b3243091… (all of the seat's roots in one cut). By AI agents, Wed Nov 11 2026. No macro, syntax, notation, axiom, sorry.
-/
import Derived.Test.YthpemgjfifjnbaaChecked
import GoSem.Claim
import GoSem.ClaimJoined
import GoSem.ClaimMapViews
import Derived.JoinedTies
import Derived.KernelRfl
namespace Go.Proofs.Ythpemgjfifjnbaa
/- THE CELL 'sum', in the pinned program and in every row, IS THE sha256 OF THE DUMP (.gsa) THAT YthpemgjfifjnbaaProg.lean LOADS. Nothing in Lean hashes anything: it is a label: what it is worth is what the hold of that sum in a sandbox is worth. -/
noncomputable def Try.pinned : Pinned := { name := "ythpemgjfifjnbaa", sum := "b53930e5b32430918f0ec80847ffa7dcf642251efb336379ea3099a045d93120", checked := Try.checked }
namespace Rows
def none {H : Type} : Left H := { results := [], args := [] }

/-- 'laws.FnExactPeriodOf': WHATEVER THE INPUT: true; the input reads as it did. -/
def fnExactPeriodOfSpec : ChangeSpec := { name := "fnExactPeriodOf", fn := fun _ => fun
  | [d] => { results := [.lit (.bool true)], args := [d] }
  | _ => none }
def fnExactPeriodOfRow : OpenClaim := { program := "ythpemgjfifjnbaa", sum := "b53930e5b32430918f0ec80847ffa7dcf642251efb336379ea3099a045d93120", func := "loop.example/g01031/laws.FnExactPeriodOf", spec := "fnExactPeriodOf", apart := false }
def FnExactPeriodOfSaid : Prop := fnExactPeriodOfRow.holds Try.pinned (OpenSpec.ofChange fnExactPeriodOfSpec)

/-- ITS FALSE NEIGHBOUR: 'it returns false'. Refute it at one input. -/
def fnExactPeriodOfWrong : ChangeSpec := { name := "fnExactPeriodOf", fn := fun _ => fun
  | [d] => { results := [.lit (.bool false)], args := [d] }
  | _ => none }
def FnExactPeriodOfWrongFalsely : Prop := fnExactPeriodOfRow.holds Try.pinned (OpenSpec.ofChange fnExactPeriodOfWrong)

/-- 'laws.FnExactIsLit': WHATEVER THE INPUT: true; the input reads as it did. -/
def fnExactIsLitSpec : ChangeSpec := { name := "fnExactIsLit", fn := fun _ => fun
  | [d1, d2] => { results := [.lit (.bool true)], args := [d1, d2] }
  | _ => none }
def fnExactIsLitRow : OpenClaim := { program := "ythpemgjfifjnbaa", sum := "b53930e5b32430918f0ec80847ffa7dcf642251efb336379ea3099a045d93120", func := "loop.example/g01031/laws.FnExactIsLit", spec := "fnExactIsLit", apart := false }
def FnExactIsLitSaid : Prop := fnExactIsLitRow.holds Try.pinned (OpenSpec.ofChange fnExactIsLitSpec)

/-- ITS FALSE NEIGHBOUR: 'it returns false'. Refute it at one input. -/
def fnExactIsLitWrong : ChangeSpec := { name := "fnExactIsLit", fn := fun _ => fun
  | [d1, d2] => { results := [.lit (.bool false)], args := [d1, d2] }
  | _ => none }
def FnExactIsLitWrongFalsely : Prop := fnExactIsLitRow.holds Try.pinned (OpenSpec.ofChange fnExactIsLitWrong)

/-- 'laws.FnExactLitShare': WHATEVER THE INPUT: true; the input reads as it did. -/
def fnExactLitShareSpec : ChangeSpec := { name := "fnExactLitShare", fn := fun _ => fun
  | [d] => { results := [.lit (.bool true)], args := [d] }
  | _ => none }
def fnExactLitShareRow : OpenClaim := { program := "ythpemgjfifjnbaa", sum := "b53930e5b32430918f0ec80847ffa7dcf642251efb336379ea3099a045d93120", func := "loop.example/g01031/laws.FnExactLitShare", spec := "fnExactLitShare", apart := false }
def FnExactLitShareSaid : Prop := fnExactLitShareRow.holds Try.pinned (OpenSpec.ofChange fnExactLitShareSpec)

/-- ITS FALSE NEIGHBOUR: 'it returns false'. Refute it at one input. -/
def fnExactLitShareWrong : ChangeSpec := { name := "fnExactLitShare", fn := fun _ => fun
  | [d] => { results := [.lit (.bool false)], args := [d] }
  | _ => none }
def FnExactLitShareWrongFalsely : Prop := fnExactLitShareRow.holds Try.pinned (OpenSpec.ofChange fnExactLitShareWrong)

/-- 'laws.FnExactAreLights': WHATEVER THE INPUT: true; the input reads as it did. -/
def fnExactAreLightsSpec : ChangeSpec := { name := "fnExactAreLights", fn := fun _ => fun
  | [d] => { results := [.lit (.bool true)], args := [d] }
  | _ => none }
def fnExactAreLightsRow : OpenClaim := { program := "ythpemgjfifjnbaa", sum := "b53930e5b32430918f0ec80847ffa7dcf642251efb336379ea3099a045d93120", func := "loop.example/g01031/laws.FnExactAreLights", spec := "fnExactAreLights", unfollowed := true, recurses := true, apart := false }
def FnExactAreLightsSaid : Prop := fnExactAreLightsRow.holds Try.pinned (OpenSpec.ofChange fnExactAreLightsSpec)

/-- ITS FALSE NEIGHBOUR: 'it returns false'. Refute it at one input. -/
def fnExactAreLightsWrong : ChangeSpec := { name := "fnExactAreLights", fn := fun _ => fun
  | [d] => { results := [.lit (.bool false)], args := [d] }
  | _ => none }
def FnExactAreLightsWrongFalsely : Prop := fnExactAreLightsRow.holds Try.pinned (OpenSpec.ofChange fnExactAreLightsWrong)

/-- 'laws.FnExactAllDarkAt': WHATEVER THE INPUT: true; the input reads as it did. -/
def fnExactAllDarkAtSpec : ChangeSpec := { name := "fnExactAllDarkAt", fn := fun _ => fun
  | [d1, d2] => { results := [.lit (.bool true)], args := [d1, d2] }
  | _ => none }
def fnExactAllDarkAtRow : OpenClaim := { program := "ythpemgjfifjnbaa", sum := "b53930e5b32430918f0ec80847ffa7dcf642251efb336379ea3099a045d93120", func := "loop.example/g01031/laws.FnExactAllDarkAt", spec := "fnExactAllDarkAt", unfollowed := true, recurses := true, apart := false }
def FnExactAllDarkAtSaid : Prop := fnExactAllDarkAtRow.holds Try.pinned (OpenSpec.ofChange fnExactAllDarkAtSpec)

/-- ITS FALSE NEIGHBOUR: 'it returns false'. Refute it at one input. -/
def fnExactAllDarkAtWrong : ChangeSpec := { name := "fnExactAllDarkAt", fn := fun _ => fun
  | [d1, d2] => { results := [.lit (.bool false)], args := [d1, d2] }
  | _ => none }
def FnExactAllDarkAtWrongFalsely : Prop := fnExactAllDarkAtRow.holds Try.pinned (OpenSpec.ofChange fnExactAllDarkAtWrong)

/-- 'laws.FnExactSeenFrom': WHATEVER THE INPUT: true; the input reads as it did. -/
def fnExactSeenFromSpec : ChangeSpec := { name := "fnExactSeenFrom", fn := fun _ => fun
  | [d1, d2] => { results := [.lit (.bool true)], args := [d1, d2] }
  | _ => none }
def fnExactSeenFromRow : OpenClaim := { program := "ythpemgjfifjnbaa", sum := "b53930e5b32430918f0ec80847ffa7dcf642251efb336379ea3099a045d93120", func := "loop.example/g01031/laws.FnExactSeenFrom", spec := "fnExactSeenFrom", unfollowed := true, recurses := true, apart := false }
def FnExactSeenFromSaid : Prop := fnExactSeenFromRow.holds Try.pinned (OpenSpec.ofChange fnExactSeenFromSpec)

/-- ITS FALSE NEIGHBOUR: 'it returns false'. Refute it at one input. -/
def fnExactSeenFromWrong : ChangeSpec := { name := "fnExactSeenFrom", fn := fun _ => fun
  | [d1, d2] => { results := [.lit (.bool false)], args := [d1, d2] }
  | _ => none }
def FnExactSeenFromWrongFalsely : Prop := fnExactSeenFromRow.holds Try.pinned (OpenSpec.ofChange fnExactSeenFromWrong)

/-- 'laws.FnExactLitFrom': WHATEVER THE INPUT: true; the input reads as it did. -/
def fnExactLitFromSpec : ChangeSpec := { name := "fnExactLitFrom", fn := fun _ => fun
  | [d1, d2, d3] => { results := [.lit (.bool true)], args := [d1, d2, d3] }
  | _ => none }
def fnExactLitFromRow : OpenClaim := { program := "ythpemgjfifjnbaa", sum := "b53930e5b32430918f0ec80847ffa7dcf642251efb336379ea3099a045d93120", func := "loop.example/g01031/laws.FnExactLitFrom", spec := "fnExactLitFrom", unfollowed := true, recurses := true, apart := false }
def FnExactLitFromSaid : Prop := fnExactLitFromRow.holds Try.pinned (OpenSpec.ofChange fnExactLitFromSpec)

/-- ITS FALSE NEIGHBOUR: 'it returns false'. Refute it at one input. -/
def fnExactLitFromWrong : ChangeSpec := { name := "fnExactLitFrom", fn := fun _ => fun
  | [d1, d2, d3] => { results := [.lit (.bool false)], args := [d1, d2, d3] }
  | _ => none }
def FnExactLitFromWrongFalsely : Prop := fnExactLitFromRow.holds Try.pinned (OpenSpec.ofChange fnExactLitFromWrong)

/-- 'laws.FnExactConfusablePairs': WHATEVER THE INPUT: true; the input reads as it did. -/
def fnExactConfusablePairsSpec : ChangeSpec := { name := "fnExactConfusablePairs", fn := fun _ => fun
  | [d] => { results := [.lit (.bool true)], args := [d] }
  | _ => none }
def fnExactConfusablePairsRow : OpenClaim := { program := "ythpemgjfifjnbaa", sum := "b53930e5b32430918f0ec80847ffa7dcf642251efb336379ea3099a045d93120", func := "loop.example/g01031/laws.FnExactConfusablePairs", spec := "fnExactConfusablePairs", unfollowed := true, recurses := true, apart := false }
def FnExactConfusablePairsSaid : Prop := fnExactConfusablePairsRow.holds Try.pinned (OpenSpec.ofChange fnExactConfusablePairsSpec)

/-- ITS FALSE NEIGHBOUR: 'it returns false'. Refute it at one input. -/
def fnExactConfusablePairsWrong : ChangeSpec := { name := "fnExactConfusablePairs", fn := fun _ => fun
  | [d] => { results := [.lit (.bool false)], args := [d] }
  | _ => none }
def FnExactConfusablePairsWrongFalsely : Prop := fnExactConfusablePairsRow.holds Try.pinned (OpenSpec.ofChange fnExactConfusablePairsWrong)

/-- 'laws.FnLightLists': WHATEVER THE INPUT: true; the input reads as it did. -/
def fnLightListsSpec : ChangeSpec := { name := "fnLightLists", fn := fun _ => fun
  | [d] => { results := [.lit (.bool true)], args := [d] }
  | _ => none }
def fnLightListsRow : OpenClaim := { program := "ythpemgjfifjnbaa", sum := "b53930e5b32430918f0ec80847ffa7dcf642251efb336379ea3099a045d93120", func := "loop.example/g01031/laws.FnLightLists", spec := "fnLightLists", unfollowed := true, recurses := true, apart := false }
def FnLightListsSaid : Prop := fnLightListsRow.holds Try.pinned (OpenSpec.ofChange fnLightListsSpec)

/-- ITS FALSE NEIGHBOUR: 'it returns false'. Refute it at one input. -/
def fnLightListsWrong : ChangeSpec := { name := "fnLightLists", fn := fun _ => fun
  | [d] => { results := [.lit (.bool false)], args := [d] }
  | _ => none }
def FnLightListsWrongFalsely : Prop := fnLightListsRow.holds Try.pinned (OpenSpec.ofChange fnLightListsWrong)

/- THE SECOND FORM. 'bulk': how many values and letters a reading holds, each counted each time it is reached (what is shared counts as often as it is met; a slice's spare places count too). A statement '..UptoSaid' is the law's where the arguments, and the package variables that the reading takes, are together of bulk at most 1048576: NARROWER than '..Said'. Prove '..Said' where nothing that the law and all that it calls make is longer than what came in: it says more and counts as full. Else prove '..UptoSaid'. A law counts once. -/
mutual
def uptoBulk {H : Type} : DataW H → Nat
  | .lit (.string bytes) => bytes.length + 1
  | .lit _ => 1
  | .nil => 1
  | .ptr d => uptoBulk d + 1
  | .slice elems spare => uptoBulkAll elems + uptoBulkAll spare + 1
  | .agg parts => uptoBulkAll parts + 1
  | .iface _ d => uptoBulk d + 1
  | .map entries => uptoBulkEntries entries + 1
  | .held _ => 1
def uptoBulkAll {H : Type} : List (DataW H) → Nat
  | [] => 0
  | d :: r => uptoBulk d + uptoBulkAll r
def uptoBulkEntries {H : Type} : List (Lit × DataW H) → Nat
  | [] => 0
  | x :: r => uptoBulkEntry x + uptoBulkEntries r
def uptoBulkEntry {H : Type} : Lit × DataW H → Nat
  | (.string bytes, d) => bytes.length + uptoBulk d + 1
  | (_, d) => uptoBulk d + 1
 end
def uptoSmall : (H : Type) → List (DataW H) → Bool := fun _ ds => decide (uptoBulkAll ds ≤ 1048576)
def OpenSpec.upto (s : _root_.Go.ChangeSpec) : _root_.Go.OpenSpec := { _root_.Go.OpenSpec.ofChange s with cond := some uptoSmall }

/-- 'laws.FnExactPeriodOf', WHERE WHAT IT READS IS OF BULK AT MOST 1048576: true; the input reads as it did. -/
def fnExactPeriodOfUptoRow : OpenClaim := { program := "ythpemgjfifjnbaa", sum := "b53930e5b32430918f0ec80847ffa7dcf642251efb336379ea3099a045d93120", func := "loop.example/g01031/laws.FnExactPeriodOf", spec := "fnExactPeriodOf", apart := false, narrowed := true }
def FnExactPeriodOfUptoSaid : Prop := fnExactPeriodOfUptoRow.holds Try.pinned (OpenSpec.upto fnExactPeriodOfSpec)

/-- 'laws.FnExactIsLit', WHERE WHAT IT READS IS OF BULK AT MOST 1048576: true; the input reads as it did. -/
def fnExactIsLitUptoRow : OpenClaim := { program := "ythpemgjfifjnbaa", sum := "b53930e5b32430918f0ec80847ffa7dcf642251efb336379ea3099a045d93120", func := "loop.example/g01031/laws.FnExactIsLit", spec := "fnExactIsLit", apart := false, narrowed := true }
def FnExactIsLitUptoSaid : Prop := fnExactIsLitUptoRow.holds Try.pinned (OpenSpec.upto fnExactIsLitSpec)

/-- 'laws.FnExactLitShare', WHERE WHAT IT READS IS OF BULK AT MOST 1048576: true; the input reads as it did. -/
def fnExactLitShareUptoRow : OpenClaim := { program := "ythpemgjfifjnbaa", sum := "b53930e5b32430918f0ec80847ffa7dcf642251efb336379ea3099a045d93120", func := "loop.example/g01031/laws.FnExactLitShare", spec := "fnExactLitShare", apart := false, narrowed := true }
def FnExactLitShareUptoSaid : Prop := fnExactLitShareUptoRow.holds Try.pinned (OpenSpec.upto fnExactLitShareSpec)

/-- 'laws.FnExactAreLights', WHERE WHAT IT READS IS OF BULK AT MOST 1048576: true; the input reads as it did. -/
def fnExactAreLightsUptoRow : OpenClaim := { program := "ythpemgjfifjnbaa", sum := "b53930e5b32430918f0ec80847ffa7dcf642251efb336379ea3099a045d93120", func := "loop.example/g01031/laws.FnExactAreLights", spec := "fnExactAreLights", unfollowed := true, recurses := true, apart := false, narrowed := true }
def FnExactAreLightsUptoSaid : Prop := fnExactAreLightsUptoRow.holds Try.pinned (OpenSpec.upto fnExactAreLightsSpec)

/-- 'laws.FnExactAllDarkAt', WHERE WHAT IT READS IS OF BULK AT MOST 1048576: true; the input reads as it did. -/
def fnExactAllDarkAtUptoRow : OpenClaim := { program := "ythpemgjfifjnbaa", sum := "b53930e5b32430918f0ec80847ffa7dcf642251efb336379ea3099a045d93120", func := "loop.example/g01031/laws.FnExactAllDarkAt", spec := "fnExactAllDarkAt", unfollowed := true, recurses := true, apart := false, narrowed := true }
def FnExactAllDarkAtUptoSaid : Prop := fnExactAllDarkAtUptoRow.holds Try.pinned (OpenSpec.upto fnExactAllDarkAtSpec)

/-- 'laws.FnExactSeenFrom', WHERE WHAT IT READS IS OF BULK AT MOST 1048576: true; the input reads as it did. -/
def fnExactSeenFromUptoRow : OpenClaim := { program := "ythpemgjfifjnbaa", sum := "b53930e5b32430918f0ec80847ffa7dcf642251efb336379ea3099a045d93120", func := "loop.example/g01031/laws.FnExactSeenFrom", spec := "fnExactSeenFrom", unfollowed := true, recurses := true, apart := false, narrowed := true }
def FnExactSeenFromUptoSaid : Prop := fnExactSeenFromUptoRow.holds Try.pinned (OpenSpec.upto fnExactSeenFromSpec)

/-- 'laws.FnExactLitFrom', WHERE WHAT IT READS IS OF BULK AT MOST 1048576: true; the input reads as it did. -/
def fnExactLitFromUptoRow : OpenClaim := { program := "ythpemgjfifjnbaa", sum := "b53930e5b32430918f0ec80847ffa7dcf642251efb336379ea3099a045d93120", func := "loop.example/g01031/laws.FnExactLitFrom", spec := "fnExactLitFrom", unfollowed := true, recurses := true, apart := false, narrowed := true }
def FnExactLitFromUptoSaid : Prop := fnExactLitFromUptoRow.holds Try.pinned (OpenSpec.upto fnExactLitFromSpec)

/-- 'laws.FnExactConfusablePairs', WHERE WHAT IT READS IS OF BULK AT MOST 1048576: true; the input reads as it did. -/
def fnExactConfusablePairsUptoRow : OpenClaim := { program := "ythpemgjfifjnbaa", sum := "b53930e5b32430918f0ec80847ffa7dcf642251efb336379ea3099a045d93120", func := "loop.example/g01031/laws.FnExactConfusablePairs", spec := "fnExactConfusablePairs", unfollowed := true, recurses := true, apart := false, narrowed := true }
def FnExactConfusablePairsUptoSaid : Prop := fnExactConfusablePairsUptoRow.holds Try.pinned (OpenSpec.upto fnExactConfusablePairsSpec)

/-- 'laws.FnLightLists', WHERE WHAT IT READS IS OF BULK AT MOST 1048576: true; the input reads as it did. -/
def fnLightListsUptoRow : OpenClaim := { program := "ythpemgjfifjnbaa", sum := "b53930e5b32430918f0ec80847ffa7dcf642251efb336379ea3099a045d93120", func := "loop.example/g01031/laws.FnLightLists", spec := "fnLightLists", unfollowed := true, recurses := true, apart := false, narrowed := true }
def FnLightListsUptoSaid : Prop := fnLightListsUptoRow.holds Try.pinned (OpenSpec.upto fnLightListsSpec)

end Rows
end Go.Proofs.Ythpemgjfifjnbaa
