/-
  No cell of these rows narrows 'for every input' (looked for: loops, veiled, ifaces, maps, wideKeys, modest, calm, conditions, laid).
  DERIVED. THE GIVEN ROWS OF THIS SEAT. 9 by the template 'for every input the law returns true; each argument reads behind the call as it read before'; 0 by the template 'total and deterministic' (their statements: YtbglldjdagnojaaTotals.lean).
  GIVEN WITH THE SEED: the statements are not yours to turn. If you find one false, say at which input.
  Laid BY PROGRAM, IN A SANDBOX (cutbox-rows.mjs): the forced cells as the released guide's own fill.sh prints them over the translation 388cb090d2896317… (all of the seat's roots in one cut). By AI agents, Wed Nov 11 2026. No macro, syntax, notation, axiom, sorry.
-/
import Derived.Test.YtbglldjdagnojaaChecked
import GoSem.Claim
import GoSem.ClaimJoined
import GoSem.ClaimMapViews
import Derived.JoinedTies
import Derived.KernelRfl
namespace Go.Proofs.Ytbglldjdagnojaa
/- THE CELL 'sum', in the pinned program and in every row, IS THE sha256 OF THE DUMP (.gsa) THAT YtbglldjdagnojaaProg.lean LOADS. Nothing in Lean hashes anything: it is a label: what it is worth is what the hold of that sum in a sandbox is worth. -/
noncomputable def Try.pinned : Pinned := { name := "ytbglldjdagnojaa", sum := "388cb090d2896317eb1e3c37447cddbe3f235982803b960142579f9b6b79f17c", checked := Try.checked }
namespace Rows
def none {H : Type} : Left H := { results := [], args := [] }

/-- 'laws.FnExactIsAreaRow': WHATEVER THE INPUT: true; the input reads as it did. -/
def fnExactIsAreaRowSpec : ChangeSpec := { name := "fnExactIsAreaRow", fn := fun _ => fun
  | [d] => { results := [.lit (.bool true)], args := [d] }
  | _ => none }
def fnExactIsAreaRowRow : OpenClaim := { program := "ytbglldjdagnojaa", sum := "388cb090d2896317eb1e3c37447cddbe3f235982803b960142579f9b6b79f17c", func := "loop.example/g01031/laws.FnExactIsAreaRow", spec := "fnExactIsAreaRow", apart := false }
def FnExactIsAreaRowSaid : Prop := fnExactIsAreaRowRow.holds Try.pinned (OpenSpec.ofChange fnExactIsAreaRowSpec)

/-- ITS FALSE NEIGHBOUR: 'it returns false'. Refute it at one input. -/
def fnExactIsAreaRowWrong : ChangeSpec := { name := "fnExactIsAreaRow", fn := fun _ => fun
  | [d] => { results := [.lit (.bool false)], args := [d] }
  | _ => none }
def FnExactIsAreaRowWrongFalsely : Prop := fnExactIsAreaRowRow.holds Try.pinned (OpenSpec.ofChange fnExactIsAreaRowWrong)

/-- 'laws.FnExactAreAreaRows': WHATEVER THE INPUT: true; the input reads as it did. -/
def fnExactAreAreaRowsSpec : ChangeSpec := { name := "fnExactAreAreaRows", fn := fun _ => fun
  | [d] => { results := [.lit (.bool true)], args := [d] }
  | _ => none }
def fnExactAreAreaRowsRow : OpenClaim := { program := "ytbglldjdagnojaa", sum := "388cb090d2896317eb1e3c37447cddbe3f235982803b960142579f9b6b79f17c", func := "loop.example/g01031/laws.FnExactAreAreaRows", spec := "fnExactAreAreaRows", apart := false }
def FnExactAreAreaRowsSaid : Prop := fnExactAreAreaRowsRow.holds Try.pinned (OpenSpec.ofChange fnExactAreAreaRowsSpec)

/-- ITS FALSE NEIGHBOUR: 'it returns false'. Refute it at one input. -/
def fnExactAreAreaRowsWrong : ChangeSpec := { name := "fnExactAreAreaRows", fn := fun _ => fun
  | [d] => { results := [.lit (.bool false)], args := [d] }
  | _ => none }
def FnExactAreAreaRowsWrongFalsely : Prop := fnExactAreAreaRowsRow.holds Try.pinned (OpenSpec.ofChange fnExactAreAreaRowsWrong)

/-- 'laws.FnExactMinutesToDo': WHATEVER THE INPUT: true; the input reads as it did. -/
def fnExactMinutesToDoSpec : ChangeSpec := { name := "fnExactMinutesToDo", fn := fun _ => fun
  | [d1, d2] => { results := [.lit (.bool true)], args := [d1, d2] }
  | _ => none }
def fnExactMinutesToDoRow : OpenClaim := { program := "ytbglldjdagnojaa", sum := "388cb090d2896317eb1e3c37447cddbe3f235982803b960142579f9b6b79f17c", func := "loop.example/g01031/laws.FnExactMinutesToDo", spec := "fnExactMinutesToDo", unfollowed := true, recurses := true, apart := false }
def FnExactMinutesToDoSaid : Prop := fnExactMinutesToDoRow.holds Try.pinned (OpenSpec.ofChange fnExactMinutesToDoSpec)

/-- ITS FALSE NEIGHBOUR: 'it returns false'. Refute it at one input. -/
def fnExactMinutesToDoWrong : ChangeSpec := { name := "fnExactMinutesToDo", fn := fun _ => fun
  | [d1, d2] => { results := [.lit (.bool false)], args := [d1, d2] }
  | _ => none }
def FnExactMinutesToDoWrongFalsely : Prop := fnExactMinutesToDoRow.holds Try.pinned (OpenSpec.ofChange fnExactMinutesToDoWrong)

/-- 'laws.FnExactShareOfAll': WHATEVER THE INPUT: true; the input reads as it did. -/
def fnExactShareOfAllSpec : ChangeSpec := { name := "fnExactShareOfAll", fn := fun _ => fun
  | [d] => { results := [.lit (.bool true)], args := [d] }
  | _ => none }
def fnExactShareOfAllRow : OpenClaim := { program := "ytbglldjdagnojaa", sum := "388cb090d2896317eb1e3c37447cddbe3f235982803b960142579f9b6b79f17c", func := "loop.example/g01031/laws.FnExactShareOfAll", spec := "fnExactShareOfAll", apart := false }
def FnExactShareOfAllSaid : Prop := fnExactShareOfAllRow.holds Try.pinned (OpenSpec.ofChange fnExactShareOfAllSpec)

/-- ITS FALSE NEIGHBOUR: 'it returns false'. Refute it at one input. -/
def fnExactShareOfAllWrong : ChangeSpec := { name := "fnExactShareOfAll", fn := fun _ => fun
  | [d] => { results := [.lit (.bool false)], args := [d] }
  | _ => none }
def FnExactShareOfAllWrongFalsely : Prop := fnExactShareOfAllRow.holds Try.pinned (OpenSpec.ofChange fnExactShareOfAllWrong)

/-- 'laws.FnExactMergeAreas': WHATEVER THE INPUT: true; the input reads as it did. -/
def fnExactMergeAreasSpec : ChangeSpec := { name := "fnExactMergeAreas", fn := fun _ => fun
  | [d1, d2, d3] => { results := [.lit (.bool true)], args := [d1, d2, d3] }
  | _ => none }
def fnExactMergeAreasRow : OpenClaim := { program := "ytbglldjdagnojaa", sum := "388cb090d2896317eb1e3c37447cddbe3f235982803b960142579f9b6b79f17c", func := "loop.example/g01031/laws.FnExactMergeAreas", spec := "fnExactMergeAreas", unfollowed := true, recurses := true, apart := false }
def FnExactMergeAreasSaid : Prop := fnExactMergeAreasRow.holds Try.pinned (OpenSpec.ofChange fnExactMergeAreasSpec)

/-- ITS FALSE NEIGHBOUR: 'it returns false'. Refute it at one input. -/
def fnExactMergeAreasWrong : ChangeSpec := { name := "fnExactMergeAreas", fn := fun _ => fun
  | [d1, d2, d3] => { results := [.lit (.bool false)], args := [d1, d2, d3] }
  | _ => none }
def FnExactMergeAreasWrongFalsely : Prop := fnExactMergeAreasRow.holds Try.pinned (OpenSpec.ofChange fnExactMergeAreasWrong)

/-- 'laws.FnExactDoneAreas': WHATEVER THE INPUT: true; the input reads as it did. -/
def fnExactDoneAreasSpec : ChangeSpec := { name := "fnExactDoneAreas", fn := fun _ => fun
  | [d] => { results := [.lit (.bool true)], args := [d] }
  | _ => none }
def fnExactDoneAreasRow : OpenClaim := { program := "ytbglldjdagnojaa", sum := "388cb090d2896317eb1e3c37447cddbe3f235982803b960142579f9b6b79f17c", func := "loop.example/g01031/laws.FnExactDoneAreas", spec := "fnExactDoneAreas", unfollowed := true, recurses := true, apart := false }
def FnExactDoneAreasSaid : Prop := fnExactDoneAreasRow.holds Try.pinned (OpenSpec.ofChange fnExactDoneAreasSpec)

/-- ITS FALSE NEIGHBOUR: 'it returns false'. Refute it at one input. -/
def fnExactDoneAreasWrong : ChangeSpec := { name := "fnExactDoneAreas", fn := fun _ => fun
  | [d] => { results := [.lit (.bool false)], args := [d] }
  | _ => none }
def FnExactDoneAreasWrongFalsely : Prop := fnExactDoneAreasRow.holds Try.pinned (OpenSpec.ofChange fnExactDoneAreasWrong)

/-- 'laws.FnExactShoalestAreas': WHATEVER THE INPUT: true; the input reads as it did. -/
def fnExactShoalestAreasSpec : ChangeSpec := { name := "fnExactShoalestAreas", fn := fun _ => fun
  | [d] => { results := [.lit (.bool true)], args := [d] }
  | _ => none }
def fnExactShoalestAreasRow : OpenClaim := { program := "ytbglldjdagnojaa", sum := "388cb090d2896317eb1e3c37447cddbe3f235982803b960142579f9b6b79f17c", func := "loop.example/g01031/laws.FnExactShoalestAreas", spec := "fnExactShoalestAreas", unfollowed := true, recurses := true, apart := false }
def FnExactShoalestAreasSaid : Prop := fnExactShoalestAreasRow.holds Try.pinned (OpenSpec.ofChange fnExactShoalestAreasSpec)

/-- ITS FALSE NEIGHBOUR: 'it returns false'. Refute it at one input. -/
def fnExactShoalestAreasWrong : ChangeSpec := { name := "fnExactShoalestAreas", fn := fun _ => fun
  | [d] => { results := [.lit (.bool false)], args := [d] }
  | _ => none }
def FnExactShoalestAreasWrongFalsely : Prop := fnExactShoalestAreasRow.holds Try.pinned (OpenSpec.ofChange fnExactShoalestAreasWrong)

/-- 'laws.FnExactWorkOrder': WHATEVER THE INPUT: true; the input reads as it did. -/
def fnExactWorkOrderSpec : ChangeSpec := { name := "fnExactWorkOrder", fn := fun _ => fun
  | [d] => { results := [.lit (.bool true)], args := [d] }
  | _ => none }
def fnExactWorkOrderRow : OpenClaim := { program := "ytbglldjdagnojaa", sum := "388cb090d2896317eb1e3c37447cddbe3f235982803b960142579f9b6b79f17c", func := "loop.example/g01031/laws.FnExactWorkOrder", spec := "fnExactWorkOrder", unfollowed := true, recurses := true, apart := false }
def FnExactWorkOrderSaid : Prop := fnExactWorkOrderRow.holds Try.pinned (OpenSpec.ofChange fnExactWorkOrderSpec)

/-- ITS FALSE NEIGHBOUR: 'it returns false'. Refute it at one input. -/
def fnExactWorkOrderWrong : ChangeSpec := { name := "fnExactWorkOrder", fn := fun _ => fun
  | [d] => { results := [.lit (.bool false)], args := [d] }
  | _ => none }
def FnExactWorkOrderWrongFalsely : Prop := fnExactWorkOrderRow.holds Try.pinned (OpenSpec.ofChange fnExactWorkOrderWrong)

/-- 'laws.FnShoals': WHATEVER THE INPUT: true; the input reads as it did. -/
def fnShoalsSpec : ChangeSpec := { name := "fnShoals", fn := fun _ => fun
  | [d] => { results := [.lit (.bool true)], args := [d] }
  | _ => none }
def fnShoalsRow : OpenClaim := { program := "ytbglldjdagnojaa", sum := "388cb090d2896317eb1e3c37447cddbe3f235982803b960142579f9b6b79f17c", func := "loop.example/g01031/laws.FnShoals", spec := "fnShoals", unfollowed := true, recurses := true, apart := false }
def FnShoalsSaid : Prop := fnShoalsRow.holds Try.pinned (OpenSpec.ofChange fnShoalsSpec)

/-- ITS FALSE NEIGHBOUR: 'it returns false'. Refute it at one input. -/
def fnShoalsWrong : ChangeSpec := { name := "fnShoals", fn := fun _ => fun
  | [d] => { results := [.lit (.bool false)], args := [d] }
  | _ => none }
def FnShoalsWrongFalsely : Prop := fnShoalsRow.holds Try.pinned (OpenSpec.ofChange fnShoalsWrong)

/- THE SECOND FORM. 'bulk': how many values and letters a reading holds, each counted each time it is reached (what is shared counts as often as it is met; a slice's spare places count too). A statement '..UptoSaid' is the law's where the arguments, and the package variables that the reading takes, are together of bulk at most 1048576: NARROWER than '..Said'. Prove '..Said' where nothing that the law and all that it calls make is longer than what came in: it says more and counts as full. Else prove '..UptoSaid'. A law counts once. -/
mutual
def uptoBulk {H : Type} : DataW H → Nat
  | .lit (.string bytes) => bytes.length + 1
  | .lit _ => 1
  | .nil => 1
  | .ptr d => uptoBulk d + 1
  | .slice elems spare => uptoBulkAll elems + uptoBulkAll spare + 1
  | .agg parts => uptoBulkAll parts + 1
  | .iface _ d => uptoBulk d + 1
  | .map entries => uptoBulkEntries entries + 1
  | .held _ => 1
def uptoBulkAll {H : Type} : List (DataW H) → Nat
  | [] => 0
  | d :: r => uptoBulk d + uptoBulkAll r
def uptoBulkEntries {H : Type} : List (Lit × DataW H) → Nat
  | [] => 0
  | x :: r => uptoBulkEntry x + uptoBulkEntries r
def uptoBulkEntry {H : Type} : Lit × DataW H → Nat
  | (.string bytes, d) => bytes.length + uptoBulk d + 1
  | (_, d) => uptoBulk d + 1
 end
def uptoSmall : (H : Type) → List (DataW H) → Bool := fun _ ds => decide (uptoBulkAll ds ≤ 1048576)
def OpenSpec.upto (s : _root_.Go.ChangeSpec) : _root_.Go.OpenSpec := { _root_.Go.OpenSpec.ofChange s with cond := some uptoSmall }

/-- 'laws.FnExactIsAreaRow', WHERE WHAT IT READS IS OF BULK AT MOST 1048576: true; the input reads as it did. -/
def fnExactIsAreaRowUptoRow : OpenClaim := { program := "ytbglldjdagnojaa", sum := "388cb090d2896317eb1e3c37447cddbe3f235982803b960142579f9b6b79f17c", func := "loop.example/g01031/laws.FnExactIsAreaRow", spec := "fnExactIsAreaRow", apart := false, narrowed := true }
def FnExactIsAreaRowUptoSaid : Prop := fnExactIsAreaRowUptoRow.holds Try.pinned (OpenSpec.upto fnExactIsAreaRowSpec)

/-- 'laws.FnExactAreAreaRows', WHERE WHAT IT READS IS OF BULK AT MOST 1048576: true; the input reads as it did. -/
def fnExactAreAreaRowsUptoRow : OpenClaim := { program := "ytbglldjdagnojaa", sum := "388cb090d2896317eb1e3c37447cddbe3f235982803b960142579f9b6b79f17c", func := "loop.example/g01031/laws.FnExactAreAreaRows", spec := "fnExactAreAreaRows", apart := false, narrowed := true }
def FnExactAreAreaRowsUptoSaid : Prop := fnExactAreAreaRowsUptoRow.holds Try.pinned (OpenSpec.upto fnExactAreAreaRowsSpec)

/-- 'laws.FnExactMinutesToDo', WHERE WHAT IT READS IS OF BULK AT MOST 1048576: true; the input reads as it did. -/
def fnExactMinutesToDoUptoRow : OpenClaim := { program := "ytbglldjdagnojaa", sum := "388cb090d2896317eb1e3c37447cddbe3f235982803b960142579f9b6b79f17c", func := "loop.example/g01031/laws.FnExactMinutesToDo", spec := "fnExactMinutesToDo", unfollowed := true, recurses := true, apart := false, narrowed := true }
def FnExactMinutesToDoUptoSaid : Prop := fnExactMinutesToDoUptoRow.holds Try.pinned (OpenSpec.upto fnExactMinutesToDoSpec)

/-- 'laws.FnExactShareOfAll', WHERE WHAT IT READS IS OF BULK AT MOST 1048576: true; the input reads as it did. -/
def fnExactShareOfAllUptoRow : OpenClaim := { program := "ytbglldjdagnojaa", sum := "388cb090d2896317eb1e3c37447cddbe3f235982803b960142579f9b6b79f17c", func := "loop.example/g01031/laws.FnExactShareOfAll", spec := "fnExactShareOfAll", apart := false, narrowed := true }
def FnExactShareOfAllUptoSaid : Prop := fnExactShareOfAllUptoRow.holds Try.pinned (OpenSpec.upto fnExactShareOfAllSpec)

/-- 'laws.FnExactMergeAreas', WHERE WHAT IT READS IS OF BULK AT MOST 1048576: true; the input reads as it did. -/
def fnExactMergeAreasUptoRow : OpenClaim := { program := "ytbglldjdagnojaa", sum := "388cb090d2896317eb1e3c37447cddbe3f235982803b960142579f9b6b79f17c", func := "loop.example/g01031/laws.FnExactMergeAreas", spec := "fnExactMergeAreas", unfollowed := true, recurses := true, apart := false, narrowed := true }
def FnExactMergeAreasUptoSaid : Prop := fnExactMergeAreasUptoRow.holds Try.pinned (OpenSpec.upto fnExactMergeAreasSpec)

/-- 'laws.FnExactDoneAreas', WHERE WHAT IT READS IS OF BULK AT MOST 1048576: true; the input reads as it did. -/
def fnExactDoneAreasUptoRow : OpenClaim := { program := "ytbglldjdagnojaa", sum := "388cb090d2896317eb1e3c37447cddbe3f235982803b960142579f9b6b79f17c", func := "loop.example/g01031/laws.FnExactDoneAreas", spec := "fnExactDoneAreas", unfollowed := true, recurses := true, apart := false, narrowed := true }
def FnExactDoneAreasUptoSaid : Prop := fnExactDoneAreasUptoRow.holds Try.pinned (OpenSpec.upto fnExactDoneAreasSpec)

/-- 'laws.FnExactShoalestAreas', WHERE WHAT IT READS IS OF BULK AT MOST 1048576: true; the input reads as it did. -/
def fnExactShoalestAreasUptoRow : OpenClaim := { program := "ytbglldjdagnojaa", sum := "388cb090d2896317eb1e3c37447cddbe3f235982803b960142579f9b6b79f17c", func := "loop.example/g01031/laws.FnExactShoalestAreas", spec := "fnExactShoalestAreas", unfollowed := true, recurses := true, apart := false, narrowed := true }
def FnExactShoalestAreasUptoSaid : Prop := fnExactShoalestAreasUptoRow.holds Try.pinned (OpenSpec.upto fnExactShoalestAreasSpec)

/-- 'laws.FnExactWorkOrder', WHERE WHAT IT READS IS OF BULK AT MOST 1048576: true; the input reads as it did. -/
def fnExactWorkOrderUptoRow : OpenClaim := { program := "ytbglldjdagnojaa", sum := "388cb090d2896317eb1e3c37447cddbe3f235982803b960142579f9b6b79f17c", func := "loop.example/g01031/laws.FnExactWorkOrder", spec := "fnExactWorkOrder", unfollowed := true, recurses := true, apart := false, narrowed := true }
def FnExactWorkOrderUptoSaid : Prop := fnExactWorkOrderUptoRow.holds Try.pinned (OpenSpec.upto fnExactWorkOrderSpec)

/-- 'laws.FnShoals', WHERE WHAT IT READS IS OF BULK AT MOST 1048576: true; the input reads as it did. -/
def fnShoalsUptoRow : OpenClaim := { program := "ytbglldjdagnojaa", sum := "388cb090d2896317eb1e3c37447cddbe3f235982803b960142579f9b6b79f17c", func := "loop.example/g01031/laws.FnShoals", spec := "fnShoals", unfollowed := true, recurses := true, apart := false, narrowed := true }
def FnShoalsUptoSaid : Prop := fnShoalsUptoRow.holds Try.pinned (OpenSpec.upto fnShoalsSpec)

end Rows
end Go.Proofs.Ytbglldjdagnojaa
