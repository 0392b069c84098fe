/-
  No cell of these rows narrows 'for every input' (looked for: loops, veiled, ifaces, maps, wideKeys, modest, calm, conditions, laid).
  DERIVED. THE GIVEN ROWS OF THIS SEAT. 4 by the template 'for every input the law returns true; each argument reads behind the call as it read before'; 0 by the template 'total and deterministic' (their statements: YteogidghoohgaaaTotals.lean).
  GIVEN WITH THE SEED: the statements are not yours to turn. If you find one false, say at which input.
  Laid BY PROGRAM, IN A SANDBOX (cutbox-rows.mjs): the forced cells as the released guide's own fill.sh prints them over the translation 503143a13c9081e6… (all of the seat's roots in one cut). By AI agents, Wed Nov 11 2026. No macro, syntax, notation, axiom, sorry.
-/
import Derived.Test.YteogidghoohgaaaChecked
import GoSem.Claim
import GoSem.ClaimJoined
import GoSem.ClaimMapViews
import Derived.JoinedTies
import Derived.KernelRfl
namespace Go.Proofs.Yteogidghoohgaaa
/- THE CELL 'sum', in the pinned program and in every row, IS THE sha256 OF THE DUMP (.gsa) THAT YteogidghoohgaaaProg.lean LOADS. Nothing in Lean hashes anything: it is a label: what it is worth is what the hold of that sum in a sandbox is worth. -/
noncomputable def Try.pinned : Pinned := { name := "yteogidghoohgaaa", sum := "503143a13c9081e6c563d58e2bb27cfe2565328b36361659645d2bcf61f05042", checked := Try.checked }
namespace Rows
def none {H : Type} : Left H := { results := [], args := [] }

/-- 'laws.FnExactDoneAreas': WHATEVER THE INPUT: true; the input reads as it did. -/
def fnExactDoneAreasSpec : ChangeSpec := { name := "fnExactDoneAreas", fn := fun _ => fun
  | [d] => { results := [.lit (.bool true)], args := [d] }
  | _ => none }
def fnExactDoneAreasRow : OpenClaim := { program := "yteogidghoohgaaa", sum := "503143a13c9081e6c563d58e2bb27cfe2565328b36361659645d2bcf61f05042", func := "loop.example/g01031/laws.FnExactDoneAreas", spec := "fnExactDoneAreas", unfollowed := true, recurses := true, apart := false }
def FnExactDoneAreasSaid : Prop := fnExactDoneAreasRow.holds Try.pinned (OpenSpec.ofChange fnExactDoneAreasSpec)

/-- ITS FALSE NEIGHBOUR: 'it returns false'. Refute it at one input. -/
def fnExactDoneAreasWrong : ChangeSpec := { name := "fnExactDoneAreas", fn := fun _ => fun
  | [d] => { results := [.lit (.bool false)], args := [d] }
  | _ => none }
def FnExactDoneAreasWrongFalsely : Prop := fnExactDoneAreasRow.holds Try.pinned (OpenSpec.ofChange fnExactDoneAreasWrong)

/-- 'laws.FnExactShoalestAreas': WHATEVER THE INPUT: true; the input reads as it did. -/
def fnExactShoalestAreasSpec : ChangeSpec := { name := "fnExactShoalestAreas", fn := fun _ => fun
  | [d] => { results := [.lit (.bool true)], args := [d] }
  | _ => none }
def fnExactShoalestAreasRow : OpenClaim := { program := "yteogidghoohgaaa", sum := "503143a13c9081e6c563d58e2bb27cfe2565328b36361659645d2bcf61f05042", func := "loop.example/g01031/laws.FnExactShoalestAreas", spec := "fnExactShoalestAreas", unfollowed := true, recurses := true, apart := false }
def FnExactShoalestAreasSaid : Prop := fnExactShoalestAreasRow.holds Try.pinned (OpenSpec.ofChange fnExactShoalestAreasSpec)

/-- ITS FALSE NEIGHBOUR: 'it returns false'. Refute it at one input. -/
def fnExactShoalestAreasWrong : ChangeSpec := { name := "fnExactShoalestAreas", fn := fun _ => fun
  | [d] => { results := [.lit (.bool false)], args := [d] }
  | _ => none }
def FnExactShoalestAreasWrongFalsely : Prop := fnExactShoalestAreasRow.holds Try.pinned (OpenSpec.ofChange fnExactShoalestAreasWrong)

/-- 'laws.FnExactWorkOrder': WHATEVER THE INPUT: true; the input reads as it did. -/
def fnExactWorkOrderSpec : ChangeSpec := { name := "fnExactWorkOrder", fn := fun _ => fun
  | [d] => { results := [.lit (.bool true)], args := [d] }
  | _ => none }
def fnExactWorkOrderRow : OpenClaim := { program := "yteogidghoohgaaa", sum := "503143a13c9081e6c563d58e2bb27cfe2565328b36361659645d2bcf61f05042", func := "loop.example/g01031/laws.FnExactWorkOrder", spec := "fnExactWorkOrder", unfollowed := true, recurses := true, apart := false }
def FnExactWorkOrderSaid : Prop := fnExactWorkOrderRow.holds Try.pinned (OpenSpec.ofChange fnExactWorkOrderSpec)

/-- ITS FALSE NEIGHBOUR: 'it returns false'. Refute it at one input. -/
def fnExactWorkOrderWrong : ChangeSpec := { name := "fnExactWorkOrder", fn := fun _ => fun
  | [d] => { results := [.lit (.bool false)], args := [d] }
  | _ => none }
def FnExactWorkOrderWrongFalsely : Prop := fnExactWorkOrderRow.holds Try.pinned (OpenSpec.ofChange fnExactWorkOrderWrong)

/-- 'laws.FnShoals': WHATEVER THE INPUT: true; the input reads as it did. -/
def fnShoalsSpec : ChangeSpec := { name := "fnShoals", fn := fun _ => fun
  | [d] => { results := [.lit (.bool true)], args := [d] }
  | _ => none }
def fnShoalsRow : OpenClaim := { program := "yteogidghoohgaaa", sum := "503143a13c9081e6c563d58e2bb27cfe2565328b36361659645d2bcf61f05042", func := "loop.example/g01031/laws.FnShoals", spec := "fnShoals", unfollowed := true, recurses := true, apart := false }
def FnShoalsSaid : Prop := fnShoalsRow.holds Try.pinned (OpenSpec.ofChange fnShoalsSpec)

/-- ITS FALSE NEIGHBOUR: 'it returns false'. Refute it at one input. -/
def fnShoalsWrong : ChangeSpec := { name := "fnShoals", fn := fun _ => fun
  | [d] => { results := [.lit (.bool false)], args := [d] }
  | _ => none }
def FnShoalsWrongFalsely : Prop := fnShoalsRow.holds Try.pinned (OpenSpec.ofChange fnShoalsWrong)

/- THE SECOND FORM. 'bulk': how many values and letters a reading holds, each counted each time it is reached (what is shared counts as often as it is met; a slice's spare places count too). A statement '..UptoSaid' is the law's where the arguments, and the package variables that the reading takes, are together of bulk at most 1048576: NARROWER than '..Said'. Prove '..Said' where nothing that the law and all that it calls make is longer than what came in: it says more and counts as full. Else prove '..UptoSaid'. A law counts once. -/
mutual
def uptoBulk {H : Type} : DataW H → Nat
  | .lit (.string bytes) => bytes.length + 1
  | .lit _ => 1
  | .nil => 1
  | .ptr d => uptoBulk d + 1
  | .slice elems spare => uptoBulkAll elems + uptoBulkAll spare + 1
  | .agg parts => uptoBulkAll parts + 1
  | .iface _ d => uptoBulk d + 1
  | .map entries => uptoBulkEntries entries + 1
  | .held _ => 1
def uptoBulkAll {H : Type} : List (DataW H) → Nat
  | [] => 0
  | d :: r => uptoBulk d + uptoBulkAll r
def uptoBulkEntries {H : Type} : List (Lit × DataW H) → Nat
  | [] => 0
  | x :: r => uptoBulkEntry x + uptoBulkEntries r
def uptoBulkEntry {H : Type} : Lit × DataW H → Nat
  | (.string bytes, d) => bytes.length + uptoBulk d + 1
  | (_, d) => uptoBulk d + 1
 end
def uptoSmall : (H : Type) → List (DataW H) → Bool := fun _ ds => decide (uptoBulkAll ds ≤ 1048576)
def OpenSpec.upto (s : _root_.Go.ChangeSpec) : _root_.Go.OpenSpec := { _root_.Go.OpenSpec.ofChange s with cond := some uptoSmall }

/-- 'laws.FnExactDoneAreas', WHERE WHAT IT READS IS OF BULK AT MOST 1048576: true; the input reads as it did. -/
def fnExactDoneAreasUptoRow : OpenClaim := { program := "yteogidghoohgaaa", sum := "503143a13c9081e6c563d58e2bb27cfe2565328b36361659645d2bcf61f05042", func := "loop.example/g01031/laws.FnExactDoneAreas", spec := "fnExactDoneAreas", unfollowed := true, recurses := true, apart := false, narrowed := true }
def FnExactDoneAreasUptoSaid : Prop := fnExactDoneAreasUptoRow.holds Try.pinned (OpenSpec.upto fnExactDoneAreasSpec)

/-- 'laws.FnExactShoalestAreas', WHERE WHAT IT READS IS OF BULK AT MOST 1048576: true; the input reads as it did. -/
def fnExactShoalestAreasUptoRow : OpenClaim := { program := "yteogidghoohgaaa", sum := "503143a13c9081e6c563d58e2bb27cfe2565328b36361659645d2bcf61f05042", func := "loop.example/g01031/laws.FnExactShoalestAreas", spec := "fnExactShoalestAreas", unfollowed := true, recurses := true, apart := false, narrowed := true }
def FnExactShoalestAreasUptoSaid : Prop := fnExactShoalestAreasUptoRow.holds Try.pinned (OpenSpec.upto fnExactShoalestAreasSpec)

/-- 'laws.FnExactWorkOrder', WHERE WHAT IT READS IS OF BULK AT MOST 1048576: true; the input reads as it did. -/
def fnExactWorkOrderUptoRow : OpenClaim := { program := "yteogidghoohgaaa", sum := "503143a13c9081e6c563d58e2bb27cfe2565328b36361659645d2bcf61f05042", func := "loop.example/g01031/laws.FnExactWorkOrder", spec := "fnExactWorkOrder", unfollowed := true, recurses := true, apart := false, narrowed := true }
def FnExactWorkOrderUptoSaid : Prop := fnExactWorkOrderUptoRow.holds Try.pinned (OpenSpec.upto fnExactWorkOrderSpec)

/-- 'laws.FnShoals', WHERE WHAT IT READS IS OF BULK AT MOST 1048576: true; the input reads as it did. -/
def fnShoalsUptoRow : OpenClaim := { program := "yteogidghoohgaaa", sum := "503143a13c9081e6c563d58e2bb27cfe2565328b36361659645d2bcf61f05042", func := "loop.example/g01031/laws.FnShoals", spec := "fnShoals", unfollowed := true, recurses := true, apart := false, narrowed := true }
def FnShoalsUptoSaid : Prop := fnShoalsUptoRow.holds Try.pinned (OpenSpec.upto fnShoalsSpec)

end Rows
end Go.Proofs.Yteogidghoohgaaa
