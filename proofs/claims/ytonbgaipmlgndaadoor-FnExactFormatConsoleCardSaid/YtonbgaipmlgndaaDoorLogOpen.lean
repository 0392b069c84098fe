/- Logs that came in as arguments. -/
import Derived.Test.YtonbgaipmlgndaaDoorDoor
import Derived.Test.YtonbgaipmlgndaaDoorH1
import Derived.Test.YtonbgaipmlgndaaDoorOpen
namespace Go.Proofs.YtonbgaipmlgndaaDoor
open Go.ChangeShapes Go.WideShapes Go.ChangeAt Go.RowKit Go.Deep Go.Joins
open Go.ChangeMaps (open_string shut_string)

theorem env_of {W : World} (hT : Tab W) (h : W.ShapedOpen Tryd.prog) : Env W := ⟨hT, Tryd.laysM145.s1_3 W h⟩
section
variable {H : Type} {enc : TypeId × Value → H} {w : World} {base : Nat} {spare : Nat → Bool} {held : Bool} {r : Reach} {b0 : Nat} {v : Value} {d : DataW H} {p : List MemPlace}
set_option maxRecDepth 100000 in
theorem open_log (hv : Value.okWide Tryd.prog w r b0 26 v) (h : DataW.Trod enc Tryd.prog w base spare held 26 v d p) : ∃ l : LogR, v = l.val ∧ l.d.size ≤ maxLen ∧ l.p.size ≤ maxLen := by
  obtain ⟨cs, fuel, rfl, hf⟩ := read_value Tryd.underlying26 hv h
  obtain ⟨xs, m, _, _, hl, hx, hf⟩ := DataW.trod_struct Tryd.underlying26 hf
  have hC : Tryd.prog.cellsOf 26 = 3 := by kernel_rfl
  obtain ⟨l⟩ := cs
  match l, hl.trans hC with
  | [c0, c1, c2], _ =>
    obtain ⟨y0, h0⟩ := field_at hf hx 0 _ rfl 1 (by kernel_rfl)
    obtain ⟨y1, h1⟩ := field_at hf hx 1 _ rfl 1 (by kernel_rfl)
    obtain ⟨y2, h2⟩ := field_at hf hx 2 _ rfl 1 (by kernel_rfl)
    obtain ⟨a, e0, _, ha⟩ := DataW.trod_string Tryd.underlying9 h0
    obtain ⟨b, e1, _, hb⟩ := DataW.trod_string Tryd.underlying9 h1
    obtain ⟨n, e2, _, _⟩ := DataW.trod_int Tryd.underlying3 h2
    simp at e0 e1 e2
    subst e0 e1 e2
    exact ⟨⟨a, b, n⟩, rfl, ha, hb⟩
end
end Go.Proofs.YtonbgaipmlgndaaDoor
