/- Consoles that came in as arguments. -/
import Derived.Test.YtonbgaipmlgndaaDoorLogOpen
import Derived.Test.YtonbgaipmlgndaaDoorOpenDay
import Derived.Test.YtonbgaipmlgndaaDoorCo1
namespace Go.Proofs.YtonbgaipmlgndaaDoor
open Go.ChangeShapes Go.WideShapes Go.ChangeAt Go.RowKit Go.Deep Go.Joins
open Go.ChangeMaps (open_string shut_string)

section
variable {H : Type} {enc : TypeId × Value → H} {w : World} {base : Nat} {spare : Nat → Bool} {held : Bool} {r : Reach} {b0 : Nat} {v : Value} {d : DataW H} {p : List MemPlace}
set_option maxRecDepth 100000 in
theorem open_console (hv : Value.okWide Tryd.prog w r b0 28 v) (h : DataW.Trod enc Tryd.prog w base spare held 28 v d p) : ∃ (u : DayV) (l : LogR), v = ConV.val ⟨u, l⟩ ∧ u.At w ∧ l.d.size ≤ maxLen ∧ l.p.size ≤ maxLen := by
  obtain ⟨cs, fuel, rfl, hf⟩ := read_value Tryd.underlying28 hv h
  obtain ⟨xs, m, _, _, hl, hx, hf⟩ := DataW.trod_struct Tryd.underlying28 hf
  have hC : Tryd.prog.cellsOf 28 = 10 := by kernel_rfl
  obtain ⟨l⟩ := cs
  match l, hl.trans hC with
  | [c0, c1, c2, c3, c4, c5, c6, c7, c8, c9], _ =>
    obtain ⟨y0, h0⟩ := field_at hf hx 0 _ rfl 7 (by kernel_rfl)
    obtain ⟨y1, h1⟩ := field_at hf hx 1 _ rfl 3 (by kernel_rfl)
    obtain ⟨u, hu, e⟩ := read_day _ _ _ h0
    obtain ⟨xs2, m2, _, _, hl2, hx2, hf2⟩ := DataW.trod_struct Tryd.underlying26 h1
    obtain ⟨z0, g0⟩ := field_at hf2 hx2 0 _ rfl 1 (by kernel_rfl)
    obtain ⟨z1, g1⟩ := field_at hf2 hx2 1 _ rfl 1 (by kernel_rfl)
    obtain ⟨z2, g2⟩ := field_at hf2 hx2 2 _ rfl 1 (by kernel_rfl)
    obtain ⟨a, e0, _, ha⟩ := DataW.trod_string Tryd.underlying9 g0
    obtain ⟨b, e1, _, hb⟩ := DataW.trod_string Tryd.underlying9 g1
    obtain ⟨n, e2, _, _⟩ := DataW.trod_int Tryd.underlying3 g2
    simp [DayV.row] at e
    simp at e0 e1 e2
    obtain ⟨rfl, rfl, rfl, rfl, rfl, rfl, rfl⟩ := e
    subst e0 e1 e2
    exact ⟨u, ⟨a, b, n⟩, rfl, hu, ha, hb⟩
end
end Go.Proofs.YtonbgaipmlgndaaDoor
