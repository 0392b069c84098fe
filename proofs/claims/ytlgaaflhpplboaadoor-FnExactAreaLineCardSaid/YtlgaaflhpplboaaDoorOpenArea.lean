/- A row, and a list of rows, that came in as arguments: what they hold. -/
import Derived.Test.YtlgaaflhpplboaaDoorA1
import Derived.Test.YtlgaaflhpplboaaDoorOpen
namespace Go.Proofs.YtlgaaflhpplboaaDoor
open Go.ChangeShapes Go.WideShapes Go.ChangeAt Go.RowKit Go.Deep Go.Joins
open Go.ChangeMaps (open_string shut_string)

section
variable {H : Type} {enc : TypeId × Value → H} {w : World} {r : Reach} {b0 base : Nat} {spare : Nat → Bool} {held : Bool} {v : Value} {d : DataW H} {p : List MemPlace}
/-- A row that came in by value. -/
theorem open_area (hv : Value.okWide Tryd.prog w r b0 23 v) (h : DataW.Trod enc Tryd.prog w base spare held 23 v d p) : ∃ r : AreaR, v = r.val ∧ r.nm.size ≤ maxLen := by
  obtain ⟨v0, v1, v2, v3, v4, v5, y0, y1, y2, y3, y4, y5, n, rfl, _, _, h0, h1, h2, h3, h4, h5⟩ := open_agg6 Tryd.underlying23 (by kernel_rfl) (by kernel_rfl) hv h
  obtain ⟨s, e0, _, hs⟩ := DataW.trod_string Tryd.underlying9 h0
  obtain ⟨a, e1, _, _⟩ := DataW.trod_int Tryd.underlying3 h1
  obtain ⟨b, e2, _, _⟩ := DataW.trod_int Tryd.underlying3 h2
  obtain ⟨c, e3, _, _⟩ := DataW.trod_int Tryd.underlying3 h3
  obtain ⟨d, e4, _, _⟩ := DataW.trod_int Tryd.underlying3 h4
  obtain ⟨e, e5, _, _⟩ := DataW.trod_int Tryd.underlying3 h5
  simp only [List.cons.injEq, and_true] at e0 e1 e2 e3 e4 e5
  subst e0 e1 e2 e3 e4 e5
  exact ⟨⟨s, a, b, c, d, e⟩, rfl, hs⟩
end
end Go.Proofs.YtlgaaflhpplboaaDoor
