/- A spot that came in as an argument. -/
import Derived.Test.YthdljidelklcmaaOpenLight
namespace Go.Proofs.Ythdljidelklcmaa
open Go.ChangeShapes Go.WideShapes Go.ChangeAt Go.RowKit Go.Deep Go.Joins
open Go.ChangeMaps (open_string shut_string)

section
variable {H : Type} {enc : TypeId × Value → H} {w : World} {r : Reach} {b0 base : Nat} {spare : Nat → Bool} {held : Bool} {v : Value} {d : DataW H} {p : List MemPlace}
set_option maxRecDepth 100000 in
theorem read_spot (n : Nat) (cs : List Value) (y : DataW H × List MemPlace) (h : DataW.trod enc Try.prog w base spare held n 24 cs = some y) : ∃ a b : Int, cs = [.int .i64 a, .int .i64 b] := by
  obtain ⟨xs, m, _, _, hl, hx, hf⟩ := DataW.trod_struct Try.underlying24 h
  have hC : Try.prog.cellsOf 24 = 2 := by kernel_rfl
  match cs, hl.trans hC with
  | [c0, c1], _ =>
    obtain ⟨y0, h0⟩ := field_at hf hx 0 _ rfl 1 (by kernel_rfl)
    obtain ⟨y1, h1⟩ := field_at hf hx 1 _ rfl 1 (by kernel_rfl)
    obtain ⟨a, e0, _, _⟩ := DataW.trod_int Try.underlying3 h0
    obtain ⟨b, e1, _, _⟩ := DataW.trod_int Try.underlying3 h1
    simp at e0 e1
    subst e0 e1
    exact ⟨a, b, rfl⟩
theorem open_spot (hv : Value.okWide Try.prog w r b0 24 v) (h : DataW.Trod enc Try.prog w base spare held 24 v d p) : ∃ a b : Int, v = .agg #[.int .i64 a, .int .i64 b] := by
  obtain ⟨cs, fuel, rfl, hf⟩ := read_value Try.underlying24 hv h
  obtain ⟨a, b, e⟩ := read_spot _ _ _ hf
  exact ⟨a, b, by rw [show cs = cs.toList.toArray from by simp, e]⟩
end
end Go.Proofs.Ythdljidelklcmaa
