/- Survey days that came in as arguments: what they hold. -/
import Derived.Test.YtonbgaipmlgndaaDoorD1
import Derived.Test.YtonbgaipmlgndaaDoorOpen
namespace Go.Proofs.YtonbgaipmlgndaaDoor
open Go.ChangeShapes Go.WideShapes Go.ChangeAt Go.RowKit Go.Deep Go.Joins
open Go.ChangeMaps (open_string shut_string)

section
variable {H : Type} {enc : TypeId × Value → H} {w : World} {base : Nat} {spare : Nat → Bool} {held : Bool}
set_option maxRecDepth 100000 in
theorem read_dayline (n : Nat) (cs : List Value) (y : DataW H × List MemPlace) (h : DataW.trod enc Tryd.prog w base spare held n 67 cs = some y) : ∃ p : LineR, True ∧ cs = p.row := by
  obtain ⟨xs, m, _, _, hl, hx, hf⟩ := DataW.trod_struct Tryd.underlying67 h
  have hC : Tryd.prog.cellsOf 67 = 2 := by kernel_rfl
  match cs, hl.trans hC with
  | [c0, c1], _ =>
    obtain ⟨y0, h0⟩ := field_at hf hx 0 _ rfl 1 (by kernel_rfl)
    obtain ⟨y1, h1⟩ := field_at hf hx 1 _ rfl 1 (by kernel_rfl)
    obtain ⟨k, e0, _, _⟩ := DataW.trod_int Tryd.underlying3 h0
    obtain ⟨b, e1, _⟩ := DataW.trod_bool Tryd.underlying4 h1
    simp at e0 e1
    subst e0 e1
    exact ⟨⟨k, b⟩, trivial, rfl⟩
set_option maxRecDepth 100000 in
theorem read_day (n : Nat) (cs : List Value) (y : DataW H × List MemPlace) (h : DataW.trod enc Tryd.prog w base spare held n 24 cs = some y) : ∃ v : DayV, v.At w ∧ cs = v.row := by
  obtain ⟨xs, m, _, _, hl, hx, hf⟩ := DataW.trod_struct Tryd.underlying24 h
  have hC : Tryd.prog.cellsOf 24 = 7 := by kernel_rfl
  match cs, hl.trans hC with
  | [c0, c1, c2, c3, c4, c5, c6], _ =>
    obtain ⟨y0, h0⟩ := field_at hf hx 0 _ rfl 1 (by kernel_rfl)
    obtain ⟨y1, h1⟩ := field_at hf hx 1 _ rfl 1 (by kernel_rfl)
    obtain ⟨y2, h2⟩ := field_at hf hx 2 _ rfl 1 (by kernel_rfl)
    obtain ⟨y3, h3⟩ := field_at hf hx 3 _ rfl 1 (by kernel_rfl)
    obtain ⟨y4, h4⟩ := field_at hf hx 4 _ rfl 1 (by kernel_rfl)
    obtain ⟨y5, h5⟩ := field_at hf hx 5 _ rfl 1 (by kernel_rfl)
    obtain ⟨y6, h6⟩ := field_at hf hx 6 _ rfl 1 (by kernel_rfl)
    obtain ⟨a, e0, _, _⟩ := DataW.trod_int Tryd.underlying3 h0
    obtain ⟨b, e1, _, _⟩ := DataW.trod_int Tryd.underlying3 h1
    obtain ⟨A, cp, l, e2, hS, _, hln⟩ := read_list LineR.row 2 (fun _ => True) Tryd.underlying22 (by kernel_rfl) (fun _ => ⟨_, rfl⟩) read_dayline h2
    obtain ⟨c, e3, _, _⟩ := DataW.trod_int Tryd.underlying3 h3
    obtain ⟨d, e4, _, _⟩ := DataW.trod_int Tryd.underlying3 h4
    obtain ⟨e, e5, _, _⟩ := DataW.trod_int Tryd.underlying3 h5
    obtain ⟨f, e6, _, _⟩ := DataW.trod_int Tryd.underlying3 h6
    simp at e0 e1 e2 e3 e4 e5 e6
    subst e0 e1 e2 e3 e4 e5 e6
    exact ⟨⟨⟨a, b, l, c, d, e, f⟩, A, cp⟩, ⟨hS, hln⟩, rfl⟩
end
section
variable {H : Type} {enc : TypeId × Value → H} {w : World} {r : Reach} {b0 base : Nat} {spare : Nat → Bool} {held : Bool} {v : Value} {d : DataW H} {p : List MemPlace}
set_option maxRecDepth 100000 in
/-- A day that came in by value. -/
theorem open_day (hv : Value.okWide Tryd.prog w r b0 24 v) (h : DataW.Trod enc Tryd.prog w base spare held 24 v d p) : ∃ u : DayV, v = u.val ∧ u.At w := by
  obtain ⟨cs, fuel, rfl, hf⟩ := read_value Tryd.underlying24 hv h
  obtain ⟨u, hu, e⟩ := read_day _ _ _ hf
  exact ⟨u, by rw [DayV.val, show cs = cs.toList.toArray from by simp, e]; rfl, hu⟩
end
end Go.Proofs.YtonbgaipmlgndaaDoor
