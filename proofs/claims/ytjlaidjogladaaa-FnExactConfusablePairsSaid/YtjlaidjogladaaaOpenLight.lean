/- Lights, and lists of lights, that came in as arguments: what they hold. -/
import Derived.Test.YtjlaidjogladaaaLi1
import Derived.Test.YtjlaidjogladaaaOpen
namespace Go.Proofs.Ytjlaidjogladaaa
open Go.ChangeShapes Go.WideShapes Go.ChangeAt Go.RowKit Go.Deep Go.Joins
open Go.ChangeMaps (open_string shut_string)

section
variable {H : Type} {enc : TypeId × Value → H} {w : World} {base : Nat} {spare : Nat → Bool} {held : Bool}
set_option maxRecDepth 100000 in
theorem read_phase (n : Nat) (cs : List Value) (y : DataW H × List MemPlace) (h : DataW.trod enc Try.prog w base spare held n 100 cs = some y) : ∃ p : PhaseR, True ∧ cs = p.row := by
  obtain ⟨xs, m, _, _, hl, hx, hf⟩ := DataW.trod_struct Try.underlying100 h
  have hC : Try.prog.cellsOf 100 = 2 := by kernel_rfl
  match cs, hl.trans hC with
  | [c0, c1], _ =>
    obtain ⟨y0, h0⟩ := field_at hf hx 0 _ rfl 1 (by kernel_rfl)
    obtain ⟨y1, h1⟩ := field_at hf hx 1 _ rfl 1 (by kernel_rfl)
    obtain ⟨b, e0, _⟩ := DataW.trod_bool Try.underlying4 h0
    obtain ⟨k, e1, _, _⟩ := DataW.trod_int Try.underlying3 h1
    simp at e0 e1
    subst e0 e1
    exact ⟨⟨b, k⟩, trivial, rfl⟩
set_option maxRecDepth 100000 in
theorem read_light (n : Nat) (cs : List Value) (y : DataW H × List MemPlace) (h : DataW.trod enc Try.prog w base spare held n 62 cs = some y) : ∃ v : LightV, v.At w ∧ cs = v.row := by
  obtain ⟨xs, m, _, _, hl, hx, hf⟩ := DataW.trod_struct Try.underlying62 h
  have hC : Try.prog.cellsOf 62 = 6 := by kernel_rfl
  match cs, hl.trans hC with
  | [c0, c1, c2, c3, c4, c5], _ =>
    obtain ⟨y0, h0⟩ := field_at hf hx 0 _ rfl 1 (by kernel_rfl)
    obtain ⟨y1, h1⟩ := field_at hf hx 1 _ rfl 1 (by kernel_rfl)
    obtain ⟨y2, h2⟩ := field_at hf hx 2 _ rfl 2 (by kernel_rfl)
    obtain ⟨y3, h3⟩ := field_at hf hx 3 _ rfl 1 (by kernel_rfl)
    obtain ⟨y4, h4⟩ := field_at hf hx 4 _ rfl 1 (by kernel_rfl)
    obtain ⟨xs2, m2, _, _, _, hx2, hf2⟩ := DataW.trod_struct Try.underlying59 h2
    obtain ⟨z0, g0⟩ := field_at hf2 hx2 0 _ rfl 1 (by kernel_rfl)
    obtain ⟨z1, g1⟩ := field_at hf2 hx2 1 _ rfl 1 (by kernel_rfl)
    obtain ⟨a, e0, _, _⟩ := DataW.trod_int Try.underlying3 h0
    obtain ⟨s, e1, _, hs⟩ := DataW.trod_string Try.underlying9 h1
    obtain ⟨b, e2, _, _⟩ := DataW.trod_int Try.underlying3 g0
    obtain ⟨c, e3, _, _⟩ := DataW.trod_int Try.underlying3 g1
    obtain ⟨d, e4, _, _⟩ := DataW.trod_int Try.underlying3 h3
    obtain ⟨A, cp, ph, e5, hS, _, hln⟩ := read_list PhaseR.row 2 (fun _ => True) Try.underlying60 (by kernel_rfl) (fun _ => ⟨_, rfl⟩) read_phase h4
    simp at e0 e1 e2 e3 e4 e5
    subst e0 e1 e2 e3 e4 e5
    exact ⟨⟨⟨a, s, b, c, d, ph⟩, A, cp⟩, ⟨hS, hs, hln⟩, rfl⟩
end
section
variable {H : Type} {enc : TypeId × Value → H} {w : World} {r : Reach} {b0 base : Nat} {spare : Nat → Bool} {held : Bool} {v : Value} {d : DataW H} {p : List MemPlace}
set_option maxRecDepth 100000 in
/-- A light that came in by value. -/
theorem open_light (hv : Value.okWide Try.prog w r b0 62 v) (h : DataW.Trod enc Try.prog w base spare held 62 v d p) : ∃ u : LightV, v = u.val ∧ u.At w := by
  obtain ⟨cs, fuel, rfl, hf⟩ := read_value Try.underlying62 hv h
  obtain ⟨u, hu, e⟩ := read_light _ _ _ hf
  exact ⟨u, by rw [LightV.val, show cs = cs.toList.toArray from by simp, e]; rfl, hu⟩
set_option maxRecDepth 100000 in
/-- A list of lights that came in. -/
theorem open_lights (hv : Value.okWide Try.prog w r b0 22 v) (h : DataW.Trod enc Try.prog w base spare held 22 v d p) :
    ∃ (A : Option Addr) (c : Nat) (l : List LightV), v = .slice A l.length c ∧ Sl w 6 LightV.row A l ∧ (∀ u ∈ l, u.At w) ∧ l.length ≤ maxLen := by
  obtain ⟨a, n, c, rfl⟩ := okWide_slice Try.underlying22 hv
  obtain ⟨fuel, hf⟩ := h
  obtain ⟨A, c, l, e, hS, hl, hln⟩ := read_list LightV.row 6 (fun u => u.At w) Try.underlying22 (by kernel_rfl) (fun _ => ⟨_, rfl⟩) read_light hf
  simp only [Value.cells, List.cons.injEq, and_true] at e
  exact ⟨A, c, l, by simpa using e, hS, hl, hln⟩
end
end Go.Proofs.Ytjlaidjogladaaa
