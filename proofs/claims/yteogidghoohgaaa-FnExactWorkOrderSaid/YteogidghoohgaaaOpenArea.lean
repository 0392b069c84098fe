/- A row, and a list of rows, that came in as arguments: what they hold. -/
import Derived.Test.YteogidghoohgaaaA1
import Derived.Test.YteogidghoohgaaaOpen
namespace Go.Proofs.Yteogidghoohgaaa
open Go.ChangeShapes Go.WideShapes Go.ChangeAt Go.RowKit Go.Deep Go.Joins
open Go.ChangeMaps (open_string shut_string)

section
variable {H : Type} {enc : TypeId × Value → H} {w : World} {r : Reach} {b0 base : Nat} {spare : Nat → Bool} {held : Bool} {v : Value} {d : DataW H} {p : List MemPlace}
/-- A row that came in by value. -/
theorem open_area (hv : Value.okWide Try.prog w r b0 47 v) (h : DataW.Trod enc Try.prog w base spare held 47 v d p) : ∃ r : AreaR, v = r.val ∧ r.nm.size ≤ maxLen := by
  obtain ⟨v0, v1, v2, v3, v4, v5, y0, y1, y2, y3, y4, y5, n, rfl, _, _, h0, h1, h2, h3, h4, h5⟩ := open_agg6 Try.underlying47 (by kernel_rfl) (by kernel_rfl) hv h
  obtain ⟨s, e0, _, hs⟩ := DataW.trod_string Try.underlying9 h0
  obtain ⟨a, e1, _, _⟩ := DataW.trod_int Try.underlying3 h1
  obtain ⟨b, e2, _, _⟩ := DataW.trod_int Try.underlying3 h2
  obtain ⟨c, e3, _, _⟩ := DataW.trod_int Try.underlying3 h3
  obtain ⟨d, e4, _, _⟩ := DataW.trod_int Try.underlying3 h4
  obtain ⟨e, e5, _, _⟩ := DataW.trod_int Try.underlying3 h5
  simp only [List.cons.injEq, and_true] at e0 e1 e2 e3 e4 e5
  subst e0 e1 e2 e3 e4 e5
  exact ⟨⟨s, a, b, c, d, e⟩, rfl, hs⟩
/-- A list of rows that came in. -/
theorem open_areas (hv : Value.okWide Try.prog w r b0 22 v) (h : DataW.Trod enc Try.prog w 0 spare held 22 v d p) :
    ∃ (A : Option Addr) (c : Nat) (l : List AreaR), v = .slice A l.length c ∧ Sl w 6 AreaR.row A l ∧ (∀ r ∈ l, r.nm.size ≤ maxLen) ∧ l.length ≤ maxLen := by
  obtain ⟨a, n, c, rfl⟩ := okWide_slice Try.underlying22 hv
  obtain ⟨fuel, hf⟩ := h
  rcases open_slice_fields Try.underlying22 Try.underlying47 (by kernel_rfl) (by kernel_rfl) hf with ⟨hcs, _⟩ | ⟨ad, len, cap, m, D, Pl, hcs, _, hl, hm, hme, hx, hi⟩
  · simp [Value.cells] at hcs
    obtain ⟨rfl, rfl, rfl⟩ := hcs
    exact ⟨none, 0, [], rfl, Sl.nil _ _ _ _, by simp, by simp⟩
  · simp [Value.cells] at hcs
    obtain ⟨rfl, rfl, rfl⟩ := hcs
    have key : ∀ i, i < n → ∃ r : AreaR, r.nm.size ≤ maxLen ∧ ∀ j u, (r.row)[j]? = some u → w.cell? (ad.add (i * 6 + j)) = some u := by
      intro i hin
      obtain ⟨ys, nn, _, _, _, hf⟩ := hi i (by rw [hme]; split <;> omega)
      obtain ⟨v0, y0, c0, _, h0⟩ := hf 0 _ rfl
      obtain ⟨v1, y1, c1, _, h1⟩ := hf 1 _ rfl
      obtain ⟨v2, y2, c2, _, h2⟩ := hf 2 _ rfl
      obtain ⟨v3, y3, c3, _, h3⟩ := hf 3 _ rfl
      obtain ⟨v4, y4, c4, _, h4⟩ := hf 4 _ rfl
      obtain ⟨v5, y5, c5, _, h5⟩ := hf 5 _ rfl
      obtain ⟨s, e0, _, hs⟩ := DataW.trod_string Try.underlying9 h0
      obtain ⟨a, e1, _, _⟩ := DataW.trod_int Try.underlying3 h1
      obtain ⟨b, e2, _, _⟩ := DataW.trod_int Try.underlying3 h2
      obtain ⟨c, e3, _, _⟩ := DataW.trod_int Try.underlying3 h3
      obtain ⟨d, e4, _, _⟩ := DataW.trod_int Try.underlying3 h4
      obtain ⟨e, e5, _, _⟩ := DataW.trod_int Try.underlying3 h5
      simp only [List.cons.injEq, and_true] at e0 e1 e2 e3 e4 e5
      subst e0 e1 e2 e3 e4 e5
      refine ⟨⟨s, a, b, c, d, e⟩, hs, fun j u hu => ?_⟩
      match j, hu with
      | 0, hu => simp [AreaR.row] at hu; subst hu; exact c0
      | 1, hu => simp [AreaR.row] at hu; subst hu; exact c1
      | 2, hu => simp [AreaR.row] at hu; subst hu; exact c2
      | 3, hu => simp [AreaR.row] at hu; subst hu; exact c3
      | 4, hu => simp [AreaR.row] at hu; subst hu; exact c4
      | 5, hu => simp [AreaR.row] at hu; subst hu; exact c5
    obtain ⟨l, hlen, hl1, hl2⟩ := Sl.collect (P := fun r : AreaR => r.nm.size ≤ maxLen) key (fun _ _ => ⟨_, rfl⟩)
    subst hlen
    exact ⟨_, _, l, rfl, hl2, hl1, by omega⟩
end
end Go.Proofs.Yteogidghoohgaaa
