/- A code of draws that came in: its bytes. -/
import Derived.Test.YtjlaidjogladaaaDoorE5
import Derived.Test.YtjlaidjogladaaaDoorOpen
namespace Go.Proofs.YtjlaidjogladaaaDoor
open Go.ChangeShapes Go.WideShapes Go.ChangeAt Go.RowKit Go.Deep Go.Joins

set_option maxRecDepth 100000 in
theorem open_code {H : Type} {enc : TypeId × Value → H} {w : World} {r : Reach} {b0 base : Nat} {spare : Nat → Bool} {held : Bool} {v : Value} {d : DataW H} {p : List MemPlace} (hv : Value.okWide Tryd.prog w r b0 22 v) (h : DataW.Trod enc Tryd.prog w base spare held 22 v d p) :
    ∃ (A : Option Addr) (c : Nat) (l : List Int), v = .slice A l.length c ∧ Sl w 1 byteRow A l ∧ (∀ x ∈ l, 0 ≤ x ∧ x ≤ 255) ∧ l.length ≤ maxLen := by
  obtain ⟨a, n, c, rfl⟩ := okWide_slice Tryd.underlying22 hv
  obtain ⟨fuel, hf⟩ := h
  obtain ⟨A, c, l, e, hS, hl, hln⟩ := read_list byteRow 1 (fun x => 0 ≤ x ∧ x ≤ 255) Tryd.underlying22 (by kernel_rfl) (fun _ => ⟨_, rfl⟩) (fun n cs y h => by
    obtain ⟨k, e, _, hw⟩ := DataW.trod_int Tryd.underlying5 h
    refine ⟨k, ?_, e⟩
    simp only [Lit.wf, Bool.and_eq_true, decide_eq_true_eq] at hw
    have h1 : IntKind.u8.min = 0 := rfl
    have h2 : IntKind.u8.max = 255 := rfl
    rw [h1, h2] at hw
    exact hw) hf
  simp only [Value.cells, List.cons.injEq, and_true] at e
  exact ⟨A, c, l, by simpa using e, hS, hl, hln⟩
end Go.Proofs.YtjlaidjogladaaaDoor
