/- Whether the cast is good, and the minutes that are left, in both packages. -/
import Derived.Test.YtonbgaipmlgndaaDoorD2
import Derived.Test.YtonbgaipmlgndaaDoorL2
namespace Go.Proofs.YtonbgaipmlgndaaDoor
open Go.RowKit

theorem ret_bb {a b c d : Bool} (h : a = b) (h' : c = d) : Ending.returned (.tuple #[.bool a, .bool c]) = .returned (.tuple #[.bool b, .bool d]) := by rw [h, h']
theorem ret_ib {a b : Int} {c d : Bool} (h : a = b) (h' : c = d) : Ending.returned (.tuple #[.int .i64 a, .bool c]) = .returned (.tuple #[.int .i64 b, .bool d]) := by rw [h, h']
theorem DayC.bounds {v : DayC} (h : v.ok = true) : 0 ≤ v.minute ∧ v.minute ≤ 1440 ∧ 0 ≤ v.state ∧ v.state ≤ 2 ∧ 1 ≤ v.lines.length ∧ v.lines.length ≤ 8 ∧ -1 ≤ v.cast ∧ v.cast ≤ v.minute ∧ 0 ≤ v.fuel ∧ v.fuel ≤ 9999 ∧ 0 ≤ v.since ∧ v.since ≤ v.minute ∧ 0 ≤ v.line ∧ v.line ≤ v.lines.length := by
  simp only [DayC.ok, DayC.pre, DayC.post, inB, Bool.and_eq_true, decide_eq_true_eq] at h
  obtain ⟨⟨h1, _⟩, h2⟩ := h
  split at h2 <;> simp only [Bool.and_eq_true, decide_eq_true_eq, beq_iff_eq] at h2 <;> omega
theorem DayC.mins {v : DayC} (h : v.ok = true) {k : Nat} (hk : k < v.lines.length) : 1 ≤ v.lines[k].minutes ∧ v.lines[k].minutes ≤ 300 := by
  simp only [DayC.ok, Bool.and_eq_true] at h
  have := allUpto_iff.1 h.1.2 k hk
  simp only [lnStep, hk, ↓reduceDIte, inB, Bool.and_eq_true, decide_eq_true_eq] at this
  omega
def castB (v : DayC) : Bool := decide (0 ≤ v.cast) && decide (v.minute - v.cast ≤ 240)
def castF (v : DayC) : Bool × Bool := if v.ok then (castB v, true) else (false, false)

/-- What is left to do of line k. -/
def leftAt (v : DayC) (k : Nat) : Int :=
  if h : k < v.lines.length then (if v.lines[k].done then 0 else if (k : Int) + 1 = v.line then v.lines[k].minutes - min (v.minute - v.since) v.lines[k].minutes else v.lines[k].minutes) else 0
def leftTo (v : DayC) : Nat → Int
  | 0 => 0
  | k + 1 => leftTo v k + leftAt v k
theorem leftTo_bound {v : DayC} (h : v.ok = true) : ∀ k, k ≤ v.lines.length → 0 ≤ leftTo v k ∧ leftTo v k ≤ 300 * k := by
  intro k
  induction k with
  | zero => intro _; simp [leftTo]
  | succ k ih =>
    intro hk
    have h0 := ih (by omega)
    have hm := DayC.mins h (show k < v.lines.length by omega)
    obtain ⟨b1, b2, b3, b4, b5, b6, b7, b8, b9, b10, b11, b12, _⟩ := DayC.bounds h
    have hlt : k < v.lines.length := by omega
    simp only [leftTo, leftAt, hlt, ↓reduceDIte]
    split
    · omega
    · split <;> omega
def leftF (v : DayC) : Int × Bool := if v.ok then (leftTo v v.lines.length, true) else (0, false)
end Go.Proofs.YtonbgaipmlgndaaDoor
