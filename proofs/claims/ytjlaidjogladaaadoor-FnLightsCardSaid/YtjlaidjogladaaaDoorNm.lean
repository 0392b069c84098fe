/- Decimal numerals. No program in sight. -/
import Derived.Test.YtjlaidjogladaaaDoorBase
import Derived.Lib.ItoaNum
namespace Go.Proofs.YtjlaidjogladaaaDoor
open Go.RowKit

def num (n : Int) : ByteArray := ⟨(Go.Lib.itoa n).toArray⟩
theorem nDigits_le : ∀ (k u : Nat), u < 10 ^ (k + 1) → Go.Lib.nDigits u ≤ k + 1 := by
  intro k
  induction k with
  | zero => intro u h; rw [Go.Lib.nDigits_small (by simpa using h)]; omega
  | succ k ih =>
    intro u h
    by_cases h10 : u < 10
    · rw [Go.Lib.nDigits_small h10]; omega
    · rw [Go.Lib.nDigits_big h10]
      have := ih (u / 10) (by rw [Nat.pow_succ] at h; omega)
      omega
theorem num_size (n : Int) (h0 : -1000000000000 ≤ n) (h1 : n ≤ 1000000000000) : (num n).size ≤ 14 := by
  have e : (num n).size = (Go.Lib.itoa n).length := by simp [num, ByteArray.size]
  rw [e]
  unfold Go.Lib.itoa
  split
  · have := nDigits_le 12 n.natAbs (by omega)
    rw [List.length_cons, Go.Lib.decDigits_length]; omega
  · have := nDigits_le 12 n.toNat (by omega)
    rw [Go.Lib.decDigits_length]; omega
theorem num_nat (u : Nat) : num (u : Int) = ⟨(Go.Lib.decDigits u).toArray⟩ := by
  unfold num Go.Lib.itoa
  rw [if_neg (by omega)]; simp
end Go.Proofs.YtjlaidjogladaaaDoor
