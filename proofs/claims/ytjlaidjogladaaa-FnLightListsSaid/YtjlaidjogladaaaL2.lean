/- Fractions in lowest terms, least and greatest, in both packages: what they return, for numbers that are not negative. -/
import Derived.Test.YtjlaidjogladaaaProg
import Derived.Test.YtjlaidjogladaaaBase
namespace Go.Proofs.Ytjlaidjogladaaa
open Go.RowKit

theorem gcd_pos {a b : Nat} (h : 0 < b) : (1 : Int) ≤ (Nat.gcd a b : Int) := by have := Nat.gcd_pos_of_pos_right a h; omega
theorem tuple2 {a b c d : Int} (h : a = b) (h' : c = d) : Ending.returned (.tuple #[.int .i64 a, .int .i64 c]) = .returned (.tuple #[.int .i64 b, .int .i64 d]) := by rw [h, h']
theorem wrap_div {a d g : Nat} (h : a ≤ 9223372036854775807) (hd : d = g) : wrap64 ((a : Int) / (d : Int)) = ((a / g : Nat) : Int) := by
  subst hd
  rw [← Int.natCast_ediv]
  have := Nat.div_le_self a d
  generalize a / d = q at this ⊢
  unfold wrap64
  omega
end Go.Proofs.Ytjlaidjogladaaa
