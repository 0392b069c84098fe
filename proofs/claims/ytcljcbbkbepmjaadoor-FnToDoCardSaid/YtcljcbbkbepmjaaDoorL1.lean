/- The small functions of both packages (ranges, words, depths): what each returns. No condition but that a string has a length. -/
import Derived.Test.YtcljcbbkbepmjaaDoorProg
import Derived.Test.YtcljcbbkbepmjaaDoorBase
namespace Go.Proofs.YtcljcbbkbepmjaaDoor
open Go.RowKit

def inB (n lo hi : Int) : Bool := decide (lo ≤ n) && decide (n ≤ hi)
def lowB (c : UInt8) : Bool := decide (97 ≤ c.toNat) && decide (c.toNat ≤ 122)
def wordB (s : ByteArray) : Bool := s.data.toList.all lowB && inB s.size 1 10
theorem all_snoc (p : UInt8 → Bool) (s : ByteArray) (k : Nat) (h : k < s.size) : (s.data.toList.take (k + 1)).all p = ((s.data.toList.take k).all p && p s[k]) := by
  rw [List.take_succ_eq_append_getElem (by simpa using h)]; simp; rfl
theorem all_no (p : UInt8 → Bool) (s : ByteArray) (k : Nat) (h : k < s.size) (hn : p s[k] = false) : s.data.toList.all p = false := by
  rw [List.all_eq_false]
  exact ⟨s[k], by simp [ByteArray.getElem_eq_getElem_data], by simp [hn]⟩
theorem wordB_no (s : ByteArray) (k : Nat) (h : k < s.size) (hn : (s[k].toNat : Int) < 97 ∨ 122 < (s[k].toNat : Int)) : wordB s = false := by
  rw [wordB, all_no lowB s k h]; rfl
  simp only [lowB]; grind
theorem wordB_step (s : ByteArray) (k : Nat) (h : k < s.size) (hp : (s.data.toList.take k).all lowB = true) (h1 : 97 ≤ (s[k].toNat : Int)) (h2 : (s[k].toNat : Int) ≤ 122) : (s.data.toList.take (k + 1)).all lowB = true := by
  rw [all_snoc _ _ _ h, hp]; simp only [lowB]; grind
theorem wordB_end (s : ByteArray) (k : Nat) (h : ¬ k < s.size) (hp : (s.data.toList.take k).all lowB = true) : wordB s = inB s.size 1 10 := by
  rw [List.take_of_length_le (by simp; omega)] at hp
  rw [wordB, hp]; simp
theorem wordB_size {s : ByteArray} (h : wordB s = true) : s.size ≤ 10 := by
  simp only [wordB, inB, Bool.and_eq_true, decide_eq_true_eq] at h; omega




set_option maxHeartbeats 400000 in
theorem s_l1In (n lo hi : Int) (o : Bool) (ho : inB n lo hi = o) (w : World) :
    Calls Tryd.prog 33 #[.int .i64 n, .int .i64 lo, .int .i64 hi] w fun e w' => e = .returned (.bool o) ∧ w = w' := by
  subst ho
  go_enter Tryd.func33, Tryd.ntmps33
  go_wp2
  all_goals
    go_ret
    exact ⟨ret_bool (by simp only [inB]; grind), rfl⟩
set_option maxHeartbeats 400000 in
theorem i_inside (n lo hi : Int) (o : Bool) (ho : inB n lo hi = o) (w : World) :
    Calls Tryd.prog 32 #[.int .i64 n, .int .i64 lo, .int .i64 hi] w fun e w' => e = .returned (.bool o) ∧ w = w' := by
  subst ho
  go_enter Tryd.func32, Tryd.ntmps32
  go_wp2
  all_goals
    go_ret
    exact ⟨ret_bool (by simp only [inB]; grind), rfl⟩

end Go.Proofs.YtcljcbbkbepmjaaDoor
