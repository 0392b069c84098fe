/- The small functions of both packages (ranges, words, depths): what each returns. No condition but that a string has a length. -/
import Derived.Test.YtjlaidjogladaaaDoorProg
import Derived.Test.YtjlaidjogladaaaDoorBase
namespace Go.Proofs.YtjlaidjogladaaaDoor
open Go.RowKit

def inB (n lo hi : Int) : Bool := decide (lo ≤ n) && decide (n ≤ hi)
def lowB (c : UInt8) : Bool := decide (97 ≤ c.toNat) && decide (c.toNat ≤ 122)
def wordB (s : ByteArray) : Bool := s.data.toList.all lowB && inB s.size 1 10
theorem all_snoc (p : UInt8 → Bool) (s : ByteArray) (k : Nat) (h : k < s.size) : (s.data.toList.take (k + 1)).all p = ((s.data.toList.take k).all p && p s[k]) := by
  rw [List.take_succ_eq_append_getElem (by simpa using h)]; simp; rfl
theorem all_no (p : UInt8 → Bool) (s : ByteArray) (k : Nat) (h : k < s.size) (hn : p s[k] = false) : s.data.toList.all p = false := by
  rw [List.all_eq_false]
  exact ⟨s[k], by simp [ByteArray.getElem_eq_getElem_data], by simp [hn]⟩
theorem wordB_no (s : ByteArray) (k : Nat) (h : k < s.size) (hn : (s[k].toNat : Int) < 97 ∨ 122 < (s[k].toNat : Int)) : wordB s = false := by
  rw [wordB, all_no lowB s k h]; rfl
  simp only [lowB]; grind
theorem wordB_step (s : ByteArray) (k : Nat) (h : k < s.size) (hp : (s.data.toList.take k).all lowB = true) (h1 : 97 ≤ (s[k].toNat : Int)) (h2 : (s[k].toNat : Int) ≤ 122) : (s.data.toList.take (k + 1)).all lowB = true := by
  rw [all_snoc _ _ _ h, hp]; simp only [lowB]; grind
theorem wordB_end (s : ByteArray) (k : Nat) (h : ¬ k < s.size) (hp : (s.data.toList.take k).all lowB = true) : wordB s = inB s.size 1 10 := by
  rw [List.take_of_length_le (by simp; omega)] at hp
  rw [wordB, hp]; simp
theorem wordB_size {s : ByteArray} (h : wordB s = true) : s.size ≤ 10 := by
  simp only [wordB, inB, Bool.and_eq_true, decide_eq_true_eq] at h; omega




set_option maxHeartbeats 400000 in
theorem s_l1In (n lo hi : Int) (o : Bool) (ho : inB n lo hi = o) (w : World) :
    Calls Tryd.prog 37 #[.int .i64 n, .int .i64 lo, .int .i64 hi] w fun e w' => e = .returned (.bool o) ∧ w = w' := by
  subst ho
  go_enter Tryd.func37, Tryd.ntmps37
  go_wp2
  all_goals
    go_ret
    exact ⟨ret_bool (by simp only [inB]; grind), rfl⟩
set_option maxHeartbeats 400000 in
theorem i_inside (n lo hi : Int) (o : Bool) (ho : inB n lo hi = o) (w : World) :
    Calls Tryd.prog 25 #[.int .i64 n, .int .i64 lo, .int .i64 hi] w fun e w' => e = .returned (.bool o) ∧ w = w' := by
  subst ho
  go_enter Tryd.func25, Tryd.ntmps25
  go_wp2
  all_goals
    go_ret
    exact ⟨ret_bool (by simp only [inB]; grind), rfl⟩
set_option maxHeartbeats 400000 in
theorem s_l2Word (s : ByteArray) (o : Bool) (ho : wordB s = o) (w : World) (hs : s.size ≤ maxLen) :
    Calls Tryd.prog 38 #[.string s] w fun e w' => e = .returned (.bool o) ∧ w = w' := by
  subst ho
  unfold maxLen at hs
  go_enter Tryd.func38, Tryd.ntmps38
  go_wp2_with fail
  go_loop [3] (fun i => ∃ k : Nat, k ≤ s.size ∧ i = .int .i64 k ∧ (s.data.toList.take k).all lowB = true) (fun i => s.size - (intOf i).toNat)
  case atStart => exact ⟨0, Nat.zero_le _, rfl, rfl⟩
  case round =>
    obtain ⟨k, hk, rfl, hall⟩ := hrel
    by_cases hlt : k < s.size
    · have H := hid hall
      clear hall
      go_wp2
      all_goals first
        | (go_roundw
           case rel => exact ⟨k + 1, by omega, by go_num, wordB_step s k hlt H.out (by grind) (by grind)⟩
           case measure => simp [intOf]; omega)
        | (go_ret
           exact ⟨ret_bool (wordB_no s k hlt (by grind)).symm, rfl⟩)
    · have H := hid (wordB_end s k hlt hall)
      clear hall
      go_wp2_with (go_at_call 37; refine (s_l1In _ _ _ _ rfl _).mono ?_; (rintro e w' ⟨rfl, rfl⟩))
      go_ret
      exact ⟨ret_bool H.out.symm, rfl⟩
set_option maxHeartbeats 400000 in
theorem i_isWord (s : ByteArray) (o : Bool) (ho : wordB s = o) (w : World) (hs : s.size ≤ maxLen) :
    Calls Tryd.prog 26 #[.string s] w fun e w' => e = .returned (.bool o) ∧ w = w' := by
  subst ho
  unfold maxLen at hs
  go_enter Tryd.func26, Tryd.ntmps26
  go_wp2_with fail
  go_loop [3] (fun i => ∃ k : Nat, k ≤ s.size ∧ i = .int .i64 k ∧ (s.data.toList.take k).all lowB = true) (fun i => s.size - (intOf i).toNat)
  case atStart => exact ⟨0, Nat.zero_le _, rfl, rfl⟩
  case round =>
    obtain ⟨k, hk, rfl, hall⟩ := hrel
    by_cases hlt : k < s.size
    · have H := hid hall
      clear hall
      go_wp2
      all_goals first
        | (go_roundw
           case rel => exact ⟨k + 1, by omega, by go_num, wordB_step s k hlt H.out (by grind) (by grind)⟩
           case measure => simp [intOf]; omega)
        | (go_ret
           exact ⟨ret_bool (wordB_no s k hlt (by grind)).symm, rfl⟩)
    · have H := hid (wordB_end s k hlt hall)
      clear hall
      go_wp2_with (go_at_call 25; refine (i_inside _ _ _ _ rfl _).mono ?_; (rintro e w' ⟨rfl, rfl⟩))
      go_ret
      exact ⟨ret_bool H.out.symm, rfl⟩

end Go.Proofs.YtjlaidjogladaaaDoor
