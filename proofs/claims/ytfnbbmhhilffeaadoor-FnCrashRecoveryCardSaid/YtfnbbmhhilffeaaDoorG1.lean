/- Log records: which are valid, in both packages. -/
import Derived.Test.YtfnbbmhhilffeaaDoorL1
import Derived.Test.YtfnbbmhhilffeaaDoorG0
import Derived.Test.YtfnbbmhhilffeaaDoorShelf
namespace Go.Proofs.YtfnbbmhhilffeaaDoor
open Go.RowKit

@[go_sem] theorem wrap64_byte (c : UInt8) : wrap64 (c.toNat : Int) = c.toNat := by
  have := c.toNat_lt; unfold wrap64; omega
theorem inB_lo {n : Int} (h : inB n 32 126 = true) : 32 ≤ n ∧ n ≤ 126 := by simpa [inB] using h
theorem inB_not {n : Int} (h : inB n 32 126 = false) : n < 32 ∨ 126 < n := by simp [inB] at h; omega
set_option maxHeartbeats 400000 in
theorem i_isPlain (s : ByteArray) (o : Bool) (ho : plainB s = o) (w : World) (hs : s.size ≤ maxLen) :
    Calls Tryd.prog 36 #[.string s] w fun e w' => e = .returned (.bool o) ∧ w = w' := by
  subst ho
  unfold maxLen at hs
  go_enter Tryd.func36, Tryd.ntmps36
  go_wp2_with fail
  go_loop [3] (fun i => ∃ k : Nat, k ≤ s.size ∧ i = .int .i64 k ∧ (s.data.toList.take k).all plainC = true) (fun i => s.size - (intOf i).toNat)
  case atStart => exact ⟨0, Nat.zero_le _, rfl, rfl⟩
  case round =>
    obtain ⟨k, hk, rfl, hall⟩ := hrel
    by_cases hlt : k < s.size
    · have H := hid hall
      clear hall
      go_wp2
      all_goals first
        | (go_roundw
           case rel => exact ⟨k + 1, by omega, by go_num, plainB_step s k hlt H.out (by grind) (by grind) (by grind)⟩
           case measure => simp [intOf]; omega)
        | (go_ret
           exact ⟨ret_bool (plainB_no s k hlt (by grind)).symm, rfl⟩)
    · have H := hid (plainB_end s k hlt hall)
      clear hall
      go_wp2
      go_ret
      exact ⟨ret_bool H.out.symm, rfl⟩
set_option maxHeartbeats 400000 in
theorem s_l27Plain (s : ByteArray) (m : Int) (o : Bool) (ho : (plainB s && decide ((s.size : Int) ≤ m)) = o) (w : World) (hs : s.size ≤ maxLen) :
    Calls Tryd.prog 47 #[.string s, .int .i64 m] w fun e w' => e = .returned (.bool o) ∧ w = w' := by
  subst ho
  unfold maxLen at hs
  go_enter Tryd.func47, Tryd.ntmps47
  go_wp2_with fail
  go_loop [5] (fun i => ∃ k : Nat, k ≤ s.size ∧ i = .int .i64 k ∧ (s.data.toList.take k).all plainC = true) (fun i => s.size - (intOf i).toNat)
  case atStart => exact ⟨0, Nat.zero_le _, rfl, rfl⟩
  case round =>
    obtain ⟨k, hk, rfl, hall⟩ := hrel
    by_cases hlt : k < s.size
    · have H := hid hall
      clear hall
      rcases hb : inB (s[k].toNat : Int) 32 126 with _ | _
      · have HB := hid hb
        go_wp2_with (go_at_call 39; refine (s_l1In _ _ _ _ hb _).mono ?_; (rintro e w' ⟨rfl, rfl⟩))
        go_ret
        exact ⟨ret_bool (by rw [plainB_no s k hlt (by have := inB_not HB.out; omega)]; rfl), rfl⟩
      · have HB := hid hb
        go_wp2_with (go_at_call 39; refine (s_l1In _ _ _ _ hb _).mono ?_; (rintro e w' ⟨rfl, rfl⟩))
        all_goals first
          | (go_roundw
             case rel => exact ⟨k + 1, by omega, by go_num, plainB_step s k hlt H.out (by have := inB_lo HB.out; omega) (by have := inB_lo HB.out; omega) (by grind)⟩
             case measure => simp [intOf]; omega)
          | (go_ret
             exact ⟨ret_bool (by rw [plainB_no s k hlt (by grind)]; rfl), rfl⟩)
    · have H := hid (plainB_end s k hlt hall)
      clear hall
      go_wp2
      go_ret
      exact ⟨ret_bool (by rw [H.out]; simp), rfl⟩
set_option maxHeartbeats 400000 in
theorem s_l1Stands (s : ByteArray) (c : UInt8) (b : Int) (hb : b = c.toNat) (o : Bool) (ho : hasB s c = o) (w : World) (hs : s.size ≤ maxLen) :
    Calls Tryd.prog 48 #[.string s, .int .u8 b] w fun e w' => e = .returned (.bool o) ∧ w = w' := by
  subst ho
  unfold maxLen at hs
  have HB := hid hb
  clear hb
  go_enter Tryd.func48, Tryd.ntmps48
  go_wp2_with fail
  go_loop [5] (fun i => ∃ k : Nat, k ≤ s.size ∧ i = .int .i64 k ∧ (s.data.toList.take k).any (fun b => b.toNat == c.toNat) = false) (fun i => s.size - (intOf i).toNat)
  case atStart => exact ⟨0, Nat.zero_le _, rfl, rfl⟩
  case round =>
    obtain ⟨k, hk, rfl, hall⟩ := hrel
    by_cases hlt : k < s.size
    · have H := hid hall
      clear hall
      go_wp2
      all_goals first
        | (go_roundw
           case rel => exact ⟨k + 1, by omega, by go_num, by rw [any_snoc _ _ _ hlt, H.out]; have := HB.out; grind⟩
           case measure => simp [intOf]; omega)
        | (go_ret
           exact ⟨ret_bool (hasB_yes s c k hlt (by have := HB.out; grind)).symm, rfl⟩)
    · have H := hid (hasB_end s c k hlt hall)
      clear hall
      go_wp2
      go_ret
      exact ⟨ret_bool H.out.symm, rfl⟩
end Go.Proofs.YtfnbbmhhilffeaaDoor
