/- Log records: which are valid, in both packages. -/
import Derived.Test.YtdfgllgmggellaaL1
import Derived.Test.YtdfgllgmggellaaShelf
namespace Go.Proofs.Ytdfgllgmggellaa
open Go.RowKit

def plainC (c : UInt8) : Bool := decide (32 ≤ c.toNat) && decide (c.toNat ≤ 126) && !(c.toNat == 35)
def plainB (s : ByteArray) : Bool := s.data.toList.all plainC
def hasB (s : ByteArray) (c : UInt8) : Bool := s.data.toList.any fun b => b.toNat == c.toNat
theorem plainB_no (s : ByteArray) (k : Nat) (h : k < s.size) (hn : (s[k].toNat : Int) < 32 ∨ 126 < (s[k].toNat : Int) ∨ (s[k].toNat : Int) = 35) : plainB s = false :=
  all_no plainC s k h (by simp only [plainC]; grind)
theorem plainB_step (s : ByteArray) (k : Nat) (h : k < s.size) (hp : (s.data.toList.take k).all plainC = true) (h1 : 32 ≤ (s[k].toNat : Int)) (h2 : (s[k].toNat : Int) ≤ 126) (h3 : (s[k].toNat : Int) ≠ 35) : (s.data.toList.take (k + 1)).all plainC = true := by
  rw [all_snoc _ _ _ h, hp]; simp only [plainC]; grind
theorem plainB_end (s : ByteArray) (k : Nat) (h : ¬ k < s.size) (hp : (s.data.toList.take k).all plainC = true) : plainB s = true := by
  rw [List.take_of_length_le (by simp; omega)] at hp
  exact hp
theorem any_snoc (p : UInt8 → Bool) (s : ByteArray) (k : Nat) (h : k < s.size) : (s.data.toList.take (k + 1)).any p = ((s.data.toList.take k).any p || p s[k]) := by
  rw [List.take_succ_eq_append_getElem (by simpa using h)]; simp; rfl
theorem hasB_yes (s : ByteArray) (c : UInt8) (k : Nat) (h : k < s.size) (hn : (s[k].toNat : Int) = c.toNat) : hasB s c = true := by
  rw [hasB, List.any_eq_true]
  exact ⟨s[k], by simp [ByteArray.getElem_eq_getElem_data], by simp; omega⟩
theorem hasB_end (s : ByteArray) (c : UInt8) (k : Nat) (h : ¬ k < s.size) (hp : (s.data.toList.take k).any (fun b => b.toNat == c.toNat) = false) : hasB s c = false := by
  rw [List.take_of_length_le (by simp; omega)] at hp
  exact hp
theorem contains_has (s : ByteArray) (c : UInt8) : decide (0 ≤ Go.Lib.indexByte s.data.toList c) = hasB s c := by
  rw [Bool.eq_iff_iff, decide_eq_true_eq, hasB, List.any_eq_true]
  constructor
  · intro h
    obtain ⟨n, hn⟩ := Int.eq_ofNat_of_zero_le h
    have := (Go.Lib.indexByte_some hn).1
    exact ⟨c, List.mem_of_getElem? this, by simp⟩
  · rintro ⟨b, hb, he⟩
    have hbc : b = c := by simp at he; exact UInt8.toNat_inj.1 he
    subst hbc
    have hge := Go.Lib.indexByte_ge s.data.toList b
    by_cases h : Go.Lib.indexByte s.data.toList b = -1
    · obtain ⟨k, hk⟩ := List.mem_iff_getElem?.1 hb
      exact absurd hk (Go.Lib.indexByte_none h k)
    · omega

@[go_sem] theorem wrap64_byte (c : UInt8) : wrap64 (c.toNat : Int) = c.toNat := by
  have := c.toNat_lt; unfold wrap64; omega
theorem inB_lo {n : Int} (h : inB n 32 126 = true) : 32 ≤ n ∧ n ≤ 126 := by simpa [inB] using h
theorem inB_not {n : Int} (h : inB n 32 126 = false) : n < 32 ∨ 126 < n := by simp [inB] at h; omega
set_option maxHeartbeats 400000 in
theorem i_isPlain (s : ByteArray) (o : Bool) (ho : plainB s = o) (w : World) (hs : s.size ≤ maxLen) :
    Calls Try.prog 10 #[.string s] w fun e w' => e = .returned (.bool o) ∧ w = w' := by
  subst ho
  unfold maxLen at hs
  go_enter Try.func10, Try.ntmps10
  go_wp2_with fail
  go_loop [3] (fun i => ∃ k : Nat, k ≤ s.size ∧ i = .int .i64 k ∧ (s.data.toList.take k).all plainC = true) (fun i => s.size - (intOf i).toNat)
  case atStart => exact ⟨0, Nat.zero_le _, rfl, rfl⟩
  case round =>
    obtain ⟨k, hk, rfl, hall⟩ := hrel
    by_cases hlt : k < s.size
    · have H := hid hall
      clear hall
      go_wp2
      all_goals first
        | (go_roundw
           case rel => exact ⟨k + 1, by omega, by go_num, plainB_step s k hlt H.out (by grind) (by grind) (by grind)⟩
           case measure => simp [intOf]; omega)
        | (go_ret
           exact ⟨ret_bool (plainB_no s k hlt (by grind)).symm, rfl⟩)
    · have H := hid (plainB_end s k hlt hall)
      clear hall
      go_wp2
      go_ret
      exact ⟨ret_bool H.out.symm, rfl⟩
set_option maxHeartbeats 400000 in
theorem s_l27Plain (s : ByteArray) (m : Int) (o : Bool) (ho : (plainB s && decide ((s.size : Int) ≤ m)) = o) (w : World) (hs : s.size ≤ maxLen) :
    Calls Try.prog 12 #[.string s, .int .i64 m] w fun e w' => e = .returned (.bool o) ∧ w = w' := by
  subst ho
  unfold maxLen at hs
  go_enter Try.func12, Try.ntmps12
  go_wp2_with fail
  go_loop [5] (fun i => ∃ k : Nat, k ≤ s.size ∧ i = .int .i64 k ∧ (s.data.toList.take k).all plainC = true) (fun i => s.size - (intOf i).toNat)
  case atStart => exact ⟨0, Nat.zero_le _, rfl, rfl⟩
  case round =>
    obtain ⟨k, hk, rfl, hall⟩ := hrel
    by_cases hlt : k < s.size
    · have H := hid hall
      clear hall
      rcases hb : inB (s[k].toNat : Int) 32 126 with _ | _
      · have HB := hid hb
        go_wp2_with (go_at_call 15; refine (s_l1In _ _ _ _ hb _).mono ?_; (rintro e w' ⟨rfl, rfl⟩))
        go_ret
        exact ⟨ret_bool (by rw [plainB_no s k hlt (by have := inB_not HB.out; omega)]; rfl), rfl⟩
      · have HB := hid hb
        go_wp2_with (go_at_call 15; refine (s_l1In _ _ _ _ hb _).mono ?_; (rintro e w' ⟨rfl, rfl⟩))
        all_goals first
          | (go_roundw
             case rel => exact ⟨k + 1, by omega, by go_num, plainB_step s k hlt H.out (by have := inB_lo HB.out; omega) (by have := inB_lo HB.out; omega) (by grind)⟩
             case measure => simp [intOf]; omega)
          | (go_ret
             exact ⟨ret_bool (by rw [plainB_no s k hlt (by grind)]; rfl), rfl⟩)
    · have H := hid (plainB_end s k hlt hall)
      clear hall
      go_wp2
      go_ret
      exact ⟨ret_bool (by rw [H.out]; simp), rfl⟩
set_option maxHeartbeats 400000 in
theorem s_l1Stands (s : ByteArray) (c : UInt8) (b : Int) (hb : b = c.toNat) (o : Bool) (ho : hasB s c = o) (w : World) (hs : s.size ≤ maxLen) :
    Calls Try.prog 13 #[.string s, .int .u8 b] w fun e w' => e = .returned (.bool o) ∧ w = w' := by
  subst ho
  unfold maxLen at hs
  have HB := hid hb
  clear hb
  go_enter Try.func13, Try.ntmps13
  go_wp2_with fail
  go_loop [5] (fun i => ∃ k : Nat, k ≤ s.size ∧ i = .int .i64 k ∧ (s.data.toList.take k).any (fun b => b.toNat == c.toNat) = false) (fun i => s.size - (intOf i).toNat)
  case atStart => exact ⟨0, Nat.zero_le _, rfl, rfl⟩
  case round =>
    obtain ⟨k, hk, rfl, hall⟩ := hrel
    by_cases hlt : k < s.size
    · have H := hid hall
      clear hall
      go_wp2
      all_goals first
        | (go_roundw
           case rel => exact ⟨k + 1, by omega, by go_num, by rw [any_snoc _ _ _ hlt, H.out]; have := HB.out; grind⟩
           case measure => simp [intOf]; omega)
        | (go_ret
           exact ⟨ret_bool (hasB_yes s c k hlt (by have := HB.out; grind)).symm, rfl⟩)
    · have H := hid (hasB_end s c k hlt hall)
      clear hall
      go_wp2
      go_ret
      exact ⟨ret_bool H.out.symm, rfl⟩
end Go.Proofs.Ytdfgllgmggellaa
