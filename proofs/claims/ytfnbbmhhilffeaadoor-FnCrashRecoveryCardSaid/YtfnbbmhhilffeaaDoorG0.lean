/- Which bytes a record may hold. No program in sight. -/
import Derived.Test.YtfnbbmhhilffeaaDoorBase
import Derived.Lib.IndexBytes
namespace Go.Proofs.YtfnbbmhhilffeaaDoor
open Go.RowKit

theorem all_no0 (p : UInt8 → Bool) (s : ByteArray) (k : Nat) (h : k < s.size) (hn : p s[k] = false) : s.data.toList.all p = false := by
  rw [List.all_eq_false]
  exact ⟨s[k], by simp [ByteArray.getElem_eq_getElem_data], by simp [hn]⟩
theorem all_snoc0 (p : UInt8 → Bool) (s : ByteArray) (k : Nat) (h : k < s.size) : (s.data.toList.take (k + 1)).all p = ((s.data.toList.take k).all p && p s[k]) := by
  rw [List.take_succ_eq_append_getElem (by simpa using h)]; simp; rfl
def plainC (c : UInt8) : Bool := decide (32 ≤ c.toNat) && decide (c.toNat ≤ 126) && !(c.toNat == 35)
def plainB (s : ByteArray) : Bool := s.data.toList.all plainC
def hasB (s : ByteArray) (c : UInt8) : Bool := s.data.toList.any fun b => b.toNat == c.toNat
theorem plainB_no (s : ByteArray) (k : Nat) (h : k < s.size) (hn : (s[k].toNat : Int) < 32 ∨ 126 < (s[k].toNat : Int) ∨ (s[k].toNat : Int) = 35) : plainB s = false :=
  all_no0 plainC s k h (by simp only [plainC]; grind)
theorem plainB_step (s : ByteArray) (k : Nat) (h : k < s.size) (hp : (s.data.toList.take k).all plainC = true) (h1 : 32 ≤ (s[k].toNat : Int)) (h2 : (s[k].toNat : Int) ≤ 126) (h3 : (s[k].toNat : Int) ≠ 35) : (s.data.toList.take (k + 1)).all plainC = true := by
  rw [all_snoc0 _ _ _ h, hp]; simp only [plainC]; grind
theorem plainB_end (s : ByteArray) (k : Nat) (h : ¬ k < s.size) (hp : (s.data.toList.take k).all plainC = true) : plainB s = true := by
  rw [List.take_of_length_le (by simp; omega)] at hp
  exact hp
theorem any_snoc (p : UInt8 → Bool) (s : ByteArray) (k : Nat) (h : k < s.size) : (s.data.toList.take (k + 1)).any p = ((s.data.toList.take k).any p || p s[k]) := by
  rw [List.take_succ_eq_append_getElem (by simpa using h)]; simp; rfl
theorem hasB_yes (s : ByteArray) (c : UInt8) (k : Nat) (h : k < s.size) (hn : (s[k].toNat : Int) = c.toNat) : hasB s c = true := by
  rw [hasB, List.any_eq_true]
  exact ⟨s[k], by simp [ByteArray.getElem_eq_getElem_data], by simp; omega⟩
theorem hasB_end (s : ByteArray) (c : UInt8) (k : Nat) (h : ¬ k < s.size) (hp : (s.data.toList.take k).any (fun b => b.toNat == c.toNat) = false) : hasB s c = false := by
  rw [List.take_of_length_le (by simp; omega)] at hp
  exact hp
theorem contains_has (s : ByteArray) (c : UInt8) : decide (0 ≤ Go.Lib.indexByte s.data.toList c) = hasB s c := by
  rw [Bool.eq_iff_iff, decide_eq_true_eq, hasB, List.any_eq_true]
  constructor
  · intro h
    obtain ⟨n, hn⟩ := Int.eq_ofNat_of_zero_le h
    have := (Go.Lib.indexByte_some hn).1
    exact ⟨c, List.mem_of_getElem? this, by simp⟩
  · rintro ⟨b, hb, he⟩
    have hbc : b = c := by simp at he; exact UInt8.toNat_inj.1 he
    subst hbc
    have hge := Go.Lib.indexByte_ge s.data.toList b
    by_cases h : Go.Lib.indexByte s.data.toList b = -1
    · obtain ⟨k, hk⟩ := List.mem_iff_getElem?.1 hb
      exact absurd hk (Go.Lib.indexByte_none h k)
    · omega

end Go.Proofs.YtfnbbmhhilffeaaDoor
