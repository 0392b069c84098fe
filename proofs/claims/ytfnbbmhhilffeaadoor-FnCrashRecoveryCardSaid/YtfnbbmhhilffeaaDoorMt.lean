/- The laws' marks on texts. -/
import Derived.Test.YtfnbbmhhilffeaaDoorMk
import Derived.Test.YtfnbbmhhilffeaaDoorNm
import Derived.Test.YtfnbbmhhilffeaaDoorProg
import Derived.Laws.IdiomStrings
namespace Go.Proofs.YtfnbbmhhilffeaaDoor
open Go.RowKit

def markT (k : Int) : ByteArray := ⟨#[109]⟩ ++ num k
theorem markT_size (k : Int) (h0 : 0 ≤ k) (h1 : (k : Int) ≤ 1000000000000) : (markT k).size ≤ 15 := by
  have := num_size k (by omega) h1
  have h : (⟨#[109]⟩ : ByteArray).size = 1 := rfl
  simp only [markT, ByteArray.size_append, h]; omega
/-- What has been laid of a number's digits, and what is left of the number. -/
def MarkRel (k0 u : Nat) (out : ByteArray) : Prop := (u = 0 ∧ out = num k0) ∨ (0 < u ∧ num u ++ out = num k0)
theorem MarkRel.size {k0 u : Nat} {out : ByteArray} (h : MarkRel k0 u out) (hk : (k0 : Int) ≤ 1000000000000) : out.size ≤ 14 := by
  have h1 := num_size k0 (by omega) hk
  rcases h with ⟨_, rfl⟩ | ⟨_, h⟩
  · exact h1
  · have h2 := congrArg ByteArray.size h
    rw [ByteArray.size_append] at h2
    omega
theorem MarkRel.start {k : Nat} (h : 0 < k) : MarkRel k k ⟨#[]⟩ := .inr ⟨h, by apply ByteArray.ext; simp⟩
theorem MarkRel.step {k u : Nat} {out : ByteArray} (h : MarkRel k u out) (hu : 0 < u) : MarkRel k (u / 10) (⟨#[48 + UInt8.ofNat (u % 10)]⟩ ++ out) := by
  rcases h with ⟨h0, _⟩ | ⟨_, h⟩
  · omega
  have e8 : (48 + UInt8.ofNat (u % 10) : UInt8) = UInt8.ofNat (48 + u % 10) := by
    apply UInt8.toNat_inj.1
    simp
  rw [e8]
  by_cases h10 : u < 10
  · left
    refine ⟨by omega, ?_⟩
    rw [← h, num_nat, Go.Lib.decDigits_one h10, Nat.mod_eq_of_lt h10]
  · right
    refine ⟨by omega, ?_⟩
    rw [← h, num_nat, num_nat, ← ByteArray.append_assoc]
    congr 1
    conv => rhs; rw [Go.Lib.decDigits, dif_neg h10]
    exact ByteArray.mk_append_mk _ [UInt8.ofNat (48 + u % 10)]
theorem ret_str0 {a b : ByteArray} (h : a = b) : Ending.returned (.string a) = .returned (.string b) := by rw [h]
theorem back_one (W : World) (u : Nat) : (convert 22 9 (.slice (some ⟨W.heap.size, 0, none⟩) 1 1)).run Tryd.prog (W.alloc (.cells #[.int .u8 (48 + (u : Int) % 10)] 5)) = .ok (.string ⟨#[UInt8.ofNat (48 + u % 10)]⟩) (W.alloc (.cells #[.int .u8 (48 + (u : Int) % 10)] 5)) := by
  refine run_convert_bytes_back _ _ _ _ ⟨W.heap.size, 0, none⟩ 1 [UInt8.ofNat (48 + u % 10)] Tryd.underlying22 Tryd.underlying5 Tryd.underlying9 (fun j hj => ?_)
  have hj0 : j = 0 := by simpa using hj
  subst hj0
  have h := (Blk.new W 5 #[.int .u8 (48 + (u : Int) % 10)]).cell 0
  have e : (UInt8.ofNat (48 + u % 10)).toNat = 48 + u % 10 := by rw [UInt8.toNat_ofNat']; omega
  simp only [List.getElem_cons_zero, e]
  have e2 : (((48 + u % 10 : Nat) : Nat) : Int) = 48 + (u : Int) % 10 := by omega
  rw [e2]
  simp [Addr.add]
end Go.Proofs.YtfnbbmhhilffeaaDoor
