/- The laws' marks on texts. -/
import Derived.Test.YtjlaidjogladaaaMk
import Derived.Test.YtjlaidjogladaaaNm
import Derived.Test.YtjlaidjogladaaaProg
import Derived.Laws.IdiomStrings
namespace Go.Proofs.Ytjlaidjogladaaa
open Go.RowKit

def markT (k : Int) : ByteArray := ⟨#[109]⟩ ++ num k
theorem markT_size (k : Int) (h0 : 0 ≤ k) (h1 : (k : Int) ≤ 1000000000000) : (markT k).size ≤ 15 := by
  have := num_size k (by omega) h1
  have h : (⟨#[109]⟩ : ByteArray).size = 1 := rfl
  simp only [markT, ByteArray.size_append, h]; omega
/-- What has been laid of a number's digits, and what is left of the number. -/
def MarkRel (k0 u : Nat) (out : ByteArray) : Prop := (u = 0 ∧ out = num k0) ∨ (0 < u ∧ num u ++ out = num k0)
theorem MarkRel.size {k0 u : Nat} {out : ByteArray} (h : MarkRel k0 u out) (hk : (k0 : Int) ≤ 1000000000000) : out.size ≤ 14 := by
  have h1 := num_size k0 (by omega) hk
  rcases h with ⟨_, rfl⟩ | ⟨_, h⟩
  · exact h1
  · have h2 := congrArg ByteArray.size h
    rw [ByteArray.size_append] at h2
    omega
theorem MarkRel.start {k : Nat} (h : 0 < k) : MarkRel k k ⟨#[]⟩ := .inr ⟨h, by apply ByteArray.ext; simp⟩
theorem MarkRel.step {k u : Nat} {out : ByteArray} (h : MarkRel k u out) (hu : 0 < u) : MarkRel k (u / 10) (⟨#[48 + UInt8.ofNat (u % 10)]⟩ ++ out) := by
  rcases h with ⟨h0, _⟩ | ⟨_, h⟩
  · omega
  have e8 : (48 + UInt8.ofNat (u % 10) : UInt8) = UInt8.ofNat (48 + u % 10) := by
    apply UInt8.toNat_inj.1
    simp
  rw [e8]
  by_cases h10 : u < 10
  · left
    refine ⟨by omega, ?_⟩
    rw [← h, num_nat, Go.Lib.decDigits_one h10, Nat.mod_eq_of_lt h10]
  · right
    refine ⟨by omega, ?_⟩
    rw [← h, num_nat, num_nat, ← ByteArray.append_assoc]
    congr 1
    conv => rhs; rw [Go.Lib.decDigits, dif_neg h10]
    exact ByteArray.mk_append_mk _ [UInt8.ofNat (48 + u % 10)]
theorem ret_str0 {a b : ByteArray} (h : a = b) : Ending.returned (.string a) = .returned (.string b) := by rw [h]
theorem back_one (W : World) (u : Nat) : (convert 34 9 (.slice (some ⟨W.heap.size, 0, none⟩) 1 1)).run Try.prog (W.alloc (.cells #[.int .u8 (48 + (u : Int) % 10)] 5)) = .ok (.string ⟨#[UInt8.ofNat (48 + u % 10)]⟩) (W.alloc (.cells #[.int .u8 (48 + (u : Int) % 10)] 5)) := by
  refine run_convert_bytes_back _ _ _ _ ⟨W.heap.size, 0, none⟩ 1 [UInt8.ofNat (48 + u % 10)] Try.underlying34 Try.underlying5 Try.underlying9 (fun j hj => ?_)
  have hj0 : j = 0 := by simpa using hj
  subst hj0
  have h := (Blk.new W 5 #[.int .u8 (48 + (u : Int) % 10)]).cell 0
  have e : (UInt8.ofNat (48 + u % 10)).toNat = 48 + u % 10 := by rw [UInt8.toNat_ofNat']; omega
  simp only [List.getElem_cons_zero, e]
  have e2 : (((48 + u % 10 : Nat) : Nat) : Int) = 48 + (u : Int) % 10 := by omega
  rw [e2]
  simp [Addr.add]
set_option maxHeartbeats 1000000 in
theorem l_markText (k : Nat) (w : World) (h1 : (k : Int) ≤ 1000000000000) :
    Calls Try.prog 39 #[.int .i64 (k : Int)] w fun e w' => e = .returned (.string (markT k)) ∧ ∃ g, w' = plus w g := by
  by_cases hk : k = 0
  · subst hk
    go_enter Try.func39, Try.ntmps39
    go_wp2_with fail
    go_ret
    exact ⟨ret_str0 (by unfold markT; rw [show ((0 : Nat) : Int) = ((0 : Nat) : Int) from rfl, num_nat, Go.Lib.decDigits_one (by omega)]; rfl), by (repeat (first | with_reducible exact grew_refl _ | with_reducible assumption | with_reducible refine grew_split ?_ | with_reducible refine grew_mk ?_ | with_reducible refine grew_plus ?_ | with_reducible refine grew_alloc ?_ | with_reducible refine grew_drew ?_ | (with_reducible refine grew_set ?_ (by first | exact Nat.le_refl _ | omega | (simp [go_sem]; done) | (simp [go_sem]; omega)))))⟩
  · have hk0 : (0 : Int) < (k : Int) := by omega
    go_enter Try.func39, Try.ntmps39
    go_wp2_with fail
    go_loopw [0, 3] (fun q o wr => ∃ (u : Nat) (out : ByteArray), q = .int .i64 u ∧ o = .string out ∧ MarkRel k u out ∧ (u : Int) ≤ 1000000000000 ∧ ∃ g, wr = plus w g) (fun q _ _ => (intOf q).toNat)
    case atStart => exact ⟨k, _, rfl, rfl, MarkRel.start (by omega), h1, by (repeat (first | with_reducible exact grew_refl _ | with_reducible assumption | with_reducible refine grew_split ?_ | with_reducible refine grew_mk ?_ | with_reducible refine grew_plus ?_ | with_reducible refine grew_alloc ?_ | with_reducible refine grew_drew ?_ | (with_reducible refine grew_set ?_ (by first | exact Nat.le_refl _ | omega | (simp [go_sem]; done) | (simp [go_sem]; omega)))))⟩
    case round =>
      obtain ⟨u, out, rfl, rfl, hM, hu, hg⟩ := hrel
      have HM := hid hM
      have hz := hM.size h1
      clear hM
      by_cases hu0 : 0 < u
      · have m0 : (0 : Int) ≤ (u : Int) % 10 := by omega
        have m1 : (u : Int) % 10 < 10 := by omega
        have hu1 : (0 : Int) < (u : Int) := by omega
        have hw8 : IntKind.u8.wrap (48 + (u : Int) % 10) = 48 + (u : Int) % 10 := by rw [IntKind.wrap_u8]; omega
        have hback : ∀ W : World, (convert 34 9 (.slice (some ⟨W.heap.size, 0, none⟩) 1 1)).run Try.prog (W.alloc (.cells #[.int .u8 (48 + (u : Int) % 10)] 5)) = .ok (.string ⟨#[UInt8.ofNat (48 + u % 10)]⟩) (W.alloc (.cells #[.int .u8 (48 + (u : Int) % 10)] 5)) := fun W => back_one W u
        go_wp2_with fail
        go_roundw
        case rel => exact ⟨u / 10, _, by go_num, rfl, HM.out.step hu0, by omega, by (repeat (first | with_reducible exact grew_refl _ | with_reducible assumption | with_reducible refine grew_split ?_ | with_reducible refine grew_mk ?_ | with_reducible refine grew_plus ?_ | with_reducible refine grew_alloc ?_ | with_reducible refine grew_drew ?_ | (with_reducible refine grew_set ?_ (by first | exact Nat.le_refl _ | omega | (simp [go_sem]; done) | (simp [go_sem]; omega)))))⟩
        case measure => simp [intOf]; omega
      · obtain rfl : u = 0 := by omega
        go_wp2_with fail
        go_ret
        rcases HM.out with ⟨_, h⟩ | ⟨h, _⟩
        · exact ⟨ret_str0 (by unfold markT; rw [h]), by (repeat (first | with_reducible exact grew_refl _ | with_reducible assumption | with_reducible refine grew_split ?_ | with_reducible refine grew_mk ?_ | with_reducible refine grew_plus ?_ | with_reducible refine grew_alloc ?_ | with_reducible refine grew_drew ?_ | (with_reducible refine grew_set ?_ (by first | exact Nat.le_refl _ | omega | (simp [go_sem]; done) | (simp [go_sem]; omega)))))⟩
        · omega
end Go.Proofs.Ytjlaidjogladaaa
