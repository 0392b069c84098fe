/- Marks of days, and what is held of them. -/
import Derived.Test.YtcmeiojfmpkkeaaD2
import Derived.Test.YtcmeiojfmpkkeaaM1
namespace Go.Proofs.Ytcmeiojfmpkkeaa
open Go.RowKit

def markL (m : Int) (i : Nat) : LineR := ⟨m + 2 * (i : Int), (m + 2 * (i : Int) + 1) % 3 == 0⟩
def marksL (m : Int) (n : Nat) : List LineR := (List.range n).map (markL m)
theorem marksL_len (k : Int) (n : Nat) : (marksL k n).length = n := by simp [marksL]
theorem marksL_get (k : Int) (n i : Nat) (hi : i < (marksL k n).length) : (marksL k n)[i] = markL k i := by simp [marksL]
theorem LineR.row_len (r : LineR) : r.row.length = 2 := rfl
theorem DayOwn.f {w : World} {B : Nat} {A : Option Addr} {c : Nat} {l : List LineR} (h : DayOwn w B A c l) : OwnF B 74 2 LineR.row w A l := by
  obtain ⟨g, cs, rfl, h2, h3, h4, h5, h6⟩ := h
  exact .inr ⟨g, cs, rfl, h3, h4, Nat.le_of_eq h5.symm, h6⟩
set_option maxHeartbeats 1000000 in
theorem l_markDayLineS (B : Nat) (l : List LineR) (A : Option Addr) (c : Nat) (m : Int) (w : World) (hO : OwnF B 74 2 LineR.row w A l) (hl : l.length ≤ 1073741824) (h0 : 0 ≤ m) (h1 : m ≤ 1099511627776) :
    Calls Try.prog 56 #[.slice A l.length c, .int .i64 m] w fun e' w' => e' = .returned (.int .i64 (m + 2 * l.length)) ∧ OwnF B 74 2 LineR.row w' A (marksL m l.length) ∧ w.grownBy w' (rowOf A l) := by
  rcases OwnF.split hO with rfl | ⟨hpos, g, cs, rfl, hb, hB, hs, hF⟩
  · go_enter Try.func56, Try.ntmps56
    go_wp2_with fail
    go_loopw [1, 5] (fun q i wr => i = .int .i64 0 ∧ q = .int .i64 m ∧ w = wr) (fun _ _ _ => 0)
    case atStart => exact ⟨rfl, rfl, rfl⟩
    case round =>
      obtain ⟨rfl, rfl, rfl⟩ := hrel
      go_wp2
      go_ret
      exact ⟨ret_int (by simp), .inl (by simp [marksL]), grown_refl _ _⟩
  · have HB := hid hb
    clear hF hb
    go_enter Try.func56, Try.ntmps56
    go_wp2_with fail
    go_loopw [1, 5] (fun q i wr => ∃ (k : Nat) (cs : Array Value), k ≤ l.length ∧ i = .int .i64 k ∧ q = .int .i64 (m + 2 * k) ∧ Blk wr g 74 cs ∧ l.length * 2 ≤ cs.size ∧ Filled cs 2 LineR.row (marksL m l.length) k ∧ w.grownBy wr (some g)) (fun _ i _ => l.length - (intOf i).toNat)
    case atStart => exact ⟨0, _, Nat.zero_le _, rfl, by simp, hB, hs, Filled.zero _ _ _ _, grown_refl _ _⟩
    case round =>
      obtain ⟨k, cs, hk, rfl, rfl, hB, hs, hF, hg⟩ := hrel
      have HF := hid hF
      have HG := hid hg
      have HC := hid hB
      have HS := hid hs
      clear hF hg
      by_cases hlt : k < l.length
      · obtain ⟨⟨_, hz0⟩, ⟨_, hz1⟩, hf0, hf1⟩ := hB.some2 (k * 2) (by omega)
        clear hB hs
        go_wp2
        go_roundw
        case rel =>
          have h1 := HF.out.step (by rw [marksL_len]; exact hlt) (fun _ _ => rfl) (by rw [marksL_len]; exact HS.out)
          rw [marksL_get] at h1
          have h2 := HC.out.put2 (k * 2) (.int .i64 (m + 2 * k)) (.bool ((m + 2 * (k : Int) + 1) % 3 == 0))
          exact ⟨k + 1, _, by omega, by go_num, by go_num, h2, by rw [size_put]; exact HS.out, h1, grown_set (grown_set HG.out)⟩
        case measure => simp [intOf]; omega
      · obtain rfl : k = l.length := by omega
        clear hB hs
        go_wp2
        go_ret
        exact ⟨rfl, .inr ⟨g, cs, rfl, HB.out, HC.out, by rw [marksL_len]; exact HS.out, by rw [marksL_len]; exact HF.out⟩, by rw [rowOf_some hpos]; exact HG.out⟩
set_option maxHeartbeats 1000000 in
theorem l_markSurveyDay (B : Nat) (v : DayV) (m : Int) (w : World) (hO : OwnF B 74 2 LineR.row w v.A v.core.lines) (hl : v.core.lines.length ≤ 1073741824) (h0 : 0 ≤ m) (h1 : m ≤ 1099511627776) :
    Calls Try.prog 26 #[v.val, .int .i64 m] w fun e' w' => e' = .returned (.int .i64 (m + 2 * v.core.lines.length)) ∧ OwnF B 74 2 LineR.row w' v.A (marksL m v.core.lines.length) ∧ w.grownBy w' (rowOf v.A v.core.lines) := by
  obtain ⟨⟨minute, state, lines, line, since, cast, fuel⟩, A, c⟩ := v
  have HO := hid hO
  simp only at hl HO ⊢
  clear hO
  go_enter Try.func26, Try.ntmps26
  go_wp2_with fail
  refine (l_markDayLineS B lines A c m _ (HO.out.grew (by (repeat (first | with_reducible exact grew_refl _ | with_reducible assumption | with_reducible refine grew_split ?_ | with_reducible refine grew_mk ?_ | with_reducible refine grew_plus ?_ | with_reducible refine grew_alloc ?_ | with_reducible refine grew_drew ?_ | (with_reducible refine grew_set ?_ (by first | exact Nat.le_refl _ | omega | (simp [go_sem]; done) | (simp [go_sem]; omega))))))) hl h0 h1).mono ?_
  rintro e w' ⟨rfl, hM, hG⟩
  have HM := hid hM
  have HG := hid hG
  clear hM hG
  go_wp2_with fail
  go_ret
  exact ⟨rfl, HM.out, (grown_of_grew (by (repeat (first | with_reducible exact grew_refl _ | with_reducible assumption | with_reducible refine grew_split ?_ | with_reducible refine grew_mk ?_ | with_reducible refine grew_plus ?_ | with_reducible refine grew_alloc ?_ | with_reducible refine grew_drew ?_ | (with_reducible refine grew_set ?_ (by first | exact Nat.le_refl _ | omega | (simp [go_sem]; done) | (simp [go_sem]; omega)))))) _).trans HG.out⟩
set_option maxHeartbeats 1000000 in
theorem l_heldDayLineS (n : Nat) (A : Option Addr) (c : Nat) (m : Int) (w : World) (hA : Sl w 2 LineR.row A (marksL m n)) (hl : n ≤ 1073741824) (h0 : 0 ≤ m) (h1 : m ≤ 1099511627776) :
    Calls Try.prog 57 #[.slice A n c, .int .i64 m] w fun e' w' => e' = .returned (.int .i64 (m + 2 * n)) ∧ ∃ g, w' = plus w g := by
  go_enter Try.func57, Try.ntmps57
  go_wp2_with fail
  go_loopw [1, 5] (fun q i wr => ∃ k : Nat, k ≤ n ∧ i = .int .i64 k ∧ q = .int .i64 (m + 2 * k) ∧ (∃ g, wr = plus w g)) (fun _ i _ => n - (intOf i).toNat)
  case atStart => exact ⟨0, Nat.zero_le _, rfl, by simp, _, plus_refl _⟩
  case round =>
    obtain ⟨k, hk, rfl, rfl, g, rfl⟩ := hrel
    by_cases hlt : k < n
    · obtain ⟨b, off, rfl, hb, hc⟩ := hA.at_ (show k < (marksL m n).length by rw [marksL_len]; exact hlt)
      obtain ⟨hc0, hc1⟩ := lcells hc (show k < (marksL m n).length by rw [marksL_len]; exact hlt)
      rw [marksL_get] at hc0 hc1
      simp only [markL] at hc0 hc1
      clear hc hA
      go_wp2
      go_roundw
      case rel => exact ⟨k + 1, by omega, by go_num, by go_num, by (repeat (first | with_reducible exact grew_refl _ | with_reducible assumption | with_reducible refine grew_split ?_ | with_reducible refine grew_mk ?_ | with_reducible refine grew_plus ?_ | with_reducible refine grew_alloc ?_ | with_reducible refine grew_drew ?_ | (with_reducible refine grew_set ?_ (by first | exact Nat.le_refl _ | omega | (simp [go_sem]; done) | (simp [go_sem]; omega)))))⟩
      case measure => simp [intOf]; omega
    · obtain rfl : k = n := by omega
      clear hA
      go_wp2
      go_ret
      exact ⟨rfl, by (repeat (first | with_reducible exact grew_refl _ | with_reducible assumption | with_reducible refine grew_split ?_ | with_reducible refine grew_mk ?_ | with_reducible refine grew_plus ?_ | with_reducible refine grew_alloc ?_ | with_reducible refine grew_drew ?_ | (with_reducible refine grew_set ?_ (by first | exact Nat.le_refl _ | omega | (simp [go_sem]; done) | (simp [go_sem]; omega)))))⟩
set_option maxHeartbeats 1000000 in
theorem l_heldSurveyDay (v : DayV) (m : Int) (w : World) (hO : Sl w 2 LineR.row v.A (marksL m v.core.lines.length)) (hl : v.core.lines.length ≤ 1073741824) (h0 : 0 ≤ m) (h1 : m ≤ 1099511627776) :
    Calls Try.prog 27 #[v.val, .int .i64 m] w fun e' w' => e' = .returned (.int .i64 (m + 2 * v.core.lines.length)) ∧ ∃ g, w' = plus w g := by
  obtain ⟨⟨minute, state, lines, line, since, cast, fuel⟩, A, c⟩ := v
  have HO := hid hO
  simp only at hl HO ⊢
  clear hO
  go_enter Try.func27, Try.ntmps27
  go_wp2_with fail
  refine (l_heldDayLineS lines.length A c m _ (HO.out.grew (by (repeat (first | with_reducible exact grew_refl _ | with_reducible assumption | with_reducible refine grew_split ?_ | with_reducible refine grew_mk ?_ | with_reducible refine grew_plus ?_ | with_reducible refine grew_alloc ?_ | with_reducible refine grew_drew ?_ | (with_reducible refine grew_set ?_ (by first | exact Nat.le_refl _ | omega | (simp [go_sem]; done) | (simp [go_sem]; omega))))))) hl h0 h1).mono ?_
  (rintro e w' ⟨rfl, gx, rfl⟩)
  go_wp2_with fail
  go_ret
  exact ⟨rfl, by (repeat (first | with_reducible exact grew_refl _ | with_reducible assumption | with_reducible refine grew_split ?_ | with_reducible refine grew_mk ?_ | with_reducible refine grew_plus ?_ | with_reducible refine grew_alloc ?_ | with_reducible refine grew_drew ?_ | (with_reducible refine grew_set ?_ (by first | exact Nat.le_refl _ | omega | (simp [go_sem]; done) | (simp [go_sem]; omega)))))⟩
end Go.Proofs.Ytcmeiojfmpkkeaa
