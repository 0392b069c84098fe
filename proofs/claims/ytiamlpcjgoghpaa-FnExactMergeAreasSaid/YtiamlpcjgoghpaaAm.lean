/- The laws' marks of area rows, and what is held of them. -/
import Derived.Test.YtiamlpcjgoghpaaA2
import Derived.Test.YtiamlpcjgoghpaaMt
namespace Go.Proofs.Ytiamlpcjgoghpaa
open Go.RowKit

theorem l_markTextA (x : Int) (w : World) (h0 : 0 ≤ x) (h1 : x ≤ 1000000000000) :
    Calls Try.prog 20 #[.int .i64 x] w fun e w' => e = .returned (.string (markT x)) ∧ ∃ g, w' = plus w g := by
  obtain ⟨k, rfl⟩ := Int.eq_ofNat_of_zero_le h0
  exact l_markText k w h1
def markA (k : Int) : AreaR := ⟨markT k, k + 1, k + 1 + 1, k + 1 + 1 + 1, k + 1 + 1 + 1 + 1, k + 1 + 1 + 1 + 1 + 1⟩
def marksA (k : Int) (n : Nat) : List AreaR := (List.range n).map fun (i : Nat) => markA (k + 6 * (i : Int))
theorem marksA_len (k : Int) (n : Nat) : (marksA k n).length = n := by simp [marksA]
theorem marksA_get (k : Int) (n i : Nat) (hi : i < (marksA k n).length) : (marksA k n)[i] = markA (k + 6 * (i : Int)) := by simp [marksA]
set_option maxHeartbeats 2000000 in
theorem l_markAreaRowS (B : Nat) (l : List AreaR) (A : Option Addr) (c : Nat) (m : Int) (w : World) (hO : OwnF B 35 6 AreaR.row w A l) (hl : (l.length : Int) ≤ 1048576) (h0 : 0 ≤ m) (h1 : m ≤ 100000) :
    Calls Try.prog 9 #[.slice A l.length c, .int .i64 m] w fun e' w' => e' = .returned (.int .i64 (m + 6 * l.length)) ∧ OwnF B 35 6 AreaR.row w' A (marksA m l.length) ∧ w.grownBy w' (rowOf A l) := by
  rcases OwnF.split hO with rfl | ⟨hpos, g, cs, rfl, hb, hB, hs, hF⟩
  · go_enter Try.func9, Try.ntmps9
    go_wp2_with fail
    go_loopw [1, 5] (fun q i wr => i = .int .i64 0 ∧ q = .int .i64 m ∧ w = wr) (fun _ _ _ => 0)
    case atStart => exact ⟨rfl, rfl, rfl⟩
    case round =>
      obtain ⟨rfl, rfl, rfl⟩ := hrel
      go_wp2
      go_ret
      exact ⟨ret_int (by simp), .inl (by simp [marksA]), grown_refl _ _⟩
  · have HB := hid hb
    clear hF hb
    go_enter Try.func9, Try.ntmps9
    go_wp2_with fail
    go_loopw [1, 5] (fun q i wr => ∃ (k : Nat) (cs : Array Value), k ≤ l.length ∧ i = .int .i64 k ∧ q = .int .i64 (m + 6 * (k : Int)) ∧ Blk wr g 35 cs ∧ l.length * 6 ≤ cs.size ∧ Filled cs 6 AreaR.row (marksA m l.length) k ∧ w.grownBy wr (some g)) (fun _ i _ => l.length - (intOf i).toNat)
    case atStart => exact ⟨0, _, Nat.zero_le _, rfl, by simp, hB, hs, Filled.zero _ _ _ _, grown_refl _ _⟩
    case round =>
      obtain ⟨k, cs, hk, rfl, rfl, hB, hs, hF, hg⟩ := hrel
      have HF := hid hF
      have HG := hid hg
      have HC := hid hB
      have HS := hid hs
      clear hF hg
      by_cases hlt : k < l.length
      · obtain ⟨⟨_, hz0⟩, ⟨_, hz1⟩, ⟨_, hz2⟩, ⟨_, hz3⟩, ⟨_, hz4⟩, ⟨_, hz5⟩, hf0, hf1, hf2, hf3, hf4, hf5⟩ := hB.some6 (k * 6) (by omega)
        have hgl := hB.lt
        have q0 : (0 : Int) ≤ m + 6 * (k : Int) := by omega
        have q1 : m + 6 * (k : Int) ≤ 10000000 := by omega
        clear hB hs
        go_wp2_with fail
        refine (l_markTextA (m + 6 * (k : Int)) _ q0 (by omega)).mono ?_
        (rintro e w' ⟨rfl, gx, rfl⟩)
        go_wp2_with fail
        go_roundw
        case rel =>
          have h1 := HF.out.step (by rw [marksA_len]; exact hlt) (fun _ _ => rfl) (by rw [marksA_len]; exact HS.out)
          rw [marksA_get] at h1
          have h2 := HC.out.put6 (k * 6) (.string (markT (m + 6 * (k : Int)))) (.int .i64 (m + 6 * (k : Int) + 1)) (.int .i64 (m + 6 * (k : Int) + 1 + 1)) (.int .i64 (m + 6 * (k : Int) + 1 + 1 + 1)) (.int .i64 (m + 6 * (k : Int) + 1 + 1 + 1 + 1)) (.int .i64 (m + 6 * (k : Int) + 1 + 1 + 1 + 1 + 1))
          exact ⟨k + 1, _, by omega, by go_num, vint (by omega), blk_grew h2 (by (repeat (first | with_reducible exact grew_refl _ | with_reducible assumption | with_reducible refine grew_split ?_ | with_reducible refine grew_mk ?_ | with_reducible refine grew_plus ?_ | with_reducible refine grew_alloc ?_ | with_reducible refine grew_drew ?_ | (with_reducible refine grew_set ?_ (by first | exact Nat.le_refl _ | omega | (simp [go_sem]; done) | (simp [go_sem]; omega)))))), by rw [size_put]; exact HS.out, h1, grown_then (grown_set (grown_set (grown_set (grown_set (grown_set (grown_set HG.out)))))) (by (repeat (first | with_reducible exact grew_refl _ | with_reducible assumption | with_reducible refine grew_split ?_ | with_reducible refine grew_mk ?_ | with_reducible refine grew_plus ?_ | with_reducible refine grew_alloc ?_ | with_reducible refine grew_drew ?_ | (with_reducible refine grew_set ?_ (by first | exact Nat.le_refl _ | omega | (simp [go_sem]; done) | (simp [go_sem]; omega))))))⟩
        case measure => simp [intOf]; omega
      · obtain rfl : k = l.length := by omega
        clear hB hs
        go_wp2
        go_ret
        exact ⟨rfl, .inr ⟨g, cs, rfl, HB.out, HC.out, by rw [marksA_len]; exact HS.out, by rw [marksA_len]; exact HF.out⟩, by rw [rowOf_some hpos]; exact HG.out⟩
set_option maxHeartbeats 2000000 in
theorem l_heldAreaRowS (n : Nat) (A : Option Addr) (c : Nat) (m : Int) (w : World) (hA : Sl w 6 AreaR.row A (marksA m n)) (hl : (n : Int) ≤ 1048576) (h0 : 0 ≤ m) (h1 : m ≤ 100000) :
    Calls Try.prog 10 #[.slice A n c, .int .i64 m] w fun e' w' => e' = .returned (.int .i64 (m + 6 * n)) ∧ ∃ g, w' = plus w g := by
  go_enter Try.func10, Try.ntmps10
  go_wp2_with fail
  go_loopw [1, 5] (fun q i wr => ∃ k : Nat, k ≤ n ∧ i = .int .i64 k ∧ q = .int .i64 (m + 6 * (k : Int)) ∧ (∃ g, wr = plus w g)) (fun _ i _ => n - (intOf i).toNat)
  case atStart => exact ⟨0, Nat.zero_le _, rfl, by simp, _, plus_refl _⟩
  case round =>
    obtain ⟨k, hk, rfl, rfl, g, rfl⟩ := hrel
    by_cases hlt : k < n
    · obtain ⟨b, off, rfl, hb, hc⟩ := hA.at_ (show k < (marksA m n).length by rw [marksA_len]; exact hlt)
      obtain ⟨hc0, hc1, hc2, hc3, hc4, hc5⟩ := AreaR.cells6 hc (show k < (marksA m n).length by rw [marksA_len]; exact hlt)
      rw [marksA_get] at hc0 hc1 hc2 hc3 hc4 hc5
      simp only [markA] at hc0 hc1 hc2 hc3 hc4 hc5
      have q0 : (0 : Int) ≤ m + 6 * (k : Int) := by omega
      have q1 : m + 6 * (k : Int) ≤ 10000000 := by omega
      have t0 : ((markT (m + 6 * (k : Int))).toList == (markT (m + 6 * (k : Int))).toList) = true := by simp
      clear hc hA
      go_wp2_with fail
      (refine wp_region_calm (by kernel_rfl) (by kernel_rfl) ?_; (repeat' (first | go_big_quiet_step ((go_at_call 20; first | exact calm_of (l_markTextA _ _ (by omega) (by omega)) | exact calm_add (l_markTextA _ _ (by omega) (by omega)))) | (refine wpQuiet_step (fun K hK => ?_); go_simp; go_ite <;> go_simp <;> (first | (refine hK _ ?_; clear hK K) | (apply Exists.intro; refine ⟨fun _ => ?_, hK _ ?_⟩; ((go_at_call 20; first | exact calm_of (l_markTextA _ _ (by omega) (by omega)) | exact calm_add (l_markTextA _ _ (by omega) (by omega)))); clear hK K))))); all_goals (refine wpQuiet_nil ?_; intro _ hw'; obtain ⟨gq, hw''⟩ := hw'; subst hw''))
      go_wp2_with fail
      go_roundw
      case rel => exact ⟨k + 1, by omega, by go_num, vint (by omega), by (repeat (first | with_reducible exact grew_refl _ | with_reducible assumption | with_reducible refine grew_split ?_ | with_reducible refine grew_mk ?_ | with_reducible refine grew_plus ?_ | with_reducible refine grew_alloc ?_ | with_reducible refine grew_drew ?_ | (with_reducible refine grew_set ?_ (by first | exact Nat.le_refl _ | omega | (simp [go_sem]; done) | (simp [go_sem]; omega)))))⟩
      case measure => simp [intOf]; omega
    · obtain rfl : k = n := by omega
      clear hA
      go_wp2
      go_ret
      exact ⟨rfl, by (repeat (first | with_reducible exact grew_refl _ | with_reducible assumption | with_reducible refine grew_split ?_ | with_reducible refine grew_mk ?_ | with_reducible refine grew_plus ?_ | with_reducible refine grew_alloc ?_ | with_reducible refine grew_drew ?_ | (with_reducible refine grew_set ?_ (by first | exact Nat.le_refl _ | omega | (simp [go_sem]; done) | (simp [go_sem]; omega)))))⟩
end Go.Proofs.Ytiamlpcjgoghpaa
