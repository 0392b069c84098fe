/- The laws' marks of area rows, and what is held of them. -/
import Derived.Test.YteogidghoohgaaaA2
import Derived.Test.YteogidghoohgaaaMt
namespace Go.Proofs.Yteogidghoohgaaa
open Go.RowKit

theorem l_markTextA (x : Int) (w : World) (h0 : 0 ≤ x) (h1 : x ≤ 1000000000000) :
    Calls Try.prog 38 #[.int .i64 x] w fun e w' => e = .returned (.string (markT x)) ∧ ∃ g, w' = plus w g := by
  obtain ⟨k, rfl⟩ := Int.eq_ofNat_of_zero_le h0
  exact l_markText k w h1
def markA (k : Int) : AreaR := ⟨markT k, k + 1, k + 1 + 1, k + 1 + 1 + 1, k + 1 + 1 + 1 + 1, k + 1 + 1 + 1 + 1 + 1⟩
def marksA (k : Int) (n : Nat) : List AreaR := (List.range n).map fun (i : Nat) => markA (k + 6 * (i : Int))
theorem marksA_len (k : Int) (n : Nat) : (marksA k n).length = n := by simp [marksA]
theorem marksA_get (k : Int) (n i : Nat) (hi : i < (marksA k n).length) : (marksA k n)[i] = markA (k + 6 * (i : Int)) := by simp [marksA]
set_option maxHeartbeats 2000000 in
theorem l_markAreaRowS (B : Nat) (l : List AreaR) (A : Option Addr) (c : Nat) (m : Int) (w : World) (hO : OwnF B 39 6 AreaR.row w A l) (hl : (l.length : Int) ≤ 1048576) (h0 : 0 ≤ m) (h1 : m ≤ 100000) :
    Calls Try.prog 13 #[.slice A l.length c, .int .i64 m] w fun e' w' => e' = .returned (.int .i64 (m + 6 * l.length)) ∧ OwnF B 39 6 AreaR.row w' A (marksA m l.length) ∧ w.grownBy w' (rowOf A l) := by
  rcases OwnF.split hO with rfl | ⟨hpos, g, cs, rfl, hb, hB, hs, hF⟩
  · go_enter Try.func13, Try.ntmps13
    go_wp2_with fail
    go_loopw [1, 5] (fun q i wr => i = .int .i64 0 ∧ q = .int .i64 m ∧ w = wr) (fun _ _ _ => 0)
    case atStart => exact ⟨rfl, rfl, rfl⟩
    case round =>
      obtain ⟨rfl, rfl, rfl⟩ := hrel
      go_wp2
      go_ret
      exact ⟨ret_int (by simp), .inl (by simp [marksA]), grown_refl _ _⟩
  · have HB := hid hb
    clear hF hb
    go_enter Try.func13, Try.ntmps13
    go_wp2_with fail
    go_loopw [1, 5] (fun q i wr => ∃ (k : Nat) (cs : Array Value), k ≤ l.length ∧ i = .int .i64 k ∧ q = .int .i64 (m + 6 * (k : Int)) ∧ Blk wr g 39 cs ∧ l.length * 6 ≤ cs.size ∧ Filled cs 6 AreaR.row (marksA m l.length) k ∧ w.grownBy wr (some g)) (fun _ i _ => l.length - (intOf i).toNat)
    case atStart => exact ⟨0, _, Nat.zero_le _, rfl, by simp, hB, hs, Filled.zero _ _ _ _, grown_refl _ _⟩
    case round =>
      obtain ⟨k, cs, hk, rfl, rfl, hB, hs, hF, hg⟩ := hrel
      have HF := hid hF
      have HG := hid hg
      have HC := hid hB
      have HS := hid hs
      clear hF hg
      by_cases hlt : k < l.length
      · obtain ⟨⟨_, hz0⟩, ⟨_, hz1⟩, ⟨_, hz2⟩, ⟨_, hz3⟩, ⟨_, hz4⟩, ⟨_, hz5⟩, hf0, hf1, hf2, hf3, hf4, hf5⟩ := hB.some6 (k * 6) (by omega)
        have hgl := hB.lt
        have q0 : (0 : Int) ≤ m + 6 * (k : Int) := by omega
        have q1 : m + 6 * (k : Int) ≤ 10000000 := by omega
        clear hB hs
        go_wp2_with fail
        refine (l_markTextA (m + 6 * (k : Int)) _ q0 (by omega)).mono ?_
        (rintro e w' ⟨rfl, gx, rfl⟩)
        go_wp2_with fail
        go_roundw
        case rel =>
          have h1 := HF.out.step (by rw [marksA_len]; exact hlt) (fun _ _ => rfl) (by rw [marksA_len]; exact HS.out)
          rw [marksA_get] at h1
          have h2 := HC.out.put6 (k * 6) (.string (markT (m + 6 * (k : Int)))) (.int .i64 (m + 6 * (k : Int) + 1)) (.int .i64 (m + 6 * (k : Int) + 1 + 1)) (.int .i64 (m + 6 * (k : Int) + 1 + 1 + 1)) (.int .i64 (m + 6 * (k : Int) + 1 + 1 + 1 + 1)) (.int .i64 (m + 6 * (k : Int) + 1 + 1 + 1 + 1 + 1))
          exact ⟨k + 1, _, by omega, by go_num, vint (by omega), blk_grew h2 (by (repeat (first | with_reducible exact grew_refl _ | with_reducible assumption | with_reducible refine grew_split ?_ | with_reducible refine grew_mk ?_ | with_reducible refine grew_plus ?_ | with_reducible refine grew_alloc ?_ | with_reducible refine grew_drew ?_ | (with_reducible refine grew_set ?_ (by first | exact Nat.le_refl _ | omega | (simp [go_sem]; done) | (simp [go_sem]; omega)))))), by rw [size_put]; exact HS.out, h1, grown_then (grown_set (grown_set (grown_set (grown_set (grown_set (grown_set HG.out)))))) (by (repeat (first | with_reducible exact grew_refl _ | with_reducible assumption | with_reducible refine grew_split ?_ | with_reducible refine grew_mk ?_ | with_reducible refine grew_plus ?_ | with_reducible refine grew_alloc ?_ | with_reducible refine grew_drew ?_ | (with_reducible refine grew_set ?_ (by first | exact Nat.le_refl _ | omega | (simp [go_sem]; done) | (simp [go_sem]; omega))))))⟩
        case measure => simp [intOf]; omega
      · obtain rfl : k = l.length := by omega
        clear hB hs
        go_wp2
        go_ret
        exact ⟨rfl, .inr ⟨g, cs, rfl, HB.out, HC.out, by rw [marksA_len]; exact HS.out, by rw [marksA_len]; exact HF.out⟩, by rw [rowOf_some hpos]; exact HG.out⟩
end Go.Proofs.Yteogidghoohgaaa
