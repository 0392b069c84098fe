/- The laws' conversions of lists of records. -/
import Derived.Test.YtpeicjlmkjbaeaaDoorG8
import Derived.Test.YtpeicjlmkjbaeaaDoorMt
namespace Go.Proofs.YtpeicjlmkjbaeaaDoor
open Go.RowKit

theorem l_markTextI (x : Int) (w : World) (h0 : 0 ≤ x) (h1 : x ≤ 1000000000000) :
    Calls Tryd.prog 51 #[.int .i64 x] w fun e w' => e = .returned (.string (markT x)) ∧ ∃ g, w' = plus w g := by
  obtain ⟨k, rfl⟩ := Int.eq_ofNat_of_zero_le h0
  exact l_markText k w h1
theorem rcells {w : World} {b off : Nat} {l : List RecR} (hc : ∀ i (hi : i < l.length) j u, (RecR.row l[i])[j]? = some u → w.cell? ⟨b, off + i * 2 + j, none⟩ = some u) {k : Nat} (hk : k < l.length) :
    w.cell? ⟨b, off + k * 2, none⟩ = some (.string l[k].c) ∧ w.cell? ⟨b, off + k * 2 + 1, none⟩ = some (.string l[k].r) :=
  ⟨hc k hk 0 _ rfl, hc k hk 1 _ rfl⟩
set_option maxHeartbeats 400000 in
theorem l_eqLogRecord (e : RecR) (w : World) :
    Calls Tryd.prog 50 #[e.val, e.val] w fun e' w' => e' = .returned (.bool true) ∧ ∃ g, w' = plus w g := by
  have e1 : (e.c.toList == e.c.toList) = true := by simp
  have e2 : (e.r.toList == e.r.toList) = true := by simp
  go_enter Tryd.func50, Tryd.ntmps50
  go_wp2
  go_ret
  exact ⟨rfl, by (repeat (first | with_reducible exact grew_refl _ | with_reducible assumption | with_reducible refine grew_split ?_ | with_reducible refine grew_mk ?_ | with_reducible refine grew_plus ?_ | with_reducible refine grew_alloc ?_ | with_reducible refine grew_drew ?_ | (with_reducible refine grew_set ?_ (by first | exact Nat.le_refl _ | omega | (simp [go_sem]; done) | (simp [go_sem]; omega)))))⟩
set_option maxHeartbeats 1000000 in
theorem l_eqLogRecordS (l : List RecR) (A B : Option Addr) (c d : Nat) (w : World) (hA : Sl w 2 RecR.row A l) (hB : Sl w 2 RecR.row B l) (hl : l.length ≤ maxLen) :
    Calls Tryd.prog 32 #[.slice A l.length c, .slice B l.length d] w fun e' w' => e' = .returned (.bool true) ∧ ∃ g, w' = plus w g := by
  unfold maxLen at hl
  go_enter Tryd.func32, Tryd.ntmps32
  go_wp2_with fail
  go_loopw [5] (fun i wr => ∃ k : Nat, k ≤ l.length ∧ i = .int .i64 k ∧ (∃ g, wr = plus w g)) (fun i _ => l.length - (intOf i).toNat)
  case atStart => exact ⟨0, Nat.zero_le _, rfl, _, plus_refl _⟩
  case round =>
    obtain ⟨k, hk, rfl, g, rfl⟩ := hrel
    by_cases hlt : k < l.length
    · obtain ⟨b, off, rfl, hb, hc⟩ := hA.at_ hlt
      obtain ⟨b', off', rfl, hb', hc'⟩ := hB.at_ hlt
      obtain ⟨hc0, hc1⟩ := rcells hc hlt
      obtain ⟨hd0, hd1⟩ := rcells hc' hlt
      clear hc hA hc' hB
      go_wp2_with fail
      (refine wp_region_calm (by kernel_rfl) (by kernel_rfl) ?_; (repeat' (first | go_big_quiet_step ((go_at_call 50; first | exact calm_of (l_eqLogRecord _ _) | exact calm_add (l_eqLogRecord _ _))) | (refine wpQuiet_step (fun K hK => ?_); go_simp; go_ite <;> go_simp <;> (first | (refine hK _ ?_; clear hK K) | (apply Exists.intro; refine ⟨fun _ => ?_, hK _ ?_⟩; ((go_at_call 50; first | exact calm_of (l_eqLogRecord _ _) | exact calm_add (l_eqLogRecord _ _))); clear hK K))))); all_goals (refine wpQuiet_nil ?_; intro _ hw'; obtain ⟨gq, hw''⟩ := hw'; subst hw''))
      go_wp2
      go_roundw
      case rel => exact ⟨k + 1, by omega, by go_num, by (repeat (first | with_reducible exact grew_refl _ | with_reducible assumption | with_reducible refine grew_split ?_ | with_reducible refine grew_mk ?_ | with_reducible refine grew_plus ?_ | with_reducible refine grew_alloc ?_ | with_reducible refine grew_drew ?_ | (with_reducible refine grew_set ?_ (by first | exact Nat.le_refl _ | omega | (simp [go_sem]; done) | (simp [go_sem]; omega)))))⟩
      case measure => simp [intOf]; omega
    · go_wp2
      go_ret
      exact ⟨rfl, by (repeat (first | with_reducible exact grew_refl _ | with_reducible assumption | with_reducible refine grew_split ?_ | with_reducible refine grew_mk ?_ | with_reducible refine grew_plus ?_ | with_reducible refine grew_alloc ?_ | with_reducible refine grew_drew ?_ | (with_reducible refine grew_set ?_ (by first | exact Nat.le_refl _ | omega | (simp [go_sem]; done) | (simp [go_sem]; omega)))))⟩
def marksR (k : Int) (n : Nat) : List RecR := (List.range n).map fun (i : Nat) => ⟨markT (k + 2 * (i : Int)), markT (k + 2 * (i : Int) + 1)⟩
theorem marksR_len (k : Int) (n : Nat) : (marksR k n).length = n := by simp [marksR]
theorem marksR_get (k : Int) (n i : Nat) (hi : i < (marksR k n).length) : (marksR k n)[i] = ⟨markT (k + 2 * (i : Int)), markT (k + 2 * (i : Int) + 1)⟩ := by simp [marksR]
set_option maxHeartbeats 2000000 in
theorem l_markLogRecordS (B : Nat) (l : List RecR) (A : Option Addr) (c : Nat) (m : Int) (w : World) (hO : OwnF B 27 2 RecR.row w A l) (hl : l.length ≤ 100000) (h0 : 0 ≤ m) (h1 : m ≤ 100000) :
    Calls Tryd.prog 33 #[.slice A l.length c, .int .i64 m] w fun e' w' => e' = .returned (.int .i64 (m + 2 * l.length)) ∧ OwnF B 27 2 RecR.row w' A (marksR m l.length) ∧ w.grownBy w' (rowOf A l) := by
  rcases OwnF.split hO with rfl | ⟨hpos, g, cs, rfl, hb, hB, hs, hF⟩
  · go_enter Tryd.func33, Tryd.ntmps33
    go_wp2_with fail
    go_loopw [1, 5] (fun q i wr => i = .int .i64 0 ∧ q = .int .i64 m ∧ w = wr) (fun _ _ _ => 0)
    case atStart => exact ⟨rfl, rfl, rfl⟩
    case round =>
      obtain ⟨rfl, rfl, rfl⟩ := hrel
      go_wp2
      go_ret
      exact ⟨ret_int (by simp), .inl (by simp [marksR]), grown_refl _ _⟩
  · have HB := hid hb
    have hli : (l.length : Int) ≤ 100000 := by omega
    clear hF hb hl
    go_enter Tryd.func33, Tryd.ntmps33
    go_wp2_with fail
    go_loopw [1, 5] (fun q i wr => ∃ (k : Nat) (cs : Array Value), k ≤ l.length ∧ i = .int .i64 k ∧ q = .int .i64 (m + 2 * (k : Int)) ∧ Blk wr g 27 cs ∧ l.length * 2 ≤ cs.size ∧ Filled cs 2 RecR.row (marksR m l.length) k ∧ w.grownBy wr (some g)) (fun _ i _ => l.length - (intOf i).toNat)
    case atStart => exact ⟨0, _, Nat.zero_le _, rfl, by simp, hB, hs, Filled.zero _ _ _ _, grown_refl _ _⟩
    case round =>
      obtain ⟨k, cs, hk, rfl, rfl, hB, hs, hF, hg⟩ := hrel
      have HF := hid hF
      have HG := hid hg
      have HC := hid hB
      have HS := hid hs
      clear hF hg
      by_cases hlt : k < l.length
      · obtain ⟨⟨_, hz0⟩, ⟨_, hz1⟩, hf0, hf1⟩ := hB.some2 (k * 2) (by omega)
        have hgl := hB.lt
        have q0 : (0 : Int) ≤ m + 2 * (k : Int) := by omega
        have q1 : m + 2 * (k : Int) ≤ 1000000 := by omega
        clear hB hs
        go_wp2_with fail
        refine (l_markTextI (m + 2 * (k : Int)) _ q0 (by omega)).mono ?_
        (rintro e w' ⟨rfl, gx, rfl⟩)
        go_wp2_with fail
        refine (l_markTextI _ _ ?_ ?_).mono ?_
        · omega
        · omega
        rintro e w' ⟨rfl, gy, rfl⟩
        go_wp2_with fail
        go_roundw
        case rel =>
          have h1 := HF.out.step (by rw [marksR_len]; exact hlt) (fun _ _ => rfl) (by rw [marksR_len]; exact HS.out)
          rw [marksR_get] at h1
          have h2 := HC.out.put2 (k * 2) (.string (markT (m + 2 * (k : Int)))) (.string (markT (m + 2 * (k : Int) + 1)))
          exact ⟨k + 1, _, by omega, by go_num, vint (by omega), blk_grew h2 (by (repeat (first | with_reducible exact grew_refl _ | with_reducible assumption | with_reducible refine grew_split ?_ | with_reducible refine grew_mk ?_ | with_reducible refine grew_plus ?_ | with_reducible refine grew_alloc ?_ | with_reducible refine grew_drew ?_ | (with_reducible refine grew_set ?_ (by first | exact Nat.le_refl _ | omega | (simp [go_sem]; done) | (simp [go_sem]; omega)))))), by rw [size_put]; exact HS.out, h1, grown_then (grown_set (grown_set HG.out)) (by (repeat (first | with_reducible exact grew_refl _ | with_reducible assumption | with_reducible refine grew_split ?_ | with_reducible refine grew_mk ?_ | with_reducible refine grew_plus ?_ | with_reducible refine grew_alloc ?_ | with_reducible refine grew_drew ?_ | (with_reducible refine grew_set ?_ (by first | exact Nat.le_refl _ | omega | (simp [go_sem]; done) | (simp [go_sem]; omega))))))⟩
        case measure => simp [intOf]; omega
      · obtain rfl : k = l.length := by omega
        clear hB hs
        go_wp2
        go_ret
        exact ⟨rfl, .inr ⟨g, cs, rfl, HB.out, HC.out, by rw [marksR_len]; exact HS.out, by rw [marksR_len]; exact HF.out⟩, by rw [rowOf_some hpos]; exact HG.out⟩
set_option maxHeartbeats 2000000 in
theorem l_heldLogRecordS (n : Nat) (A : Option Addr) (c : Nat) (m : Int) (w : World) (hA : Sl w 2 RecR.row A (marksR m n)) (hl : (n : Int) ≤ 100000) (h0 : 0 ≤ m) (h1 : m ≤ 100000) :
    Calls Tryd.prog 34 #[.slice A n c, .int .i64 m] w fun e' w' => e' = .returned (.int .i64 (m + 2 * n)) ∧ ∃ g, w' = plus w g := by
  go_enter Tryd.func34, Tryd.ntmps34
  go_wp2_with fail
  go_loopw [1, 5] (fun q i wr => ∃ k : Nat, k ≤ n ∧ i = .int .i64 k ∧ q = .int .i64 (m + 2 * (k : Int)) ∧ (∃ g, wr = plus w g)) (fun _ i _ => n - (intOf i).toNat)
  case atStart => exact ⟨0, Nat.zero_le _, rfl, by simp, _, plus_refl _⟩
  case round =>
    obtain ⟨k, hk, rfl, rfl, g, rfl⟩ := hrel
    by_cases hlt : k < n
    · obtain ⟨b, off, rfl, hb, hc⟩ := hA.at_ (show k < (marksR m n).length by rw [marksR_len]; exact hlt)
      obtain ⟨hc0, hc1⟩ := rcells hc (show k < (marksR m n).length by rw [marksR_len]; exact hlt)
      rw [marksR_get] at hc0 hc1
      have q0 : (0 : Int) ≤ m + 2 * (k : Int) := by omega
      have q1 : m + 2 * (k : Int) ≤ 1000000 := by omega
      have t0 : ((markT (m + 2 * (k : Int))).toList == (markT (m + 2 * (k : Int))).toList) = true := by simp
      have t1 : ((markT (m + 2 * (k : Int) + 1)).toList == (markT (m + 2 * (k : Int) + 1)).toList) = true := by simp
      clear hc hA
      go_wp2_with fail
      (refine wp_region_calm (by kernel_rfl) (by kernel_rfl) ?_; (repeat' (first | go_big_quiet_step ((go_at_call 51; first | exact calm_of (l_markTextI _ _ (by omega) (by omega)) | exact calm_add (l_markTextI _ _ (by omega) (by omega)))) | (refine wpQuiet_step (fun K hK => ?_); go_simp; go_ite <;> go_simp <;> (first | (refine hK _ ?_; clear hK K) | (apply Exists.intro; refine ⟨fun _ => ?_, hK _ ?_⟩; ((go_at_call 51; first | exact calm_of (l_markTextI _ _ (by omega) (by omega)) | exact calm_add (l_markTextI _ _ (by omega) (by omega)))); clear hK K))))); all_goals (refine wpQuiet_nil ?_; intro _ hw'; obtain ⟨gq, hw''⟩ := hw'; subst hw''))
      go_wp2_with fail
      (refine wp_region_calm (by kernel_rfl) (by kernel_rfl) ?_; (repeat' (first | go_big_quiet_step ((go_at_call 51; first | exact calm_of (l_markTextI _ _ (by omega) (by omega)) | exact calm_add (l_markTextI _ _ (by omega) (by omega)))) | (refine wpQuiet_step (fun K hK => ?_); go_simp; go_ite <;> go_simp <;> (first | (refine hK _ ?_; clear hK K) | (apply Exists.intro; refine ⟨fun _ => ?_, hK _ ?_⟩; ((go_at_call 51; first | exact calm_of (l_markTextI _ _ (by omega) (by omega)) | exact calm_add (l_markTextI _ _ (by omega) (by omega)))); clear hK K))))); all_goals (refine wpQuiet_nil ?_; intro _ hw'; obtain ⟨gq, hw''⟩ := hw'; subst hw''))
      go_wp2_with fail
      go_roundw
      case rel => exact ⟨k + 1, by omega, by go_num, vint (by omega), by (repeat (first | with_reducible exact grew_refl _ | with_reducible assumption | with_reducible refine grew_split ?_ | with_reducible refine grew_mk ?_ | with_reducible refine grew_plus ?_ | with_reducible refine grew_alloc ?_ | with_reducible refine grew_drew ?_ | (with_reducible refine grew_set ?_ (by first | exact Nat.le_refl _ | omega | (simp [go_sem]; done) | (simp [go_sem]; omega)))))⟩
      case measure => simp [intOf]; omega
    · obtain rfl : k = n := by omega
      clear hA
      go_wp2
      go_ret
      exact ⟨rfl, by (repeat (first | with_reducible exact grew_refl _ | with_reducible assumption | with_reducible refine grew_split ?_ | with_reducible refine grew_mk ?_ | with_reducible refine grew_plus ?_ | with_reducible refine grew_alloc ?_ | with_reducible refine grew_drew ?_ | (with_reducible refine grew_set ?_ (by first | exact Nat.le_refl _ | omega | (simp [go_sem]; done) | (simp [go_sem]; omega)))))⟩
end Go.Proofs.YtpeicjlmkjbaeaaDoor
