/- The laws' functions on lists of texts: comparison of equal ones, marks, what is held of them. -/
import Derived.Test.YteogidghoohgaaaMk
import Derived.Test.YteogidghoohgaaaMt
namespace Go.Proofs.Yteogidghoohgaaa
open Go.RowKit

def strRow (s : ByteArray) : List Value := [.string s]
theorem strRow_len (s : ByteArray) : (strRow s).length = 1 := rfl
theorem strRow_one (s : ByteArray) : ∀ u ∈ strRow s, u.oneCell' = true := by
  intro u hu
  simp [strRow] at hu
  subst hu; rfl
theorem tcells {w : World} {b off : Nat} {l : List ByteArray} (hc : ∀ i (hi : i < l.length) j u, (strRow l[i])[j]? = some u → w.cell? ⟨b, off + i * 1 + j, none⟩ = some u) {k : Nat} (hk : k < l.length) :
    w.cell? ⟨b, off + k, none⟩ = some (.string l[k]) := by
  have := hc k hk 0 _ rfl
  simpa using this
theorem str_info : (Try.prog.info? 9).map (fun i => (i.zero, i.size, i.bytes)) = some (some (.string ByteArray.empty), 1, 16) := by kernel_rfl
theorem l_markTextS (x : Int) (w : World) (h0 : 0 ≤ x) (h1 : x ≤ 1000000000000) :
    Calls Try.prog 38 #[.int .i64 x] w fun e w' => e = .returned (.string (markT x)) ∧ ∃ g, w' = plus w g := by
  obtain ⟨k, rfl⟩ := Int.eq_ofNat_of_zero_le h0
  exact l_markText k w h1
set_option maxHeartbeats 1000000 in
theorem l_eqStringS (l : List ByteArray) (A B : Option Addr) (c d : Nat) (w : World) (hA : Sl w 1 strRow A l) (hB : Sl w 1 strRow B l) (hl : l.length ≤ maxLen) :
    Calls Try.prog 11 #[.slice A l.length c, .slice B l.length d] w fun e' w' => e' = .returned (.bool true) ∧ ∃ g, w' = plus w g := by
  unfold maxLen at hl
  go_enter Try.func11, Try.ntmps11
  go_wp2_with fail
  go_loopw [5] (fun i wr => ∃ k : Nat, k ≤ l.length ∧ i = .int .i64 k ∧ (∃ g, wr = plus w g)) (fun i _ => l.length - (intOf i).toNat)
  case atStart => exact ⟨0, Nat.zero_le _, rfl, _, plus_refl _⟩
  case round =>
    obtain ⟨k, hk, rfl, g, rfl⟩ := hrel
    by_cases hlt : k < l.length
    · obtain ⟨b, off, rfl, hb, hc⟩ := hA.at_ hlt
      obtain ⟨b', off', rfl, hb', hc'⟩ := hB.at_ hlt
      have hc0 := tcells hc hlt
      have hd0 := tcells hc' hlt
      have t0 : (l[k].toList == l[k].toList) = true := by simp
      clear hc hA hc' hB
      go_wp2_with fail
      (refine wp_region_calm (by kernel_rfl) (by kernel_rfl) ?_; (repeat' (first | go_big_quiet_step (fail) | (refine wpQuiet_step (fun K hK => ?_); go_simp; go_ite <;> go_simp <;> (first | (refine hK _ ?_; clear hK K) | (apply Exists.intro; refine ⟨fun _ => ?_, hK _ ?_⟩; (fail); clear hK K))))); all_goals (refine wpQuiet_nil ?_; intro _ hw'; obtain ⟨gq, hw''⟩ := hw'; subst hw''))
      go_wp2
      go_roundw
      case rel => exact ⟨k + 1, by omega, by go_num, by (repeat (first | with_reducible exact grew_refl _ | with_reducible assumption | with_reducible refine grew_split ?_ | with_reducible refine grew_mk ?_ | with_reducible refine grew_plus ?_ | with_reducible refine grew_alloc ?_ | with_reducible refine grew_drew ?_ | (with_reducible refine grew_set ?_ (by first | exact Nat.le_refl _ | omega | (simp [go_sem]; done) | (simp [go_sem]; omega)))))⟩
      case measure => simp [intOf]; omega
    · go_wp2
      go_ret
      exact ⟨rfl, by (repeat (first | with_reducible exact grew_refl _ | with_reducible assumption | with_reducible refine grew_split ?_ | with_reducible refine grew_mk ?_ | with_reducible refine grew_plus ?_ | with_reducible refine grew_alloc ?_ | with_reducible refine grew_drew ?_ | (with_reducible refine grew_set ?_ (by first | exact Nat.le_refl _ | omega | (simp [go_sem]; done) | (simp [go_sem]; omega)))))⟩
def marksT (k : Int) (n : Nat) : List ByteArray := (List.range n).map fun (i : Nat) => markT (k + (i : Int))
theorem marksT_len (k : Int) (n : Nat) : (marksT k n).length = n := by simp [marksT]
theorem marksT_get (k : Int) (n i : Nat) (hi : i < (marksT k n).length) : (marksT k n)[i] = markT (k + (i : Int)) := by simp [marksT]
set_option maxHeartbeats 2000000 in
theorem l_markStringS (B : Nat) (l : List ByteArray) (A : Option Addr) (c : Nat) (m : Int) (w : World) (hO : OwnF B 9 1 strRow w A l) (hl : (l.length : Int) ≤ 1048576) (h0 : 0 ≤ m) (h1 : m ≤ 100000) :
    Calls Try.prog 14 #[.slice A l.length c, .int .i64 m] w fun e' w' => e' = .returned (.int .i64 (m + l.length)) ∧ OwnF B 9 1 strRow w' A (marksT m l.length) ∧ w.grownBy w' (rowOf A l) := by
  rcases OwnF.split hO with rfl | ⟨hpos, g, cs, rfl, hb, hB, hs, hF⟩
  · go_enter Try.func14, Try.ntmps14
    go_wp2_with fail
    go_loopw [1, 5] (fun q i wr => i = .int .i64 0 ∧ q = .int .i64 m ∧ w = wr) (fun _ _ _ => 0)
    case atStart => exact ⟨rfl, rfl, rfl⟩
    case round =>
      obtain ⟨rfl, rfl, rfl⟩ := hrel
      go_wp2
      go_ret
      exact ⟨ret_int (by simp), .inl (by simp [marksT]), grown_refl _ _⟩
  · have HB := hid hb
    clear hF hb
    go_enter Try.func14, Try.ntmps14
    go_wp2_with fail
    go_loopw [1, 5] (fun q i wr => ∃ (k : Nat) (cs : Array Value), k ≤ l.length ∧ i = .int .i64 k ∧ q = .int .i64 (m + (k : Int)) ∧ Blk wr g 9 cs ∧ l.length * 1 ≤ cs.size ∧ Filled cs 1 strRow (marksT m l.length) k ∧ w.grownBy wr (some g)) (fun _ i _ => l.length - (intOf i).toNat)
    case atStart => exact ⟨0, _, Nat.zero_le _, rfl, by simp, hB, hs, Filled.zero _ _ _ _, grown_refl _ _⟩
    case round =>
      obtain ⟨k, cs, hk, rfl, rfl, hB, hs, hF, hg⟩ := hrel
      have HF := hid hF
      have HG := hid hg
      have HC := hid hB
      have HS := hid hs
      clear hF hg
      by_cases hlt : k < l.length
      · obtain ⟨⟨_, hz0⟩, hf0⟩ := hB.some1 (k * 1) (by omega)
        simp only [Nat.mul_one] at hz0 hf0
        have hgl := hB.lt
        have q0 : (0 : Int) ≤ m + (k : Int) := by omega
        have q1 : m + (k : Int) ≤ 10000000 := by omega
        clear hB hs
        go_wp2_with fail
        refine (l_markTextS (m + (k : Int)) _ q0 (by omega)).mono ?_
        (rintro e w' ⟨rfl, gx, rfl⟩)
        go_wp2_with fail
        go_roundw
        case rel =>
          have h1 := HF.out.step (by rw [marksT_len]; exact hlt) (fun _ _ => rfl) (by rw [marksT_len]; exact HS.out)
          rw [marksT_get] at h1
          have h2 := HC.out.put1 (k * 1) (.string (markT (m + (k : Int))))
          simp only [Nat.mul_one] at h1 h2
          exact ⟨k + 1, _, by omega, by go_num, vint (by omega), blk_grew h2 (by (repeat (first | with_reducible exact grew_refl _ | with_reducible assumption | with_reducible refine grew_split ?_ | with_reducible refine grew_mk ?_ | with_reducible refine grew_plus ?_ | with_reducible refine grew_alloc ?_ | with_reducible refine grew_drew ?_ | (with_reducible refine grew_set ?_ (by first | exact Nat.le_refl _ | omega | (simp [go_sem]; done) | (simp [go_sem]; omega)))))), by rw [size_put]; exact HS.out, h1, grown_then (grown_set HG.out) (by (repeat (first | with_reducible exact grew_refl _ | with_reducible assumption | with_reducible refine grew_split ?_ | with_reducible refine grew_mk ?_ | with_reducible refine grew_plus ?_ | with_reducible refine grew_alloc ?_ | with_reducible refine grew_drew ?_ | (with_reducible refine grew_set ?_ (by first | exact Nat.le_refl _ | omega | (simp [go_sem]; done) | (simp [go_sem]; omega))))))⟩
        case measure => simp [intOf]; omega
      · obtain rfl : k = l.length := by omega
        clear hB hs
        go_wp2
        go_ret
        exact ⟨rfl, .inr ⟨g, cs, rfl, HB.out, HC.out, by rw [marksT_len]; exact HS.out, by rw [marksT_len]; exact HF.out⟩, by rw [rowOf_some hpos]; exact HG.out⟩
set_option maxHeartbeats 2000000 in
theorem l_heldStringS (n : Nat) (A : Option Addr) (c : Nat) (m : Int) (w : World) (hA : Sl w 1 strRow A (marksT m n)) (hl : (n : Int) ≤ 1048576) (h0 : 0 ≤ m) (h1 : m ≤ 100000) :
    Calls Try.prog 15 #[.slice A n c, .int .i64 m] w fun e' w' => e' = .returned (.int .i64 (m + n)) ∧ ∃ g, w' = plus w g := by
  go_enter Try.func15, Try.ntmps15
  go_wp2_with fail
  go_loopw [1, 5] (fun q i wr => ∃ k : Nat, k ≤ n ∧ i = .int .i64 k ∧ q = .int .i64 (m + (k : Int)) ∧ (∃ g, wr = plus w g)) (fun _ i _ => n - (intOf i).toNat)
  case atStart => exact ⟨0, Nat.zero_le _, rfl, by simp, _, plus_refl _⟩
  case round =>
    obtain ⟨k, hk, rfl, rfl, g, rfl⟩ := hrel
    by_cases hlt : k < n
    · obtain ⟨b, off, rfl, hb, hc⟩ := hA.at_ (show k < (marksT m n).length by rw [marksT_len]; exact hlt)
      have hc0 := tcells hc (show k < (marksT m n).length by rw [marksT_len]; exact hlt)
      rw [marksT_get] at hc0
      have q0 : (0 : Int) ≤ m + (k : Int) := by omega
      have q1 : m + (k : Int) ≤ 10000000 := by omega
      have t0 : ((markT (m + (k : Int))).toList == (markT (m + (k : Int))).toList) = true := by simp
      clear hc hA
      go_wp2_with fail
      (refine wp_region_calm (by kernel_rfl) (by kernel_rfl) ?_; (repeat' (first | go_big_quiet_step ((go_at_call 38; first | exact calm_of (l_markTextS _ _ (by omega) (by omega)) | exact calm_add (l_markTextS _ _ (by omega) (by omega)))) | (refine wpQuiet_step (fun K hK => ?_); go_simp; go_ite <;> go_simp <;> (first | (refine hK _ ?_; clear hK K) | (apply Exists.intro; refine ⟨fun _ => ?_, hK _ ?_⟩; ((go_at_call 38; first | exact calm_of (l_markTextS _ _ (by omega) (by omega)) | exact calm_add (l_markTextS _ _ (by omega) (by omega)))); clear hK K))))); all_goals (refine wpQuiet_nil ?_; intro _ hw'; obtain ⟨gq, hw''⟩ := hw'; subst hw''))
      go_wp2_with fail
      go_roundw
      case rel => exact ⟨k + 1, by omega, by go_num, vint (by omega), by (repeat (first | with_reducible exact grew_refl _ | with_reducible assumption | with_reducible refine grew_split ?_ | with_reducible refine grew_mk ?_ | with_reducible refine grew_plus ?_ | with_reducible refine grew_alloc ?_ | with_reducible refine grew_drew ?_ | (with_reducible refine grew_set ?_ (by first | exact Nat.le_refl _ | omega | (simp [go_sem]; done) | (simp [go_sem]; omega)))))⟩
      case measure => simp [intOf]; omega
    · obtain rfl : k = n := by omega
      clear hA
      go_wp2
      go_ret
      exact ⟨rfl, by (repeat (first | with_reducible exact grew_refl _ | with_reducible assumption | with_reducible refine grew_split ?_ | with_reducible refine grew_mk ?_ | with_reducible refine grew_plus ?_ | with_reducible refine grew_alloc ?_ | with_reducible refine grew_drew ?_ | (with_reducible refine grew_set ?_ (by first | exact Nat.le_refl _ | omega | (simp [go_sem]; done) | (simp [go_sem]; omega)))))⟩
end Go.Proofs.Yteogidghoohgaaa
