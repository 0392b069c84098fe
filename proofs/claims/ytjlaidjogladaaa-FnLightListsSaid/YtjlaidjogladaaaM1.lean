/- The laws' conversions of lists of ints: copies, comparison of equal ones, marks. -/
import Derived.Test.YtjlaidjogladaaaMk
import Derived.Test.YtjlaidjogladaaaProg
namespace Go.Proofs.Ytjlaidjogladaaa
open Go.RowKit

def intRow (n : Int) : List Value := [.int .i64 n]
theorem intRow_len (n : Int) : (intRow n).length = 1 := rfl
theorem icells {w : World} {b off : Nat} {l : List Int} (hc : ∀ i (hi : i < l.length) j u, (intRow l[i])[j]? = some u → w.cell? ⟨b, off + i * 1 + j, none⟩ = some u) {k : Nat} (hk : k < l.length) :
    w.cell? ⟨b, off + k, none⟩ = some (.int .i64 l[k]) := by
  have := hc k hk 0 _ rfl
  simpa using this
theorem int_info : (Try.prog.info? 3).map (fun i => (i.zero, i.size, i.bytes)) = some (some (.int .i64 0), 1, 8) := by kernel_rfl
set_option maxHeartbeats 1000000 in
theorem l_eqIntS (l : List Int) (A B : Option Addr) (c d : Nat) (w : World) (hA : Sl w 1 intRow A l) (hB : Sl w 1 intRow B l) (hl : l.length ≤ maxLen) :
    Calls Try.prog 37 #[.slice A l.length c, .slice B l.length d] w fun e' w' => e' = .returned (.bool true) ∧ ∃ g, w' = plus w g := by
  unfold maxLen at hl
  go_enter Try.func37, Try.ntmps37
  go_wp2_with fail
  go_loopw [5] (fun i wr => ∃ k : Nat, k ≤ l.length ∧ i = .int .i64 k ∧ (∃ g, wr = plus w g)) (fun i _ => l.length - (intOf i).toNat)
  case atStart => exact ⟨0, Nat.zero_le _, rfl, _, plus_refl _⟩
  case round =>
    obtain ⟨k, hk, rfl, g, rfl⟩ := hrel
    by_cases hlt : k < l.length
    · obtain ⟨b, off, rfl, hb, hc⟩ := hA.at_ hlt
      obtain ⟨b', off', rfl, hb', hc'⟩ := hB.at_ hlt
      have hc0 := icells hc hlt
      have hd0 := icells hc' hlt
      clear hc hA hc' hB
      go_wp2_with fail
      (refine wp_region_calm (by kernel_rfl) (by kernel_rfl) ?_; (repeat' (first | go_big_quiet_step (fail) | (refine wpQuiet_step (fun K hK => ?_); go_simp; go_ite <;> go_simp <;> (first | (refine hK _ ?_; clear hK K) | (apply Exists.intro; refine ⟨fun _ => ?_, hK _ ?_⟩; (fail); clear hK K))))); all_goals (refine wpQuiet_nil ?_; intro _ hw'; obtain ⟨gq, hw''⟩ := hw'; subst hw''))
      go_wp2
      go_roundw
      case rel => exact ⟨k + 1, by omega, by go_num, by (repeat (first | with_reducible exact grew_refl _ | with_reducible assumption | with_reducible refine grew_split ?_ | with_reducible refine grew_mk ?_ | with_reducible refine grew_plus ?_ | with_reducible refine grew_alloc ?_ | with_reducible refine grew_drew ?_ | (with_reducible refine grew_set ?_ (by first | exact Nat.le_refl _ | omega | (simp [go_sem]; done) | (simp [go_sem]; omega)))))⟩
      case measure => simp [intOf]; omega
    · go_wp2
      go_ret
      exact ⟨rfl, by (repeat (first | with_reducible exact grew_refl _ | with_reducible assumption | with_reducible refine grew_split ?_ | with_reducible refine grew_mk ?_ | with_reducible refine grew_plus ?_ | with_reducible refine grew_alloc ?_ | with_reducible refine grew_drew ?_ | (with_reducible refine grew_set ?_ (by first | exact Nat.le_refl _ | omega | (simp [go_sem]; done) | (simp [go_sem]; omega)))))⟩
def marksI (k : Int) (n : Nat) : List Int := (List.range n).map fun (i : Nat) => k + (i : Int)
theorem marksI_len (k : Int) (n : Nat) : (marksI k n).length = n := by simp [marksI]
theorem marksI_get (k : Int) (n i : Nat) (hi : i < (marksI k n).length) : (marksI k n)[i] = k + i := by simp [marksI]
set_option maxHeartbeats 1000000 in
theorem l_markIntS (B : Nat) (l : List Int) (A : Option Addr) (c : Nat) (m : Int) (w : World) (hO : OwnF B 3 1 intRow w A l) (hl : l.length ≤ 1073741824) (h0 : 0 ≤ m) (h1 : m ≤ 1099511627776) :
    Calls Try.prog 41 #[.slice A l.length c, .int .i64 m] w fun e' w' => e' = .returned (.int .i64 (m + l.length)) ∧ OwnF B 3 1 intRow w' A (marksI m l.length) ∧ w.grownBy w' (rowOf A l) := by
  rcases OwnF.split hO with rfl | ⟨hpos, g, cs, rfl, hb, hB, hs, hF⟩
  · go_enter Try.func41, Try.ntmps41
    go_wp2_with fail
    go_loopw [1, 5] (fun q i wr => i = .int .i64 0 ∧ q = .int .i64 m ∧ w = wr) (fun _ _ _ => 0)
    case atStart => exact ⟨rfl, rfl, rfl⟩
    case round =>
      obtain ⟨rfl, rfl, rfl⟩ := hrel
      go_wp2
      go_ret
      exact ⟨ret_int (by simp), .inl (by simp [marksI]), grown_refl _ _⟩
  · have HB := hid hb
    clear hF hb
    go_enter Try.func41, Try.ntmps41
    go_wp2_with fail
    go_loopw [1, 5] (fun q i wr => ∃ (k : Nat) (cs : Array Value), k ≤ l.length ∧ i = .int .i64 k ∧ q = .int .i64 (m + k) ∧ Blk wr g 3 cs ∧ l.length * 1 ≤ cs.size ∧ Filled cs 1 intRow (marksI m l.length) k ∧ w.grownBy wr (some g)) (fun _ i _ => l.length - (intOf i).toNat)
    case atStart => exact ⟨0, _, Nat.zero_le _, rfl, by simp, hB, hs, Filled.zero _ _ _ _, grown_refl _ _⟩
    case round =>
      obtain ⟨k, cs, hk, rfl, rfl, hB, hs, hF, hg⟩ := hrel
      have HF := hid hF
      have HG := hid hg
      have HC := hid hB
      have HS := hid hs
      clear hF hg
      by_cases hlt : k < l.length
      · obtain ⟨⟨_, hz0⟩, hf0⟩ := hB.some1 (k * 1) (by omega)
        simp only [Nat.mul_one] at hz0 hf0
        clear hB hs
        go_wp2
        go_roundw
        case rel =>
          have h1 := HF.out.step (by rw [marksI_len]; exact hlt) (fun _ _ => rfl) (by rw [marksI_len]; exact HS.out)
          rw [marksI_get, Nat.mul_one] at h1
          have h2 := HC.out.put1 k (.int .i64 (m + k))
          exact ⟨k + 1, _, by omega, by go_num, by go_num, h2, by rw [size_put]; exact HS.out, h1, grown_set HG.out⟩
        case measure => simp [intOf]; omega
      · obtain rfl : k = l.length := by omega
        clear hB hs
        go_wp2
        go_ret
        exact ⟨rfl, .inr ⟨g, cs, rfl, HB.out, HC.out, by rw [marksI_len]; exact HS.out, by rw [marksI_len]; exact HF.out⟩, by rw [rowOf_some hpos]; exact HG.out⟩
set_option maxHeartbeats 1000000 in
theorem l_heldIntS (n : Nat) (A : Option Addr) (c : Nat) (m : Int) (w : World) (hA : Sl w 1 intRow A (marksI m n)) (hl : n ≤ 1073741824) (h0 : 0 ≤ m) (h1 : m ≤ 1099511627776) :
    Calls Try.prog 42 #[.slice A n c, .int .i64 m] w fun e' w' => e' = .returned (.int .i64 (m + n)) ∧ ∃ g, w' = plus w g := by
  go_enter Try.func42, Try.ntmps42
  go_wp2_with fail
  go_loopw [1, 5] (fun q i wr => ∃ k : Nat, k ≤ n ∧ i = .int .i64 k ∧ q = .int .i64 (m + k) ∧ (∃ g, wr = plus w g)) (fun _ i _ => n - (intOf i).toNat)
  case atStart => exact ⟨0, Nat.zero_le _, rfl, by simp, _, plus_refl _⟩
  case round =>
    obtain ⟨k, hk, rfl, rfl, g, rfl⟩ := hrel
    by_cases hlt : k < n
    · obtain ⟨b, off, rfl, hb, hc⟩ := hA.at_ (show k < (marksI m n).length by rw [marksI_len]; exact hlt)
      have hc0 := icells hc (show k < (marksI m n).length by rw [marksI_len]; exact hlt)
      rw [marksI_get] at hc0
      clear hc hA
      go_wp2
      go_roundw
      case rel => exact ⟨k + 1, by omega, by go_num, by go_num, by (repeat (first | with_reducible exact grew_refl _ | with_reducible assumption | with_reducible refine grew_split ?_ | with_reducible refine grew_mk ?_ | with_reducible refine grew_plus ?_ | with_reducible refine grew_alloc ?_ | with_reducible refine grew_drew ?_ | (with_reducible refine grew_set ?_ (by first | exact Nat.le_refl _ | omega | (simp [go_sem]; done) | (simp [go_sem]; omega)))))⟩
      case measure => simp [intOf]; omega
    · obtain rfl : k = n := by omega
      clear hA
      go_wp2
      go_ret
      exact ⟨rfl, by (repeat (first | with_reducible exact grew_refl _ | with_reducible assumption | with_reducible refine grew_split ?_ | with_reducible refine grew_mk ?_ | with_reducible refine grew_plus ?_ | with_reducible refine grew_alloc ?_ | with_reducible refine grew_drew ?_ | (with_reducible refine grew_set ?_ (by first | exact Nat.le_refl _ | omega | (simp [go_sem]; done) | (simp [go_sem]; omega)))))⟩
end Go.Proofs.Ytjlaidjogladaaa
