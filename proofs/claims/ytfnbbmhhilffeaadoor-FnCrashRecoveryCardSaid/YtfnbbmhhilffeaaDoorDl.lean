/- The reference's draws of logs. -/
import Derived.Test.YtfnbbmhhilffeaaDoorDt
import Derived.Test.YtfnbbmhhilffeaaDoorH3
import Derived.BigRegion
import Derived.IntWalk
namespace Go.Proofs.YtfnbbmhhilffeaaDoor
open Go.RowKit

attribute [local go_sem ↓] Go.wp_at_zero Go.wp_at_succ
set_option maxHeartbeats 1000000 in
theorem s_spoilt (w0 : World) (g : Nat) (A : Option Addr) (c : Nat) (bs : List Int) (M : Int) (t q : ByteArray) (w : World) (hA : Code0 w0 A bs) (hC : CurU w0 w g A c bs M) (h1 : M ≤ 1099511620000) (ht : t.size ≤ 1000000) (hq0 : 0 < q.size) (hq : q.size ≤ 1000) :
    Calls Tryd.prog 41 #[.pointer (some ⟨g, 0, none⟩), .string t, .string q] w fun e w' => (∃ x : ByteArray, e = .returned (.string x) ∧ x.size ≤ t.size + 1) ∧ CurU w0 w' g A c bs (M + 10) ∧ w.grownBy w' (some g) := by
  have HC := hid hC
  clear hC
  go_enter Tryd.func41, Tryd.ntmps41
  by_cases h0 : t.size = 0
  · have ht0 : t = ByteArray.empty := ByteArray.size_eq_zero_iff.1 h0
    subst ht0
    go_wp2_with fail
    go_ret
    refine ⟨⟨_, rfl, ?_⟩, HC.out.le (by omega), grown_refl _ _⟩
    simp; omega
  · have he : t.toList.isEmpty = false := by rw [noBytes]; exact decide_eq_false (by omega)
    go_wp2_with fail
    refine (s_pick w0 g A c bs M t.size _ hA HC.out (by omega) (by omega)).mono ?_
    rintro e w1 ⟨⟨i', rfl, i0, i1⟩, hC1, hG1⟩
    obtain ⟨i, hi0⟩ : ∃ k : Nat, i' = (k : Int) := ⟨i'.toNat, by omega⟩
    subst hi0
    have hi : i < t.size := by omega
    have HC1 := hid hC1
    have HG1 := hid hG1
    clear hC1 hG1
    go_wp2_with fail
    refine (s_pick w0 g A c bs _ q.size _ hA HC1.out (by omega) (by omega)).mono ?_
    rintro e w2 ⟨⟨k', rfl, k0, k1⟩, hC2, hG2⟩
    obtain ⟨k, hk0⟩ : ∃ k : Nat, k' = (k : Int) := ⟨k'.toNat, by omega⟩
    subst hk0
    have hk : k < q.size := by omega
    have HC2 := hid hC2
    have HG2 := hid (HG1.out.trans hG2)
    clear hC2 hG2
    go_wp2_with fail
    refine (s_pick w0 g A c bs _ 3 _ hA HC2.out (by omega) (by omega)).mono ?_
    rintro e w3 ⟨⟨n, rfl, n0, n1⟩, hC3, hG3⟩
    have HC3 := hid hC3
    have HG3 := hid (HG2.out.trans hG3)
    clear hC3 hG3
    have hw1 : IntKind.i64.wrap ((i : Int) + 1) = (i : Int) + 1 := IntWalk.i64_in _ (by omega)
    have hi1 : (0 : Int) ≤ (i : Int) + 1 := by omega
    have hi2 : (i : Int) + 1 ≤ (t.size : Int) := by omega
    have hs1 : ((t.extract 0 i) ++ (q.extract k q.size).extract 0 1).size ≤ 1000001 := by simp [ByteArray.size_append]; omega
    rcases (show n = 0 ∨ n = 1 ∨ n = 2 by omega) with rfl | rfl | rfl
    · go_wp2_with fail
      go_region
      all_goals
        go_wp2_with fail
        go_ret
        refine ⟨⟨_, rfl, ?_⟩, (HC3.out.grew' (by (repeat (first | with_reducible exact grew_refl _ | with_reducible assumption | with_reducible refine grew_split ?_ | with_reducible refine grew_mk ?_ | with_reducible refine grew_plus ?_ | with_reducible refine grew_alloc ?_ | with_reducible refine grew_drew ?_ | (with_reducible refine grew_set ?_ (by first | exact Nat.le_refl _ | omega | (simp [go_sem]; done) | (simp [go_sem]; omega))))))).le (by omega), HG3.out.trans (grown_of_grew (by (repeat (first | with_reducible exact grew_refl _ | with_reducible assumption | with_reducible refine grew_split ?_ | with_reducible refine grew_mk ?_ | with_reducible refine grew_plus ?_ | with_reducible refine grew_alloc ?_ | with_reducible refine grew_drew ?_ | (with_reducible refine grew_set ?_ (by first | exact Nat.le_refl _ | omega | (simp [go_sem]; done) | (simp [go_sem]; omega)))))) _)⟩
        simp [ByteArray.size_append]; omega
    · go_wp2_with fail
      go_region
      all_goals
        go_wp2_with fail
        go_ret
        refine ⟨⟨_, rfl, ?_⟩, (HC3.out.grew' (by (repeat (first | with_reducible exact grew_refl _ | with_reducible assumption | with_reducible refine grew_split ?_ | with_reducible refine grew_mk ?_ | with_reducible refine grew_plus ?_ | with_reducible refine grew_alloc ?_ | with_reducible refine grew_drew ?_ | (with_reducible refine grew_set ?_ (by first | exact Nat.le_refl _ | omega | (simp [go_sem]; done) | (simp [go_sem]; omega))))))).le (by omega), HG3.out.trans (grown_of_grew (by (repeat (first | with_reducible exact grew_refl _ | with_reducible assumption | with_reducible refine grew_split ?_ | with_reducible refine grew_mk ?_ | with_reducible refine grew_plus ?_ | with_reducible refine grew_alloc ?_ | with_reducible refine grew_drew ?_ | (with_reducible refine grew_set ?_ (by first | exact Nat.le_refl _ | omega | (simp [go_sem]; done) | (simp [go_sem]; omega)))))) _)⟩
        simp [ByteArray.size_append]; omega
    · go_wp2_with fail
      go_region
      all_goals
        go_wp2_with fail
        go_ret
        refine ⟨⟨_, rfl, ?_⟩, (HC3.out.grew' (by (repeat (first | with_reducible exact grew_refl _ | with_reducible assumption | with_reducible refine grew_split ?_ | with_reducible refine grew_mk ?_ | with_reducible refine grew_plus ?_ | with_reducible refine grew_alloc ?_ | with_reducible refine grew_drew ?_ | (with_reducible refine grew_set ?_ (by first | exact Nat.le_refl _ | omega | (simp [go_sem]; done) | (simp [go_sem]; omega))))))).le (by omega), HG3.out.trans (grown_of_grew (by (repeat (first | with_reducible exact grew_refl _ | with_reducible assumption | with_reducible refine grew_split ?_ | with_reducible refine grew_mk ?_ | with_reducible refine grew_plus ?_ | with_reducible refine grew_alloc ?_ | with_reducible refine grew_drew ?_ | (with_reducible refine grew_set ?_ (by first | exact Nat.le_refl _ | omega | (simp [go_sem]; done) | (simp [go_sem]; omega)))))) _)⟩
        simp [ByteArray.size_append]; omega
end Go.Proofs.YtfnbbmhhilffeaaDoor
