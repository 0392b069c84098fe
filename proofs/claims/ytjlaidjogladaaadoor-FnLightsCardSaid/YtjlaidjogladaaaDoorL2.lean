/- Fractions in lowest terms, least and greatest, in both packages: what they return, for numbers that are not negative. -/
import Derived.Test.YtjlaidjogladaaaDoorProg
import Derived.Test.YtjlaidjogladaaaDoorBase
namespace Go.Proofs.YtjlaidjogladaaaDoor
open Go.RowKit

set_option maxHeartbeats 400000 in
theorem s_l1Most (a b : Int) (w : World) : Calls Tryd.prog 41 #[.int .i64 a, .int .i64 b] w fun e w' => e = .returned (.int .i64 (max a b)) ∧ w = w' := by
  go_enter Tryd.func41, Tryd.ntmps41
  go_wp2
  all_goals
    go_ret
    exact ⟨ret_int (by grind), rfl⟩
set_option maxHeartbeats 400000 in
theorem i_absOf (a : Int) (w : World) (h0 : 0 ≤ a) (h1 : a ≤ 9223372036854775807) : Calls Tryd.prog 46 #[.int .i64 a] w fun e w' => e = .returned (.int .i64 a) ∧ w = w' := by
  go_enter Tryd.func46, Tryd.ntmps46
  go_wp2
  go_ret
  exact ⟨ret_int (by grind), rfl⟩
set_option maxHeartbeats 400000 in
theorem i_gcdOf (a b : Nat) (w : World) (h0 : a ≤ 9223372036854775807) (h1 : b ≤ 9223372036854775807) :
    Calls Tryd.prog 40 #[.int .i64 (a : Int), .int .i64 (b : Int)] w fun e w' => e = .returned (.int .i64 (Nat.gcd a b : Int)) ∧ ∃ g, w' = plus w g := by
  go_enter Tryd.func40, Tryd.ntmps40
  go_wp2_with (go_at_call 46; refine (i_absOf _ _ (by omega) (by omega)).mono ?_; (rintro e w' ⟨rfl, rfl⟩))
  go_loopw [0, 1] (fun u v wr => ∃ x y : Nat, u = .int .i64 x ∧ v = .int .i64 y ∧ x ≤ 9223372036854775807 ∧ y ≤ 9223372036854775807 ∧ Nat.gcd x y = Nat.gcd a b ∧ ∃ g, wr = plus w g) (fun _ v _ => (intOf v).toNat)
  case atStart => exact ⟨a, b, rfl, rfl, h0, h1, rfl, _, plus_refl _⟩
  case round =>
    obtain ⟨x, y, rfl, rfl, hx, hy, hG, g, rfl⟩ := hrel
    have HG := hid hG
    clear hG
    by_cases hz : y = 0
    · subst hz
      go_wp2
      go_ret
      exact ⟨ret_int (by rw [← HG.out]; simp), by (repeat (first | with_reducible exact grew_refl _ | with_reducible assumption | with_reducible refine grew_split ?_ | with_reducible refine grew_mk ?_ | with_reducible refine grew_plus ?_ | with_reducible refine grew_alloc ?_ | with_reducible refine grew_drew ?_ | (with_reducible refine grew_set ?_ (by first | exact Nat.le_refl _ | omega | (simp [go_sem]; done) | (simp [go_sem]; omega)))))⟩
    · have h1 : ((y : Int) != 0) = true := by simp; omega
      have h2 : (1 : Int) ≤ y := by omega
      go_wp2_with fail
      (refine wp_region_calm (by kernel_rfl) (by kernel_rfl) ?_; (repeat' (first | go_big_quiet_step (fail) | (refine wpQuiet_step (fun K hK => ?_); go_simp; go_ite <;> go_simp <;> (first | (refine hK _ ?_; clear hK K) | (apply Exists.intro; refine ⟨fun _ => ?_, hK _ ?_⟩; (fail); clear hK K))))); all_goals (refine wpQuiet_nil ?_; intro _ hw'; obtain ⟨gq, hw''⟩ := hw'; subst hw''))
      go_wp2
      go_roundw
      case rel => exact ⟨y, x % y, rfl, by rw [Int.natCast_emod], hy, by have := Nat.mod_lt x (show 0 < y by omega); omega, by rw [← HG.out, Nat.gcd_comm x y, Nat.gcd_rec y x, Nat.gcd_comm], by (repeat (first | with_reducible exact grew_refl _ | with_reducible assumption | with_reducible refine grew_split ?_ | with_reducible refine grew_mk ?_ | with_reducible refine grew_plus ?_ | with_reducible refine grew_alloc ?_ | with_reducible refine grew_drew ?_ | (with_reducible refine grew_set ?_ (by first | exact Nat.le_refl _ | omega | (simp [go_sem]; done) | (simp [go_sem]; omega)))))⟩
      case measure =>
        have := Nat.mod_lt x (show 0 < y by omega)
        simp only [intOf]
        rw [← Int.natCast_emod]
        omega
theorem gcd_pos {a b : Nat} (h : 0 < b) : (1 : Int) ≤ (Nat.gcd a b : Int) := by have := Nat.gcd_pos_of_pos_right a h; omega
theorem tuple2 {a b c d : Int} (h : a = b) (h' : c = d) : Ending.returned (.tuple #[.int .i64 a, .int .i64 c]) = .returned (.tuple #[.int .i64 b, .int .i64 d]) := by rw [h, h']
theorem wrap_div {a d g : Nat} (h : a ≤ 9223372036854775807) (hd : d = g) : wrap64 ((a : Int) / (d : Int)) = ((a / g : Nat) : Int) := by
  subst hd
  rw [← Int.natCast_ediv]
  have := Nat.div_le_self a d
  generalize a / d = q at this ⊢
  unfold wrap64
  omega
set_option maxHeartbeats 400000 in
theorem i_lowestTerms (a b : Nat) (w : World) (h0 : a ≤ 9223372036854775807) (h1 : b ≤ 9223372036854775807) (hb : 0 < b) :
    Calls Tryd.prog 28 #[.int .i64 (a : Int), .int .i64 (b : Int)] w fun e w' => e = .returned (.tuple #[.int .i64 ((a / Nat.gcd a b : Nat) : Int), .int .i64 ((b / Nat.gcd a b : Nat) : Int)]) ∧ ∃ g, w' = plus w g := by
  go_enter Tryd.func28, Tryd.ntmps28
  go_wp2_with (go_at_call 40; refine (i_gcdOf _ _ _ h0 h1).mono ?_; (rintro e w' ⟨rfl, gx, rfl⟩))
  have hd := gcd_pos (a := a) hb
  obtain ⟨d, hdd⟩ : ∃ d, d = Nat.gcd a b := ⟨_, rfl⟩
  rw [← hdd] at hd
  simp only [← hdd]
  have H := hid hdd
  clear hdd
  have h2 : ((d : Int) == 0) = false := by simp; omega
  (refine wp_region_calm (by kernel_rfl) (by kernel_rfl) ?_; (repeat' (first | go_big_quiet_step (fail) | (refine wpQuiet_step (fun K hK => ?_); go_simp; go_ite <;> go_simp <;> (first | (refine hK _ ?_; clear hK K) | (apply Exists.intro; refine ⟨fun _ => ?_, hK _ ?_⟩; (fail); clear hK K))))); all_goals (refine wpQuiet_nil ?_; intro _ hw'; obtain ⟨gq, hw''⟩ := hw'; subst hw''))
  go_wp2
  go_ret2
  exact ⟨tuple2 (wrap_div h0 H.out) (wrap_div h1 H.out), by (repeat (first | with_reducible exact grew_refl _ | with_reducible assumption | with_reducible refine grew_split ?_ | with_reducible refine grew_mk ?_ | with_reducible refine grew_plus ?_ | with_reducible refine grew_alloc ?_ | with_reducible refine grew_drew ?_ | (with_reducible refine grew_set ?_ (by first | exact Nat.le_refl _ | omega | (simp [go_sem]; done) | (simp [go_sem]; omega)))))⟩
set_option maxHeartbeats 400000 in
theorem s_l2Reduce (a b : Nat) (w : World) (h0 : a ≤ 9223372036854775807) (h1 : b ≤ 9223372036854775807) (hb : 0 < b) :
    Calls Tryd.prog 29 #[.int .i64 (a : Int), .int .i64 (b : Int)] w fun e w' => e = .returned (.tuple #[.int .i64 ((a / Nat.gcd a b : Nat) : Int), .int .i64 ((b / Nat.gcd a b : Nat) : Int)]) ∧ ∃ g, w' = plus w g := by
  have hm : max (a : Int) (-(a : Int)) = a := by omega
  go_enter Tryd.func29, Tryd.ntmps29
  go_wp2_with (go_at_call 41; refine (s_l1Most _ _ _).mono ?_; rw [hm]; (rintro e w' ⟨rfl, rfl⟩))
  clear hm
  go_loopw [6, 7, 8] (fun u v _ wr => ∃ x y : Nat, u = .int .i64 x ∧ v = .int .i64 y ∧ x ≤ 9223372036854775807 ∧ y ≤ 9223372036854775807 ∧ Nat.gcd x y = Nat.gcd a b ∧ ∃ g, wr = plus w g) (fun _ v _ _ => (intOf v).toNat)
  case atStart => exact ⟨a, b, rfl, rfl, h0, h1, rfl, _, plus_refl _⟩
  case round =>
    obtain ⟨x, y, rfl, rfl, hx, hy, hG, g, rfl⟩ := hrel
    have HG := hid hG
    clear hG
    by_cases hz : y = 0
    · subst hz
      have hd := gcd_pos (a := a) hb
      have hx0 : x = Nat.gcd a b := by rw [← HG.out]; simp
      rw [← hx0] at hd
      simp only [← hx0]
      have H := hid hx0
      clear hx0 HG
      have h2 : ((x : Int) == 0) = false := by simp; omega
      go_wp2_with fail
      (refine wp_region_calm (by kernel_rfl) (by kernel_rfl) ?_; (repeat' (first | go_big_quiet_step (fail) | (refine wpQuiet_step (fun K hK => ?_); go_simp; go_ite <;> go_simp <;> (first | (refine hK _ ?_; clear hK K) | (apply Exists.intro; refine ⟨fun _ => ?_, hK _ ?_⟩; (fail); clear hK K))))); all_goals (refine wpQuiet_nil ?_; intro _ hw'; obtain ⟨gq, hw''⟩ := hw'; subst hw''))
      go_wp2
      go_ret2
      exact ⟨tuple2 (wrap_div h0 H.out) (wrap_div h1 H.out), by (repeat (first | with_reducible exact grew_refl _ | with_reducible assumption | with_reducible refine grew_split ?_ | with_reducible refine grew_mk ?_ | with_reducible refine grew_plus ?_ | with_reducible refine grew_alloc ?_ | with_reducible refine grew_drew ?_ | (with_reducible refine grew_set ?_ (by first | exact Nat.le_refl _ | omega | (simp [go_sem]; done) | (simp [go_sem]; omega)))))⟩
    · have h1 : ((y : Int) != 0) = true := by simp; omega
      have h2 : (1 : Int) ≤ y := by omega
      go_wp2
      go_roundw
      case rel => exact ⟨y, x % y, rfl, by rw [Int.natCast_emod], hy, by have := Nat.mod_lt x (show 0 < y by omega); omega, by rw [← HG.out, Nat.gcd_comm x y, Nat.gcd_rec y x, Nat.gcd_comm], by (repeat (first | with_reducible exact grew_refl _ | with_reducible assumption | with_reducible refine grew_split ?_ | with_reducible refine grew_mk ?_ | with_reducible refine grew_plus ?_ | with_reducible refine grew_alloc ?_ | with_reducible refine grew_drew ?_ | (with_reducible refine grew_set ?_ (by first | exact Nat.le_refl _ | omega | (simp [go_sem]; done) | (simp [go_sem]; omega)))))⟩
      case measure =>
        have := Nat.mod_lt x (show 0 < y by omega)
        simp only [intOf]
        rw [← Int.natCast_emod]
        omega
end Go.Proofs.YtjlaidjogladaaaDoor
