/- Decimal numerals, in both packages. -/
import Derived.Test.YtjlaidjogladaaaDoorNm
import Derived.Test.YtjlaidjogladaaaDoorShelf
import Derived.Lib.SmallJoins
namespace Go.Proofs.YtjlaidjogladaaaDoor
open Go.RowKit

theorem ret_str {a b : ByteArray} (h : a = b) : Ending.returned (.string a) = .returned (.string b) := by rw [h]
theorem ret_strb {a b : ByteArray} {c d : Bool} (h : a = b) (h' : c = d) : Ending.returned (.tuple #[.string a, .bool c]) = .returned (.tuple #[.string b, .bool d]) := by rw [h, h']

/-- The table that strconv reads lies where it should. -/
def Tab (w : World) : Prop := Go.Lib.TabIs Tryd.prog w tabN .u64 Go.Lib.pow10Tab
theorem gTab : Tryd.prog.globalNamed tabN = some 0 := by kernel_rfl
theorem Tab.grew {w w' : World} (h : Tab w) (hg : ∃ g, w' = plus w g) : Tab w' := Go.Joins.tab_stays gTab h (below_of_grew hg) (Nat.le_refl _)
theorem i_Itoa (n : Int) (w : World) (h0 : -9223372036854775808 ≤ n) (h1 : n ≤ 9223372036854775807) (hT : Tab w) :
    Calls Tryd.prog 31 #[.int .i64 n] w fun e w' => e = .returned (.string (num n)) ∧ ∃ g, w' = plus w g :=
  (Tryd.strconv_Itoa n h0 h1 w hT).mono fun _ _ ⟨he, k, os, hw⟩ => ⟨he, ⟨os, w.drawn + k⟩, hw⟩

theorem dig_fin : ∀ i : Fin 10, (ByteArray.mk [48, 49, 50, 51, 52, 53, 54, 55, 56, 57].toArray).extract i.val (i.val + 1) = ⟨#[UInt8.ofNat (48 + i.val)]⟩ := by decide +kernel
theorem dig_app {u : Nat} (h : ¬ u < 10) : (⟨(Go.Lib.decDigits (u / 10)).toArray⟩ : ByteArray) ++ (ByteArray.mk [48, 49, 50, 51, 52, 53, 54, 55, 56, 57].toArray).extract (u % 10) (u % 10 + 1) = ⟨(Go.Lib.decDigits u).toArray⟩ := by
  rw [dig_fin ⟨u % 10, by omega⟩]
  conv => rhs; rw [Go.Lib.decDigits, dif_neg h]
  exact ByteArray.mk_append_mk _ [UInt8.ofNat (48 + u % 10)]
set_option maxHeartbeats 1000000 in
theorem s_l1Num_nat (u : Nat) : ∀ (w : World), u ≤ 1000000000000 →
    Calls Tryd.prog 32 #[.int .i64 (u : Int)] w fun e w' => e = .returned (.string (num u)) ∧ ∃ g, w' = plus w g := by
  induction u using Nat.strongRecOn with
  | _ u ih =>
    intro w hu
    have IH := hid ih
    clear ih
    by_cases h10 : u < 10
    · have HF := hid (dig_fin ⟨u, h10⟩)
      go_enter Tryd.func32, Tryd.ntmps32
      go_wp2_with fail
      go_ret
      exact ⟨ret_str (by rw [num_nat, Go.Lib.decDigits_one h10]; exact HF.out), by (repeat (first | with_reducible exact grew_refl _ | with_reducible assumption | with_reducible refine grew_split ?_ | with_reducible refine grew_mk ?_ | with_reducible refine grew_plus ?_ | with_reducible refine grew_alloc ?_ | with_reducible refine grew_drew ?_ | (with_reducible refine grew_set ?_ (by first | exact Nat.le_refl _ | omega | (simp [go_sem]; done) | (simp [go_sem]; omega)))))⟩
    · have IH2 : Hid (∀ (x : Int) (W : World), 0 ≤ x → x < u → Calls Tryd.prog 32 #[.int .i64 x] W fun e w' => e = .returned (.string (num x)) ∧ ∃ g, w' = plus W g) := hid (by
        intro x W hx0 hx1
        obtain ⟨y, rfl⟩ := Int.eq_ofNat_of_zero_le hx0
        exact IH.out y (by omega) W (by omega))
      clear IH
      go_enter Tryd.func32, Tryd.ntmps32
      have m0 : (0 : Int) ≤ (u : Int) % 10 := by omega
      have m1 : (u : Int) % 10 < 10 := by omega
      have q0 : (0 : Int) ≤ (u : Int) / 10 := by omega
      have z1 := num_size ((u : Int) / 10) (by omega) (by omega)
      go_wp2_with fail
      (refine wp_region_calm (by kernel_rfl) (by kernel_rfl) ?_; (repeat' (first | go_big_quiet_step ((go_at_call 32; exact calm_of (IH2.out _ _ (by omega) (by omega)))) | (refine wpQuiet_step (fun K hK => ?_); go_simp; go_ite <;> go_simp <;> (first | (refine hK _ ?_; clear hK K) | (apply Exists.intro; refine ⟨fun _ => ?_, hK _ ?_⟩; ((go_at_call 32; exact calm_of (IH2.out _ _ (by omega) (by omega)))); clear hK K))))); all_goals (refine wpQuiet_nil ?_; intro _ hw'; obtain ⟨gq, hw''⟩ := hw'; subst hw''))
      go_wp2_with fail
      go_ret
      exact ⟨ret_str (by rw [(show ((u : Int) / 10) = ((u / 10 : Nat) : Int) from by omega), num_nat, num_nat]; exact dig_app h10), by (repeat (first | with_reducible exact grew_refl _ | with_reducible assumption | with_reducible refine grew_split ?_ | with_reducible refine grew_mk ?_ | with_reducible refine grew_plus ?_ | with_reducible refine grew_alloc ?_ | with_reducible refine grew_drew ?_ | (with_reducible refine grew_set ?_ (by first | exact Nat.le_refl _ | omega | (simp [go_sem]; done) | (simp [go_sem]; omega)))))⟩
theorem s_l1Num_pos (x : Int) (W : World) (h0 : 0 ≤ x) (h1 : x ≤ 1000000000000) : Calls Tryd.prog 32 #[.int .i64 x] W fun e w' => e = .returned (.string (num x)) ∧ ∃ g, w' = plus W g := by
  obtain ⟨y, rfl⟩ := Int.eq_ofNat_of_zero_le h0
  exact s_l1Num_nat y W (by omega)
theorem num_neg {n : Int} (h : n < 0) : (ByteArray.mk #[45]) ++ num (-n) = num n := by
  unfold num Go.Lib.itoa
  rw [if_neg (by omega), if_pos h, show (-n).toNat = n.natAbs by omega]
  exact ByteArray.mk_append_mk [45] _
set_option maxHeartbeats 1000000 in
theorem s_l1Num (n : Int) (w : World) (h0 : -1000000000000 ≤ n) (h1 : n ≤ 1000000000000) :
    Calls Tryd.prog 32 #[.int .i64 n] w fun e w' => e = .returned (.string (num n)) ∧ ∃ g, w' = plus w g := by
  by_cases hn : n < 0
  · have z1 := num_size (-n) (by omega) (by omega)
    go_enter Tryd.func32, Tryd.ntmps32
    go_wp2_with fail
    refine (s_l1Num_pos (-n) _ (by omega) (by omega)).mono ?_
    (rintro e w' ⟨rfl, gx, rfl⟩)
    go_wp2_with fail
    go_ret
    exact ⟨ret_str (num_neg hn), by (repeat (first | with_reducible exact grew_refl _ | with_reducible assumption | with_reducible refine grew_split ?_ | with_reducible refine grew_mk ?_ | with_reducible refine grew_plus ?_ | with_reducible refine grew_alloc ?_ | with_reducible refine grew_drew ?_ | (with_reducible refine grew_set ?_ (by first | exact Nat.le_refl _ | omega | (simp [go_sem]; done) | (simp [go_sem]; omega)))))⟩
  · obtain ⟨y, rfl⟩ := Int.eq_ofNat_of_zero_le (show 0 ≤ n by omega)
    exact s_l1Num_nat y w (by omega)
end Go.Proofs.YtjlaidjogladaaaDoor
