/- The laws' own comparisons: of days, of lists of numbers. -/
import Derived.Test.YtcljcbbkbepmjaaD3
import Derived.Test.YtcljcbbkbepmjaaM1
namespace Go.Proofs.Ytcljcbbkbepmjaa
open Go.RowKit

set_option maxHeartbeats 400000 in
theorem l_vBig (A : Option Addr) (c n : Nat) (w : World) : Calls Try.prog 4 #[.slice A n c] w fun e w' => e = .returned (.bool (decide ((65536 : Int) < (n : Int)))) ∧ w = w' := by
  go_enter Try.func4, Try.ntmps4
  go_wp2
  go_ret
  exact ⟨rfl, rfl⟩
set_option maxHeartbeats 1000000 in
theorem l_vDayLines (l : List LineR) (A B : Option Addr) (c d : Nat) (w : World) (hA : Sl w 2 LineR.row A l) (hB : Sl w 2 LineR.row B l) (hl : l.length ≤ maxLen) :
    Calls Try.prog 26 #[.slice A l.length c, .slice B l.length d] w fun e' w' => e' = .returned (.bool true) ∧ ∃ g, w' = plus w g := by
  unfold maxLen at hl
  go_enter Try.func26, Try.ntmps26
  go_wp2_with fail
  go_loopw [5] (fun i wr => ∃ k : Nat, k ≤ l.length ∧ i = .int .i64 k ∧ (∃ g, wr = plus w g)) (fun i _ => l.length - (intOf i).toNat)
  case atStart => exact ⟨0, Nat.zero_le _, rfl, _, plus_refl _⟩
  case round =>
    obtain ⟨k, hk, rfl, g, rfl⟩ := hrel
    by_cases hlt : k < l.length
    · obtain ⟨b, off, rfl, hb, hc⟩ := hA.at_ hlt
      obtain ⟨b', off', rfl, hb', hc'⟩ := hB.at_ hlt
      obtain ⟨hc0, hc1⟩ := lcells hc hlt
      obtain ⟨hd0, hd1⟩ := lcells hc' hlt
      have e1 : (l[k].minutes == l[k].minutes) = true := by simp
      have e2 : (l[k].done == l[k].done) = true := by simp
      clear hc hA hc' hB
      go_wp2_with fail
      (refine wp_region_calm (by kernel_rfl) (by kernel_rfl) ?_; (repeat' (first | go_big_quiet_step (fail) | (refine wpQuiet_step (fun K hK => ?_); go_simp; go_ite <;> go_simp <;> (first | (refine hK _ ?_; clear hK K) | (apply Exists.intro; refine ⟨fun _ => ?_, hK _ ?_⟩; (fail); clear hK K))))); all_goals (refine wpQuiet_nil ?_; intro _ hw'; obtain ⟨gq, hw''⟩ := hw'; subst hw''))
      go_wp2
      go_roundw
      case rel => exact ⟨k + 1, by omega, by go_num, by (repeat (first | with_reducible exact grew_refl _ | with_reducible assumption | with_reducible refine grew_split ?_ | with_reducible refine grew_mk ?_ | with_reducible refine grew_plus ?_ | with_reducible refine grew_alloc ?_ | with_reducible refine grew_drew ?_ | (with_reducible refine grew_set ?_ (by first | exact Nat.le_refl _ | omega | (simp [go_sem]; done) | (simp [go_sem]; omega)))))⟩
      case measure => simp [intOf]; omega
    · go_wp2
      go_ret
      exact ⟨rfl, by (repeat (first | with_reducible exact grew_refl _ | with_reducible assumption | with_reducible refine grew_split ?_ | with_reducible refine grew_mk ?_ | with_reducible refine grew_plus ?_ | with_reducible refine grew_alloc ?_ | with_reducible refine grew_drew ?_ | (with_reducible refine grew_set ?_ (by first | exact Nat.le_refl _ | omega | (simp [go_sem]; done) | (simp [go_sem]; omega)))))⟩
set_option maxHeartbeats 1000000 in
theorem l_vDay (v : DayC) (A B : Option Addr) (c d : Nat) (w : World) (hv : DayV.At w ⟨v, A, c⟩) (hu : DayV.At w ⟨v, B, d⟩) :
    Calls Try.prog 8 #[DayV.val ⟨v, A, c⟩, DayV.val ⟨v, B, d⟩] w fun e w' => e = .returned (.bool true) ∧ ∃ g, w' = plus w g := by
  obtain ⟨minute, state, lines, line, since, cast, fuel⟩ := v
  have hl := hv.len
  have HP := hid hv.ln
  have HQ := hid hu.ln
  simp only at hl HP HQ
  clear hv hu
  have e1 : (minute == minute) = true := by simp
  have e2 : (state == state) = true := by simp
  have e3 : (line == line) = true := by simp
  have e4 : (since == since) = true := by simp
  have e5 : (cast == cast) = true := by simp
  have e6 : (fuel == fuel) = true := by simp
  go_enter Try.func8, Try.ntmps8
  go_wp2_with (go_at_call 26; refine (l_vDayLines lines _ _ _ _ _ (HP.out.grew (by (repeat (first | with_reducible exact grew_refl _ | with_reducible assumption | with_reducible refine grew_split ?_ | with_reducible refine grew_mk ?_ | with_reducible refine grew_plus ?_ | with_reducible refine grew_alloc ?_ | with_reducible refine grew_drew ?_ | (with_reducible refine grew_set ?_ (by first | exact Nat.le_refl _ | omega | (simp [go_sem]; done) | (simp [go_sem]; omega))))))) (HQ.out.grew (by (repeat (first | with_reducible exact grew_refl _ | with_reducible assumption | with_reducible refine grew_split ?_ | with_reducible refine grew_mk ?_ | with_reducible refine grew_plus ?_ | with_reducible refine grew_alloc ?_ | with_reducible refine grew_drew ?_ | (with_reducible refine grew_set ?_ (by first | exact Nat.le_refl _ | omega | (simp [go_sem]; done) | (simp [go_sem]; omega))))))) hl).mono ?_; (rintro e w' ⟨rfl, gx, rfl⟩))
  go_ret
  exact ⟨rfl, by (repeat (first | with_reducible exact grew_refl _ | with_reducible assumption | with_reducible refine grew_split ?_ | with_reducible refine grew_mk ?_ | with_reducible refine grew_plus ?_ | with_reducible refine grew_alloc ?_ | with_reducible refine grew_drew ?_ | (with_reducible refine grew_set ?_ (by first | exact Nat.le_refl _ | omega | (simp [go_sem]; done) | (simp [go_sem]; omega)))))⟩
set_option maxHeartbeats 1000000 in
theorem l_vHas (l : List Int) (x : Int) (hx : x ∈ l) (A : Option Addr) (c : Nat) (w : World) (hA : Sl w 1 intRow A l) (hl : l.length ≤ 1048576) :
    Calls Try.prog 29 #[.slice A l.length c, .int .i64 x] w fun e w' => e = .returned (.bool true) ∧ ∃ g, w' = plus w g := by
  have HX := hid hx
  have HA := hid hA
  clear hx hA
  go_enter Try.func29, Try.ntmps29
  go_wp2_with fail
  go_loopw [4, 5] (fun _ i wr => ∃ k : Nat, k ≤ l.length ∧ i = .int .i64 k ∧ Hid (¬ x ∈ l.take k) ∧ (∃ g, wr = plus w g)) (fun _ i _ => l.length - (intOf i).toNat)
  case atStart => exact ⟨0, Nat.zero_le _, rfl, hid (by simp), by (repeat (first | with_reducible exact grew_refl _ | with_reducible assumption | with_reducible refine grew_split ?_ | with_reducible refine grew_mk ?_ | with_reducible refine grew_plus ?_ | with_reducible refine grew_alloc ?_ | with_reducible refine grew_drew ?_ | (with_reducible refine grew_set ?_ (by first | exact Nat.le_refl _ | omega | (simp [go_sem]; done) | (simp [go_sem]; omega)))))⟩
  case round =>
    obtain ⟨k, hk, rfl, HT, hg⟩ := hrel
    have HA2 := hid (HA.out.grew hg)
    have HG := hid hg
    clear hg
    by_cases hlt : k < l.length
    · obtain ⟨b, off, rfl, hb, hc⟩ := HA2.out.at_ hlt
      have hc0 := icells hc hlt
      clear hc
      by_cases hx : l[k] = x
      · have hx' : (l[k] == x) = true := by simp [hx]
        clear hx
        go_wp2_with fail
        go_ret
        have hg := HG.out
        exact ⟨rfl, by (repeat (first | with_reducible exact grew_refl _ | with_reducible assumption | with_reducible refine grew_split ?_ | with_reducible refine grew_mk ?_ | with_reducible refine grew_plus ?_ | with_reducible refine grew_alloc ?_ | with_reducible refine grew_drew ?_ | (with_reducible refine grew_set ?_ (by first | exact Nat.le_refl _ | omega | (simp [go_sem]; done) | (simp [go_sem]; omega)))))⟩
      · have hx' : (l[k] == x) = false := by simp [hx]
        have HNE := hid hx
        clear hx
        go_wp2_with fail
        go_roundw
        case rel =>
          have hg := HG.out
          have ht := HT.out
          have hx := HNE.out
          refine ⟨k + 1, by omega, by go_num, hid ?_, by (repeat (first | with_reducible exact grew_refl _ | with_reducible assumption | with_reducible refine grew_split ?_ | with_reducible refine grew_mk ?_ | with_reducible refine grew_plus ?_ | with_reducible refine grew_alloc ?_ | with_reducible refine grew_drew ?_ | (with_reducible refine grew_set ?_ (by first | exact Nat.le_refl _ | omega | (simp [go_sem]; done) | (simp [go_sem]; omega)))))⟩
          rw [List.take_succ_eq_append_getElem hlt]
          simp only [List.mem_append, List.mem_singleton]
          rintro (h | h)
          · exact ht h
          · exact hx h.symm
        case measure => simp [intOf]; omega
    · obtain rfl : k = l.length := by omega
      exact absurd HX.out (by have := HT.out; rwa [List.take_length] at this)
set_option maxHeartbeats 1000000 in
theorem l_vWithin (l m : List Int) (hs : ∀ x ∈ l, x ∈ m) (A B : Option Addr) (c d : Nat) (w : World) (hA : Sl w 1 intRow A l) (hB : Sl w 1 intRow B m) (hl : l.length ≤ 1048576) (hm : m.length ≤ 1048576) :
    Calls Try.prog 13 #[.slice A l.length c, .slice B m.length d] w fun e w' => e = .returned (.bool true) ∧ ∃ g, w' = plus w g := by
  have HX := hid hs
  have HA := hid hA
  have HB := hid hB
  clear hs hA hB
  go_enter Try.func13, Try.ntmps13
  go_wp2_with fail
  go_loopw [4, 5] (fun _ i wr => ∃ k : Nat, k ≤ l.length ∧ i = .int .i64 k ∧ (∃ g, wr = plus w g)) (fun _ i _ => l.length - (intOf i).toNat)
  case atStart => exact ⟨0, Nat.zero_le _, rfl, by (repeat (first | with_reducible exact grew_refl _ | with_reducible assumption | with_reducible refine grew_split ?_ | with_reducible refine grew_mk ?_ | with_reducible refine grew_plus ?_ | with_reducible refine grew_alloc ?_ | with_reducible refine grew_drew ?_ | (with_reducible refine grew_set ?_ (by first | exact Nat.le_refl _ | omega | (simp [go_sem]; done) | (simp [go_sem]; omega)))))⟩
  case round =>
    obtain ⟨k, hk, rfl, g, rfl⟩ := hrel
    by_cases hlt : k < l.length
    · obtain ⟨b, off, rfl, hb, hc⟩ := HA.out.at_ hlt
      have hc0 := icells hc hlt
      have HM := hid (HX.out l[k] (List.getElem_mem hlt))
      clear hc
      go_wp2_with (go_at_call 29; refine (l_vHas m l[k] HM.out _ _ _ (HB.out.grew (by (repeat (first | with_reducible exact grew_refl _ | with_reducible assumption | with_reducible refine grew_split ?_ | with_reducible refine grew_mk ?_ | with_reducible refine grew_plus ?_ | with_reducible refine grew_alloc ?_ | with_reducible refine grew_drew ?_ | (with_reducible refine grew_set ?_ (by first | exact Nat.le_refl _ | omega | (simp [go_sem]; done) | (simp [go_sem]; omega))))))) hm).mono ?_; (rintro e w' ⟨rfl, gx, rfl⟩))
      go_roundw
      case rel => exact ⟨k + 1, by omega, by go_num, by (repeat (first | with_reducible exact grew_refl _ | with_reducible assumption | with_reducible refine grew_split ?_ | with_reducible refine grew_mk ?_ | with_reducible refine grew_plus ?_ | with_reducible refine grew_alloc ?_ | with_reducible refine grew_drew ?_ | (with_reducible refine grew_set ?_ (by first | exact Nat.le_refl _ | omega | (simp [go_sem]; done) | (simp [go_sem]; omega)))))⟩
      case measure => simp [intOf]; omega
    · go_wp2_with fail
      go_ret
      exact ⟨rfl, by (repeat (first | with_reducible exact grew_refl _ | with_reducible assumption | with_reducible refine grew_split ?_ | with_reducible refine grew_mk ?_ | with_reducible refine grew_plus ?_ | with_reducible refine grew_alloc ?_ | with_reducible refine grew_drew ?_ | (with_reducible refine grew_set ?_ (by first | exact Nat.le_refl _ | omega | (simp [go_sem]; done) | (simp [go_sem]; omega)))))⟩
end Go.Proofs.Ytcljcbbkbepmjaa
