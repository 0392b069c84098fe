/- Lists of area rows: which are good, the laws' conversions and comparisons of lists. Condition: names and lists have lengths that an int holds. -/
import Derived.Test.YteogidghoohgaaaDoorA1
namespace Go.Proofs.YteogidghoohgaaaDoor
open Go.RowKit

def areaStep (l : List AreaR) (i : Nat) : Bool :=
  if h : i < l.length then l[i].ok && (decide (i = 0) || Op.bytesLess l[i-1].nm.toList l[i].nm.toList) else true
def areasB (l : List AreaR) : Bool := allUpto (areaStep l) l.length && decide (l.length ≤ 10)
theorem areasB_no {l : List AreaR} {k : Nat} (hk : k < l.length) (h : areaStep l k = false) : areasB l = false := by
  rw [areasB, allUpto_no hk h]; rfl

set_option maxHeartbeats 1000000 in
theorem s_l26Good (l : List AreaR) (A : Option Addr) (c : Nat) (o : Bool) (ho : areasB l = o) (w : World) (hA : Sl w 6 AreaR.row A l) (hs : ∀ r ∈ l, r.nm.size ≤ maxLen) (hl : l.length ≤ maxLen) :
    Calls Tryd.prog 29 #[.slice A l.length c] w fun e' w' => e' = .returned (.bool o) ∧ ∃ g, w' = plus w g := by
  subst ho
  unfold maxLen at hl
  go_enter Tryd.func29, Tryd.ntmps29
  go_wp2_with fail
  go_loopw [3] (fun i wr => ∃ k : Nat, k ≤ l.length ∧ i = .int .i64 k ∧ allUpto (areaStep l) k = true ∧ (∃ g, wr = plus w g)) (fun i _ => l.length - (intOf i).toNat)
  case atStart => exact ⟨0, Nat.zero_le _, rfl, rfl, _, plus_refl _⟩
  case round =>
    obtain ⟨k, hk, rfl, hall, g, rfl⟩ := hrel
    have H := hid hall
    clear hall
    by_cases hlt : k < l.length
    · obtain ⟨b, off, rfl, hb, hc⟩ := hA.at_ hlt
      obtain ⟨hc0, hc1, hc2, hc3, hc4, hc5⟩ := AreaR.cells6 hc hlt
      have hp := hc (k - 1) (by omega) 0 _ rfl
      have hsk := hs l[k] (List.getElem_mem hlt)
      simp only [Nat.add_zero] at hp
      have HF : Hid (areaStep l k = (l[k].ok && (decide (k = 0) || Op.bytesLess l[k-1].nm.toList l[k].nm.toList))) := hid (by simp [areaStep, hlt])
      clear hc hs hA
      go_wp2_with fail
      (refine wp_region_calm (by kernel_rfl) (by kernel_rfl) ?_; (repeat' (first | go_big_quiet_step ((go_at_call 55; exact calm_add (s_l26One l[k] _ rfl _ hsk))) | (refine wpQuiet_step (fun K hK => ?_); go_simp; go_ite <;> go_simp <;> (first | (refine hK _ ?_; clear hK K) | (apply Exists.intro; refine ⟨fun _ => ?_, hK _ ?_⟩; ((go_at_call 55; exact calm_add (s_l26One l[k] _ rfl _ hsk))); clear hK K))))); all_goals (refine wpQuiet_nil ?_; intro _ hw'; obtain ⟨gq, hw''⟩ := hw'; subst hw''))
      go_wp2
      all_goals first
        | (go_roundw
           case rel => exact ⟨k + 1, by omega, by go_num, allUpto_step H.out (by rw [HF.out]; grind), by (repeat (first | with_reducible exact grew_refl _ | with_reducible assumption | with_reducible refine grew_split ?_ | with_reducible refine grew_mk ?_ | with_reducible refine grew_plus ?_ | with_reducible refine grew_alloc ?_ | with_reducible refine grew_drew ?_ | (with_reducible refine grew_set ?_ (by first | exact Nat.le_refl _ | omega | (simp [go_sem]; done) | (simp [go_sem]; omega)))))⟩
           case measure => simp [intOf]; omega)
        | (go_ret
           exact ⟨ret_bool (areasB_no hlt (by rw [HF.out]; grind)).symm, by (repeat (first | with_reducible exact grew_refl _ | with_reducible assumption | with_reducible refine grew_split ?_ | with_reducible refine grew_mk ?_ | with_reducible refine grew_plus ?_ | with_reducible refine grew_alloc ?_ | with_reducible refine grew_drew ?_ | (with_reducible refine grew_set ?_ (by first | exact Nat.le_refl _ | omega | (simp [go_sem]; done) | (simp [go_sem]; omega)))))⟩)
    · obtain rfl : k = l.length := by omega
      go_wp2
      go_ret
      exact ⟨ret_bool (by rw [areasB, H.out]; simp only [Bool.true_and, decide_eq_decide]; omega), by (repeat (first | with_reducible exact grew_refl _ | with_reducible assumption | with_reducible refine grew_split ?_ | with_reducible refine grew_mk ?_ | with_reducible refine grew_plus ?_ | with_reducible refine grew_alloc ?_ | with_reducible refine grew_drew ?_ | (with_reducible refine grew_set ?_ (by first | exact Nat.le_refl _ | omega | (simp [go_sem]; done) | (simp [go_sem]; omega)))))⟩
set_option maxHeartbeats 1000000 in
theorem i_AreAreaRows (l : List AreaR) (A : Option Addr) (c : Nat) (o : Bool) (ho : areasB l = o) (w : World) (hA : Sl w 6 AreaR.row A l) (hs : ∀ r ∈ l, r.nm.size ≤ maxLen) (hl : l.length ≤ maxLen) :
    Calls Tryd.prog 17 #[.slice A l.length c] w fun e' w' => e' = .returned (.bool o) ∧ ∃ g, w' = plus w g := by
  subst ho
  unfold maxLen at hl
  go_enter Tryd.func17, Tryd.ntmps17
  go_wp2_with fail

  go_loopw [7] (fun i wr => ∃ k : Nat, k ≤ l.length ∧ i = .int .i64 k ∧ allUpto (areaStep l) k = true ∧ (∃ g, wr = plus w g)) (fun i _ => l.length - (intOf i).toNat)
  case atStart => exact ⟨0, Nat.zero_le _, rfl, rfl, _, plus_refl _⟩
  case round =>
    obtain ⟨k, hk, rfl, hall, g, rfl⟩ := hrel
    have H := hid hall
    clear hall
    by_cases hlt : k < l.length
    · obtain ⟨b, off, rfl, hb, hc⟩ := hA.at_ hlt
      obtain ⟨hc0, hc1, hc2, hc3, hc4, hc5⟩ := AreaR.cells6 hc hlt
      have hp := hc (k - 1) (by omega) 0 _ rfl
      have hsk := hs l[k] (List.getElem_mem hlt)
      simp only [Nat.add_zero] at hp
      have HF : Hid (areaStep l k = (l[k].ok && (decide (k = 0) || Op.bytesLess l[k-1].nm.toList l[k].nm.toList))) := hid (by simp [areaStep, hlt])
      clear hc hs hA
      go_wp2_with fail
    
      (refine wp_region_calm (by kernel_rfl) (by kernel_rfl) ?_; (repeat' (first | go_big_quiet_step ((go_at_call 27; exact calm_of (i_IsAreaRow l[k] _ rfl _ hsk))) | (refine wpQuiet_step (fun K hK => ?_); go_simp; go_ite <;> go_simp <;> (first | (refine hK _ ?_; clear hK K) | (apply Exists.intro; refine ⟨fun _ => ?_, hK _ ?_⟩; ((go_at_call 27; exact calm_of (i_IsAreaRow l[k] _ rfl _ hsk))); clear hK K))))); all_goals (refine wpQuiet_nil ?_; intro _ hw'; obtain ⟨gq, hw''⟩ := hw'; subst hw''))
      go_wp2

      all_goals first
        | (go_roundw
           case rel => exact ⟨k + 1, by omega, by go_num, allUpto_step H.out (by rw [HF.out]; grind), by (repeat (first | with_reducible exact grew_refl _ | with_reducible assumption | with_reducible refine grew_split ?_ | with_reducible refine grew_mk ?_ | with_reducible refine grew_plus ?_ | with_reducible refine grew_alloc ?_ | with_reducible refine grew_drew ?_ | (with_reducible refine grew_set ?_ (by first | exact Nat.le_refl _ | omega | (simp [go_sem]; done) | (simp [go_sem]; omega)))))⟩
           case measure => simp [intOf]; omega)
        | (go_ret
           exact ⟨ret_bool (areasB_no hlt (by rw [HF.out]; grind)).symm, by (repeat (first | with_reducible exact grew_refl _ | with_reducible assumption | with_reducible refine grew_split ?_ | with_reducible refine grew_mk ?_ | with_reducible refine grew_plus ?_ | with_reducible refine grew_alloc ?_ | with_reducible refine grew_drew ?_ | (with_reducible refine grew_set ?_ (by first | exact Nat.le_refl _ | omega | (simp [go_sem]; done) | (simp [go_sem]; omega)))))⟩)
    · obtain rfl : k = l.length := by omega
      go_wp2
      go_ret
      exact ⟨ret_bool (by rw [areasB, H.out]; simp only [Bool.true_and, decide_eq_decide]; omega), by (repeat (first | with_reducible exact grew_refl _ | with_reducible assumption | with_reducible refine grew_split ?_ | with_reducible refine grew_mk ?_ | with_reducible refine grew_plus ?_ | with_reducible refine grew_alloc ?_ | with_reducible refine grew_drew ?_ | (with_reducible refine grew_set ?_ (by first | exact Nat.le_refl _ | omega | (simp [go_sem]; done) | (simp [go_sem]; omega)))))⟩
end Go.Proofs.YteogidghoohgaaaDoor
