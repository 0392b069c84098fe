/- What the law on shoals asks: plain facts, and the laws' own functions on lists of texts. -/
import Derived.Test.YteogidghoohgaaaDoorNd
import Derived.Test.YteogidghoohgaaaDoorMs
import Derived.Test.YteogidghoohgaaaDoorA6
namespace Go.Proofs.YteogidghoohgaaaDoor
open Go.RowKit

theorem share_le {l : List AreaR} : (shareF l).1 ≤ (shareF l).2.1 := by
  cases h : areasB l
  · rw [shareF_bad h]; exact Nat.le_refl _
  · by_cases h0 : l.length = 0
    · rw [shareF_empty h0]; exact Nat.le_refl _
    · rw [shareF_good h (by omega)]
      exact Nat.div_le_div_right (tos_bound h _ (Nat.le_refl _)).1
theorem share_size {l : List AreaR} : (shareF l).1 ≤ 99990 ∧ (shareF l).2.1 ≤ 99990 := by
  cases h : areasB l
  · rw [shareF_bad h]; exact ⟨by decide, by decide⟩
  · by_cases h0 : l.length = 0
    · rw [shareF_empty h0]; exact ⟨by decide, by decide⟩
    · rw [shareF_good h (by omega)]
      obtain ⟨h1, h2, _⟩ := tos_bound h _ (Nat.le_refl _)
      have h3 := areasB_len h
      have h4 := Nat.div_le_self (covTo l l.length) (Nat.gcd (covTo l l.length) (cellsTo l l.length))
      have h5 := Nat.div_le_self (cellsTo l l.length) (Nat.gcd (covTo l l.length) (cellsTo l l.length))
      simp only
      omega
theorem findIdx_at {l : List AreaR} {p : AreaR → Bool} {i : Nat} (h : l.findIdx? p = some i) : ∃ hi : i < l.length, p l[i] = true := by
  rw [List.findIdx?_eq_some_iff_getElem] at h
  obtain ⟨hi, h1, _⟩ := h
  exact ⟨hi, h1⟩
/-- What is left to do of the area with that name. -/
theorem minutes_of {l : List AreaR} {s : ByteArray} {m : Int} (h : minutesF l s = (m, true)) {k : Nat} (hk : k < l.length) (hn : l[k].nm.toList = s.toList) :
    l[k].ok = true ∧ 0 < l[k].cov ∧ m = (l[k].minutes * (l[k].cells - l[k].cov) + l[k].cov - 1) / l[k].cov := by
  unfold minutesF at h
  split at h
  · rename_i hg
    split at h
    · rename_i i hi
      obtain ⟨hil, hp⟩ := findIdx_at hi
      have hin : l[i].nm.toList = s.toList := by simpa [nameIs] using hp
      have e := areas_eq hg hil hk (hin.trans hn.symm)
      subst e
      rw [List.getElem?_eq_getElem hil] at h
      simp only at h
      split at h
      · cases h
      · rename_i hc
        have hok := areasB_ok hg hk
        have hb := AreaR.bounds hok
        cases h
        exact ⟨hok, by omega, rfl⟩
    · cases h
  · cases h
theorem ceil_ge {a c m : Int} (hc : 0 < c) (hm : m = (a + c - 1) / c) : a ≤ m * c ∧ m * c ≤ a + c - 1 := by
  subst hm
  have h1 := Int.emod_add_mul_ediv (a + c - 1) c
  have h2 := Int.emod_nonneg (a + c - 1) (show c ≠ 0 by omega)
  have h3 := Int.emod_lt_of_pos (a + c - 1) hc
  rw [Int.mul_comm]
  generalize c * ((a + c - 1) / c) = q at *
  omega
theorem minutesF_bound {l : List AreaR} {s : ByteArray} : 0 ≤ (minutesF l s).1 ∧ (minutesF l s).1 ≤ 2000000000 := by
  unfold minutesF
  split
  · rename_i hg
    split
    · rename_i i hi
      obtain ⟨hil, _⟩ := findIdx_at hi
      rw [List.getElem?_eq_getElem hil]
      simp only
      split
      · exact ⟨Int.le_refl _, by decide⟩
      · rename_i hc
        obtain ⟨b1, b2, b3, b4, _, _, _, _, b9, b10, _⟩ := AreaR.bounds (areasB_ok hg hil)
        have h1 : 0 ≤ l[i].minutes * (l[i].cells - l[i].cov) := Int.mul_nonneg b9 (by omega)
        have h2 : l[i].minutes * (l[i].cells - l[i].cov) ≤ 99999 * 9999 := Int.mul_le_mul b10 (by omega) (by omega) (by omega)
        have h3 : 0 ≤ (l[i].minutes * (l[i].cells - l[i].cov) + l[i].cov - 1) / l[i].cov := Int.ediv_nonneg (by omega) (by omega)
        have h4 : (l[i].minutes * (l[i].cells - l[i].cov) + l[i].cov - 1) / l[i].cov ≤ l[i].minutes * (l[i].cells - l[i].cov) + l[i].cov - 1 := Int.ediv_le_self _ (by omega)
        simp only
        omega
    · exact ⟨Int.le_refl _, by decide⟩
  · exact ⟨Int.le_refl _, by decide⟩
set_option maxHeartbeats 1000000 in
theorem l_rTexts (l : List ByteArray) (A B : Option Addr) (c d : Nat) (w : World) (hA : Sl w 1 strRow A l) (hB : Sl w 1 strRow B l) (hl : l.length ≤ maxLen) :
    Calls Tryd.prog 14 #[.slice A l.length c, .slice B l.length d] w fun e' w' => e' = .returned (.bool true) ∧ ∃ g, w' = plus w g := by
  unfold maxLen at hl
  go_enter Tryd.func14, Tryd.ntmps14
  go_wp2_with fail
  go_loopw [5] (fun i wr => ∃ k : Nat, k ≤ l.length ∧ i = .int .i64 k ∧ (∃ g, wr = plus w g)) (fun i _ => l.length - (intOf i).toNat)
  case atStart => exact ⟨0, Nat.zero_le _, rfl, _, plus_refl _⟩
  case round =>
    obtain ⟨k, hk, rfl, g, rfl⟩ := hrel
    by_cases hlt : k < l.length
    · obtain ⟨b, off, rfl, hb, hc⟩ := hA.at_ hlt
      obtain ⟨b', off', rfl, hb', hc'⟩ := hB.at_ hlt
      have hc0 := tcells hc hlt
      have hd0 := tcells hc' hlt
      have t0 : (l[k].toList == l[k].toList) = true := by simp
      clear hc hA hc' hB
      go_wp2_with fail
      (refine wp_region_calm (by kernel_rfl) (by kernel_rfl) ?_; (repeat' (first | go_big_quiet_step (fail) | (refine wpQuiet_step (fun K hK => ?_); go_simp; go_ite <;> go_simp <;> (first | (refine hK _ ?_; clear hK K) | (apply Exists.intro; refine ⟨fun _ => ?_, hK _ ?_⟩; (fail); clear hK K))))); all_goals (refine wpQuiet_nil ?_; intro _ hw'; obtain ⟨gq, hw''⟩ := hw'; subst hw''))
      go_wp2
      go_roundw
      case rel => exact ⟨k + 1, by omega, by go_num, by (repeat (first | with_reducible exact grew_refl _ | with_reducible assumption | with_reducible refine grew_split ?_ | with_reducible refine grew_mk ?_ | with_reducible refine grew_plus ?_ | with_reducible refine grew_alloc ?_ | with_reducible refine grew_drew ?_ | (with_reducible refine grew_set ?_ (by first | exact Nat.le_refl _ | omega | (simp [go_sem]; done) | (simp [go_sem]; omega)))))⟩
      case measure => simp [intOf]; omega
    · go_wp2
      go_ret
      exact ⟨rfl, by (repeat (first | with_reducible exact grew_refl _ | with_reducible assumption | with_reducible refine grew_split ?_ | with_reducible refine grew_mk ?_ | with_reducible refine grew_plus ?_ | with_reducible refine grew_alloc ?_ | with_reducible refine grew_drew ?_ | (with_reducible refine grew_set ?_ (by first | exact Nat.le_refl _ | omega | (simp [go_sem]; done) | (simp [go_sem]; omega)))))⟩
theorem hasT_take {l : List ByteArray} {s : ByteArray} {k : Nat} (h : k < l.length) : hasT (l.take (k + 1)) s = (hasT (l.take k) s || (l[k].toList == s.toList)) := by
  rw [hasT, List.take_succ_eq_append_getElem h, List.any_append]; simp [hasT]
set_option maxHeartbeats 1000000 in
theorem l_rHasText (l : List ByteArray) (s : ByteArray) (o : Bool) (ho : hasT l s = o) (A : Option Addr) (c : Nat) (w : World) (hA : Sl w 1 strRow A l) (hl : l.length ≤ maxLen) :
    Calls Tryd.prog 18 #[.slice A l.length c, .string s] w fun e' w' => e' = .returned (.bool o) ∧ ∃ g, w' = plus w g := by
  unfold maxLen at hl
  have HO := hid ho
  clear ho
  go_enter Tryd.func18, Tryd.ntmps18
  go_wp2_with fail
  go_loopw [5] (fun i wr => ∃ k : Nat, k ≤ l.length ∧ i = .int .i64 k ∧ hasT (l.take k) s = false ∧ (∃ g, wr = plus w g)) (fun i _ => l.length - (intOf i).toNat)
  case atStart => exact ⟨0, Nat.zero_le _, rfl, by simp [hasT], _, plus_refl _⟩
  case round =>
    obtain ⟨k, hk, rfl, hT, g, rfl⟩ := hrel
    have HT := hid hT
    clear hT
    by_cases hlt : k < l.length
    · obtain ⟨b, off, rfl, hb, hc⟩ := hA.at_ hlt
      have hc0 := tcells hc hlt
      have HS := hid (hasT_take (s := s) hlt)
      have HX := hid (show (l[k].toList == s.toList) = true → hasT l s = true from fun e => by rw [hasT, List.any_eq_true]; exact ⟨_, List.getElem_mem hlt, e⟩)
      clear hc hA
      cases ht : (l[k].toList == s.toList)
      · have HE := hid ht
        go_wp2_with fail
        go_roundw
        case rel => exact ⟨k + 1, by omega, by go_num, by rw [HS.out, HT.out, HE.out]; rfl, by (repeat (first | with_reducible exact grew_refl _ | with_reducible assumption | with_reducible refine grew_split ?_ | with_reducible refine grew_mk ?_ | with_reducible refine grew_plus ?_ | with_reducible refine grew_alloc ?_ | with_reducible refine grew_drew ?_ | (with_reducible refine grew_set ?_ (by first | exact Nat.le_refl _ | omega | (simp [go_sem]; done) | (simp [go_sem]; omega)))))⟩
        case measure => simp [intOf]; omega
      · have HE := hid ht
        go_wp2_with fail
        go_ret
        exact ⟨ret_bool (by rw [← HO.out]; exact (HX.out HE.out).symm), by (repeat (first | with_reducible exact grew_refl _ | with_reducible assumption | with_reducible refine grew_split ?_ | with_reducible refine grew_mk ?_ | with_reducible refine grew_plus ?_ | with_reducible refine grew_alloc ?_ | with_reducible refine grew_drew ?_ | (with_reducible refine grew_set ?_ (by first | exact Nat.le_refl _ | omega | (simp [go_sem]; done) | (simp [go_sem]; omega)))))⟩
    · obtain rfl : k = l.length := by omega
      go_wp2
      go_ret
      exact ⟨ret_bool (by rw [← HO.out]; have := HT.out; rw [List.take_length] at this; exact this.symm), by (repeat (first | with_reducible exact grew_refl _ | with_reducible assumption | with_reducible refine grew_split ?_ | with_reducible refine grew_mk ?_ | with_reducible refine grew_plus ?_ | with_reducible refine grew_alloc ?_ | with_reducible refine grew_drew ?_ | (with_reducible refine grew_set ?_ (by first | exact Nat.le_refl _ | omega | (simp [go_sem]; done) | (simp [go_sem]; omega)))))⟩
theorem l_rBig (A : Option Addr) (n c : Nat) (w : World) : Calls Tryd.prog 10 #[.slice A n c] w fun e' w' => e' = .returned (.bool (decide ((65536 : Int) < (n : Int)))) ∧ w = w' := by
  go_enter Tryd.func10, Tryd.ntmps10
  go_wp2
  go_ret
  exact ⟨rfl, rfl⟩
end Go.Proofs.YteogidghoohgaaaDoor
