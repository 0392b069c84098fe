/- The laws' own comparisons of lists, in the seats of lights. -/
import Derived.Test.YtjlaidjogladaaaLp1
import Derived.Test.YtjlaidjogladaaaM1
namespace Go.Proofs.Ytjlaidjogladaaa
open Go.RowKit

set_option maxHeartbeats 400000 in
theorem l_rBig (A : Option Addr) (c n : Nat) (w : World) : Calls Try.prog 14 #[.slice A n c] w fun e w' => e = .returned (.bool (decide ((65536 : Int) < (n : Int)))) ∧ w = w' := by
  go_enter Try.func14, Try.ntmps14
  go_wp2
  go_ret
  exact ⟨rfl, rfl⟩
set_option maxHeartbeats 1000000 in
theorem l_rInts (l : List Int) (A B : Option Addr) (c d : Nat) (w : World) (hA : Sl w 1 intRow A l) (hB : Sl w 1 intRow B l) (hl : l.length ≤ maxLen) :
    Calls Try.prog 18 #[.slice A l.length c, .slice B l.length d] w fun e' w' => e' = .returned (.bool true) ∧ ∃ g, w' = plus w g := by
  unfold maxLen at hl
  go_enter Try.func18, Try.ntmps18
  go_wp2_with fail
  go_loopw [5] (fun i wr => ∃ k : Nat, k ≤ l.length ∧ i = .int .i64 k ∧ (∃ g, wr = plus w g)) (fun i _ => l.length - (intOf i).toNat)
  case atStart => exact ⟨0, Nat.zero_le _, rfl, _, plus_refl _⟩
  case round =>
    obtain ⟨k, hk, rfl, g, rfl⟩ := hrel
    by_cases hlt : k < l.length
    · obtain ⟨b, off, rfl, hb, hc⟩ := hA.at_ hlt
      obtain ⟨b', off', rfl, hb', hc'⟩ := hB.at_ hlt
      have hc0 := icells hc hlt
      have hd0 := icells hc' hlt
      have e1 : (l[k] == l[k]) = true := by simp
      clear hc hA hc' hB
      go_wp2_with fail
      (refine wp_region_calm (by kernel_rfl) (by kernel_rfl) ?_; (repeat' (first | go_big_quiet_step (fail) | (refine wpQuiet_step (fun K hK => ?_); go_simp; go_ite <;> go_simp <;> (first | (refine hK _ ?_; clear hK K) | (apply Exists.intro; refine ⟨fun _ => ?_, hK _ ?_⟩; (fail); clear hK K))))); all_goals (refine wpQuiet_nil ?_; intro _ hw'; obtain ⟨gq, hw''⟩ := hw'; subst hw''))
      go_wp2
      go_roundw
      case rel => exact ⟨k + 1, by omega, by go_num, by (repeat (first | with_reducible exact grew_refl _ | with_reducible assumption | with_reducible refine grew_split ?_ | with_reducible refine grew_mk ?_ | with_reducible refine grew_plus ?_ | with_reducible refine grew_alloc ?_ | with_reducible refine grew_drew ?_ | (with_reducible refine grew_set ?_ (by first | exact Nat.le_refl _ | omega | (simp [go_sem]; done) | (simp [go_sem]; omega)))))⟩
      case measure => simp [intOf]; omega
    · go_wp2
      go_ret
      exact ⟨rfl, by (repeat (first | with_reducible exact grew_refl _ | with_reducible assumption | with_reducible refine grew_split ?_ | with_reducible refine grew_mk ?_ | with_reducible refine grew_plus ?_ | with_reducible refine grew_alloc ?_ | with_reducible refine grew_drew ?_ | (with_reducible refine grew_set ?_ (by first | exact Nat.le_refl _ | omega | (simp [go_sem]; done) | (simp [go_sem]; omega)))))⟩
set_option maxHeartbeats 1000000 in
theorem l_rHas (l : List Int) (x : Int) (hx : x ∈ l) (A : Option Addr) (c : Nat) (w : World) (hA : Sl w 1 intRow A l) (hl : l.length ≤ 1048576) :
    Calls Try.prog 21 #[.slice A l.length c, .int .i64 x] w fun e w' => e = .returned (.bool true) ∧ ∃ g, w' = plus w g := by
  have HX := hid hx
  have HA := hid hA
  clear hx hA
  go_enter Try.func21, Try.ntmps21
  go_wp2_with fail
  go_loopw [4, 5] (fun _ i wr => ∃ k : Nat, k ≤ l.length ∧ i = .int .i64 k ∧ Hid (¬ x ∈ l.take k) ∧ (∃ g, wr = plus w g)) (fun _ i _ => l.length - (intOf i).toNat)
  case atStart => exact ⟨0, Nat.zero_le _, rfl, hid (by simp), by (repeat (first | with_reducible exact grew_refl _ | with_reducible assumption | with_reducible refine grew_split ?_ | with_reducible refine grew_mk ?_ | with_reducible refine grew_plus ?_ | with_reducible refine grew_alloc ?_ | with_reducible refine grew_drew ?_ | (with_reducible refine grew_set ?_ (by first | exact Nat.le_refl _ | omega | (simp [go_sem]; done) | (simp [go_sem]; omega)))))⟩
  case round =>
    obtain ⟨k, hk, rfl, HT, hg⟩ := hrel
    have HA2 := hid (HA.out.grew hg)
    have HG := hid hg
    clear hg
    by_cases hlt : k < l.length
    · obtain ⟨b, off, rfl, hb, hc⟩ := HA2.out.at_ hlt
      have hc0 := icells hc hlt
      clear hc
      by_cases hx : l[k] = x
      · have hx' : (l[k] == x) = true := by simp [hx]
        clear hx
        go_wp2_with fail
        go_ret
        have hg := HG.out
        exact ⟨rfl, by (repeat (first | with_reducible exact grew_refl _ | with_reducible assumption | with_reducible refine grew_split ?_ | with_reducible refine grew_mk ?_ | with_reducible refine grew_plus ?_ | with_reducible refine grew_alloc ?_ | with_reducible refine grew_drew ?_ | (with_reducible refine grew_set ?_ (by first | exact Nat.le_refl _ | omega | (simp [go_sem]; done) | (simp [go_sem]; omega)))))⟩
      · have hx' : (l[k] == x) = false := by simp [hx]
        have HNE := hid hx
        clear hx
        go_wp2_with fail
        go_roundw
        case rel =>
          have hg := HG.out
          have ht := HT.out
          have hx := HNE.out
          refine ⟨k + 1, by omega, by go_num, hid ?_, by (repeat (first | with_reducible exact grew_refl _ | with_reducible assumption | with_reducible refine grew_split ?_ | with_reducible refine grew_mk ?_ | with_reducible refine grew_plus ?_ | with_reducible refine grew_alloc ?_ | with_reducible refine grew_drew ?_ | (with_reducible refine grew_set ?_ (by first | exact Nat.le_refl _ | omega | (simp [go_sem]; done) | (simp [go_sem]; omega)))))⟩
          rw [List.take_succ_eq_append_getElem hlt]
          simp only [List.mem_append, List.mem_singleton]
          rintro (h | h)
          · exact ht h
          · exact hx h.symm
        case measure => simp [intOf]; omega
    · obtain rfl : k = l.length := by omega
      exact absurd HX.out (by have := HT.out; rwa [List.take_length] at this)
set_option maxHeartbeats 1000000 in
theorem l_rTable (M N : List PairV) (A B : Option Addr) (c d : Nat) (w : World) (hM : M.map PairV.ab = N.map PairV.ab) (hA : PRead w A M) (hB : PRead w B N) (hl : M.length ≤ maxLen) :
    Calls Try.prog 26 #[.slice A M.length c, .slice B N.length d] w fun e' w' => e' = .returned (.bool true) ∧ ∃ g, w' = plus w g := by
  unfold maxLen at hl
  have HM := hid hM
  have HA := hid hA
  have HB := hid hB
  have hn := ab_len hM
  rw [← hn]
  have HN := hid hn
  clear hM hA hB hn
  go_enter Try.func26, Try.ntmps26
  go_wp2_with fail
  go_loopw [5] (fun i wr => ∃ k : Nat, k ≤ M.length ∧ i = .int .i64 k ∧ (∃ g, wr = plus w g)) (fun i _ => M.length - (intOf i).toNat)
  case atStart => exact ⟨0, Nat.zero_le _, rfl, _, plus_refl _⟩
  case round =>
    obtain ⟨k, hk, rfl, g, rfl⟩ := hrel
    by_cases hlt : k < M.length
    · have hlt' : k < N.length := by have := HN.out; omega
      obtain ⟨b, off, rfl, hb, hc⟩ := HA.out.sl.at_ hlt
      obtain ⟨b', off', rfl, hb', hc'⟩ := HB.out.sl.at_ hlt'
      have hc0 := pcells hc hlt
      have hd0 := pcells hc' hlt'
      have hr1 := HA.out.row M[k] (List.getElem_mem hlt)
      have hr2 := HB.out.row N[k] (List.getElem_mem hlt')
      obtain ⟨e1, e2⟩ := ab_get HM.out hlt hlt'
      rw [e1, e2] at hr2
      have HR1 := hid hr1
      have HR2 := hid hr2
      clear hc hc' hr1 hr2 e1 e2
      go_wp2_with fail
      (refine wp_region_calm (by kernel_rfl) (by kernel_rfl) ?_; (repeat' (first | go_big_quiet_step ((go_at_call 18; first | exact calm_of (l_rInts [M[k].a, M[k].b] _ _ _ _ _ (HR1.out.grew (by (repeat (first | with_reducible exact grew_refl _ | with_reducible assumption | with_reducible refine grew_split ?_ | with_reducible refine grew_mk ?_ | with_reducible refine grew_plus ?_ | with_reducible refine grew_alloc ?_ | with_reducible refine grew_drew ?_ | (with_reducible refine grew_set ?_ (by first | exact Nat.le_refl _ | omega | (simp [go_sem]; done) | (simp [go_sem]; omega))))))) (HR2.out.grew (by (repeat (first | with_reducible exact grew_refl _ | with_reducible assumption | with_reducible refine grew_split ?_ | with_reducible refine grew_mk ?_ | with_reducible refine grew_plus ?_ | with_reducible refine grew_alloc ?_ | with_reducible refine grew_drew ?_ | (with_reducible refine grew_set ?_ (by first | exact Nat.le_refl _ | omega | (simp [go_sem]; done) | (simp [go_sem]; omega))))))) (by simp [maxLen])) | exact calm_add (l_rInts [M[k].a, M[k].b] _ _ _ _ _ (HR1.out.grew (by (repeat (first | with_reducible exact grew_refl _ | with_reducible assumption | with_reducible refine grew_split ?_ | with_reducible refine grew_mk ?_ | with_reducible refine grew_plus ?_ | with_reducible refine grew_alloc ?_ | with_reducible refine grew_drew ?_ | (with_reducible refine grew_set ?_ (by first | exact Nat.le_refl _ | omega | (simp [go_sem]; done) | (simp [go_sem]; omega))))))) (HR2.out.grew (by (repeat (first | with_reducible exact grew_refl _ | with_reducible assumption | with_reducible refine grew_split ?_ | with_reducible refine grew_mk ?_ | with_reducible refine grew_plus ?_ | with_reducible refine grew_alloc ?_ | with_reducible refine grew_drew ?_ | (with_reducible refine grew_set ?_ (by first | exact Nat.le_refl _ | omega | (simp [go_sem]; done) | (simp [go_sem]; omega))))))) (by simp [maxLen])))) | (refine wpQuiet_step (fun K hK => ?_); go_simp; go_ite <;> go_simp <;> (first | (refine hK _ ?_; clear hK K) | (apply Exists.intro; refine ⟨fun _ => ?_, hK _ ?_⟩; ((go_at_call 18; first | exact calm_of (l_rInts [M[k].a, M[k].b] _ _ _ _ _ (HR1.out.grew (by (repeat (first | with_reducible exact grew_refl _ | with_reducible assumption | with_reducible refine grew_split ?_ | with_reducible refine grew_mk ?_ | with_reducible refine grew_plus ?_ | with_reducible refine grew_alloc ?_ | with_reducible refine grew_drew ?_ | (with_reducible refine grew_set ?_ (by first | exact Nat.le_refl _ | omega | (simp [go_sem]; done) | (simp [go_sem]; omega))))))) (HR2.out.grew (by (repeat (first | with_reducible exact grew_refl _ | with_reducible assumption | with_reducible refine grew_split ?_ | with_reducible refine grew_mk ?_ | with_reducible refine grew_plus ?_ | with_reducible refine grew_alloc ?_ | with_reducible refine grew_drew ?_ | (with_reducible refine grew_set ?_ (by first | exact Nat.le_refl _ | omega | (simp [go_sem]; done) | (simp [go_sem]; omega))))))) (by simp [maxLen])) | exact calm_add (l_rInts [M[k].a, M[k].b] _ _ _ _ _ (HR1.out.grew (by (repeat (first | with_reducible exact grew_refl _ | with_reducible assumption | with_reducible refine grew_split ?_ | with_reducible refine grew_mk ?_ | with_reducible refine grew_plus ?_ | with_reducible refine grew_alloc ?_ | with_reducible refine grew_drew ?_ | (with_reducible refine grew_set ?_ (by first | exact Nat.le_refl _ | omega | (simp [go_sem]; done) | (simp [go_sem]; omega))))))) (HR2.out.grew (by (repeat (first | with_reducible exact grew_refl _ | with_reducible assumption | with_reducible refine grew_split ?_ | with_reducible refine grew_mk ?_ | with_reducible refine grew_plus ?_ | with_reducible refine grew_alloc ?_ | with_reducible refine grew_drew ?_ | (with_reducible refine grew_set ?_ (by first | exact Nat.le_refl _ | omega | (simp [go_sem]; done) | (simp [go_sem]; omega))))))) (by simp [maxLen])))); clear hK K))))); all_goals (refine wpQuiet_nil ?_; intro _ hw'; obtain ⟨gq, hw''⟩ := hw'; subst hw''))
      go_wp2
      go_roundw
      case rel => exact ⟨k + 1, by omega, by go_num, by (repeat (first | with_reducible exact grew_refl _ | with_reducible assumption | with_reducible refine grew_split ?_ | with_reducible refine grew_mk ?_ | with_reducible refine grew_plus ?_ | with_reducible refine grew_alloc ?_ | with_reducible refine grew_drew ?_ | (with_reducible refine grew_set ?_ (by first | exact Nat.le_refl _ | omega | (simp [go_sem]; done) | (simp [go_sem]; omega)))))⟩
      case measure => simp [intOf]; omega
    · go_wp2
      go_ret
      exact ⟨rfl, by (repeat (first | with_reducible exact grew_refl _ | with_reducible assumption | with_reducible refine grew_split ?_ | with_reducible refine grew_mk ?_ | with_reducible refine grew_plus ?_ | with_reducible refine grew_alloc ?_ | with_reducible refine grew_drew ?_ | (with_reducible refine grew_set ?_ (by first | exact Nat.le_refl _ | omega | (simp [go_sem]; done) | (simp [go_sem]; omega)))))⟩
end Go.Proofs.Ytjlaidjogladaaa
