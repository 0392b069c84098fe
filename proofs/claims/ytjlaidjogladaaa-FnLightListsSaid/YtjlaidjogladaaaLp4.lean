/- Which pairs of lights look alike: the program. -/
import Derived.Test.YtjlaidjogladaaaLp3
import Derived.Test.YtjlaidjogladaaaLk3
namespace Go.Proofs.Ytjlaidjogladaaa
open Go.RowKit

def PhaseR.pair (p : PhaseR) : Bool × Int := (p.lit, p.tenths)
def pairL (l : List PhaseR) : List (Bool × Int) := l.map PhaseR.pair
theorem pair_step {l m : List PhaseR} {k : Nat} (h : k < l.length) (h' : k < m.length) (h0 : (pairL l).take k = (pairL m).take k) (h1 : l[k].lit = m[k].lit) (h2 : l[k].tenths = m[k].tenths) : (pairL l).take (k + 1) = (pairL m).take (k + 1) := by
  rw [List.take_succ_eq_append_getElem (by simpa [pairL] using h), List.take_succ_eq_append_getElem (by simpa [pairL] using h'), h0]
  simp [pairL, PhaseR.pair, h1, h2]
theorem pair_ne {l m : List PhaseR} {k : Nat} (h : k < l.length) (h' : k < m.length) (he : ¬ (l[k].lit = m[k].lit ∧ l[k].tenths = m[k].tenths)) : decide (pairL l = pairL m) = false := by
  refine decide_eq_false fun e => he ?_
  have h1 : (pairL l)[k]'(by simpa [pairL] using h) = (pairL m)[k]'(by simpa [pairL] using h') := by simp only [e]
  simpa [pairL, PhaseR.pair] using h1
theorem pair_end {l m : List PhaseR} (hl : l.length = m.length) (h0 : (pairL l).take l.length = (pairL m).take l.length) : decide (pairL l = pairL m) = true := by
  refine decide_eq_true ?_
  rw [List.take_of_length_le (by simp [pairL]), List.take_of_length_le (by simp [pairL, hl])] at h0
  exact h0
theorem pair_len {l m : List PhaseR} (hl : ¬ l.length = m.length) : decide (pairL l = pairL m) = false := by
  refine decide_eq_false fun e => hl ?_
  have := congrArg List.length e
  simpa [pairL] using this
theorem LightC.lits {v : LightC} (h : v.ok = true) {k : Nat} (hk : k < v.ph.length) : v.ph[k].lit = ((k : Int) % 2 == 0) := by
  simp only [LightC.ok, Bool.and_eq_true] at h
  have := allUpto_iff.1 h.2 k hk
  simp only [phStep, hk, ↓reduceDIte, Bool.and_eq_true, beq_iff_eq] at this
  exact this.1
/-- Good lights with the same tenths have the same phases. -/
theorem pair_ten {a b : LightC} (ha : a.ok = true) (hb : b.ok = true) : decide (pairL a.ph = pairL b.ph) = alikeB a b := by
  unfold alikeB
  by_cases h : tenOf a.ph = tenOf b.ph
  · rw [decide_eq_true h]
    refine decide_eq_true ?_
    have hl : a.ph.length = b.ph.length := by simpa [tenOf] using congrArg List.length h
    refine List.ext_getElem (by simp [pairL, hl]) fun k h1 h2 => ?_
    have k1 : k < a.ph.length := by simpa [pairL] using h1
    have k2 : k < b.ph.length := by simpa [pairL] using h2
    have ht : (tenOf a.ph)[k]'(by simpa [tenOf] using k1) = (tenOf b.ph)[k]'(by simpa [tenOf] using k2) := by simp only [h]
    simp only [tenOf, List.getElem_map] at ht
    simp only [pairL, List.getElem_map, PhaseR.pair, ht, LightC.lits ha k1, LightC.lits hb k2]
  · rw [decide_eq_false h]
    refine decide_eq_false fun e => h ?_
    have e2 := congrArg (List.map Prod.snd) e
    simp only [pairL, List.map_map] at e2
    exact e2
set_option maxHeartbeats 2000000 in
theorem i_EqualPh (l m : List PhaseR) (A B : Option Addr) (c d : Nat) (o : Bool) (ho : decide (pairL l = pairL m) = o) (w : World) (hA : Sl w 2 PhaseR.row A l) (hB : Sl w 2 PhaseR.row B m) (hl : l.length ≤ maxLen) (hm : m.length ≤ maxLen) :
    Calls Try.prog 35 #[.slice A l.length c, .slice B m.length d] w fun e w' => e = .returned (.bool o) ∧ ∃ g, w' = plus w g := by
  unfold maxLen at hl hm
  have HO := hid ho
  clear ho
  by_cases hn : l.length = m.length
  · have HN := hid hn
    have hn1 : ((l.length : Int) != (m.length : Int)) = false := by simp [hn]
    clear hn
    go_enter Try.func35, Try.ntmps35
    go_wp2_with fail
    go_loopw [13] (fun i wr => ∃ k : Nat, k ≤ l.length ∧ i = .int .i64 k ∧ Hid ((pairL l).take k = (pairL m).take k) ∧ (∃ g, wr = plus w g)) (fun i _ => l.length - (intOf i).toNat)
    case atStart => exact ⟨0, Nat.zero_le _, rfl, hid rfl, by (repeat (first | with_reducible exact grew_refl _ | with_reducible assumption | with_reducible refine grew_split ?_ | with_reducible refine grew_mk ?_ | with_reducible refine grew_plus ?_ | with_reducible refine grew_alloc ?_ | with_reducible refine grew_drew ?_ | (with_reducible refine grew_set ?_ (by first | exact Nat.le_refl _ | omega | (simp [go_sem]; done) | (simp [go_sem]; omega)))))⟩
    case round =>
      obtain ⟨k, hk, rfl, HT, g, rfl⟩ := hrel
      by_cases hlt : k < l.length
      · have hlt2 : k < m.length := by have := HN.out; omega
        obtain ⟨b, off, rfl, hb, hc⟩ := hA.at_ hlt
        obtain ⟨b', off', rfl, hb', hc'⟩ := hB.at_ hlt2
        obtain ⟨hc0, hc1⟩ := cells2 hc hlt
        obtain ⟨hd0, hd1⟩ := cells2 hc' hlt2
        clear hc hc' hA hB
        have hk2 : (k : Int) < (m.length : Int) := by omega
        by_cases he : l[k].lit = m[k].lit ∧ l[k].tenths = m[k].tenths
        · have he1 : (l[k].lit == m[k].lit) = true := by simp [he.1]
          have he2 : (l[k].tenths == m[k].tenths) = true := by simp [he.2]
          have HE := hid he
          clear he
          go_wp2_with fail
          (refine wp_region_calm (by kernel_rfl) (by kernel_rfl) ?_; (repeat' (first | go_big_quiet_step (fail) | (refine wpQuiet_step (fun K hK => ?_); go_simp; go_ite <;> go_simp <;> (first | (refine hK _ ?_; clear hK K) | (apply Exists.intro; refine ⟨fun _ => ?_, hK _ ?_⟩; (fail); clear hK K))))); all_goals (refine wpQuiet_nil ?_; intro _ hw'; obtain ⟨gq, hw''⟩ := hw'; subst hw''))
          go_wp2_with fail
          go_roundw
          case rel => exact ⟨k + 1, by omega, by go_num, hid (pair_step hlt hlt2 HT.out HE.out.1 HE.out.2), by (repeat (first | with_reducible exact grew_refl _ | with_reducible assumption | with_reducible refine grew_split ?_ | with_reducible refine grew_mk ?_ | with_reducible refine grew_plus ?_ | with_reducible refine grew_alloc ?_ | with_reducible refine grew_drew ?_ | (with_reducible refine grew_set ?_ (by first | exact Nat.le_refl _ | omega | (simp [go_sem]; done) | (simp [go_sem]; omega)))))⟩
          case measure => simp [intOf]; omega
        · have HE := hid (pair_ne hlt hlt2 he)
          rcases (show (l[k].lit == m[k].lit) = false ∨ ((l[k].lit == m[k].lit) = true ∧ (l[k].tenths == m[k].tenths) = false) by
            by_cases h1 : l[k].lit = m[k].lit
            · exact .inr ⟨by simp [h1], by simpa [h1] using he⟩
            · exact .inl (by simpa using h1)) with h1 | ⟨h1, h2⟩
          all_goals
            clear he
            go_wp2_with fail
            (refine wp_region_calm (by kernel_rfl) (by kernel_rfl) ?_; (repeat' (first | go_big_quiet_step (fail) | (refine wpQuiet_step (fun K hK => ?_); go_simp; go_ite <;> go_simp <;> (first | (refine hK _ ?_; clear hK K) | (apply Exists.intro; refine ⟨fun _ => ?_, hK _ ?_⟩; (fail); clear hK K))))); all_goals (refine wpQuiet_nil ?_; intro _ hw'; obtain ⟨gq, hw''⟩ := hw'; subst hw''))
            go_wp2_with fail
            go_ret
            exact ⟨ret_bool (by rw [← HO.out, HE.out]), by (repeat (first | with_reducible exact grew_refl _ | with_reducible assumption | with_reducible refine grew_split ?_ | with_reducible refine grew_mk ?_ | with_reducible refine grew_plus ?_ | with_reducible refine grew_alloc ?_ | with_reducible refine grew_drew ?_ | (with_reducible refine grew_set ?_ (by first | exact Nat.le_refl _ | omega | (simp [go_sem]; done) | (simp [go_sem]; omega)))))⟩
      · obtain rfl : k = l.length := by omega
        clear hA hB
        go_wp2_with fail
        go_ret
        exact ⟨ret_bool (by rw [← HO.out, pair_end HN.out HT.out]), by (repeat (first | with_reducible exact grew_refl _ | with_reducible assumption | with_reducible refine grew_split ?_ | with_reducible refine grew_mk ?_ | with_reducible refine grew_plus ?_ | with_reducible refine grew_alloc ?_ | with_reducible refine grew_drew ?_ | (with_reducible refine grew_set ?_ (by first | exact Nat.le_refl _ | omega | (simp [go_sem]; done) | (simp [go_sem]; omega)))))⟩
  · have HN := hid (pair_len hn)
    have hn1 : ((l.length : Int) != (m.length : Int)) = true := by simp; omega
    clear hn
    go_enter Try.func35, Try.ntmps35
    go_wp2_with fail
    go_ret
    exact ⟨ret_bool (by rw [← HO.out, HN.out]), by (repeat (first | with_reducible exact grew_refl _ | with_reducible assumption | with_reducible refine grew_split ?_ | with_reducible refine grew_mk ?_ | with_reducible refine grew_plus ?_ | with_reducible refine grew_alloc ?_ | with_reducible refine grew_drew ?_ | (with_reducible refine grew_set ?_ (by first | exact Nat.le_refl _ | omega | (simp [go_sem]; done) | (simp [go_sem]; omega)))))⟩
end Go.Proofs.Ytjlaidjogladaaa
