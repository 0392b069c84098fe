/- Which pairs of lights look alike: the reference. -/
import Derived.Test.YtjlaidjogladaaaLp1
import Derived.Test.YtjlaidjogladaaaLk4
namespace Go.Proofs.Ytjlaidjogladaaa
open Go.RowKit

theorem ten_step {l m : List PhaseR} {k : Nat} (h : k < l.length) (h' : k < m.length) (h0 : (tenOf l).take k = (tenOf m).take k) (he : l[k].tenths = m[k].tenths) : (tenOf l).take (k + 1) = (tenOf m).take (k + 1) := by
  rw [List.take_succ_eq_append_getElem (by simpa [tenOf] using h), List.take_succ_eq_append_getElem (by simpa [tenOf] using h'), h0]
  simp [tenOf, he]
theorem ten_ne {l m : List PhaseR} {k : Nat} (h : k < l.length) (h' : k < m.length) (he : ¬ l[k].tenths = m[k].tenths) : decide (tenOf l = tenOf m) = false := by
  refine decide_eq_false fun e => he ?_
  have h1 : (tenOf l)[k]'(by simpa [tenOf] using h) = (tenOf m)[k]'(by simpa [tenOf] using h') := by simp only [e]
  simpa [tenOf] using h1
theorem ten_end {l m : List PhaseR} (hl : l.length = m.length) (h0 : (tenOf l).take l.length = (tenOf m).take l.length) : decide (tenOf l = tenOf m) = true := by
  refine decide_eq_true ?_
  rw [List.take_of_length_le (by simp [tenOf]), List.take_of_length_le (by simp [tenOf, hl])] at h0
  exact h0
theorem ten_len {l m : List PhaseR} (hl : ¬ l.length = m.length) : decide (tenOf l = tenOf m) = false := by
  refine decide_eq_false fun e => hl ?_
  have := congrArg List.length e
  simpa [tenOf] using this
set_option maxHeartbeats 2000000 in
theorem s_l24Alike (v u : LightV) (o : Bool) (ho : alikeB v.core u.core = o) (w : World) (hv : v.At w) (hu : u.At w) :
    Calls Try.prog 32 #[v.val, u.val] w fun e w' => e = .returned (.bool o) ∧ ∃ g, w' = plus w g := by
  unfold alikeB at ho
  have HO := hid ho
  clear ho
  obtain ⟨⟨id, nm, x, y, rg, ph⟩, A, c⟩ := v
  obtain ⟨⟨id2, nm2, x2, y2, rg2, ph2⟩, A2, c2⟩ := u
  have hp := hv.ph
  have hq := hu.ph
  have hl := hv.len
  have hl2 := hu.len
  simp only at hp hq hl hl2 HO
  unfold maxLen at hl hl2
  clear hv hu
  by_cases hn : ph.length = ph2.length
  · have HN := hid hn
    have hn1 : ((ph.length : Int) != (ph2.length : Int)) = false := by simp [hn]
    clear hn
    go_enter Try.func32, Try.ntmps32
    go_wp2_with fail
    go_loopw [5] (fun i wr => ∃ k : Nat, k ≤ ph.length ∧ i = .int .i64 k ∧ Hid ((tenOf ph).take k = (tenOf ph2).take k) ∧ (∃ g, wr = plus ((w.alloc _).alloc _) g)) (fun i _ => ph.length - (intOf i).toNat)
    case atStart => exact ⟨0, Nat.zero_le _, rfl, hid rfl, by (repeat (first | with_reducible exact grew_refl _ | with_reducible assumption | with_reducible refine grew_split ?_ | with_reducible refine grew_mk ?_ | with_reducible refine grew_plus ?_ | with_reducible refine grew_alloc ?_ | with_reducible refine grew_drew ?_ | (with_reducible refine grew_set ?_ (by first | exact Nat.le_refl _ | omega | (simp [go_sem]; done) | (simp [go_sem]; omega)))))⟩
    case round =>
      obtain ⟨k, hk, rfl, HT, g, rfl⟩ := hrel
      by_cases hlt : k < ph.length
      · have hlt2 : k < ph2.length := by have := HN.out; omega
        obtain ⟨b, off, rfl, hb, hc⟩ := hp.at_ hlt
        obtain ⟨b', off', rfl, hb', hc'⟩ := hq.at_ hlt2
        obtain ⟨hc0, hc1⟩ := cells2 hc hlt
        obtain ⟨hd0, hd1⟩ := cells2 hc' hlt2
        clear hc hc' hp hq
        by_cases he : ph[k].tenths = ph2[k].tenths
        · have he1 : (ph[k].tenths != ph2[k].tenths) = false := by simp [he]
          have HE := hid he
          clear he
          go_wp2_with fail
          (refine wp_region_calm (by kernel_rfl) (by kernel_rfl) ?_; (repeat' (first | go_big_quiet_step (fail) | (refine wpQuiet_step (fun K hK => ?_); go_simp; go_ite <;> go_simp <;> (first | (refine hK _ ?_; clear hK K) | (apply Exists.intro; refine ⟨fun _ => ?_, hK _ ?_⟩; (fail); clear hK K))))); all_goals (refine wpQuiet_nil ?_; intro _ hw'; obtain ⟨gq, hw''⟩ := hw'; subst hw''))
          go_wp2_with fail
          go_roundw
          case rel => exact ⟨k + 1, by omega, by go_num, hid (ten_step hlt hlt2 HT.out HE.out), by (repeat (first | with_reducible exact grew_refl _ | with_reducible assumption | with_reducible refine grew_split ?_ | with_reducible refine grew_mk ?_ | with_reducible refine grew_plus ?_ | with_reducible refine grew_alloc ?_ | with_reducible refine grew_drew ?_ | (with_reducible refine grew_set ?_ (by first | exact Nat.le_refl _ | omega | (simp [go_sem]; done) | (simp [go_sem]; omega)))))⟩
          case measure => simp [intOf]; omega
        · have he1 : (ph[k].tenths != ph2[k].tenths) = true := by simp [he]
          have HE := hid (ten_ne hlt hlt2 he)
          clear he
          go_wp2_with fail
          (refine wp_region_calm (by kernel_rfl) (by kernel_rfl) ?_; (repeat' (first | go_big_quiet_step (fail) | (refine wpQuiet_step (fun K hK => ?_); go_simp; go_ite <;> go_simp <;> (first | (refine hK _ ?_; clear hK K) | (apply Exists.intro; refine ⟨fun _ => ?_, hK _ ?_⟩; (fail); clear hK K))))); all_goals (refine wpQuiet_nil ?_; intro _ hw'; obtain ⟨gq, hw''⟩ := hw'; subst hw''))
          go_wp2_with fail
          go_ret
          exact ⟨ret_bool (by rw [← HO.out, HE.out]), by (repeat (first | with_reducible exact grew_refl _ | with_reducible assumption | with_reducible refine grew_split ?_ | with_reducible refine grew_mk ?_ | with_reducible refine grew_plus ?_ | with_reducible refine grew_alloc ?_ | with_reducible refine grew_drew ?_ | (with_reducible refine grew_set ?_ (by first | exact Nat.le_refl _ | omega | (simp [go_sem]; done) | (simp [go_sem]; omega)))))⟩
      · obtain rfl : k = ph.length := by omega
        clear hp hq
        go_wp2_with fail
        go_ret
        exact ⟨ret_bool (by rw [← HO.out, ten_end HN.out HT.out]), by (repeat (first | with_reducible exact grew_refl _ | with_reducible assumption | with_reducible refine grew_split ?_ | with_reducible refine grew_mk ?_ | with_reducible refine grew_plus ?_ | with_reducible refine grew_alloc ?_ | with_reducible refine grew_drew ?_ | (with_reducible refine grew_set ?_ (by first | exact Nat.le_refl _ | omega | (simp [go_sem]; done) | (simp [go_sem]; omega)))))⟩
  · have HN := hid (ten_len hn)
    have hn1 : ((ph.length : Int) != (ph2.length : Int)) = true := by simp; omega
    clear hn
    go_enter Try.func32, Try.ntmps32
    go_wp2_with fail
    go_ret
    exact ⟨ret_bool (by rw [← HO.out, HN.out]), by (repeat (first | with_reducible exact grew_refl _ | with_reducible assumption | with_reducible refine grew_split ?_ | with_reducible refine grew_mk ?_ | with_reducible refine grew_plus ?_ | with_reducible refine grew_alloc ?_ | with_reducible refine grew_drew ?_ | (with_reducible refine grew_set ?_ (by first | exact Nat.le_refl _ | omega | (simp [go_sem]; done) | (simp [go_sem]; omega)))))⟩
end Go.Proofs.Ytjlaidjogladaaa
