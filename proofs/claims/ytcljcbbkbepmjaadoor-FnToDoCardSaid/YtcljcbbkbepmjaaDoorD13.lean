/- What a valid step makes of a day, in the reference: beginning a line. -/
import Derived.Test.YtcljcbbkbepmjaaDoorD11
import Derived.Test.YtcljcbbkbepmjaaDoorD3
namespace Go.Proofs.YtcljcbbkbepmjaaDoor
open Go.RowKit

set_option maxHeartbeats 4000000 in
set_option maxRecDepth 10000 in
theorem s_make4 (minute state : Int) (lines : List LineR) (line since cast fuel : Int) (A : Option Addr) (c : Nat) (x : Int) (p : DayC × Bool) (hp : stepF ⟨minute, state, lines, line, since, cast, fuel⟩ 4 x = p) (w : World) (hok : DayC.ok ⟨minute, state, lines, line, since, cast, fuel⟩ = true) (hs : stepB ⟨minute, state, lines, line, since, cast, fuel⟩ 4 x = true) (hv : DayV.At w ⟨⟨minute, state, lines, line, since, cast, fuel⟩, A, c⟩) :
    Calls Tryd.prog 59 #[DayV.val ⟨⟨minute, state, lines, line, since, cast, fuel⟩, A, c⟩, .agg #[.int .i64 4, .int .i64 x]] w fun e w' => MakePost w.heap.size p e w' ∧ ∃ g, w' = plus w g := by
  have HV := hid hv
  have HK := hid hok
  obtain ⟨b1, b2, b3, b4, b5, b6, b7, b8, b9, b10, b11, b12, b13, b14⟩ := DayC.bounds hok
  clear hv hok
  simp only at b1 b2 b3 b4 b5 b6 b7 b8 b9 b10 b11 b12 b13 b14 hp
  have HP := hid hp
  clear hp
  go_enter Tryd.func59, Tryd.ntmps59
  go_wp2_with fail
  refine (s_l25Own ⟨⟨minute, state, lines, line, since, cast, fuel⟩, A, c⟩ _ (HV.out.grew (by (repeat (first | with_reducible exact grew_refl _ | with_reducible assumption | with_reducible refine grew_split ?_ | with_reducible refine grew_mk ?_ | with_reducible refine grew_plus ?_ | with_reducible refine grew_alloc ?_ | with_reducible refine grew_drew ?_ | (with_reducible refine grew_set ?_ (by first | exact Nat.le_refl _ | omega | (simp [go_sem]; done) | (simp [go_sem]; omega))))))) (by simp only; omega) b6).mono ?_
  rintro e w' ⟨⟨A1, d1, rfl, hO1⟩, gx1, rfl⟩
  have HO1 := hid hO1
  clear hO1
  have hs' : 1 ≤ x ∧ x ≤ lines.length := by simpa [stepB, inB] using hs
  obtain ⟨x0, x1⟩ := hs'
  clear hs
  by_cases h0 : state = 1
  · subst h0
    cases hcb : castB ⟨minute, 1, lines, line, since, cast, fuel⟩
    · have HCB := hid hcb
      have HF := hid (stepF_none (v := ⟨minute, 1, lines, line, since, cast, fuel⟩) (k := 4) (x := x) (by simp only [candF]; grind))
      clear hcb
      go_wp2_with (go_at_call 28; refine (s_l25Cast ⟨⟨minute, 1, lines, line, since, cast, fuel⟩, A, c⟩ _ HCB.out _ HK.out).mono ?_; (rintro e w' ⟨rfl, gx, rfl⟩))
      (go_region_with fail; all_goals (go_wp2_with fail; ((obtain rfl := HP.out.symm.trans HF.out; refine bodyPost_ret (v := .tuple #[DayV.val ⟨⟨minute, 2, lines, x, minute, cast, fuel⟩, A1, d1⟩, .bool false]) (by simp [results, Tryd.results59, go_sem]) rfl ?_); exact ⟨⟨⟨minute, 2, lines, x, minute, cast, fuel⟩, A1, d1, rfl, by intro h; cases h⟩, by (repeat (first | with_reducible exact grew_refl _ | with_reducible assumption | with_reducible refine grew_split ?_ | with_reducible refine grew_mk ?_ | with_reducible refine grew_plus ?_ | with_reducible refine grew_alloc ?_ | with_reducible refine grew_drew ?_ | (with_reducible refine grew_set ?_ (by first | exact Nat.le_refl _ | omega | (simp [go_sem]; done) | (simp [go_sem]; omega)))))⟩)))
    · have HCB := hid hcb
      have HC := hid (show candF ⟨minute, 1, lines, line, since, cast, fuel⟩ 4 x = some ⟨minute, 2, lines, x, minute, cast, fuel⟩ by simp [candF, hcb])
      clear hcb
      go_wp2_with (go_at_call 28; refine (s_l25Cast ⟨⟨minute, 1, lines, line, since, cast, fuel⟩, A, c⟩ _ HCB.out _ HK.out).mono ?_; (rintro e w' ⟨rfl, gx, rfl⟩))
      (cases hcd : DayC.ok ⟨minute, 2, lines, x, minute, cast, fuel⟩ with | false => (have HF := hid (stepF_bad HC.out hcd); have HD := hid hcd; clear hcd; go_region_with (go_at_call 22; refine (s_l25Good ⟨⟨minute, 2, lines, x, minute, cast, fuel⟩, A1, d1⟩ _ HD.out _ ⟨HO1.out.sl.grew (by (repeat (first | with_reducible exact grew_refl _ | with_reducible assumption | with_reducible refine grew_split ?_ | with_reducible refine grew_mk ?_ | with_reducible refine grew_plus ?_ | with_reducible refine grew_alloc ?_ | with_reducible refine grew_drew ?_ | (with_reducible refine grew_set ?_ (by first | exact Nat.le_refl _ | omega | (simp [go_sem]; done) | (simp [go_sem]; omega)))))), by simp only; unfold maxLen; omega⟩).mono ?_; (rintro e w' ⟨rfl, gx, rfl⟩)); all_goals (go_wp2_with fail; ((obtain rfl := HP.out.symm.trans HF.out; refine bodyPost_ret (v := .tuple #[DayV.val ⟨⟨minute, 2, lines, x, minute, cast, fuel⟩, A1, d1⟩, .bool false]) (by simp [results, Tryd.results59, go_sem]) rfl ?_); exact ⟨⟨⟨minute, 2, lines, x, minute, cast, fuel⟩, A1, d1, rfl, by intro h; cases h⟩, by (repeat (first | with_reducible exact grew_refl _ | with_reducible assumption | with_reducible refine grew_split ?_ | with_reducible refine grew_mk ?_ | with_reducible refine grew_plus ?_ | with_reducible refine grew_alloc ?_ | with_reducible refine grew_drew ?_ | (with_reducible refine grew_set ?_ (by first | exact Nat.le_refl _ | omega | (simp [go_sem]; done) | (simp [go_sem]; omega)))))⟩))) | true => (have HF := hid (stepF_good HC.out hcd); have HD := hid hcd; clear hcd; go_region_with (go_at_call 22; refine (s_l25Good ⟨⟨minute, 2, lines, x, minute, cast, fuel⟩, A1, d1⟩ _ HD.out _ ⟨HO1.out.sl.grew (by (repeat (first | with_reducible exact grew_refl _ | with_reducible assumption | with_reducible refine grew_split ?_ | with_reducible refine grew_mk ?_ | with_reducible refine grew_plus ?_ | with_reducible refine grew_alloc ?_ | with_reducible refine grew_drew ?_ | (with_reducible refine grew_set ?_ (by first | exact Nat.le_refl _ | omega | (simp [go_sem]; done) | (simp [go_sem]; omega)))))), by simp only; unfold maxLen; omega⟩).mono ?_; (rintro e w' ⟨rfl, gx, rfl⟩)); all_goals (go_wp2_with fail; ((obtain rfl := HP.out.symm.trans HF.out; refine bodyPost_ret (v := .tuple #[DayV.val ⟨⟨minute, 2, lines, x, minute, cast, fuel⟩, A1, d1⟩, .bool true]) (by simp [results, Tryd.results59, go_sem]) rfl ?_); exact ⟨⟨⟨minute, 2, lines, x, minute, cast, fuel⟩, A1, d1, rfl, fun _ => ⟨rfl, (OwnF.grew (OwnF.base HO1.out (Nat.le_refl _) (by simp)) (grew_plus (grew_alloc (grew_refl _)))).less (by simp; omega)⟩⟩, by (repeat (first | with_reducible exact grew_refl _ | with_reducible assumption | with_reducible refine grew_split ?_ | with_reducible refine grew_mk ?_ | with_reducible refine grew_plus ?_ | with_reducible refine grew_alloc ?_ | with_reducible refine grew_drew ?_ | (with_reducible refine grew_set ?_ (by first | exact Nat.le_refl _ | omega | (simp [go_sem]; done) | (simp [go_sem]; omega)))))⟩))))
  · have HF := hid (stepF_none (v := ⟨minute, state, lines, line, since, cast, fuel⟩) (k := 4) (x := x) (by simp only [candF]; grind))
    have h0' : (state == 1) = false := by simp [h0]
    go_wp2_with fail
    (go_region_with fail; all_goals (go_wp2_with fail; ((obtain rfl := HP.out.symm.trans HF.out; refine bodyPost_ret (v := .tuple #[DayV.val ⟨⟨minute, 2, lines, x, minute, cast, fuel⟩, A1, d1⟩, .bool false]) (by simp [results, Tryd.results59, go_sem]) rfl ?_); exact ⟨⟨⟨minute, 2, lines, x, minute, cast, fuel⟩, A1, d1, rfl, by intro h; cases h⟩, by (repeat (first | with_reducible exact grew_refl _ | with_reducible assumption | with_reducible refine grew_split ?_ | with_reducible refine grew_mk ?_ | with_reducible refine grew_plus ?_ | with_reducible refine grew_alloc ?_ | with_reducible refine grew_drew ?_ | (with_reducible refine grew_set ?_ (by first | exact Nat.le_refl _ | omega | (simp [go_sem]; done) | (simp [go_sem]; omega)))))⟩)))
end Go.Proofs.YtcljcbbkbepmjaaDoor
