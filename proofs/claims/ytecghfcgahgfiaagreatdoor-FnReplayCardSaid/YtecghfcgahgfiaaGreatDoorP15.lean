import Derived.Test.YtecghfcgahgfiaaGreatDoorP14
import Derived.Test.YtecghfcgahgfiaaGreatDoorP11
/- What a valid step makes of a day, in the reference: leaving, casting, returning. -/
namespace Go.Proofs.YtecghfcgahgfiaaGreatDoor
open Go.RowKit

set_option maxHeartbeats 4000000 in
set_option maxRecDepth 10000 in
theorem s_make2 (minute state : Int) (lines : List LineR) (line since cast fuel : Int) (A : Option Addr) (c : Nat) (x : Int) (p : DayC × Bool) (hp : stepF ⟨minute, state, lines, line, since, cast, fuel⟩ 2 x = p) (w : World) (hok : DayC.ok ⟨minute, state, lines, line, since, cast, fuel⟩ = true) (hs : stepB ⟨minute, state, lines, line, since, cast, fuel⟩ 2 x = true) (hv : DayV.At w ⟨⟨minute, state, lines, line, since, cast, fuel⟩, A, c⟩) :
    Calls Tryz.prog 112 #[DayV.val ⟨⟨minute, state, lines, line, since, cast, fuel⟩, A, c⟩, .agg #[.int .i64 2, .int .i64 x]] w fun e w' => MakePost w.heap.size p e w' ∧ ∃ g, w' = plus w g := by
  have HV := hid hv
  have HK := hid hok
  obtain ⟨b1, b2, b3, b4, b5, b6, b7, b8, b9, b10, b11, b12, b13, b14⟩ := DayC.bounds hok
  clear hv hok
  simp only at b1 b2 b3 b4 b5 b6 b7 b8 b9 b10 b11 b12 b13 b14 hp
  have HP := hid hp
  clear hp
  go_enter Tryz.func112, Tryz.ntmps112
  go_wp2_with fail
  refine (s_l25Own ⟨⟨minute, state, lines, line, since, cast, fuel⟩, A, c⟩ _ (HV.out.grew (by (repeat (first | with_reducible exact grew_refl _ | with_reducible assumption | with_reducible refine grew_split ?_ | with_reducible refine grew_mk ?_ | with_reducible refine grew_plus ?_ | with_reducible refine grew_alloc ?_ | with_reducible refine grew_drew ?_ | (with_reducible refine grew_set ?_ (by first | exact Nat.le_refl _ | omega | (simp [go_sem]; done) | (simp [go_sem]; omega))))))) (by simp only; omega) b6).mono ?_
  rintro e w' ⟨⟨A1, d1, rfl, hO1⟩, gx1, rfl⟩
  have HO1 := hid hO1
  clear hO1
  obtain rfl : x = 0 := by simp [stepB, inB] at hs; exact hs
  clear hs
  by_cases h0 : state = 0 ∧ 100 ≤ fuel
  · obtain ⟨rfl, hf⟩ := h0
    have HC := hid (show candF ⟨minute, 0, lines, line, since, cast, fuel⟩ 2 0 = some ⟨minute, 1, lines, line, since, cast, fuel⟩ by simp [candF, hf])
    go_wp2_with fail
    (cases hcd : DayC.ok ⟨minute, 1, lines, line, since, cast, fuel⟩ with | false => (have HF := hid (stepF_bad HC.out hcd); have HD := hid hcd; clear hcd; go_region_with (go_at_call 75; refine (s_l25Good ⟨⟨minute, 1, lines, line, since, cast, fuel⟩, A1, d1⟩ _ HD.out _ ⟨HO1.out.sl.grew (by (repeat (first | with_reducible exact grew_refl _ | with_reducible assumption | with_reducible refine grew_split ?_ | with_reducible refine grew_mk ?_ | with_reducible refine grew_plus ?_ | with_reducible refine grew_alloc ?_ | with_reducible refine grew_drew ?_ | (with_reducible refine grew_set ?_ (by first | exact Nat.le_refl _ | omega | (simp [go_sem]; done) | (simp [go_sem]; omega)))))), by simp only; unfold maxLen; omega⟩).mono ?_; (rintro e w' ⟨rfl, gx, rfl⟩)); all_goals (go_wp2_with fail; ((obtain rfl := HP.out.symm.trans HF.out; refine bodyPost_ret (v := .tuple #[DayV.val ⟨⟨minute, 1, lines, line, since, cast, fuel⟩, A1, d1⟩, .bool false]) (by simp [results, Tryz.results112, go_sem]) rfl ?_); exact ⟨⟨⟨minute, 1, lines, line, since, cast, fuel⟩, A1, d1, rfl, by intro h; cases h⟩, by (repeat (first | with_reducible exact grew_refl _ | with_reducible assumption | with_reducible refine grew_split ?_ | with_reducible refine grew_mk ?_ | with_reducible refine grew_plus ?_ | with_reducible refine grew_alloc ?_ | with_reducible refine grew_drew ?_ | (with_reducible refine grew_set ?_ (by first | exact Nat.le_refl _ | omega | (simp [go_sem]; done) | (simp [go_sem]; omega)))))⟩))) | true => (have HF := hid (stepF_good HC.out hcd); have HD := hid hcd; clear hcd; go_region_with (go_at_call 75; refine (s_l25Good ⟨⟨minute, 1, lines, line, since, cast, fuel⟩, A1, d1⟩ _ HD.out _ ⟨HO1.out.sl.grew (by (repeat (first | with_reducible exact grew_refl _ | with_reducible assumption | with_reducible refine grew_split ?_ | with_reducible refine grew_mk ?_ | with_reducible refine grew_plus ?_ | with_reducible refine grew_alloc ?_ | with_reducible refine grew_drew ?_ | (with_reducible refine grew_set ?_ (by first | exact Nat.le_refl _ | omega | (simp [go_sem]; done) | (simp [go_sem]; omega)))))), by simp only; unfold maxLen; omega⟩).mono ?_; (rintro e w' ⟨rfl, gx, rfl⟩)); all_goals (go_wp2_with fail; ((obtain rfl := HP.out.symm.trans HF.out; refine bodyPost_ret (v := .tuple #[DayV.val ⟨⟨minute, 1, lines, line, since, cast, fuel⟩, A1, d1⟩, .bool true]) (by simp [results, Tryz.results112, go_sem]) rfl ?_); exact ⟨⟨⟨minute, 1, lines, line, since, cast, fuel⟩, A1, d1, rfl, fun _ => ⟨rfl, (OwnF.grew (OwnF.base HO1.out (Nat.le_refl _) (by simp)) (grew_plus (grew_alloc (grew_refl _)))).less (by simp; omega)⟩⟩, by (repeat (first | with_reducible exact grew_refl _ | with_reducible assumption | with_reducible refine grew_split ?_ | with_reducible refine grew_mk ?_ | with_reducible refine grew_plus ?_ | with_reducible refine grew_alloc ?_ | with_reducible refine grew_drew ?_ | (with_reducible refine grew_set ?_ (by first | exact Nat.le_refl _ | omega | (simp [go_sem]; done) | (simp [go_sem]; omega)))))⟩))))
  · have HF := hid (stepF_none (v := ⟨minute, state, lines, line, since, cast, fuel⟩) (k := 2) (x := 0) (by simp only [candF]; grind))
    go_wp2_with fail
    all_goals first | (exfalso; omega) | (go_region_with fail; all_goals (go_wp2_with fail; ((obtain rfl := HP.out.symm.trans HF.out; refine bodyPost_ret (v := .tuple #[DayV.val ⟨⟨minute, 1, lines, line, since, cast, fuel⟩, A1, d1⟩, .bool false]) (by simp [results, Tryz.results112, go_sem]) rfl ?_); exact ⟨⟨⟨minute, 1, lines, line, since, cast, fuel⟩, A1, d1, rfl, by intro h; cases h⟩, by (repeat (first | with_reducible exact grew_refl _ | with_reducible assumption | with_reducible refine grew_split ?_ | with_reducible refine grew_mk ?_ | with_reducible refine grew_plus ?_ | with_reducible refine grew_alloc ?_ | with_reducible refine grew_drew ?_ | (with_reducible refine grew_set ?_ (by first | exact Nat.le_refl _ | omega | (simp [go_sem]; done) | (simp [go_sem]; omega)))))⟩)))
set_option maxHeartbeats 4000000 in
set_option maxRecDepth 10000 in
theorem s_make3 (minute state : Int) (lines : List LineR) (line since cast fuel : Int) (A : Option Addr) (c : Nat) (x : Int) (p : DayC × Bool) (hp : stepF ⟨minute, state, lines, line, since, cast, fuel⟩ 3 x = p) (w : World) (hok : DayC.ok ⟨minute, state, lines, line, since, cast, fuel⟩ = true) (hs : stepB ⟨minute, state, lines, line, since, cast, fuel⟩ 3 x = true) (hv : DayV.At w ⟨⟨minute, state, lines, line, since, cast, fuel⟩, A, c⟩) :
    Calls Tryz.prog 112 #[DayV.val ⟨⟨minute, state, lines, line, since, cast, fuel⟩, A, c⟩, .agg #[.int .i64 3, .int .i64 x]] w fun e w' => MakePost w.heap.size p e w' ∧ ∃ g, w' = plus w g := by
  have HV := hid hv
  have HK := hid hok
  obtain ⟨b1, b2, b3, b4, b5, b6, b7, b8, b9, b10, b11, b12, b13, b14⟩ := DayC.bounds hok
  clear hv hok
  simp only at b1 b2 b3 b4 b5 b6 b7 b8 b9 b10 b11 b12 b13 b14 hp
  have HP := hid hp
  clear hp
  go_enter Tryz.func112, Tryz.ntmps112
  go_wp2_with fail
  refine (s_l25Own ⟨⟨minute, state, lines, line, since, cast, fuel⟩, A, c⟩ _ (HV.out.grew (by (repeat (first | with_reducible exact grew_refl _ | with_reducible assumption | with_reducible refine grew_split ?_ | with_reducible refine grew_mk ?_ | with_reducible refine grew_plus ?_ | with_reducible refine grew_alloc ?_ | with_reducible refine grew_drew ?_ | (with_reducible refine grew_set ?_ (by first | exact Nat.le_refl _ | omega | (simp [go_sem]; done) | (simp [go_sem]; omega))))))) (by simp only; omega) b6).mono ?_
  rintro e w' ⟨⟨A1, d1, rfl, hO1⟩, gx1, rfl⟩
  have HO1 := hid hO1
  clear hO1
  obtain rfl : x = 0 := by simp [stepB, inB] at hs; exact hs
  clear hs
  by_cases h0 : state = 1
  · subst h0
    have HC := hid (show candF ⟨minute, 1, lines, line, since, cast, fuel⟩ 3 0 = some ⟨minute, 1, lines, line, since, minute, fuel⟩ by simp [candF])
    go_wp2_with fail
    (cases hcd : DayC.ok ⟨minute, 1, lines, line, since, minute, fuel⟩ with | false => (have HF := hid (stepF_bad HC.out hcd); have HD := hid hcd; clear hcd; go_region_with (go_at_call 75; refine (s_l25Good ⟨⟨minute, 1, lines, line, since, minute, fuel⟩, A1, d1⟩ _ HD.out _ ⟨HO1.out.sl.grew (by (repeat (first | with_reducible exact grew_refl _ | with_reducible assumption | with_reducible refine grew_split ?_ | with_reducible refine grew_mk ?_ | with_reducible refine grew_plus ?_ | with_reducible refine grew_alloc ?_ | with_reducible refine grew_drew ?_ | (with_reducible refine grew_set ?_ (by first | exact Nat.le_refl _ | omega | (simp [go_sem]; done) | (simp [go_sem]; omega)))))), by simp only; unfold maxLen; omega⟩).mono ?_; (rintro e w' ⟨rfl, gx, rfl⟩)); all_goals (go_wp2_with fail; ((obtain rfl := HP.out.symm.trans HF.out; refine bodyPost_ret (v := .tuple #[DayV.val ⟨⟨minute, 1, lines, line, since, minute, fuel⟩, A1, d1⟩, .bool false]) (by simp [results, Tryz.results112, go_sem]) rfl ?_); exact ⟨⟨⟨minute, 1, lines, line, since, minute, fuel⟩, A1, d1, rfl, by intro h; cases h⟩, by (repeat (first | with_reducible exact grew_refl _ | with_reducible assumption | with_reducible refine grew_split ?_ | with_reducible refine grew_mk ?_ | with_reducible refine grew_plus ?_ | with_reducible refine grew_alloc ?_ | with_reducible refine grew_drew ?_ | (with_reducible refine grew_set ?_ (by first | exact Nat.le_refl _ | omega | (simp [go_sem]; done) | (simp [go_sem]; omega)))))⟩))) | true => (have HF := hid (stepF_good HC.out hcd); have HD := hid hcd; clear hcd; go_region_with (go_at_call 75; refine (s_l25Good ⟨⟨minute, 1, lines, line, since, minute, fuel⟩, A1, d1⟩ _ HD.out _ ⟨HO1.out.sl.grew (by (repeat (first | with_reducible exact grew_refl _ | with_reducible assumption | with_reducible refine grew_split ?_ | with_reducible refine grew_mk ?_ | with_reducible refine grew_plus ?_ | with_reducible refine grew_alloc ?_ | with_reducible refine grew_drew ?_ | (with_reducible refine grew_set ?_ (by first | exact Nat.le_refl _ | omega | (simp [go_sem]; done) | (simp [go_sem]; omega)))))), by simp only; unfold maxLen; omega⟩).mono ?_; (rintro e w' ⟨rfl, gx, rfl⟩)); all_goals (go_wp2_with fail; ((obtain rfl := HP.out.symm.trans HF.out; refine bodyPost_ret (v := .tuple #[DayV.val ⟨⟨minute, 1, lines, line, since, minute, fuel⟩, A1, d1⟩, .bool true]) (by simp [results, Tryz.results112, go_sem]) rfl ?_); exact ⟨⟨⟨minute, 1, lines, line, since, minute, fuel⟩, A1, d1, rfl, fun _ => ⟨rfl, (OwnF.grew (OwnF.base HO1.out (Nat.le_refl _) (by simp)) (grew_plus (grew_alloc (grew_refl _)))).less (by simp; omega)⟩⟩, by (repeat (first | with_reducible exact grew_refl _ | with_reducible assumption | with_reducible refine grew_split ?_ | with_reducible refine grew_mk ?_ | with_reducible refine grew_plus ?_ | with_reducible refine grew_alloc ?_ | with_reducible refine grew_drew ?_ | (with_reducible refine grew_set ?_ (by first | exact Nat.le_refl _ | omega | (simp [go_sem]; done) | (simp [go_sem]; omega)))))⟩))))
  · have HF := hid (stepF_none (v := ⟨minute, state, lines, line, since, cast, fuel⟩) (k := 3) (x := 0) (by simp only [candF]; grind))
    have h0' : (state == 1) = false := by simp [h0]
    go_wp2_with fail
    (go_region_with fail; all_goals (go_wp2_with fail; ((obtain rfl := HP.out.symm.trans HF.out; refine bodyPost_ret (v := .tuple #[DayV.val ⟨⟨minute, state, lines, line, since, minute, fuel⟩, A1, d1⟩, .bool false]) (by simp [results, Tryz.results112, go_sem]) rfl ?_); exact ⟨⟨⟨minute, state, lines, line, since, minute, fuel⟩, A1, d1, rfl, by intro h; cases h⟩, by (repeat (first | with_reducible exact grew_refl _ | with_reducible assumption | with_reducible refine grew_split ?_ | with_reducible refine grew_mk ?_ | with_reducible refine grew_plus ?_ | with_reducible refine grew_alloc ?_ | with_reducible refine grew_drew ?_ | (with_reducible refine grew_set ?_ (by first | exact Nat.le_refl _ | omega | (simp [go_sem]; done) | (simp [go_sem]; omega)))))⟩)))
set_option maxHeartbeats 4000000 in
set_option maxRecDepth 10000 in
theorem s_make7 (minute state : Int) (lines : List LineR) (line since cast fuel : Int) (A : Option Addr) (c : Nat) (x : Int) (p : DayC × Bool) (hp : stepF ⟨minute, state, lines, line, since, cast, fuel⟩ 7 x = p) (w : World) (hok : DayC.ok ⟨minute, state, lines, line, since, cast, fuel⟩ = true) (hs : stepB ⟨minute, state, lines, line, since, cast, fuel⟩ 7 x = true) (hv : DayV.At w ⟨⟨minute, state, lines, line, since, cast, fuel⟩, A, c⟩) :
    Calls Tryz.prog 112 #[DayV.val ⟨⟨minute, state, lines, line, since, cast, fuel⟩, A, c⟩, .agg #[.int .i64 7, .int .i64 x]] w fun e w' => MakePost w.heap.size p e w' ∧ ∃ g, w' = plus w g := by
  have HV := hid hv
  have HK := hid hok
  obtain ⟨b1, b2, b3, b4, b5, b6, b7, b8, b9, b10, b11, b12, b13, b14⟩ := DayC.bounds hok
  clear hv hok
  simp only at b1 b2 b3 b4 b5 b6 b7 b8 b9 b10 b11 b12 b13 b14 hp
  have HP := hid hp
  clear hp
  go_enter Tryz.func112, Tryz.ntmps112
  go_wp2_with fail
  refine (s_l25Own ⟨⟨minute, state, lines, line, since, cast, fuel⟩, A, c⟩ _ (HV.out.grew (by (repeat (first | with_reducible exact grew_refl _ | with_reducible assumption | with_reducible refine grew_split ?_ | with_reducible refine grew_mk ?_ | with_reducible refine grew_plus ?_ | with_reducible refine grew_alloc ?_ | with_reducible refine grew_drew ?_ | (with_reducible refine grew_set ?_ (by first | exact Nat.le_refl _ | omega | (simp [go_sem]; done) | (simp [go_sem]; omega))))))) (by simp only; omega) b6).mono ?_
  rintro e w' ⟨⟨A1, d1, rfl, hO1⟩, gx1, rfl⟩
  have HO1 := hid hO1
  clear hO1
  obtain rfl : x = 0 := by simp [stepB, inB] at hs; exact hs
  clear hs
  by_cases h0 : state = 1
  · subst h0
    have HC := hid (show candF ⟨minute, 1, lines, line, since, cast, fuel⟩ 7 0 = some ⟨minute, 0, lines, line, since, cast, fuel⟩ by simp [candF])
    go_wp2_with fail
    (cases hcd : DayC.ok ⟨minute, 0, lines, line, since, cast, fuel⟩ with | false => (have HF := hid (stepF_bad HC.out hcd); have HD := hid hcd; clear hcd; go_region_with (go_at_call 75; refine (s_l25Good ⟨⟨minute, 0, lines, line, since, cast, fuel⟩, A1, d1⟩ _ HD.out _ ⟨HO1.out.sl.grew (by (repeat (first | with_reducible exact grew_refl _ | with_reducible assumption | with_reducible refine grew_split ?_ | with_reducible refine grew_mk ?_ | with_reducible refine grew_plus ?_ | with_reducible refine grew_alloc ?_ | with_reducible refine grew_drew ?_ | (with_reducible refine grew_set ?_ (by first | exact Nat.le_refl _ | omega | (simp [go_sem]; done) | (simp [go_sem]; omega)))))), by simp only; unfold maxLen; omega⟩).mono ?_; (rintro e w' ⟨rfl, gx, rfl⟩)); all_goals (go_wp2_with fail; ((obtain rfl := HP.out.symm.trans HF.out; refine bodyPost_ret (v := .tuple #[DayV.val ⟨⟨minute, 0, lines, line, since, cast, fuel⟩, A1, d1⟩, .bool false]) (by simp [results, Tryz.results112, go_sem]) rfl ?_); exact ⟨⟨⟨minute, 0, lines, line, since, cast, fuel⟩, A1, d1, rfl, by intro h; cases h⟩, by (repeat (first | with_reducible exact grew_refl _ | with_reducible assumption | with_reducible refine grew_split ?_ | with_reducible refine grew_mk ?_ | with_reducible refine grew_plus ?_ | with_reducible refine grew_alloc ?_ | with_reducible refine grew_drew ?_ | (with_reducible refine grew_set ?_ (by first | exact Nat.le_refl _ | omega | (simp [go_sem]; done) | (simp [go_sem]; omega)))))⟩))) | true => (have HF := hid (stepF_good HC.out hcd); have HD := hid hcd; clear hcd; go_region_with (go_at_call 75; refine (s_l25Good ⟨⟨minute, 0, lines, line, since, cast, fuel⟩, A1, d1⟩ _ HD.out _ ⟨HO1.out.sl.grew (by (repeat (first | with_reducible exact grew_refl _ | with_reducible assumption | with_reducible refine grew_split ?_ | with_reducible refine grew_mk ?_ | with_reducible refine grew_plus ?_ | with_reducible refine grew_alloc ?_ | with_reducible refine grew_drew ?_ | (with_reducible refine grew_set ?_ (by first | exact Nat.le_refl _ | omega | (simp [go_sem]; done) | (simp [go_sem]; omega)))))), by simp only; unfold maxLen; omega⟩).mono ?_; (rintro e w' ⟨rfl, gx, rfl⟩)); all_goals (go_wp2_with fail; ((obtain rfl := HP.out.symm.trans HF.out; refine bodyPost_ret (v := .tuple #[DayV.val ⟨⟨minute, 0, lines, line, since, cast, fuel⟩, A1, d1⟩, .bool true]) (by simp [results, Tryz.results112, go_sem]) rfl ?_); exact ⟨⟨⟨minute, 0, lines, line, since, cast, fuel⟩, A1, d1, rfl, fun _ => ⟨rfl, (OwnF.grew (OwnF.base HO1.out (Nat.le_refl _) (by simp)) (grew_plus (grew_alloc (grew_refl _)))).less (by simp; omega)⟩⟩, by (repeat (first | with_reducible exact grew_refl _ | with_reducible assumption | with_reducible refine grew_split ?_ | with_reducible refine grew_mk ?_ | with_reducible refine grew_plus ?_ | with_reducible refine grew_alloc ?_ | with_reducible refine grew_drew ?_ | (with_reducible refine grew_set ?_ (by first | exact Nat.le_refl _ | omega | (simp [go_sem]; done) | (simp [go_sem]; omega)))))⟩))))
  · have HF := hid (stepF_none (v := ⟨minute, state, lines, line, since, cast, fuel⟩) (k := 7) (x := 0) (by simp only [candF]; grind))
    have h0' : (state == 1) = false := by simp [h0]
    go_wp2_with fail
    (go_region_with fail; all_goals (go_wp2_with fail; ((obtain rfl := HP.out.symm.trans HF.out; refine bodyPost_ret (v := .tuple #[DayV.val ⟨⟨minute, 0, lines, line, since, cast, fuel⟩, A1, d1⟩, .bool false]) (by simp [results, Tryz.results112, go_sem]) rfl ?_); exact ⟨⟨⟨minute, 0, lines, line, since, cast, fuel⟩, A1, d1, rfl, by intro h; cases h⟩, by (repeat (first | with_reducible exact grew_refl _ | with_reducible assumption | with_reducible refine grew_split ?_ | with_reducible refine grew_mk ?_ | with_reducible refine grew_plus ?_ | with_reducible refine grew_alloc ?_ | with_reducible refine grew_drew ?_ | (with_reducible refine grew_set ?_ (by first | exact Nat.le_refl _ | omega | (simp [go_sem]; done) | (simp [go_sem]; omega)))))⟩)))
end Go.Proofs.YtecghfcgahgfiaaGreatDoor
/- What a valid step makes of a day, in the reference: beginning a line. -/
namespace Go.Proofs.YtecghfcgahgfiaaGreatDoor
open Go.RowKit

set_option maxHeartbeats 4000000 in
set_option maxRecDepth 10000 in
theorem s_make4 (minute state : Int) (lines : List LineR) (line since cast fuel : Int) (A : Option Addr) (c : Nat) (x : Int) (p : DayC × Bool) (hp : stepF ⟨minute, state, lines, line, since, cast, fuel⟩ 4 x = p) (w : World) (hok : DayC.ok ⟨minute, state, lines, line, since, cast, fuel⟩ = true) (hs : stepB ⟨minute, state, lines, line, since, cast, fuel⟩ 4 x = true) (hv : DayV.At w ⟨⟨minute, state, lines, line, since, cast, fuel⟩, A, c⟩) :
    Calls Tryz.prog 112 #[DayV.val ⟨⟨minute, state, lines, line, since, cast, fuel⟩, A, c⟩, .agg #[.int .i64 4, .int .i64 x]] w fun e w' => MakePost w.heap.size p e w' ∧ ∃ g, w' = plus w g := by
  have HV := hid hv
  have HK := hid hok
  obtain ⟨b1, b2, b3, b4, b5, b6, b7, b8, b9, b10, b11, b12, b13, b14⟩ := DayC.bounds hok
  clear hv hok
  simp only at b1 b2 b3 b4 b5 b6 b7 b8 b9 b10 b11 b12 b13 b14 hp
  have HP := hid hp
  clear hp
  go_enter Tryz.func112, Tryz.ntmps112
  go_wp2_with fail
  refine (s_l25Own ⟨⟨minute, state, lines, line, since, cast, fuel⟩, A, c⟩ _ (HV.out.grew (by (repeat (first | with_reducible exact grew_refl _ | with_reducible assumption | with_reducible refine grew_split ?_ | with_reducible refine grew_mk ?_ | with_reducible refine grew_plus ?_ | with_reducible refine grew_alloc ?_ | with_reducible refine grew_drew ?_ | (with_reducible refine grew_set ?_ (by first | exact Nat.le_refl _ | omega | (simp [go_sem]; done) | (simp [go_sem]; omega))))))) (by simp only; omega) b6).mono ?_
  rintro e w' ⟨⟨A1, d1, rfl, hO1⟩, gx1, rfl⟩
  have HO1 := hid hO1
  clear hO1
  have hs' : 1 ≤ x ∧ x ≤ lines.length := by simpa [stepB, inB] using hs
  obtain ⟨x0, x1⟩ := hs'
  clear hs
  by_cases h0 : state = 1
  · subst h0
    cases hcb : castB ⟨minute, 1, lines, line, since, cast, fuel⟩
    · have HCB := hid hcb
      have HF := hid (stepF_none (v := ⟨minute, 1, lines, line, since, cast, fuel⟩) (k := 4) (x := x) (by simp only [candF]; grind))
      clear hcb
      go_wp2_with (go_at_call 103; refine (s_l25Cast ⟨⟨minute, 1, lines, line, since, cast, fuel⟩, A, c⟩ _ HCB.out _ HK.out).mono ?_; (rintro e w' ⟨rfl, gx, rfl⟩))
      (go_region_with fail; all_goals (go_wp2_with fail; ((obtain rfl := HP.out.symm.trans HF.out; refine bodyPost_ret (v := .tuple #[DayV.val ⟨⟨minute, 2, lines, x, minute, cast, fuel⟩, A1, d1⟩, .bool false]) (by simp [results, Tryz.results112, go_sem]) rfl ?_); exact ⟨⟨⟨minute, 2, lines, x, minute, cast, fuel⟩, A1, d1, rfl, by intro h; cases h⟩, by (repeat (first | with_reducible exact grew_refl _ | with_reducible assumption | with_reducible refine grew_split ?_ | with_reducible refine grew_mk ?_ | with_reducible refine grew_plus ?_ | with_reducible refine grew_alloc ?_ | with_reducible refine grew_drew ?_ | (with_reducible refine grew_set ?_ (by first | exact Nat.le_refl _ | omega | (simp [go_sem]; done) | (simp [go_sem]; omega)))))⟩)))
    · have HCB := hid hcb
      have HC := hid (show candF ⟨minute, 1, lines, line, since, cast, fuel⟩ 4 x = some ⟨minute, 2, lines, x, minute, cast, fuel⟩ by simp [candF, hcb])
      clear hcb
      go_wp2_with (go_at_call 103; refine (s_l25Cast ⟨⟨minute, 1, lines, line, since, cast, fuel⟩, A, c⟩ _ HCB.out _ HK.out).mono ?_; (rintro e w' ⟨rfl, gx, rfl⟩))
      (cases hcd : DayC.ok ⟨minute, 2, lines, x, minute, cast, fuel⟩ with | false => (have HF := hid (stepF_bad HC.out hcd); have HD := hid hcd; clear hcd; go_region_with (go_at_call 75; refine (s_l25Good ⟨⟨minute, 2, lines, x, minute, cast, fuel⟩, A1, d1⟩ _ HD.out _ ⟨HO1.out.sl.grew (by (repeat (first | with_reducible exact grew_refl _ | with_reducible assumption | with_reducible refine grew_split ?_ | with_reducible refine grew_mk ?_ | with_reducible refine grew_plus ?_ | with_reducible refine grew_alloc ?_ | with_reducible refine grew_drew ?_ | (with_reducible refine grew_set ?_ (by first | exact Nat.le_refl _ | omega | (simp [go_sem]; done) | (simp [go_sem]; omega)))))), by simp only; unfold maxLen; omega⟩).mono ?_; (rintro e w' ⟨rfl, gx, rfl⟩)); all_goals (go_wp2_with fail; ((obtain rfl := HP.out.symm.trans HF.out; refine bodyPost_ret (v := .tuple #[DayV.val ⟨⟨minute, 2, lines, x, minute, cast, fuel⟩, A1, d1⟩, .bool false]) (by simp [results, Tryz.results112, go_sem]) rfl ?_); exact ⟨⟨⟨minute, 2, lines, x, minute, cast, fuel⟩, A1, d1, rfl, by intro h; cases h⟩, by (repeat (first | with_reducible exact grew_refl _ | with_reducible assumption | with_reducible refine grew_split ?_ | with_reducible refine grew_mk ?_ | with_reducible refine grew_plus ?_ | with_reducible refine grew_alloc ?_ | with_reducible refine grew_drew ?_ | (with_reducible refine grew_set ?_ (by first | exact Nat.le_refl _ | omega | (simp [go_sem]; done) | (simp [go_sem]; omega)))))⟩))) | true => (have HF := hid (stepF_good HC.out hcd); have HD := hid hcd; clear hcd; go_region_with (go_at_call 75; refine (s_l25Good ⟨⟨minute, 2, lines, x, minute, cast, fuel⟩, A1, d1⟩ _ HD.out _ ⟨HO1.out.sl.grew (by (repeat (first | with_reducible exact grew_refl _ | with_reducible assumption | with_reducible refine grew_split ?_ | with_reducible refine grew_mk ?_ | with_reducible refine grew_plus ?_ | with_reducible refine grew_alloc ?_ | with_reducible refine grew_drew ?_ | (with_reducible refine grew_set ?_ (by first | exact Nat.le_refl _ | omega | (simp [go_sem]; done) | (simp [go_sem]; omega)))))), by simp only; unfold maxLen; omega⟩).mono ?_; (rintro e w' ⟨rfl, gx, rfl⟩)); all_goals (go_wp2_with fail; ((obtain rfl := HP.out.symm.trans HF.out; refine bodyPost_ret (v := .tuple #[DayV.val ⟨⟨minute, 2, lines, x, minute, cast, fuel⟩, A1, d1⟩, .bool true]) (by simp [results, Tryz.results112, go_sem]) rfl ?_); exact ⟨⟨⟨minute, 2, lines, x, minute, cast, fuel⟩, A1, d1, rfl, fun _ => ⟨rfl, (OwnF.grew (OwnF.base HO1.out (Nat.le_refl _) (by simp)) (grew_plus (grew_alloc (grew_refl _)))).less (by simp; omega)⟩⟩, by (repeat (first | with_reducible exact grew_refl _ | with_reducible assumption | with_reducible refine grew_split ?_ | with_reducible refine grew_mk ?_ | with_reducible refine grew_plus ?_ | with_reducible refine grew_alloc ?_ | with_reducible refine grew_drew ?_ | (with_reducible refine grew_set ?_ (by first | exact Nat.le_refl _ | omega | (simp [go_sem]; done) | (simp [go_sem]; omega)))))⟩))))
  · have HF := hid (stepF_none (v := ⟨minute, state, lines, line, since, cast, fuel⟩) (k := 4) (x := x) (by simp only [candF]; grind))
    have h0' : (state == 1) = false := by simp [h0]
    go_wp2_with fail
    (go_region_with fail; all_goals (go_wp2_with fail; ((obtain rfl := HP.out.symm.trans HF.out; refine bodyPost_ret (v := .tuple #[DayV.val ⟨⟨minute, 2, lines, x, minute, cast, fuel⟩, A1, d1⟩, .bool false]) (by simp [results, Tryz.results112, go_sem]) rfl ?_); exact ⟨⟨⟨minute, 2, lines, x, minute, cast, fuel⟩, A1, d1, rfl, by intro h; cases h⟩, by (repeat (first | with_reducible exact grew_refl _ | with_reducible assumption | with_reducible refine grew_split ?_ | with_reducible refine grew_mk ?_ | with_reducible refine grew_plus ?_ | with_reducible refine grew_alloc ?_ | with_reducible refine grew_drew ?_ | (with_reducible refine grew_set ?_ (by first | exact Nat.le_refl _ | omega | (simp [go_sem]; done) | (simp [go_sem]; omega)))))⟩)))
end Go.Proofs.YtecghfcgahgfiaaGreatDoor
/- What a valid step makes of a day, in the reference: breaking a line off. -/
namespace Go.Proofs.YtecghfcgahgfiaaGreatDoor
open Go.RowKit

set_option maxHeartbeats 4000000 in
set_option maxRecDepth 10000 in
theorem s_make6 (minute state : Int) (lines : List LineR) (line since cast fuel : Int) (A : Option Addr) (c : Nat) (x : Int) (p : DayC × Bool) (hp : stepF ⟨minute, state, lines, line, since, cast, fuel⟩ 6 x = p) (w : World) (hok : DayC.ok ⟨minute, state, lines, line, since, cast, fuel⟩ = true) (hs : stepB ⟨minute, state, lines, line, since, cast, fuel⟩ 6 x = true) (hv : DayV.At w ⟨⟨minute, state, lines, line, since, cast, fuel⟩, A, c⟩) :
    Calls Tryz.prog 112 #[DayV.val ⟨⟨minute, state, lines, line, since, cast, fuel⟩, A, c⟩, .agg #[.int .i64 6, .int .i64 x]] w fun e w' => MakePost w.heap.size p e w' ∧ ∃ g, w' = plus w g := by
  have HV := hid hv
  have HK := hid hok
  obtain ⟨b1, b2, b3, b4, b5, b6, b7, b8, b9, b10, b11, b12, b13, b14⟩ := DayC.bounds hok
  clear hv hok
  simp only at b1 b2 b3 b4 b5 b6 b7 b8 b9 b10 b11 b12 b13 b14 hp
  have HP := hid hp
  clear hp
  go_enter Tryz.func112, Tryz.ntmps112
  go_wp2_with fail
  refine (s_l25Own ⟨⟨minute, state, lines, line, since, cast, fuel⟩, A, c⟩ _ (HV.out.grew (by (repeat (first | with_reducible exact grew_refl _ | with_reducible assumption | with_reducible refine grew_split ?_ | with_reducible refine grew_mk ?_ | with_reducible refine grew_plus ?_ | with_reducible refine grew_alloc ?_ | with_reducible refine grew_drew ?_ | (with_reducible refine grew_set ?_ (by first | exact Nat.le_refl _ | omega | (simp [go_sem]; done) | (simp [go_sem]; omega))))))) (by simp only; omega) b6).mono ?_
  rintro e w' ⟨⟨A1, d1, rfl, hO1⟩, gx1, rfl⟩
  have HO1 := hid hO1
  clear hO1
  obtain rfl : x = 0 := by simp [stepB, inB] at hs; exact hs
  clear hs
  by_cases h0 : state = 2
  · subst h0
    have HC := hid (show candF ⟨minute, 2, lines, line, since, cast, fuel⟩ 6 0 = some ⟨minute, 1, lines, 0, 0, cast, fuel⟩ by simp [candF])
    go_wp2_with fail
    (refine wp_region_calm (by kernel_rfl) (by kernel_rfl) ?_; (repeat' (first | go_big_quiet_step (fail) | (refine wpQuiet_step (fun K hK => ?_); go_simp; go_ite <;> go_simp <;> (first | (refine hK _ ?_; clear hK K) | (apply Exists.intro; refine ⟨fun _ => ?_, hK _ ?_⟩; (fail); clear hK K))))); all_goals (refine wpQuiet_nil ?_; intro _ hw'; obtain ⟨gq, hw''⟩ := hw'; subst hw''))
    go_wp2_with fail
    (cases hcd : DayC.ok ⟨minute, 1, lines, 0, 0, cast, fuel⟩ with | false => (have HF := hid (stepF_bad HC.out hcd); have HD := hid hcd; clear hcd; go_region_with (go_at_call 75; refine (s_l25Good ⟨⟨minute, 1, lines, 0, 0, cast, fuel⟩, A1, d1⟩ _ HD.out _ ⟨HO1.out.sl.grew (by (repeat (first | with_reducible exact grew_refl _ | with_reducible assumption | with_reducible refine grew_split ?_ | with_reducible refine grew_mk ?_ | with_reducible refine grew_plus ?_ | with_reducible refine grew_alloc ?_ | with_reducible refine grew_drew ?_ | (with_reducible refine grew_set ?_ (by first | exact Nat.le_refl _ | omega | (simp [go_sem]; done) | (simp [go_sem]; omega)))))), by simp only; unfold maxLen; omega⟩).mono ?_; (rintro e w' ⟨rfl, gx, rfl⟩)); all_goals (go_wp2_with fail; ((obtain rfl := HP.out.symm.trans HF.out; refine bodyPost_ret (v := .tuple #[DayV.val ⟨⟨minute, 1, lines, 0, 0, cast, fuel⟩, A1, d1⟩, .bool false]) (by simp [results, Tryz.results112, go_sem]) rfl ?_); exact ⟨⟨⟨minute, 1, lines, 0, 0, cast, fuel⟩, A1, d1, rfl, by intro h; cases h⟩, by (repeat (first | with_reducible exact grew_refl _ | with_reducible assumption | with_reducible refine grew_split ?_ | with_reducible refine grew_mk ?_ | with_reducible refine grew_plus ?_ | with_reducible refine grew_alloc ?_ | with_reducible refine grew_drew ?_ | (with_reducible refine grew_set ?_ (by first | exact Nat.le_refl _ | omega | (simp [go_sem]; done) | (simp [go_sem]; omega)))))⟩))) | true => (have HF := hid (stepF_good HC.out hcd); have HD := hid hcd; clear hcd; go_region_with (go_at_call 75; refine (s_l25Good ⟨⟨minute, 1, lines, 0, 0, cast, fuel⟩, A1, d1⟩ _ HD.out _ ⟨HO1.out.sl.grew (by (repeat (first | with_reducible exact grew_refl _ | with_reducible assumption | with_reducible refine grew_split ?_ | with_reducible refine grew_mk ?_ | with_reducible refine grew_plus ?_ | with_reducible refine grew_alloc ?_ | with_reducible refine grew_drew ?_ | (with_reducible refine grew_set ?_ (by first | exact Nat.le_refl _ | omega | (simp [go_sem]; done) | (simp [go_sem]; omega)))))), by simp only; unfold maxLen; omega⟩).mono ?_; (rintro e w' ⟨rfl, gx, rfl⟩)); all_goals (go_wp2_with fail; ((obtain rfl := HP.out.symm.trans HF.out; refine bodyPost_ret (v := .tuple #[DayV.val ⟨⟨minute, 1, lines, 0, 0, cast, fuel⟩, A1, d1⟩, .bool true]) (by simp [results, Tryz.results112, go_sem]) rfl ?_); exact ⟨⟨⟨minute, 1, lines, 0, 0, cast, fuel⟩, A1, d1, rfl, fun _ => ⟨rfl, (OwnF.grew (OwnF.base HO1.out (Nat.le_refl _) (by simp)) (grew_plus (grew_alloc (grew_refl _)))).less (by simp; omega)⟩⟩, by (repeat (first | with_reducible exact grew_refl _ | with_reducible assumption | with_reducible refine grew_split ?_ | with_reducible refine grew_mk ?_ | with_reducible refine grew_plus ?_ | with_reducible refine grew_alloc ?_ | with_reducible refine grew_drew ?_ | (with_reducible refine grew_set ?_ (by first | exact Nat.le_refl _ | omega | (simp [go_sem]; done) | (simp [go_sem]; omega)))))⟩))))
  · have HF := hid (stepF_none (v := ⟨minute, state, lines, line, since, cast, fuel⟩) (k := 6) (x := 0) (by simp only [candF]; grind))
    have h0' : (state != 2) = true := by simp [h0]
    go_wp2_with fail
    ((obtain rfl := HP.out.symm.trans HF.out; refine bodyPost_ret (v := .tuple #[DayV.val ⟨⟨minute, state, lines, line, since, cast, fuel⟩, A1, d1⟩, .bool false]) (by simp [results, Tryz.results112, go_sem]) rfl ?_); exact ⟨⟨⟨minute, state, lines, line, since, cast, fuel⟩, A1, d1, rfl, by intro h; cases h⟩, by (repeat (first | with_reducible exact grew_refl _ | with_reducible assumption | with_reducible refine grew_split ?_ | with_reducible refine grew_mk ?_ | with_reducible refine grew_plus ?_ | with_reducible refine grew_alloc ?_ | with_reducible refine grew_drew ?_ | (with_reducible refine grew_set ?_ (by first | exact Nat.le_refl _ | omega | (simp [go_sem]; done) | (simp [go_sem]; omega)))))⟩)
end Go.Proofs.YtecghfcgahgfiaaGreatDoor
