import Derived.Test.YtonbgaipmlgndaaGreatDoorP27
import Derived.Test.YtonbgaipmlgndaaGreatDoorP13
/- A new console, in both packages; the laws' comparison and marks of consoles. -/
namespace Go.Proofs.YtonbgaipmlgndaaGreatDoor
open Go.RowKit

abbrev conVal (v : DayV) (du pe : ByteArray) (n : Int) : Value := .agg #[.int .i64 v.core.minute, .int .i64 v.core.state, .slice v.A v.core.lines.length v.c, .int .i64 v.core.line, .int .i64 v.core.since, .int .i64 v.core.cast, .int .i64 v.core.fuel, .string du, .string pe, .int .i64 n]
set_option maxHeartbeats 2000000 in
theorem i_NewConsole (ms : List Int) (A : Option Addr) (c : Nat) (fuel : Int) (w : World) (hA : Sl w 1 intRow A ms) (hl : ms.length ≤ 1048576) :
    Calls Tryz.prog 38 #[.slice A ms.length c, .int .i64 fuel] w fun e w' => (∃ A' c', e = .returned (.tuple #[conVal ⟨newF ms fuel, A', c'⟩ ByteArray.empty ByteArray.empty 0, .bool (newC ms fuel).ok]) ∧ OwnF w.heap.size 102 2 LineR.row w' A' (newF ms fuel).lines) ∧ ∃ g, w' = plus w g := by
  have HA := hid hA
  clear hA
  go_enter Tryz.func38, Tryz.ntmps38
  go_wp2_with fail
  refine (i_NewSurveyDay ms A c fuel _ (HA.out.grew (by (repeat (first | with_reducible exact grew_refl _ | with_reducible assumption | with_reducible refine grew_split ?_ | with_reducible refine grew_mk ?_ | with_reducible refine grew_plus ?_ | with_reducible refine grew_alloc ?_ | with_reducible refine grew_drew ?_ | (with_reducible refine grew_set ?_ (by first | exact Nat.le_refl _ | omega | (simp [go_sem]; done) | (simp [go_sem]; omega))))))) hl).mono ?_
  rintro e w' ⟨⟨A1, c1, rfl, hO⟩, gx, rfl⟩
  (try rw [plus_plus] at hO)
  have HO := hid hO
  clear hO
  cases hok : (newC ms fuel).ok
  · have HK := hid hok
    go_wp2_with fail
    refine bodyPost_ret (v := .tuple #[conVal ⟨noDay, none, 0⟩ ByteArray.empty ByteArray.empty 0, .bool false]) (by simp [results, Tryz.results38, go_sem, noDay, *]; rfl) rfl ?_
    exact ⟨⟨none, 0, by simp [newF, HK.out], by simp [newF, HK.out, noDay]; exact .inl rfl⟩, by (repeat (first | with_reducible exact grew_refl _ | with_reducible assumption | with_reducible refine grew_split ?_ | with_reducible refine grew_mk ?_ | with_reducible refine grew_plus ?_ | with_reducible refine grew_alloc ?_ | with_reducible refine grew_drew ?_ | (with_reducible refine grew_set ?_ (by first | exact Nat.le_refl _ | omega | (simp [go_sem]; done) | (simp [go_sem]; omega)))))⟩
  · have HK := hid hok
    go_wp2_with fail
    refine bodyPost_ret (v := .tuple #[conVal ⟨newF ms fuel, A1, c1⟩ ByteArray.empty ByteArray.empty 0, .bool true]) (by simp [results, Tryz.results38, go_sem, *]; rfl) rfl ?_
    refine ⟨⟨A1, c1, by rw [HK.out], ?_⟩, by (repeat (first | with_reducible exact grew_refl _ | with_reducible assumption | with_reducible refine grew_split ?_ | with_reducible refine grew_mk ?_ | with_reducible refine grew_plus ?_ | with_reducible refine grew_alloc ?_ | with_reducible refine grew_drew ?_ | (with_reducible refine grew_set ?_ (by first | exact Nat.le_refl _ | omega | (simp [go_sem]; done) | (simp [go_sem]; omega)))))⟩
    exact ((HO.out.base (Nat.le_refl _) (by simp)).less (by simp)).grew (grew_alloc (grew_refl _))
set_option maxHeartbeats 2000000 in
theorem s_NewConsole (ms : List Int) (A : Option Addr) (c : Nat) (fuel : Int) (w : World) (hA : Sl w 1 intRow A ms) (hl : ms.length ≤ 1048576) :
    Calls Tryz.prog 39 #[.slice A ms.length c, .int .i64 fuel] w fun e w' => (∃ A' c', e = .returned (.tuple #[conVal ⟨newF ms fuel, A', c'⟩ ByteArray.empty ByteArray.empty 0, .bool (newC ms fuel).ok]) ∧ OwnF w.heap.size 102 2 LineR.row w' A' (newF ms fuel).lines) ∧ ∃ g, w' = plus w g := by
  have HA := hid hA
  clear hA
  go_enter Tryz.func39, Tryz.ntmps39
  go_wp2_with fail
  refine (s_NewSurveyDay ms A c fuel _ (HA.out.grew (by (repeat (first | with_reducible exact grew_refl _ | with_reducible assumption | with_reducible refine grew_split ?_ | with_reducible refine grew_mk ?_ | with_reducible refine grew_plus ?_ | with_reducible refine grew_alloc ?_ | with_reducible refine grew_drew ?_ | (with_reducible refine grew_set ?_ (by first | exact Nat.le_refl _ | omega | (simp [go_sem]; done) | (simp [go_sem]; omega))))))) hl).mono ?_
  rintro e w' ⟨⟨A1, c1, rfl, hO⟩, gx, rfl⟩
  (try rw [plus_plus] at hO)
  have HO := hid hO
  clear hO
  cases hok : (newC ms fuel).ok
  · have HK := hid hok
    go_wp2_with fail
    refine bodyPost_ret (v := .tuple #[conVal ⟨noDay, none, 0⟩ ByteArray.empty ByteArray.empty 0, .bool false]) (by simp [results, Tryz.results39, go_sem, noDay, *]; rfl) rfl ?_
    exact ⟨⟨none, 0, by simp [newF, HK.out], by simp [newF, HK.out, noDay]; exact .inl rfl⟩, by (repeat (first | with_reducible exact grew_refl _ | with_reducible assumption | with_reducible refine grew_split ?_ | with_reducible refine grew_mk ?_ | with_reducible refine grew_plus ?_ | with_reducible refine grew_alloc ?_ | with_reducible refine grew_drew ?_ | (with_reducible refine grew_set ?_ (by first | exact Nat.le_refl _ | omega | (simp [go_sem]; done) | (simp [go_sem]; omega)))))⟩
  · have HK := hid hok
    go_wp2_with fail
    refine bodyPost_ret (v := .tuple #[conVal ⟨newF ms fuel, A1, c1⟩ ByteArray.empty ByteArray.empty 0, .bool true]) (by simp [results, Tryz.results39, go_sem, *]; rfl) rfl ?_
    refine ⟨⟨A1, c1, by rw [HK.out], ?_⟩, by (repeat (first | with_reducible exact grew_refl _ | with_reducible assumption | with_reducible refine grew_split ?_ | with_reducible refine grew_mk ?_ | with_reducible refine grew_plus ?_ | with_reducible refine grew_alloc ?_ | with_reducible refine grew_drew ?_ | (with_reducible refine grew_set ?_ (by first | exact Nat.le_refl _ | omega | (simp [go_sem]; done) | (simp [go_sem]; omega)))))⟩
    exact ((HO.out.base (Nat.le_refl _) (by simp)).less (by simp)).grew (grew_alloc (grew_refl _))
set_option maxHeartbeats 1000000 in
theorem l_eqLogC (du pe : ByteArray) (n : Int) (w : World) :
    Calls Tryz.prog 56 #[.agg #[.string du, .string pe, .int .i64 n], .agg #[.string du, .string pe, .int .i64 n]] w fun e w' => e = .returned (.bool true) ∧ ∃ g, w' = plus w g := by
  go_enter Tryz.func56, Tryz.ntmps56
  go_wp2
  go_ret
  exact ⟨rfl, by (repeat (first | with_reducible exact grew_refl _ | with_reducible assumption | with_reducible refine grew_split ?_ | with_reducible refine grew_mk ?_ | with_reducible refine grew_plus ?_ | with_reducible refine grew_alloc ?_ | with_reducible refine grew_drew ?_ | (with_reducible refine grew_set ?_ (by first | exact Nat.le_refl _ | omega | (simp [go_sem]; done) | (simp [go_sem]; omega)))))⟩
set_option maxHeartbeats 1000000 in
theorem l_eqConsole (v : DayC) (du pe : ByteArray) (n : Int) (A B : Option Addr) (c d : Nat) (w : World) (hv : DayV.At w ⟨v, A, c⟩) (hu : DayV.At w ⟨v, B, d⟩) :
    Calls Tryz.prog 19 #[conVal ⟨v, A, c⟩ du pe n, conVal ⟨v, B, d⟩ du pe n] w fun e w' => e = .returned (.bool true) ∧ ∃ g, w' = plus w g := by
  have HV := hid hv
  have HU := hid hu
  clear hv hu
  go_enter Tryz.func19, Tryz.ntmps19
  go_wp2_with fail
  refine (l_eqSurveyDay v A B c d _ (HV.out.grew (by (repeat (first | with_reducible exact grew_refl _ | with_reducible assumption | with_reducible refine grew_split ?_ | with_reducible refine grew_mk ?_ | with_reducible refine grew_plus ?_ | with_reducible refine grew_alloc ?_ | with_reducible refine grew_drew ?_ | (with_reducible refine grew_set ?_ (by first | exact Nat.le_refl _ | omega | (simp [go_sem]; done) | (simp [go_sem]; omega))))))) (HU.out.grew (by (repeat (first | with_reducible exact grew_refl _ | with_reducible assumption | with_reducible refine grew_split ?_ | with_reducible refine grew_mk ?_ | with_reducible refine grew_plus ?_ | with_reducible refine grew_alloc ?_ | with_reducible refine grew_drew ?_ | (with_reducible refine grew_set ?_ (by first | exact Nat.le_refl _ | omega | (simp [go_sem]; done) | (simp [go_sem]; omega)))))))).mono ?_
  (rintro e w' ⟨rfl, gx, rfl⟩)
  go_wp2_with fail
  refine (l_eqLogC du pe n _).mono ?_
  (rintro e w' ⟨rfl, gx, rfl⟩)
  go_wp2_with fail
  go_ret
  exact ⟨rfl, by (repeat (first | with_reducible exact grew_refl _ | with_reducible assumption | with_reducible refine grew_split ?_ | with_reducible refine grew_mk ?_ | with_reducible refine grew_plus ?_ | with_reducible refine grew_alloc ?_ | with_reducible refine grew_drew ?_ | (with_reducible refine grew_set ?_ (by first | exact Nat.le_refl _ | omega | (simp [go_sem]; done) | (simp [go_sem]; omega)))))⟩
set_option maxHeartbeats 1000000 in
theorem l_markConsole (B : Nat) (v : DayV) (du pe : ByteArray) (n : Int) (m : Int) (w : World) (hO : OwnF B 102 2 LineR.row w v.A v.core.lines) (hl : v.core.lines.length ≤ 1073741824) (h0 : 0 ≤ m) (h1 : m ≤ 1099511627776) :
    Calls Tryz.prog 20 #[conVal v du pe n, .int .i64 m] w fun e' w' => e' = .returned (.int .i64 (m + 2 * v.core.lines.length)) ∧ OwnF B 102 2 LineR.row w' v.A (marksL m v.core.lines.length) ∧ w.grownBy w' (rowOf v.A v.core.lines) := by
  have HO := hid hO
  clear hO
  go_enter Tryz.func20, Tryz.ntmps20
  go_wp2_with fail
  refine (l_markSurveyDay B v m _ (HO.out.grew (by (repeat (first | with_reducible exact grew_refl _ | with_reducible assumption | with_reducible refine grew_split ?_ | with_reducible refine grew_mk ?_ | with_reducible refine grew_plus ?_ | with_reducible refine grew_alloc ?_ | with_reducible refine grew_drew ?_ | (with_reducible refine grew_set ?_ (by first | exact Nat.le_refl _ | omega | (simp [go_sem]; done) | (simp [go_sem]; omega))))))) hl h0 h1).mono ?_
  rintro e w' ⟨rfl, hM, hG⟩
  have HM := hid hM
  have HG := hid hG
  clear hM hG
  go_wp2_with fail
  go_ret
  exact ⟨rfl, HM.out, (grown_of_grew (by (repeat (first | with_reducible exact grew_refl _ | with_reducible assumption | with_reducible refine grew_split ?_ | with_reducible refine grew_mk ?_ | with_reducible refine grew_plus ?_ | with_reducible refine grew_alloc ?_ | with_reducible refine grew_drew ?_ | (with_reducible refine grew_set ?_ (by first | exact Nat.le_refl _ | omega | (simp [go_sem]; done) | (simp [go_sem]; omega)))))) _).trans HG.out⟩
set_option maxHeartbeats 1000000 in
theorem l_heldConsole (v : DayV) (du pe : ByteArray) (n : Int) (m : Int) (w : World) (hO : Sl w 2 LineR.row v.A (marksL m v.core.lines.length)) (hl : v.core.lines.length ≤ 1073741824) (h0 : 0 ≤ m) (h1 : m ≤ 1099511627776) :
    Calls Tryz.prog 21 #[conVal v du pe n, .int .i64 m] w fun e' w' => e' = .returned (.int .i64 (m + 2 * v.core.lines.length)) ∧ ∃ g, w' = plus w g := by
  have HO := hid hO
  clear hO
  go_enter Tryz.func21, Tryz.ntmps21
  go_wp2_with fail
  refine (l_heldSurveyDay v m _ (HO.out.grew (by (repeat (first | with_reducible exact grew_refl _ | with_reducible assumption | with_reducible refine grew_split ?_ | with_reducible refine grew_mk ?_ | with_reducible refine grew_plus ?_ | with_reducible refine grew_alloc ?_ | with_reducible refine grew_drew ?_ | (with_reducible refine grew_set ?_ (by first | exact Nat.le_refl _ | omega | (simp [go_sem]; done) | (simp [go_sem]; omega))))))) hl h0 h1).mono ?_
  (rintro e w' ⟨rfl, gx, rfl⟩)
  go_wp2_with fail
  go_ret
  exact ⟨rfl, by (repeat (first | with_reducible exact grew_refl _ | with_reducible assumption | with_reducible refine grew_split ?_ | with_reducible refine grew_mk ?_ | with_reducible refine grew_plus ?_ | with_reducible refine grew_alloc ?_ | with_reducible refine grew_drew ?_ | (with_reducible refine grew_set ?_ (by first | exact Nat.le_refl _ | omega | (simp [go_sem]; done) | (simp [go_sem]; omega)))))⟩
end Go.Proofs.YtonbgaipmlgndaaGreatDoor
