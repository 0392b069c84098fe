import Derived.Test.YtecghfcgahgfiaaGreatDoorP27
import Derived.Test.YtecghfcgahgfiaaGreatDoorP13
/- A new console, in both packages; the laws' comparison and marks of consoles. -/
namespace Go.Proofs.YtecghfcgahgfiaaGreatDoor
open Go.RowKit

abbrev conVal (v : DayV) (du pe : ByteArray) (n : Int) : Value := .agg #[.int .i64 v.core.minute, .int .i64 v.core.state, .slice v.A v.core.lines.length v.c, .int .i64 v.core.line, .int .i64 v.core.since, .int .i64 v.core.cast, .int .i64 v.core.fuel, .string du, .string pe, .int .i64 n]
set_option maxHeartbeats 2000000 in
theorem i_NewConsole (ms : List Int) (A : Option Addr) (c : Nat) (fuel : Int) (w : World) (hA : Sl w 1 intRow A ms) (hl : ms.length ≤ 1048576) :
    Calls Tryz.prog 23 #[.slice A ms.length c, .int .i64 fuel] w fun e w' => (∃ A' c', e = .returned (.tuple #[conVal ⟨newF ms fuel, A', c'⟩ ByteArray.empty ByteArray.empty 0, .bool (newC ms fuel).ok]) ∧ OwnF w.heap.size 80 2 LineR.row w' A' (newF ms fuel).lines) ∧ ∃ g, w' = plus w g := by
  have HA := hid hA
  clear hA
  go_enter Tryz.func23, Tryz.ntmps23
  go_wp2_with fail
  refine (i_NewSurveyDay ms A c fuel _ (HA.out.grew (by (repeat (first | with_reducible exact grew_refl _ | with_reducible assumption | with_reducible refine grew_split ?_ | with_reducible refine grew_mk ?_ | with_reducible refine grew_plus ?_ | with_reducible refine grew_alloc ?_ | with_reducible refine grew_drew ?_ | (with_reducible refine grew_set ?_ (by first | exact Nat.le_refl _ | omega | (simp [go_sem]; done) | (simp [go_sem]; omega))))))) hl).mono ?_
  rintro e w' ⟨⟨A1, c1, rfl, hO⟩, gx, rfl⟩
  (try rw [plus_plus] at hO)
  have HO := hid hO
  clear hO
  cases hok : (newC ms fuel).ok
  · have HK := hid hok
    go_wp2_with fail
    refine bodyPost_ret (v := .tuple #[conVal ⟨noDay, none, 0⟩ ByteArray.empty ByteArray.empty 0, .bool false]) (by simp [results, Tryz.results23, go_sem, noDay, *]; rfl) rfl ?_
    exact ⟨⟨none, 0, by simp [newF, HK.out], by simp [newF, HK.out, noDay]; exact .inl rfl⟩, by (repeat (first | with_reducible exact grew_refl _ | with_reducible assumption | with_reducible refine grew_split ?_ | with_reducible refine grew_mk ?_ | with_reducible refine grew_plus ?_ | with_reducible refine grew_alloc ?_ | with_reducible refine grew_drew ?_ | (with_reducible refine grew_set ?_ (by first | exact Nat.le_refl _ | omega | (simp [go_sem]; done) | (simp [go_sem]; omega)))))⟩
  · have HK := hid hok
    go_wp2_with fail
    refine bodyPost_ret (v := .tuple #[conVal ⟨newF ms fuel, A1, c1⟩ ByteArray.empty ByteArray.empty 0, .bool true]) (by simp [results, Tryz.results23, go_sem, *]; rfl) rfl ?_
    refine ⟨⟨A1, c1, by rw [HK.out], ?_⟩, by (repeat (first | with_reducible exact grew_refl _ | with_reducible assumption | with_reducible refine grew_split ?_ | with_reducible refine grew_mk ?_ | with_reducible refine grew_plus ?_ | with_reducible refine grew_alloc ?_ | with_reducible refine grew_drew ?_ | (with_reducible refine grew_set ?_ (by first | exact Nat.le_refl _ | omega | (simp [go_sem]; done) | (simp [go_sem]; omega)))))⟩
    exact ((HO.out.base (Nat.le_refl _) (by simp)).less (by simp)).grew (grew_alloc (grew_refl _))
set_option maxHeartbeats 2000000 in
theorem s_NewConsole (ms : List Int) (A : Option Addr) (c : Nat) (fuel : Int) (w : World) (hA : Sl w 1 intRow A ms) (hl : ms.length ≤ 1048576) :
    Calls Tryz.prog 24 #[.slice A ms.length c, .int .i64 fuel] w fun e w' => (∃ A' c', e = .returned (.tuple #[conVal ⟨newF ms fuel, A', c'⟩ ByteArray.empty ByteArray.empty 0, .bool (newC ms fuel).ok]) ∧ OwnF w.heap.size 80 2 LineR.row w' A' (newF ms fuel).lines) ∧ ∃ g, w' = plus w g := by
  have HA := hid hA
  clear hA
  go_enter Tryz.func24, Tryz.ntmps24
  go_wp2_with fail
  refine (s_NewSurveyDay ms A c fuel _ (HA.out.grew (by (repeat (first | with_reducible exact grew_refl _ | with_reducible assumption | with_reducible refine grew_split ?_ | with_reducible refine grew_mk ?_ | with_reducible refine grew_plus ?_ | with_reducible refine grew_alloc ?_ | with_reducible refine grew_drew ?_ | (with_reducible refine grew_set ?_ (by first | exact Nat.le_refl _ | omega | (simp [go_sem]; done) | (simp [go_sem]; omega))))))) hl).mono ?_
  rintro e w' ⟨⟨A1, c1, rfl, hO⟩, gx, rfl⟩
  (try rw [plus_plus] at hO)
  have HO := hid hO
  clear hO
  cases hok : (newC ms fuel).ok
  · have HK := hid hok
    go_wp2_with fail
    refine bodyPost_ret (v := .tuple #[conVal ⟨noDay, none, 0⟩ ByteArray.empty ByteArray.empty 0, .bool false]) (by simp [results, Tryz.results24, go_sem, noDay, *]; rfl) rfl ?_
    exact ⟨⟨none, 0, by simp [newF, HK.out], by simp [newF, HK.out, noDay]; exact .inl rfl⟩, by (repeat (first | with_reducible exact grew_refl _ | with_reducible assumption | with_reducible refine grew_split ?_ | with_reducible refine grew_mk ?_ | with_reducible refine grew_plus ?_ | with_reducible refine grew_alloc ?_ | with_reducible refine grew_drew ?_ | (with_reducible refine grew_set ?_ (by first | exact Nat.le_refl _ | omega | (simp [go_sem]; done) | (simp [go_sem]; omega)))))⟩
  · have HK := hid hok
    go_wp2_with fail
    refine bodyPost_ret (v := .tuple #[conVal ⟨newF ms fuel, A1, c1⟩ ByteArray.empty ByteArray.empty 0, .bool true]) (by simp [results, Tryz.results24, go_sem, *]; rfl) rfl ?_
    refine ⟨⟨A1, c1, by rw [HK.out], ?_⟩, by (repeat (first | with_reducible exact grew_refl _ | with_reducible assumption | with_reducible refine grew_split ?_ | with_reducible refine grew_mk ?_ | with_reducible refine grew_plus ?_ | with_reducible refine grew_alloc ?_ | with_reducible refine grew_drew ?_ | (with_reducible refine grew_set ?_ (by first | exact Nat.le_refl _ | omega | (simp [go_sem]; done) | (simp [go_sem]; omega)))))⟩
    exact ((HO.out.base (Nat.le_refl _) (by simp)).less (by simp)).grew (grew_alloc (grew_refl _))
end Go.Proofs.YtecghfcgahgfiaaGreatDoor
