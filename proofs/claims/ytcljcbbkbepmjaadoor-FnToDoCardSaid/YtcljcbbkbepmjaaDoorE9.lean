/- The reference's draws of days and steps: what the laws on days draw. -/
import Derived.Test.YtcljcbbkbepmjaaDoorE8
import Derived.Test.YtcljcbbkbepmjaaDoorOpenCode
import Derived.Deep.RegionWith
namespace Go.Proofs.YtcljcbbkbepmjaaDoor
open Go.RowKit

attribute [local go_sem ↓] Go.wp_at_zero Go.wp_at_succ
theorem cur_new (w W : World) (A : Option Addr) (c : Nat) (bs : List Int) (g : Nat) (hW : ∃ x, W = plus w x) (hg : g = W.heap.size) : CurU w (W.alloc (.cells #[.slice A bs.length c, .int .i64 0, .int .u64 0] 54)) g A c bs 0 := by
  subst hg
  exact ⟨0, ⟨by (repeat (first | with_reducible exact grew_refl _ | with_reducible assumption | with_reducible refine grew_split ?_ | with_reducible refine grew_mk ?_ | with_reducible refine grew_plus ?_ | with_reducible refine grew_alloc ?_ | with_reducible refine grew_drew ?_ | (with_reducible refine grew_set ?_ (by first | exact Nat.le_refl _ | omega | (simp [go_sem]; done) | (simp [go_sem]; omega))))), by have := (below_of_grew hW).size; omega, ⟨0, Blk.new _ _ _⟩, by omega⟩, by omega⟩
theorem Code0.grewE {w w' : World} {A : Option Addr} {bs : List Int} (h : Code0 w A bs) (hg : ∃ g, w' = plus w g) : Code0 w' A bs := ⟨h.sl.grew hg, h.ok, h.len⟩
/-- What a draw of a day hands back. -/
def DayDrawn (w : World) (e : Ending) (w' : World) : Prop := (∃ v : DayV, e = .returned v.val ∧ v.core.lines.length ≤ 8 ∧ OwnF w.heap.size 44 2 LineR.row w' v.A v.core.lines) ∧ ∃ g, w' = plus w g
set_option maxHeartbeats 2000000 in
theorem s_DrawIsSurveyDay (A : Option Addr) (c : Nat) (bs : List Int) (w : World) (hA : Code0 w A bs) :
    Calls Tryd.prog 20 #[.slice A bs.length c] w fun e w' => DayDrawn w e w' := by
  have HA := hid hA
  clear hA
  go_enter Tryd.func20, Tryd.ntmps20
  go_wp2_with fail
  refine (s_surveyDay w (w.heap.size + 1) A c bs 0 _ HA.out (cur_new w _ A c bs _ (by (repeat (first | with_reducible exact grew_refl _ | with_reducible assumption | with_reducible refine grew_split ?_ | with_reducible refine grew_mk ?_ | with_reducible refine grew_plus ?_ | with_reducible refine grew_alloc ?_ | with_reducible refine grew_drew ?_ | (with_reducible refine grew_set ?_ (by first | exact Nat.le_refl _ | omega | (simp [go_sem]; done) | (simp [go_sem]; omega)))))) (by simp)) (by omega)).mono ?_
  rintro e w1 ⟨⟨v, rfl, hl8, hO⟩, hC1, hG1⟩
  have hZ1 := ((blk_new (w := w) (b := w.heap.size) (t := 26) (cs := #[.int .i64 0, .int .i64 0, .slice none 0 0, .int .i64 0, .int .i64 0, .int .i64 0, .int .i64 0]) rfl).alloc _).grown hG1 (fun e => by injection e with e; omega)
  have HO := hid hO
  have HW := hid hC1.world
  have hzl := hZ1.lt
  (have hz0 := hZ1.cell 0; have hz1 := hZ1.cell 1; have hz2 := hZ1.cell 2; have hz3 := hZ1.cell 3; have hz4 := hZ1.cell 4; have hz5 := hZ1.cell 5; have hz6 := hZ1.cell 6; simp [go_sem] at hz0 hz1 hz2 hz3 hz4 hz5 hz6)
  (have hy0 := hZ1.frozen 0; have hy1 := hZ1.frozen 1; have hy2 := hZ1.frozen 2; have hy3 := hZ1.frozen 3; have hy4 := hZ1.frozen 4; have hy5 := hZ1.frozen 5; have hy6 := hZ1.frozen 6)
  clear hC1 hG1 hO hZ1
  go_wp2_with fail
  refine bodyPost_ret (v := v.val) (by simp [results, Tryd.results20, go_sem, *]) rfl ?_
  have h := HW.out
  exact ⟨⟨v, rfl, hl8, (HO.out.kept (grown_set (g := w.heap.size) (grown_set (grown_set (grown_set (grown_set (grown_set (grown_set (grown_refl _ _)))))))) (fun k hk => by injection hk with hk; simp; omega)).less (by simp; omega)⟩, by (repeat (first | with_reducible exact grew_refl _ | with_reducible assumption | with_reducible refine grew_split ?_ | with_reducible refine grew_mk ?_ | with_reducible refine grew_plus ?_ | with_reducible refine grew_alloc ?_ | with_reducible refine grew_drew ?_ | (with_reducible refine grew_set ?_ (by first | exact Nat.le_refl _ | omega | (simp [go_sem]; done) | (simp [go_sem]; omega)))))⟩
set_option maxHeartbeats 2000000 in
theorem s_DrawMinutesLeft (A : Option Addr) (c : Nat) (bs : List Int) (w : World) (hA : Code0 w A bs) :
    Calls Tryd.prog 5 #[.slice A bs.length c] w fun e w' => DayDrawn w e w' := by
  have HA := hid hA
  clear hA
  go_enter Tryd.func5, Tryd.ntmps5
  go_wp2_with fail
  refine (s_DrawIsSurveyDay A c bs _ (HA.out.grewE (by (repeat (first | with_reducible exact grew_refl _ | with_reducible assumption | with_reducible refine grew_split ?_ | with_reducible refine grew_mk ?_ | with_reducible refine grew_plus ?_ | with_reducible refine grew_alloc ?_ | with_reducible refine grew_drew ?_ | (with_reducible refine grew_set ?_ (by first | exact Nat.le_refl _ | omega | (simp [go_sem]; done) | (simp [go_sem]; omega)))))))).mono ?_
  rintro e w1 ⟨⟨v, rfl, hl8, hS⟩, g1, rfl⟩
  have HS := hid hS
  clear hS
  go_wp2_with fail
  refine bodyPost_ret (v := v.val) (by simp [results, Tryd.results5, go_sem, *]) rfl ?_
  refine ⟨⟨v, rfl, hl8, ?_⟩, by (repeat (first | with_reducible exact grew_refl _ | with_reducible assumption | with_reducible refine grew_split ?_ | with_reducible refine grew_mk ?_ | with_reducible refine grew_plus ?_ | with_reducible refine grew_alloc ?_ | with_reducible refine grew_drew ?_ | (with_reducible refine grew_set ?_ (by first | exact Nat.le_refl _ | omega | (simp [go_sem]; done) | (simp [go_sem]; omega)))))⟩
  exact (OwnF.base HS.out (Nat.le_refl _) (by simp)).less (by simp)
set_option maxHeartbeats 2000000 in
theorem s_DrawCastIsGood (A : Option Addr) (c : Nat) (bs : List Int) (w : World) (hA : Code0 w A bs) :
    Calls Tryd.prog 14 #[.slice A bs.length c] w fun e w' => DayDrawn w e w' := by
  have HA := hid hA
  clear hA
  go_enter Tryd.func14, Tryd.ntmps14
  go_wp2_with fail
  refine (s_DrawIsSurveyDay A c bs _ (HA.out.grewE (by (repeat (first | with_reducible exact grew_refl _ | with_reducible assumption | with_reducible refine grew_split ?_ | with_reducible refine grew_mk ?_ | with_reducible refine grew_plus ?_ | with_reducible refine grew_alloc ?_ | with_reducible refine grew_drew ?_ | (with_reducible refine grew_set ?_ (by first | exact Nat.le_refl _ | omega | (simp [go_sem]; done) | (simp [go_sem]; omega)))))))).mono ?_
  rintro e w1 ⟨⟨v, rfl, hl8, hS⟩, g1, rfl⟩
  have HS := hid hS
  clear hS
  go_wp2_with fail
  refine bodyPost_ret (v := v.val) (by simp [results, Tryd.results14, go_sem, *]) rfl ?_
  refine ⟨⟨v, rfl, hl8, ?_⟩, by (repeat (first | with_reducible exact grew_refl _ | with_reducible assumption | with_reducible refine grew_split ?_ | with_reducible refine grew_mk ?_ | with_reducible refine grew_plus ?_ | with_reducible refine grew_alloc ?_ | with_reducible refine grew_drew ?_ | (with_reducible refine grew_set ?_ (by first | exact Nat.le_refl _ | omega | (simp [go_sem]; done) | (simp [go_sem]; omega)))))⟩
  exact (OwnF.base HS.out (Nat.le_refl _) (by simp)).less (by simp)
set_option maxHeartbeats 2000000 in
theorem s_DrawDayText (A : Option Addr) (c : Nat) (bs : List Int) (w : World) (hA : Code0 w A bs) :
    Calls Tryd.prog 17 #[.slice A bs.length c] w fun e w' => DayDrawn w e w' := by
  have HA := hid hA
  clear hA
  go_enter Tryd.func17, Tryd.ntmps17
  go_wp2_with fail
  refine (s_DrawIsSurveyDay A c bs _ (HA.out.grewE (by (repeat (first | with_reducible exact grew_refl _ | with_reducible assumption | with_reducible refine grew_split ?_ | with_reducible refine grew_mk ?_ | with_reducible refine grew_plus ?_ | with_reducible refine grew_alloc ?_ | with_reducible refine grew_drew ?_ | (with_reducible refine grew_set ?_ (by first | exact Nat.le_refl _ | omega | (simp [go_sem]; done) | (simp [go_sem]; omega)))))))).mono ?_
  rintro e w1 ⟨⟨v, rfl, hl8, hS⟩, g1, rfl⟩
  have HS := hid hS
  clear hS
  go_wp2_with fail
  refine bodyPost_ret (v := v.val) (by simp [results, Tryd.results17, go_sem, *]) rfl ?_
  refine ⟨⟨v, rfl, hl8, ?_⟩, by (repeat (first | with_reducible exact grew_refl _ | with_reducible assumption | with_reducible refine grew_split ?_ | with_reducible refine grew_mk ?_ | with_reducible refine grew_plus ?_ | with_reducible refine grew_alloc ?_ | with_reducible refine grew_drew ?_ | (with_reducible refine grew_set ?_ (by first | exact Nat.le_refl _ | omega | (simp [go_sem]; done) | (simp [go_sem]; omega)))))⟩
  exact (OwnF.base HS.out (Nat.le_refl _) (by simp)).less (by simp)
end Go.Proofs.YtcljcbbkbepmjaaDoor
