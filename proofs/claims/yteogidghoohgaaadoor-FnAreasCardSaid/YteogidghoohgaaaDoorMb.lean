/- The row of two areas together, in the reference. -/
import Derived.Test.YteogidghoohgaaaDoorMa
namespace Go.Proofs.YteogidghoohgaaaDoor
open Go.RowKit

set_option maxHeartbeats 1000000 in
theorem s_l26Both (a b : AreaR) (ha : a.ok = true) (hb : b.ok = true) (w : World) :
    Calls Tryd.prog 52 #[a.val, b.val] w fun e w' => e = .returned (bothR a b).val ∧ ∃ g, w' = plus w g := by
  obtain ⟨a1, a2, a3, a4, a5, a6, a7, a8, a9, a10, _⟩ := AreaR.bounds ha
  obtain ⟨b1, b2, b3, b4, b5, b6, b7, b8, b9, b10, _⟩ := AreaR.bounds hb
  clear ha hb
  by_cases hb0 : b.cov = 0
  · have HB := hid hb0
    have hb0' : (b.cov == 0) = true := by simp [hb0]
    clear hb0
    go_enter Tryd.func52, Tryd.ntmps52
    go_wp2_with fail
    refine bodyPost_ret (v := (bothR a b).val) (by simp [results, Tryd.results52, bothR, HB.out, go_sem]) rfl ⟨rfl, by (repeat (first | with_reducible exact grew_refl _ | with_reducible assumption | with_reducible refine grew_split ?_ | with_reducible refine grew_mk ?_ | with_reducible refine grew_plus ?_ | with_reducible refine grew_alloc ?_ | with_reducible refine grew_drew ?_ | (with_reducible refine grew_set ?_ (by first | exact Nat.le_refl _ | omega | (simp [go_sem]; done) | (simp [go_sem]; omega)))))⟩
  · have HB := hid hb0
    have hb0' : (b.cov == 0) = false := by simp [hb0]
    clear hb0
    by_cases ha0 : a.cov = 0
    · have HA := hid ha0
      have ha0' : (a.cov == 0) = true := by simp [ha0]
      clear ha0
      go_enter Tryd.func52, Tryd.ntmps52
      go_wp2_with fail
      refine bodyPost_ret (v := (bothR a b).val) (by simp [results, Tryd.results52, bothR, HB.out, HA.out, go_sem]) rfl ⟨rfl, by (repeat (first | with_reducible exact grew_refl _ | with_reducible assumption | with_reducible refine grew_split ?_ | with_reducible refine grew_mk ?_ | with_reducible refine grew_plus ?_ | with_reducible refine grew_alloc ?_ | with_reducible refine grew_drew ?_ | (with_reducible refine grew_set ?_ (by first | exact Nat.le_refl _ | omega | (simp [go_sem]; done) | (simp [go_sem]; omega)))))⟩
    · have HA := hid ha0
      have ha0' : (a.cov == 0) = false := by simp [ha0]
      clear ha0
      go_enter Tryd.func52, Tryd.ntmps52
      go_wp2_with (first | (go_at_call 69; refine (s_l1Least _ _ _).mono ?_; (rintro e w' ⟨rfl, gx, rfl⟩)) | (go_at_call 70; refine (s_l1Most _ _ _).mono ?_; (rintro e w' ⟨rfl, gx, rfl⟩)))
      refine bodyPost_ret (v := (bothR a b).val) (by simp [results, Tryd.results52, bothR, HB.out, HA.out, go_sem]) rfl ⟨rfl, by (repeat (first | with_reducible exact grew_refl _ | with_reducible assumption | with_reducible refine grew_split ?_ | with_reducible refine grew_mk ?_ | with_reducible refine grew_plus ?_ | with_reducible refine grew_alloc ?_ | with_reducible refine grew_drew ?_ | (with_reducible refine grew_set ?_ (by first | exact Nat.le_refl _ | omega | (simp [go_sem]; done) | (simp [go_sem]; omega)))))⟩
end Go.Proofs.YteogidghoohgaaaDoor
