/- Log records: the record contracts. -/
import Derived.Test.YtfnbbmhhilffeaaDoorG1
import Derived.Test.YtfnbbmhhilffeaaDoorGM2
import Derived.Test.YtfnbbmhhilffeaaDoorOpen
namespace Go.Proofs.YtfnbbmhhilffeaaDoor
open Go.ChangeShapes Go.WideShapes Go.ChangeAt Go.RowKit Go.Deep Go.Joins
open Go.ChangeMaps (open_string shut_string)

theorem noBytes (c : ByteArray) : c.toList.isEmpty = decide ((c.size : Int) = 0) := by
  rw [ByteArray.toList_eq]
  have : c.size = c.data.toList.length := by simp
  rw [this]
  cases c.data.toList <;> simp
  omega
theorem noNil (c : ByteArray) (h : c.toList = []) : (c.size : Int) = 0 := by
  rw [ByteArray.toList_eq] at h
  have : c.size = c.data.toList.length := by simp
  rw [this, h]; rfl
abbrev recVal (c r : ByteArray) : Value := .agg #[.string c, .string r]
set_option maxHeartbeats 400000 in
theorem s_l27Good (c r : ByteArray) (o : Bool) (ho : recOk c r = o) (w : World) (hc : c.size ≤ maxLen) (hr : r.size ≤ maxLen) :
    Calls Tryd.prog 32 #[recVal c r] w fun e w' => e = .returned (.bool o) ∧ ∃ g, w' = plus w g := by
  subst ho
  go_enter Tryd.func32, Tryd.ntmps32
  go_wp2_with (first
    | (go_at_call 47; refine (s_l27Plain _ _ _ rfl _ (by first | exact hc | exact hr)).mono ?_; (rintro e w' ⟨rfl, rfl⟩))
    | (go_at_call 48; refine (s_l1Stands _ 64 _ rfl _ rfl _ hc).mono ?_; (rintro e w' ⟨rfl, rfl⟩)))
  all_goals
    go_ret
    refine ⟨ret_bool ?_, by (repeat (first | with_reducible exact grew_refl _ | with_reducible assumption | with_reducible refine grew_split ?_ | with_reducible refine grew_mk ?_ | with_reducible refine grew_plus ?_ | with_reducible refine grew_alloc ?_ | with_reducible refine grew_drew ?_ | (with_reducible refine grew_set ?_ (by first | exact Nat.le_refl _ | omega | (simp [go_sem]; done) | (simp [go_sem]; omega)))))⟩
    have hnil := noNil c
    simp only [recOk, noBytes, inB] at *
    grind
set_option maxHeartbeats 400000 in
theorem i_IsValidRecord (c r : ByteArray) (o : Bool) (ho : recOk c r = o) (w : World) (hc : c.size ≤ maxLen) (hr : r.size ≤ maxLen) :
    Calls Tryd.prog 12 #[recVal c r] w fun e w' => e = .returned (.bool o) ∧ ∃ g, w' = plus w g := by
  subst ho
  go_enter Tryd.func12, Tryd.ntmps12
  go_wp2_with (first
    | (go_at_call 35; refine (i_inside _ _ _ _ rfl _).mono ?_; (rintro e w' ⟨rfl, rfl⟩))
    | (go_at_call 36; refine (i_isPlain _ _ rfl _ (by first | exact hc | exact hr)).mono ?_; (rintro e w' ⟨rfl, rfl⟩))
    | (go_at_call 37; refine (Tryd.strings_Contains_one _ 64 _).mono ?_; (rintro e w' ⟨rfl, rfl⟩)))
  all_goals
    go_ret
    refine ⟨ret_bool ?_, by (repeat (first | with_reducible exact grew_refl _ | with_reducible assumption | with_reducible refine grew_split ?_ | with_reducible refine grew_mk ?_ | with_reducible refine grew_plus ?_ | with_reducible refine grew_alloc ?_ | with_reducible refine grew_drew ?_ | (with_reducible refine grew_set ?_ (by first | exact Nat.le_refl _ | omega | (simp [go_sem]; done) | (simp [go_sem]; omega)))))⟩
    simp only [recOk, contains_has, inB] at *
    grind
set_option maxHeartbeats 400000 in
theorem s_IsValidRecord (c r : ByteArray) (o : Bool) (ho : recOk c r = o) (w : World) (hc : c.size ≤ maxLen) (hr : r.size ≤ maxLen) :
    Calls Tryd.prog 13 #[recVal c r] w fun e w' => e = .returned (.bool o) ∧ ∃ g, w' = plus w g := by
  go_enter Tryd.func13, Tryd.ntmps13
  go_wp2_with (go_at_call 32; refine (s_l27Good c r _ ho _ hc hr).mono ?_; (rintro e w' ⟨rfl, gx, rfl⟩))
  go_ret
  exact ⟨rfl, by (repeat (first | with_reducible exact grew_refl _ | with_reducible assumption | with_reducible refine grew_split ?_ | with_reducible refine grew_mk ?_ | with_reducible refine grew_plus ?_ | with_reducible refine grew_alloc ?_ | with_reducible refine grew_drew ?_ | (with_reducible refine grew_set ?_ (by first | exact Nat.le_refl _ | omega | (simp [go_sem]; done) | (simp [go_sem]; omega)))))⟩
end Go.Proofs.YtfnbbmhhilffeaaDoor
