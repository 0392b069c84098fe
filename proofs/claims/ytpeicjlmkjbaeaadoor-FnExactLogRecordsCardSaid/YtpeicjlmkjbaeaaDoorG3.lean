/- Log records: the record contracts. -/
import Derived.Test.YtpeicjlmkjbaeaaDoorG1
import Derived.Test.YtpeicjlmkjbaeaaDoorGM2
import Derived.Test.YtpeicjlmkjbaeaaDoorOpen
namespace Go.Proofs.YtpeicjlmkjbaeaaDoor
open Go.ChangeShapes Go.WideShapes Go.ChangeAt Go.RowKit Go.Deep Go.Joins
open Go.ChangeMaps (open_string shut_string)

theorem noBytes (c : ByteArray) : c.toList.isEmpty = decide ((c.size : Int) = 0) := by
  rw [ByteArray.toList_eq]
  have : c.size = c.data.toList.length := by simp
  rw [this]
  cases c.data.toList <;> simp
  omega
theorem noNil (c : ByteArray) (h : c.toList = []) : (c.size : Int) = 0 := by
  rw [ByteArray.toList_eq] at h
  have : c.size = c.data.toList.length := by simp
  rw [this, h]; rfl
abbrev recVal (c r : ByteArray) : Value := .agg #[.string c, .string r]
set_option maxHeartbeats 400000 in
theorem s_l27Good (c r : ByteArray) (o : Bool) (ho : recOk c r = o) (w : World) (hc : c.size ≤ maxLen) (hr : r.size ≤ maxLen) :
    Calls Tryd.prog 43 #[recVal c r] w fun e w' => e = .returned (.bool o) ∧ ∃ g, w' = plus w g := by
  subst ho
  go_enter Tryd.func43, Tryd.ntmps43
  go_wp2_with (first
    | (go_at_call 61; refine (s_l27Plain _ _ _ rfl _ (by first | exact hc | exact hr)).mono ?_; (rintro e w' ⟨rfl, rfl⟩))
    | (go_at_call 62; refine (s_l1Stands _ 64 _ rfl _ rfl _ hc).mono ?_; (rintro e w' ⟨rfl, rfl⟩)))
  all_goals
    go_ret
    refine ⟨ret_bool ?_, by (repeat (first | with_reducible exact grew_refl _ | with_reducible assumption | with_reducible refine grew_split ?_ | with_reducible refine grew_mk ?_ | with_reducible refine grew_plus ?_ | with_reducible refine grew_alloc ?_ | with_reducible refine grew_drew ?_ | (with_reducible refine grew_set ?_ (by first | exact Nat.le_refl _ | omega | (simp [go_sem]; done) | (simp [go_sem]; omega)))))⟩
    have hnil := noNil c
    simp only [recOk, noBytes, inB] at *
    grind
set_option maxHeartbeats 400000 in
theorem i_IsValidRecord (c r : ByteArray) (o : Bool) (ho : recOk c r = o) (w : World) (hc : c.size ≤ maxLen) (hr : r.size ≤ maxLen) :
    Calls Tryd.prog 37 #[recVal c r] w fun e w' => e = .returned (.bool o) ∧ ∃ g, w' = plus w g := by
  subst ho
  go_enter Tryd.func37, Tryd.ntmps37
  go_wp2_with (first
    | (go_at_call 45; refine (i_inside _ _ _ _ rfl _).mono ?_; (rintro e w' ⟨rfl, rfl⟩))
    | (go_at_call 56; refine (i_isPlain _ _ rfl _ (by first | exact hc | exact hr)).mono ?_; (rintro e w' ⟨rfl, rfl⟩))
    | (go_at_call 57; refine (Tryd.strings_Contains_one _ 64 _).mono ?_; (rintro e w' ⟨rfl, rfl⟩)))
  all_goals
    go_ret
    refine ⟨ret_bool ?_, by (repeat (first | with_reducible exact grew_refl _ | with_reducible assumption | with_reducible refine grew_split ?_ | with_reducible refine grew_mk ?_ | with_reducible refine grew_plus ?_ | with_reducible refine grew_alloc ?_ | with_reducible refine grew_drew ?_ | (with_reducible refine grew_set ?_ (by first | exact Nat.le_refl _ | omega | (simp [go_sem]; done) | (simp [go_sem]; omega)))))⟩
    simp only [recOk, contains_has, inB] at *
    grind
set_option maxHeartbeats 400000 in
theorem s_IsValidRecord (c r : ByteArray) (o : Bool) (ho : recOk c r = o) (w : World) (hc : c.size ≤ maxLen) (hr : r.size ≤ maxLen) :
    Calls Tryd.prog 38 #[recVal c r] w fun e w' => e = .returned (.bool o) ∧ ∃ g, w' = plus w g := by
  go_enter Tryd.func38, Tryd.ntmps38
  go_wp2_with (go_at_call 43; refine (s_l27Good c r _ ho _ hc hr).mono ?_; (rintro e w' ⟨rfl, gx, rfl⟩))
  go_ret
  exact ⟨rfl, by (repeat (first | with_reducible exact grew_refl _ | with_reducible assumption | with_reducible refine grew_split ?_ | with_reducible refine grew_mk ?_ | with_reducible refine grew_plus ?_ | with_reducible refine grew_alloc ?_ | with_reducible refine grew_drew ?_ | (with_reducible refine grew_set ?_ (by first | exact Nat.le_refl _ | omega | (simp [go_sem]; done) | (simp [go_sem]; omega)))))⟩
set_option maxHeartbeats 400000 in
theorem l_toLogRecord (c r : ByteArray) (w : World) :
    Calls Tryd.prog 15 #[recVal c r] w fun e w' => e = .returned (recVal c r) ∧ ∃ g, w' = plus w g := by
  go_enter Tryd.func15, Tryd.ntmps15
  go_wp2
  refine bodyPost_ret (v := recVal c r) (by simp [results, Tryd.results15, go_sem]) rfl ⟨rfl, ?_⟩
  (repeat (first | with_reducible exact grew_refl _ | with_reducible assumption | with_reducible refine grew_split ?_ | with_reducible refine grew_mk ?_ | with_reducible refine grew_plus ?_ | with_reducible refine grew_alloc ?_ | with_reducible refine grew_drew ?_ | (with_reducible refine grew_set ?_ (by first | exact Nat.le_refl _ | omega | (simp [go_sem]; done) | (simp [go_sem]; omega)))))
set_option maxHeartbeats 400000 in
theorem l_szLogRecord (c r : ByteArray) (k : Int) (w : World) (hc : c.size ≤ maxLen) (hr : r.size ≤ maxLen) (h1 : -1 ≤ k) (h2 : k ≤ 1048576) :
    Calls Tryd.prog 13 #[recVal c r, .int .i64 k] w fun e w' => (∃ z : Int, e = .returned (.int .i64 z)) ∧ ∃ g, w' = plus w g := by
  unfold maxLen at hc hr
  go_enter Tryd.func13, Tryd.ntmps13
  go_wp2
  all_goals
    go_ret
    exact ⟨⟨_, rfl⟩, by (repeat (first | with_reducible exact grew_refl _ | with_reducible assumption | with_reducible refine grew_split ?_ | with_reducible refine grew_mk ?_ | with_reducible refine grew_plus ?_ | with_reducible refine grew_alloc ?_ | with_reducible refine grew_drew ?_ | (with_reducible refine grew_set ?_ (by first | exact Nat.le_refl _ | omega | (simp [go_sem]; done) | (simp [go_sem]; omega)))))⟩
section
variable {H : Type} {enc : TypeId × Value → H} {w : World} {base : Nat} {spare : Nat → Bool} {held : Bool} {r : Reach} {b0 : Nat} {v : Value} {d : DataW H} {p : List MemPlace}
set_option maxRecDepth 100000 in
theorem open_record (hv : Value.okWide Tryd.prog w r b0 23 v) (h : DataW.Trod enc Tryd.prog w base spare held 23 v d p) : ∃ c r : ByteArray, v = recVal c r ∧ c.size ≤ maxLen ∧ r.size ≤ maxLen := by
  obtain ⟨cs, fuel, rfl, hf⟩ := read_value Tryd.underlying23 hv h
  obtain ⟨xs, m, _, _, hl, hx, hf⟩ := DataW.trod_struct Tryd.underlying23 hf
  have hC : Tryd.prog.cellsOf 23 = 2 := by kernel_rfl
  obtain ⟨l⟩ := cs
  match l, hl.trans hC with
  | [c0, c1], _ =>
    obtain ⟨y0, h0⟩ := field_at hf hx 0 _ rfl 1 (by kernel_rfl)
    obtain ⟨y1, h1⟩ := field_at hf hx 1 _ rfl 1 (by kernel_rfl)
    obtain ⟨a, e0, _, ha⟩ := DataW.trod_string Tryd.underlying9 h0
    obtain ⟨b, e1, _, hb⟩ := DataW.trod_string Tryd.underlying9 h1
    simp at e0 e1
    subst e0 e1
    exact ⟨a, b, rfl, ha, hb⟩
end
end Go.Proofs.YtpeicjlmkjbaeaaDoor
