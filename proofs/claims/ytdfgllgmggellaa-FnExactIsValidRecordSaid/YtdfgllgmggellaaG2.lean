/- Log records: the record contracts and the law FnExactIsValidRecord. No condition. -/
import Derived.Test.YtdfgllgmggellaaRows
import Derived.Test.YtdfgllgmggellaaG1
import Derived.Test.YtdfgllgmggellaaOpen
namespace Go.Proofs.Ytdfgllgmggellaa
open Go.ChangeShapes Go.WideShapes Go.ChangeAt Go.RowKit Go.Deep Go.Joins
open Go.ChangeMaps (open_string shut_string)

def recOk (c r : ByteArray) : Bool := inB c.size 1 160 && plainB c && !hasB c 64 && plainB r && decide ((r.size : Int) ≤ 200)
theorem noBytes (c : ByteArray) : c.toList.isEmpty = decide ((c.size : Int) = 0) := by
  rw [ByteArray.toList_eq]
  have : c.size = c.data.toList.length := by simp
  rw [this]
  cases c.data.toList <;> simp
  omega
theorem noNil (c : ByteArray) (h : c.toList = []) : (c.size : Int) = 0 := by
  rw [ByteArray.toList_eq] at h
  have : c.size = c.data.toList.length := by simp
  rw [this, h]; rfl
abbrev recVal (c r : ByteArray) : Value := .agg #[.string c, .string r]
set_option maxHeartbeats 400000 in
theorem s_l27Good (c r : ByteArray) (o : Bool) (ho : recOk c r = o) (w : World) (hc : c.size ≤ maxLen) (hr : r.size ≤ maxLen) :
    Calls Try.prog 8 #[recVal c r] w fun e w' => e = .returned (.bool o) ∧ ∃ g, w' = plus w g := by
  subst ho
  go_enter Try.func8, Try.ntmps8
  go_wp2_with (first
    | (go_at_call 12; refine (s_l27Plain _ _ _ rfl _ (by first | exact hc | exact hr)).mono ?_; (rintro e w' ⟨rfl, rfl⟩))
    | (go_at_call 13; refine (s_l1Stands _ 64 _ rfl _ rfl _ hc).mono ?_; (rintro e w' ⟨rfl, rfl⟩)))
  all_goals
    go_ret
    refine ⟨ret_bool ?_, by (repeat (first | with_reducible exact grew_refl _ | with_reducible assumption | with_reducible refine grew_plus ?_ | with_reducible refine grew_alloc ?_ | with_reducible refine grew_drew ?_ | (with_reducible refine grew_set ?_ (by first | exact Nat.le_refl _ | omega | (simp [go_sem]; done) | (simp [go_sem]; omega)))))⟩
    have hnil := noNil c
    simp only [recOk, noBytes, inB] at *
    grind
set_option maxHeartbeats 400000 in
theorem i_IsValidRecord (c r : ByteArray) (o : Bool) (ho : recOk c r = o) (w : World) (hc : c.size ≤ maxLen) (hr : r.size ≤ maxLen) :
    Calls Try.prog 7 #[recVal c r] w fun e w' => e = .returned (.bool o) ∧ ∃ g, w' = plus w g := by
  subst ho
  go_enter Try.func7, Try.ntmps7
  go_wp2_with (first
    | (go_at_call 9; refine (i_inside _ _ _ _ rfl _).mono ?_; (rintro e w' ⟨rfl, rfl⟩))
    | (go_at_call 10; refine (i_isPlain _ _ rfl _ (by first | exact hc | exact hr)).mono ?_; (rintro e w' ⟨rfl, rfl⟩))
    | (go_at_call 11; refine (Try.strings_Contains_one _ 64 _).mono ?_; (rintro e w' ⟨rfl, rfl⟩)))
  all_goals
    go_ret
    refine ⟨ret_bool ?_, by (repeat (first | with_reducible exact grew_refl _ | with_reducible assumption | with_reducible refine grew_plus ?_ | with_reducible refine grew_alloc ?_ | with_reducible refine grew_drew ?_ | (with_reducible refine grew_set ?_ (by first | exact Nat.le_refl _ | omega | (simp [go_sem]; done) | (simp [go_sem]; omega)))))⟩
    simp only [recOk, contains_has, inB] at *
    grind
set_option maxHeartbeats 400000 in
theorem s_IsValidRecord (c r : ByteArray) (o : Bool) (ho : recOk c r = o) (w : World) (hc : c.size ≤ maxLen) (hr : r.size ≤ maxLen) :
    Calls Try.prog 5 #[recVal c r] w fun e w' => e = .returned (.bool o) ∧ ∃ g, w' = plus w g := by
  go_enter Try.func5, Try.ntmps5
  go_wp2_with (go_at_call 8; refine (s_l27Good c r _ ho _ hc hr).mono ?_; (rintro e w' ⟨rfl, gx, rfl⟩))
  go_ret
  exact ⟨rfl, by (repeat (first | with_reducible exact grew_refl _ | with_reducible assumption | with_reducible refine grew_plus ?_ | with_reducible refine grew_alloc ?_ | with_reducible refine grew_drew ?_ | (with_reducible refine grew_set ?_ (by first | exact Nat.le_refl _ | omega | (simp [go_sem]; done) | (simp [go_sem]; omega)))))⟩
set_option maxHeartbeats 400000 in
theorem l_toLogRecord (c r : ByteArray) (w : World) :
    Calls Try.prog 6 #[recVal c r] w fun e w' => e = .returned (recVal c r) ∧ ∃ g, w' = plus w g := by
  go_enter Try.func6, Try.ntmps6
  go_wp2
  refine bodyPost_ret (v := recVal c r) (by simp [results, Try.results6, go_sem]) rfl ⟨rfl, ?_⟩
  (repeat (first | with_reducible exact grew_refl _ | with_reducible assumption | with_reducible refine grew_plus ?_ | with_reducible refine grew_alloc ?_ | with_reducible refine grew_drew ?_ | (with_reducible refine grew_set ?_ (by first | exact Nat.le_refl _ | omega | (simp [go_sem]; done) | (simp [go_sem]; omega)))))
set_option maxHeartbeats 400000 in
theorem l_szLogRecord (c r : ByteArray) (k : Int) (w : World) (hc : c.size ≤ maxLen) (hr : r.size ≤ maxLen) (h1 : -1 ≤ k) (h2 : k ≤ 1048576) :
    Calls Try.prog 4 #[recVal c r, .int .i64 k] w fun e w' => (∃ z : Int, e = .returned (.int .i64 z)) ∧ ∃ g, w' = plus w g := by
  unfold maxLen at hc hr
  go_enter Try.func4, Try.ntmps4
  go_wp2
  all_goals
    go_ret
    exact ⟨⟨_, rfl⟩, by (repeat (first | with_reducible exact grew_refl _ | with_reducible assumption | with_reducible refine grew_plus ?_ | with_reducible refine grew_alloc ?_ | with_reducible refine grew_drew ?_ | (with_reducible refine grew_set ?_ (by first | exact Nat.le_refl _ | omega | (simp [go_sem]; done) | (simp [go_sem]; omega)))))⟩
set_option maxHeartbeats 2000000 in
theorem l_FnExactIsValidRecord (c r : ByteArray) (w : World) (hc : c.size ≤ maxLen) (hr : r.size ≤ maxLen) :
    Calls Try.prog 3 #[recVal c r] w fun e' w' => e' = .returned (.bool true) ∧ ∃ g, w' = plus w g := by
  go_enter Try.func3, Try.ntmps3
  go_wp2_with fail
  refine (l_szLogRecord c r _ _ hc hr (by omega) (by omega)).mono ?_; rintro e w' ⟨⟨kz, rfl⟩, gx, rfl⟩
  by_cases hneg : kz < 0
  · go_wp2_with fail
    go_ret
    exact ⟨rfl, by (repeat (first | with_reducible exact grew_refl _ | with_reducible assumption | with_reducible refine grew_plus ?_ | with_reducible refine grew_alloc ?_ | with_reducible refine grew_drew ?_ | (with_reducible refine grew_set ?_ (by first | exact Nat.le_refl _ | omega | (simp [go_sem]; done) | (simp [go_sem]; omega)))))⟩
  go_wp2_with fail
  (refine (l_toLogRecord c r _).mono ?_; rintro e w' ⟨rfl, gxs, rfl⟩; go_wp2_with fail)
  (refine (s_IsValidRecord c r _ rfl _ hc hr).mono ?_; rintro e w' ⟨rfl, gxs, rfl⟩; go_wp2_with fail)
  (refine (l_toLogRecord c r _).mono ?_; rintro e w' ⟨rfl, gxs, rfl⟩; go_wp2_with fail)
  (refine (i_IsValidRecord c r _ rfl _ hc hr).mono ?_; rintro e w' ⟨rfl, gxs, rfl⟩; go_wp2_with fail)
  go_ret
  exact ⟨rfl, by (repeat (first | with_reducible exact grew_refl _ | with_reducible assumption | with_reducible refine grew_plus ?_ | with_reducible refine grew_alloc ?_ | with_reducible refine grew_drew ?_ | (with_reducible refine grew_set ?_ (by first | exact Nat.le_refl _ | omega | (simp [go_sem]; done) | (simp [go_sem]; omega)))))⟩
section
variable {H : Type} {enc : TypeId × Value → H} {w : World} {base : Nat} {spare : Nat → Bool} {held : Bool} {r : Reach} {b0 : Nat} {v : Value} {d : DataW H} {p : List MemPlace}
set_option maxRecDepth 100000 in
theorem open_record (hv : Value.okWide Try.prog w r b0 23 v) (h : DataW.Trod enc Try.prog w base spare held 23 v d p) : ∃ c r : ByteArray, v = recVal c r ∧ c.size ≤ maxLen ∧ r.size ≤ maxLen := by
  obtain ⟨cs, fuel, rfl, hf⟩ := read_value Try.underlying23 hv h
  obtain ⟨xs, m, _, _, hl, hx, hf⟩ := DataW.trod_struct Try.underlying23 hf
  have hC : Try.prog.cellsOf 23 = 2 := by kernel_rfl
  obtain ⟨l⟩ := cs
  match l, hl.trans hC with
  | [c0, c1], _ =>
    obtain ⟨y0, h0⟩ := field_at hf hx 0 _ rfl 1 (by kernel_rfl)
    obtain ⟨y1, h1⟩ := field_at hf hx 1 _ rfl 1 (by kernel_rfl)
    obtain ⟨a, e0, _, ha⟩ := DataW.trod_string Try.underlying9 h0
    obtain ⟨b, e1, _, hb⟩ := DataW.trod_string Try.underlying9 h1
    simp at e0 e1
    subst e0 e1
    exact ⟨a, b, rfl, ha, hb⟩
end
theorem fnExactIsValidRecord_own : ownKnob Try.prog.godebug = none := by kernel_rfl
theorem fnExactIsValidRecord_laidOut : laidOutB Try.prog = true := by kernel_rfl
set_option maxRecDepth 100000 in
theorem fnExactIsValidRecord_lifted (os : Os) (started : os.Started) (H : Type) (enc : TypeId × Value → H) :
    ReturnsInHanded {} Try.checked os 3 .any (Rows.fnExactIsValidRecordSpec.pre6 enc Try.prog Try.f3 Rows.fnExactIsValidRecordRow.domain false) (Rows.fnExactIsValidRecordSpec.post enc Try.prog Try.f3 false true false false) := by
  refine returnsInHanded_of_change (C := Try.checked) fnExactIsValidRecord_own started (by kernel_rfl) Try.func3
    (ChangeSpec.witness6 (enc := enc) (C := Try.checked) false ⟨#[], #[.agg #[.string ByteArray.empty, .string ByteArray.empty]], []⟩ 8 (by kernel_rfl) (by kernel_rfl) (by kernel_rfl) (by kernel_rfl)) ?_
  intro W base args ds gs before hval0 hW hcnd _
  have hval : ∀ (j : Nat) t v, Try.f3.params[j]? = some t → args[j]? = some v → Value.okWide Try.prog W .any base t v := hval0
  have hW' := hW
  obtain ⟨p, q, hA0, hV, rfl, hfz, hnd⟩ := hW
  have hA : DataW.TrodAll enc Try.prog W 0 (fun _ => true) true Try.f3.params.toList args.toList ds p := hA0
  rw [Try.params3] at hA hval
  obtain ⟨v0, vs0, d0, ds0, p0, q0, hargs, rfl, rfl, h0, r0⟩ := trodAll_cons hA
  obtain ⟨rfl, rfl, rfl⟩ := trodAll_nil r0
  obtain rfl : args = #[v0] := by cases args; simp_all
  obtain ⟨rfl, rfl⟩ := trodVars_none hV
  have k0 := h0
  have lt0 : ∀ x ∈ p0, x.block < W.heap.size := by obtain ⟨m, hm⟩ := k0; exact DataW.trod_lt m _ _ _ hm
  obtain ⟨c, r, rfl, hc, hr⟩ := open_record (hval 0 23 v0 rfl rfl) h0
  clear hA0 hval0
  refine (l_FnExactIsValidRecord c r W hc hr).mono fun e W' ⟨he, hg⟩ => ?_
  have bel := below_of_grew hg
  subst he
  exact ⟨_, rfl, _, _, _, [], _, [], hW', trodAll_mk1 (shut_bool Try.underlying4 _), (trodAll_cons_mk (Below.trod fnExactIsValidRecord_laidOut (by kernel_rfl) (of_decide_eq_true (by kernel_rfl)) k0 bel lt0) trodAll_mk0), rfl, bel.frame _, fun h => by cases h⟩
theorem fnExactIsValidRecord_over : Rows.fnExactIsValidRecordRow.holds Try.pinned (OpenSpec.ofChange Rows.fnExactIsValidRecordSpec) :=
  OpenClaim.holds_of_wide 3 Try.f3 rfl rfl rfl rfl rfl rfl rfl ⟨rfl, rfl, rfl, rfl, rfl⟩ rfl rfl rfl rfl rfl (by kernel_rfl) Try.func3 (by kernel_rfl)
    (of_decide_eq_true (by kernel_rfl)) (by unfold Func.isWrapper; first | (rw [if_pos (by decide +kernel)]; kernel_rfl) | (rw [if_neg (by decide +kernel)]; exact ⟨rfl, rfl⟩))
    (fun os started H enc _ => fnExactIsValidRecord_lifted os started H enc)
theorem fnExactIsValidRecord_holds : Rows.FnExactIsValidRecordSaid := fnExactIsValidRecord_over
end Go.Proofs.Ytdfgllgmggellaa
