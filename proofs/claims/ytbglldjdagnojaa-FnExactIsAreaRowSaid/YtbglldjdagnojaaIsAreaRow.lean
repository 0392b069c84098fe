/- The law FnExactIsAreaRow: the program's IsAreaRow answers as the reference's, for every row. No condition. -/
import Derived.Test.YtbglldjdagnojaaRows
import Derived.Test.YtbglldjdagnojaaA1
import Derived.Test.YtbglldjdagnojaaOpen
namespace Go.Proofs.Ytbglldjdagnojaa
open Go.ChangeShapes Go.WideShapes Go.ChangeAt Go.RowKit Go.Deep Go.Joins
open Go.ChangeMaps (open_string shut_string)

set_option maxHeartbeats 400000 in
theorem l_FnExactIsAreaRow (r : AreaR) (w : World) (hs : r.nm.size ≤ maxLen) :
    Calls Try.prog 3 #[r.val] w fun e' w' => e' = .returned (.bool true) ∧ ∃ g, w' = plus w g := by
  go_enter Try.func3, Try.ntmps3
  go_wp2_with (first
    | (go_at_call 12; refine (l_szAreaRow r _ _).mono ?_; rintro e w' ⟨⟨kz, rfl⟩, gx, rfl⟩)
    | (go_at_call 14; refine (l_toAreaRow r _).mono ?_; (rintro e w' ⟨rfl, gx, rfl⟩))
    | (go_at_call 13; refine (s_IsAreaRow r _ rfl _ hs).mono ?_; (rintro e w' ⟨rfl, gx, rfl⟩))
    | (go_at_call 15; refine (i_IsAreaRow r _ rfl _ hs).mono ?_; (rintro e w' ⟨rfl, gx, rfl⟩)))
  all_goals
    go_ret
    exact ⟨rfl, by (repeat (first | exact grew_refl _ | refine grew_plus ?_ | refine grew_alloc ?_ | refine grew_drew ?_ | (refine grew_set ?_ (by simp [go_sem] <;> omega)) | assumption))⟩

/-- A row that came in by value. -/
theorem open_area {H : Type} {enc : TypeId × Value → H} {w : World} {r : Reach} {b0 base : Nat} {spare : Nat → Bool} {held : Bool} {v : Value} {d : DataW H} {p : List MemPlace}
    (hv : Value.okWide Try.prog w r b0 23 v) (h : DataW.Trod enc Try.prog w base spare held 23 v d p) : ∃ r : AreaR, v = r.val ∧ r.nm.size ≤ maxLen := by
  obtain ⟨v0, v1, v2, v3, v4, v5, y0, y1, y2, y3, y4, y5, n, rfl, _, _, h0, h1, h2, h3, h4, h5⟩ := open_agg6 Try.underlying23 (by kernel_rfl) (by kernel_rfl) hv h
  obtain ⟨s, e0, _, hs⟩ := DataW.trod_string Try.underlying9 h0
  obtain ⟨a, e1, _, _⟩ := DataW.trod_int Try.underlying3 h1
  obtain ⟨b, e2, _, _⟩ := DataW.trod_int Try.underlying3 h2
  obtain ⟨c, e3, _, _⟩ := DataW.trod_int Try.underlying3 h3
  obtain ⟨d, e4, _, _⟩ := DataW.trod_int Try.underlying3 h4
  obtain ⟨e, e5, _, _⟩ := DataW.trod_int Try.underlying3 h5
  simp only [List.cons.injEq, and_true] at e0 e1 e2 e3 e4 e5
  subst e0 e1 e2 e3 e4 e5
  exact ⟨⟨s, a, b, c, d, e⟩, rfl, hs⟩

theorem fnExactIsAreaRow_own : ownKnob Try.prog.godebug = none := by kernel_rfl
theorem fnExactIsAreaRow_laidOut : laidOutB Try.prog = true := by kernel_rfl
set_option maxRecDepth 100000 in
theorem fnExactIsAreaRow_lifted (os : Os) (started : os.Started) (H : Type) (enc : TypeId × Value → H) :
    ReturnsInHanded {} Try.checked os 3 .any (Rows.fnExactIsAreaRowSpec.pre6 enc Try.prog Try.f3 Rows.fnExactIsAreaRowRow.domain false) (Rows.fnExactIsAreaRowSpec.post enc Try.prog Try.f3 false true false false) := by
  refine returnsInHanded_of_change (C := Try.checked) fnExactIsAreaRow_own started (by kernel_rfl) Try.func3
    (ChangeSpec.witness6 (enc := enc) (C := Try.checked) false ⟨#[], #[.agg #[.string ByteArray.empty, .int .i64 0, .int .i64 0, .int .i64 0, .int .i64 0, .int .i64 0]], []⟩ 8 (by kernel_rfl) (by kernel_rfl) (by kernel_rfl) (by kernel_rfl)) ?_
  intro W base args ds gs before hval0 hW hcnd _
  have hval : ∀ (j : Nat) t v, Try.f3.params[j]? = some t → args[j]? = some v → Value.okWide Try.prog W .any base t v := hval0
  have hW' := hW
  obtain ⟨p, q, hA0, hV, rfl, hfz, hnd⟩ := hW
  have hA : DataW.TrodAll enc Try.prog W 0 (fun _ => true) true Try.f3.params.toList args.toList ds p := hA0
  rw [Try.params3] at hA hval
  obtain ⟨v0, vs0, d0, ds0, p0, q0, hargs, rfl, rfl, h0, r0⟩ := trodAll_cons hA
  obtain ⟨rfl, rfl, rfl⟩ := trodAll_nil r0
  obtain rfl : args = #[v0] := by cases args; simp_all
  obtain ⟨rfl, rfl⟩ := trodVars_none hV
  have k0 := h0
  have lt0 : ∀ x ∈ p0, x.block < W.heap.size := by obtain ⟨m, hm⟩ := k0; exact DataW.trod_lt m _ _ _ hm
  obtain ⟨r, rfl, hr⟩ := open_area (hval 0 23 v0 rfl rfl) h0
  clear hA0 hval0
  refine (l_FnExactIsAreaRow r W hr).mono fun e W' ⟨he, hg⟩ => ?_
  have bel := below_of_grew hg
  subst he
  exact ⟨_, rfl, _, _, _, [], _, [], hW', trodAll_mk1 (shut_bool Try.underlying4 _), (trodAll_cons_mk (Below.trod fnExactIsAreaRow_laidOut (by kernel_rfl) (of_decide_eq_true (by kernel_rfl)) k0 bel lt0) trodAll_mk0), rfl, bel.frame _, fun h => by cases h⟩
theorem fnExactIsAreaRow_over : Rows.fnExactIsAreaRowRow.holds Try.pinned (OpenSpec.ofChange Rows.fnExactIsAreaRowSpec) :=
  OpenClaim.holds_of_wide 3 Try.f3 rfl rfl rfl rfl rfl rfl rfl ⟨rfl, rfl, rfl, rfl, rfl⟩ rfl rfl rfl rfl rfl (by kernel_rfl) Try.func3 (by kernel_rfl)
    (of_decide_eq_true (by kernel_rfl)) (by unfold Func.isWrapper; first | (rw [if_pos (by decide +kernel)]; kernel_rfl) | (rw [if_neg (by decide +kernel)]; exact ⟨rfl, rfl⟩))
    (fun os started H enc _ => fnExactIsAreaRow_lifted os started H enc)
theorem fnExactIsAreaRow_holds : Rows.FnExactIsAreaRowSaid := fnExactIsAreaRow_over
end Go.Proofs.Ytbglldjdagnojaa
