/- The law FnExactLinesToDo. No condition. -/
import Derived.Test.YtcmeiojfmpkkeaaRows
import Derived.Test.YtcmeiojfmpkkeaaD4
import Derived.Test.YtcmeiojfmpkkeaaD5
import Derived.Test.YtcmeiojfmpkkeaaOpenDay
import Derived.Deep.RegionWith
namespace Go.Proofs.Ytcmeiojfmpkkeaa
open Go.ChangeShapes Go.WideShapes Go.ChangeAt Go.RowKit Go.Deep Go.Joins
open Go.ChangeMaps (open_string shut_string)

set_option maxHeartbeats 4000000 in
theorem l_FnExactLinesToDo (v : DayV) (w : World) (hv : v.At w) :
    Calls Try.prog 7 #[v.val] w fun e' w' => e' = .returned (.bool true) ∧ ∃ g, w' = plus w g := by
  have HV := hid hv
  have hT := todoF_len v.core
  clear hv
  go_enter Try.func7, Try.ntmps7
  go_wp2_with fail
  (refine (l_szSurveyDay v _ _ (HV.out.alloc _) (by omega) (by omega)).mono ?_; rintro e w' ⟨⟨kz, rfl, hkz, hkz1, hkz2⟩, gx, rfl⟩)
  by_cases hneg : kz < 0
  · go_wp2_with fail
    go_ret
    exact ⟨rfl, by (repeat (first | with_reducible exact grew_refl _ | with_reducible assumption | with_reducible refine grew_split ?_ | with_reducible refine grew_mk ?_ | with_reducible refine grew_plus ?_ | with_reducible refine grew_alloc ?_ | with_reducible refine grew_drew ?_ | (with_reducible refine grew_set ?_ (by first | exact Nat.le_refl _ | omega | (simp [go_sem]; done) | (simp [go_sem]; omega)))))⟩
  have hl' := hkz2 (by omega)
  clear hkz2
  go_wp2_with fail
  (refine (l_toSurveyDay v _ (HV.out.grew (by (repeat (first | with_reducible exact grew_refl _ | with_reducible assumption | with_reducible refine grew_split ?_ | with_reducible refine grew_mk ?_ | with_reducible refine grew_plus ?_ | with_reducible refine grew_alloc ?_ | with_reducible refine grew_drew ?_ | (with_reducible refine grew_set ?_ (by first | exact Nat.le_refl _ | omega | (simp [go_sem]; done) | (simp [go_sem]; omega))))))) hl').mono ?_; rintro e w' ⟨⟨AU1, cU1, rfl, huU1, hoU1⟩, gxU1, rfl⟩; (try rw [plus_plus] at huU1 hoU1); have U1 := hid huU1; have U1o := hid hoU1; clear huU1 hoU1; go_wp2_with fail)
  refine (s_LinesToDo ⟨v.core, _, _⟩ _ U1.out).mono ?_
  rintro e w' ⟨⟨A1', d1, rfl, hO1⟩, gs1, rfl⟩
  (try rw [plus_plus] at hO1)
  have O1 := hid (hO1.sl intRow_len)
  clear hO1
  go_wp2_with fail
  (refine (l_toSurveyDay v _ (HV.out.grew (by (repeat (first | with_reducible exact grew_refl _ | with_reducible assumption | with_reducible refine grew_split ?_ | with_reducible refine grew_mk ?_ | with_reducible refine grew_plus ?_ | with_reducible refine grew_alloc ?_ | with_reducible refine grew_drew ?_ | (with_reducible refine grew_set ?_ (by first | exact Nat.le_refl _ | omega | (simp [go_sem]; done) | (simp [go_sem]; omega))))))) hl').mono ?_; rintro e w' ⟨⟨AU2, cU2, rfl, huU2, hoU2⟩, gxU2, rfl⟩; (try rw [plus_plus] at huU2 hoU2); have U2 := hid huU2; have U2o := hid hoU2; clear huU2 hoU2; go_wp2_with fail)
  refine (i_LinesToDo ⟨v.core, _, _⟩ _ (U2.out.grew (by (repeat (first | with_reducible exact grew_refl _ | with_reducible assumption | with_reducible refine grew_split ?_ | with_reducible refine grew_mk ?_ | with_reducible refine grew_plus ?_ | with_reducible refine grew_alloc ?_ | with_reducible refine grew_drew ?_ | (with_reducible refine grew_set ?_ (by first | exact Nat.le_refl _ | omega | (simp [go_sem]; done) | (simp [go_sem]; omega)))))))).mono ?_
  rintro e w' ⟨⟨A2', d2, rfl, hO2⟩, gs2, rfl⟩
  (try rw [plus_plus] at hO2)
  have O2 := hid (hO2.f intRow_len)
  clear hO2
  go_wp2_with fail
  (refine (l_eqIntS (todoF v.core) A2' A1' d2 d1 _ (O2.out.sl.grew (by (repeat (first | with_reducible exact grew_refl _ | with_reducible assumption | with_reducible refine grew_split ?_ | with_reducible refine grew_mk ?_ | with_reducible refine grew_plus ?_ | with_reducible refine grew_alloc ?_ | with_reducible refine grew_drew ?_ | (with_reducible refine grew_set ?_ (by first | exact Nat.le_refl _ | omega | (simp [go_sem]; done) | (simp [go_sem]; omega))))))) (O1.out.grew (by (repeat (first | with_reducible exact grew_refl _ | with_reducible assumption | with_reducible refine grew_split ?_ | with_reducible refine grew_mk ?_ | with_reducible refine grew_plus ?_ | with_reducible refine grew_alloc ?_ | with_reducible refine grew_drew ?_ | (with_reducible refine grew_set ?_ (by first | exact Nat.le_refl _ | omega | (simp [go_sem]; done) | (simp [go_sem]; omega))))))) (by unfold maxLen; omega)).mono ?_; rintro e w' ⟨rfl, gxs, rfl⟩; go_wp2_with fail)
  (go_region_with (first | (go_at_call 14; refine (l_toSurveyDay v _ (HV.out.grew (by (repeat (first | with_reducible exact grew_refl _ | with_reducible assumption | with_reducible refine grew_split ?_ | with_reducible refine grew_mk ?_ | with_reducible refine grew_plus ?_ | with_reducible refine grew_alloc ?_ | with_reducible refine grew_drew ?_ | (with_reducible refine grew_set ?_ (by first | exact Nat.le_refl _ | omega | (simp [go_sem]; done) | (simp [go_sem]; omega))))))) hl').mono ?_; rintro e w' ⟨⟨A3, c3, rfl, hu3, ho3⟩, g5, rfl⟩; (try rw [plus_plus] at hu3); have U3 := hid hu3; clear hu3 ho3) | (go_at_call 16; refine (l_eqSurveyDay v.core _ _ _ _ _ (U2.out.grew (by (repeat (first | with_reducible exact grew_refl _ | with_reducible assumption | with_reducible refine grew_split ?_ | with_reducible refine grew_mk ?_ | with_reducible refine grew_plus ?_ | with_reducible refine grew_alloc ?_ | with_reducible refine grew_drew ?_ | (with_reducible refine grew_set ?_ (by first | exact Nat.le_refl _ | omega | (simp [go_sem]; done) | (simp [go_sem]; omega))))))) (U3.out.grew (by (repeat (first | with_reducible exact grew_refl _ | with_reducible assumption | with_reducible refine grew_split ?_ | with_reducible refine grew_mk ?_ | with_reducible refine grew_plus ?_ | with_reducible refine grew_alloc ?_ | with_reducible refine grew_drew ?_ | (with_reducible refine grew_set ?_ (by first | exact Nat.le_refl _ | omega | (simp [go_sem]; done) | (simp [go_sem]; omega)))))))).mono ?_; rintro e w' ⟨rfl, g6, rfl⟩)))
  all_goals
    go_wp2_with fail
    have hR := U2o.out.f.row
    refine (l_markSurveyDay _ ⟨v.core, AU2, cU2⟩ 1 _ (U2o.out.f.grew (by (repeat (first | with_reducible exact grew_refl _ | with_reducible assumption | with_reducible refine grew_split ?_ | with_reducible refine grew_mk ?_ | with_reducible refine grew_plus ?_ | with_reducible refine grew_alloc ?_ | with_reducible refine grew_drew ?_ | (with_reducible refine grew_set ?_ (by first | exact Nat.le_refl _ | omega | (simp [go_sem]; done) | (simp [go_sem]; omega))))))) (by simp only; omega) (by omega) (by omega)).mono ?_
    rintro e w' ⟨rfl, -, hG⟩
    have hO3 := (O2.out.grew (by (repeat (first | with_reducible exact grew_refl _ | with_reducible assumption | with_reducible refine grew_split ?_ | with_reducible refine grew_mk ?_ | with_reducible refine grew_plus ?_ | with_reducible refine grew_alloc ?_ | with_reducible refine grew_drew ?_ | (with_reducible refine grew_set ?_ (by first | exact Nat.le_refl _ | omega | (simp [go_sem]; done) | (simp [go_sem]; omega))))))).kept hG (fun k hk => by have := (hR k hk).2; simp [go_sem] at this ⊢; omega)
    obtain ⟨gm, rfl⟩ := grew_grown (by (repeat (first | with_reducible exact grew_refl _ | with_reducible assumption | with_reducible refine grew_split ?_ | with_reducible refine grew_mk ?_ | with_reducible refine grew_plus ?_ | with_reducible refine grew_alloc ?_ | with_reducible refine grew_drew ?_ | (with_reducible refine grew_set ?_ (by first | exact Nat.le_refl _ | omega | (simp [go_sem]; done) | (simp [go_sem]; omega)))))) hG (fun k hk => (hR k hk).1)
    (try rw [plus_plus] at hO3)
    have O3 := hid hO3
    clear hG hR hO3
    go_wp2_with fail
    (refine (l_eqIntS (todoF v.core) A2' A1' d2 d1 _ (O3.out.sl.grew (by (repeat (first | with_reducible exact grew_refl _ | with_reducible assumption | with_reducible refine grew_split ?_ | with_reducible refine grew_mk ?_ | with_reducible refine grew_plus ?_ | with_reducible refine grew_alloc ?_ | with_reducible refine grew_drew ?_ | (with_reducible refine grew_set ?_ (by first | exact Nat.le_refl _ | omega | (simp [go_sem]; done) | (simp [go_sem]; omega))))))) (O1.out.grew (by (repeat (first | with_reducible exact grew_refl _ | with_reducible assumption | with_reducible refine grew_split ?_ | with_reducible refine grew_mk ?_ | with_reducible refine grew_plus ?_ | with_reducible refine grew_alloc ?_ | with_reducible refine grew_drew ?_ | (with_reducible refine grew_set ?_ (by first | exact Nat.le_refl _ | omega | (simp [go_sem]; done) | (simp [go_sem]; omega))))))) (by unfold maxLen; omega)).mono ?_; rintro e w' ⟨rfl, gxs, rfl⟩; go_wp2_with fail)
    have hR := O3.out.row
    refine (l_markIntS _ (todoF v.core) A2' d2 1 _ (O3.out.grew (by (repeat (first | with_reducible exact grew_refl _ | with_reducible assumption | with_reducible refine grew_split ?_ | with_reducible refine grew_mk ?_ | with_reducible refine grew_plus ?_ | with_reducible refine grew_alloc ?_ | with_reducible refine grew_drew ?_ | (with_reducible refine grew_set ?_ (by first | exact Nat.le_refl _ | omega | (simp [go_sem]; done) | (simp [go_sem]; omega))))))) (by omega) (by omega) (by omega)).mono ?_
    rintro e w' ⟨rfl, hM, hG⟩
    obtain ⟨gn, rfl⟩ := grew_grown (w0 := plus (w.alloc (.cells #[.int .i64 v.core.minute, .int .i64 v.core.state, .slice v.A v.core.lines.length v.c, .int .i64 v.core.line, .int .i64 v.core.since, .int .i64 v.core.cast, .int .i64 v.core.fuel] 24)) ((gx.add gxU1).add gs1)) (by (repeat (first | with_reducible exact grew_refl _ | with_reducible assumption | with_reducible refine grew_split ?_ | with_reducible refine grew_mk ?_ | with_reducible refine grew_plus ?_ | with_reducible refine grew_alloc ?_ | with_reducible refine grew_drew ?_ | (with_reducible refine grew_set ?_ (by first | exact Nat.le_refl _ | omega | (simp [go_sem]; done) | (simp [go_sem]; omega)))))) hG (fun k hk => by have := (hR k hk).1; simp [go_sem, Ext.add] at this ⊢; omega)
    (try rw [plus_plus] at hM)
    have O4 := hid hM
    clear hG hR hM
    go_wp2_with fail
    (refine (l_heldIntS (todoF v.core).length A2' d2 1 _ (O4.out.sl.grew (by (repeat (first | with_reducible exact grew_refl _ | with_reducible assumption | with_reducible refine grew_split ?_ | with_reducible refine grew_mk ?_ | with_reducible refine grew_plus ?_ | with_reducible refine grew_alloc ?_ | with_reducible refine grew_drew ?_ | (with_reducible refine grew_set ?_ (by first | exact Nat.le_refl _ | omega | (simp [go_sem]; done) | (simp [go_sem]; omega))))))) (by omega) (by omega) (by omega)).mono ?_; rintro e w' ⟨rfl, gxs, rfl⟩; go_wp2_with fail)
    (refine (l_toSurveyDay v _ (HV.out.grew (by (repeat (first | with_reducible exact grew_refl _ | with_reducible assumption | with_reducible refine grew_split ?_ | with_reducible refine grew_mk ?_ | with_reducible refine grew_plus ?_ | with_reducible refine grew_alloc ?_ | with_reducible refine grew_drew ?_ | (with_reducible refine grew_set ?_ (by first | exact Nat.le_refl _ | omega | (simp [go_sem]; done) | (simp [go_sem]; omega))))))) hl').mono ?_; rintro e w' ⟨⟨AU3, cU3, rfl, huU3, hoU3⟩, gxU3, rfl⟩; (try rw [plus_plus] at huU3 hoU3); have U3 := hid huU3; have U3o := hid hoU3; clear huU3 hoU3; go_wp2_with fail)
    refine (i_LinesToDo ⟨v.core, _, _⟩ _ (U3.out.grew (by (repeat (first | with_reducible exact grew_refl _ | with_reducible assumption | with_reducible refine grew_split ?_ | with_reducible refine grew_mk ?_ | with_reducible refine grew_plus ?_ | with_reducible refine grew_alloc ?_ | with_reducible refine grew_drew ?_ | (with_reducible refine grew_set ?_ (by first | exact Nat.le_refl _ | omega | (simp [go_sem]; done) | (simp [go_sem]; omega)))))))).mono ?_
    rintro e w' ⟨⟨A3', d3, rfl, hO2⟩, gs3, rfl⟩
    (try rw [plus_plus] at hO2)
    have O5 := hid (hO2.f intRow_len)
    clear hO2
    go_wp2_with fail
    (refine (l_eqIntS (todoF v.core) A3' A1' d3 d1 _ (O5.out.sl.grew (by (repeat (first | with_reducible exact grew_refl _ | with_reducible assumption | with_reducible refine grew_split ?_ | with_reducible refine grew_mk ?_ | with_reducible refine grew_plus ?_ | with_reducible refine grew_alloc ?_ | with_reducible refine grew_drew ?_ | (with_reducible refine grew_set ?_ (by first | exact Nat.le_refl _ | omega | (simp [go_sem]; done) | (simp [go_sem]; omega))))))) (O1.out.grew (by (repeat (first | with_reducible exact grew_refl _ | with_reducible assumption | with_reducible refine grew_split ?_ | with_reducible refine grew_mk ?_ | with_reducible refine grew_plus ?_ | with_reducible refine grew_alloc ?_ | with_reducible refine grew_drew ?_ | (with_reducible refine grew_set ?_ (by first | exact Nat.le_refl _ | omega | (simp [go_sem]; done) | (simp [go_sem]; omega))))))) (by unfold maxLen; omega)).mono ?_; rintro e w' ⟨rfl, gxs, rfl⟩; go_wp2_with fail)
    (refine (l_heldIntS (todoF v.core).length A2' d2 1 _ (O4.out.sl.grew (by (repeat (first | with_reducible exact grew_refl _ | with_reducible assumption | with_reducible refine grew_split ?_ | with_reducible refine grew_mk ?_ | with_reducible refine grew_plus ?_ | with_reducible refine grew_alloc ?_ | with_reducible refine grew_drew ?_ | (with_reducible refine grew_set ?_ (by first | exact Nat.le_refl _ | omega | (simp [go_sem]; done) | (simp [go_sem]; omega))))))) (by omega) (by omega) (by omega)).mono ?_; rintro e w' ⟨rfl, gxs, rfl⟩; go_wp2_with fail)
    go_ret
    exact ⟨rfl, by (repeat (first | with_reducible exact grew_refl _ | with_reducible assumption | with_reducible refine grew_split ?_ | with_reducible refine grew_mk ?_ | with_reducible refine grew_plus ?_ | with_reducible refine grew_alloc ?_ | with_reducible refine grew_drew ?_ | (with_reducible refine grew_set ?_ (by first | exact Nat.le_refl _ | omega | (simp [go_sem]; done) | (simp [go_sem]; omega)))))⟩
theorem fnExactLinesToDo_own : ownKnob Try.prog.godebug = none := by kernel_rfl
theorem fnExactLinesToDo_laidOut : laidOutB Try.prog = true := by kernel_rfl
set_option maxRecDepth 100000 in
theorem fnExactLinesToDo_lifted (os : Os) (started : os.Started) (H : Type) (enc : TypeId × Value → H) :
    ReturnsInHanded {} Try.checked os 7 .any (Rows.fnExactLinesToDoSpec.pre6 enc Try.prog Try.f7 Rows.fnExactLinesToDoRow.domain false) (Rows.fnExactLinesToDoSpec.post enc Try.prog Try.f7 false true false false) := by
  refine returnsInHanded_of_change (C := Try.checked) fnExactLinesToDo_own started (by kernel_rfl) Try.func7
    (ChangeSpec.witness6 (enc := enc) (C := Try.checked) false ⟨#[], #[.agg #[.int .i64 0, .int .i64 0, .slice none 0 0, .int .i64 0, .int .i64 0, .int .i64 0, .int .i64 0]], []⟩ 8 (by kernel_rfl) (by kernel_rfl) (by kernel_rfl) (by kernel_rfl)) ?_
  intro W base args ds gs before hval0 hW hcnd _
  have hval : ∀ (j : Nat) t v, Try.f7.params[j]? = some t → args[j]? = some v → Value.okWide Try.prog W .any base t v := hval0
  have hW' := hW
  obtain ⟨p, q, hA0, hV, rfl, hfz, hnd⟩ := hW
  have hA : DataW.TrodAll enc Try.prog W 0 (fun _ => true) true Try.f7.params.toList args.toList ds p := hA0
  rw [Try.params7] at hA hval
  obtain ⟨v0, vs0, d0, ds0, p0, q0, hargs, rfl, rfl, h0, r0⟩ := trodAll_cons hA
  obtain ⟨rfl, rfl, rfl⟩ := trodAll_nil r0
  obtain rfl : args = #[v0] := by cases args; simp_all
  obtain ⟨rfl, rfl⟩ := trodVars_none hV
  have k0 := h0
  have lt0 : ∀ x ∈ p0, x.block < W.heap.size := by obtain ⟨m, hm⟩ := k0; exact DataW.trod_lt m _ _ _ hm
  obtain ⟨u, rfl, hu⟩ := open_day (hval 0 24 v0 rfl rfl) h0
  clear hA0 hval0
  refine (l_FnExactLinesToDo u W hu).mono fun e W' ⟨he, hg⟩ => ?_
  have bel := below_of_grew hg
  subst he
  exact ⟨_, rfl, _, _, _, [], _, [], hW', trodAll_mk1 (shut_bool Try.underlying4 _), (trodAll_cons_mk (Below.trod fnExactLinesToDo_laidOut (by kernel_rfl) (of_decide_eq_true (by kernel_rfl)) k0 bel lt0) trodAll_mk0), rfl, bel.frame _, fun h => by cases h⟩
theorem fnExactLinesToDo_over : Rows.fnExactLinesToDoRow.holds Try.pinned (OpenSpec.ofChange Rows.fnExactLinesToDoSpec) :=
  OpenClaim.holds_of_wide 7 Try.f7 rfl rfl rfl rfl rfl rfl rfl ⟨rfl, rfl, rfl, rfl, rfl⟩ rfl rfl rfl rfl rfl (by kernel_rfl) Try.func7 (by kernel_rfl)
    (of_decide_eq_true (by kernel_rfl)) (by unfold Func.isWrapper; first | (rw [if_pos (by decide +kernel)]; kernel_rfl) | (rw [if_neg (by decide +kernel)]; exact ⟨rfl, rfl⟩))
    (fun os started H enc _ => fnExactLinesToDo_lifted os started H enc)
theorem fnExactLinesToDo_holds : Rows.FnExactLinesToDoSaid := fnExactLinesToDo_over
end Go.Proofs.Ytcmeiojfmpkkeaa
