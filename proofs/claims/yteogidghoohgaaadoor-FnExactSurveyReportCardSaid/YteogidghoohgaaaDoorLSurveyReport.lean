/- The law FnExactSurveyReport: the function returns what the reference returns, and leaves its argument. No condition beyond the row's own: the tables that strconv reads hold what they hold at the start. -/
import Derived.Test.YteogidghoohgaaaDoorDoor
import Derived.Test.YteogidghoohgaaaDoorB1
import Derived.Test.YteogidghoohgaaaDoorA3
import Derived.Test.YteogidghoohgaaaDoorOpenArea
namespace Go.Proofs.YteogidghoohgaaaDoor
open Go.ChangeShapes Go.WideShapes Go.ChangeAt Go.RowKit Go.Deep Go.Joins
open Go.ChangeMaps (open_string shut_string)

set_option maxHeartbeats 1000000 in
theorem l_FnExactSurveyReport (l : List AreaR) (A : Option Addr) (c : Nat) (w : World) (hA : Sl w 6 AreaR.row A l) (hs : ∀ r ∈ l, r.nm.size ≤ maxLen) (hl : l.length ≤ maxLen) (hT : Tab w) :
    Calls Tryd.prog 3 #[.slice A l.length c] w fun e' w' => e' = .returned (.bool true) ∧ ∃ g, w' = plus w g := by
  have HT := hid hT
  have HA := hid hA
  have HS := hid hs
  clear hT hA hs
  have t1 : ((reportF l).1.toList == (reportF l).1.toList) = true := by simp
  have t2 : ((reportF l).2 == (reportF l).2) = true := by simp
  have t3 : ((reportF l).2 != (reportF l).2) = false := by simp
  go_enter Tryd.func3, Tryd.ntmps3
  go_wp2_with fail
  refine (l_szAreaRowS l A c _ _ HA.out hl HS.out (by omega) (by omega)).mono ?_
  rintro e w' ⟨⟨kz, rfl, hkz, hkz'⟩, gx, rfl⟩
  by_cases hneg : kz < 0
  · go_wp2_with fail
    go_ret
    exact ⟨rfl, by (repeat (first | with_reducible exact grew_refl _ | with_reducible assumption | with_reducible refine grew_split ?_ | with_reducible refine grew_mk ?_ | with_reducible refine grew_plus ?_ | with_reducible refine grew_alloc ?_ | with_reducible refine grew_drew ?_ | (with_reducible refine grew_set ?_ (by first | exact Nat.le_refl _ | omega | (simp [go_sem]; done) | (simp [go_sem]; omega)))))⟩
  have hl' := hkz' (by omega)
  clear hkz'
  go_wp2_with fail
  (refine (l_toAreaRowS l A c _ (by (first | with_reducible exact (HA.out.plus _) | with_reducible exact (HA.out.plus _).plus _ | with_reducible exact (HA.out.plus _).add _ | with_reducible exact ((HA.out.plus _).add _).add _ | with_reducible exact (((HA.out.plus _).add _).add _).add _ | with_reducible exact ((((HA.out.plus _).add _).add _).add _).add _ | with_reducible exact (((((HA.out.plus _).add _).add _).add _).add _).add _ | with_reducible exact ((((((HA.out.plus _).add _).add _).add _).add _).add _).add _)) (by omega)).mono ?_; rintro e w' ⟨⟨gbX1, csX1, rfl, hgX1, hBX1, hsX1, hFX1⟩, gxX1, rfl⟩; have X1 := hid (Sl.of_blk hBX1 hFX1); clear hBX1 hsX1 hFX1 hgX1; (try rw [plus_plus] at X1); go_wp2_with fail)
  (refine (s_SurveyReport l _ _ _ X1.out HS.out hl).mono ?_; rintro e w' ⟨rfl, gxs, rfl⟩; go_wp2_with fail)
  (refine (l_toAreaRowS l A c _ (by (first | with_reducible exact (HA.out.plus gx) | with_reducible exact (HA.out.plus gx).plus _ | with_reducible exact (HA.out.plus gx).add _ | with_reducible exact ((HA.out.plus gx).add _).add _ | with_reducible exact (((HA.out.plus gx).add _).add _).add _ | with_reducible exact ((((HA.out.plus gx).add _).add _).add _).add _ | with_reducible exact (((((HA.out.plus gx).add _).add _).add _).add _).add _ | with_reducible exact ((((((HA.out.plus gx).add _).add _).add _).add _).add _).add _)) (by omega)).mono ?_; rintro e w' ⟨⟨gbX2, csX2, rfl, hgX2, hBX2, hsX2, hFX2⟩, gxX2, rfl⟩; have X2 := hid (Sl.of_blk hBX2 hFX2); clear hBX2 hsX2 hFX2 hgX2; (try rw [plus_plus] at X2); go_wp2_with fail)
  (refine (i_SurveyReport l _ _ _ X2.out HS.out hl (HT.out.grew (by (repeat (first | with_reducible exact grew_refl _ | with_reducible assumption | with_reducible refine grew_split ?_ | with_reducible refine grew_mk ?_ | with_reducible refine grew_plus ?_ | with_reducible refine grew_alloc ?_ | with_reducible refine grew_drew ?_ | (with_reducible refine grew_set ?_ (by first | exact Nat.le_refl _ | omega | (simp [go_sem]; done) | (simp [go_sem]; omega)))))))).mono ?_; rintro e w' ⟨rfl, gxs, rfl⟩; go_wp2_with fail)
  (refine (l_toAreaRowS l A c _ (by (first | with_reducible exact (HA.out.plus gx) | with_reducible exact (HA.out.plus gx).plus _ | with_reducible exact (HA.out.plus gx).add _ | with_reducible exact ((HA.out.plus gx).add _).add _ | with_reducible exact (((HA.out.plus gx).add _).add _).add _ | with_reducible exact ((((HA.out.plus gx).add _).add _).add _).add _ | with_reducible exact (((((HA.out.plus gx).add _).add _).add _).add _).add _ | with_reducible exact ((((((HA.out.plus gx).add _).add _).add _).add _).add _).add _)) (by omega)).mono ?_; rintro e w' ⟨⟨gbX3, csX3, rfl, hgX3, hBX3, hsX3, hFX3⟩, gxX3, rfl⟩; have X3 := hid (Sl.of_blk hBX3 hFX3); clear hBX3 hsX3 hFX3 hgX3; (try rw [plus_plus] at X3); go_wp2_with fail)
  (refine (l_eqAreaRowS l _ _ _ _ _ (by (first | with_reducible exact X2.out | with_reducible exact X2.out.plus _ | with_reducible exact X2.out.add _ | with_reducible exact (X2.out.add _).add _ | with_reducible exact ((X2.out.add _).add _).add _ | with_reducible exact (((X2.out.add _).add _).add _).add _ | with_reducible exact ((((X2.out.add _).add _).add _).add _).add _ | with_reducible exact (((((X2.out.add _).add _).add _).add _).add _).add _)) X3.out hl).mono ?_; rintro e w' ⟨rfl, gxs, rfl⟩; go_wp2_with fail)
  go_ret
  exact ⟨rfl, by (repeat (first | with_reducible exact grew_refl _ | with_reducible assumption | with_reducible refine grew_split ?_ | with_reducible refine grew_mk ?_ | with_reducible refine grew_plus ?_ | with_reducible refine grew_alloc ?_ | with_reducible refine grew_drew ?_ | (with_reducible refine grew_set ?_ (by first | exact Nat.le_refl _ | omega | (simp [go_sem]; done) | (simp [go_sem]; omega)))))⟩
theorem fnExactSurveyReport_met (os : Os) : laidMet Tryd.prog Rows.fnExactSurveyReportRow.laid ((laidWorld os).forCall (fun _ _ => 0) ⟨#[], #[.slice none 0 0], []⟩).memory :=
  laidMet_of_run' 8 (by kernel_rfl) (by kernel_rfl)
theorem fnExactSurveyReport_reads (os : Os) {H : Type} (enc : TypeId × Value → H) : ∃ places, DataW.whole enc Tryd.prog ((laidWorld os).forCall (fun _ _ => 0) ⟨#[], #[.slice none 0 0], []⟩).memory Tryd.f3.params.toList Rows.fnExactSurveyReportSpec.vars false (#[.slice none 0 0] : Array Value).toList 8 = some ([.nil], [], places) :=
  ⟨[], by kernel_rfl⟩
set_option maxRecDepth 100000 in
theorem fnExactSurveyReport_contract (H : Type) (enc : TypeId × Value → H) (W : World) (base : Nat) (args : Array Value) (ds gs : List (DataW H)) (before : List MemPlace)
    (hval0 : ∀ (j : Nat) t v, Tryd.f3.params[j]? = some t → args[j]? = some v → Value.okWide Tryd.prog W .any base t v)
    (hW : DataW.Whole enc Tryd.prog Tryd.f3.params.toList Rows.fnExactSurveyReportSpec.vars false W args.toList ds gs before) (hL : laidMetH Tryd.prog Rows.fnExactSurveyReportRow.laid W) (_hsh : W.ShapedOpen Tryd.prog) :
    Calls Tryd.prog 3 args W fun e W' => ∃ v, e = .returned v ∧ Rows.fnExactSurveyReportSpec.post enc Tryd.prog Tryd.f3 false true false false W args v W' := by
  have hT : Tab W := tab_of hL
  have hval := hval0
  have hW' := hW
  obtain ⟨p, q, hA0, hV, rfl, hfz, hnd⟩ := hW
  have hA : DataW.TrodAll enc Tryd.prog W 0 (fun _ => true) true Tryd.f3.params.toList args.toList ds p := hA0
  rw [Tryd.params3] at hA hval
  obtain ⟨v0, vs0, d0, ds0, p0, q0, hargs, rfl, rfl, h0, r0⟩ := trodAll_cons hA
  obtain ⟨rfl, rfl, rfl⟩ := trodAll_nil r0
  obtain rfl : args = #[v0] := by cases args; simp_all
  obtain ⟨rfl, rfl⟩ := trodVars_none hV
  have k0 := h0
  have lt0 : ∀ x ∈ p0, x.block < W.heap.size := by obtain ⟨m, hm⟩ := k0; exact DataW.trod_lt m _ _ _ hm
  obtain ⟨A, c, l, rfl, hS, hs, hl⟩ := open_areas (hval 0 22 v0 rfl rfl) h0
  clear hA0 hval0
  refine (l_FnExactSurveyReport l A c W hS hs hl hT).mono fun e W' ⟨he, hg⟩ => ?_
  have bel := below_of_grew hg
  subst he
  exact ⟨_, rfl, _, _, _, [], _, [], hW', trodAll_mk1 (shut_bool Tryd.underlying4 _), (trodAll_cons_mk (Below.trod laid_out (by kernel_rfl) (of_decide_eq_true (by kernel_rfl)) k0 bel lt0) trodAll_mk0), rfl, bel.frame _, fun h => by cases h⟩
set_option maxRecDepth 100000 in
theorem fnExactSurveyReport_lifted (os : Os) (started : os.Started) (H : Type) (enc : TypeId × Value → H) (F : Stop.Interp) :
    ReturnsInHanded {} Tryd.checked os 3 .any ((OpenSpec.ofChange Rows.fnExactSurveyReportSpec).preRow enc Tryd.prog Tryd.f3 Rows.fnExactSurveyReportRow.domain false Rows.fnExactSurveyReportRow.laid) (((OpenSpec.ofChange Rows.fnExactSurveyReportSpec).at F).post enc Tryd.prog Tryd.f3 false true false false) := by
  obtain ⟨places, hx⟩ := fnExactSurveyReport_reads os enc
  refine returnsInHanded_of_row (C := Tryd.checked) (s := OpenSpec.ofChange Rows.fnExactSurveyReportSpec) own_knob started (by kernel_rfl) Tryd.func3
    (witness_row_at (enc := enc) (C := Tryd.checked) false (laidWorld os) #[.slice none 0 0] rfl (by kernel_rfl) (by kernel_rfl) (by kernel_rfl)
      (OpenSpec.preRow_of_cond 8 hx (by kernel_rfl) (fun k hk => by cases hk) (by kernel_rfl) (fnExactSurveyReport_met os))) ?_
  intro W base args ds gs before hval hW _ _ _ hL hsh _
  exact fnExactSurveyReport_contract H enc W base args ds gs before hval hW hL hsh
theorem fnExactSurveyReport_said : Rows.FnExactSurveyReportSaid :=
  OpenClaim.holds_of_cond 3 Tryd.f3 rfl rfl rfl rfl rfl rfl rfl ⟨rfl, rfl, rfl, rfl, rfl⟩ rfl rfl rfl rfl rfl (by kernel_rfl) Tryd.func3 (by kernel_rfl)
    (of_decide_eq_true (by kernel_rfl)) (by unfold Func.isWrapper; first | (rw [if_pos (by decide +kernel)]; kernel_rfl) | (rw [if_neg (by decide +kernel)]; exact ⟨rfl, rfl⟩))
    (fun os started H enc _ F => by rw [OpenClaim.pre_eq_preRow]; exact fnExactSurveyReport_lifted os started H enc F)
theorem fnExactSurveyReport_plain (f : FuncId) (fn : Func) (hf : Tryd.pinned.checked.prog.funcNamed Rows.fnExactSurveyReportRow.func = some f) (hfn : Tryd.pinned.checked.prog.funcs[f]? = some fn) :
    false = Tryd.pinned.checked.prog.looks [] ∧ ∀ (j : Nat) t, fn.params[j]? = some t → Tryd.pinned.checked.prog.wantsStandIn t = false := by
  obtain rfl : f = 3 := Option.some.inj ((show Tryd.prog.funcNamed Rows.fnExactSurveyReportRow.func = some 3 by kernel_rfl).symm.trans hf) |>.symm
  obtain rfl : fn = Tryd.f3 := (Option.some.inj (Tryd.func3.symm.trans hfn)).symm
  refine ⟨by kernel_rfl, fun j t ht => ?_⟩
  have h : ∀ t ∈ Tryd.f3.params.toList, Tryd.prog.wantsStandIn t = false := by rw [Tryd.params3]; intro t ht; simp at ht; rcases ht with rfl <;> kernel_rfl
  exact h t (by simpa using Array.mem_of_getElem? ht)
theorem fnExactSurveyReport_holds : Rows.FnExactSurveyReportCardSaid :=
  Claim7.holds_tied_plain_at .later [] _ _ _ _ fnExactSurveyReport_said (fun _ h => by cases h) (by kernel_rfl) (fun _ h => by cases h) fnExactSurveyReport_row_tie rfl ⟨rfl, rfl⟩ (by kernel_rfl) rfl fnExactSurveyReport_plain (by kernel_rfl)
end Go.Proofs.YteogidghoohgaaaDoor
