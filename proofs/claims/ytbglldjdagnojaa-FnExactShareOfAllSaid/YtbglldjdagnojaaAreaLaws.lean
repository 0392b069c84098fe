/- The laws FnExactMinutesToDo and FnExactShareOfAll. No condition. -/
import Derived.Test.YtbglldjdagnojaaRows
import Derived.Test.YtbglldjdagnojaaA3
import Derived.Test.YtbglldjdagnojaaA6
import Derived.Test.YtbglldjdagnojaaOpenArea
namespace Go.Proofs.Ytbglldjdagnojaa
open Go.ChangeShapes Go.WideShapes Go.ChangeAt Go.RowKit Go.Deep Go.Joins
open Go.ChangeMaps (open_string shut_string)

set_option maxHeartbeats 1000000 in
theorem l_FnExactMinutesToDo (l : List AreaR) (A : Option Addr) (c : Nat) (s : ByteArray) (w : World) (hA : Sl w 6 AreaR.row A l) (hs : ∀ r ∈ l, r.nm.size ≤ maxLen) (hl : l.length ≤ maxLen) (_hsz : s.size ≤ maxLen) :
    Calls Try.prog 5 #[.slice A l.length c, .string s] w fun e' w' => e' = .returned (.bool true) ∧ ∃ g, w' = plus w g := by
  by_cases hbig : 1048576 < (s.size : Int)
  · go_enter Try.func5, Try.ntmps5
    go_wp2_with fail
    go_ret
    exact ⟨rfl, by (repeat (first | with_reducible exact grew_refl _ | with_reducible assumption | with_reducible refine grew_plus ?_ | with_reducible refine grew_alloc ?_ | with_reducible refine grew_drew ?_ | (with_reducible refine grew_set ?_ (by first | exact Nat.le_refl _ | omega | (simp [go_sem]; done) | (simp [go_sem]; omega)))))⟩
  go_enter Try.func5, Try.ntmps5
  go_wp2_with fail
  (refine (l_szAreaRowS l A c _ _ hA hl hs (by omega) (by omega)).mono ?_; rintro e w' ⟨⟨kz, rfl, hkz, hkz'⟩, gx, rfl⟩)
  have HS := hid hs
  have HA := hid hA
  clear hs hA
  by_cases hneg : kz < 0
  · go_wp2_with fail
    go_ret
    exact ⟨rfl, by (repeat (first | with_reducible exact grew_refl _ | with_reducible assumption | with_reducible refine grew_plus ?_ | with_reducible refine grew_alloc ?_ | with_reducible refine grew_drew ?_ | (with_reducible refine grew_set ?_ (by first | exact Nat.le_refl _ | omega | (simp [go_sem]; done) | (simp [go_sem]; omega)))))⟩
  have hl' := hkz' (by omega)
  clear hkz'
  go_wp2_with fail
  (refine (l_toAreaRowS l A c _ (by (first | with_reducible exact (HA.out.plus _) | with_reducible exact (HA.out.plus _).plus _ | with_reducible exact (HA.out.plus _).add _ | with_reducible exact ((HA.out.plus _).add _).add _ | with_reducible exact (((HA.out.plus _).add _).add _).add _ | with_reducible exact ((((HA.out.plus _).add _).add _).add _).add _ | with_reducible exact (((((HA.out.plus _).add _).add _).add _).add _).add _ | with_reducible exact ((((((HA.out.plus _).add _).add _).add _).add _).add _).add _)) (by omega)).mono ?_; rintro e w' ⟨⟨gbX1, csX1, rfl, hgX1, hBX1, hsX1, hFX1⟩, gxX1, rfl⟩; have X1 := hid (Sl.of_blk hBX1 hFX1); clear hBX1 hsX1 hFX1 hgX1; (try rw [plus_plus] at X1); go_wp2_with fail)
  (refine (s_MinutesToDo l _ _ s _ X1.out HS.out hl).mono ?_; rintro e w' ⟨rfl, gxs, rfl⟩; go_wp2_with fail)
  (refine (l_toAreaRowS l A c _ (by (first | with_reducible exact (HA.out.plus gx) | with_reducible exact (HA.out.plus gx).plus _ | with_reducible exact (HA.out.plus gx).add _ | with_reducible exact ((HA.out.plus gx).add _).add _ | with_reducible exact (((HA.out.plus gx).add _).add _).add _ | with_reducible exact ((((HA.out.plus gx).add _).add _).add _).add _ | with_reducible exact (((((HA.out.plus gx).add _).add _).add _).add _).add _ | with_reducible exact ((((((HA.out.plus gx).add _).add _).add _).add _).add _).add _)) (by omega)).mono ?_; rintro e w' ⟨⟨gbX2, csX2, rfl, hgX2, hBX2, hsX2, hFX2⟩, gxX2, rfl⟩; have X2 := hid (Sl.of_blk hBX2 hFX2); clear hBX2 hsX2 hFX2 hgX2; (try rw [plus_plus] at X2); go_wp2_with fail)
  (refine (i_MinutesToDo l _ _ s _ X2.out HS.out hl).mono ?_; rintro e w' ⟨rfl, gxs, rfl⟩; go_wp2_with fail)
  (refine (l_toAreaRowS l A c _ (by (first | with_reducible exact (HA.out.plus gx) | with_reducible exact (HA.out.plus gx).plus _ | with_reducible exact (HA.out.plus gx).add _ | with_reducible exact ((HA.out.plus gx).add _).add _ | with_reducible exact (((HA.out.plus gx).add _).add _).add _ | with_reducible exact ((((HA.out.plus gx).add _).add _).add _).add _ | with_reducible exact (((((HA.out.plus gx).add _).add _).add _).add _).add _ | with_reducible exact ((((((HA.out.plus gx).add _).add _).add _).add _).add _).add _)) (by omega)).mono ?_; rintro e w' ⟨⟨gbX3, csX3, rfl, hgX3, hBX3, hsX3, hFX3⟩, gxX3, rfl⟩; have X3 := hid (Sl.of_blk hBX3 hFX3); clear hBX3 hsX3 hFX3 hgX3; (try rw [plus_plus] at X3); go_wp2_with fail)
  (refine (l_eqAreaRowS l _ _ _ _ _ (by (first | with_reducible exact X2.out | with_reducible exact X2.out.plus _ | with_reducible exact X2.out.add _ | with_reducible exact (X2.out.add _).add _ | with_reducible exact ((X2.out.add _).add _).add _ | with_reducible exact (((X2.out.add _).add _).add _).add _ | with_reducible exact ((((X2.out.add _).add _).add _).add _).add _ | with_reducible exact (((((X2.out.add _).add _).add _).add _).add _).add _)) X3.out hl).mono ?_; rintro e w' ⟨rfl, gxs, rfl⟩; go_wp2_with fail)
  go_ret
  exact ⟨rfl, by (repeat (first | with_reducible exact grew_refl _ | with_reducible assumption | with_reducible refine grew_plus ?_ | with_reducible refine grew_alloc ?_ | with_reducible refine grew_drew ?_ | (with_reducible refine grew_set ?_ (by first | exact Nat.le_refl _ | omega | (simp [go_sem]; done) | (simp [go_sem]; omega)))))⟩

theorem fnExactMinutesToDo_own : ownKnob Try.prog.godebug = none := by kernel_rfl
theorem fnExactMinutesToDo_laidOut : laidOutB Try.prog = true := by kernel_rfl
set_option maxRecDepth 100000 in
theorem fnExactMinutesToDo_lifted (os : Os) (started : os.Started) (H : Type) (enc : TypeId × Value → H) :
    ReturnsInHanded {} Try.checked os 5 .any (Rows.fnExactMinutesToDoSpec.pre6 enc Try.prog Try.f5 Rows.fnExactMinutesToDoRow.domain false) (Rows.fnExactMinutesToDoSpec.post enc Try.prog Try.f5 false true false false) := by
  refine returnsInHanded_of_change (C := Try.checked) fnExactMinutesToDo_own started (by kernel_rfl) Try.func5
    (ChangeSpec.witness6 (enc := enc) (C := Try.checked) false ⟨#[], #[.slice none 0 0, .string ByteArray.empty], []⟩ 8 (by kernel_rfl) (by kernel_rfl) (by kernel_rfl) (by kernel_rfl)) ?_
  intro W base args ds gs before hval0 hW hcnd _
  have hval : ∀ (j : Nat) t v, Try.f5.params[j]? = some t → args[j]? = some v → Value.okWide Try.prog W .any base t v := hval0
  have hW' := hW
  obtain ⟨p, q, hA0, hV, rfl, hfz, hnd⟩ := hW
  have hA : DataW.TrodAll enc Try.prog W 0 (fun _ => true) true Try.f5.params.toList args.toList ds p := hA0
  rw [Try.params5] at hA hval
  obtain ⟨v0, vs0, d0, ds0, p0, q0, hargs, rfl, rfl, h0, r0⟩ := trodAll_cons hA
  obtain ⟨v1, vs1, d1, ds1, p1, q1, rfl, rfl, rfl, h1, r1⟩ := trodAll_cons r0
  obtain ⟨rfl, rfl, rfl⟩ := trodAll_nil r1
  obtain rfl : args = #[v0, v1] := by cases args; simp_all
  obtain ⟨rfl, rfl⟩ := trodVars_none hV
  have k0 := h0
  have lt0 : ∀ x ∈ p0, x.block < W.heap.size := by obtain ⟨m, hm⟩ := k0; exact DataW.trod_lt m _ _ _ hm
  have k1 := h1
  have lt1 : ∀ x ∈ p1, x.block < W.heap.size := by obtain ⟨m, hm⟩ := k1; exact DataW.trod_lt m _ _ _ hm
  obtain ⟨A, c, l, rfl, hS, hs, hl⟩ := open_areas (hval 0 29 v0 rfl rfl) h0
  obtain ⟨s, rfl, _, _, hss⟩ := open_string Try.underlying9 (hval 1 9 v1 rfl rfl) h1
  clear hA0 hval0
  refine (l_FnExactMinutesToDo l A c s W hS hs hl hss).mono fun e W' ⟨he, hg⟩ => ?_
  have bel := below_of_grew hg
  subst he
  exact ⟨_, rfl, _, _, _, [], _, [], hW', trodAll_mk1 (shut_bool Try.underlying4 _), (trodAll_cons_mk (Below.trod fnExactMinutesToDo_laidOut (by kernel_rfl) (of_decide_eq_true (by kernel_rfl)) k0 bel lt0) (trodAll_cons_mk (Below.trod fnExactMinutesToDo_laidOut (by kernel_rfl) (of_decide_eq_true (by kernel_rfl)) k1 bel lt1) trodAll_mk0)), rfl, bel.frame _, fun h => by cases h⟩
theorem fnExactMinutesToDo_over : Rows.fnExactMinutesToDoRow.holds Try.pinned (OpenSpec.ofChange Rows.fnExactMinutesToDoSpec) :=
  OpenClaim.holds_of_wide 5 Try.f5 rfl rfl rfl rfl rfl rfl rfl ⟨rfl, rfl, rfl, rfl, rfl⟩ rfl rfl rfl rfl rfl (by kernel_rfl) Try.func5 (by kernel_rfl)
    (of_decide_eq_true (by kernel_rfl)) (by unfold Func.isWrapper; first | (rw [if_pos (by decide +kernel)]; kernel_rfl) | (rw [if_neg (by decide +kernel)]; exact ⟨rfl, rfl⟩))
    (fun os started H enc _ => fnExactMinutesToDo_lifted os started H enc)
theorem fnExactMinutesToDo_holds : Rows.FnExactMinutesToDoSaid := fnExactMinutesToDo_over

set_option maxHeartbeats 1000000 in
theorem l_FnExactShareOfAll (l : List AreaR) (A : Option Addr) (c : Nat) (w : World) (hA : Sl w 6 AreaR.row A l) (hs : ∀ r ∈ l, r.nm.size ≤ maxLen) (hl : l.length ≤ maxLen) :
    Calls Try.prog 6 #[.slice A l.length c] w fun e' w' => e' = .returned (.bool true) ∧ ∃ g, w' = plus w g := by
  go_enter Try.func6, Try.ntmps6
  go_wp2_with fail
  (refine (l_szAreaRowS l A c _ _ hA hl hs (by omega) (by omega)).mono ?_; rintro e w' ⟨⟨kz, rfl, hkz, hkz'⟩, gx, rfl⟩)
  have HS := hid hs
  have HA := hid hA
  clear hs hA
  by_cases hneg : kz < 0
  · go_wp2_with fail
    go_ret
    exact ⟨rfl, by (repeat (first | with_reducible exact grew_refl _ | with_reducible assumption | with_reducible refine grew_plus ?_ | with_reducible refine grew_alloc ?_ | with_reducible refine grew_drew ?_ | (with_reducible refine grew_set ?_ (by first | exact Nat.le_refl _ | omega | (simp [go_sem]; done) | (simp [go_sem]; omega)))))⟩
  have hl' := hkz' (by omega)
  clear hkz'
  go_wp2_with fail
  (refine (l_toAreaRowS l A c _ (by (first | with_reducible exact (HA.out.plus _) | with_reducible exact (HA.out.plus _).plus _ | with_reducible exact (HA.out.plus _).add _ | with_reducible exact ((HA.out.plus _).add _).add _ | with_reducible exact (((HA.out.plus _).add _).add _).add _ | with_reducible exact ((((HA.out.plus _).add _).add _).add _).add _ | with_reducible exact (((((HA.out.plus _).add _).add _).add _).add _).add _ | with_reducible exact ((((((HA.out.plus _).add _).add _).add _).add _).add _).add _)) (by omega)).mono ?_; rintro e w' ⟨⟨gbX1, csX1, rfl, hgX1, hBX1, hsX1, hFX1⟩, gxX1, rfl⟩; have X1 := hid (Sl.of_blk hBX1 hFX1); clear hBX1 hsX1 hFX1 hgX1; (try rw [plus_plus] at X1); go_wp2_with fail)
  (refine (s_ShareOfAll l _ _ _ X1.out HS.out hl).mono ?_; rintro e w' ⟨rfl, gxs, rfl⟩; go_wp2_with fail)
  (refine (l_toAreaRowS l A c _ (by (first | with_reducible exact (HA.out.plus gx) | with_reducible exact (HA.out.plus gx).plus _ | with_reducible exact (HA.out.plus gx).add _ | with_reducible exact ((HA.out.plus gx).add _).add _ | with_reducible exact (((HA.out.plus gx).add _).add _).add _ | with_reducible exact ((((HA.out.plus gx).add _).add _).add _).add _ | with_reducible exact (((((HA.out.plus gx).add _).add _).add _).add _).add _ | with_reducible exact ((((((HA.out.plus gx).add _).add _).add _).add _).add _).add _)) (by omega)).mono ?_; rintro e w' ⟨⟨gbX2, csX2, rfl, hgX2, hBX2, hsX2, hFX2⟩, gxX2, rfl⟩; have X2 := hid (Sl.of_blk hBX2 hFX2); clear hBX2 hsX2 hFX2 hgX2; (try rw [plus_plus] at X2); go_wp2_with fail)
  (refine (i_ShareOfAll l _ _ _ X2.out HS.out hl).mono ?_; rintro e w' ⟨rfl, gxs, rfl⟩; go_wp2_with fail)
  (refine (l_toAreaRowS l A c _ (by (first | with_reducible exact (HA.out.plus gx) | with_reducible exact (HA.out.plus gx).plus _ | with_reducible exact (HA.out.plus gx).add _ | with_reducible exact ((HA.out.plus gx).add _).add _ | with_reducible exact (((HA.out.plus gx).add _).add _).add _ | with_reducible exact ((((HA.out.plus gx).add _).add _).add _).add _ | with_reducible exact (((((HA.out.plus gx).add _).add _).add _).add _).add _ | with_reducible exact ((((((HA.out.plus gx).add _).add _).add _).add _).add _).add _)) (by omega)).mono ?_; rintro e w' ⟨⟨gbX3, csX3, rfl, hgX3, hBX3, hsX3, hFX3⟩, gxX3, rfl⟩; have X3 := hid (Sl.of_blk hBX3 hFX3); clear hBX3 hsX3 hFX3 hgX3; (try rw [plus_plus] at X3); go_wp2_with fail)
  (refine (l_eqAreaRowS l _ _ _ _ _ (by (first | with_reducible exact X2.out | with_reducible exact X2.out.plus _ | with_reducible exact X2.out.add _ | with_reducible exact (X2.out.add _).add _ | with_reducible exact ((X2.out.add _).add _).add _ | with_reducible exact (((X2.out.add _).add _).add _).add _ | with_reducible exact ((((X2.out.add _).add _).add _).add _).add _ | with_reducible exact (((((X2.out.add _).add _).add _).add _).add _).add _)) X3.out hl).mono ?_; rintro e w' ⟨rfl, gxs, rfl⟩; go_wp2_with fail)
  go_ret
  exact ⟨rfl, by (repeat (first | with_reducible exact grew_refl _ | with_reducible assumption | with_reducible refine grew_plus ?_ | with_reducible refine grew_alloc ?_ | with_reducible refine grew_drew ?_ | (with_reducible refine grew_set ?_ (by first | exact Nat.le_refl _ | omega | (simp [go_sem]; done) | (simp [go_sem]; omega)))))⟩

theorem fnExactShareOfAll_own : ownKnob Try.prog.godebug = none := by kernel_rfl
theorem fnExactShareOfAll_laidOut : laidOutB Try.prog = true := by kernel_rfl
set_option maxRecDepth 100000 in
theorem fnExactShareOfAll_lifted (os : Os) (started : os.Started) (H : Type) (enc : TypeId × Value → H) :
    ReturnsInHanded {} Try.checked os 6 .any (Rows.fnExactShareOfAllSpec.pre6 enc Try.prog Try.f6 Rows.fnExactShareOfAllRow.domain false) (Rows.fnExactShareOfAllSpec.post enc Try.prog Try.f6 false true false false) := by
  refine returnsInHanded_of_change (C := Try.checked) fnExactShareOfAll_own started (by kernel_rfl) Try.func6
    (ChangeSpec.witness6 (enc := enc) (C := Try.checked) false ⟨#[], #[.slice none 0 0], []⟩ 8 (by kernel_rfl) (by kernel_rfl) (by kernel_rfl) (by kernel_rfl)) ?_
  intro W base args ds gs before hval0 hW hcnd _
  have hval : ∀ (j : Nat) t v, Try.f6.params[j]? = some t → args[j]? = some v → Value.okWide Try.prog W .any base t v := hval0
  have hW' := hW
  obtain ⟨p, q, hA0, hV, rfl, hfz, hnd⟩ := hW
  have hA : DataW.TrodAll enc Try.prog W 0 (fun _ => true) true Try.f6.params.toList args.toList ds p := hA0
  rw [Try.params6] at hA hval
  obtain ⟨v0, vs0, d0, ds0, p0, q0, hargs, rfl, rfl, h0, r0⟩ := trodAll_cons hA
  obtain ⟨rfl, rfl, rfl⟩ := trodAll_nil r0
  obtain rfl : args = #[v0] := by cases args; simp_all
  obtain ⟨rfl, rfl⟩ := trodVars_none hV
  have k0 := h0
  have lt0 : ∀ x ∈ p0, x.block < W.heap.size := by obtain ⟨m, hm⟩ := k0; exact DataW.trod_lt m _ _ _ hm
  obtain ⟨A, c, l, rfl, hS, hs, hl⟩ := open_areas (hval 0 29 v0 rfl rfl) h0
  clear hA0 hval0
  refine (l_FnExactShareOfAll l A c W hS hs hl).mono fun e W' ⟨he, hg⟩ => ?_
  have bel := below_of_grew hg
  subst he
  exact ⟨_, rfl, _, _, _, [], _, [], hW', trodAll_mk1 (shut_bool Try.underlying4 _), (trodAll_cons_mk (Below.trod fnExactShareOfAll_laidOut (by kernel_rfl) (of_decide_eq_true (by kernel_rfl)) k0 bel lt0) trodAll_mk0), rfl, bel.frame _, fun h => by cases h⟩
theorem fnExactShareOfAll_over : Rows.fnExactShareOfAllRow.holds Try.pinned (OpenSpec.ofChange Rows.fnExactShareOfAllSpec) :=
  OpenClaim.holds_of_wide 6 Try.f6 rfl rfl rfl rfl rfl rfl rfl ⟨rfl, rfl, rfl, rfl, rfl⟩ rfl rfl rfl rfl rfl (by kernel_rfl) Try.func6 (by kernel_rfl)
    (of_decide_eq_true (by kernel_rfl)) (by unfold Func.isWrapper; first | (rw [if_pos (by decide +kernel)]; kernel_rfl) | (rw [if_neg (by decide +kernel)]; exact ⟨rfl, rfl⟩))
    (fun os started H enc _ => fnExactShareOfAll_lifted os started H enc)
theorem fnExactShareOfAll_holds : Rows.FnExactShareOfAllSaid := fnExactShareOfAll_over
end Go.Proofs.Ytbglldjdagnojaa
