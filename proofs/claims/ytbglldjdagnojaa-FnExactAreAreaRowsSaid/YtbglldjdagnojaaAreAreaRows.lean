/- The law FnExactAreAreaRows: the program's AreAreaRows answers as the reference's, for every list. No condition. -/
import Derived.Test.YtbglldjdagnojaaRows
import Derived.Test.YtbglldjdagnojaaA3
import Derived.Test.YtbglldjdagnojaaOpenArea
namespace Go.Proofs.Ytbglldjdagnojaa
open Go.ChangeShapes Go.WideShapes Go.ChangeAt Go.RowKit Go.Deep Go.Joins
open Go.ChangeMaps (open_string shut_string)

set_option maxHeartbeats 1000000 in
theorem l_FnExactAreAreaRows (l : List AreaR) (A : Option Addr) (c : Nat) (w : World) (hA : Sl w 6 AreaR.row A l) (hs : ∀ r ∈ l, r.nm.size ≤ maxLen) (hl : l.length ≤ maxLen) :
    Calls Try.prog 4 #[.slice A l.length c] w fun e' w' => e' = .returned (.bool true) ∧ ∃ g, w' = plus w g := by
  go_enter Try.func4, Try.ntmps4
  go_wp2_with fail
  refine (l_szAreaRowS l A c _ _ hA hl hs (by omega) (by omega)).mono ?_
  rintro e w' ⟨⟨kz, rfl, hkz, hkz'⟩, gx, rfl⟩
  have HS := hid hs
  have HA := hid hA
  clear hs hA
  by_cases hneg : kz < 0
  · go_wp2_with fail
    go_ret
    exact ⟨rfl, by (repeat (first | with_reducible exact grew_refl _ | with_reducible assumption | with_reducible refine grew_plus ?_ | with_reducible refine grew_alloc ?_ | with_reducible refine grew_drew ?_ | (with_reducible refine grew_set ?_ (by first | exact Nat.le_refl _ | omega | (simp [go_sem]; done) | (simp [go_sem]; omega)))))⟩
  have hl' := hkz' (by omega)
  clear hkz'
  go_wp2_with fail
  refine (l_toAreaRowS l A c _ (HA.out.plus _) (by omega)).mono ?_
  rintro e w' ⟨⟨g1, cs1, rfl, hg1, hB1, hs1, hF1⟩, g2, rfl⟩
  have X1 := hid (Sl.of_blk hB1 hF1)
  clear hB1 hs1 hF1 hg1
  rw [plus_plus] at X1
  go_wp2_with fail
  refine (s_AreAreaRows l _ _ _ rfl _ X1.out HS.out hl).mono ?_
  rintro e w' ⟨rfl, g3, rfl⟩
  go_wp2_with fail
  refine (l_toAreaRowS l A c _ (by (first | with_reducible exact (HA.out.plus gx) | with_reducible exact (HA.out.plus gx).plus _ | with_reducible exact (HA.out.plus gx).add _ | with_reducible exact ((HA.out.plus gx).add _).add _ | with_reducible exact (((HA.out.plus gx).add _).add _).add _ | with_reducible exact ((((HA.out.plus gx).add _).add _).add _).add _ | with_reducible exact (((((HA.out.plus gx).add _).add _).add _).add _).add _ | with_reducible exact ((((((HA.out.plus gx).add _).add _).add _).add _).add _).add _)) (by omega)).mono ?_
  rintro e w' ⟨⟨g4, cs4, rfl, hg4, hB4, hs4, hF4⟩, g5, rfl⟩
  have X4 := hid (Sl.of_blk hB4 hF4)
  clear hB4 hs4 hF4 hg4 X1
  rw [plus_plus] at X4
  go_wp2_with fail
  refine (i_AreAreaRows l _ _ _ rfl _ X4.out HS.out hl).mono ?_
  rintro e w' ⟨rfl, g6, rfl⟩
  go_wp2_with fail
  refine (l_toAreaRowS l A c _ (by (first | with_reducible exact (HA.out.plus gx) | with_reducible exact (HA.out.plus gx).plus _ | with_reducible exact (HA.out.plus gx).add _ | with_reducible exact ((HA.out.plus gx).add _).add _ | with_reducible exact (((HA.out.plus gx).add _).add _).add _ | with_reducible exact ((((HA.out.plus gx).add _).add _).add _).add _ | with_reducible exact (((((HA.out.plus gx).add _).add _).add _).add _).add _ | with_reducible exact ((((((HA.out.plus gx).add _).add _).add _).add _).add _).add _)) (by omega)).mono ?_
  rintro e w' ⟨⟨g7, cs7, rfl, hg7, hB7, hs7, hF7⟩, g8, rfl⟩
  have X7 := hid (Sl.of_blk hB7 hF7)
  clear hB7 hs7 hF7 hg7
  rw [plus_plus] at X7
  go_wp2_with fail
  refine (l_eqAreaRowS l _ _ _ _ _ (by (first | with_reducible exact X4.out | with_reducible exact X4.out.plus _ | with_reducible exact X4.out.add _ | with_reducible exact (X4.out.add _).add _ | with_reducible exact ((X4.out.add _).add _).add _ | with_reducible exact (((X4.out.add _).add _).add _).add _ | with_reducible exact ((((X4.out.add _).add _).add _).add _).add _ | with_reducible exact (((((X4.out.add _).add _).add _).add _).add _).add _)) X7.out hl).mono ?_
  rintro e w' ⟨rfl, g9, rfl⟩
  go_wp2_with fail
  go_ret
  exact ⟨rfl, by (repeat (first | with_reducible exact grew_refl _ | with_reducible assumption | with_reducible refine grew_plus ?_ | with_reducible refine grew_alloc ?_ | with_reducible refine grew_drew ?_ | (with_reducible refine grew_set ?_ (by first | exact Nat.le_refl _ | omega | (simp [go_sem]; done) | (simp [go_sem]; omega)))))⟩

theorem fnExactAreAreaRows_own : ownKnob Try.prog.godebug = none := by kernel_rfl
theorem fnExactAreAreaRows_laidOut : laidOutB Try.prog = true := by kernel_rfl
set_option maxRecDepth 100000 in
theorem fnExactAreAreaRows_lifted (os : Os) (started : os.Started) (H : Type) (enc : TypeId × Value → H) :
    ReturnsInHanded {} Try.checked os 4 .any (Rows.fnExactAreAreaRowsSpec.pre6 enc Try.prog Try.f4 Rows.fnExactAreAreaRowsRow.domain false) (Rows.fnExactAreAreaRowsSpec.post enc Try.prog Try.f4 false true false false) := by
  refine returnsInHanded_of_change (C := Try.checked) fnExactAreAreaRows_own started (by kernel_rfl) Try.func4
    (ChangeSpec.witness6 (enc := enc) (C := Try.checked) false ⟨#[], #[.slice none 0 0], []⟩ 8 (by kernel_rfl) (by kernel_rfl) (by kernel_rfl) (by kernel_rfl)) ?_
  intro W base args ds gs before hval0 hW hcnd _
  have hval : ∀ (j : Nat) t v, Try.f4.params[j]? = some t → args[j]? = some v → Value.okWide Try.prog W .any base t v := hval0
  have hW' := hW
  obtain ⟨p, q, hA0, hV, rfl, hfz, hnd⟩ := hW
  have hA : DataW.TrodAll enc Try.prog W 0 (fun _ => true) true Try.f4.params.toList args.toList ds p := hA0
  rw [Try.params4] at hA hval
  obtain ⟨v0, vs0, d0, ds0, p0, q0, hargs, rfl, rfl, h0, r0⟩ := trodAll_cons hA
  obtain ⟨rfl, rfl, rfl⟩ := trodAll_nil r0
  obtain rfl : args = #[v0] := by cases args; simp_all
  obtain ⟨rfl, rfl⟩ := trodVars_none hV
  have k0 := h0
  have lt0 : ∀ x ∈ p0, x.block < W.heap.size := by obtain ⟨m, hm⟩ := k0; exact DataW.trod_lt m _ _ _ hm
  obtain ⟨A, c, l, rfl, hS, hs, hl⟩ := open_areas (hval 0 29 v0 rfl rfl) h0
  clear hA0 hval0
  refine (l_FnExactAreAreaRows l A c W hS hs hl).mono fun e W' ⟨he, hg⟩ => ?_
  have bel := below_of_grew hg
  subst he
  exact ⟨_, rfl, _, _, _, [], _, [], hW', trodAll_mk1 (shut_bool Try.underlying4 _), (trodAll_cons_mk (Below.trod fnExactAreAreaRows_laidOut (by kernel_rfl) (of_decide_eq_true (by kernel_rfl)) k0 bel lt0) trodAll_mk0), rfl, bel.frame _, fun h => by cases h⟩
theorem fnExactAreAreaRows_over : Rows.fnExactAreAreaRowsRow.holds Try.pinned (OpenSpec.ofChange Rows.fnExactAreAreaRowsSpec) :=
  OpenClaim.holds_of_wide 4 Try.f4 rfl rfl rfl rfl rfl rfl rfl ⟨rfl, rfl, rfl, rfl, rfl⟩ rfl rfl rfl rfl rfl (by kernel_rfl) Try.func4 (by kernel_rfl)
    (of_decide_eq_true (by kernel_rfl)) (by unfold Func.isWrapper; first | (rw [if_pos (by decide +kernel)]; kernel_rfl) | (rw [if_neg (by decide +kernel)]; exact ⟨rfl, rfl⟩))
    (fun os started H enc _ => fnExactAreAreaRows_lifted os started H enc)
theorem fnExactAreAreaRows_holds : Rows.FnExactAreAreaRowsSaid := fnExactAreAreaRows_over
end Go.Proofs.Ytbglldjdagnojaa
