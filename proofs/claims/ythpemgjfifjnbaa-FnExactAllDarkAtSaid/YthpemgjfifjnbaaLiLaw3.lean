/- The law FnExactAllDarkAt. No condition. -/
import Derived.Test.YthpemgjfifjnbaaRows
import Derived.Test.YthpemgjfifjnbaaLi7
import Derived.Test.YthpemgjfifjnbaaOpenLight
import Derived.Deep.RegionWith
namespace Go.Proofs.Ythpemgjfifjnbaa
open Go.ChangeShapes Go.WideShapes Go.ChangeAt Go.RowKit Go.Deep Go.Joins
open Go.ChangeMaps (open_string shut_string)

theorem s_AllDarkC (L M : List LightV) (A : Option Addr) (c : Nat) (fr : Int) (h : Alike L M) (w : World) (hA : Lts w A M) (hl : M.length ≤ maxLen) :
    Calls Try.prog 26 #[.slice A M.length c, .int .i64 fr] w fun e w' => e = .returned (.tuple #[.int .i64 (darkF L fr).1, .bool (darkF L fr).2]) ∧ ∃ g, w' = plus w g := by
  rw [h.dark]; exact s_AllDarkAt M A c fr w hA hl
theorem i_AllDarkC (L M : List LightV) (A : Option Addr) (c : Nat) (fr : Int) (h : Alike L M) (w : World) (hA : Lts w A M) (hl : M.length ≤ maxLen) (hcap : M.length ≤ c) :
    Calls Try.prog 27 #[.slice A M.length c, .int .i64 fr] w fun e w' => e = .returned (.tuple #[.int .i64 (darkF L fr).1, .bool (darkF L fr).2]) ∧ ∃ g, w' = plus w g := by
  rw [h.dark]; exact i_AllDarkAt M A c fr w hA hl hcap
set_option maxHeartbeats 4000000 in
theorem l_FnExactAllDarkAt (L : List LightV) (A : Option Addr) (c : Nat) (fr : Int) (w : World) (hA : Lts w A L) (hl : L.length ≤ maxLen) :
    Calls Try.prog 7 #[.slice A L.length c, .int .i64 fr] w fun e' w' => e' = .returned (.bool true) ∧ ∃ g, w' = plus w g := by
  have HV := hid hA
  clear hA
  go_enter Try.func7, Try.ntmps7
  go_wp2_with fail
  (have hz := (l_szLightS L A c 1048576 w HV.out.sl HV.out.at_ hl (by omega) (by omega)); refine hz.mono ?_; clear hz; rintro e w' ⟨⟨kz, rfl, hkz, hkz1, hkz2⟩, gx, rfl⟩)
  by_cases hneg : kz < 0
  · go_wp2_with fail
    go_ret
    exact ⟨rfl, by (repeat (first | with_reducible exact grew_refl _ | with_reducible assumption | with_reducible refine grew_split ?_ | with_reducible refine grew_mk ?_ | with_reducible refine grew_plus ?_ | with_reducible refine grew_alloc ?_ | with_reducible refine grew_drew ?_ | (with_reducible refine grew_set ?_ (by first | exact Nat.le_refl _ | omega | (simp [go_sem]; done) | (simp [go_sem]; omega)))))⟩
  obtain ⟨hl', hp⟩ := hkz2 (by omega)
  clear hkz2
  go_wp2_with fail
  (refine (l_toLts L A c _ (HV.out.grew (by (repeat (first | with_reducible exact grew_refl _ | with_reducible assumption | with_reducible refine grew_split ?_ | with_reducible refine grew_mk ?_ | with_reducible refine grew_plus ?_ | with_reducible refine grew_alloc ?_ | with_reducible refine grew_drew ?_ | (with_reducible refine grew_set ?_ (by first | exact Nat.le_refl _ | omega | (simp [go_sem]; done) | (simp [go_sem]; omega))))))) hp hl').mono ?_; rintro e w' ⟨⟨AU1, MU1, rfl, haU1, hoU1, hrU1, htU1⟩, gxU1, rfl⟩; (try rw [plus_plus] at hoU1 htU1); (try rw [plus_plus] at hrU1); have ALU1 := hid haU1; have OU1 := hid hoU1; have RU1 := hid hrU1; have U1 := hid htU1; have lnU1 : MU1.length ≤ 1048576 := (by have := haU1.1; omega); clear hoU1 hrU1 haU1 htU1; go_wp2_with fail)
  (refine (s_AllDarkC L MU1 AU1 MU1.length fr ALU1.out _ U1.out (by unfold maxLen; omega)).mono ?_; rintro e w' ⟨rfl, gxs, rfl⟩; go_wp2_with fail)
  (refine (l_toLts L A c _ (HV.out.grew (by (repeat (first | with_reducible exact grew_refl _ | with_reducible assumption | with_reducible refine grew_split ?_ | with_reducible refine grew_mk ?_ | with_reducible refine grew_plus ?_ | with_reducible refine grew_alloc ?_ | with_reducible refine grew_drew ?_ | (with_reducible refine grew_set ?_ (by first | exact Nat.le_refl _ | omega | (simp [go_sem]; done) | (simp [go_sem]; omega))))))) hp hl').mono ?_; rintro e w' ⟨⟨AU2, MU2, rfl, haU2, hoU2, hrU2, htU2⟩, gxU2, rfl⟩; (try rw [plus_plus] at hoU2 htU2); (try rw [plus_plus] at hrU2); have ALU2 := hid haU2; have OU2 := hid hoU2; have RU2 := hid hrU2; have U2 := hid htU2; have lnU2 : MU2.length ≤ 1048576 := (by have := haU2.1; omega); clear hoU2 hrU2 haU2 htU2; go_wp2_with fail)
  (refine (i_AllDarkC L MU2 AU2 MU2.length fr ALU2.out _ (U2.out.grew (by (repeat (first | with_reducible exact grew_refl _ | with_reducible assumption | with_reducible refine grew_split ?_ | with_reducible refine grew_mk ?_ | with_reducible refine grew_plus ?_ | with_reducible refine grew_alloc ?_ | with_reducible refine grew_drew ?_ | (with_reducible refine grew_set ?_ (by first | exact Nat.le_refl _ | omega | (simp [go_sem]; done) | (simp [go_sem]; omega))))))) (by unfold maxLen; omega) (Nat.le_refl _)).mono ?_; rintro e w' ⟨rfl, gxs, rfl⟩; go_wp2_with fail)
  (refine (l_toLts L A c _ (HV.out.grew (by (repeat (first | with_reducible exact grew_refl _ | with_reducible assumption | with_reducible refine grew_split ?_ | with_reducible refine grew_mk ?_ | with_reducible refine grew_plus ?_ | with_reducible refine grew_alloc ?_ | with_reducible refine grew_drew ?_ | (with_reducible refine grew_set ?_ (by first | exact Nat.le_refl _ | omega | (simp [go_sem]; done) | (simp [go_sem]; omega))))))) hp hl').mono ?_; rintro e w' ⟨⟨AU3, MU3, rfl, haU3, hoU3, hrU3, htU3⟩, gxU3, rfl⟩; (try rw [plus_plus] at hoU3 htU3); (try rw [plus_plus] at hrU3); have ALU3 := hid haU3; have OU3 := hid hoU3; have RU3 := hid hrU3; have U3 := hid htU3; have lnU3 : MU3.length ≤ 1048576 := (by have := haU3.1; omega); clear hoU3 hrU3 haU3 htU3; go_wp2_with fail)
  (refine (l_eqLts MU2 MU3 AU2 AU3 MU2.length MU3.length _ (ALU2.out.symm.trans ALU3.out) (U2.out.grew (by (repeat (first | with_reducible exact grew_refl _ | with_reducible assumption | with_reducible refine grew_split ?_ | with_reducible refine grew_mk ?_ | with_reducible refine grew_plus ?_ | with_reducible refine grew_alloc ?_ | with_reducible refine grew_drew ?_ | (with_reducible refine grew_set ?_ (by first | exact Nat.le_refl _ | omega | (simp [go_sem]; done) | (simp [go_sem]; omega))))))) (U3.out.grew (by (repeat (first | with_reducible exact grew_refl _ | with_reducible assumption | with_reducible refine grew_split ?_ | with_reducible refine grew_mk ?_ | with_reducible refine grew_plus ?_ | with_reducible refine grew_alloc ?_ | with_reducible refine grew_drew ?_ | (with_reducible refine grew_set ?_ (by first | exact Nat.le_refl _ | omega | (simp [go_sem]; done) | (simp [go_sem]; omega))))))) (by unfold maxLen; omega)).mono ?_; rintro e w' ⟨rfl, gxs, rfl⟩; go_wp2_with fail)
  go_ret
  exact ⟨rfl, by (repeat (first | with_reducible exact grew_refl _ | with_reducible assumption | with_reducible refine grew_split ?_ | with_reducible refine grew_mk ?_ | with_reducible refine grew_plus ?_ | with_reducible refine grew_alloc ?_ | with_reducible refine grew_drew ?_ | (with_reducible refine grew_set ?_ (by first | exact Nat.le_refl _ | omega | (simp [go_sem]; done) | (simp [go_sem]; omega)))))⟩
theorem fnExactAllDarkAt_own : ownKnob Try.prog.godebug = none := by kernel_rfl
theorem fnExactAllDarkAt_laidOut : laidOutB Try.prog = true := by kernel_rfl
set_option maxRecDepth 100000 in
theorem fnExactAllDarkAt_lifted (os : Os) (started : os.Started) (H : Type) (enc : TypeId × Value → H) :
    ReturnsInHanded {} Try.checked os 7 .any (Rows.fnExactAllDarkAtSpec.pre6 enc Try.prog Try.f7 Rows.fnExactAllDarkAtRow.domain false) (Rows.fnExactAllDarkAtSpec.post enc Try.prog Try.f7 false true false false) := by
  refine returnsInHanded_of_change (C := Try.checked) fnExactAllDarkAt_own started (by kernel_rfl) Try.func7
    (ChangeSpec.witness6 (enc := enc) (C := Try.checked) false ⟨#[], #[.slice none 0 0, .int .i64 0], []⟩ 8 (by kernel_rfl) (by kernel_rfl) (by kernel_rfl) (by kernel_rfl)) ?_
  intro W base args ds gs before hval0 hW hcnd _
  have hval : ∀ (j : Nat) t v, Try.f7.params[j]? = some t → args[j]? = some v → Value.okWide Try.prog W .any base t v := hval0
  have hW' := hW
  obtain ⟨p, q, hA0, hV, rfl, hfz, hnd⟩ := hW
  have hA : DataW.TrodAll enc Try.prog W 0 (fun _ => true) true Try.f7.params.toList args.toList ds p := hA0
  rw [Try.params7] at hA hval
  obtain ⟨v0, vs0, d0, ds0, p0, q0, hargs, rfl, rfl, h0, r0⟩ := trodAll_cons hA
  obtain ⟨v1, vs1, d1, ds1, p1, q1, rfl, rfl, rfl, h1, r1⟩ := trodAll_cons r0
  obtain ⟨rfl, rfl, rfl⟩ := trodAll_nil r1
  obtain rfl : args = #[v0, v1] := by cases args; simp_all
  obtain ⟨rfl, rfl⟩ := trodVars_none hV
  have k0 := h0
  have lt0 : ∀ x ∈ p0, x.block < W.heap.size := by obtain ⟨m, hm⟩ := k0; exact DataW.trod_lt m _ _ _ hm
  have k1 := h1
  have lt1 : ∀ x ∈ p1, x.block < W.heap.size := by obtain ⟨m, hm⟩ := k1; exact DataW.trod_lt m _ _ _ hm
  obtain ⟨A, c, l, rfl, hS, hat, hl⟩ := open_lights (hval 0 42 v0 rfl rfl) h0
  obtain ⟨m, rfl, _, _, _⟩ := open_int Try.underlying3 (hval 1 3 v1 rfl rfl) h1
  clear hA0 hval0
  refine (l_FnExactAllDarkAt l A c m W ⟨hS, hat⟩ hl).mono fun e W' ⟨he, hg⟩ => ?_
  have bel := below_of_grew hg
  subst he
  exact ⟨_, rfl, _, _, _, [], _, [], hW', trodAll_mk1 (shut_bool Try.underlying4 _), (trodAll_cons_mk (Below.trod fnExactAllDarkAt_laidOut (by kernel_rfl) (of_decide_eq_true (by kernel_rfl)) k0 bel lt0) (trodAll_cons_mk (Below.trod fnExactAllDarkAt_laidOut (by kernel_rfl) (of_decide_eq_true (by kernel_rfl)) k1 bel lt1) trodAll_mk0)), rfl, bel.frame _, fun h => by cases h⟩
theorem fnExactAllDarkAt_over : Rows.fnExactAllDarkAtRow.holds Try.pinned (OpenSpec.ofChange Rows.fnExactAllDarkAtSpec) :=
  OpenClaim.holds_of_wide 7 Try.f7 rfl rfl rfl rfl rfl rfl rfl ⟨rfl, rfl, rfl, rfl, rfl⟩ rfl rfl rfl rfl rfl (by kernel_rfl) Try.func7 (by kernel_rfl)
    (of_decide_eq_true (by kernel_rfl)) (by unfold Func.isWrapper; first | (rw [if_pos (by decide +kernel)]; kernel_rfl) | (rw [if_neg (by decide +kernel)]; exact ⟨rfl, rfl⟩))
    (fun os started H enc _ => fnExactAllDarkAt_lifted os started H enc)
theorem fnExactAllDarkAt_holds : Rows.FnExactAllDarkAtSaid := fnExactAllDarkAt_over
end Go.Proofs.Ythpemgjfifjnbaa
