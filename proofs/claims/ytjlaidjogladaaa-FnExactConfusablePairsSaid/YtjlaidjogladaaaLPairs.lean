/- The law FnExactConfusablePairs: the pairs of lights that look alike, their marks, and what is held of them. No condition. -/
import Derived.Test.YtjlaidjogladaaaRows
import Derived.Test.YtjlaidjogladaaaLk2
import Derived.Test.YtjlaidjogladaaaLp6
import Derived.Test.YtjlaidjogladaaaOpenLight
import Derived.Deep.RegionWith
namespace Go.Proofs.Ytjlaidjogladaaa
open Go.ChangeShapes Go.WideShapes Go.ChangeAt Go.RowKit Go.Deep Go.Joins
open Go.ChangeMaps (open_string shut_string)

theorem calls_opaqP {P : Program} {f : FuncId} {args : Array Value} {W : World} {R : Ending → World → Prop} (F : World → Prop) (hF : F W) (h : ∀ wr, F wr → Calls P f args wr R) : Calls P f args W R := h W hF
set_option maxHeartbeats 4000000 in
theorem l_FnExactConfusablePairs (L : List LightV) (A : Option Addr) (c : Nat) (w : World) (hA : Lts w A L) (hl : L.length ≤ maxLen) :
    Calls Try.prog 3 #[.slice A L.length c] w fun e' w' => e' = .returned (.bool true) ∧ ∃ g, w' = plus w g := by
  have HV := hid hA
  obtain ⟨R, o, hR⟩ : ∃ R o, pairsF L = (R, o) := ⟨_, _, rfl⟩
  have HR := hid hR
  have hRl := pairsF_len L
  rw [hR] at hRl
  simp only at hRl
  have t2 : (o != o) = false := by simp
  clear hA hR
  go_enter Try.func3, Try.ntmps3
  go_wp2_with fail
  refine (l_szLightS2 L A c 1048576 _ (HV.out.grew (by (repeat (first | with_reducible exact grew_refl _ | with_reducible assumption | with_reducible refine grew_split ?_ | with_reducible refine grew_mk ?_ | with_reducible refine grew_plus ?_ | with_reducible refine grew_alloc ?_ | with_reducible refine grew_drew ?_ | (with_reducible refine grew_set ?_ (by first | exact Nat.le_refl _ | omega | (simp [go_sem]; done) | (simp [go_sem]; omega))))))).sl (HV.out.grew (by (repeat (first | with_reducible exact grew_refl _ | with_reducible assumption | with_reducible refine grew_split ?_ | with_reducible refine grew_mk ?_ | with_reducible refine grew_plus ?_ | with_reducible refine grew_alloc ?_ | with_reducible refine grew_drew ?_ | (with_reducible refine grew_set ?_ (by first | exact Nat.le_refl _ | omega | (simp [go_sem]; done) | (simp [go_sem]; omega))))))).at_ hl (by omega) (by omega)).mono ?_
  rintro e w' ⟨⟨kz, rfl, hkz, hkz1, hkz2⟩, gx, rfl⟩
  by_cases hneg : kz < 0
  · clear hkz2
    go_wp2_with fail
    go_ret
    exact ⟨rfl, by (repeat (first | with_reducible exact grew_refl _ | with_reducible assumption | with_reducible refine grew_split ?_ | with_reducible refine grew_mk ?_ | with_reducible refine grew_plus ?_ | with_reducible refine grew_alloc ?_ | with_reducible refine grew_drew ?_ | (with_reducible refine grew_set ?_ (by first | exact Nat.le_refl _ | omega | (simp [go_sem]; done) | (simp [go_sem]; omega)))))⟩
  have HZ := hid (hkz2 (by omega))
  have hl' : L.length ≤ 1048576 := by have := HZ.out; omega
  have hp : ∀ u ∈ L, u.core.ph.length ≤ 1048576 := fun u hu => by
    obtain ⟨i, hi, rfl⟩ := List.mem_iff_getElem.1 hu
    have h1 := phTo_one hi
    have := HZ.out
    omega
  clear hkz2
  go_wp2_with fail
  (refine (l_toLtsM L A c _ (HV.out.grew (by (repeat (first | with_reducible exact grew_refl _ | with_reducible assumption | with_reducible refine grew_split ?_ | with_reducible refine grew_mk ?_ | with_reducible refine grew_plus ?_ | with_reducible refine grew_alloc ?_ | with_reducible refine grew_drew ?_ | (with_reducible refine grew_set ?_ (by first | exact Nat.le_refl _ | omega | (simp [go_sem]; done) | (simp [go_sem]; omega))))))) hp hl').mono ?_; rintro e w' ⟨⟨AU1, MU1, rfl, haU1, htU1, hmU1⟩, gxU1, rfl⟩; (try rw [plus_plus] at htU1); have ALU1 := hid haU1; have U1 := hid htU1; have MKU1 := hid hmU1; clear haU1 htU1 hmU1)
  go_wp2_with fail
  refine (s_ConfusablePairs MU1 AU1 MU1.length R o (by rw [← ALU1.out.pairsF]; exact HR.out) _ (U1.out.grew (by (repeat (first | with_reducible exact grew_refl _ | with_reducible assumption | with_reducible refine grew_split ?_ | with_reducible refine grew_mk ?_ | with_reducible refine grew_plus ?_ | with_reducible refine grew_alloc ?_ | with_reducible refine grew_drew ?_ | (with_reducible refine grew_set ?_ (by first | exact Nat.le_refl _ | omega | (simp [go_sem]; done) | (simp [go_sem]; omega))))))) (by unfold maxLen; have := ALU1.out.1; omega)).mono ?_
  rintro e w' ⟨⟨A1', d1, N1, rfl, hQ1, hO1⟩, gs1, rfl⟩
  (try rw [plus_plus] at hO1)
  have hn1 : N1.length ≤ 100 := by have := congrArg List.length hQ1; simp at this; omega
  have Q1 := hid hQ1
  have O1 := hid hO1
  clear hO1 hQ1
  go_wp2_with fail
  refine calls_opaqP (fun W1 => PRead W1 A1' N1 ∧ ∃ g, W1 = plus w g) ⟨O1.out.mark.read.grew (by (repeat (first | with_reducible exact grew_refl _ | with_reducible assumption | with_reducible refine grew_split ?_ | with_reducible refine grew_mk ?_ | with_reducible refine grew_plus ?_ | with_reducible refine grew_alloc ?_ | with_reducible refine grew_drew ?_ | (with_reducible refine grew_set ?_ (by first | exact Nat.le_refl _ | omega | (simp [go_sem]; done) | (simp [go_sem]; omega)))))), by (repeat (first | with_reducible exact grew_refl _ | with_reducible assumption | with_reducible refine grew_split ?_ | with_reducible refine grew_mk ?_ | with_reducible refine grew_plus ?_ | with_reducible refine grew_alloc ?_ | with_reducible refine grew_drew ?_ | (with_reducible refine grew_set ?_ (by first | exact Nat.le_refl _ | omega | (simp [go_sem]; done) | (simp [go_sem]; omega)))))⟩ ?_
  rintro W1 ⟨hS, hG⟩
  have HS1 := hid hS
  clear hS O1 U1 MKU1
  (refine (l_toLtsM L A c _ (HV.out.grew (by (repeat (first | with_reducible exact grew_refl _ | with_reducible assumption | with_reducible refine grew_split ?_ | with_reducible refine grew_mk ?_ | with_reducible refine grew_plus ?_ | with_reducible refine grew_alloc ?_ | with_reducible refine grew_drew ?_ | (with_reducible refine grew_set ?_ (by first | exact Nat.le_refl _ | omega | (simp [go_sem]; done) | (simp [go_sem]; omega))))))) hp hl').mono ?_; rintro e w' ⟨⟨AU2, MU2, rfl, haU2, htU2, hmU2⟩, gxU2, rfl⟩; (try rw [plus_plus] at htU2); have ALU2 := hid haU2; have U2 := hid htU2; have MKU2 := hid hmU2; clear haU2 htU2 hmU2)
  go_wp2_with fail
  refine (i_ConfusablePairs MU2 AU2 MU2.length R o (by rw [← ALU2.out.pairsF]; exact HR.out) _ (U2.out.grew (by (repeat (first | with_reducible exact grew_refl _ | with_reducible assumption | with_reducible refine grew_split ?_ | with_reducible refine grew_mk ?_ | with_reducible refine grew_plus ?_ | with_reducible refine grew_alloc ?_ | with_reducible refine grew_drew ?_ | (with_reducible refine grew_set ?_ (by first | exact Nat.le_refl _ | omega | (simp [go_sem]; done) | (simp [go_sem]; omega))))))) (by unfold maxLen; have := ALU2.out.1; omega) (Nat.le_refl _)).mono ?_
  rintro e w' ⟨⟨A2', d2, N2, rfl, hQ2, hO2⟩, gs2, rfl⟩
  (try rw [plus_plus] at hO2)
  have hn2 : N2.length ≤ 100 := by have h := ab_len (hQ2.trans Q1.out.symm); omega
  have Q2 := hid hQ2
  have O2 := hid hO2.mark
  clear hO2 hQ2
  go_wp2_with fail
  (refine (l_eqIntSS N2 N1 A2' A1' d2 d1 _ (Q2.out.trans Q1.out.symm) (O2.out.read.grew (by (repeat (first | with_reducible exact grew_refl _ | with_reducible assumption | with_reducible refine grew_split ?_ | with_reducible refine grew_mk ?_ | with_reducible refine grew_plus ?_ | with_reducible refine grew_alloc ?_ | with_reducible refine grew_drew ?_ | (with_reducible refine grew_set ?_ (by first | exact Nat.le_refl _ | omega | (simp [go_sem]; done) | (simp [go_sem]; omega))))))) (HS1.out.grew (by (repeat (first | with_reducible exact grew_refl _ | with_reducible assumption | with_reducible refine grew_split ?_ | with_reducible refine grew_mk ?_ | with_reducible refine grew_plus ?_ | with_reducible refine grew_alloc ?_ | with_reducible refine grew_drew ?_ | (with_reducible refine grew_set ?_ (by first | exact Nat.le_refl _ | omega | (simp [go_sem]; done) | (simp [go_sem]; omega))))))) (by unfold maxLen; omega)).mono ?_; rintro e w' ⟨rfl, gxs, rfl⟩; go_wp2_with fail)
  (refine (l_toLtsM L A c _ (HV.out.grew (by (repeat (first | with_reducible exact grew_refl _ | with_reducible assumption | with_reducible refine grew_split ?_ | with_reducible refine grew_mk ?_ | with_reducible refine grew_plus ?_ | with_reducible refine grew_alloc ?_ | with_reducible refine grew_drew ?_ | (with_reducible refine grew_set ?_ (by first | exact Nat.le_refl _ | omega | (simp [go_sem]; done) | (simp [go_sem]; omega))))))) hp hl').mono ?_; rintro e w' ⟨⟨AU3, MU3, rfl, haU3, htU3, hmU3⟩, gxU3, rfl⟩; (try rw [plus_plus] at htU3); have ALU3 := hid haU3; have U3 := hid htU3; have MKU3 := hid hmU3; clear haU3 htU3 hmU3)
  go_wp2_with fail
  (refine (l_eqLts MU2 MU3 AU2 AU3 MU2.length MU3.length _ (ALU2.out.symm.trans ALU3.out) (U2.out.grew (by (repeat (first | with_reducible exact grew_refl _ | with_reducible assumption | with_reducible refine grew_split ?_ | with_reducible refine grew_mk ?_ | with_reducible refine grew_plus ?_ | with_reducible refine grew_alloc ?_ | with_reducible refine grew_drew ?_ | (with_reducible refine grew_set ?_ (by first | exact Nat.le_refl _ | omega | (simp [go_sem]; done) | (simp [go_sem]; omega))))))) (U3.out.grew (by (repeat (first | with_reducible exact grew_refl _ | with_reducible assumption | with_reducible refine grew_split ?_ | with_reducible refine grew_mk ?_ | with_reducible refine grew_plus ?_ | with_reducible refine grew_alloc ?_ | with_reducible refine grew_drew ?_ | (with_reducible refine grew_set ?_ (by first | exact Nat.le_refl _ | omega | (simp [go_sem]; done) | (simp [go_sem]; omega))))))) (by unfold maxLen; have := ALU2.out.1; omega)).mono ?_; rintro e w' ⟨rfl, gxs, rfl⟩; go_wp2_with fail)
  refine (l_markLightS _ _ MU2 AU2 MU2.length 1 _ (MKU2.out.grew (by (repeat (first | with_reducible exact grew_refl _ | with_reducible assumption | with_reducible refine grew_split ?_ | with_reducible refine grew_mk ?_ | with_reducible refine grew_plus ?_ | with_reducible refine grew_alloc ?_ | with_reducible refine grew_drew ?_ | (with_reducible refine grew_set ?_ (by first | exact Nat.le_refl _ | omega | (simp [go_sem]; done) | (simp [go_sem]; omega))))))) (by have h := HZ.out; rw [ALU2.out.phTo L.length, ALU2.out.1] at h; exact h) (by omega) (by omega)).mono ?_
  rintro e w' ⟨⟨km, rfl, hkm⟩, hK⟩
  have hO3 := (O2.out.grew (by (repeat (first | with_reducible exact grew_refl _ | with_reducible assumption | with_reducible refine grew_split ?_ | with_reducible refine grew_mk ?_ | with_reducible refine grew_plus ?_ | with_reducible refine grew_alloc ?_ | with_reducible refine grew_drew ?_ | (with_reducible refine grew_set ?_ (by first | exact Nat.le_refl _ | omega | (simp [go_sem]; done) | (simp [go_sem]; omega))))))).keptF hK (by first | (simp [go_sem]; done) | (simp [go_sem]; omega) | (simp [go_sem, Ext.add]; done) | (simp [go_sem, Ext.add]; omega) | omega)
  obtain ⟨gm, rfl⟩ := grew_keptF (w0 := W1) (by (repeat (first | with_reducible exact grew_refl _ | with_reducible assumption | with_reducible refine grew_split ?_ | with_reducible refine grew_mk ?_ | with_reducible refine grew_plus ?_ | with_reducible refine grew_alloc ?_ | with_reducible refine grew_drew ?_ | (with_reducible refine grew_set ?_ (by first | exact Nat.le_refl _ | omega | (simp [go_sem]; done) | (simp [go_sem]; omega)))))) hK (Nat.le_refl _)
  have O3 := hid hO3
  clear hK hO3
  go_wp2_with fail
  (refine (l_eqIntSS N2 N1 A2' A1' d2 d1 _ (Q2.out.trans Q1.out.symm) (O3.out.read.grew (by (repeat (first | with_reducible exact grew_refl _ | with_reducible assumption | with_reducible refine grew_split ?_ | with_reducible refine grew_mk ?_ | with_reducible refine grew_plus ?_ | with_reducible refine grew_alloc ?_ | with_reducible refine grew_drew ?_ | (with_reducible refine grew_set ?_ (by first | exact Nat.le_refl _ | omega | (simp [go_sem]; done) | (simp [go_sem]; omega))))))) (HS1.out.grew (by (repeat (first | with_reducible exact grew_refl _ | with_reducible assumption | with_reducible refine grew_split ?_ | with_reducible refine grew_mk ?_ | with_reducible refine grew_plus ?_ | with_reducible refine grew_alloc ?_ | with_reducible refine grew_drew ?_ | (with_reducible refine grew_set ?_ (by first | exact Nat.le_refl _ | omega | (simp [go_sem]; done) | (simp [go_sem]; omega))))))) (by unfold maxLen; omega)).mono ?_; rintro e w' ⟨rfl, gxs, rfl⟩; go_wp2_with fail)
  refine (l_markIntSS _ _ N2 A2' d2 1 _ (O3.out.grew (by (repeat (first | with_reducible exact grew_refl _ | with_reducible assumption | with_reducible refine grew_split ?_ | with_reducible refine grew_mk ?_ | with_reducible refine grew_plus ?_ | with_reducible refine grew_alloc ?_ | with_reducible refine grew_drew ?_ | (with_reducible refine grew_set ?_ (by first | exact Nat.le_refl _ | omega | (simp [go_sem]; done) | (simp [go_sem]; omega))))))) (by omega) (by omega) (by omega)).mono ?_
  rintro e w' ⟨rfl, hSl, hM, hK2⟩
  obtain ⟨gn, rfl⟩ := grew_keptF (w0 := W1) (by (repeat (first | with_reducible exact grew_refl _ | with_reducible assumption | with_reducible refine grew_split ?_ | with_reducible refine grew_mk ?_ | with_reducible refine grew_plus ?_ | with_reducible refine grew_alloc ?_ | with_reducible refine grew_drew ?_ | (with_reducible refine grew_set ?_ (by first | exact Nat.le_refl _ | omega | (simp [go_sem]; done) | (simp [go_sem]; omega)))))) hK2 (by first | (simp [go_sem]; done) | (simp [go_sem]; omega) | (simp [go_sem, Ext.add]; done) | (simp [go_sem, Ext.add]; omega) | omega)
  have O4 := hid hSl
  have M4 := hid hM
  clear hK2 hSl hM
  go_wp2_with fail
  (refine (l_heldIntSS N2 A2' d2 1 _ (O4.out.grew (by (repeat (first | with_reducible exact grew_refl _ | with_reducible assumption | with_reducible refine grew_split ?_ | with_reducible refine grew_mk ?_ | with_reducible refine grew_plus ?_ | with_reducible refine grew_alloc ?_ | with_reducible refine grew_drew ?_ | (with_reducible refine grew_set ?_ (by first | exact Nat.le_refl _ | omega | (simp [go_sem]; done) | (simp [go_sem]; omega))))))) (M4.out.grew (by (repeat (first | with_reducible exact grew_refl _ | with_reducible assumption | with_reducible refine grew_split ?_ | with_reducible refine grew_mk ?_ | with_reducible refine grew_plus ?_ | with_reducible refine grew_alloc ?_ | with_reducible refine grew_drew ?_ | (with_reducible refine grew_set ?_ (by first | exact Nat.le_refl _ | omega | (simp [go_sem]; done) | (simp [go_sem]; omega))))))) (by omega) (by omega) (by omega)).mono ?_; rintro e w' ⟨rfl, gxs, rfl⟩; go_wp2_with fail)
  (refine (l_toLtsM L A c _ (HV.out.grew (by (repeat (first | with_reducible exact grew_refl _ | with_reducible assumption | with_reducible refine grew_split ?_ | with_reducible refine grew_mk ?_ | with_reducible refine grew_plus ?_ | with_reducible refine grew_alloc ?_ | with_reducible refine grew_drew ?_ | (with_reducible refine grew_set ?_ (by first | exact Nat.le_refl _ | omega | (simp [go_sem]; done) | (simp [go_sem]; omega))))))) hp hl').mono ?_; rintro e w' ⟨⟨AU4, MU4, rfl, haU4, htU4, hmU4⟩, gxU4, rfl⟩; (try rw [plus_plus] at htU4); have ALU4 := hid haU4; have U4 := hid htU4; have MKU4 := hid hmU4; clear haU4 htU4 hmU4)
  go_wp2_with fail
  refine (i_ConfusablePairs MU4 AU4 MU4.length R o (by rw [← ALU4.out.pairsF]; exact HR.out) _ (U4.out.grew (by (repeat (first | with_reducible exact grew_refl _ | with_reducible assumption | with_reducible refine grew_split ?_ | with_reducible refine grew_mk ?_ | with_reducible refine grew_plus ?_ | with_reducible refine grew_alloc ?_ | with_reducible refine grew_drew ?_ | (with_reducible refine grew_set ?_ (by first | exact Nat.le_refl _ | omega | (simp [go_sem]; done) | (simp [go_sem]; omega))))))) (by unfold maxLen; have := ALU4.out.1; omega) (Nat.le_refl _)).mono ?_
  rintro e w' ⟨⟨A5', d5, N5, rfl, hQ5, hO5⟩, gs5, rfl⟩
  (try rw [plus_plus] at hO5)
  have hn5 : N5.length ≤ 100 := by have h := ab_len (hQ5.trans Q1.out.symm); omega
  have Q5 := hid hQ5
  have O5 := hid hO5.mark.read
  clear hO5 hQ5
  go_wp2_with fail
  (refine (l_eqIntSS N5 N1 A5' A1' d5 d1 _ (Q5.out.trans Q1.out.symm) (O5.out.grew (by (repeat (first | with_reducible exact grew_refl _ | with_reducible assumption | with_reducible refine grew_split ?_ | with_reducible refine grew_mk ?_ | with_reducible refine grew_plus ?_ | with_reducible refine grew_alloc ?_ | with_reducible refine grew_drew ?_ | (with_reducible refine grew_set ?_ (by first | exact Nat.le_refl _ | omega | (simp [go_sem]; done) | (simp [go_sem]; omega))))))) (HS1.out.grew (by (repeat (first | with_reducible exact grew_refl _ | with_reducible assumption | with_reducible refine grew_split ?_ | with_reducible refine grew_mk ?_ | with_reducible refine grew_plus ?_ | with_reducible refine grew_alloc ?_ | with_reducible refine grew_drew ?_ | (with_reducible refine grew_set ?_ (by first | exact Nat.le_refl _ | omega | (simp [go_sem]; done) | (simp [go_sem]; omega))))))) (by unfold maxLen; omega)).mono ?_; rintro e w' ⟨rfl, gxs, rfl⟩; go_wp2_with fail)
  (refine (l_heldIntSS N2 A2' d2 1 _ (O4.out.grew (by (repeat (first | with_reducible exact grew_refl _ | with_reducible assumption | with_reducible refine grew_split ?_ | with_reducible refine grew_mk ?_ | with_reducible refine grew_plus ?_ | with_reducible refine grew_alloc ?_ | with_reducible refine grew_drew ?_ | (with_reducible refine grew_set ?_ (by first | exact Nat.le_refl _ | omega | (simp [go_sem]; done) | (simp [go_sem]; omega))))))) (M4.out.grew (by (repeat (first | with_reducible exact grew_refl _ | with_reducible assumption | with_reducible refine grew_split ?_ | with_reducible refine grew_mk ?_ | with_reducible refine grew_plus ?_ | with_reducible refine grew_alloc ?_ | with_reducible refine grew_drew ?_ | (with_reducible refine grew_set ?_ (by first | exact Nat.le_refl _ | omega | (simp [go_sem]; done) | (simp [go_sem]; omega))))))) (by omega) (by omega) (by omega)).mono ?_; rintro e w' ⟨rfl, gxs, rfl⟩; go_wp2_with fail)
  go_ret
  exact ⟨rfl, by (repeat (first | with_reducible exact grew_refl _ | with_reducible assumption | with_reducible refine grew_split ?_ | with_reducible refine grew_mk ?_ | with_reducible refine grew_plus ?_ | with_reducible refine grew_alloc ?_ | with_reducible refine grew_drew ?_ | (with_reducible refine grew_set ?_ (by first | exact Nat.le_refl _ | omega | (simp [go_sem]; done) | (simp [go_sem]; omega)))))⟩
theorem fnExactConfusablePairs_own : ownKnob Try.prog.godebug = none := by kernel_rfl
theorem fnExactConfusablePairs_laidOut : laidOutB Try.prog = true := by kernel_rfl
set_option maxRecDepth 100000 in
theorem fnExactConfusablePairs_lifted (os : Os) (started : os.Started) (H : Type) (enc : TypeId × Value → H) :
    ReturnsInHanded {} Try.checked os 3 .any (Rows.fnExactConfusablePairsSpec.pre6 enc Try.prog Try.f3 Rows.fnExactConfusablePairsRow.domain false) (Rows.fnExactConfusablePairsSpec.post enc Try.prog Try.f3 false true false false) := by
  refine returnsInHanded_of_change (C := Try.checked) fnExactConfusablePairs_own started (by kernel_rfl) Try.func3
    (ChangeSpec.witness6 (enc := enc) (C := Try.checked) false ⟨#[], #[.slice none 0 0], []⟩ 8 (by kernel_rfl) (by kernel_rfl) (by kernel_rfl) (by kernel_rfl)) ?_
  intro W base args ds gs before hval0 hW hcnd _
  have hval : ∀ (j : Nat) t v, Try.f3.params[j]? = some t → args[j]? = some v → Value.okWide Try.prog W .any base t v := hval0
  have hW' := hW
  obtain ⟨p, q, hA0, hV, rfl, hfz, hnd⟩ := hW
  have hA : DataW.TrodAll enc Try.prog W 0 (fun _ => true) true Try.f3.params.toList args.toList ds p := hA0
  rw [Try.params3] at hA hval
  obtain ⟨v0, vs0, d0, ds0, p0, q0, hargs, rfl, rfl, h0, r0⟩ := trodAll_cons hA
  obtain ⟨rfl, rfl, rfl⟩ := trodAll_nil r0
  obtain rfl : args = #[v0] := by cases args; simp_all
  obtain ⟨rfl, rfl⟩ := trodVars_none hV
  have k0 := h0
  have lt0 : ∀ x ∈ p0, x.block < W.heap.size := by obtain ⟨m, hm⟩ := k0; exact DataW.trod_lt m _ _ _ hm
  obtain ⟨A, c, l, rfl, hS, hat, hl⟩ := open_lights (hval 0 22 v0 rfl rfl) h0
  clear hA0 hval0
  refine (l_FnExactConfusablePairs l A c W ⟨hS, hat⟩ hl).mono fun e W' ⟨he, hg⟩ => ?_
  have bel := below_of_grew hg
  subst he
  exact ⟨_, rfl, _, _, _, [], _, [], hW', trodAll_mk1 (shut_bool Try.underlying4 _), (trodAll_cons_mk (Below.trod fnExactConfusablePairs_laidOut (by kernel_rfl) (of_decide_eq_true (by kernel_rfl)) k0 bel lt0) trodAll_mk0), rfl, bel.frame _, fun h => by cases h⟩
theorem fnExactConfusablePairs_over : Rows.fnExactConfusablePairsRow.holds Try.pinned (OpenSpec.ofChange Rows.fnExactConfusablePairsSpec) :=
  OpenClaim.holds_of_wide 3 Try.f3 rfl rfl rfl rfl rfl rfl rfl ⟨rfl, rfl, rfl, rfl, rfl⟩ rfl rfl rfl rfl rfl (by kernel_rfl) Try.func3 (by kernel_rfl)
    (of_decide_eq_true (by kernel_rfl)) (by unfold Func.isWrapper; first | (rw [if_pos (by decide +kernel)]; kernel_rfl) | (rw [if_neg (by decide +kernel)]; exact ⟨rfl, rfl⟩))
    (fun os started H enc _ => fnExactConfusablePairs_lifted os started H enc)
theorem fnExactConfusablePairs_holds : Rows.FnExactConfusablePairsSaid := fnExactConfusablePairs_over
end Go.Proofs.Ytjlaidjogladaaa
