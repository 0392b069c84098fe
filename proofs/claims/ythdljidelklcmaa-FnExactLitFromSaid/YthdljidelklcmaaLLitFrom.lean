/- The law FnExactLitFrom: the lights that are lit and seen from a spot, their marks, and what is held of them. No condition. -/
import Derived.Test.YthdljidelklcmaaRows
import Derived.Test.YthdljidelklcmaaLk2
import Derived.Test.YthdljidelklcmaaLk5
import Derived.Test.YthdljidelklcmaaOpenSpot
import Derived.Deep.RegionWith
namespace Go.Proofs.Ythdljidelklcmaa
open Go.ChangeShapes Go.WideShapes Go.ChangeAt Go.RowKit Go.Deep Go.Joins
open Go.ChangeMaps (open_string shut_string)

theorem calls_opaqL {P : Program} {f : FuncId} {args : Array Value} {W : World} {R : Ending → World → Prop} (F : World → Prop) (hF : F W) (h : ∀ wr, F wr → Calls P f args wr R) : Calls P f args W R := h W hF
set_option maxHeartbeats 4000000 in
theorem l_FnExactLitFrom (L : List LightV) (A : Option Addr) (c : Nat) (x y m : Int) (w : World) (hA : Lts w A L) (hl : L.length ≤ maxLen) :
    Calls Try.prog 4 #[.slice A L.length c, .agg #[.int .i64 x, .int .i64 y], .int .i64 m] w fun e' w' => e' = .returned (.bool true) ∧ ∃ g, w' = plus w g := by
  have HV := hid hA
  obtain ⟨R, o, hR⟩ : ∃ R o, whereF (litP x y m) (spotB x y && inB m 0 1000000) L = (R, o) := ⟨_, _, rfl⟩
  have HR := hid hR
  have hRl := whereF_len hR
  clear hA hR
  go_enter Try.func4, Try.ntmps4
  go_wp2_with fail
  refine (l_szLightS2 L A c 1048576 _ (HV.out.grew (by (repeat (first | with_reducible exact grew_refl _ | with_reducible assumption | with_reducible refine grew_split ?_ | with_reducible refine grew_mk ?_ | with_reducible refine grew_plus ?_ | with_reducible refine grew_alloc ?_ | with_reducible refine grew_drew ?_ | (with_reducible refine grew_set ?_ (by first | exact Nat.le_refl _ | omega | (simp [go_sem]; done) | (simp [go_sem]; omega))))))).sl (HV.out.grew (by (repeat (first | with_reducible exact grew_refl _ | with_reducible assumption | with_reducible refine grew_split ?_ | with_reducible refine grew_mk ?_ | with_reducible refine grew_plus ?_ | with_reducible refine grew_alloc ?_ | with_reducible refine grew_drew ?_ | (with_reducible refine grew_set ?_ (by first | exact Nat.le_refl _ | omega | (simp [go_sem]; done) | (simp [go_sem]; omega))))))).at_ hl (by omega) (by omega)).mono ?_
  rintro e w' ⟨⟨kz, rfl, hkz, hkz1, hkz2⟩, gx, rfl⟩
  by_cases hneg : kz < 0
  · clear hkz2
    go_wp2_with fail
    go_ret
    exact ⟨rfl, by (repeat (first | with_reducible exact grew_refl _ | with_reducible assumption | with_reducible refine grew_split ?_ | with_reducible refine grew_mk ?_ | with_reducible refine grew_plus ?_ | with_reducible refine grew_alloc ?_ | with_reducible refine grew_drew ?_ | (with_reducible refine grew_set ?_ (by first | exact Nat.le_refl _ | omega | (simp [go_sem]; done) | (simp [go_sem]; omega)))))⟩
  have HZ := hid (hkz2 (by omega))
  have hl' : L.length ≤ 1048576 := by have := HZ.out; omega
  have hp : ∀ u ∈ L, u.core.ph.length ≤ 1048576 := fun u hu => by
    obtain ⟨i, hi, rfl⟩ := List.mem_iff_getElem.1 hu
    have h1 := phTo_one hi
    have := HZ.out
    omega
  clear hkz2
  go_wp2_with fail
  go_region_with (first
    | (go_at_call 7; (refine (l_toLtsM L A c _ (HV.out.grew (by (repeat (first | with_reducible exact grew_refl _ | with_reducible assumption | with_reducible refine grew_split ?_ | with_reducible refine grew_mk ?_ | with_reducible refine grew_plus ?_ | with_reducible refine grew_alloc ?_ | with_reducible refine grew_drew ?_ | (with_reducible refine grew_set ?_ (by first | exact Nat.le_refl _ | omega | (simp [go_sem]; done) | (simp [go_sem]; omega))))))) hp hl').mono ?_; rintro e w' ⟨⟨AU1, MU1, rfl, haU1, htU1, hmU1⟩, gxU1, rfl⟩; (try rw [plus_plus] at htU1); have ALU1 := hid haU1; have U1 := hid htU1; have MKU1 := hid hmU1; clear haU1 htU1 hmU1))
    | (go_at_call 8; refine (l_toSpot x y _).mono ?_; (rintro e w' ⟨rfl, gx, rfl⟩))
    | (go_at_call 15; refine (s_LitFrom MU1 AU1 MU1.length x y m R o (by rw [← ALU1.out.whereF]; exact HR.out) _ (U1.out.grew (by (repeat (first | with_reducible exact grew_refl _ | with_reducible assumption | with_reducible refine grew_split ?_ | with_reducible refine grew_mk ?_ | with_reducible refine grew_plus ?_ | with_reducible refine grew_alloc ?_ | with_reducible refine grew_drew ?_ | (with_reducible refine grew_set ?_ (by first | exact Nat.le_refl _ | omega | (simp [go_sem]; done) | (simp [go_sem]; omega))))))) (by unfold maxLen; have := ALU1.out.1; omega)).mono ?_; rintro e w' ⟨⟨A1', d1, rfl, hO1⟩, gs1, rfl⟩; (try rw [plus_plus] at hO1); have O1 := hid hO1; clear hO1))
  all_goals
    go_wp2_with fail
    refine calls_opaqL (fun W1 => Blk W1 w.heap.size 24 #[.int .i64 x, .int .i64 y] ∧ Sl W1 1 intRow A1' R ∧ ∃ g, W1 = plus w g) ⟨blk_grew (blk_new (w := w) rfl) (by (repeat (first | with_reducible exact grew_refl _ | with_reducible assumption | with_reducible refine grew_split ?_ | with_reducible refine grew_mk ?_ | with_reducible refine grew_plus ?_ | with_reducible refine grew_alloc ?_ | with_reducible refine grew_drew ?_ | (with_reducible refine grew_set ?_ (by first | exact Nat.le_refl _ | omega | (simp [go_sem]; done) | (simp [go_sem]; omega)))))), O1.out.sl.grew (by (repeat (first | with_reducible exact grew_refl _ | with_reducible assumption | with_reducible refine grew_split ?_ | with_reducible refine grew_mk ?_ | with_reducible refine grew_plus ?_ | with_reducible refine grew_alloc ?_ | with_reducible refine grew_drew ?_ | (with_reducible refine grew_set ?_ (by first | exact Nat.le_refl _ | omega | (simp [go_sem]; done) | (simp [go_sem]; omega)))))), by (repeat (first | with_reducible exact grew_refl _ | with_reducible assumption | with_reducible refine grew_split ?_ | with_reducible refine grew_mk ?_ | with_reducible refine grew_plus ?_ | with_reducible refine grew_alloc ?_ | with_reducible refine grew_drew ?_ | (with_reducible refine grew_set ?_ (by first | exact Nat.le_refl _ | omega | (simp [go_sem]; done) | (simp [go_sem]; omega)))))⟩ ?_
    rintro W1 ⟨hB, hS, hG⟩
    have hb0 : W1.cell? ⟨w.heap.size, 0, none⟩ = some (.int .i64 x) := (hB.cell 0).trans rfl
    have hb1 : W1.cell? ⟨w.heap.size, 1, none⟩ = some (.int .i64 y) := (hB.cell 1).trans rfl
    have hbl := hB.lt
    have HS1 := hid hS
    clear hB hS O1 U1 MKU1
    (refine (l_toLtsM L A c _ (HV.out.grew (by (repeat (first | with_reducible exact grew_refl _ | with_reducible assumption | with_reducible refine grew_split ?_ | with_reducible refine grew_mk ?_ | with_reducible refine grew_plus ?_ | with_reducible refine grew_alloc ?_ | with_reducible refine grew_drew ?_ | (with_reducible refine grew_set ?_ (by first | exact Nat.le_refl _ | omega | (simp [go_sem]; done) | (simp [go_sem]; omega))))))) hp hl').mono ?_; rintro e w' ⟨⟨AU2, MU2, rfl, haU2, htU2, hmU2⟩, gxU2, rfl⟩; (try rw [plus_plus] at htU2); have ALU2 := hid haU2; have U2 := hid htU2; have MKU2 := hid hmU2; clear haU2 htU2 hmU2)
    go_wp2_with fail
    (refine (l_toSpot x y _).mono ?_; rintro e w' ⟨rfl, gxs, rfl⟩; go_wp2_with fail)
    refine (i_LitFrom MU2 AU2 MU2.length x y m R o (by rw [← ALU2.out.whereF]; exact HR.out) _ (U2.out.grew (by (repeat (first | with_reducible exact grew_refl _ | with_reducible assumption | with_reducible refine grew_split ?_ | with_reducible refine grew_mk ?_ | with_reducible refine grew_plus ?_ | with_reducible refine grew_alloc ?_ | with_reducible refine grew_drew ?_ | (with_reducible refine grew_set ?_ (by first | exact Nat.le_refl _ | omega | (simp [go_sem]; done) | (simp [go_sem]; omega))))))) (by unfold maxLen; have := ALU2.out.1; omega) (Nat.le_refl _)).mono ?_
    rintro e w' ⟨⟨A2', d2, rfl, hO2⟩, gs2, rfl⟩
    (try rw [plus_plus] at hO2)
    have O2 := hid hO2
    clear hO2
    go_wp2_with fail
    (refine (l_eqIntS R A2' A1' d2 d1 _ (O2.out.sl.grew (by (repeat (first | with_reducible exact grew_refl _ | with_reducible assumption | with_reducible refine grew_split ?_ | with_reducible refine grew_mk ?_ | with_reducible refine grew_plus ?_ | with_reducible refine grew_alloc ?_ | with_reducible refine grew_drew ?_ | (with_reducible refine grew_set ?_ (by first | exact Nat.le_refl _ | omega | (simp [go_sem]; done) | (simp [go_sem]; omega))))))) (HS1.out.grew (by (repeat (first | with_reducible exact grew_refl _ | with_reducible assumption | with_reducible refine grew_split ?_ | with_reducible refine grew_mk ?_ | with_reducible refine grew_plus ?_ | with_reducible refine grew_alloc ?_ | with_reducible refine grew_drew ?_ | (with_reducible refine grew_set ?_ (by first | exact Nat.le_refl _ | omega | (simp [go_sem]; done) | (simp [go_sem]; omega))))))) (by unfold maxLen; omega)).mono ?_; rintro e w' ⟨rfl, gxs, rfl⟩; go_wp2_with fail)
    (refine (l_toLtsM L A c _ (HV.out.grew (by (repeat (first | with_reducible exact grew_refl _ | with_reducible assumption | with_reducible refine grew_split ?_ | with_reducible refine grew_mk ?_ | with_reducible refine grew_plus ?_ | with_reducible refine grew_alloc ?_ | with_reducible refine grew_drew ?_ | (with_reducible refine grew_set ?_ (by first | exact Nat.le_refl _ | omega | (simp [go_sem]; done) | (simp [go_sem]; omega))))))) hp hl').mono ?_; rintro e w' ⟨⟨AU3, MU3, rfl, haU3, htU3, hmU3⟩, gxU3, rfl⟩; (try rw [plus_plus] at htU3); have ALU3 := hid haU3; have U3 := hid htU3; have MKU3 := hid hmU3; clear haU3 htU3 hmU3)
    go_wp2_with fail
    (refine (l_eqLts MU2 MU3 AU2 AU3 MU2.length MU3.length _ (ALU2.out.symm.trans ALU3.out) (U2.out.grew (by (repeat (first | with_reducible exact grew_refl _ | with_reducible assumption | with_reducible refine grew_split ?_ | with_reducible refine grew_mk ?_ | with_reducible refine grew_plus ?_ | with_reducible refine grew_alloc ?_ | with_reducible refine grew_drew ?_ | (with_reducible refine grew_set ?_ (by first | exact Nat.le_refl _ | omega | (simp [go_sem]; done) | (simp [go_sem]; omega))))))) (U3.out.grew (by (repeat (first | with_reducible exact grew_refl _ | with_reducible assumption | with_reducible refine grew_split ?_ | with_reducible refine grew_mk ?_ | with_reducible refine grew_plus ?_ | with_reducible refine grew_alloc ?_ | with_reducible refine grew_drew ?_ | (with_reducible refine grew_set ?_ (by first | exact Nat.le_refl _ | omega | (simp [go_sem]; done) | (simp [go_sem]; omega))))))) (by unfold maxLen; have := ALU2.out.1; omega)).mono ?_; rintro e w' ⟨rfl, gxs, rfl⟩; go_wp2_with fail)
    refine (l_markLightS _ _ MU2 AU2 MU2.length 1 _ (MKU2.out.grew (by (repeat (first | with_reducible exact grew_refl _ | with_reducible assumption | with_reducible refine grew_split ?_ | with_reducible refine grew_mk ?_ | with_reducible refine grew_plus ?_ | with_reducible refine grew_alloc ?_ | with_reducible refine grew_drew ?_ | (with_reducible refine grew_set ?_ (by first | exact Nat.le_refl _ | omega | (simp [go_sem]; done) | (simp [go_sem]; omega))))))) (by have h := HZ.out; rw [ALU2.out.phTo L.length, ALU2.out.1] at h; exact h) (by omega) (by omega)).mono ?_
    rintro e w' ⟨⟨km, rfl, hkm⟩, hK⟩
    have hO3 := (O2.out.grew (by (repeat (first | with_reducible exact grew_refl _ | with_reducible assumption | with_reducible refine grew_split ?_ | with_reducible refine grew_mk ?_ | with_reducible refine grew_plus ?_ | with_reducible refine grew_alloc ?_ | with_reducible refine grew_drew ?_ | (with_reducible refine grew_set ?_ (by first | exact Nat.le_refl _ | omega | (simp [go_sem]; done) | (simp [go_sem]; omega))))))).keptF hK (by first | (simp [go_sem]; done) | (simp [go_sem]; omega) | (simp [go_sem, Ext.add]; done) | (simp [go_sem, Ext.add]; omega) | omega)
    obtain ⟨gm, rfl⟩ := grew_keptF (w0 := W1) (by (repeat (first | with_reducible exact grew_refl _ | with_reducible assumption | with_reducible refine grew_split ?_ | with_reducible refine grew_mk ?_ | with_reducible refine grew_plus ?_ | with_reducible refine grew_alloc ?_ | with_reducible refine grew_drew ?_ | (with_reducible refine grew_set ?_ (by first | exact Nat.le_refl _ | omega | (simp [go_sem]; done) | (simp [go_sem]; omega)))))) hK (Nat.le_refl _)
    have O3 := hid hO3
    clear hK hO3
    go_wp2_with fail
    (refine (l_eqIntS R A2' A1' d2 d1 _ (O3.out.sl.grew (by (repeat (first | with_reducible exact grew_refl _ | with_reducible assumption | with_reducible refine grew_split ?_ | with_reducible refine grew_mk ?_ | with_reducible refine grew_plus ?_ | with_reducible refine grew_alloc ?_ | with_reducible refine grew_drew ?_ | (with_reducible refine grew_set ?_ (by first | exact Nat.le_refl _ | omega | (simp [go_sem]; done) | (simp [go_sem]; omega))))))) (HS1.out.grew (by (repeat (first | with_reducible exact grew_refl _ | with_reducible assumption | with_reducible refine grew_split ?_ | with_reducible refine grew_mk ?_ | with_reducible refine grew_plus ?_ | with_reducible refine grew_alloc ?_ | with_reducible refine grew_drew ?_ | (with_reducible refine grew_set ?_ (by first | exact Nat.le_refl _ | omega | (simp [go_sem]; done) | (simp [go_sem]; omega))))))) (by unfold maxLen; omega)).mono ?_; rintro e w' ⟨rfl, gxs, rfl⟩; go_wp2_with fail)
    have hR := O3.out.row
    refine (l_markIntS _ R A2' d2 1 _ (O3.out.grew (by (repeat (first | with_reducible exact grew_refl _ | with_reducible assumption | with_reducible refine grew_split ?_ | with_reducible refine grew_mk ?_ | with_reducible refine grew_plus ?_ | with_reducible refine grew_alloc ?_ | with_reducible refine grew_drew ?_ | (with_reducible refine grew_set ?_ (by first | exact Nat.le_refl _ | omega | (simp [go_sem]; done) | (simp [go_sem]; omega))))))) (by omega) (by omega) (by omega)).mono ?_
    rintro e w' ⟨rfl, hM, hG2⟩
    obtain ⟨gn, rfl⟩ := grew_grown (w0 := W1) (by (repeat (first | with_reducible exact grew_refl _ | with_reducible assumption | with_reducible refine grew_split ?_ | with_reducible refine grew_mk ?_ | with_reducible refine grew_plus ?_ | with_reducible refine grew_alloc ?_ | with_reducible refine grew_drew ?_ | (with_reducible refine grew_set ?_ (by first | exact Nat.le_refl _ | omega | (simp [go_sem]; done) | (simp [go_sem]; omega)))))) hG2 (fun k hk => by have := (hR k hk).1; simp [go_sem, Ext.add] at this ⊢; omega)
    have O4 := hid hM
    clear hG2 hR hM
    go_wp2_with fail
    (refine (l_heldIntS R.length A2' d2 1 _ (O4.out.sl.grew (by (repeat (first | with_reducible exact grew_refl _ | with_reducible assumption | with_reducible refine grew_split ?_ | with_reducible refine grew_mk ?_ | with_reducible refine grew_plus ?_ | with_reducible refine grew_alloc ?_ | with_reducible refine grew_drew ?_ | (with_reducible refine grew_set ?_ (by first | exact Nat.le_refl _ | omega | (simp [go_sem]; done) | (simp [go_sem]; omega))))))) (by omega) (by omega) (by omega)).mono ?_; rintro e w' ⟨rfl, gxs, rfl⟩; go_wp2_with fail)
    go_region_with (first
      | (go_at_call 7; (refine (l_toLtsM L A c _ (HV.out.grew (by (repeat (first | with_reducible exact grew_refl _ | with_reducible assumption | with_reducible refine grew_split ?_ | with_reducible refine grew_mk ?_ | with_reducible refine grew_plus ?_ | with_reducible refine grew_alloc ?_ | with_reducible refine grew_drew ?_ | (with_reducible refine grew_set ?_ (by first | exact Nat.le_refl _ | omega | (simp [go_sem]; done) | (simp [go_sem]; omega))))))) hp hl').mono ?_; rintro e w' ⟨⟨AU4, MU4, rfl, haU4, htU4, hmU4⟩, gxU4, rfl⟩; (try rw [plus_plus] at htU4); have ALU4 := hid haU4; have U4 := hid htU4; have MKU4 := hid hmU4; clear haU4 htU4 hmU4))
      | (go_at_call 8; refine (l_toSpot x y _).mono ?_; (rintro e w' ⟨rfl, gx, rfl⟩))
      | (go_at_call 16; refine (i_LitFrom MU4 AU4 MU4.length x y m R o (by rw [← ALU4.out.whereF]; exact HR.out) _ (U4.out.grew (by (repeat (first | with_reducible exact grew_refl _ | with_reducible assumption | with_reducible refine grew_split ?_ | with_reducible refine grew_mk ?_ | with_reducible refine grew_plus ?_ | with_reducible refine grew_alloc ?_ | with_reducible refine grew_drew ?_ | (with_reducible refine grew_set ?_ (by first | exact Nat.le_refl _ | omega | (simp [go_sem]; done) | (simp [go_sem]; omega))))))) (by unfold maxLen; have := ALU4.out.1; omega) (Nat.le_refl _)).mono ?_; rintro e w' ⟨⟨A5', d5, rfl, hO5⟩, gs5, rfl⟩; (try rw [plus_plus] at hO5); have O5 := hid hO5; clear hO5))
    all_goals
      go_wp2_with fail
      (refine (l_eqIntS R A5' A1' d5 d1 _ (O5.out.sl.grew (by (repeat (first | with_reducible exact grew_refl _ | with_reducible assumption | with_reducible refine grew_split ?_ | with_reducible refine grew_mk ?_ | with_reducible refine grew_plus ?_ | with_reducible refine grew_alloc ?_ | with_reducible refine grew_drew ?_ | (with_reducible refine grew_set ?_ (by first | exact Nat.le_refl _ | omega | (simp [go_sem]; done) | (simp [go_sem]; omega))))))) (HS1.out.grew (by (repeat (first | with_reducible exact grew_refl _ | with_reducible assumption | with_reducible refine grew_split ?_ | with_reducible refine grew_mk ?_ | with_reducible refine grew_plus ?_ | with_reducible refine grew_alloc ?_ | with_reducible refine grew_drew ?_ | (with_reducible refine grew_set ?_ (by first | exact Nat.le_refl _ | omega | (simp [go_sem]; done) | (simp [go_sem]; omega))))))) (by unfold maxLen; omega)).mono ?_; rintro e w' ⟨rfl, gxs, rfl⟩; go_wp2_with fail)
      (refine (l_heldIntS R.length A2' d2 1 _ (O4.out.sl.grew (by (repeat (first | with_reducible exact grew_refl _ | with_reducible assumption | with_reducible refine grew_split ?_ | with_reducible refine grew_mk ?_ | with_reducible refine grew_plus ?_ | with_reducible refine grew_alloc ?_ | with_reducible refine grew_drew ?_ | (with_reducible refine grew_set ?_ (by first | exact Nat.le_refl _ | omega | (simp [go_sem]; done) | (simp [go_sem]; omega))))))) (by omega) (by omega) (by omega)).mono ?_; rintro e w' ⟨rfl, gxs, rfl⟩; go_wp2_with fail)
      go_ret
      exact ⟨rfl, by (repeat (first | with_reducible exact grew_refl _ | with_reducible assumption | with_reducible refine grew_split ?_ | with_reducible refine grew_mk ?_ | with_reducible refine grew_plus ?_ | with_reducible refine grew_alloc ?_ | with_reducible refine grew_drew ?_ | (with_reducible refine grew_set ?_ (by first | exact Nat.le_refl _ | omega | (simp [go_sem]; done) | (simp [go_sem]; omega)))))⟩
theorem fnExactLitFrom_own : ownKnob Try.prog.godebug = none := by kernel_rfl
theorem fnExactLitFrom_laidOut : laidOutB Try.prog = true := by kernel_rfl
set_option maxRecDepth 100000 in
theorem fnExactLitFrom_lifted (os : Os) (started : os.Started) (H : Type) (enc : TypeId × Value → H) :
    ReturnsInHanded {} Try.checked os 4 .any (Rows.fnExactLitFromSpec.pre6 enc Try.prog Try.f4 Rows.fnExactLitFromRow.domain false) (Rows.fnExactLitFromSpec.post enc Try.prog Try.f4 false true false false) := by
  refine returnsInHanded_of_change (C := Try.checked) fnExactLitFrom_own started (by kernel_rfl) Try.func4
    (ChangeSpec.witness6 (enc := enc) (C := Try.checked) false ⟨#[], #[.slice none 0 0, .agg #[.int .i64 0, .int .i64 0], .int .i64 0], []⟩ 8 (by kernel_rfl) (by kernel_rfl) (by kernel_rfl) (by kernel_rfl)) ?_
  intro W base args ds gs before hval0 hW hcnd _
  have hval : ∀ (j : Nat) t v, Try.f4.params[j]? = some t → args[j]? = some v → Value.okWide Try.prog W .any base t v := hval0
  have hW' := hW
  obtain ⟨p, q, hA0, hV, rfl, hfz, hnd⟩ := hW
  have hA : DataW.TrodAll enc Try.prog W 0 (fun _ => true) true Try.f4.params.toList args.toList ds p := hA0
  rw [Try.params4] at hA hval
  obtain ⟨v0, vs0, d0, ds0, p0, q0, hargs, rfl, rfl, h0, r0⟩ := trodAll_cons hA
  obtain ⟨v1, vs1, d1, ds1, p1, q1, rfl, rfl, rfl, h1, r1⟩ := trodAll_cons r0
  obtain ⟨v2, vs2, d2, ds2, p2, q2, rfl, rfl, rfl, h2, r2⟩ := trodAll_cons r1
  obtain ⟨rfl, rfl, rfl⟩ := trodAll_nil r2
  obtain rfl : args = #[v0, v1, v2] := by cases args; simp_all
  obtain ⟨rfl, rfl⟩ := trodVars_none hV
  have k0 := h0
  have lt0 : ∀ x ∈ p0, x.block < W.heap.size := by obtain ⟨m, hm⟩ := k0; exact DataW.trod_lt m _ _ _ hm
  have k1 := h1
  have lt1 : ∀ x ∈ p1, x.block < W.heap.size := by obtain ⟨m, hm⟩ := k1; exact DataW.trod_lt m _ _ _ hm
  have k2 := h2
  have lt2 : ∀ x ∈ p2, x.block < W.heap.size := by obtain ⟨m, hm⟩ := k2; exact DataW.trod_lt m _ _ _ hm
  obtain ⟨A, c, l, rfl, hS, hat, hl⟩ := open_lights (hval 0 22 v0 rfl rfl) h0
  obtain ⟨x, y, rfl⟩ := open_spot (hval 1 24 v1 rfl rfl) h1
  obtain ⟨m, rfl, _, _, _⟩ := open_int Try.underlying3 (hval 2 3 v2 rfl rfl) h2
  clear hA0 hval0
  refine (l_FnExactLitFrom l A c x y m W ⟨hS, hat⟩ hl).mono fun e W' ⟨he, hg⟩ => ?_
  have bel := below_of_grew hg
  subst he
  exact ⟨_, rfl, _, _, _, [], _, [], hW', trodAll_mk1 (shut_bool Try.underlying4 _), (trodAll_cons_mk (Below.trod fnExactLitFrom_laidOut (by kernel_rfl) (of_decide_eq_true (by kernel_rfl)) k0 bel lt0) (trodAll_cons_mk (Below.trod fnExactLitFrom_laidOut (by kernel_rfl) (of_decide_eq_true (by kernel_rfl)) k1 bel lt1) (trodAll_cons_mk (Below.trod fnExactLitFrom_laidOut (by kernel_rfl) (of_decide_eq_true (by kernel_rfl)) k2 bel lt2) trodAll_mk0))), rfl, bel.frame _, fun h => by cases h⟩
theorem fnExactLitFrom_over : Rows.fnExactLitFromRow.holds Try.pinned (OpenSpec.ofChange Rows.fnExactLitFromSpec) :=
  OpenClaim.holds_of_wide 4 Try.f4 rfl rfl rfl rfl rfl rfl rfl ⟨rfl, rfl, rfl, rfl, rfl⟩ rfl rfl rfl rfl rfl (by kernel_rfl) Try.func4 (by kernel_rfl)
    (of_decide_eq_true (by kernel_rfl)) (by unfold Func.isWrapper; first | (rw [if_pos (by decide +kernel)]; kernel_rfl) | (rw [if_neg (by decide +kernel)]; exact ⟨rfl, rfl⟩))
    (fun os started H enc _ => fnExactLitFrom_lifted os started H enc)
theorem fnExactLitFrom_holds : Rows.FnExactLitFromSaid := fnExactLitFrom_over
end Go.Proofs.Ythdljidelklcmaa
