/- The law FnExactMergeAreas: the merged list, its marks, and what is held of them. No condition. -/
import Derived.Test.YtiamlpcjgoghpaaRows
import Derived.Test.YtiamlpcjgoghpaaAm
import Derived.Test.YtiamlpcjgoghpaaMe
import Derived.Test.YtiamlpcjgoghpaaOpenArea
namespace Go.Proofs.Ytiamlpcjgoghpaa
open Go.ChangeShapes Go.WideShapes Go.ChangeAt Go.RowKit Go.Deep Go.Joins
open Go.ChangeMaps (open_string shut_string)

theorem mergeF_len {l : List AreaR} {a b : ByteArray} {R : List AreaR} {o : Bool} (h : mergeF l a b = (R, o)) : R.length ≤ 10 := by
  unfold mergeF at h
  split at h
  · split at h
    · split at h
      · cases h; simp
      · split at h
        · rename_i hg
          cases h
          exact areasB_len hg
        · cases h; simp
    · cases h; simp
  · cases h; simp
set_option maxHeartbeats 4000000 in
set_option maxRecDepth 100000 in
theorem l_FnExactMergeAreas (l : List AreaR) (A : Option Addr) (c : Nat) (s1 s2 : ByteArray) (w : World) (hA : Sl w 6 AreaR.row A l) (hs : ∀ r ∈ l, r.nm.size ≤ maxLen) (hl : l.length ≤ maxLen) (_hs1 : s1.size ≤ maxLen) (_hs2 : s2.size ≤ maxLen) :
    Calls Try.prog 3 #[.slice A l.length c, .string s1, .string s2] w fun e' w' => e' = .returned (.bool true) ∧ ∃ g, w' = plus w g := by
  have HA := hid hA
  have HS := hid hs
  clear hA hs
  obtain ⟨R, o, hR⟩ : ∃ R o, mergeF l s1 s2 = (R, o) := ⟨_, _, rfl⟩
  have HR := hid hR
  have hRl := mergeF_len hR
  have t2 : (o != o) = false := by simp
  clear hR
  by_cases hbig : 1048576 < (s1.size : Int)
  · go_enter Try.func3, Try.ntmps3
    go_wp2_with fail
    go_ret
    exact ⟨rfl, by (repeat (first | with_reducible exact grew_refl _ | with_reducible assumption | with_reducible refine grew_split ?_ | with_reducible refine grew_mk ?_ | with_reducible refine grew_plus ?_ | with_reducible refine grew_alloc ?_ | with_reducible refine grew_drew ?_ | (with_reducible refine grew_set ?_ (by first | exact Nat.le_refl _ | omega | (simp [go_sem]; done) | (simp [go_sem]; omega)))))⟩
  by_cases hbig2 : 1048576 < (s2.size : Int)
  · go_enter Try.func3, Try.ntmps3
    go_wp2_with fail
    go_ret
    exact ⟨rfl, by (repeat (first | with_reducible exact grew_refl _ | with_reducible assumption | with_reducible refine grew_split ?_ | with_reducible refine grew_mk ?_ | with_reducible refine grew_plus ?_ | with_reducible refine grew_alloc ?_ | with_reducible refine grew_drew ?_ | (with_reducible refine grew_set ?_ (by first | exact Nat.le_refl _ | omega | (simp [go_sem]; done) | (simp [go_sem]; omega)))))⟩
  go_enter Try.func3, Try.ntmps3
  go_wp2_with fail
  refine (l_szAreaRowS l A c _ _ HA.out hl HS.out (by omega) (by omega)).mono ?_
  rintro e w' ⟨⟨kz, rfl, hkz, hkz'⟩, gx, rfl⟩
  by_cases hneg : kz < 0
  · go_wp2_with fail
    go_ret
    exact ⟨rfl, by (repeat (first | with_reducible exact grew_refl _ | with_reducible assumption | with_reducible refine grew_split ?_ | with_reducible refine grew_mk ?_ | with_reducible refine grew_plus ?_ | with_reducible refine grew_alloc ?_ | with_reducible refine grew_drew ?_ | (with_reducible refine grew_set ?_ (by first | exact Nat.le_refl _ | omega | (simp [go_sem]; done) | (simp [go_sem]; omega)))))⟩
  have hl' := hkz' (by omega)
  have hl56 : l.length * 56 ≤ 140737488355328 := by omega
  have hli : (l.length : Int) ≤ 1048576 := by omega
  clear hkz'
  go_wp2_with fail
  refine (l_toAreaRowS l A c _ (HA.out.grew (by (repeat (first | with_reducible exact grew_refl _ | with_reducible assumption | with_reducible refine grew_split ?_ | with_reducible refine grew_mk ?_ | with_reducible refine grew_plus ?_ | with_reducible refine grew_alloc ?_ | with_reducible refine grew_drew ?_ | (with_reducible refine grew_set ?_ (by first | exact Nat.le_refl _ | omega | (simp [go_sem]; done) | (simp [go_sem]; omega))))))) hl56).mono ?_
  rintro e w' ⟨⟨gbX1, csX1, rfl, hgX1, hBX1, hsX1, hFX1⟩, gxX1, rfl⟩
  have X1 := hid (show OwnF _ 35 6 AreaR.row _ (some ⟨gbX1, 0, none⟩) l from .inr ⟨gbX1, csX1, rfl, hgX1, hBX1, by omega, hFX1⟩)
  clear hBX1 hsX1 hFX1 hgX1
  (try rw [plus_plus] at X1)
  go_wp2_with fail
  refine (s_MergeAreas l _ _ s1 s2 _ (X1.out.sl.grew (by (repeat (first | with_reducible exact grew_refl _ | with_reducible assumption | with_reducible refine grew_split ?_ | with_reducible refine grew_mk ?_ | with_reducible refine grew_plus ?_ | with_reducible refine grew_alloc ?_ | with_reducible refine grew_drew ?_ | (with_reducible refine grew_set ?_ (by first | exact Nat.le_refl _ | omega | (simp [go_sem]; done) | (simp [go_sem]; omega))))))) HS.out hl).mono ?_
  rw [HR.out]
  rintro e w' ⟨⟨A1, d1, rfl, hO1⟩, gs1, rfl⟩
  (try rw [plus_plus] at hO1)
  have O1 := hid hO1
  clear hO1
  go_wp2_with fail
  refine opq_calls (fun W1 => Sl W1 6 AreaR.row A1 R ∧ ∃ g, W1 = plus w g) ⟨O1.out.sl.grew (by (repeat (first | with_reducible exact grew_refl _ | with_reducible assumption | with_reducible refine grew_split ?_ | with_reducible refine grew_mk ?_ | with_reducible refine grew_plus ?_ | with_reducible refine grew_alloc ?_ | with_reducible refine grew_drew ?_ | (with_reducible refine grew_set ?_ (by first | exact Nat.le_refl _ | omega | (simp [go_sem]; done) | (simp [go_sem]; omega)))))), by (repeat (first | with_reducible exact grew_refl _ | with_reducible assumption | with_reducible refine grew_split ?_ | with_reducible refine grew_mk ?_ | with_reducible refine grew_plus ?_ | with_reducible refine grew_alloc ?_ | with_reducible refine grew_drew ?_ | (with_reducible refine grew_set ?_ (by first | exact Nat.le_refl _ | omega | (simp [go_sem]; done) | (simp [go_sem]; omega)))))⟩ ?_
  rintro W1 ⟨hS, hG⟩
  have O1 := hid hS
  have HA := hid (HA.out.grew hG)
  clear hS X1
  refine (l_toAreaRowS l A c _ (HA.out.grew (by (repeat (first | with_reducible exact grew_refl _ | with_reducible assumption | with_reducible refine grew_split ?_ | with_reducible refine grew_mk ?_ | with_reducible refine grew_plus ?_ | with_reducible refine grew_alloc ?_ | with_reducible refine grew_drew ?_ | (with_reducible refine grew_set ?_ (by first | exact Nat.le_refl _ | omega | (simp [go_sem]; done) | (simp [go_sem]; omega))))))) hl56).mono ?_
  rintro e w' ⟨⟨gbX2, csX2, rfl, hgX2, hBX2, hsX2, hFX2⟩, gxX2, rfl⟩
  have X2 := hid (show OwnF _ 35 6 AreaR.row _ (some ⟨gbX2, 0, none⟩) l from .inr ⟨gbX2, csX2, rfl, hgX2, hBX2, by omega, hFX2⟩)
  clear hBX2 hsX2 hFX2 hgX2
  (try rw [plus_plus] at X2)
  go_wp2_with fail
  refine (i_MergeAreas l _ _ s1 s2 _ (X2.out.sl.grew (by (repeat (first | with_reducible exact grew_refl _ | with_reducible assumption | with_reducible refine grew_split ?_ | with_reducible refine grew_mk ?_ | with_reducible refine grew_plus ?_ | with_reducible refine grew_alloc ?_ | with_reducible refine grew_drew ?_ | (with_reducible refine grew_set ?_ (by first | exact Nat.le_refl _ | omega | (simp [go_sem]; done) | (simp [go_sem]; omega))))))) HS.out hl).mono ?_
  rw [HR.out]
  rintro e w' ⟨⟨A2, d2, rfl, hO2⟩, gs2, rfl⟩
  have hX2 := X2.out.row
  (try rw [plus_plus] at hO2)
  have O2 := hid hO2
  clear hO2
  go_wp2_with fail
  (refine (l_eqAreaRowS R A2 A1 d2 d1 _ (O2.out.sl.grew (by (repeat (first | with_reducible exact grew_refl _ | with_reducible assumption | with_reducible refine grew_split ?_ | with_reducible refine grew_mk ?_ | with_reducible refine grew_plus ?_ | with_reducible refine grew_alloc ?_ | with_reducible refine grew_drew ?_ | (with_reducible refine grew_set ?_ (by first | exact Nat.le_refl _ | omega | (simp [go_sem]; done) | (simp [go_sem]; omega))))))) (O1.out.grew (by (repeat (first | with_reducible exact grew_refl _ | with_reducible assumption | with_reducible refine grew_split ?_ | with_reducible refine grew_mk ?_ | with_reducible refine grew_plus ?_ | with_reducible refine grew_alloc ?_ | with_reducible refine grew_drew ?_ | (with_reducible refine grew_set ?_ (by first | exact Nat.le_refl _ | omega | (simp [go_sem]; done) | (simp [go_sem]; omega))))))) (by unfold maxLen; omega)).mono ?_; rintro e w' ⟨rfl, gxs, rfl⟩; go_wp2_with fail)
  refine (l_toAreaRowS l A c _ (HA.out.grew (by (repeat (first | with_reducible exact grew_refl _ | with_reducible assumption | with_reducible refine grew_split ?_ | with_reducible refine grew_mk ?_ | with_reducible refine grew_plus ?_ | with_reducible refine grew_alloc ?_ | with_reducible refine grew_drew ?_ | (with_reducible refine grew_set ?_ (by first | exact Nat.le_refl _ | omega | (simp [go_sem]; done) | (simp [go_sem]; omega))))))) hl56).mono ?_
  rintro e w' ⟨⟨gbX3, csX3, rfl, hgX3, hBX3, hsX3, hFX3⟩, gxX3, rfl⟩
  have X3 := hid (show OwnF _ 35 6 AreaR.row _ (some ⟨gbX3, 0, none⟩) l from .inr ⟨gbX3, csX3, rfl, hgX3, hBX3, by omega, hFX3⟩)
  clear hBX3 hsX3 hFX3 hgX3
  (try rw [plus_plus] at X3)
  go_wp2_with fail
  (refine (l_eqAreaRowS l _ _ _ _ _ (X2.out.sl.grew (by (repeat (first | with_reducible exact grew_refl _ | with_reducible assumption | with_reducible refine grew_split ?_ | with_reducible refine grew_mk ?_ | with_reducible refine grew_plus ?_ | with_reducible refine grew_alloc ?_ | with_reducible refine grew_drew ?_ | (with_reducible refine grew_set ?_ (by first | exact Nat.le_refl _ | omega | (simp [go_sem]; done) | (simp [go_sem]; omega))))))) (X3.out.sl.grew (by (repeat (first | with_reducible exact grew_refl _ | with_reducible assumption | with_reducible refine grew_split ?_ | with_reducible refine grew_mk ?_ | with_reducible refine grew_plus ?_ | with_reducible refine grew_alloc ?_ | with_reducible refine grew_drew ?_ | (with_reducible refine grew_set ?_ (by first | exact Nat.le_refl _ | omega | (simp [go_sem]; done) | (simp [go_sem]; omega))))))) hl).mono ?_; rintro e w' ⟨rfl, gxs, rfl⟩; go_wp2_with fail)
  refine (l_markAreaRowS _ l _ _ 1 _ (X2.out.grew (by (repeat (first | with_reducible exact grew_refl _ | with_reducible assumption | with_reducible refine grew_split ?_ | with_reducible refine grew_mk ?_ | with_reducible refine grew_plus ?_ | with_reducible refine grew_alloc ?_ | with_reducible refine grew_drew ?_ | (with_reducible refine grew_set ?_ (by first | exact Nat.le_refl _ | omega | (simp [go_sem]; done) | (simp [go_sem]; omega))))))) hli (by omega) (by omega)).mono ?_
  rintro e w' ⟨rfl, hM, hG2⟩
  have hO3 := (O2.out.grew (by (repeat (first | with_reducible exact grew_refl _ | with_reducible assumption | with_reducible refine grew_split ?_ | with_reducible refine grew_mk ?_ | with_reducible refine grew_plus ?_ | with_reducible refine grew_alloc ?_ | with_reducible refine grew_drew ?_ | (with_reducible refine grew_set ?_ (by first | exact Nat.le_refl _ | omega | (simp [go_sem]; done) | (simp [go_sem]; omega))))))).kept hG2 (fun k hk => by have := hX2 k hk; simp [go_sem, Ext.add] at this ⊢; omega)
  obtain ⟨gm, rfl⟩ := grew_grown (w0 := W1) (by (repeat (first | with_reducible exact grew_refl _ | with_reducible assumption | with_reducible refine grew_split ?_ | with_reducible refine grew_mk ?_ | with_reducible refine grew_plus ?_ | with_reducible refine grew_alloc ?_ | with_reducible refine grew_drew ?_ | (with_reducible refine grew_set ?_ (by first | exact Nat.le_refl _ | omega | (simp [go_sem]; done) | (simp [go_sem]; omega)))))) hG2 (fun k hk => (hX2 k hk).1)
  have O3 := hid hO3
  clear hM hG2 hO3 hX2
  go_wp2_with fail
  (refine (l_eqAreaRowS R A2 A1 d2 d1 _ (O3.out.sl.grew (by (repeat (first | with_reducible exact grew_refl _ | with_reducible assumption | with_reducible refine grew_split ?_ | with_reducible refine grew_mk ?_ | with_reducible refine grew_plus ?_ | with_reducible refine grew_alloc ?_ | with_reducible refine grew_drew ?_ | (with_reducible refine grew_set ?_ (by first | exact Nat.le_refl _ | omega | (simp [go_sem]; done) | (simp [go_sem]; omega))))))) (O1.out.grew (by (repeat (first | with_reducible exact grew_refl _ | with_reducible assumption | with_reducible refine grew_split ?_ | with_reducible refine grew_mk ?_ | with_reducible refine grew_plus ?_ | with_reducible refine grew_alloc ?_ | with_reducible refine grew_drew ?_ | (with_reducible refine grew_set ?_ (by first | exact Nat.le_refl _ | omega | (simp [go_sem]; done) | (simp [go_sem]; omega))))))) (by unfold maxLen; omega)).mono ?_; rintro e w' ⟨rfl, gxs, rfl⟩; go_wp2_with fail)
  have hR3 := O3.out.row
  refine (l_markAreaRowS _ R A2 d2 1 _ (O3.out.grew (by (repeat (first | with_reducible exact grew_refl _ | with_reducible assumption | with_reducible refine grew_split ?_ | with_reducible refine grew_mk ?_ | with_reducible refine grew_plus ?_ | with_reducible refine grew_alloc ?_ | with_reducible refine grew_drew ?_ | (with_reducible refine grew_set ?_ (by first | exact Nat.le_refl _ | omega | (simp [go_sem]; done) | (simp [go_sem]; omega))))))) (by omega) (by omega) (by omega)).mono ?_
  rintro e w' ⟨rfl, hM, hG2⟩
  obtain ⟨gn, rfl⟩ := grew_grown (w0 := W1) (by (repeat (first | with_reducible exact grew_refl _ | with_reducible assumption | with_reducible refine grew_split ?_ | with_reducible refine grew_mk ?_ | with_reducible refine grew_plus ?_ | with_reducible refine grew_alloc ?_ | with_reducible refine grew_drew ?_ | (with_reducible refine grew_set ?_ (by first | exact Nat.le_refl _ | omega | (simp [go_sem]; done) | (simp [go_sem]; omega)))))) hG2 (fun k hk => by have := (hR3 k hk).1; simp [go_sem, Ext.add] at this ⊢; omega)
  have O4 := hid hM
  clear hG2 hR3 hM
  go_wp2_with fail
  (refine (l_heldAreaRowS R.length A2 d2 1 _ (O4.out.sl.grew (by (repeat (first | with_reducible exact grew_refl _ | with_reducible assumption | with_reducible refine grew_split ?_ | with_reducible refine grew_mk ?_ | with_reducible refine grew_plus ?_ | with_reducible refine grew_alloc ?_ | with_reducible refine grew_drew ?_ | (with_reducible refine grew_set ?_ (by first | exact Nat.le_refl _ | omega | (simp [go_sem]; done) | (simp [go_sem]; omega))))))) (by omega) (by omega) (by omega)).mono ?_; rintro e w' ⟨rfl, gxs, rfl⟩; go_wp2_with fail)
  refine (l_toAreaRowS l A c _ (HA.out.grew (by (repeat (first | with_reducible exact grew_refl _ | with_reducible assumption | with_reducible refine grew_split ?_ | with_reducible refine grew_mk ?_ | with_reducible refine grew_plus ?_ | with_reducible refine grew_alloc ?_ | with_reducible refine grew_drew ?_ | (with_reducible refine grew_set ?_ (by first | exact Nat.le_refl _ | omega | (simp [go_sem]; done) | (simp [go_sem]; omega))))))) hl56).mono ?_
  rintro e w' ⟨⟨gbX4, csX4, rfl, hgX4, hBX4, hsX4, hFX4⟩, gxX4, rfl⟩
  have X4 := hid (show OwnF _ 35 6 AreaR.row _ (some ⟨gbX4, 0, none⟩) l from .inr ⟨gbX4, csX4, rfl, hgX4, hBX4, by omega, hFX4⟩)
  clear hBX4 hsX4 hFX4 hgX4
  (try rw [plus_plus] at X4)
  go_wp2_with fail
  refine (i_MergeAreas l _ _ s1 s2 _ (X4.out.sl.grew (by (repeat (first | with_reducible exact grew_refl _ | with_reducible assumption | with_reducible refine grew_split ?_ | with_reducible refine grew_mk ?_ | with_reducible refine grew_plus ?_ | with_reducible refine grew_alloc ?_ | with_reducible refine grew_drew ?_ | (with_reducible refine grew_set ?_ (by first | exact Nat.le_refl _ | omega | (simp [go_sem]; done) | (simp [go_sem]; omega))))))) HS.out hl).mono ?_
  rw [HR.out]
  rintro e w' ⟨⟨A5, d5, rfl, hO5⟩, gs5, rfl⟩
  (try rw [plus_plus] at hO5)
  have O5 := hid hO5
  clear hO5
  go_wp2_with fail
  (refine (l_eqAreaRowS R A5 A1 d5 d1 _ (O5.out.sl.grew (by (repeat (first | with_reducible exact grew_refl _ | with_reducible assumption | with_reducible refine grew_split ?_ | with_reducible refine grew_mk ?_ | with_reducible refine grew_plus ?_ | with_reducible refine grew_alloc ?_ | with_reducible refine grew_drew ?_ | (with_reducible refine grew_set ?_ (by first | exact Nat.le_refl _ | omega | (simp [go_sem]; done) | (simp [go_sem]; omega))))))) (O1.out.grew (by (repeat (first | with_reducible exact grew_refl _ | with_reducible assumption | with_reducible refine grew_split ?_ | with_reducible refine grew_mk ?_ | with_reducible refine grew_plus ?_ | with_reducible refine grew_alloc ?_ | with_reducible refine grew_drew ?_ | (with_reducible refine grew_set ?_ (by first | exact Nat.le_refl _ | omega | (simp [go_sem]; done) | (simp [go_sem]; omega))))))) (by unfold maxLen; omega)).mono ?_; rintro e w' ⟨rfl, gxs, rfl⟩; go_wp2_with fail)
  (refine (l_heldAreaRowS R.length A2 d2 1 _ (O4.out.sl.grew (by (repeat (first | with_reducible exact grew_refl _ | with_reducible assumption | with_reducible refine grew_split ?_ | with_reducible refine grew_mk ?_ | with_reducible refine grew_plus ?_ | with_reducible refine grew_alloc ?_ | with_reducible refine grew_drew ?_ | (with_reducible refine grew_set ?_ (by first | exact Nat.le_refl _ | omega | (simp [go_sem]; done) | (simp [go_sem]; omega))))))) (by omega) (by omega) (by omega)).mono ?_; rintro e w' ⟨rfl, gxs, rfl⟩; go_wp2_with fail)
  go_ret
  exact ⟨rfl, by (repeat (first | with_reducible exact grew_refl _ | with_reducible assumption | with_reducible refine grew_split ?_ | with_reducible refine grew_mk ?_ | with_reducible refine grew_plus ?_ | with_reducible refine grew_alloc ?_ | with_reducible refine grew_drew ?_ | (with_reducible refine grew_set ?_ (by first | exact Nat.le_refl _ | omega | (simp [go_sem]; done) | (simp [go_sem]; omega)))))⟩
theorem fnExactMergeAreas_own : ownKnob Try.prog.godebug = none := by kernel_rfl
theorem fnExactMergeAreas_laidOut : laidOutB Try.prog = true := by kernel_rfl
set_option maxRecDepth 100000 in
theorem fnExactMergeAreas_lifted (os : Os) (started : os.Started) (H : Type) (enc : TypeId × Value → H) :
    ReturnsInHanded {} Try.checked os 3 .any (Rows.fnExactMergeAreasSpec.pre6 enc Try.prog Try.f3 Rows.fnExactMergeAreasRow.domain false) (Rows.fnExactMergeAreasSpec.post enc Try.prog Try.f3 false true false false) := by
  refine returnsInHanded_of_change (C := Try.checked) fnExactMergeAreas_own started (by kernel_rfl) Try.func3
    (ChangeSpec.witness6 (enc := enc) (C := Try.checked) false ⟨#[], #[.slice none 0 0, .string ByteArray.empty, .string ByteArray.empty], []⟩ 8 (by kernel_rfl) (by kernel_rfl) (by kernel_rfl) (by kernel_rfl)) ?_
  intro W base args ds gs before hval0 hW hcnd _
  have hval : ∀ (j : Nat) t v, Try.f3.params[j]? = some t → args[j]? = some v → Value.okWide Try.prog W .any base t v := hval0
  have hW' := hW
  obtain ⟨p, q, hA0, hV, rfl, hfz, hnd⟩ := hW
  have hA : DataW.TrodAll enc Try.prog W 0 (fun _ => true) true Try.f3.params.toList args.toList ds p := hA0
  rw [Try.params3] at hA hval
  obtain ⟨v0, vs0, d0, ds0, p0, q0, hargs, rfl, rfl, h0, r0⟩ := trodAll_cons hA
  obtain ⟨v1, vs1, d1, ds1, p1, q1, rfl, rfl, rfl, h1, r1⟩ := trodAll_cons r0
  obtain ⟨v2, vs2, d2, ds2, p2, q2, rfl, rfl, rfl, h2, r2⟩ := trodAll_cons r1
  obtain ⟨rfl, rfl, rfl⟩ := trodAll_nil r2
  obtain rfl : args = #[v0, v1, v2] := by cases args; simp_all
  obtain ⟨rfl, rfl⟩ := trodVars_none hV
  have k0 := h0
  have lt0 : ∀ x ∈ p0, x.block < W.heap.size := by obtain ⟨m, hm⟩ := k0; exact DataW.trod_lt m _ _ _ hm
  have k1 := h1
  have lt1 : ∀ x ∈ p1, x.block < W.heap.size := by obtain ⟨m, hm⟩ := k1; exact DataW.trod_lt m _ _ _ hm
  have k2 := h2
  have lt2 : ∀ x ∈ p2, x.block < W.heap.size := by obtain ⟨m, hm⟩ := k2; exact DataW.trod_lt m _ _ _ hm
  obtain ⟨A, c, l, rfl, hS, hs, hl⟩ := open_areas (hval 0 22 v0 rfl rfl) h0
  obtain ⟨s1, rfl, _, _, hs1⟩ := open_string Try.underlying9 (hval 1 9 v1 rfl rfl) h1
  obtain ⟨s2, rfl, _, _, hs2⟩ := open_string Try.underlying9 (hval 2 9 v2 rfl rfl) h2
  clear hA0 hval0
  refine (l_FnExactMergeAreas l A c s1 s2 W hS hs hl hs1 hs2).mono fun e W' ⟨he, hg⟩ => ?_
  have bel := below_of_grew hg
  subst he
  exact ⟨_, rfl, _, _, _, [], _, [], hW', trodAll_mk1 (shut_bool Try.underlying4 _), (trodAll_cons_mk (Below.trod fnExactMergeAreas_laidOut (by kernel_rfl) (of_decide_eq_true (by kernel_rfl)) k0 bel lt0) (trodAll_cons_mk (Below.trod fnExactMergeAreas_laidOut (by kernel_rfl) (of_decide_eq_true (by kernel_rfl)) k1 bel lt1) (trodAll_cons_mk (Below.trod fnExactMergeAreas_laidOut (by kernel_rfl) (of_decide_eq_true (by kernel_rfl)) k2 bel lt2) trodAll_mk0))), rfl, bel.frame _, fun h => by cases h⟩
theorem fnExactMergeAreas_over : Rows.fnExactMergeAreasRow.holds Try.pinned (OpenSpec.ofChange Rows.fnExactMergeAreasSpec) :=
  OpenClaim.holds_of_wide 3 Try.f3 rfl rfl rfl rfl rfl rfl rfl ⟨rfl, rfl, rfl, rfl, rfl⟩ rfl rfl rfl rfl rfl (by kernel_rfl) Try.func3 (by kernel_rfl)
    (of_decide_eq_true (by kernel_rfl)) (by unfold Func.isWrapper; first | (rw [if_pos (by decide +kernel)]; kernel_rfl) | (rw [if_neg (by decide +kernel)]; exact ⟨rfl, rfl⟩))
    (fun os started H enc _ => fnExactMergeAreas_lifted os started H enc)
theorem fnExactMergeAreas_holds : Rows.FnExactMergeAreasSaid := fnExactMergeAreas_over
end Go.Proofs.Ytiamlpcjgoghpaa
