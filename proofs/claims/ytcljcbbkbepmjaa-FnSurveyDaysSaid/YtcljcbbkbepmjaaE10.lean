/- The reference's draw of a day and of steps to run. -/
import Derived.Test.YtcljcbbkbepmjaaE9
import Derived.Test.YtcljcbbkbepmjaaD17
namespace Go.Proofs.Ytcljcbbkbepmjaa
open Go.RowKit

attribute [local go_sem ↓] Go.wp_at_zero Go.wp_at_succ
theorem step_info : (Try.prog.info? 28).map (fun i => (i.zero, i.size, i.bytes)) = some (some (.agg #[.int .i64 0, .int .i64 0]), 2, 16) := by kernel_rfl
theorem StepR.one (r : StepR) : ∀ u ∈ r.row, u.oneCell' = true := by
  intro u hu
  simp [StepR.row] at hu
  rcases hu with rfl | rfl <;> rfl
theorem StepR.row_len (r : StepR) : r.row.length = 2 := rfl
theorem Own.ty {β : Type} {B' : Nat} {e' : TypeId} {s' : Nat} {cells' : β → List Value} {w : World} {A' : Option Addr} {c' n d : Nat} {l' : List β} (h2 : Own B' e' s' cells' w A' c' l') {k : Nat} (hk : (Value.slice A' n d).ownBlock = some k) : ∃ cs, Blk w k e' cs := by
  obtain ⟨a2, e3, e4⟩ := own_some hk
  rcases h2.2 with ⟨r1, _⟩ | ⟨g', cap', cur', r1, _, r2, _⟩
  · injection r1 with r1; rw [r1] at e3; cases e3
  injection r1 with r1
  rw [r1] at e3
  injection e3 with e3
  rw [← e3] at e4
  simp only at e4
  subst e4
  exact ⟨_, r2⟩
/-- A block stays if a list of another element type grows. -/
theorem Blk.keptT {β : Type} {B' : Nat} {e' t : TypeId} {s' : Nat} {cells' : β → List Value} {w w' : World} {A' : Option Addr} {c' n d k : Nat} {cs : Array Value} {l' : List β} (h : Blk w k t cs) (h2 : Own B' e' s' cells' w A' c' l') (hne : t ≠ e') (hg : w.grownBy w' (Value.slice A' n d).ownBlock) : Blk w' k t cs :=
  h.grown hg fun e1 => by
    obtain ⟨cs2, h3⟩ := h2.ty e1.symm
    unfold Blk at h h3
    rw [h] at h3
    injection h3 with h3
    injection h3 with _ h5
    exact hne h5
theorem OwnF.keptT {α β : Type} {B B' : Nat} {e e' : TypeId} {s s' : Nat} {cells : α → List Value} {cells' : β → List Value} {w w' : World} {A A' : Option Addr} {c' n d : Nat} {l : List α} {l' : List β} (h : OwnF B e s cells w A l) (h2 : Own B' e' s' cells' w A' c' l') (hne : e ≠ e') (hg : w.grownBy w' (Value.slice A' n d).ownBlock) : OwnF B e s cells w' A l := by
  rcases h with h | ⟨g, cur, hA, hB, hK, r⟩
  · exact .inl h
  · exact .inr ⟨g, cur, hA, hB, hK.keptT h2 hne hg, r⟩
theorem Own.setT {β : Type} {B' : Nat} {e' t : TypeId} {s' : Nat} {cells' : β → List Value} {w w' : World} {A' : Option Addr} {c' k : Nat} {cs : Array Value} {l' : List β} (h2 : Own B' e' s' cells' w A' c' l') (h : Blk w k t cs) (hne : t ≠ e') (hg : w.grownBy w' (some k)) : Own B' e' s' cells' w' A' c' l' := by
  refine World.ownsRow.kept h2 hg ?_
  cases hv : (Value.slice A' l'.length c').ownBlock with
  | none => exact .inl rfl
  | some k2 =>
    refine .inr fun e => ?_
    obtain ⟨cs2, h3⟩ := h2.ty hv
    injection e with e
    subst e
    unfold Blk at h h3
    rw [h] at h3
    injection h3 with h3
    injection h3 with _ h5
    exact hne h5
/-- What is known while DrawRunDay draws: the day in its box bd, the day now in its box bn, the steps so far. -/
def RQ (w : World) (A : Option Addr) (c : Nat) (bs : List Int) (M : Int) (bd bn : Nat) (v : DayV) (o : Value) (n : Nat) (wx : World) : Prop :=
  ∃ (B : Option Addr) (d : Nat) (L : List StepR) (u : DayV), o = .slice B L.length d ∧ L.length ≤ n ∧ Own (w.heap.size + 2) 28 2 StepR.row wx B d L ∧ CurU w wx (w.heap.size + 1) A c bs (M + 4 * (L.length : Int)) ∧ Blk wx bd 26 #[.int .i64 (v.core).minute, .int .i64 (v.core).state, .slice v.A (v.core).lines.length v.c, .int .i64 (v.core).line, .int .i64 (v.core).since, .int .i64 (v.core).cast, .int .i64 (v.core).fuel] ∧ OwnF (w.heap.size + 2) 59 2 LineR.row wx v.A v.core.lines ∧ Blk wx bn 26 #[.int .i64 (u.core).minute, .int .i64 (u.core).state, .slice u.A (u.core).lines.length u.c, .int .i64 (u.core).line, .int .i64 (u.core).since, .int .i64 (u.core).cast, .int .i64 (u.core).fuel] ∧ OwnF (w.heap.size + 2) 59 2 LineR.row wx u.A u.core.lines ∧ u.core.lines.length ≤ 8 ∧ Blk wx w.heap.size 26 #[.int .i64 0, .int .i64 0, .slice none 0 0, .int .i64 0, .int .i64 0, .int .i64 0, .int .i64 0]
set_option maxHeartbeats 8000000 in
set_option maxRecDepth 100000 in
theorem s_DrawRunDay (A : Option Addr) (c : Nat) (bs : List Int) (w : World) (hA : Code0 w A bs) :
    Calls Try.prog 14 #[.slice A bs.length c] w fun e w' => (∃ (v : DayV) (B : Option Addr) (d : Nat) (L : List StepR), e = .returned (.tuple #[v.val, .slice B L.length d]) ∧ v.core.lines.length ≤ 8 ∧ Sl w' 2 LineR.row v.A v.core.lines ∧ Sl w' 2 StepR.row B L ∧ L.length ≤ 60) ∧ ∃ g, w' = plus w g := by
  have HA := hid hA
  clear hA
  go_enter Try.func14, Try.ntmps14
  go_wp2_with fail
  refine (s_surveyDay w (w.heap.size + 1) A c bs 0 _ HA.out (cur_new w _ A c bs _ (by (repeat (first | with_reducible exact grew_refl _ | with_reducible assumption | with_reducible refine grew_split ?_ | with_reducible refine grew_mk ?_ | with_reducible refine grew_plus ?_ | with_reducible refine grew_alloc ?_ | with_reducible refine grew_drew ?_ | (with_reducible refine grew_set ?_ (by first | exact Nat.le_refl _ | omega | (simp [go_sem]; done) | (simp [go_sem]; omega)))))) (by simp)) (by omega)).mono ?_
  rintro e w1 ⟨⟨v, rfl, hl8, hO⟩, hC1, hG1⟩
  have HO1 := hid (OwnF.less (B' := w.heap.size + 2) hO (by simp))
  have HC1 := hid hC1
  have HR1 := hid (((blk_new (w := w) (b := w.heap.size) (t := 26) (cs := #[.int .i64 0, .int .i64 0, .slice none 0 0, .int .i64 0, .int .i64 0, .int .i64 0, .int .i64 0]) rfl).alloc _).grown hG1 (fun e => by injection e with e; omega))
  clear hC1 hG1 hO
  go_upto_region 5 with fail
  generalize hb5 : w1.heap.size = b5
  have hbw : w.heap.size + 2 ≤ b5 := by rw [← hb5]; have h := HC1.out.lt; omega
  refine opq_wp (fun wx => RQ w A c bs 4000 b5 (b5 + 1 + 1) v (.slice (some ⟨b5 + 1, 0, none⟩) 0 0) 0 wx) ⟨some ⟨b5 + 1, 0, none⟩, 0, [], v, rfl, by simp, Own.newIn (o := .cells #[] 28) (w := w1.alloc _) (by (repeat (first | with_reducible exact grew_refl _ | with_reducible assumption | with_reducible refine grew_split ?_ | with_reducible refine grew_mk ?_ | with_reducible refine grew_plus ?_ | with_reducible refine grew_alloc ?_ | with_reducible refine grew_drew ?_ | (with_reducible refine grew_set ?_ (by first | exact Nat.le_refl _ | omega | (simp [go_sem]; done) | (simp [go_sem]; omega)))))) rfl (by simp [hb5]) (by simp [hb5]; omega), (HC1.out.grew' (by (repeat (first | with_reducible exact grew_refl _ | with_reducible assumption | with_reducible refine grew_split ?_ | with_reducible refine grew_mk ?_ | with_reducible refine grew_plus ?_ | with_reducible refine grew_alloc ?_ | with_reducible refine grew_drew ?_ | (with_reducible refine grew_set ?_ (by first | exact Nat.le_refl _ | omega | (simp [go_sem]; done) | (simp [go_sem]; omega))))))).le (by simp), blk_grew (blk_new hb5.symm) (by (repeat (first | with_reducible exact grew_refl _ | with_reducible assumption | with_reducible refine grew_split ?_ | with_reducible refine grew_mk ?_ | with_reducible refine grew_plus ?_ | with_reducible refine grew_alloc ?_ | with_reducible refine grew_drew ?_ | (with_reducible refine grew_set ?_ (by first | exact Nat.le_refl _ | omega | (simp [go_sem]; done) | (simp [go_sem]; omega)))))), HO1.out.grew (by (repeat (first | with_reducible exact grew_refl _ | with_reducible assumption | with_reducible refine grew_split ?_ | with_reducible refine grew_mk ?_ | with_reducible refine grew_plus ?_ | with_reducible refine grew_alloc ?_ | with_reducible refine grew_drew ?_ | (with_reducible refine grew_set ?_ (by first | exact Nat.le_refl _ | omega | (simp [go_sem]; done) | (simp [go_sem]; omega)))))), blk_grew (blk_new (w := (w1.alloc _).alloc _) (by simp [hb5])) (by (repeat (first | with_reducible exact grew_refl _ | with_reducible assumption | with_reducible refine grew_split ?_ | with_reducible refine grew_mk ?_ | with_reducible refine grew_plus ?_ | with_reducible refine grew_alloc ?_ | with_reducible refine grew_drew ?_ | (with_reducible refine grew_set ?_ (by first | exact Nat.le_refl _ | omega | (simp [go_sem]; done) | (simp [go_sem]; omega)))))), HO1.out.grew (by (repeat (first | with_reducible exact grew_refl _ | with_reducible assumption | with_reducible refine grew_split ?_ | with_reducible refine grew_mk ?_ | with_reducible refine grew_plus ?_ | with_reducible refine grew_alloc ?_ | with_reducible refine grew_drew ?_ | (with_reducible refine grew_set ?_ (by first | exact Nat.le_refl _ | omega | (simp [go_sem]; done) | (simp [go_sem]; omega)))))), hl8, blk_grew HR1.out (by (repeat (first | with_reducible exact grew_refl _ | with_reducible assumption | with_reducible refine grew_split ?_ | with_reducible refine grew_mk ?_ | with_reducible refine grew_plus ?_ | with_reducible refine grew_alloc ?_ | with_reducible refine grew_drew ?_ | (with_reducible refine grew_set ?_ (by first | exact Nat.le_refl _ | omega | (simp [go_sem]; done) | (simp [go_sem]; omega))))))⟩ ?_
  clear HC1 HR1 HO1 hb5
  rintro wq ⟨B, d, L, u, hs, hL, hO, hC, hV, hVO, hU, hUO, hu8, hR⟩
  have HSS := hid hs
  clear hs
  (have HO0 := hid hO; have HC0 := hid hC; have HV0 := hid hV; have HVO0 := hid hVO; have HU0 := hid hU; have HUO0 := hid hUO; have HR0 := hid hR; clear hO hC hV hVO hU hUO hR)
  go_wp2_with fail
  refine (s_pick w (w.heap.size + 1) A c bs _ 12 _ HA.out HC0.out (by omega) (by omega)).mono ?_
  rintro e w2 ⟨⟨n', rfl, n0, n1⟩, hC2, hG2⟩
  (have HO2 := hid (HO0.out.keptG hG2 (by omega)); have HC2 := hid hC2; have HV2 := hid (HV0.out.grown hG2 (fun e => by injection e with e; omega)); have HVO2 := hid (HVO0.out.kept hG2 (fun k hk => by injection hk with hk; omega)); have HU2 := hid (HU0.out.grown hG2 (fun e => by injection e with e; omega)); have HUO2 := hid (HUO0.out.kept hG2 (fun k hk => by injection hk with hk; omega)); have HR2 := hid (HR0.out.grown hG2 (fun e => by injection e with e; omega)); clear hC2 hG2)
  obtain ⟨n, hn0⟩ : ∃ k : Nat, n' = (k : Int) := ⟨n'.toNat, by omega⟩
  subst hn0
  go_wp2_with fail
  go_loopw [6, 8] (fun o i wr => ∃ m : Nat, i = .int .i64 m ∧ m ≤ 12 ∧ RQ w A c bs (4010 + 100 * (12 - (m : Int))) b5 (b5 + 1 + 1) v o (12 - m) wr) (fun _ i _ => (intOf i).toNat)
  case atStart => exact ⟨n, rfl, by omega, B, d, L, u, HSS.out, by omega, HO2.out, HC2.out.le (by omega), HV2.out, HVO2.out, HU2.out, HUO2.out, hu8, HR2.out⟩
  case round =>
    clear HO2 HC2 HV2 HVO2 HU2 HUO2 HR2 HO0 HC0 HV0 HVO0 HU0 HUO0 HR0 HSS hL hu8
    obtain ⟨m, rfl, hm, B, d, L, u, rfl, hL, hO, hC, hV, hVO, hU, hUO, hu8, hR⟩ := hrel
    (have HO3 := hid hO; have HC3 := hid hC; have HV3 := hid hV; have HVO3 := hid hVO; have HU3 := hid hU; have HUO3 := hid hUO; have HR3 := hid hR; clear hO hC hV hVO hU hUO hR)
    have hul := HU3.out.lt
    have hu := HU3.out
    (have hq0 := hu.cell 0; have hq1 := hu.cell 1; have hq2 := hu.cell 2; have hq3 := hu.cell 3; have hq4 := hu.cell 4; have hq5 := hu.cell 5; have hq6 := hu.cell 6; simp [go_sem] at hq0 hq1 hq2 hq3 hq4 hq5 hq6)
    clear hu
    by_cases hm0 : 0 < m
    · have hsub : IntKind.i64.wrap ((m : Int) - 1) = ((m - 1 : Nat) : Int) := by rw [IntWalk.i64_in _ (by omega)]; omega
      go_wp2_with fail
      refine (s_dayStep w (w.heap.size + 1) A c bs _ u _ HA.out HC3.out (by omega) (by omega)).mono ?_
      rintro e w3 ⟨⟨k, x, rfl, -, -⟩, hC2, hG2⟩
      (have HO4 := hid (HO3.out.keptG hG2 (by omega)); have HC4 := hid hC2; have HV4 := hid (HV3.out.grown hG2 (fun e => by injection e with e; omega)); have HVO4 := hid (HVO3.out.kept hG2 (fun k hk => by injection hk with hk; omega)); have HU4 := hid (HU3.out.grown hG2 (fun e => by injection e with e; omega)); have HUO4 := hid (HUO3.out.kept hG2 (fun k hk => by injection hk with hk; omega)); have HR4 := hid (HR3.out.grown hG2 (fun e => by injection e with e; omega)); clear hC2 hG2)
      clear hq0 hq1 hq2 hq3 hq4 hq5 hq6
      have hz4 := HU4.out.lt
      go_upto_region 10 with (at_builtin; go_loud (refine wpList_appB (B := w.heap.size + 2) rfl _ _ _ rfl 28 2 16 _ Try.underlying41 step_info rfl (by omega) (by omega) B d L L.length rfl rfl (HO4.out.grew (by (repeat (first | with_reducible exact grew_refl _ | with_reducible assumption | with_reducible refine grew_split ?_ | with_reducible refine grew_mk ?_ | with_reducible refine grew_plus ?_ | with_reducible refine grew_alloc ?_ | with_reducible refine grew_drew ?_ | (with_reducible refine grew_set ?_ (by first | exact Nat.le_refl _ | omega | (simp [go_sem]; done) | (simp [go_sem]; omega))))))) (by first | (simp [go_sem]; done) | (simp [go_sem]; omega) | (simp [go_sem, Ext.add]; done) | (simp [go_sem, Ext.add]; omega) | omega) (by omega) _ (⟨k, x⟩ : StepR) _ rfl rfl (by intro j u hj; match j, hj with | 0, hj => simp [StepR.row] at hj; subst hj; simp [Addr.add, go_sem] | 1, hj => simp [StepR.row] at hj; subst hj; simp [Addr.add, go_sem]) (StepR.one _) ?_); intro A9 c9 w9 hO9 hg9 hat9)
      (have HC9 := hid ((HC4.out.grew' (by (repeat (first | with_reducible exact grew_refl _ | with_reducible assumption | with_reducible refine grew_split ?_ | with_reducible refine grew_mk ?_ | with_reducible refine grew_plus ?_ | with_reducible refine grew_alloc ?_ | with_reducible refine grew_drew ?_ | (with_reducible refine grew_set ?_ (by first | exact Nat.le_refl _ | omega | (simp [go_sem]; done) | (simp [go_sem]; omega))))))).kept hg9 (fun k hk => by have := own_far HO4.out hk; omega)); have HV9 := hid (Blk.keptT (blk_grew HV4.out (by (repeat (first | with_reducible exact grew_refl _ | with_reducible assumption | with_reducible refine grew_split ?_ | with_reducible refine grew_mk ?_ | with_reducible refine grew_plus ?_ | with_reducible refine grew_alloc ?_ | with_reducible refine grew_drew ?_ | (with_reducible refine grew_set ?_ (by first | exact Nat.le_refl _ | omega | (simp [go_sem]; done) | (simp [go_sem]; omega))))))) (HO4.out.grew (by (repeat (first | with_reducible exact grew_refl _ | with_reducible assumption | with_reducible refine grew_split ?_ | with_reducible refine grew_mk ?_ | with_reducible refine grew_plus ?_ | with_reducible refine grew_alloc ?_ | with_reducible refine grew_drew ?_ | (with_reducible refine grew_set ?_ (by first | exact Nat.le_refl _ | omega | (simp [go_sem]; done) | (simp [go_sem]; omega))))))) (by decide) hg9); have HVO9 := hid (OwnF.keptT (HVO4.out.grew (by (repeat (first | with_reducible exact grew_refl _ | with_reducible assumption | with_reducible refine grew_split ?_ | with_reducible refine grew_mk ?_ | with_reducible refine grew_plus ?_ | with_reducible refine grew_alloc ?_ | with_reducible refine grew_drew ?_ | (with_reducible refine grew_set ?_ (by first | exact Nat.le_refl _ | omega | (simp [go_sem]; done) | (simp [go_sem]; omega))))))) (HO4.out.grew (by (repeat (first | with_reducible exact grew_refl _ | with_reducible assumption | with_reducible refine grew_split ?_ | with_reducible refine grew_mk ?_ | with_reducible refine grew_plus ?_ | with_reducible refine grew_alloc ?_ | with_reducible refine grew_drew ?_ | (with_reducible refine grew_set ?_ (by first | exact Nat.le_refl _ | omega | (simp [go_sem]; done) | (simp [go_sem]; omega))))))) (by decide) hg9); have HU9 := hid (Blk.keptT (blk_grew HU4.out (by (repeat (first | with_reducible exact grew_refl _ | with_reducible assumption | with_reducible refine grew_split ?_ | with_reducible refine grew_mk ?_ | with_reducible refine grew_plus ?_ | with_reducible refine grew_alloc ?_ | with_reducible refine grew_drew ?_ | (with_reducible refine grew_set ?_ (by first | exact Nat.le_refl _ | omega | (simp [go_sem]; done) | (simp [go_sem]; omega))))))) (HO4.out.grew (by (repeat (first | with_reducible exact grew_refl _ | with_reducible assumption | with_reducible refine grew_split ?_ | with_reducible refine grew_mk ?_ | with_reducible refine grew_plus ?_ | with_reducible refine grew_alloc ?_ | with_reducible refine grew_drew ?_ | (with_reducible refine grew_set ?_ (by first | exact Nat.le_refl _ | omega | (simp [go_sem]; done) | (simp [go_sem]; omega))))))) (by decide) hg9); have HUO9 := hid (OwnF.keptT (HUO4.out.grew (by (repeat (first | with_reducible exact grew_refl _ | with_reducible assumption | with_reducible refine grew_split ?_ | with_reducible refine grew_mk ?_ | with_reducible refine grew_plus ?_ | with_reducible refine grew_alloc ?_ | with_reducible refine grew_drew ?_ | (with_reducible refine grew_set ?_ (by first | exact Nat.le_refl _ | omega | (simp [go_sem]; done) | (simp [go_sem]; omega))))))) (HO4.out.grew (by (repeat (first | with_reducible exact grew_refl _ | with_reducible assumption | with_reducible refine grew_split ?_ | with_reducible refine grew_mk ?_ | with_reducible refine grew_plus ?_ | with_reducible refine grew_alloc ?_ | with_reducible refine grew_drew ?_ | (with_reducible refine grew_set ?_ (by first | exact Nat.le_refl _ | omega | (simp [go_sem]; done) | (simp [go_sem]; omega))))))) (by decide) hg9); have HR9 := hid (Blk.keptT (blk_grew HR4.out (by (repeat (first | with_reducible exact grew_refl _ | with_reducible assumption | with_reducible refine grew_split ?_ | with_reducible refine grew_mk ?_ | with_reducible refine grew_plus ?_ | with_reducible refine grew_alloc ?_ | with_reducible refine grew_drew ?_ | (with_reducible refine grew_set ?_ (by first | exact Nat.le_refl _ | omega | (simp [go_sem]; done) | (simp [go_sem]; omega))))))) (HO4.out.grew (by (repeat (first | with_reducible exact grew_refl _ | with_reducible assumption | with_reducible refine grew_split ?_ | with_reducible refine grew_mk ?_ | with_reducible refine grew_plus ?_ | with_reducible refine grew_alloc ?_ | with_reducible refine grew_drew ?_ | (with_reducible refine grew_set ?_ (by first | exact Nat.le_refl _ | omega | (simp [go_sem]; done) | (simp [go_sem]; omega))))))) (by decide) hg9); have HO9 := hid hO9)
      have hS9 := blk_kept (blk_grew (blk_new (w := w3) (b := w3.heap.size) (t := 28) (cs := #[.int .i64 k, .int .i64 x]) rfl) (by (repeat (first | with_reducible exact grew_refl _ | with_reducible assumption | with_reducible refine grew_split ?_ | with_reducible refine grew_mk ?_ | with_reducible refine grew_plus ?_ | with_reducible refine grew_alloc ?_ | with_reducible refine grew_drew ?_ | (with_reducible refine grew_set ?_ (by first | exact Nat.le_refl _ | omega | (simp [go_sem]; done) | (simp [go_sem]; omega))))))) hg9 (fun a ha => by have := (HO4.out.ne a ha).2; omega)
      have hsl := hS9.lt
      have hs0 := hS9.cell 0
      have hs1 := hS9.cell 1
      simp [go_sem] at hs0 hs1
      have hul := HU9.out.lt
      have hu := HU9.out
      (have hq0 := hu.cell 0; have hq1 := hu.cell 1; have hq2 := hu.cell 2; have hq3 := hu.cell 3; have hq4 := hu.cell 4; have hq5 := hu.cell 5; have hq6 := hu.cell 6; simp [go_sem] at hq0 hq1 hq2 hq3 hq4 hq5 hq6)
      clear hu hS9 hO9 hg9 hat9
      go_wp2_with fail
      refine (s_StepDay u k x _ ⟨(HUO9.out.grew (by (repeat (first | with_reducible exact grew_refl _ | with_reducible assumption | with_reducible refine grew_split ?_ | with_reducible refine grew_mk ?_ | with_reducible refine grew_plus ?_ | with_reducible refine grew_alloc ?_ | with_reducible refine grew_drew ?_ | (with_reducible refine grew_set ?_ (by first | exact Nat.le_refl _ | omega | (simp [go_sem]; done) | (simp [go_sem]; omega))))))).sl, by unfold maxLen; omega⟩).mono ?_
      rintro e w' ⟨⟨A6, d6, rfl, hO6⟩, gx6, rfl⟩
      have hl6 := stepAll_len u.core k x
      generalize stepAll u.core k x = p at hO6 hl6 ⊢
      obtain ⟨nd, q⟩ := p
      (try simp only at hl6 ⊢)
      have HO6 := hid (OwnF.less (B' := w.heap.size + 2) hO6 (by omega))
      clear hO6
      go_upto_region 11 with fail
      generalize hnb : w9.heap.size + gx6.objs.size = nb
      refine opq_wp (fun wx => Blk wx nb 26 #[.int .i64 (nd).minute, .int .i64 (nd).state, .slice A6 (nd).lines.length d6, .int .i64 (nd).line, .int .i64 (nd).since, .int .i64 (nd).cast, .int .i64 (nd).fuel] ∧ Own (w.heap.size + 2) 28 2 StepR.row wx A9 c9 (L ++ [⟨k, x⟩]) ∧ CurU w wx (w.heap.size + 1) A c bs (4010 + 100 * (12 - (m : Int)) + 4 * (L.length : Int) + 40) ∧ Blk wx b5 26 #[.int .i64 (v.core).minute, .int .i64 (v.core).state, .slice v.A (v.core).lines.length v.c, .int .i64 (v.core).line, .int .i64 (v.core).since, .int .i64 (v.core).cast, .int .i64 (v.core).fuel] ∧ OwnF (w.heap.size + 2) 59 2 LineR.row wx v.A v.core.lines ∧ Blk wx (b5 + 1 + 1) 26 #[.int .i64 (u.core).minute, .int .i64 (u.core).state, .slice u.A (u.core).lines.length u.c, .int .i64 (u.core).line, .int .i64 (u.core).since, .int .i64 (u.core).cast, .int .i64 (u.core).fuel] ∧ OwnF (w.heap.size + 2) 59 2 LineR.row wx u.A u.core.lines ∧ OwnF (w.heap.size + 2) 59 2 LineR.row wx A6 nd.lines ∧ Blk wx w.heap.size 26 #[.int .i64 0, .int .i64 0, .slice none 0 0, .int .i64 0, .int .i64 0, .int .i64 0, .int .i64 0]) ⟨blk_new (by subst hnb; simp [go_sem]), HO9.out.grew (by (repeat (first | with_reducible exact grew_refl _ | with_reducible assumption | with_reducible refine grew_split ?_ | with_reducible refine grew_mk ?_ | with_reducible refine grew_plus ?_ | with_reducible refine grew_alloc ?_ | with_reducible refine grew_drew ?_ | (with_reducible refine grew_set ?_ (by first | exact Nat.le_refl _ | omega | (simp [go_sem]; done) | (simp [go_sem]; omega)))))), HC9.out.grew' (by (repeat (first | with_reducible exact grew_refl _ | with_reducible assumption | with_reducible refine grew_split ?_ | with_reducible refine grew_mk ?_ | with_reducible refine grew_plus ?_ | with_reducible refine grew_alloc ?_ | with_reducible refine grew_drew ?_ | (with_reducible refine grew_set ?_ (by first | exact Nat.le_refl _ | omega | (simp [go_sem]; done) | (simp [go_sem]; omega)))))), blk_grew HV9.out (by (repeat (first | with_reducible exact grew_refl _ | with_reducible assumption | with_reducible refine grew_split ?_ | with_reducible refine grew_mk ?_ | with_reducible refine grew_plus ?_ | with_reducible refine grew_alloc ?_ | with_reducible refine grew_drew ?_ | (with_reducible refine grew_set ?_ (by first | exact Nat.le_refl _ | omega | (simp [go_sem]; done) | (simp [go_sem]; omega)))))), HVO9.out.grew (by (repeat (first | with_reducible exact grew_refl _ | with_reducible assumption | with_reducible refine grew_split ?_ | with_reducible refine grew_mk ?_ | with_reducible refine grew_plus ?_ | with_reducible refine grew_alloc ?_ | with_reducible refine grew_drew ?_ | (with_reducible refine grew_set ?_ (by first | exact Nat.le_refl _ | omega | (simp [go_sem]; done) | (simp [go_sem]; omega)))))), blk_grew HU9.out (by (repeat (first | with_reducible exact grew_refl _ | with_reducible assumption | with_reducible refine grew_split ?_ | with_reducible refine grew_mk ?_ | with_reducible refine grew_plus ?_ | with_reducible refine grew_alloc ?_ | with_reducible refine grew_drew ?_ | (with_reducible refine grew_set ?_ (by first | exact Nat.le_refl _ | omega | (simp [go_sem]; done) | (simp [go_sem]; omega)))))), HUO9.out.grew (by (repeat (first | with_reducible exact grew_refl _ | with_reducible assumption | with_reducible refine grew_split ?_ | with_reducible refine grew_mk ?_ | with_reducible refine grew_plus ?_ | with_reducible refine grew_alloc ?_ | with_reducible refine grew_drew ?_ | (with_reducible refine grew_set ?_ (by first | exact Nat.le_refl _ | omega | (simp [go_sem]; done) | (simp [go_sem]; omega)))))), HO6.out.grew (by (repeat (first | with_reducible exact grew_refl _ | with_reducible assumption | with_reducible refine grew_split ?_ | with_reducible refine grew_mk ?_ | with_reducible refine grew_plus ?_ | with_reducible refine grew_alloc ?_ | with_reducible refine grew_drew ?_ | (with_reducible refine grew_set ?_ (by first | exact Nat.le_refl _ | omega | (simp [go_sem]; done) | (simp [go_sem]; omega)))))), blk_grew HR9.out (by (repeat (first | with_reducible exact grew_refl _ | with_reducible assumption | with_reducible refine grew_split ?_ | with_reducible refine grew_mk ?_ | with_reducible refine grew_plus ?_ | with_reducible refine grew_alloc ?_ | with_reducible refine grew_drew ?_ | (with_reducible refine grew_set ?_ (by first | exact Nat.le_refl _ | omega | (simp [go_sem]; done) | (simp [go_sem]; omega))))))⟩ ?_
      clear hnb HO9 HC9 HV9 HVO9 HU9 HUO9 HO6 HR9 HO4 HC4 HV4 HVO4 HU4 HUO4 HR4 HO3 HC3 HV3 HVO3 HU3 HUO3 HR3 hq0 hq1 hq2 hq3 hq4 hq5 hq6 hs0 hs1 hul hsl hz4
      rintro w10 ⟨hN, hO, hC, hV, hVO, hU, hUO, hN6, hR⟩
      have hnl := hN.lt
      (have hr0 := hN.cell 0; have hr1 := hN.cell 1; have hr2 := hN.cell 2; have hr3 := hN.cell 3; have hr4 := hN.cell 4; have hr5 := hN.cell 5; have hr6 := hN.cell 6; simp [go_sem] at hr0 hr1 hr2 hr3 hr4 hr5 hr6)
      have hul := hU.lt
      (have hq0 := hU.cell 0; have hq1 := hU.cell 1; have hq2 := hU.cell 2; have hq3 := hU.cell 3; have hq4 := hU.cell 4; have hq5 := hU.cell 5; have hq6 := hU.cell 6; simp [go_sem] at hq0 hq1 hq2 hq3 hq4 hq5 hq6)
      (have hf0 := hU.frozen 0; have hf1 := hU.frozen 1; have hf2 := hU.frozen 2; have hf3 := hU.frozen 3; have hf4 := hU.frozen 4; have hf5 := hU.frozen 5; have hf6 := hU.frozen 6)
      have HN6 := hid hN6
      clear hN hN6
      (have HO8 := hid hO; have HC8 := hid hC; have HV8 := hid hV; have HVO8 := hid hVO; have HU8 := hid hU; have HUO8 := hid hUO; have HR8 := hid hR; clear hO hC hV hVO hU hUO hR)
      cases q
      · go_wp2_with fail
        go_roundw
        case rel => exact ⟨m - 1, rfl, by omega, A9, c9, L ++ [⟨k, x⟩], u, vsl (by simp), by simp; omega, HO8.out, HC8.out.le (by simp only [List.length_append, List.length_cons, List.length_nil]; omega), HV8.out, HVO8.out, HU8.out, HUO8.out, hu8, HR8.out⟩
        case measure => simp [intOf]; omega
      · go_wp2_with fail
        go_roundw
        case rel => exact ⟨m - 1, rfl, by omega, A9, c9, L ++ [⟨k, x⟩], ⟨nd, A6, d6⟩, vsl (by simp), by simp; omega, Own.setT HO8.out HU8.out (by decide) (grown_set (g := b5 + 1 + 1) (grown_set (grown_set (grown_set (grown_set (grown_set (grown_set (grown_refl _ _)))))))), (HC8.out.kept (grown_set (g := b5 + 1 + 1) (grown_set (grown_set (grown_set (grown_set (grown_set (grown_set (grown_refl _ _)))))))) (fun k hk => by injection hk with hk; omega)).le (by simp only [List.length_append, List.length_cons, List.length_nil]; omega), HV8.out.grown (grown_set (g := b5 + 1 + 1) (grown_set (grown_set (grown_set (grown_set (grown_set (grown_set (grown_refl _ _)))))))) (fun e => by injection e with e; omega), OwnF.apartE HVO8.out HU8.out (by decide) (grown_set (g := b5 + 1 + 1) (grown_set (grown_set (grown_set (grown_set (grown_set (grown_set (grown_refl _ _)))))))), set7v HU8.out, OwnF.apartE HN6.out HU8.out (by decide) (grown_set (g := b5 + 1 + 1) (grown_set (grown_set (grown_set (grown_set (grown_set (grown_set (grown_refl _ _)))))))), hl6, HR8.out.grown (grown_set (g := b5 + 1 + 1) (grown_set (grown_set (grown_set (grown_set (grown_set (grown_set (grown_refl _ _)))))))) (fun e => by injection e with e; omega)⟩
        case measure => simp [intOf]; omega
    · obtain rfl : m = 0 := by omega
      clear hq0 hq1 hq2 hq3 hq4 hq5 hq6 hul
      go_wp2_with fail
      refine (s_one w (w.heap.size + 1) A c bs _ 24 _ HA.out HC3.out (by omega) (by omega)).mono ?_
      rintro e w3 ⟨⟨b, rfl⟩, hC2, hG2⟩
      (have HO4 := hid (HO3.out.keptG hG2 (by omega)); have HC4 := hid hC2; have HV4 := hid (HV3.out.grown hG2 (fun e => by injection e with e; omega)); have HVO4 := hid (HVO3.out.kept hG2 (fun k hk => by injection hk with hk; omega)); have HU4 := hid (HU3.out.grown hG2 (fun e => by injection e with e; omega)); have HUO4 := hid (HUO3.out.kept hG2 (fun k hk => by injection hk with hk; omega)); have HR4 := hid (HR3.out.grown hG2 (fun e => by injection e with e; omega)); clear hC2 hG2)
      go_upto_if 41 with fail
      go_cut [6] (fun o wx => ∃ (B : Option Addr) (d : Nat) (L : List StepR), o = .slice B L.length d ∧ L.length ≤ 60 ∧ Own (w.heap.size + 2) 28 2 StepR.row wx B d L ∧ CurU w wx (w.heap.size + 1) A c bs 9000 ∧ Blk wx b5 26 #[.int .i64 (v.core).minute, .int .i64 (v.core).state, .slice v.A (v.core).lines.length v.c, .int .i64 (v.core).line, .int .i64 (v.core).since, .int .i64 (v.core).cast, .int .i64 (v.core).fuel] ∧ OwnF (w.heap.size + 2) 59 2 LineR.row wx v.A v.core.lines ∧ Blk wx w.heap.size 26 #[.int .i64 0, .int .i64 0, .slice none 0 0, .int .i64 0, .int .i64 0, .int .i64 0, .int .i64 0])
      case first =>
        cases b
        · go_wp2_with fail
          go_meet
          exact ⟨B, d, L, rfl, by omega, HO4.out, HC4.out.le (by omega), HV4.out, HVO4.out, HR4.out⟩
        · go_wp2_with fail
          go_loopw [6] (fun o wr => ∃ (B : Option Addr) (d : Nat) (L : List StepR), o = .slice B L.length d ∧ L.length ≤ 50 ∧ Own (w.heap.size + 2) 28 2 StepR.row wr B d L ∧ CurU w wr (w.heap.size + 1) A c bs (8000 + 4 * (L.length : Int)) ∧ Blk wr b5 26 #[.int .i64 (v.core).minute, .int .i64 (v.core).state, .slice v.A (v.core).lines.length v.c, .int .i64 (v.core).line, .int .i64 (v.core).since, .int .i64 (v.core).cast, .int .i64 (v.core).fuel] ∧ OwnF (w.heap.size + 2) 59 2 LineR.row wr v.A v.core.lines ∧ Blk wr w.heap.size 26 #[.int .i64 0, .int .i64 0, .slice none 0 0, .int .i64 0, .int .i64 0, .int .i64 0, .int .i64 0]) (fun o _ => 60 - slLen6 o)
          case atStart => exact ⟨B, d, L, rfl, by omega, HO4.out, HC4.out.le (by omega), HV4.out, HVO4.out, HR4.out⟩
          case round =>
            clear HO3 HC3 HV3 HVO3 HU3 HUO3 HR3 HO4 HC4 HV4 HVO4 HU4 HUO4 HR4
            obtain ⟨B, d, L, rfl, hL, hO, hC, hV, hVO, hR⟩ := hrel
            have HO5 := hid hO
            have HC5 := hid hC
            have HV5 := hid hV
            have HVO5 := hid hVO
            have HR5 := hid hR
            clear hO hC hV hVO hR
            go_wp2_with fail
            refine (s_pick w (w.heap.size + 1) A c bs _ 2 _ HA.out HC5.out (by omega) (by omega)).mono ?_
            rintro e w6 ⟨⟨y, rfl, y0, y1⟩, hC2, hG2⟩
            have HO6 := hid (HO5.out.keptG hG2 (by omega))
            have HC6 := hid hC2
            have HV6 := hid (HV5.out.grown hG2 (fun e => by injection e with e; omega))
            have HVO6 := hid (HVO5.out.kept hG2 (fun k hk => by injection hk with hk; omega))
            have HR6 := hid (HR5.out.grown hG2 (fun e => by injection e with e; omega))
            have hz6 := HV6.out.lt
            clear hC2 hG2
            by_cases hlt : (L.length : Int) < 40 + y
            · go_wp2_with ((at_builtin; go_loud (refine wpList_appB (B := w.heap.size + 2) rfl _ _ _ rfl 28 2 16 _ Try.underlying41 step_info rfl (by omega) (by omega) B d L L.length rfl rfl (HO6.out.grew (by (repeat (first | with_reducible exact grew_refl _ | with_reducible assumption | with_reducible refine grew_split ?_ | with_reducible refine grew_mk ?_ | with_reducible refine grew_plus ?_ | with_reducible refine grew_alloc ?_ | with_reducible refine grew_drew ?_ | (with_reducible refine grew_set ?_ (by first | exact Nat.le_refl _ | omega | (simp [go_sem]; done) | (simp [go_sem]; omega))))))) (by first | (simp [go_sem]; done) | (simp [go_sem]; omega) | (simp [go_sem, Ext.add]; done) | (simp [go_sem, Ext.add]; omega) | omega) (by omega) _ (⟨1, 1⟩ : StepR) _ rfl rfl (by intro j u hj; match j, hj with | 0, hj => simp [StepR.row] at hj; subst hj; simp [Addr.add, go_sem] | 1, hj => simp [StepR.row] at hj; subst hj; simp [Addr.add, go_sem]) (StepR.one _) ?_); intro A9 c9 w9 hO9 hg9 hat9); (have HC9 := hid ((HC6.out.grew' (by (repeat (first | with_reducible exact grew_refl _ | with_reducible assumption | with_reducible refine grew_split ?_ | with_reducible refine grew_mk ?_ | with_reducible refine grew_plus ?_ | with_reducible refine grew_alloc ?_ | with_reducible refine grew_drew ?_ | (with_reducible refine grew_set ?_ (by first | exact Nat.le_refl _ | omega | (simp [go_sem]; done) | (simp [go_sem]; omega))))))).kept hg9 (fun k hk => by have := own_far HO6.out hk; omega)); have HV9 := hid (Blk.keptT (blk_grew HV6.out (by (repeat (first | with_reducible exact grew_refl _ | with_reducible assumption | with_reducible refine grew_split ?_ | with_reducible refine grew_mk ?_ | with_reducible refine grew_plus ?_ | with_reducible refine grew_alloc ?_ | with_reducible refine grew_drew ?_ | (with_reducible refine grew_set ?_ (by first | exact Nat.le_refl _ | omega | (simp [go_sem]; done) | (simp [go_sem]; omega))))))) (HO6.out.grew (by (repeat (first | with_reducible exact grew_refl _ | with_reducible assumption | with_reducible refine grew_split ?_ | with_reducible refine grew_mk ?_ | with_reducible refine grew_plus ?_ | with_reducible refine grew_alloc ?_ | with_reducible refine grew_drew ?_ | (with_reducible refine grew_set ?_ (by first | exact Nat.le_refl _ | omega | (simp [go_sem]; done) | (simp [go_sem]; omega))))))) (by decide) hg9); have HVO9 := hid (OwnF.keptT (HVO6.out.grew (by (repeat (first | with_reducible exact grew_refl _ | with_reducible assumption | with_reducible refine grew_split ?_ | with_reducible refine grew_mk ?_ | with_reducible refine grew_plus ?_ | with_reducible refine grew_alloc ?_ | with_reducible refine grew_drew ?_ | (with_reducible refine grew_set ?_ (by first | exact Nat.le_refl _ | omega | (simp [go_sem]; done) | (simp [go_sem]; omega))))))) (HO6.out.grew (by (repeat (first | with_reducible exact grew_refl _ | with_reducible assumption | with_reducible refine grew_split ?_ | with_reducible refine grew_mk ?_ | with_reducible refine grew_plus ?_ | with_reducible refine grew_alloc ?_ | with_reducible refine grew_drew ?_ | (with_reducible refine grew_set ?_ (by first | exact Nat.le_refl _ | omega | (simp [go_sem]; done) | (simp [go_sem]; omega))))))) (by decide) hg9); have HR9 := hid (Blk.keptT (blk_grew HR6.out (by (repeat (first | with_reducible exact grew_refl _ | with_reducible assumption | with_reducible refine grew_split ?_ | with_reducible refine grew_mk ?_ | with_reducible refine grew_plus ?_ | with_reducible refine grew_alloc ?_ | with_reducible refine grew_drew ?_ | (with_reducible refine grew_set ?_ (by first | exact Nat.le_refl _ | omega | (simp [go_sem]; done) | (simp [go_sem]; omega))))))) (HO6.out.grew (by (repeat (first | with_reducible exact grew_refl _ | with_reducible assumption | with_reducible refine grew_split ?_ | with_reducible refine grew_mk ?_ | with_reducible refine grew_plus ?_ | with_reducible refine grew_alloc ?_ | with_reducible refine grew_drew ?_ | (with_reducible refine grew_set ?_ (by first | exact Nat.le_refl _ | omega | (simp [go_sem]; done) | (simp [go_sem]; omega))))))) (by decide) hg9); have HO9 := hid hO9; clear hO9 hg9 hat9))
              go_roundw
              case rel => exact ⟨A9, c9, L ++ [⟨1, 1⟩], vsl (by simp), by simp; omega, HO9.out, HC9.out.le (by simp only [List.length_append, List.length_cons, List.length_nil]; omega), HV9.out, HVO9.out, HR9.out⟩
              case measure => simp only [slLen6]; omega
            · go_wp2_with fail
              go_meet
              exact ⟨B, d, L, rfl, by omega, HO6.out, HC6.out.le (by omega), HV6.out, HVO6.out, HR6.out⟩
      case rest =>
        obtain ⟨B, d, L, rfl, hL, hO, hC, hV, hVO, hR⟩ := hcut
        have HO5 := hid hO
        have HVO5 := hid hVO
        have HW := hid hC.world
        have hvl := hV.lt
        have hrl := hR.lt
        (have hq0 := hV.cell 0; have hq1 := hV.cell 1; have hq2 := hV.cell 2; have hq3 := hV.cell 3; have hq4 := hV.cell 4; have hq5 := hV.cell 5; have hq6 := hV.cell 6; simp [go_sem] at hq0 hq1 hq2 hq3 hq4 hq5 hq6)
        (have hr0 := hR.cell 0; have hr1 := hR.cell 1; have hr2 := hR.cell 2; have hr3 := hR.cell 3; have hr4 := hR.cell 4; have hr5 := hR.cell 5; have hr6 := hR.cell 6; simp [go_sem] at hr0 hr1 hr2 hr3 hr4 hr5 hr6)
        (have hf0 := hR.frozen 0; have hf1 := hR.frozen 1; have hf2 := hR.frozen 2; have hf3 := hR.frozen 3; have hf4 := hR.frozen 4; have hf5 := hR.frozen 5; have hf6 := hR.frozen 6)
        have HR5 := hid hR
        clear hO hC hV hVO hR HO3 HC3 HV3 HVO3 HU3 HUO3 HR3 HO4 HC4 HV4 HVO4 HU4 HUO4 HR4
        go_wp2_with fail
        refine bodyPost_ret (v := .tuple #[v.val, .slice B L.length d]) (by simp [results, Try.results14, go_sem, *]) rfl ?_
        have h := HW.out
        exact ⟨⟨v, B, d, L, rfl, hl8, (OwnF.apartE HVO5.out HR5.out (by decide) (grown_set (g := w.heap.size) (grown_set (grown_set (grown_set (grown_set (grown_set (grown_set (grown_refl _ _))))))))).sl, ((HO5.out.f StepR.row_len).kept (grown_set (g := w.heap.size) (grown_set (grown_set (grown_set (grown_set (grown_set (grown_set (grown_refl _ _)))))))) (fun k hk => by injection hk with hk; omega)).sl, hL⟩, by (repeat (first | with_reducible exact grew_refl _ | with_reducible assumption | with_reducible refine grew_split ?_ | with_reducible refine grew_mk ?_ | with_reducible refine grew_plus ?_ | with_reducible refine grew_alloc ?_ | with_reducible refine grew_drew ?_ | (with_reducible refine grew_set ?_ (by first | exact Nat.le_refl _ | omega | (simp [go_sem]; done) | (simp [go_sem]; omega)))))⟩
end Go.Proofs.Ytcljcbbkbepmjaa
