import Derived.Test.YtecghfcgahgfiaaGreatDoorP32
import Derived.Test.YtecghfcgahgfiaaGreatDoorP27
import Derived.Test.YtecghfcgahgfiaaGreatDoorP12
import Derived.Deep.RegionHeld3
import Derived.Deep.DrawnRows
/- RunScript, in the package. -/
namespace Go.Proofs.YtecghfcgahgfiaaGreatDoor
open Go.RowKit

attribute [local go_sem ↓] Go.wp_at_zero Go.wp_at_succ
/-- A list in its own block stays if a list of another element type grows. -/
theorem OwnF.keptO {α β : Type} {B B' : Nat} {e e' : TypeId} {s s' : Nat} {cells : α → List Value} {cells' : β → List Value} {w w' : World} {A A' : Option Addr} {c' n d : Nat} {l : List α} {l' : List β} (h : OwnF B e s cells w A l) (h2 : Own B' e' s' cells' w A' c' l') (hne : e ≠ e') (hg : w.grownBy w' (Value.slice A' n d).ownBlock) : OwnF B e s cells w' A l := by
  rcases h with h | ⟨g, cur, hA, hB, hK, r⟩
  · exact .inl h
  · refine .inr ⟨g, cur, hA, hB, hK.grown hg (fun e1 => ?_), r⟩
    obtain ⟨a2, e3, e4⟩ := own_some e1.symm
    rcases h2.2 with ⟨r1, _⟩ | ⟨g', cap', cur', r1, _, r2, _⟩
    · injection r1 with r1; rw [r1] at e3; cases e3
    injection r1 with r1
    rw [r1] at e3
    injection e3 with e3
    rw [← e3] at e4
    simp only at e4
    subst e4
    unfold Blk at hK
    rw [hK] at r2
    injection r2 with r2
    injection r2 with _ h5
    exact hne h5
set_option maxHeartbeats 8000000 in
theorem i_RunScript (v : DayV) (l : LogR) (t : ByteArray) (w : World) (hv : v.At w) (h1 : l.d.size ≤ 2097152) (h2 : l.p.size ≤ 2097152) (ht : t.size ≤ 4194304) (hE : Env w) (hY : Syn w) :
    Calls Tryz.prog 15 #[ConV.val ⟨v, l⟩, .string t] w fun e w' => (∃ A c, e = .returned (.tuple #[.slice A (scrF v.core l t).1.length c, .bool (scrF v.core l t).2]) ∧ OwnF w.heap.size 9 1 strRow w' A (scrF v.core l t).1) ∧ ∃ g, w' = plus w g := by
  have HV := hid hv
  have HE := hid hE
  have HY := hid hY
  clear hv hE hY
  cases hc : conOk v.core l
  · have HF : Hid (scrF v.core l t = ([], false)) := hid (by simp [scrF, hc])
    have HC := hid hc
    clear hc
    go_enter Tryz.func15, Tryz.ntmps15
    go_wp2_with fail
    refine (i_IsValidConsole v l _ HC.out _ (HV.out.grew (by (repeat (first | with_reducible exact grew_refl _ | with_reducible assumption | with_reducible refine grew_split ?_ | with_reducible refine grew_mk ?_ | with_reducible refine grew_plus ?_ | with_reducible refine grew_alloc ?_ | with_reducible refine grew_drew ?_ | (with_reducible refine grew_set ?_ (by first | exact Nat.le_refl _ | omega | (simp [go_sem]; done) | (simp [go_sem]; omega))))))) h1 h2 (HE.out.grew (by (repeat (first | with_reducible exact grew_refl _ | with_reducible assumption | with_reducible refine grew_split ?_ | with_reducible refine grew_mk ?_ | with_reducible refine grew_plus ?_ | with_reducible refine grew_alloc ?_ | with_reducible refine grew_drew ?_ | (with_reducible refine grew_set ?_ (by first | exact Nat.le_refl _ | omega | (simp [go_sem]; done) | (simp [go_sem]; omega)))))))).mono ?_
    (rintro e w' ⟨rfl, gx, rfl⟩)
    go_wp2_with fail
    refine bodyPost_ret (v := .tuple #[.slice none 0 0, .bool false]) (by simp [results, Tryz.results15, go_sem, *]) rfl ?_
    exact ⟨⟨none, 0, by rw [HF.out]; rfl, by rw [HF.out]; exact .inl rfl⟩, by (repeat (first | with_reducible exact grew_refl _ | with_reducible assumption | with_reducible refine grew_split ?_ | with_reducible refine grew_mk ?_ | with_reducible refine grew_plus ?_ | with_reducible refine grew_alloc ?_ | with_reducible refine grew_drew ?_ | (with_reducible refine grew_set ?_ (by first | exact Nat.le_refl _ | omega | (simp [go_sem]; done) | (simp [go_sem]; omega)))))⟩
  by_cases hs : (4000 : Int) < (t.size : Int)
  · have HF : Hid (scrF v.core l t = ([], false)) := hid (by have : ¬ t.size ≤ 4000 := (by omega); simp [scrF, this])
    have HC := hid hc
    clear hc
    go_enter Tryz.func15, Tryz.ntmps15
    go_wp2_with fail
    refine (i_IsValidConsole v l _ HC.out _ (HV.out.grew (by (repeat (first | with_reducible exact grew_refl _ | with_reducible assumption | with_reducible refine grew_split ?_ | with_reducible refine grew_mk ?_ | with_reducible refine grew_plus ?_ | with_reducible refine grew_alloc ?_ | with_reducible refine grew_drew ?_ | (with_reducible refine grew_set ?_ (by first | exact Nat.le_refl _ | omega | (simp [go_sem]; done) | (simp [go_sem]; omega))))))) h1 h2 (HE.out.grew (by (repeat (first | with_reducible exact grew_refl _ | with_reducible assumption | with_reducible refine grew_split ?_ | with_reducible refine grew_mk ?_ | with_reducible refine grew_plus ?_ | with_reducible refine grew_alloc ?_ | with_reducible refine grew_drew ?_ | (with_reducible refine grew_set ?_ (by first | exact Nat.le_refl _ | omega | (simp [go_sem]; done) | (simp [go_sem]; omega)))))))).mono ?_
    (rintro e w' ⟨rfl, gx, rfl⟩)
    go_wp2_with fail
    refine bodyPost_ret (v := .tuple #[.slice none 0 0, .bool false]) (by simp [results, Tryz.results15, go_sem, *]) rfl ?_
    exact ⟨⟨none, 0, by rw [HF.out]; rfl, by rw [HF.out]; exact .inl rfl⟩, by (repeat (first | with_reducible exact grew_refl _ | with_reducible assumption | with_reducible refine grew_split ?_ | with_reducible refine grew_mk ?_ | with_reducible refine grew_plus ?_ | with_reducible refine grew_alloc ?_ | with_reducible refine grew_drew ?_ | (with_reducible refine grew_set ?_ (by first | exact Nat.le_refl _ | omega | (simp [go_sem]; done) | (simp [go_sem]; omega)))))⟩
  obtain ⟨ws, hws⟩ : ∃ ws, splitV t 10 = ws := ⟨_, rfl⟩
  by_cases hn : (30 : Int) < (ws.length : Int)
  · have HF : Hid (scrF v.core l t = ([], false)) := hid (by have : ¬ ws.length ≤ 30 := (by omega); simp [scrF, hws, this])
    have HC := hid hc
    have HW := hid hws
    clear hc hws
    go_enter Tryz.func15, Tryz.ntmps15
    go_wp2_with fail
    refine (i_IsValidConsole v l _ HC.out _ (HV.out.grew (by (repeat (first | with_reducible exact grew_refl _ | with_reducible assumption | with_reducible refine grew_split ?_ | with_reducible refine grew_mk ?_ | with_reducible refine grew_plus ?_ | with_reducible refine grew_alloc ?_ | with_reducible refine grew_drew ?_ | (with_reducible refine grew_set ?_ (by first | exact Nat.le_refl _ | omega | (simp [go_sem]; done) | (simp [go_sem]; omega))))))) h1 h2 (HE.out.grew (by (repeat (first | with_reducible exact grew_refl _ | with_reducible assumption | with_reducible refine grew_split ?_ | with_reducible refine grew_mk ?_ | with_reducible refine grew_plus ?_ | with_reducible refine grew_alloc ?_ | with_reducible refine grew_drew ?_ | (with_reducible refine grew_set ?_ (by first | exact Nat.le_refl _ | omega | (simp [go_sem]; done) | (simp [go_sem]; omega)))))))).mono ?_
    (rintro e w' ⟨rfl, gx, rfl⟩)
    go_wp2_with fail
    refine (i_SplitF t 10 ws HW.out _ (by omega) (HE.out.grew (by (repeat (first | with_reducible exact grew_refl _ | with_reducible assumption | with_reducible refine grew_split ?_ | with_reducible refine grew_mk ?_ | with_reducible refine grew_plus ?_ | with_reducible refine grew_alloc ?_ | with_reducible refine grew_drew ?_ | (with_reducible refine grew_set ?_ (by first | exact Nat.le_refl _ | omega | (simp [go_sem]; done) | (simp [go_sem]; omega)))))))).mono ?_
    rintro e w' ⟨⟨A2, c2, rfl, -⟩, g2, rfl⟩
    go_wp2_with fail
    refine bodyPost_ret (v := .tuple #[.slice none 0 0, .bool false]) (by simp [results, Tryz.results15, go_sem, *]) rfl ?_
    exact ⟨⟨none, 0, by rw [HF.out]; rfl, by rw [HF.out]; exact .inl rfl⟩, by (repeat (first | with_reducible exact grew_refl _ | with_reducible assumption | with_reducible refine grew_split ?_ | with_reducible refine grew_mk ?_ | with_reducible refine grew_plus ?_ | with_reducible refine grew_alloc ?_ | with_reducible refine grew_drew ?_ | (with_reducible refine grew_set ?_ (by first | exact Nat.le_refl _ | omega | (simp [go_sem]; done) | (simp [go_sem]; omega)))))⟩
  have HF : Hid (scrF v.core l t = (repTo v.core l ws ws.length, true)) := hid (by have h3 : t.size ≤ 4000 := (by omega); have h4 : ws.length ≤ 30 := (by omega); simp [scrF, hws, hc, h3, h4])
  have HC := hid hc
  have HW := hid hws
  clear hc hws
  go_enter Tryz.func15, Tryz.ntmps15
  go_wp2_with fail
  refine (i_IsValidConsole v l _ HC.out _ (HV.out.grew (by (repeat (first | with_reducible exact grew_refl _ | with_reducible assumption | with_reducible refine grew_split ?_ | with_reducible refine grew_mk ?_ | with_reducible refine grew_plus ?_ | with_reducible refine grew_alloc ?_ | with_reducible refine grew_drew ?_ | (with_reducible refine grew_set ?_ (by first | exact Nat.le_refl _ | omega | (simp [go_sem]; done) | (simp [go_sem]; omega))))))) h1 h2 (HE.out.grew (by (repeat (first | with_reducible exact grew_refl _ | with_reducible assumption | with_reducible refine grew_split ?_ | with_reducible refine grew_mk ?_ | with_reducible refine grew_plus ?_ | with_reducible refine grew_alloc ?_ | with_reducible refine grew_drew ?_ | (with_reducible refine grew_set ?_ (by first | exact Nat.le_refl _ | omega | (simp [go_sem]; done) | (simp [go_sem]; omega)))))))).mono ?_
  (rintro e w' ⟨rfl, gx, rfl⟩)
  go_wp2_with fail
  refine (i_SplitF t 10 ws HW.out _ (by omega) (HE.out.grew (by (repeat (first | with_reducible exact grew_refl _ | with_reducible assumption | with_reducible refine grew_split ?_ | with_reducible refine grew_mk ?_ | with_reducible refine grew_plus ?_ | with_reducible refine grew_alloc ?_ | with_reducible refine grew_drew ?_ | (with_reducible refine grew_set ?_ (by first | exact Nat.le_refl _ | omega | (simp [go_sem]; done) | (simp [go_sem]; omega)))))))).mono ?_
  rintro e w' ⟨⟨A2, c2, rfl, hO2⟩, g2, rfl⟩
  (try rw [plus_plus] at hO2)
  have HO2 := hid hO2
  clear hO2
  go_upto_region 6 with fail
  refine opq_wp (fun wr => Blk wr w.heap.size 30 #[.int .i64 (v.core).minute, .int .i64 (v.core).state, .slice v.A (v.core).lines.length v.c, .int .i64 (v.core).line, .int .i64 (v.core).since, .int .i64 (v.core).cast, .int .i64 (v.core).fuel, .string (l).d, .string (l).p, .int .i64 (l).n] ∧ OwnF (w.heap.size + 1) 9 1 strRow wr A2 ws ∧ ∃ g, wr = plus w g) ⟨Blk.plus (blk_new rfl) _, OwnF.less (OwnF.grew HO2.out (by (repeat (first | with_reducible exact grew_refl _ | with_reducible assumption | with_reducible refine grew_split ?_ | with_reducible refine grew_mk ?_ | with_reducible refine grew_plus ?_ | with_reducible refine grew_alloc ?_ | with_reducible refine grew_drew ?_ | (with_reducible refine grew_set ?_ (by first | exact Nat.le_refl _ | omega | (simp [go_sem]; done) | (simp [go_sem]; omega))))))) (by first | (simp [go_sem]; done) | (simp [go_sem]; omega)), by (repeat (first | with_reducible exact grew_refl _ | with_reducible assumption | with_reducible refine grew_split ?_ | with_reducible refine grew_mk ?_ | with_reducible refine grew_plus ?_ | with_reducible refine grew_alloc ?_ | with_reducible refine grew_drew ?_ | (with_reducible refine grew_set ?_ (by first | exact Nat.le_refl _ | omega | (simp [go_sem]; done) | (simp [go_sem]; omega)))))⟩ ?_
  clear HO2
  rintro W1 ⟨hB, hO2, hg1⟩
  have HB1 := hid hB
  have HO2 := hid hO2
  have HG1 := hid hg1
  have hw1 := (below_of_grew hg1).size
  have hwl := hB.lt
  have hrow := hO2.row
  clear hB hO2 hg1
  have hsz : ∀ x ∈ ws, x.size ≤ t.size := by rw [← HW.out]; exact splitV_size t 10
  go_wp2_with fail
  go_loopw [7, 28] (fun o i wr => ∃ (k : Nat) (A' : Option Addr) (c' : Nat) (Ao : Option Addr) (co : Nat), k ≤ ws.length ∧ i = .int .i64 k ∧ o = .slice Ao k co ∧ Own (w.heap.size + 1) 9 1 strRow wr Ao co (repTo v.core l ws k) ∧ (∀ q, rowOf A2 ws = some q → ∀ a, Ao = some a → a.block ≠ q) ∧ Blk wr w.heap.size 30 #[.int .i64 ((stTo v.core l ws k).1).minute, .int .i64 ((stTo v.core l ws k).1).state, .slice A' ((stTo v.core l ws k).1).lines.length c', .int .i64 ((stTo v.core l ws k).1).line, .int .i64 ((stTo v.core l ws k).1).since, .int .i64 ((stTo v.core l ws k).1).cast, .int .i64 ((stTo v.core l ws k).1).fuel, .string ((stTo v.core l ws k).2).d, .string ((stTo v.core l ws k).2).p, .int .i64 ((stTo v.core l ws k).2).n] ∧ ((A' = v.A ∧ (stTo v.core l ws k).1.lines = v.core.lines) ∨ OwnF w.heap.size 80 2 LineR.row wr A' (stTo v.core l ws k).1.lines) ∧ OwnF (w.heap.size + 1) 9 1 strRow wr A2 ws ∧ ∃ g, wr = plus w g) (fun _ i _ => ws.length - (intOf i).toNat)
  case atStart =>
    have hg := HG1.out
    refine ⟨0, v.A, v.c, _, _, Nat.zero_le _, rfl, rfl, Own.newIn (o := .cells #[] 9) (by (repeat (first | with_reducible exact grew_refl _ | with_reducible assumption | with_reducible refine grew_split ?_ | with_reducible refine grew_mk ?_ | with_reducible refine grew_plus ?_ | with_reducible refine grew_alloc ?_ | with_reducible refine grew_drew ?_ | (with_reducible refine grew_set ?_ (by first | exact Nat.le_refl _ | omega | (simp [go_sem]; done) | (simp [go_sem]; omega)))))) rfl rfl (by omega), ?_, blk_grew HB1.out (by (repeat (first | with_reducible exact grew_refl _ | with_reducible assumption | with_reducible refine grew_split ?_ | with_reducible refine grew_mk ?_ | with_reducible refine grew_plus ?_ | with_reducible refine grew_alloc ?_ | with_reducible refine grew_drew ?_ | (with_reducible refine grew_set ?_ (by first | exact Nat.le_refl _ | omega | (simp [go_sem]; done) | (simp [go_sem]; omega)))))), .inl ⟨rfl, rfl⟩, HO2.out.grew (by (repeat (first | with_reducible exact grew_refl _ | with_reducible assumption | with_reducible refine grew_split ?_ | with_reducible refine grew_mk ?_ | with_reducible refine grew_plus ?_ | with_reducible refine grew_alloc ?_ | with_reducible refine grew_drew ?_ | (with_reducible refine grew_set ?_ (by first | exact Nat.le_refl _ | omega | (simp [go_sem]; done) | (simp [go_sem]; omega)))))), by (repeat (first | with_reducible exact grew_refl _ | with_reducible assumption | with_reducible refine grew_split ?_ | with_reducible refine grew_mk ?_ | with_reducible refine grew_plus ?_ | with_reducible refine grew_alloc ?_ | with_reducible refine grew_drew ?_ | (with_reducible refine grew_set ?_ (by first | exact Nat.le_refl _ | omega | (simp [go_sem]; done) | (simp [go_sem]; omega)))))⟩
    intro q hq a ha
    have := (hrow q hq).2
    injection ha with ha
    rw [← ha]
    simp only
    omega
  case round =>
    obtain ⟨k, A', c', Ao, co, hk, rfl, rfl, hOut, hne, hB, hO, hP, hg⟩ := hrel
    obtain ⟨D, L, hst⟩ : ∃ D L, stTo v.core l ws k = (D, L) := ⟨_, _, rfl⟩
    have hok := stTo_ok HC.out ws k
    rw [hst] at hB hO hok
    obtain ⟨q1, q2, q3⟩ := conOk_small hok
    simp only at hB hO q1 q2 q3
    have hS : Sl wr 2 LineR.row A' D.lines := by
      rcases hO with ⟨rfl, hl⟩ | hO
      · rw [hl]; exact HV.out.1.grew hg
      · exact hO.sl
    have HST := hid hst
    have HOut := hid hOut
    have HNE := hid hne
    have HB := hid hB
    have HS := hid hS
    have HP2 := hid hP
    have HG := hid hg
    have hgw := (below_of_grew hg).size
    clear hst hok hO hS hne hOut HB1
    by_cases hlt : k < ws.length
    · obtain ⟨b, off, rfl, hb, hx⟩ := hP.sl.at_ hlt
      have y0 := tcell0 hx hlt
      obtain ⟨x, hxx⟩ : ∃ x, ws[k] = x := ⟨_, rfl⟩
      have hxs := hsz ws[k] (List.getElem_mem hlt)
      rw [hxx] at y0 hxs
      obtain ⟨D', L', r, hp⟩ : ∃ D' L' r, exeF D L x = (D', L', r) := ⟨_, _, _, rfl⟩
      have HX := hid hxx
      have HXP := hid hp
      have hbl := hB.lt
      (have hd0 := hB.cell 0; have hd1 := hB.cell 1; have hd2 := hB.cell 2; have hd3 := hB.cell 3; have hd4 := hB.cell 4; have hd5 := hB.cell 5; have hd6 := hB.cell 6; have hd7 := hB.cell 7; have hd8 := hB.cell 8; have hd9 := hB.cell 9; simp [go_sem] at hd0 hd1 hd2 hd3 hd4 hd5 hd6 hd7 hd8 hd9)
      (have fd0 := hB.frozen 0; have fd1 := hB.frozen 1; have fd2 := hB.frozen 2; have fd3 := hB.frozen 3; have fd4 := hB.frozen 4; have fd5 := hB.frozen 5; have fd6 := hB.frozen 6; have fd7 := hB.frozen 7; have fd8 := hB.frozen 8; have fd9 := hB.frozen 9)
      have hk0 : (0 : Int) ≤ (k : Int) := by omega
      have hk1 : (k : Int) < (ws.length : Int) := by omega
      clear hB hP hg hx hxx hp
      go_wp2_with fail
      refine (i_ExecuteCommand ⟨D, A', c'⟩ L x _ (HS.out.grew (by (repeat (first | with_reducible exact grew_refl _ | with_reducible assumption | with_reducible refine grew_split ?_ | with_reducible refine grew_mk ?_ | with_reducible refine grew_plus ?_ | with_reducible refine grew_alloc ?_ | with_reducible refine grew_drew ?_ | (with_reducible refine grew_set ?_ (by first | exact Nat.le_refl _ | omega | (simp [go_sem]; done) | (simp [go_sem]; omega))))))) (by simp only; omega) (by omega) (by omega) (by omega) (HE.out.grew (grew_two' HG.out (by (repeat (first | with_reducible exact grew_refl _ | with_reducible assumption | with_reducible refine grew_split ?_ | with_reducible refine grew_mk ?_ | with_reducible refine grew_plus ?_ | with_reducible refine grew_alloc ?_ | with_reducible refine grew_drew ?_ | (with_reducible refine grew_set ?_ (by first | exact Nat.le_refl _ | omega | (simp [go_sem]; done) | (simp [go_sem]; omega)))))))) (HY.out.grew (grew_two' HG.out (by (repeat (first | with_reducible exact grew_refl _ | with_reducible assumption | with_reducible refine grew_split ?_ | with_reducible refine grew_mk ?_ | with_reducible refine grew_plus ?_ | with_reducible refine grew_alloc ?_ | with_reducible refine grew_drew ?_ | (with_reducible refine grew_set ?_ (by first | exact Nat.le_refl _ | omega | (simp [go_sem]; done) | (simp [go_sem]; omega))))))))).mono ?_
      rw [HXP.out]
      rintro e w' ⟨⟨A3, c3, rfl, hO3⟩, g3, rfl⟩
      have HO3 := hid hO3
      clear hO3
      go_upto_region 12 with fail
      refine opq_wp (fun W9 => Blk W9 w.heap.size 30 #[.int .i64 (D').minute, .int .i64 (D').state, .slice A3 (D').lines.length c3, .int .i64 (D').line, .int .i64 (D').since, .int .i64 (D').cast, .int .i64 (D').fuel, .string (L').d, .string (L').p, .int .i64 (L').n] ∧ OwnF w.heap.size 80 2 LineR.row W9 A3 D'.lines ∧ Own (w.heap.size + 1) 9 1 strRow W9 Ao co (repTo v.core l ws k) ∧ OwnF (w.heap.size + 1) 9 1 strRow W9 (some ⟨b, off, none⟩) ws ∧ ∃ g, W9 = plus w g) ⟨?_, ?_, ?_, ?_, ?_⟩ ?_
      · have h := ((((((((((HB.out.set_ 0 (.int .i64 D'.minute)).set_ 1 (.int .i64 D'.state)).set_ 2 (.slice A3 D'.lines.length c3)).set_ 3 (.int .i64 D'.line)).set_ 4 (.int .i64 D'.since)).set_ 5 (.int .i64 D'.cast)).set_ 6 (.int .i64 D'.fuel)).set_ 7 (.string L'.d)).set_ 8 (.string L'.p)).set_ 9 (.int .i64 L'.n))
        simp only [List.setIfInBounds_toArray, List.set_cons_zero, List.set_cons_succ] at h
        exact Blk.alloc (Blk.plus h _) _
      · exact (OwnF.grew (OwnF.base HO3.out (by first | exact Nat.le_refl _ | (simp [go_sem]; done) | (simp [go_sem]; omega)) (by simp [go_sem])) (grew_alloc (grew_refl _))).less (by first | omega | (simp [go_sem]; omega))
      · have hf : ∀ a, Ao = some a → a.block ≠ w.heap.size := fun a ha => by have := (HOut.out.ne a ha).1; omega
        exact Own.grew ((((((((((HOut.out.setFar hf).setFar hf).setFar hf).setFar hf).setFar hf).setFar hf).setFar hf).setFar hf).setFar hf).setFar hf) (grew_alloc (grew_plus (grew_refl _)))
      · refine OwnF.grew ?_ (grew_alloc (grew_plus (grew_refl _)))
        exact OwnF.apart HP2.out HB.out (by decide) (by (repeat (first | with_reducible exact grown_refl _ _ | with_reducible assumption | with_reducible refine gb_plus ?_ | with_reducible refine gb_alloc ?_ | with_reducible refine gb_drew ?_ | with_reducible refine grown_set ?_)))
      · have hg := HG.out
        (repeat (first | with_reducible exact grew_refl _ | with_reducible assumption | with_reducible refine grew_split ?_ | with_reducible refine grew_mk ?_ | with_reducible refine grew_plus ?_ | with_reducible refine grew_alloc ?_ | with_reducible refine grew_drew ?_ | (with_reducible refine grew_set ?_ (by first | exact Nat.le_refl _ | omega | (simp [go_sem]; done) | (simp [go_sem]; omega)))))
      have HR1 : Hid (repTo v.core l ws (k + 1) = repTo v.core l ws k ++ [r]) := hid (by rw [repTo_succ, repAt_eq hlt, HST.out, HX.out, HXP.out])
      have HST2 : Hid (stTo v.core l ws (k + 1) = (D', L')) := hid (by rw [stTo_step hlt, HST.out, HX.out, HXP.out])
      have HRL := hid (repTo_len v.core l ws k)
      have hk30 : k ≤ 30 := by omega
      clear hd0 hd1 hd2 hd3 hd4 hd5 hd6 hd7 hd8 hd9 fd0 fd1 fd2 fd3 fd4 fd5 fd6 fd7 fd8 fd9 y0 hbl HOut HP2 HB HO3
      rintro W9 ⟨hB9, hD9, hL9, hP9, hg9⟩
      have HB9 := hid hB9
      have HD9 := hid hD9
      have HL9 := hid hL9
      have HP9 := hid hP9
      have HG9 := hid hg9
      have hw9 := (below_of_grew hg9).size
      have hb9 := hB9.lt
      clear hB9 hD9 hL9 hP9 hg9
      go_wp2_with (at_builtin; refine wpList_appB (B := w.heap.size + 1) rfl _ _ _ rfl 9 1 16 _ Tryz.underlying41 str_info rfl (by omega) (by omega) Ao co (repTo v.core l ws k) k HRL.out.symm rfl (HL9.out.grew (by (repeat (first | with_reducible exact grew_refl _ | with_reducible assumption | with_reducible refine grew_split ?_ | with_reducible refine grew_mk ?_ | with_reducible refine grew_plus ?_ | with_reducible refine grew_alloc ?_ | with_reducible refine grew_drew ?_ | (with_reducible refine grew_set ?_ (by first | exact Nat.le_refl _ | omega | (simp [go_sem]; done) | (simp [go_sem]; omega))))))) ?_ ?_ _ r _ rfl rfl ?_ ?_ ?_; (· (first | (simp [go_sem]; done) | (simp [go_sem]; omega) | omega)); (· (rw [HRL.out]; omega)); (· (intro j u hj; match j, hj with | 0, hj => (simp [strRow] at hj; subst hj; simp [Addr.add, go_sem]))); (· simp [strRow, Value.oneCell']); intro A5 c5 w5 hO5 hg5 hat5; have HO5 := hid hO5; have HG5 := hid hg5; have HA5 := hid hat5; clear hO5 hg5 hat5)
      go_roundw
      case measure => simp [intOf]; omega
      case rel =>
        have hrow2 : ∀ q, rowOf (some ⟨b, off, none⟩) ws = some q → q = b := fun q hq => by
          cases ws with
          | nil => simp at hlt
          | cons x0 t0 => simp [rowOf] at hq; exact hq.symm
        have hbw : b < W9.heap.size := by
          have h := HP9.out.row b (by cases ws with
            | nil => simp at hlt
            | cons x0 t0 => rfl)
          exact h.2
        have hown : ∀ q, (Value.slice Ao k co).ownBlock = some q → q ≠ b ∧ w.heap.size + 1 ≤ q := fun q hq => by
          obtain ⟨ad, h1, h2⟩ := own_some hq
          refine ⟨fun e => HNE.out b (by cases ws with
            | nil => simp at hlt
            | cons x0 t0 => rfl) ad h1 (by rw [h2, e]), ?_⟩
          have := (HL9.out.ne ad h1).1
          omega
        refine ⟨k + 1, A3, c3, A5, c5, by omega, by go_num, rfl, by rw [HR1.out]; exact HO5.out, ?_, ?_, ?_, ?_, ?_⟩
        · intro q hq a ha
          rw [hrow2 q hq]
          rcases HA5.out a ha with ⟨a0, h0, h1⟩ | h
          · rw [← h1]
            exact HNE.out b (by cases ws with
              | nil => simp at hlt
              | cons x0 t0 => rfl) a0 h0
          · rw [h]
            simp [go_sem]
            omega
        · rw [HST2.out]
          exact (HB9.out.alloc _).grown HG5.out (fun e => by have := (hown _ e.symm).2; omega)
        · rw [HST2.out]
          exact .inr (OwnF.keptO (HD9.out.grew (grew_alloc (grew_refl _))) (HL9.out.grew (grew_alloc (grew_refl _))) (by decide) HG5.out)
        · exact OwnF.keptNe (HP9.out.grew (grew_alloc (grew_refl _))) HG5.out (fun q hq h => (hown q hq).1 (hrow2 q h))
        · have hg := HG9.out
          exact grew_own (w0 := w) (by (repeat (first | with_reducible exact grew_refl _ | with_reducible assumption | with_reducible refine grew_split ?_ | with_reducible refine grew_mk ?_ | with_reducible refine grew_plus ?_ | with_reducible refine grew_alloc ?_ | with_reducible refine grew_drew ?_ | (with_reducible refine grew_set ?_ (by first | exact Nat.le_refl _ | omega | (simp [go_sem]; done) | (simp [go_sem]; omega)))))) HG5.out (fun a ha => by have := (HL9.out.ne a ha).1; omega)
    · obtain rfl : k = ws.length := by omega
      go_wp2_with fail
      refine bodyPost_ret (v := .tuple #[.slice Ao ws.length co, .bool true]) (by simp [results, Tryz.results15, go_sem, *]) rfl ?_
      have hg := HG.out
      refine ⟨⟨Ao, co, by rw [HF.out, repTo_len], ?_⟩, by (repeat (first | with_reducible exact grew_refl _ | with_reducible assumption | with_reducible refine grew_split ?_ | with_reducible refine grew_mk ?_ | with_reducible refine grew_plus ?_ | with_reducible refine grew_alloc ?_ | with_reducible refine grew_drew ?_ | (with_reducible refine grew_set ?_ (by first | exact Nat.le_refl _ | omega | (simp [go_sem]; done) | (simp [go_sem]; omega)))))⟩
      rw [HF.out]
      exact (HOut.out.f (fun _ => rfl)).less (by omega)
end Go.Proofs.YtecghfcgahgfiaaGreatDoor
