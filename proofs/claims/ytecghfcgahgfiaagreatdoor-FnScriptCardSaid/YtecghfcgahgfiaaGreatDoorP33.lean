import Derived.Test.YtecghfcgahgfiaaGreatDoorP43
import Derived.Test.YtecghfcgahgfiaaGreatDoorP27
import Derived.Test.YtecghfcgahgfiaaGreatDoorP12
import Derived.Deep.RegionHeld3
import Derived.Deep.DrawnRows
import Derived.Deep.RegionWith
/- RunScript, in the reference. -/
namespace Go.Proofs.YtecghfcgahgfiaaGreatDoor
open Go.RowKit

attribute [local go_sem ↓] Go.wp_at_zero Go.wp_at_succ
set_option maxHeartbeats 8000000 in
theorem s_RunScript (v : DayV) (l : LogR) (t : ByteArray) (w : World) (hv : v.At w) (h1 : l.d.size ≤ 2097152) (h2 : l.p.size ≤ 2097152) (ht : t.size ≤ 4194304) (hE : Env w) :
    Calls Tryz.prog 16 #[ConV.val ⟨v, l⟩, .string t] w fun e w' => (∃ A c, e = .returned (.tuple #[.slice A (scrF v.core l t).1.length c, .bool (scrF v.core l t).2]) ∧ OwnF w.heap.size 9 1 strRow w' A (scrF v.core l t).1) ∧ ∃ g, w' = plus w g := by
  have HV := hid hv
  have HE := hid hE
  clear hv hE
  obtain ⟨ws, hws⟩ : ∃ ws, splitV t 10 = ws := ⟨_, rfl⟩
  by_cases hbad : conOk v.core l = false ∨ (4000 : Int) < (t.size : Int) ∨ (30 : Int) < (ws.length : Int)
  · have HF : Hid (scrF v.core l t = ([], false)) := hid (by
      rcases hbad with h | h | h
      · simp [scrF, h]
      · have : ¬ t.size ≤ 4000 := (by omega)
        simp [scrF, this]
      · have : ¬ ws.length ≤ 30 := (by omega)
        simp [scrF, hws, this])
    obtain ⟨o, ho⟩ : ∃ o, conOk v.core l = o := ⟨_, rfl⟩
    rw [ho] at hbad
    have HC := hid ho
    have HW := hid hws
    clear ho hws
    go_enter Tryz.func16, Tryz.ntmps16
    go_wp2_with fail
    refine (s_l1Split t 10 10 rfl _ ht).mono ?_
    rw [HW.out]
    rintro e w' ⟨⟨A2, c2, rfl, -⟩, g2, rfl⟩
    go_wp2_with fail
    refine (s_l28Good v l _ HC.out _ (HV.out.grew (by (repeat (first | with_reducible exact grew_refl _ | with_reducible assumption | with_reducible refine grew_split ?_ | with_reducible refine grew_mk ?_ | with_reducible refine grew_plus ?_ | with_reducible refine grew_alloc ?_ | with_reducible refine grew_drew ?_ | (with_reducible refine grew_set ?_ (by first | exact Nat.le_refl _ | omega | (simp [go_sem]; done) | (simp [go_sem]; omega))))))) h1 h2 (HE.out.grew (by (repeat (first | with_reducible exact grew_refl _ | with_reducible assumption | with_reducible refine grew_split ?_ | with_reducible refine grew_mk ?_ | with_reducible refine grew_plus ?_ | with_reducible refine grew_alloc ?_ | with_reducible refine grew_drew ?_ | (with_reducible refine grew_set ?_ (by first | exact Nat.le_refl _ | omega | (simp [go_sem]; done) | (simp [go_sem]; omega)))))))).mono ?_
    (rintro e w' ⟨rfl, gx, rfl⟩)
    cases o
    · clear hbad
      go_wp2_with fail
      refine bodyPost_ret (v := .tuple #[.slice (some ⟨w.heap.size + 1, 0, none⟩) 0 0, .bool false]) (by simp [results, Tryz.results16, go_sem, *]) rfl ?_
      exact ⟨⟨_, _, by rw [HF.out]; rfl, by rw [HF.out]; exact .inl rfl⟩, by (repeat (first | with_reducible exact grew_refl _ | with_reducible assumption | with_reducible refine grew_split ?_ | with_reducible refine grew_mk ?_ | with_reducible refine grew_plus ?_ | with_reducible refine grew_alloc ?_ | with_reducible refine grew_drew ?_ | (with_reducible refine grew_set ?_ (by first | exact Nat.le_refl _ | omega | (simp [go_sem]; done) | (simp [go_sem]; omega)))))⟩
    · rcases hbad with h | hs | hn
      · cases h
      · go_wp2_with fail
        refine bodyPost_ret (v := .tuple #[.slice (some ⟨w.heap.size + 1, 0, none⟩) 0 0, .bool false]) (by simp [results, Tryz.results16, go_sem, *]) rfl ?_
        exact ⟨⟨_, _, by rw [HF.out]; rfl, by rw [HF.out]; exact .inl rfl⟩, by (repeat (first | with_reducible exact grew_refl _ | with_reducible assumption | with_reducible refine grew_split ?_ | with_reducible refine grew_mk ?_ | with_reducible refine grew_plus ?_ | with_reducible refine grew_alloc ?_ | with_reducible refine grew_drew ?_ | (with_reducible refine grew_set ?_ (by first | exact Nat.le_refl _ | omega | (simp [go_sem]; done) | (simp [go_sem]; omega)))))⟩
      · by_cases hs : (4000 : Int) < (t.size : Int)
        all_goals
          go_wp2_with fail
          refine bodyPost_ret (v := .tuple #[.slice (some ⟨w.heap.size + 1, 0, none⟩) 0 0, .bool false]) (by simp [results, Tryz.results16, go_sem, *]) rfl ?_
          exact ⟨⟨_, _, by rw [HF.out]; rfl, by rw [HF.out]; exact .inl rfl⟩, by (repeat (first | with_reducible exact grew_refl _ | with_reducible assumption | with_reducible refine grew_split ?_ | with_reducible refine grew_mk ?_ | with_reducible refine grew_plus ?_ | with_reducible refine grew_alloc ?_ | with_reducible refine grew_drew ?_ | (with_reducible refine grew_set ?_ (by first | exact Nat.le_refl _ | omega | (simp [go_sem]; done) | (simp [go_sem]; omega)))))⟩
  obtain ⟨hc, hs, hn⟩ : conOk v.core l = true ∧ ¬ (4000 : Int) < (t.size : Int) ∧ ¬ (30 : Int) < (ws.length : Int) := ⟨by cases h : conOk v.core l <;> simp_all, fun h => hbad (.inr (.inl h)), fun h => hbad (.inr (.inr h))⟩
  clear hbad
  have HF : Hid (scrF v.core l t = (repTo v.core l ws ws.length, true)) := hid (by have h3 : t.size ≤ 4000 := (by omega); have h4 : ws.length ≤ 30 := (by omega); simp [scrF, hws, hc, h3, h4])
  have HC := hid hc
  have HW := hid hws
  clear hc hws
  go_enter Tryz.func16, Tryz.ntmps16
  go_wp2_with fail
  refine (s_l1Split t 10 10 rfl _ ht).mono ?_
  rw [HW.out]
  rintro e w' ⟨⟨A2, c2, rfl, hO2⟩, g2, rfl⟩
  have HO2 := hid (hO2.f (fun _ => rfl))
  clear hO2
  go_wp2_with fail
  refine (s_l28Good v l _ HC.out _ (HV.out.grew (by (repeat (first | with_reducible exact grew_refl _ | with_reducible assumption | with_reducible refine grew_split ?_ | with_reducible refine grew_mk ?_ | with_reducible refine grew_plus ?_ | with_reducible refine grew_alloc ?_ | with_reducible refine grew_drew ?_ | (with_reducible refine grew_set ?_ (by first | exact Nat.le_refl _ | omega | (simp [go_sem]; done) | (simp [go_sem]; omega))))))) h1 h2 (HE.out.grew (by (repeat (first | with_reducible exact grew_refl _ | with_reducible assumption | with_reducible refine grew_split ?_ | with_reducible refine grew_mk ?_ | with_reducible refine grew_plus ?_ | with_reducible refine grew_alloc ?_ | with_reducible refine grew_drew ?_ | (with_reducible refine grew_set ?_ (by first | exact Nat.le_refl _ | omega | (simp [go_sem]; done) | (simp [go_sem]; omega)))))))).mono ?_
  (rintro e w' ⟨rfl, gx, rfl⟩)
  go_upto_region 5 with fail
  refine opq_wp (fun wr => Blk wr w.heap.size 30 #[.int .i64 (v.core).minute, .int .i64 (v.core).state, .slice v.A (v.core).lines.length v.c, .int .i64 (v.core).line, .int .i64 (v.core).since, .int .i64 (v.core).cast, .int .i64 (v.core).fuel, .string (l).d, .string (l).p, .int .i64 (l).n] ∧ OwnF (w.heap.size + 2) 9 1 strRow wr A2 ws ∧ Own (w.heap.size + 1) 9 1 strRow wr (some ⟨w.heap.size + 1, 0, none⟩) 0 ([] : List ByteArray) ∧ ∃ g, wr = plus w g) ⟨Blk.plus (Blk.alloc (blk_new rfl) _) _, OwnF.less (OwnF.grew HO2.out (by (repeat (first | with_reducible exact grew_refl _ | with_reducible assumption | with_reducible refine grew_split ?_ | with_reducible refine grew_mk ?_ | with_reducible refine grew_plus ?_ | with_reducible refine grew_alloc ?_ | with_reducible refine grew_drew ?_ | (with_reducible refine grew_set ?_ (by first | exact Nat.le_refl _ | omega | (simp [go_sem]; done) | (simp [go_sem]; omega))))))) (by first | (simp [go_sem]; done) | (simp [go_sem]; omega)), Own.newIn (o := .cells #[] 9) (w := w.alloc _) (grew_plus (grew_refl _)) rfl (by simp [go_sem]) (by simp [go_sem]), by (repeat (first | with_reducible exact grew_refl _ | with_reducible assumption | with_reducible refine grew_split ?_ | with_reducible refine grew_mk ?_ | with_reducible refine grew_plus ?_ | with_reducible refine grew_alloc ?_ | with_reducible refine grew_drew ?_ | (with_reducible refine grew_set ?_ (by first | exact Nat.le_refl _ | omega | (simp [go_sem]; done) | (simp [go_sem]; omega)))))⟩ ?_
  clear HO2
  rintro W1 ⟨hB, hO2, hOut, hg1⟩
  have HB1 := hid hB
  have HO2 := hid hO2
  have HOut1 := hid hOut
  have HG1 := hid hg1
  have hw1 := (below_of_grew hg1).size
  have hwl := hB.lt
  have hrow := hO2.row
  clear hB hO2 hOut hg1
  have hsz : ∀ x ∈ ws, x.size ≤ t.size := by rw [← HW.out]; exact splitV_size t 10
  go_wp2_with fail
  go_loopw [6, 8, 9] (fun o rp i wr => ∃ (y : ByteArray), rp = .string y ∧ ∃ (k : Nat) (A' : Option Addr) (c' : Nat) (Ao : Option Addr) (co : Nat), k ≤ ws.length ∧ i = .int .i64 k ∧ o = .slice Ao k co ∧ Own (w.heap.size + 1) 9 1 strRow wr Ao co (repTo v.core l ws k) ∧ (∀ q, rowOf A2 ws = some q → ∀ a, Ao = some a → a.block ≠ q) ∧ Blk wr w.heap.size 30 #[.int .i64 ((stTo v.core l ws k).1).minute, .int .i64 ((stTo v.core l ws k).1).state, .slice A' ((stTo v.core l ws k).1).lines.length c', .int .i64 ((stTo v.core l ws k).1).line, .int .i64 ((stTo v.core l ws k).1).since, .int .i64 ((stTo v.core l ws k).1).cast, .int .i64 ((stTo v.core l ws k).1).fuel, .string ((stTo v.core l ws k).2).d, .string ((stTo v.core l ws k).2).p, .int .i64 ((stTo v.core l ws k).2).n] ∧ ((A' = v.A ∧ (stTo v.core l ws k).1.lines = v.core.lines) ∨ OwnF w.heap.size 80 2 LineR.row wr A' (stTo v.core l ws k).1.lines) ∧ OwnF (w.heap.size + 2) 9 1 strRow wr A2 ws ∧ ∃ g, wr = plus w g) (fun _ _ i _ => ws.length - (intOf i).toNat)
  case atStart =>
    refine ⟨⟨#[]⟩, rfl, 0, v.A, v.c, _, _, Nat.zero_le _, rfl, rfl, HOut1.out, ?_, HB1.out, .inl ⟨rfl, rfl⟩, HO2.out, HG1.out⟩
    intro q hq a ha
    have := (hrow q hq).1
    injection ha with ha
    rw [← ha]
    simp only
    omega
  case round =>
    obtain ⟨y, rfl, k, A', c', Ao, co, hk, rfl, rfl, hOut, hne, hB, hO, hP, hg⟩ := hrel
    obtain ⟨D, L, hst⟩ : ∃ D L, stTo v.core l ws k = (D, L) := ⟨_, _, rfl⟩
    have hok := stTo_ok HC.out ws k
    rw [hst] at hB hO hok
    obtain ⟨q1, q2, q3⟩ := conOk_small hok
    simp only at hB hO q1 q2 q3
    have hS : Sl wr 2 LineR.row A' D.lines := by
      rcases hO with ⟨rfl, hl⟩ | hO
      · rw [hl]; exact HV.out.1.grew hg
      · exact hO.sl
    have HST := hid hst
    have HOut := hid hOut
    have HNE := hid hne
    have HB := hid hB
    have HS := hid hS
    have HP2 := hid hP
    have HG := hid hg
    have hgw := (below_of_grew hg).size
    clear hst hok hO hS hne hOut HB1 HOut1
    by_cases hlt : k < ws.length
    · obtain ⟨b, off, rfl, hb, hx⟩ := hP.sl.at_ hlt
      have y0 := tcell0 hx hlt
      obtain ⟨x, hxx⟩ : ∃ x, ws[k] = x := ⟨_, rfl⟩
      have hxs := hsz ws[k] (List.getElem_mem hlt)
      rw [hxx] at y0 hxs
      obtain ⟨D', L', r, hp⟩ : ∃ D' L' r, exeF D L x = (D', L', r) := ⟨_, _, _, rfl⟩
      have HX := hid hxx
      have HXP := hid hp
      have hbl := hB.lt
      (have hd0 := hB.cell 0; have hd1 := hB.cell 1; have hd2 := hB.cell 2; have hd3 := hB.cell 3; have hd4 := hB.cell 4; have hd5 := hB.cell 5; have hd6 := hB.cell 6; have hd7 := hB.cell 7; have hd8 := hB.cell 8; have hd9 := hB.cell 9; simp [go_sem] at hd0 hd1 hd2 hd3 hd4 hd5 hd6 hd7 hd8 hd9)
      (have fd0 := hB.frozen 0; have fd1 := hB.frozen 1; have fd2 := hB.frozen 2; have fd3 := hB.frozen 3; have fd4 := hB.frozen 4; have fd5 := hB.frozen 5; have fd6 := hB.frozen 6; have fd7 := hB.frozen 7; have fd8 := hB.frozen 8; have fd9 := hB.frozen 9)
      have hk0 : (0 : Int) ≤ (k : Int) := by omega
      have hk1 : (k : Int) < (ws.length : Int) := by omega
      clear hB hP hg hx hxx hp
      go_upto_region 9 with fail
      go_region_with (first | (go_at_call 9; refine (s_ExecuteCommand ⟨D, A', c'⟩ L x _ (HS.out.grew (by (repeat (first | with_reducible exact grew_refl _ | with_reducible assumption | with_reducible refine grew_split ?_ | with_reducible refine grew_mk ?_ | with_reducible refine grew_plus ?_ | with_reducible refine grew_alloc ?_ | with_reducible refine grew_drew ?_ | (with_reducible refine grew_set ?_ (by first | exact Nat.le_refl _ | omega | (simp [go_sem]; done) | (simp [go_sem]; omega))))))) (by simp only; omega) (by omega) (by omega) (by omega) (HE.out.grew (grew_two' HG.out (by (repeat (first | with_reducible exact grew_refl _ | with_reducible assumption | with_reducible refine grew_split ?_ | with_reducible refine grew_mk ?_ | with_reducible refine grew_plus ?_ | with_reducible refine grew_alloc ?_ | with_reducible refine grew_drew ?_ | (with_reducible refine grew_set ?_ (by first | exact Nat.le_refl _ | omega | (simp [go_sem]; done) | (simp [go_sem]; omega))))))))).mono ?_; rw [HXP.out]; rintro e w6 ⟨⟨A3, c3, rfl, hO3⟩, hg6⟩; have hR6 := blk_grew (blk_drew HB.out) hg6; have hrl6 := hR6.lt; clear hd0 hd1 hd2 hd3 hd4 hd5 hd6 hd7 hd8 hd9 fd0 fd1 fd2 fd3 fd4 fd5 fd6 fd7 fd8 fd9; (have he0 := hR6.cell 0; have he1 := hR6.cell 1; have he2 := hR6.cell 2; have he3 := hR6.cell 3; have he4 := hR6.cell 4; have he5 := hR6.cell 5; have he6 := hR6.cell 6; have he7 := hR6.cell 7; have he8 := hR6.cell 8; have he9 := hR6.cell 9; simp [go_sem] at he0 he1 he2 he3 he4 he5 he6 he7 he8 he9); (have fe0 := hR6.frozen 0; have fe1 := hR6.frozen 1; have fe2 := hR6.frozen 2; have fe3 := hR6.frozen 3; have fe4 := hR6.frozen 4; have fe5 := hR6.frozen 5; have fe6 := hR6.frozen 6; have fe7 := hR6.frozen 7; have fe8 := hR6.frozen 8; have fe9 := hR6.frozen 9); have HR6 := hid hR6; have HG6 := hid hg6; have HO3 := hid hO3; clear hg6 hR6 hO3) | fail)
      all_goals
        have hgr6 : ∃ g, w6 = plus wr g := grew_two' (grew_drew (grew_refl _)) HG6.out
        have hgw6 : ∃ g, w6 = plus w g := grew_two' HG.out hgr6
        have HD6 := hid (OwnF.less (B' := w.heap.size) HO3.out (by first | (simp [go_sem]; done) | (simp [go_sem]; omega)))
        have HL6 := hid (HOut.out.grew hgr6)
        have HP6 := hid (HP2.out.grew hgr6)
        have HGW6 := hid hgw6
        clear hgr6 hgw6
        go_upto_region 10 with fail
        refine opq_wp (fun W9 => Blk W9 w.heap.size 30 #[.int .i64 (D').minute, .int .i64 (D').state, .slice A3 (D').lines.length c3, .int .i64 (D').line, .int .i64 (D').since, .int .i64 (D').cast, .int .i64 (D').fuel, .string (L').d, .string (L').p, .int .i64 (L').n] ∧ OwnF w.heap.size 80 2 LineR.row W9 A3 D'.lines ∧ Own (w.heap.size + 1) 9 1 strRow W9 Ao co (repTo v.core l ws k) ∧ OwnF (w.heap.size + 2) 9 1 strRow W9 (some ⟨b, off, none⟩) ws ∧ ∃ g, W9 = plus w g) ⟨?_, ?_, ?_, ?_, ?_⟩ ?_
        · have h := ((((((((((HR6.out.set_ 0 (.int .i64 D'.minute)).set_ 1 (.int .i64 D'.state)).set_ 2 (.slice A3 D'.lines.length c3)).set_ 3 (.int .i64 D'.line)).set_ 4 (.int .i64 D'.since)).set_ 5 (.int .i64 D'.cast)).set_ 6 (.int .i64 D'.fuel)).set_ 7 (.string L'.d)).set_ 8 (.string L'.p)).set_ 9 (.int .i64 L'.n))
          simp only [List.setIfInBounds_toArray, List.set_cons_zero, List.set_cons_succ] at h
          exact h
        · exact OwnF.apart HD6.out HR6.out (by decide) (by (repeat (first | with_reducible exact grown_refl _ _ | with_reducible assumption | with_reducible refine gb_plus ?_ | with_reducible refine gb_alloc ?_ | with_reducible refine gb_drew ?_ | with_reducible refine grown_set ?_)))
        · have hf : ∀ a, Ao = some a → a.block ≠ w.heap.size := fun a ha => by have := (HOut.out.ne a ha).1; omega
          exact (((((((((HL6.out.setFar hf).setFar hf).setFar hf).setFar hf).setFar hf).setFar hf).setFar hf).setFar hf).setFar hf).setFar hf
        · exact OwnF.apart HP6.out HR6.out (by decide) (by (repeat (first | with_reducible exact grown_refl _ _ | with_reducible assumption | with_reducible refine gb_plus ?_ | with_reducible refine gb_alloc ?_ | with_reducible refine gb_drew ?_ | with_reducible refine grown_set ?_)))
        · have hgw6 := HGW6.out
          (repeat (first | with_reducible exact grew_refl _ | with_reducible assumption | with_reducible refine grew_split ?_ | with_reducible refine grew_mk ?_ | with_reducible refine grew_plus ?_ | with_reducible refine grew_alloc ?_ | with_reducible refine grew_drew ?_ | (with_reducible refine grew_set ?_ (by first | exact Nat.le_refl _ | omega | (simp [go_sem]; done) | (simp [go_sem]; omega)))))
        clear hrl6 he0 he1 he2 he3 he4 he5 he6 he7 he8 he9 fe0 fe1 fe2 fe3 fe4 fe5 fe6 fe7 fe8 fe9 y0
        have HR1 : Hid (repTo v.core l ws (k + 1) = repTo v.core l ws k ++ [r]) := hid (by rw [repTo_succ, repAt_eq hlt, HST.out, HX.out, HXP.out])
        have HST2 : Hid (stTo v.core l ws (k + 1) = (D', L')) := hid (by rw [stTo_step hlt, HST.out, HX.out, HXP.out])
        have HRL := hid (repTo_len v.core l ws k)
        have hk30 : k ≤ 30 := by omega
        rintro W9 ⟨hB9, hD9, hL9, hP9, hg9⟩
        have HB9 := hid hB9
        have HD9 := hid hD9
        have HL9 := hid hL9
        have HP9 := hid hP9
        have HG9 := hid hg9
        have hw9 := (below_of_grew hg9).size
        have hb9 := hB9.lt
        clear hB9 hD9 hL9 hP9 hg9
        go_wp2_with (at_builtin; refine wpList_appB (B := w.heap.size + 1) rfl _ _ _ rfl 9 1 16 _ Tryz.underlying41 str_info rfl (by omega) (by omega) Ao co (repTo v.core l ws k) k HRL.out.symm rfl (HL9.out.grew (by (repeat (first | with_reducible exact grew_refl _ | with_reducible assumption | with_reducible refine grew_split ?_ | with_reducible refine grew_mk ?_ | with_reducible refine grew_plus ?_ | with_reducible refine grew_alloc ?_ | with_reducible refine grew_drew ?_ | (with_reducible refine grew_set ?_ (by first | exact Nat.le_refl _ | omega | (simp [go_sem]; done) | (simp [go_sem]; omega))))))) ?_ ?_ _ r _ rfl rfl ?_ ?_ ?_; (· (first | (simp [go_sem]; done) | (simp [go_sem]; omega) | omega)); (· (rw [HRL.out]; omega)); (· (intro j u hj; match j, hj with | 0, hj => (simp [strRow] at hj; subst hj; simp [Addr.add, go_sem]))); (· simp [strRow, Value.oneCell']); intro A5 c5 w5 hO5 hg5 hat5; have HO5 := hid hO5; have HG5 := hid hg5; have HA5 := hid hat5; clear hO5 hg5 hat5)
        go_roundw
        case measure => simp [intOf]; omega
        case rel =>
          have hrow2 : ∀ q, rowOf (some ⟨b, off, none⟩) ws = some q → q = b := fun q hq => by
            cases ws with
            | nil => simp at hlt
            | cons x0 t0 => simp [rowOf] at hq; exact hq.symm
          have hbw : b < W9.heap.size := by
            have h := HP9.out.row b (by cases ws with
              | nil => simp at hlt
              | cons x0 t0 => rfl)
            exact h.2
          have hown : ∀ q, (Value.slice Ao k co).ownBlock = some q → q ≠ b ∧ w.heap.size + 1 ≤ q := fun q hq => by
            obtain ⟨ad, h1, h2⟩ := own_some hq
            refine ⟨fun e => HNE.out b (by cases ws with
              | nil => simp at hlt
              | cons x0 t0 => rfl) ad h1 (by rw [h2, e]), ?_⟩
            have := (HL9.out.ne ad h1).1
            omega
          refine ⟨r, rfl, k + 1, A3, c3, A5, c5, by omega, by go_num, rfl, by rw [HR1.out]; exact HO5.out, ?_, ?_, ?_, ?_, ?_⟩
          · intro q hq a ha
            rw [hrow2 q hq]
            rcases HA5.out a ha with ⟨a0, h0, h1⟩ | h
            · rw [← h1]
              exact HNE.out b (by cases ws with
                | nil => simp at hlt
                | cons x0 t0 => rfl) a0 h0
            · rw [h]
              simp [go_sem]
              omega
          · rw [HST2.out]
            exact (HB9.out.alloc _).grown HG5.out (fun e => by have := (hown _ e.symm).2; omega)
          · rw [HST2.out]
            exact .inr (OwnF.keptO (HD9.out.grew (grew_alloc (grew_refl _))) (HL9.out.grew (grew_alloc (grew_refl _))) (by decide) HG5.out)
          · exact OwnF.keptNe (HP9.out.grew (grew_alloc (grew_refl _))) HG5.out (fun q hq h => (hown q hq).1 (hrow2 q h))
          · have hg := HG9.out
            exact grew_own (w0 := w) (by (repeat (first | with_reducible exact grew_refl _ | with_reducible assumption | with_reducible refine grew_split ?_ | with_reducible refine grew_mk ?_ | with_reducible refine grew_plus ?_ | with_reducible refine grew_alloc ?_ | with_reducible refine grew_drew ?_ | (with_reducible refine grew_set ?_ (by first | exact Nat.le_refl _ | omega | (simp [go_sem]; done) | (simp [go_sem]; omega)))))) HG5.out (fun a ha => by have := (HL9.out.ne a ha).1; omega)
    · obtain rfl : k = ws.length := by omega
      go_wp2_with fail
      refine bodyPost_ret (v := .tuple #[.slice Ao ws.length co, .bool true]) (by simp [results, Tryz.results16, go_sem, *]) rfl ?_
      have hg := HG.out
      refine ⟨⟨Ao, co, by rw [HF.out, repTo_len], ?_⟩, by (repeat (first | with_reducible exact grew_refl _ | with_reducible assumption | with_reducible refine grew_split ?_ | with_reducible refine grew_mk ?_ | with_reducible refine grew_plus ?_ | with_reducible refine grew_alloc ?_ | with_reducible refine grew_drew ?_ | (with_reducible refine grew_set ?_ (by first | exact Nat.le_refl _ | omega | (simp [go_sem]; done) | (simp [go_sem]; omega)))))⟩
      rw [HF.out]
      exact (HOut.out.f (fun _ => rfl)).less (by omega)
end Go.Proofs.YtecghfcgahgfiaaGreatDoor
