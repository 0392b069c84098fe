import Derived.Test.YtecghfcgahgfiaaGreatDoorP30
import Derived.Test.YtecghfcgahgfiaaGreatDoorP27
import Derived.Test.YtecghfcgahgfiaaGreatDoorP28
import Derived.Deep.RegionHeld3
import Derived.Deep.DrawnRows
import Derived.Deep.RegionWith
/- ReplayLog, in the reference. -/
namespace Go.Proofs.YtecghfcgahgfiaaGreatDoor
open Go.RowKit

attribute [local go_sem ↓] Go.wp_at_zero Go.wp_at_succ
set_option maxHeartbeats 8000000 in
theorem s_ReplayLog (ms : List Int) (A : Option Addr) (c : Nat) (fuel : Int) (l : LogR) (w : World) (hA : Sl w 1 intRow A ms) (hl : ms.length ≤ 1048576) (h1 : l.d.size ≤ 2097152) (h2 : l.p.size ≤ 2097152) (hE : Env w) :
    Calls Tryz.prog 22 #[.slice A ms.length c, .int .i64 fuel, l.val] w fun e w' => e = .returned (.tuple #[.int .i64 (replF ms fuel l).1, .bool (replF ms fuel l).2]) ∧ ∃ g, w' = plus w g := by
  have HA := hid hA
  have HE := hid hE
  clear hA hE
  cases hn : (newC ms fuel).ok
  · have HF : Hid (replF ms fuel l = (0, false)) := hid (by simp [replF, hn])
    have HN := hid hn
    clear hn
    go_enter Tryz.func22, Tryz.ntmps22
    go_wp2_with fail
    refine (s_NewConsole ms A c fuel _ (HA.out.grew (by (repeat (first | with_reducible exact grew_refl _ | with_reducible assumption | with_reducible refine grew_split ?_ | with_reducible refine grew_mk ?_ | with_reducible refine grew_plus ?_ | with_reducible refine grew_alloc ?_ | with_reducible refine grew_drew ?_ | (with_reducible refine grew_set ?_ (by first | exact Nat.le_refl _ | omega | (simp [go_sem]; done) | (simp [go_sem]; omega))))))) hl).mono ?_
    rw [HN.out]
    rintro e w' ⟨⟨A1, c1, rfl, -⟩, g1, rfl⟩
    go_wp2_with fail
    refine bodyPost_ret (v := .tuple #[.int .i64 0, .bool false]) (by simp [results, Tryz.results22, go_sem, *]) rfl ?_
    exact ⟨by rw [HF.out], by (repeat (first | with_reducible exact grew_refl _ | with_reducible assumption | with_reducible refine grew_split ?_ | with_reducible refine grew_mk ?_ | with_reducible refine grew_plus ?_ | with_reducible refine grew_alloc ?_ | with_reducible refine grew_drew ?_ | (with_reducible refine grew_set ?_ (by first | exact Nat.le_refl _ | omega | (simp [go_sem]; done) | (simp [go_sem]; omega)))))⟩
  cases ho : l.ok
  · have HF : Hid (replF ms fuel l = (0, false)) := hid (by simp [replF, ho])
    have HN := hid hn
    have HO := hid ho
    clear hn ho
    go_enter Tryz.func22, Tryz.ntmps22
    go_wp2_with fail
    refine (s_NewConsole ms A c fuel _ (HA.out.grew (by (repeat (first | with_reducible exact grew_refl _ | with_reducible assumption | with_reducible refine grew_split ?_ | with_reducible refine grew_mk ?_ | with_reducible refine grew_plus ?_ | with_reducible refine grew_alloc ?_ | with_reducible refine grew_drew ?_ | (with_reducible refine grew_set ?_ (by first | exact Nat.le_refl _ | omega | (simp [go_sem]; done) | (simp [go_sem]; omega))))))) hl).mono ?_
    rw [HN.out]
    rintro e w' ⟨⟨A1, c1, rfl, -⟩, g1, rfl⟩
    go_wp2_with fail
    refine (s_l27Log l _ HO.out _ h1 h2).mono ?_
    (rintro e w' ⟨rfl, gx, rfl⟩)
    go_wp2_with fail
    refine bodyPost_ret (v := .tuple #[.int .i64 0, .bool false]) (by simp [results, Tryz.results22, go_sem, *]) rfl ?_
    exact ⟨by rw [HF.out], by (repeat (first | with_reducible exact grew_refl _ | with_reducible assumption | with_reducible refine grew_split ?_ | with_reducible refine grew_mk ?_ | with_reducible refine grew_plus ?_ | with_reducible refine grew_alloc ?_ | with_reducible refine grew_drew ?_ | (with_reducible refine grew_set ?_ (by first | exact Nat.le_refl _ | omega | (simp [go_sem]; done) | (simp [go_sem]; omega)))))⟩
  obtain ⟨R, hR⟩ : ∃ R, lrF l = R := ⟨_, rfl⟩
  obtain ⟨N, hNN⟩ : ∃ N, newF ms fuel = N := ⟨_, rfl⟩
  obtain ⟨T, hT⟩ : ∃ T, stopAt N zLog R R.length 0 = T := ⟨_, rfl⟩
  have HF : Hid (replF ms fuel l = ((T : Int), true)) := hid (by simp [replF, hn, ho, hR, hNN, hT])
  have hok := new_conOk hn
  rw [hNN] at hok
  have hrok := lrF_ok l
  rw [hR] at hrok
  have HK := hid hok
  have HRK := hid hrok
  have HN := hid hn
  have HO := hid ho
  have HR := hid hR
  have HNN := hid hNN
  have HT := hid hT
  clear hn ho hR hNN hT hok hrok
  go_enter Tryz.func22, Tryz.ntmps22
  go_wp2_with fail
  refine (s_NewConsole ms A c fuel _ (HA.out.grew (by (repeat (first | with_reducible exact grew_refl _ | with_reducible assumption | with_reducible refine grew_split ?_ | with_reducible refine grew_mk ?_ | with_reducible refine grew_plus ?_ | with_reducible refine grew_alloc ?_ | with_reducible refine grew_drew ?_ | (with_reducible refine grew_set ?_ (by first | exact Nat.le_refl _ | omega | (simp [go_sem]; done) | (simp [go_sem]; omega))))))) hl).mono ?_
  rw [HN.out, HNN.out]
  rintro e w' ⟨⟨A1, c1, rfl, hO1⟩, g1, rfl⟩
  have HO1 := hid hO1
  clear hO1
  go_wp2_with fail
  refine (s_l27Log l _ HO.out _ h1 h2).mono ?_
  (rintro e w' ⟨rfl, gx, rfl⟩)
  go_wp2_with fail
  refine (s_LogRecords l _ h1 h2 (HE.out.grew (by (repeat (first | with_reducible exact grew_refl _ | with_reducible assumption | with_reducible refine grew_split ?_ | with_reducible refine grew_mk ?_ | with_reducible refine grew_plus ?_ | with_reducible refine grew_alloc ?_ | with_reducible refine grew_drew ?_ | (with_reducible refine grew_set ?_ (by first | exact Nat.le_refl _ | omega | (simp [go_sem]; done) | (simp [go_sem]; omega)))))))).mono ?_
  rw [HO.out, HR.out]
  rintro e w' ⟨⟨A2, c2, rfl, hO2⟩, g2, rfl⟩
  (try rw [plus_plus] at hO2)
  have HO2 := hid hO2
  clear hO2
  go_upto_region 5 with fail
  generalize hb8 : w.heap.size + 1 + g1.objs.size = b8
  refine opq_wp (fun wr => Blk wr b8 30 #[.int .i64 (N).minute, .int .i64 (N).state, .slice A1 (N).lines.length c1, .int .i64 (N).line, .int .i64 (N).since, .int .i64 (N).cast, .int .i64 (N).fuel, .string (zLog).d, .string (zLog).p, .int .i64 (zLog).n] ∧ OwnF w.heap.size 80 2 LineR.row wr A1 N.lines ∧ OwnF w.heap.size 40 2 RecR.row wr A2 R ∧ ∃ g, wr = plus w g) ⟨Blk.plus (blk_new (by subst hb8; simp [go_sem])) _, OwnF.less (OwnF.grew HO1.out (by (repeat (first | with_reducible exact grew_refl _ | with_reducible assumption | with_reducible refine grew_split ?_ | with_reducible refine grew_mk ?_ | with_reducible refine grew_plus ?_ | with_reducible refine grew_alloc ?_ | with_reducible refine grew_drew ?_ | (with_reducible refine grew_set ?_ (by first | exact Nat.le_refl _ | omega | (simp [go_sem]; done) | (simp [go_sem]; omega))))))) (by simp [go_sem]), OwnF.less (OwnF.grew HO2.out (by (repeat (first | with_reducible exact grew_refl _ | with_reducible assumption | with_reducible refine grew_split ?_ | with_reducible refine grew_mk ?_ | with_reducible refine grew_plus ?_ | with_reducible refine grew_alloc ?_ | with_reducible refine grew_drew ?_ | (with_reducible refine grew_set ?_ (by first | exact Nat.le_refl _ | omega | (simp [go_sem]; done) | (simp [go_sem]; omega))))))) (by first | (simp [go_sem]; done) | (simp [go_sem]; omega)), by (repeat (first | with_reducible exact grew_refl _ | with_reducible assumption | with_reducible refine grew_split ?_ | with_reducible refine grew_mk ?_ | with_reducible refine grew_plus ?_ | with_reducible refine grew_alloc ?_ | with_reducible refine grew_drew ?_ | (with_reducible refine grew_set ?_ (by first | exact Nat.le_refl _ | omega | (simp [go_sem]; done) | (simp [go_sem]; omega)))))⟩ ?_
  have hb8w : w.heap.size ≤ b8 := by omega
  clear hb8 HO1 HO2
  rintro W1 ⟨hB, hO1, hO2, hg1⟩
  have HB1 := hid hB
  have HO1 := hid hO1
  have HO2 := hid hO2
  have HG1 := hid hg1
  clear hB hO1 hO2 hg1
  have hRl : R.length ≤ 60 := by rw [← HR.out]; exact lrF_len l
  obtain ⟨cs, hcs⟩ : ∃ cs, R.map (·.c) = cs := ⟨_, rfl⟩
  have hcl : cs.length ≤ R.length := by rw [← hcs]; simp
  have hcl' : R.length ≤ cs.length := by rw [← hcs]; simp
  have HCS := hid hcs
  clear hcs
  go_wp2_with fail
  go_loopw [12, 13] (fun rp i wr => ∃ (y : ByteArray), rp = .string y ∧ ∃ (k : Nat) (A' : Option Addr) (c' : Nat), k ≤ R.length ∧ i = .int .i64 k ∧ stopAt N zLog R (R.length - k) k = T ∧ Blk wr b8 30 #[.int .i64 ((stTo N zLog cs k).1).minute, .int .i64 ((stTo N zLog cs k).1).state, .slice A' ((stTo N zLog cs k).1).lines.length c', .int .i64 ((stTo N zLog cs k).1).line, .int .i64 ((stTo N zLog cs k).1).since, .int .i64 ((stTo N zLog cs k).1).cast, .int .i64 ((stTo N zLog cs k).1).fuel, .string ((stTo N zLog cs k).2).d, .string ((stTo N zLog cs k).2).p, .int .i64 ((stTo N zLog cs k).2).n] ∧ OwnF w.heap.size 80 2 LineR.row wr A' (stTo N zLog cs k).1.lines ∧ OwnF w.heap.size 40 2 RecR.row wr A2 R ∧ ∃ g, wr = plus w g) (fun _ i _ => R.length - (intOf i).toNat)
  case atStart => exact ⟨⟨#[]⟩, rfl, 0, A1, c1, Nat.zero_le _, rfl, HT.out, HB1.out, HO1.out, HO2.out, HG1.out⟩
  case round =>
    obtain ⟨y, rfl, k, A', c', hk, rfl, ht, hB, hO, hL, hg⟩ := hrel
    obtain ⟨D, L, hst⟩ : ∃ D L, stTo N zLog cs k = (D, L) := ⟨_, _, rfl⟩
    have hok := stTo_ok HK.out cs k
    rw [hst] at hB hO hok
    obtain ⟨q1, q2, q3⟩ := conOk_small hok
    simp only at hB hO
    have HST := hid hst
    have HTT := hid ht
    have HB := hid hB
    have HO := hid hO
    have HL := hid hL
    have HG := hid hg
    clear hst ht hok HB1 HO1 HO2 HG1
    by_cases hlt : k < R.length
    · obtain ⟨b, off, rfl, hb, hx⟩ := hL.sl.at_ hlt
      obtain ⟨y0, y1⟩ := rcells hx hlt
      obtain ⟨x, hxx⟩ : ∃ x, R[k] = x := ⟨_, rfl⟩
      rw [hxx] at y0 y1
      have hxs := rec_sizes (HRK.out R[k] (List.getElem_mem hlt))
      rw [hxx] at hxs
      have hcx : cs[k]'(by omega) = x.c := by rw [← hxx]; simp [← HCS.out]
      obtain ⟨D', L', r, hp⟩ : ∃ D' L' r, exeF D L x.c = (D', L', r) := ⟨_, _, _, rfl⟩
      have HX := hid hxx
      have HP := hid hp
      have HCX := hid hcx
      have hbl := hB.lt
      (have hd0 := hB.cell 0; have hd1 := hB.cell 1; have hd2 := hB.cell 2; have hd3 := hB.cell 3; have hd4 := hB.cell 4; have hd5 := hB.cell 5; have hd6 := hB.cell 6; have hd7 := hB.cell 7; have hd8 := hB.cell 8; have hd9 := hB.cell 9; simp [go_sem] at hd0 hd1 hd2 hd3 hd4 hd5 hd6 hd7 hd8 hd9)
      (have fd0 := hB.frozen 0; have fd1 := hB.frozen 1; have fd2 := hB.frozen 2; have fd3 := hB.frozen 3; have fd4 := hB.frozen 4; have fd5 := hB.frozen 5; have fd6 := hB.frozen 6; have fd7 := hB.frozen 7; have fd8 := hB.frozen 8; have fd9 := hB.frozen 9)
      have hk0 : (0 : Int) ≤ (k : Int) := by omega
      have hk1 : (k : Int) < (R.length : Int) := by omega
      have hgw := (below_of_grew hg).size
      simp only at q1 q2 q3
      clear hB hO hL hg hx hxx hp hcx
      go_upto_region 9 with fail
      go_region_with (first | (go_at_call 9; refine (s_ExecuteCommand ⟨D, A', c'⟩ L x.c _ (HO.out.sl.grew (by (repeat (first | with_reducible exact grew_refl _ | with_reducible assumption | with_reducible refine grew_split ?_ | with_reducible refine grew_mk ?_ | with_reducible refine grew_plus ?_ | with_reducible refine grew_alloc ?_ | with_reducible refine grew_drew ?_ | (with_reducible refine grew_set ?_ (by first | exact Nat.le_refl _ | omega | (simp [go_sem]; done) | (simp [go_sem]; omega))))))) (by simp only; omega) (by omega) (by omega) (by omega) (HE.out.grew (grew_two' HG.out (by (repeat (first | with_reducible exact grew_refl _ | with_reducible assumption | with_reducible refine grew_split ?_ | with_reducible refine grew_mk ?_ | with_reducible refine grew_plus ?_ | with_reducible refine grew_alloc ?_ | with_reducible refine grew_drew ?_ | (with_reducible refine grew_set ?_ (by first | exact Nat.le_refl _ | omega | (simp [go_sem]; done) | (simp [go_sem]; omega))))))))).mono ?_; rw [HP.out]; rintro e w6 ⟨⟨A3, c3, rfl, hO3⟩, hg6⟩; have hR6 := blk_grew (blk_drew HB.out) hg6; have hrl6 := hR6.lt; clear hd0 hd1 hd2 hd3 hd4 hd5 hd6 hd7 hd8 hd9 fd0 fd1 fd2 fd3 fd4 fd5 fd6 fd7 fd8 fd9; (have he0 := hR6.cell 0; have he1 := hR6.cell 1; have he2 := hR6.cell 2; have he3 := hR6.cell 3; have he4 := hR6.cell 4; have he5 := hR6.cell 5; have he6 := hR6.cell 6; have he7 := hR6.cell 7; have he8 := hR6.cell 8; have he9 := hR6.cell 9; simp [go_sem] at he0 he1 he2 he3 he4 he5 he6 he7 he8 he9); (have fe0 := hR6.frozen 0; have fe1 := hR6.frozen 1; have fe2 := hR6.frozen 2; have fe3 := hR6.frozen 3; have fe4 := hR6.frozen 4; have fe5 := hR6.frozen 5; have fe6 := hR6.frozen 6; have fe7 := hR6.frozen 7; have fe8 := hR6.frozen 8; have fe9 := hR6.frozen 9); have HR6 := hid hR6; have HG6 := hid hg6; have HO3 := hid hO3; clear hg6 hR6 hO3) | fail)
      all_goals
        have HR1 : Hid (repAt N zLog cs k = r) := hid (by rw [repAt_eq (by omega), HST.out, HCX.out, HP.out])
        have hgr6 : ∃ g, w6 = plus wr g := grew_two' (grew_drew (grew_refl _)) HG6.out
        have hgw6 : ∃ g, w6 = plus w g := grew_two' HG.out hgr6
        have hD6 := OwnF.less (B' := w.heap.size) HO3.out (by first | (simp [go_sem]; done) | (simp [go_sem]; omega))
        have hL6 := OwnF.grew HL.out hgr6
        have HD6 := hid hD6
        have HL6 := hid hL6
        have HGW6 := hid hgw6
        clear hgr6 hgw6 hD6 hL6
        go_upto_region 10 with fail
        refine opq_wp (fun W9 => Blk W9 b8 30 #[.int .i64 (D').minute, .int .i64 (D').state, .slice A3 (D').lines.length c3, .int .i64 (D').line, .int .i64 (D').since, .int .i64 (D').cast, .int .i64 (D').fuel, .string (L').d, .string (L').p, .int .i64 (L').n] ∧ OwnF w.heap.size 80 2 LineR.row W9 A3 D'.lines ∧ OwnF w.heap.size 40 2 RecR.row W9 (some ⟨b, off, none⟩) R ∧ ∃ g, W9 = plus w g) ⟨?_, ?_, ?_, ?_⟩ ?_
        · have h := ((((((((((HR6.out.set_ 0 (.int .i64 D'.minute)).set_ 1 (.int .i64 D'.state)).set_ 2 (.slice A3 D'.lines.length c3)).set_ 3 (.int .i64 D'.line)).set_ 4 (.int .i64 D'.since)).set_ 5 (.int .i64 D'.cast)).set_ 6 (.int .i64 D'.fuel)).set_ 7 (.string L'.d)).set_ 8 (.string L'.p)).set_ 9 (.int .i64 L'.n))
          simp only [List.setIfInBounds_toArray, List.set_cons_zero, List.set_cons_succ] at h
          exact h
        · exact OwnF.apart HD6.out HR6.out (by decide) (by (repeat (first | with_reducible exact grown_refl _ _ | with_reducible assumption | with_reducible refine gb_plus ?_ | with_reducible refine gb_alloc ?_ | with_reducible refine gb_drew ?_ | with_reducible refine grown_set ?_)))
        · exact OwnF.apart HL6.out HR6.out (by decide) (by (repeat (first | with_reducible exact grown_refl _ _ | with_reducible assumption | with_reducible refine gb_plus ?_ | with_reducible refine gb_alloc ?_ | with_reducible refine gb_drew ?_ | with_reducible refine grown_set ?_)))
        · have hgw6 := HGW6.out
          (repeat (first | with_reducible exact grew_refl _ | with_reducible assumption | with_reducible refine grew_split ?_ | with_reducible refine grew_mk ?_ | with_reducible refine grew_plus ?_ | with_reducible refine grew_alloc ?_ | with_reducible refine grew_drew ?_ | (with_reducible refine grew_set ?_ (by first | exact Nat.le_refl _ | omega | (simp [go_sem]; done) | (simp [go_sem]; omega)))))
        clear hrl6 he0 he1 he2 he3 he4 he5 he6 he7 he8 he9 fe0 fe1 fe2 fe3 fe4 fe5 fe6 fe7 fe8 fe9 y0 y1
        rintro W9 ⟨hB9, hD9, hL9, hG9⟩
        obtain ⟨b9, off9, h9, hb9, hx9⟩ := hL9.sl.at_ hlt
        cases h9
        obtain ⟨z0, z1⟩ := rcells hx9 hlt
        rw [HX.out] at z0 z1
        have HB9 := hid hB9
        have HD9 := hid hD9
        have HL9 := hid hL9
        have HG9 := hid hG9
        clear hB9 hD9 hL9 hG9 hx9
        by_cases he : r.toList = x.r.toList
        · have e1 : (r.toList == x.r.toList) = true := by simp [he]
          have HT2 : Hid (stopAt N zLog R (R.length - (k + 1)) (k + 1) = T) := hid (by
            rw [← stop_eq hlt (by rw [HCS.out, HR1.out, HX.out]; exact he)]
            exact HTT.out)
          have HST2 : Hid (stTo N zLog cs (k + 1) = (D', L')) := hid (by rw [stTo_step (by omega), HST.out, HCX.out, HP.out])
          clear he
          go_wp2_with fail
          go_roundw
          case rel =>
            refine ⟨r, rfl, k + 1, A3, c3, by omega, by go_num, HT2.out, ?_⟩
            rw [HST2.out]
            exact ⟨HB9.out, HD9.out, HL9.out, HG9.out⟩
          case measure => simp [intOf]; omega
        · have e1 : (r.toList == x.r.toList) = false := by simp [he]
          have HTK : Hid (T = k) := hid (by
            rw [← HTT.out]
            exact stop_ne hlt (by rw [HCS.out, HR1.out, HX.out]; exact he))
          clear he
          go_wp2_with fail
          refine bodyPost_ret (v := .tuple #[.int .i64 k, .bool true]) (by simp [results, Tryz.results22, go_sem, *]) rfl ?_
          exact ⟨by rw [HF.out, HTK.out], HG9.out⟩
    · obtain rfl : k = R.length := by omega
      have HTK : Hid (T = R.length) := hid (by have h := HTT.out; rw [Nat.sub_self] at h; exact h.symm)
      go_wp2_with fail
      refine bodyPost_ret (v := .tuple #[.int .i64 R.length, .bool true]) (by simp [results, Tryz.results22, go_sem, *]) rfl ?_
      have hg := HG.out
      exact ⟨by rw [HF.out, HTK.out], by (repeat (first | with_reducible exact grew_refl _ | with_reducible assumption | with_reducible refine grew_split ?_ | with_reducible refine grew_mk ?_ | with_reducible refine grew_plus ?_ | with_reducible refine grew_alloc ?_ | with_reducible refine grew_drew ?_ | (with_reducible refine grew_set ?_ (by first | exact Nat.le_refl _ | omega | (simp [go_sem]; done) | (simp [go_sem]; omega)))))⟩
end Go.Proofs.YtecghfcgahgfiaaGreatDoor
