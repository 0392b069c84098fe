import Derived.Test.YtecghfcgahgfiaaGreatDoorP41
import Derived.Test.YtecghfcgahgfiaaGreatDoorP28
import Derived.Test.YtecghfcgahgfiaaGreatDoorP39
/- The reference's draw for the law on replays: minutes, fuel and a log. -/
namespace Go.Proofs.YtecghfcgahgfiaaGreatDoor
open Go.RowKit

attribute [local go_sem ↓] Go.wp_at_zero Go.wp_at_succ
/-- What is known while the log is drawn. -/
def RpR (w : World) (A : Option Addr) (c : Nat) (bs : List Int) (M : Int) (b : Nat) (B : Option Addr) (ms : List Int) (wx : World) : Prop :=
  ∃ (v : DayV) (l : LogR), Blk wx b 30 #[.int .i64 (v.core).minute, .int .i64 (v.core).state, .slice v.A (v.core).lines.length v.c, .int .i64 (v.core).line, .int .i64 (v.core).since, .int .i64 (v.core).cast, .int .i64 (v.core).fuel, .string (l).d, .string (l).p, .int .i64 (l).n] ∧ conOk v.core l = true ∧ OwnF (w.heap.size + 2) 80 2 LineR.row wx v.A v.core.lines ∧ OwnF (w.heap.size + 2) 3 1 intRow wx B ms ∧ CurU w wx (w.heap.size + 1) A c bs M ∧ Blk wx w.heap.size 28 #[.string ByteArray.empty, .string ByteArray.empty, .int .i64 0]
set_option maxHeartbeats 3000000 in
set_option maxRecDepth 100000 in
theorem s_DrawReplayLog (A : Option Addr) (c : Nat) (bs : List Int) (w : World) (hA : Code0 w A bs) (hE : Env w) :
    Calls Tryz.prog 20 #[.slice A bs.length c] w fun e w' => (∃ (B : Option Addr) (d : Nat) (ms : List Int) (fu : Int) (l : LogR), e = .returned (.tuple #[.slice B ms.length d, .int .i64 fu, l.val]) ∧ ms.length ≤ 16 ∧ Sl w' 1 intRow B ms ∧ l.d.size ≤ 30000 ∧ l.p.size ≤ 30000) ∧ ∃ g, w' = plus w g := by
  have HA := hid hA
  have HE := hid hE
  clear hA hE
  go_enter Tryz.func20, Tryz.ntmps20
  go_wp2_with fail
  refine (s_minutes25 w (w.heap.size + 1) A c bs 0 _ HA.out (cur_newK w _ A c bs _ (by (repeat (first | with_reducible exact grew_refl _ | with_reducible assumption | with_reducible refine grew_split ?_ | with_reducible refine grew_mk ?_ | with_reducible refine grew_plus ?_ | with_reducible refine grew_alloc ?_ | with_reducible refine grew_drew ?_ | (with_reducible refine grew_set ?_ (by first | exact Nat.le_refl _ | omega | (simp [go_sem]; done) | (simp [go_sem]; omega)))))) (by simp)) (by omega)).mono ?_
  rintro e w1 ⟨⟨B, d, ms, rfl, hS1, hml⟩, hC1, hG1⟩
  have HS1 := hid (hS1.less (B' := w.heap.size + 2) (by simp))
  have HC1 := hid hC1
  have HR1 := hid (((blk_new (w := w) (b := w.heap.size) (t := 28) (cs := #[.string ByteArray.empty, .string ByteArray.empty, .int .i64 0]) rfl).alloc _).grown hG1 (fun e => by injection e with e; omega))
  clear hC1 hG1 hS1
  go_wp2_with fail
  refine (s_amongL w (w.heap.size + 1) A c bs _ [100, 400, 9999, 10000] _ rfl _ _ _ (by simp) HA.out HC1.out (by omega) (by decide) (by decide)).mono ?_
  rintro e w2 ⟨⟨fu, rfl, -⟩, hC2, hG2⟩
  have HC2 := hid hC2
  have HS2 := hid (HS1.out.kept hG2 (fun k hk => by injection hk with hk; omega))
  have HR2 := hid (HR1.out.grown hG2 (fun e => by injection e with e; omega))
  have hz2 : w.heap.size + 2 ≤ w2.heap.size := by have h := hC2.lt; omega
  clear hC2 hG2 HS1 HC1 HR1
  go_wp2_with fail
  refine (s_NewConsole ms B d fu _ (HS2.out.sl.grew (by (repeat (first | with_reducible exact grew_refl _ | with_reducible assumption | with_reducible refine grew_split ?_ | with_reducible refine grew_mk ?_ | with_reducible refine grew_plus ?_ | with_reducible refine grew_alloc ?_ | with_reducible refine grew_drew ?_ | (with_reducible refine grew_set ?_ (by first | exact Nat.le_refl _ | omega | (simp [go_sem]; done) | (simp [go_sem]; omega))))))) (by omega)).mono ?_
  rintro e w' ⟨⟨A1, c1, rfl, hO3⟩, g3, rfl⟩
  have HO3 := hid (hO3.less (B' := w.heap.size + 2) (by first | omega | (simp [go_sem]; omega)))
  clear hO3
  obtain ⟨o, ho⟩ : ∃ o, (newC ms fu).ok = o := ⟨_, rfl⟩
  have HOK := hid ho
  rw [ho]
  clear ho
  cases o
  · have hR2 := HR2.out
    have hrl := hR2.lt
    (have hr0 := hR2.cell 0; have hr1 := hR2.cell 1; have hr2 := hR2.cell 2; simp [go_sem] at hr0 hr1 hr2)
    (have fr0 := hR2.frozen 0; have fr1 := hR2.frozen 1; have fr2 := hR2.frozen 2)
    have HW := hid HC2.out.world
    go_wp2_with fail
    refine bodyPost_ret (v := .tuple #[.slice B ms.length d, .int .i64 fu, zLog.val]) (by simp [results, Tryz.results20, go_sem, zLog, *]) rfl ?_
    have h := HW.out
    have h5 : Sl (((w2.setCell ⟨w.heap.size, 0, none⟩ (.string ⟨#[]⟩)).setCell ⟨w.heap.size, 1, none⟩ (.string ⟨#[]⟩)).setCell ⟨w.heap.size, 2, none⟩ (.int .i64 0)) 1 intRow B ms := (HS2.out.kept (grown_set (g := w.heap.size) (grown_set (grown_set (grown_refl _ _)))) (fun k hk => by injection hk with hk; omega)).sl
    exact ⟨⟨B, d, ms, fu, zLog, rfl, hml, h5.grew (by (repeat (first | with_reducible exact grew_refl _ | with_reducible assumption | with_reducible refine grew_split ?_ | with_reducible refine grew_mk ?_ | with_reducible refine grew_plus ?_ | with_reducible refine grew_alloc ?_ | with_reducible refine grew_drew ?_ | (with_reducible refine grew_set ?_ (by first | exact Nat.le_refl _ | omega | (simp [go_sem]; done) | (simp [go_sem]; omega)))))), by decide, by decide⟩, by (repeat (first | with_reducible exact grew_refl _ | with_reducible assumption | with_reducible refine grew_split ?_ | with_reducible refine grew_mk ?_ | with_reducible refine grew_plus ?_ | with_reducible refine grew_alloc ?_ | with_reducible refine grew_drew ?_ | (with_reducible refine grew_set ?_ (by first | exact Nat.le_refl _ | omega | (simp [go_sem]; done) | (simp [go_sem]; omega)))))⟩
  · have hnew := new_conOk HOK.out
    go_upto_region 6 with fail
    generalize hb5 : w2.heap.size + g3.objs.size = b5
    have hb5w : w.heap.size + 2 ≤ b5 := by omega
    refine opq_wp (fun wx => RpR w A c bs 200 b5 B ms wx) ⟨⟨newF ms fu, A1, c1⟩, zLog, blk_new (by subst hb5; simp [go_sem]), hnew, HO3.out.grew (by (repeat (first | with_reducible exact grew_refl _ | with_reducible assumption | with_reducible refine grew_split ?_ | with_reducible refine grew_mk ?_ | with_reducible refine grew_plus ?_ | with_reducible refine grew_alloc ?_ | with_reducible refine grew_drew ?_ | (with_reducible refine grew_set ?_ (by first | exact Nat.le_refl _ | omega | (simp [go_sem]; done) | (simp [go_sem]; omega)))))), HS2.out.grew (by (repeat (first | with_reducible exact grew_refl _ | with_reducible assumption | with_reducible refine grew_split ?_ | with_reducible refine grew_mk ?_ | with_reducible refine grew_plus ?_ | with_reducible refine grew_alloc ?_ | with_reducible refine grew_drew ?_ | (with_reducible refine grew_set ?_ (by first | exact Nat.le_refl _ | omega | (simp [go_sem]; done) | (simp [go_sem]; omega)))))), (HC2.out.grew' (by (repeat (first | with_reducible exact grew_refl _ | with_reducible assumption | with_reducible refine grew_split ?_ | with_reducible refine grew_mk ?_ | with_reducible refine grew_plus ?_ | with_reducible refine grew_alloc ?_ | with_reducible refine grew_drew ?_ | (with_reducible refine grew_set ?_ (by first | exact Nat.le_refl _ | omega | (simp [go_sem]; done) | (simp [go_sem]; omega))))))).le (by omega), blk_grew HR2.out (by (repeat (first | with_reducible exact grew_refl _ | with_reducible assumption | with_reducible refine grew_split ?_ | with_reducible refine grew_mk ?_ | with_reducible refine grew_plus ?_ | with_reducible refine grew_alloc ?_ | with_reducible refine grew_drew ?_ | (with_reducible refine grew_set ?_ (by first | exact Nat.le_refl _ | omega | (simp [go_sem]; done) | (simp [go_sem]; omega))))))⟩ ?_
    clear HO3 HS2 HC2 HR2 hb5 hnew HOK hz2
    rintro wq ⟨v, l, hB, hok, hO, hS, hC, hR⟩
    (have HB := hid hB; have HO := hid hO; have HC := hid hC; have HR := hid hR)
    have HS := hid hS
    clear hB hO hC hR hS
    go_wp2_with fail
    refine (s_pick w (w.heap.size + 1) A c bs _ 12 _ HA.out HC.out (by omega) (by omega)).mono ?_
    rintro e w3 ⟨⟨n', rfl, n0, n1⟩, hC3, hG3⟩
    obtain ⟨n, hn0⟩ : ∃ k : Nat, n' = (k : Int) := ⟨n'.toNat, by omega⟩
    subst hn0
    have hn11 : n ≤ 11 := by omega
    have HL3 := hid (show RpR w A c bs 210 b5 B ms w3 from ⟨v, l, HB.out.grown hG3 (fun e => by injection e with e; omega), hok, HO.out.kept hG3 (fun k hk => by injection hk with hk; omega), HS.out.kept hG3 (fun k hk => by injection hk with hk; omega), hC3.le (by omega), HR.out.grown hG3 (fun e => by injection e with e; omega)⟩)
    clear hC3 hG3 HB HO HC HR HS hok n0 n1
    go_upto_block 0 with fail
    go_cut [10] (fun _ wx => RpR w A c bs 1100 b5 B ms wx)
    case first =>
      go_wp2_with fail
      go_loopw [10] (fun i wr => ∃ k : Nat, k ≤ n ∧ i = .int .i64 ((n - k : Nat) : Int) ∧ RpR w A c bs (210 + 70 * (k : Int)) b5 B ms wr) (fun i _ => (intOf i).toNat)
      case atStart => exact ⟨0, by omega, rfl, by simpa using HL3.out⟩
      case round =>
        clear HL3
        obtain ⟨k, hk, rfl, v, l, hB, hok, hO, hS, hC, hR⟩ := hrel
        obtain ⟨q1, q2, q3⟩ := conOk_small hok
        have HOK := hid hok
        have hbl := hB.lt
        (have hc0 := hB.cell 0; have hc1 := hB.cell 1; have hc2 := hB.cell 2; have hc3 := hB.cell 3; have hc4 := hB.cell 4; have hc5 := hB.cell 5; have hc6 := hB.cell 6; have hc7 := hB.cell 7; have hc8 := hB.cell 8; have hc9 := hB.cell 9; simp [go_sem] at hc0 hc1 hc2 hc3 hc4 hc5 hc6 hc7 hc8 hc9)
        (have fc0 := hB.frozen 0; have fc1 := hB.frozen 1; have fc2 := hB.frozen 2; have fc3 := hB.frozen 3; have fc4 := hB.frozen 4; have fc5 := hB.frozen 5; have fc6 := hB.frozen 6; have fc7 := hB.frozen 7; have fc8 := hB.frozen 8; have fc9 := hB.frozen 9)
        (have HB := hid hB; have HO := hid hO; have HC := hid hC; have HR := hid hR)
        have HS := hid hS
        clear hB hO hC hR hS hok
        by_cases hlt : k < n
        · have hpos : (0 : Int) < ((n - k : Nat) : Int) := by omega
          have hsub : IntKind.i64.wrap (((n - k : Nat) : Int) - 1) = ((n - (k + 1) : Nat) : Int) := by rw [IntWalk.i64_in _ (by omega)]; omega
          go_upto_block 1 with fail
          go_cut [37] (fun _ wx => RpR w A c bs (210 + 70 * (k : Int) + 70) b5 B ms wx)
          case first =>
            go_wp2_with fail
            go_region_with (first
              | (go_at_call 31; refine (s_command w (w.heap.size + 1) A c bs _ v l _ HA.out (HC.out.grew' (by (repeat (first | with_reducible exact grew_refl _ | with_reducible assumption | with_reducible refine grew_split ?_ | with_reducible refine grew_mk ?_ | with_reducible refine grew_plus ?_ | with_reducible refine grew_alloc ?_ | with_reducible refine grew_drew ?_ | (with_reducible refine grew_set ?_ (by first | exact Nat.le_refl _ | omega | (simp [go_sem]; done) | (simp [go_sem]; omega))))))) (by omega) (by omega)).mono ?_; rintro e w6 ⟨⟨x, rfl, hx⟩, hC6, hG6⟩; have hG6' := (grown_of_grew (w := wr) (by (repeat (first | with_reducible exact grew_refl _ | with_reducible assumption | with_reducible refine grew_split ?_ | with_reducible refine grew_mk ?_ | with_reducible refine grew_plus ?_ | with_reducible refine grew_alloc ?_ | with_reducible refine grew_drew ?_ | (with_reducible refine grew_set ?_ (by first | exact Nat.le_refl _ | omega | (simp [go_sem]; done) | (simp [go_sem]; omega)))))) (some (w.heap.size + 1))).trans hG6; have HB6 := hid (HB.out.grown hG6' (fun e => by injection e with e; omega)); have HR6 := hid (HR.out.grown hG6' (fun e => by injection e with e; omega)); have HO6 := hid (HO.out.kept hG6' (fun k hk => by injection hk with hk; omega)); have HS6 := hid (HS.out.kept hG6' (fun k hk => by injection hk with hk; omega)); have HC6 := hid hC6; have HE6 := hid (HE.out.grew hC6.world); obtain ⟨D', L', r, hp⟩ : ∃ D' L' r, exeF v.core l x = (D', L', r) := ⟨_, _, _, rfl⟩; have hok6 := exeF_ok HOK.out x; rw [hp] at hok6; simp only at hok6; have HK6 := hid hok6; have HXP := hid hp; clear hC6 hG6 hG6' hp hok6; (have hd0 := HB6.out.cell 0; have hd1 := HB6.out.cell 1; have hd2 := HB6.out.cell 2; have hd3 := HB6.out.cell 3; have hd4 := HB6.out.cell 4; have hd5 := HB6.out.cell 5; have hd6 := HB6.out.cell 6; have hd7 := HB6.out.cell 7; have hd8 := HB6.out.cell 8; have hd9 := HB6.out.cell 9; simp [go_sem] at hd0 hd1 hd2 hd3 hd4 hd5 hd6 hd7 hd8 hd9); (have fd0 := HB6.out.frozen 0; have fd1 := HB6.out.frozen 1; have fd2 := HB6.out.frozen 2; have fd3 := HB6.out.frozen 3; have fd4 := HB6.out.frozen 4; have fd5 := HB6.out.frozen 5; have fd6 := HB6.out.frozen 6; have fd7 := HB6.out.frozen 7; have fd8 := HB6.out.frozen 8; have fd9 := HB6.out.frozen 9); have hbl6 := HB6.out.lt)
              | (go_at_call 9; refine (s_ExecuteCommand v l x _ (HO6.out.sl.grew (by (repeat (first | with_reducible exact grew_refl _ | with_reducible assumption | with_reducible refine grew_split ?_ | with_reducible refine grew_mk ?_ | with_reducible refine grew_plus ?_ | with_reducible refine grew_alloc ?_ | with_reducible refine grew_drew ?_ | (with_reducible refine grew_set ?_ (by first | exact Nat.le_refl _ | omega | (simp [go_sem]; done) | (simp [go_sem]; omega))))))) (by omega) (by omega) (by omega) (by omega) (HE6.out.grew (by (repeat (first | with_reducible exact grew_refl _ | with_reducible assumption | with_reducible refine grew_split ?_ | with_reducible refine grew_mk ?_ | with_reducible refine grew_plus ?_ | with_reducible refine grew_alloc ?_ | with_reducible refine grew_drew ?_ | (with_reducible refine grew_set ?_ (by first | exact Nat.le_refl _ | omega | (simp [go_sem]; done) | (simp [go_sem]; omega)))))))).mono ?_; rw [HXP.out]; rintro e w7 ⟨⟨A3, c3, rfl, hO3⟩, hg7⟩; have hg7' := grew_two' (show ∃ g, _ = plus w6 g by (repeat (first | with_reducible exact grew_refl _ | with_reducible assumption | with_reducible refine grew_split ?_ | with_reducible refine grew_mk ?_ | with_reducible refine grew_plus ?_ | with_reducible refine grew_alloc ?_ | with_reducible refine grew_drew ?_ | (with_reducible refine grew_set ?_ (by first | exact Nat.le_refl _ | omega | (simp [go_sem]; done) | (simp [go_sem]; omega)))))) hg7; have HB7 := hid (blk_grew HB6.out hg7'); have HR7 := hid (blk_grew HR6.out hg7'); have HS7 := hid (HS6.out.grew hg7'); have HO7 := hid (hO3.less (B' := w.heap.size + 2) (by first | (simp [go_sem]; omega) | omega)); have HC7 := hid (HC6.out.grew' hg7'); clear hO3 hg7 hg7'; (have he0 := HB7.out.cell 0; have he1 := HB7.out.cell 1; have he2 := HB7.out.cell 2; have he3 := HB7.out.cell 3; have he4 := HB7.out.cell 4; have he5 := HB7.out.cell 5; have he6 := HB7.out.cell 6; have he7 := HB7.out.cell 7; have he8 := HB7.out.cell 8; have he9 := HB7.out.cell 9; simp [go_sem] at he0 he1 he2 he3 he4 he5 he6 he7 he8 he9); (have fe0 := HB7.out.frozen 0; have fe1 := HB7.out.frozen 1; have fe2 := HB7.out.frozen 2; have fe3 := HB7.out.frozen 3; have fe4 := HB7.out.frozen 4; have fe5 := HB7.out.frozen 5; have fe6 := HB7.out.frozen 6; have fe7 := HB7.out.frozen 7; have fe8 := HB7.out.frozen 8; have fe9 := HB7.out.frozen 9); have hbl7 := HB7.out.lt))
            all_goals
              go_wp2_with fail
              go_meet
              refine ⟨⟨D', A3, c3⟩, L', ?_, HK6.out, ?_, ?_, ?_, ?_⟩
              · exact (by (have h := ((((((((((HB7.out.set_ 0 (.int .i64 (D').minute)).set_ 1 (.int .i64 (D').state)).set_ 2 (.slice A3 (D').lines.length c3)).set_ 3 (.int .i64 (D').line)).set_ 4 (.int .i64 (D').since)).set_ 5 (.int .i64 (D').cast)).set_ 6 (.int .i64 (D').fuel)).set_ 7 (.string (L').d)).set_ 8 (.string (L').p)).set_ 9 (.int .i64 (L').n)); simp only [List.setIfInBounds_toArray, List.set_cons_zero, List.set_cons_succ] at h; exact h))
              · exact OwnF.apart HO7.out HB7.out (by decide) (by (repeat (first | with_reducible exact grown_refl _ _ | with_reducible refine grown_set ?_)))
              · exact OwnF.apart HS7.out HB7.out (by decide) (by (repeat (first | with_reducible exact grown_refl _ _ | with_reducible refine grown_set ?_)))
              · exact (HC7.out.kept (row := some b5) (by (repeat (first | with_reducible exact grown_refl _ _ | with_reducible refine grown_set ?_))) (fun k hk => by injection hk with hk; omega)).le (by omega)
              · (repeat (first | with_reducible exact HR7.out | with_reducible refine Blk.far ?_ (by simp; omega) _))
          case rest =>
            have hN := hcut
            clear hcut HB HO HC HR HS hbl
            clear hc0 hc1 hc2 hc3 hc4 hc5 hc6 hc7 hc8 hc9
            clear fc0 fc1 fc2 fc3 fc4 fc5 fc6 fc7 fc8 fc9
            go_wp2_with fail
            go_roundw
            case rel => exact ⟨k + 1, by omega, rfl, by rw [show (210 : Int) + 70 * ((k + 1 : Nat) : Int) = 210 + 70 * (k : Int) + 70 by omega]; exact hN⟩
            case measure => simp [intOf]; omega
        · have hz : n - k = 0 := by omega
          rw [hz]
          go_wp2_with fail
          go_meet
          exact ⟨v, l, HB.out, HOK.out, HO.out, HS.out, HC.out.le (by omega), HR.out⟩
    case rest =>
      clear HL3
      obtain ⟨v, l, hB, hok, hO, hS, hC, hR⟩ := hcut
      obtain ⟨q1, q2, q3⟩ := conOk_small hok
      have hbl := hB.lt
      (have hc0 := hB.cell 0; have hc1 := hB.cell 1; have hc2 := hB.cell 2; have hc3 := hB.cell 3; have hc4 := hB.cell 4; have hc5 := hB.cell 5; have hc6 := hB.cell 6; have hc7 := hB.cell 7; have hc8 := hB.cell 8; have hc9 := hB.cell 9; simp [go_sem] at hc0 hc1 hc2 hc3 hc4 hc5 hc6 hc7 hc8 hc9)
      (have HB := hid hB; have HO := hid hO; have HC := hid hC; have HR := hid hR)
      have HS := hid hS
      have HLK : Hid (l.ok = true) := hid (by simp only [conOk, Bool.and_eq_true] at hok; exact hok.2)
      clear hB hO hC hR hS hok
      go_upto_region 11 with fail
      generalize hb9 : wc.heap.size = b9
      have hb9w : w.heap.size + 2 ≤ b9 := by have h := HC.out.lt; omega
      refine opq_wp (fun wx => Blk wx b9 28 #[.string (l).d, .string (l).p, .int .i64 (l).n] ∧ OwnF (w.heap.size + 2) 3 1 intRow wx B ms ∧ CurU w wx (w.heap.size + 1) A c bs 1100 ∧ Blk wx w.heap.size 28 #[.string ByteArray.empty, .string ByteArray.empty, .int .i64 0]) ⟨blk_new hb9.symm, HS.out.grew (by (repeat (first | with_reducible exact grew_refl _ | with_reducible assumption | with_reducible refine grew_split ?_ | with_reducible refine grew_mk ?_ | with_reducible refine grew_plus ?_ | with_reducible refine grew_alloc ?_ | with_reducible refine grew_drew ?_ | (with_reducible refine grew_set ?_ (by first | exact Nat.le_refl _ | omega | (simp [go_sem]; done) | (simp [go_sem]; omega)))))), HC.out.grew' (by (repeat (first | with_reducible exact grew_refl _ | with_reducible assumption | with_reducible refine grew_split ?_ | with_reducible refine grew_mk ?_ | with_reducible refine grew_plus ?_ | with_reducible refine grew_alloc ?_ | with_reducible refine grew_drew ?_ | (with_reducible refine grew_set ?_ (by first | exact Nat.le_refl _ | omega | (simp [go_sem]; done) | (simp [go_sem]; omega)))))), blk_grew HR.out (by (repeat (first | with_reducible exact grew_refl _ | with_reducible assumption | with_reducible refine grew_split ?_ | with_reducible refine grew_mk ?_ | with_reducible refine grew_plus ?_ | with_reducible refine grew_alloc ?_ | with_reducible refine grew_drew ?_ | (with_reducible refine grew_set ?_ (by first | exact Nat.le_refl _ | omega | (simp [go_sem]; done) | (simp [go_sem]; omega))))))⟩ ?_
      clear HB HO HC HR HS hbl hb9
      clear hc0 hc1 hc2 hc3 hc4 hc5 hc6 hc7 hc8 hc9
      rintro w4 ⟨hL, hS, hC, hR⟩
      have HL := hid hL
      have HS := hid hS
      have HC := hid hC
      have HR := hid hR
      clear hL hS hC hR
      go_wp2_with fail
      refine (s_one w (w.heap.size + 1) A c bs _ 3 _ HA.out HC.out (by omega) (by omega)).mono ?_
      rintro e w5 ⟨⟨q, rfl⟩, hC5, hG5⟩
      have HL5 := hid (HL.out.grown hG5 (fun e => by injection e with e; omega))
      have HR5 := hid (HR.out.grown hG5 (fun e => by injection e with e; omega))
      have HS5 := hid (HS.out.kept hG5 (fun k hk => by injection hk with hk; omega))
      have HC5 := hid hC5
      clear hC5 hG5 HL HR HS HC
      go_upto_if 48 with fail
      go_cut [11] (fun p wx => p = .pointer (some ⟨b9, 0, none⟩) ∧ ∃ m : LogR, m.d.size ≤ 30000 ∧ m.p.size ≤ 30000 ∧ Blk wx b9 28 #[.string (m).d, .string (m).p, .int .i64 (m).n] ∧ OwnF (w.heap.size + 2) 3 1 intRow wx B ms ∧ CurU w wx (w.heap.size + 1) A c bs 1200 ∧ Blk wx w.heap.size 28 #[.string ByteArray.empty, .string ByteArray.empty, .int .i64 0])
      case first =>
        cases q
        · go_wp2_with fail
          go_meet
          exact ⟨rfl, l, by omega, by omega, HL5.out, HS5.out, HC5.out.le (by omega), HR5.out⟩
        · have hll := HL5.out.lt
          have hL5 := HL5.out
          (have hc0 := hL5.cell 0; have hc1 := hL5.cell 1; have hc2 := hL5.cell 2; simp [go_sem] at hc0 hc1 hc2)
          (have fc0 := hL5.frozen 0; have fc1 := hL5.frozen 1; have fc2 := hL5.frozen 2)
          have HE5 := hid (HE.out.grew HC5.out.world)
          clear hL5
          go_wp2_with fail
          go_region_with (first
            | (go_at_call 53; refine (s_logRecord w (w.heap.size + 1) A c bs _ _ HA.out (HC5.out.grew' (by (repeat (first | with_reducible exact grew_refl _ | with_reducible assumption | with_reducible refine grew_split ?_ | with_reducible refine grew_mk ?_ | with_reducible refine grew_plus ?_ | with_reducible refine grew_alloc ?_ | with_reducible refine grew_drew ?_ | (with_reducible refine grew_set ?_ (by first | exact Nat.le_refl _ | omega | (simp [go_sem]; done) | (simp [go_sem]; omega))))))) (by omega)).mono ?_; rintro e w6 ⟨⟨r, rfl, hr1, hr2⟩, hC6, hG6⟩; have hG6' := (grown_of_grew (w := w5) (by (repeat (first | with_reducible exact grew_refl _ | with_reducible assumption | with_reducible refine grew_split ?_ | with_reducible refine grew_mk ?_ | with_reducible refine grew_plus ?_ | with_reducible refine grew_alloc ?_ | with_reducible refine grew_drew ?_ | (with_reducible refine grew_set ?_ (by first | exact Nat.le_refl _ | omega | (simp [go_sem]; done) | (simp [go_sem]; omega)))))) (some (w.heap.size + 1))).trans hG6; have HL6 := hid (HL5.out.grown hG6' (fun e => by injection e with e; omega)); have HR6 := hid (HR5.out.grown hG6' (fun e => by injection e with e; omega)); have HS6 := hid (HS5.out.kept hG6' (fun k hk => by injection hk with hk; omega)); have HC6 := hid hC6; have HE6 := hid (HE.out.grew hC6.world); clear hC6 hG6 hG6'; have hL6 := HL6.out; (have hd0 := hL6.cell 0; have hd1 := hL6.cell 1; have hd2 := hL6.cell 2; simp [go_sem] at hd0 hd1 hd2); (have fd0 := hL6.frozen 0; have fd1 := hL6.frozen 1; have fd2 := hL6.frozen 2); have hll6 := hL6.lt; clear hL6)
            | (go_at_call 30; obtain ⟨m2, o2, hm2⟩ : ∃ m2 o2, appF l r = (m2, o2) := ⟨_, _, rfl⟩; have hM2 : m2.ok = true := (by have h := appF_ok HLK.out r; rw [hm2] at h; exact h); have hs2 := LogR.small hM2; rw [ByteArray.size_append] at hs2; refine (s_AppendRecord l r _ (by omega) (by omega) (by unfold maxLen; omega) (by unfold maxLen; omega) (HE6.out.grew (by (repeat (first | with_reducible exact grew_refl _ | with_reducible assumption | with_reducible refine grew_split ?_ | with_reducible refine grew_mk ?_ | with_reducible refine grew_plus ?_ | with_reducible refine grew_alloc ?_ | with_reducible refine grew_drew ?_ | (with_reducible refine grew_set ?_ (by first | exact Nat.le_refl _ | omega | (simp [go_sem]; done) | (simp [go_sem]; omega)))))))).mono ?_; rw [hm2]; clear hm2; (rintro e w' ⟨rfl, gx, rfl⟩)))
          all_goals
            go_wp2_with fail
            go_meet
            refine ⟨rfl, m2, by omega, by omega, ?_, ?_, ?_, ?_⟩
            · have h := ((HL6.out.set_ 0 (.string m2.d)).set_ 1 (.string m2.p)).set_ 2 (.int .i64 m2.n)
              simp only [List.setIfInBounds_toArray, List.set_cons_zero, List.set_cons_succ] at h
              exact blk_grew h (by (repeat (first | with_reducible exact grew_refl _ | with_reducible assumption | with_reducible refine grew_split ?_ | with_reducible refine grew_mk ?_ | with_reducible refine grew_plus ?_ | with_reducible refine grew_alloc ?_ | with_reducible refine grew_drew ?_ | (with_reducible refine grew_set ?_ (by first | exact Nat.le_refl _ | omega | (simp [go_sem]; done) | (simp [go_sem]; omega))))))
            · have h : OwnF (w.heap.size + 2) 3 1 intRow (((w6.setCell ⟨b9, 0, none⟩ (.string m2.d)).setCell ⟨b9, 1, none⟩ (.string m2.p)).setCell ⟨b9, 2, none⟩ (.int .i64 m2.n)) B ms := OwnF.apart HS6.out HL6.out (by decide) (grown_set (g := b9) (grown_set (grown_set (grown_refl _ _))))
              exact h.grew (by (repeat (first | with_reducible exact grew_refl _ | with_reducible assumption | with_reducible refine grew_split ?_ | with_reducible refine grew_mk ?_ | with_reducible refine grew_plus ?_ | with_reducible refine grew_alloc ?_ | with_reducible refine grew_drew ?_ | (with_reducible refine grew_set ?_ (by first | exact Nat.le_refl _ | omega | (simp [go_sem]; done) | (simp [go_sem]; omega))))))
            · have h : CurU w (((w6.setCell ⟨b9, 0, none⟩ (.string m2.d)).setCell ⟨b9, 1, none⟩ (.string m2.p)).setCell ⟨b9, 2, none⟩ (.int .i64 m2.n)) (w.heap.size + 1) A c bs _ := HC6.out.kept (row := some b9) (grown_set (g := b9) (grown_set (grown_set (grown_refl _ _)))) (fun k hk => by injection hk with hk; omega)
              exact (CurU.grew' h (by (repeat (first | with_reducible exact grew_refl _ | with_reducible assumption | with_reducible refine grew_split ?_ | with_reducible refine grew_mk ?_ | with_reducible refine grew_plus ?_ | with_reducible refine grew_alloc ?_ | with_reducible refine grew_drew ?_ | (with_reducible refine grew_set ?_ (by first | exact Nat.le_refl _ | omega | (simp [go_sem]; done) | (simp [go_sem]; omega))))))).le (by omega)
            · have h : Blk (((w6.setCell ⟨b9, 0, none⟩ (.string m2.d)).setCell ⟨b9, 1, none⟩ (.string m2.p)).setCell ⟨b9, 2, none⟩ (.int .i64 m2.n)) w.heap.size 28 #[.string ByteArray.empty, .string ByteArray.empty, .int .i64 0] := (((HR6.out.far (by simp; omega) _).far (by simp; omega) _).far (by simp; omega) _)
              exact blk_grew h (by (repeat (first | with_reducible exact grew_refl _ | with_reducible assumption | with_reducible refine grew_split ?_ | with_reducible refine grew_mk ?_ | with_reducible refine grew_plus ?_ | with_reducible refine grew_alloc ?_ | with_reducible refine grew_drew ?_ | (with_reducible refine grew_set ?_ (by first | exact Nat.le_refl _ | omega | (simp [go_sem]; done) | (simp [go_sem]; omega))))))
      case rest =>
        clear HL5 HR5 HS5 HC5
        obtain ⟨rfl, m, hm1, hm2, hL, hS, hC, hR⟩ := hcut
        have hll := hL.lt
        have hrl := hR.lt
        (have hc0 := hL.cell 0; have hc1 := hL.cell 1; have hc2 := hL.cell 2; simp [go_sem] at hc0 hc1 hc2)
        (have hr0 := hR.cell 0; have hr1 := hR.cell 1; have hr2 := hR.cell 2; simp [go_sem] at hr0 hr1 hr2)
        (have fr0 := hR.frozen 0; have fr1 := hR.frozen 1; have fr2 := hR.frozen 2)
        have HS := hid hS
        have HW := hid hC.world
        clear hL hS hC hR
        go_wp2_with fail
        go_region
        all_goals
          go_wp2_with fail
          refine bodyPost_ret (v := .tuple #[.slice B ms.length d, .int .i64 fu, m.val]) (by simp [results, Tryz.results20, go_sem, *]) rfl ?_
          have h := HW.out
          exact ⟨⟨B, d, ms, fu, m, rfl, hml, (HS.out.kept (row := some (w.heap.size)) (by repeat (first | with_reducible exact grown_refl _ _ | with_reducible refine gb_drew ?_ | with_reducible refine grown_set ?_)) (fun k hk => by injection hk with hk; omega)).sl, hm1, hm2⟩, by (repeat (first | with_reducible exact grew_refl _ | with_reducible assumption | with_reducible refine grew_split ?_ | with_reducible refine grew_mk ?_ | with_reducible refine grew_plus ?_ | with_reducible refine grew_alloc ?_ | with_reducible refine grew_drew ?_ | (with_reducible refine grew_set ?_ (by first | exact Nat.le_refl _ | omega | (simp [go_sem]; done) | (simp [go_sem]; omega)))))⟩
end Go.Proofs.YtecghfcgahgfiaaGreatDoor
