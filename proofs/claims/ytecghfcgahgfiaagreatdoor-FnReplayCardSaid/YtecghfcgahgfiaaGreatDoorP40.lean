import Derived.Test.YtecghfcgahgfiaaGreatDoorP37
import Derived.Test.YtecghfcgahgfiaaGreatDoorP38
import Derived.Test.YtecghfcgahgfiaaGreatDoorP39
import Derived.Test.YtecghfcgahgfiaaGreatDoorP27
import Derived.Test.YtecghfcgahgfiaaGreatDoorP30
import Derived.Test.YtecghfcgahgfiaaGreatDoorP34
import Derived.Test.YtecghfcgahgfiaaGreatDoorP4
/- The reference's draw of a console. -/
namespace Go.Proofs.YtecghfcgahgfiaaGreatDoor
open Go.RowKit

attribute [local go_sem ↓] Go.wp_at_zero Go.wp_at_succ
/-- What is known while a console is drawn: it lies in its box b. -/
def CnR (w0 w : World) (g : Nat) (A : Option Addr) (c : Nat) (bs : List Int) (M : Int) (b : Nat) (wx : World) : Prop :=
  ∃ (v : DayV) (l : LogR), Blk wx b 30 #[.int .i64 (v.core).minute, .int .i64 (v.core).state, .slice v.A (v.core).lines.length v.c, .int .i64 (v.core).line, .int .i64 (v.core).since, .int .i64 (v.core).cast, .int .i64 (v.core).fuel, .string (l).d, .string (l).p, .int .i64 (l).n] ∧ v.core.lines.length ≤ 8 ∧ OwnF (w.heap.size + 1) 80 2 LineR.row wx v.A v.core.lines ∧ l.d.size ≤ 30000 ∧ l.p.size ≤ 30000 ∧ CurU w0 wx g A c bs M ∧ w.grownBy wx (some g) ∧ Blk wx w.heap.size 30 #[.int .i64 0, .int .i64 0, .slice none 0 0, .int .i64 0, .int .i64 0, .int .i64 0, .int .i64 0, .string ByteArray.empty, .string ByteArray.empty, .int .i64 0]
set_option maxHeartbeats 4000000 in
set_option maxRecDepth 100000 in
theorem s_console (w0 : World) (g : Nat) (A : Option Addr) (c : Nat) (bs : List Int) (M : Int) (w : World) (hA : Code0 w0 A bs) (hE : Env w0) (hC : CurU w0 w g A c bs M) (h1 : M ≤ 1099511500000) :
    Calls Tryz.prog 27 #[.pointer (some ⟨g, 0, none⟩)] w fun e w' => (∃ (v : DayV) (l : LogR), e = .returned (ConV.val ⟨v, l⟩) ∧ v.core.lines.length ≤ 8 ∧ OwnF (w.heap.size + 1) 80 2 LineR.row w' v.A v.core.lines ∧ l.d.size ≤ 30000 ∧ l.p.size ≤ 30000) ∧ CurU w0 w' g A c bs (M + 5000) ∧ w.grownBy w' (some g) := by
  have HC := hid hC
  have HE := hid hE
  have hgl := hC.lt
  have hgf := hC.far
  clear hC hE
  go_enter Tryz.func27, Tryz.ntmps27
  go_wp2_with fail
  refine (s_surveyDay w0 g A c bs M _ hA (HC.out.grew' (by (repeat (first | with_reducible exact grew_refl _ | with_reducible assumption | with_reducible refine grew_split ?_ | with_reducible refine grew_mk ?_ | with_reducible refine grew_plus ?_ | with_reducible refine grew_alloc ?_ | with_reducible refine grew_drew ?_ | (with_reducible refine grew_set ?_ (by first | exact Nat.le_refl _ | omega | (simp [go_sem]; done) | (simp [go_sem]; omega))))))) (by omega)).mono ?_
  rintro e w1 ⟨⟨v, rfl, hv8, hO⟩, hC1, hG1⟩
  have HO1 := hid (hO.less (B' := w.heap.size + 1) (by simp))
  have HC1 := hid hC1
  have HR1 := hid ((blk_new (w := w) (t := 30) (cs := #[.int .i64 0, .int .i64 0, .slice none 0 0, .int .i64 0, .int .i64 0, .int .i64 0, .int .i64 0, .string ByteArray.empty, .string ByteArray.empty, .int .i64 0]) rfl).grown hG1 (fun e => by injection e with e; omega))
  have HG1 := hid ((grown_of_grew (w := w) (by (repeat (first | with_reducible exact grew_refl _ | with_reducible assumption | with_reducible refine grew_split ?_ | with_reducible refine grew_mk ?_ | with_reducible refine grew_plus ?_ | with_reducible refine grew_alloc ?_ | with_reducible refine grew_drew ?_ | (with_reducible refine grew_set ?_ (by first | exact Nat.le_refl _ | omega | (simp [go_sem]; done) | (simp [go_sem]; omega)))))) (some g)).trans hG1)
  clear hC1 hG1 hO
  go_upto_region 2 with fail
  generalize hb5 : w1.heap.size = b5
  have hb5w : w.heap.size + 1 ≤ b5 := by rw [← hb5]; have h := HR1.out.lt; omega
  refine opq_wp (fun wx => CnR w0 w g A c bs (M + 4000) b5 wx) ⟨v, zLog, blk_new hb5.symm, hv8, HO1.out.grew (by (repeat (first | with_reducible exact grew_refl _ | with_reducible assumption | with_reducible refine grew_split ?_ | with_reducible refine grew_mk ?_ | with_reducible refine grew_plus ?_ | with_reducible refine grew_alloc ?_ | with_reducible refine grew_drew ?_ | (with_reducible refine grew_set ?_ (by first | exact Nat.le_refl _ | omega | (simp [go_sem]; done) | (simp [go_sem]; omega)))))), by decide, by decide, HC1.out.grew' (by (repeat (first | with_reducible exact grew_refl _ | with_reducible assumption | with_reducible refine grew_split ?_ | with_reducible refine grew_mk ?_ | with_reducible refine grew_plus ?_ | with_reducible refine grew_alloc ?_ | with_reducible refine grew_drew ?_ | (with_reducible refine grew_set ?_ (by first | exact Nat.le_refl _ | omega | (simp [go_sem]; done) | (simp [go_sem]; omega)))))), HG1.out.trans (grown_of_grew (by (repeat (first | with_reducible exact grew_refl _ | with_reducible assumption | with_reducible refine grew_split ?_ | with_reducible refine grew_mk ?_ | with_reducible refine grew_plus ?_ | with_reducible refine grew_alloc ?_ | with_reducible refine grew_drew ?_ | (with_reducible refine grew_set ?_ (by first | exact Nat.le_refl _ | omega | (simp [go_sem]; done) | (simp [go_sem]; omega)))))) _), HR1.out.alloc _⟩ ?_
  clear HC1 HR1 HG1 HO1 hb5 hv8
  rintro wq ⟨v, l, hB, hv8, hO, hl1, hl2, hC, hG, hR⟩
  (have HB := hid hB; have HO := hid hO; have HC := hid hC; have HG := hid hG; have HR := hid hR)
  clear hB hO hC hG hR
  go_wp2_with fail
  refine (s_pick w0 g A c bs _ 7 _ hA HC.out (by omega) (by omega)).mono ?_
  rintro e w2 ⟨⟨n', rfl, n0, n1⟩, hC2, hG2⟩
  obtain ⟨n, hn0⟩ : ∃ k : Nat, n' = (k : Int) := ⟨n'.toNat, by omega⟩
  subst hn0
  have hn6 : n ≤ 6 := by omega
  have HL2 := hid (show CnR w0 w g A c bs (M + 4010) b5 w2 from ⟨v, l, HB.out.grown hG2 (fun e => by injection e with e; omega), hv8, HO.out.kept hG2 (fun k hk => by injection hk with hk; omega), hl1, hl2, hC2.le (by omega), HG.out.trans hG2, HR.out.grown hG2 (fun e => by injection e with e; omega)⟩)
  clear hC2 hG2 HB HO HC HG HR hv8 hl1 hl2 n0 n1
  go_upto_block 0 with fail
  go_cut [4] (fun _ wx => CnR w0 w g A c bs (M + 4500) b5 wx)
  case first =>
    go_wp2_with fail
    go_loopw [4] (fun i wr => ∃ k : Nat, k ≤ n ∧ i = .int .i64 ((n - k : Nat) : Int) ∧ CnR w0 w g A c bs (M + 4010 + 70 * (k : Int)) b5 wr) (fun i _ => (intOf i).toNat)
    case atStart => exact ⟨0, by omega, rfl, by simpa using HL2.out⟩
    case round =>
      clear HL2
      obtain ⟨k, hk, rfl, v, l, hB, hv8, hO, hl1, hl2, hC, hG, hR⟩ := hrel
      obtain ⟨o, ho⟩ : ∃ o, conOk v.core l = o := ⟨_, rfl⟩
      have HOK := hid ho
      have HE2 := hid (HE.out.grew hC.world)
      have HV := hid (DayV.At.mk (v := v) hO.sl (by unfold maxLen; omega))
      have hbl := hB.lt
      (have hc0 := hB.cell 0; have hc1 := hB.cell 1; have hc2 := hB.cell 2; have hc3 := hB.cell 3; have hc4 := hB.cell 4; have hc5 := hB.cell 5; have hc6 := hB.cell 6; have hc7 := hB.cell 7; have hc8 := hB.cell 8; have hc9 := hB.cell 9; simp [go_sem] at hc0 hc1 hc2 hc3 hc4 hc5 hc6 hc7 hc8 hc9)
      (have fc0 := hB.frozen 0; have fc1 := hB.frozen 1; have fc2 := hB.frozen 2; have fc3 := hB.frozen 3; have fc4 := hB.frozen 4; have fc5 := hB.frozen 5; have fc6 := hB.frozen 6; have fc7 := hB.frozen 7; have fc8 := hB.frozen 8; have fc9 := hB.frozen 9)
      (have HB := hid hB; have HO := hid hO; have HC := hid hC; have HG := hid hG; have HR := hid hR)
      clear hB hO hC hG hR ho
      by_cases hlt : k < n
      · have hpos : (0 : Int) < ((n - k : Nat) : Int) := by omega
        have hsub : IntKind.i64.wrap (((n - k : Nat) : Int) - 1) = ((n - (k + 1) : Nat) : Int) := by rw [IntWalk.i64_in _ (by omega)]; omega
        cases o
        · go_wp2_with (go_at_call 38; refine (s_l28Good v l _ HOK.out _ (HV.out.grew (by (repeat (first | with_reducible exact grew_refl _ | with_reducible assumption | with_reducible refine grew_split ?_ | with_reducible refine grew_mk ?_ | with_reducible refine grew_plus ?_ | with_reducible refine grew_alloc ?_ | with_reducible refine grew_drew ?_ | (with_reducible refine grew_set ?_ (by first | exact Nat.le_refl _ | omega | (simp [go_sem]; done) | (simp [go_sem]; omega))))))) (by omega) (by omega) (HE2.out.grew (by (repeat (first | with_reducible exact grew_refl _ | with_reducible assumption | with_reducible refine grew_split ?_ | with_reducible refine grew_mk ?_ | with_reducible refine grew_plus ?_ | with_reducible refine grew_alloc ?_ | with_reducible refine grew_drew ?_ | (with_reducible refine grew_set ?_ (by first | exact Nat.le_refl _ | omega | (simp [go_sem]; done) | (simp [go_sem]; omega)))))))).mono ?_; (rintro e w' ⟨rfl, gx, rfl⟩))
          go_meet
          exact ⟨v, l, blk_grew HB.out (by (repeat (first | with_reducible exact grew_refl _ | with_reducible assumption | with_reducible refine grew_split ?_ | with_reducible refine grew_mk ?_ | with_reducible refine grew_plus ?_ | with_reducible refine grew_alloc ?_ | with_reducible refine grew_drew ?_ | (with_reducible refine grew_set ?_ (by first | exact Nat.le_refl _ | omega | (simp [go_sem]; done) | (simp [go_sem]; omega)))))), hv8, HO.out.grew (by (repeat (first | with_reducible exact grew_refl _ | with_reducible assumption | with_reducible refine grew_split ?_ | with_reducible refine grew_mk ?_ | with_reducible refine grew_plus ?_ | with_reducible refine grew_alloc ?_ | with_reducible refine grew_drew ?_ | (with_reducible refine grew_set ?_ (by first | exact Nat.le_refl _ | omega | (simp [go_sem]; done) | (simp [go_sem]; omega)))))), hl1, hl2, (HC.out.grew' (by (repeat (first | with_reducible exact grew_refl _ | with_reducible assumption | with_reducible refine grew_split ?_ | with_reducible refine grew_mk ?_ | with_reducible refine grew_plus ?_ | with_reducible refine grew_alloc ?_ | with_reducible refine grew_drew ?_ | (with_reducible refine grew_set ?_ (by first | exact Nat.le_refl _ | omega | (simp [go_sem]; done) | (simp [go_sem]; omega))))))).le (by omega), HG.out.trans (grown_of_grew (by (repeat (first | with_reducible exact grew_refl _ | with_reducible assumption | with_reducible refine grew_split ?_ | with_reducible refine grew_mk ?_ | with_reducible refine grew_plus ?_ | with_reducible refine grew_alloc ?_ | with_reducible refine grew_drew ?_ | (with_reducible refine grew_set ?_ (by first | exact Nat.le_refl _ | omega | (simp [go_sem]; done) | (simp [go_sem]; omega)))))) _), blk_grew HR.out (by (repeat (first | with_reducible exact grew_refl _ | with_reducible assumption | with_reducible refine grew_split ?_ | with_reducible refine grew_mk ?_ | with_reducible refine grew_plus ?_ | with_reducible refine grew_alloc ?_ | with_reducible refine grew_drew ?_ | (with_reducible refine grew_set ?_ (by first | exact Nat.le_refl _ | omega | (simp [go_sem]; done) | (simp [go_sem]; omega))))))⟩
        · go_upto_block 1 with (go_at_call 38; refine (s_l28Good v l _ HOK.out _ (HV.out.grew (by (repeat (first | with_reducible exact grew_refl _ | with_reducible assumption | with_reducible refine grew_split ?_ | with_reducible refine grew_mk ?_ | with_reducible refine grew_plus ?_ | with_reducible refine grew_alloc ?_ | with_reducible refine grew_drew ?_ | (with_reducible refine grew_set ?_ (by first | exact Nat.le_refl _ | omega | (simp [go_sem]; done) | (simp [go_sem]; omega))))))) (by omega) (by omega) (HE2.out.grew (by (repeat (first | with_reducible exact grew_refl _ | with_reducible assumption | with_reducible refine grew_split ?_ | with_reducible refine grew_mk ?_ | with_reducible refine grew_plus ?_ | with_reducible refine grew_alloc ?_ | with_reducible refine grew_drew ?_ | (with_reducible refine grew_set ?_ (by first | exact Nat.le_refl _ | omega | (simp [go_sem]; done) | (simp [go_sem]; omega)))))))).mono ?_; (rintro e w' ⟨rfl, gx, rfl⟩))
          refine opq_wp (fun wx => Blk wx b5 30 #[.int .i64 (v.core).minute, .int .i64 (v.core).state, .slice v.A (v.core).lines.length v.c, .int .i64 (v.core).line, .int .i64 (v.core).since, .int .i64 (v.core).cast, .int .i64 (v.core).fuel, .string (l).d, .string (l).p, .int .i64 (l).n] ∧ OwnF (w.heap.size + 1) 80 2 LineR.row wx v.A v.core.lines ∧ CurU w0 wx g A c bs (M + 4010 + 70 * (k : Int)) ∧ w.grownBy wx (some g) ∧ Blk wx w.heap.size 30 #[.int .i64 0, .int .i64 0, .slice none 0 0, .int .i64 0, .int .i64 0, .int .i64 0, .int .i64 0, .string ByteArray.empty, .string ByteArray.empty, .int .i64 0]) ⟨blk_grew HB.out (by (repeat (first | with_reducible exact grew_refl _ | with_reducible assumption | with_reducible refine grew_split ?_ | with_reducible refine grew_mk ?_ | with_reducible refine grew_plus ?_ | with_reducible refine grew_alloc ?_ | with_reducible refine grew_drew ?_ | (with_reducible refine grew_set ?_ (by first | exact Nat.le_refl _ | omega | (simp [go_sem]; done) | (simp [go_sem]; omega)))))), HO.out.grew (by (repeat (first | with_reducible exact grew_refl _ | with_reducible assumption | with_reducible refine grew_split ?_ | with_reducible refine grew_mk ?_ | with_reducible refine grew_plus ?_ | with_reducible refine grew_alloc ?_ | with_reducible refine grew_drew ?_ | (with_reducible refine grew_set ?_ (by first | exact Nat.le_refl _ | omega | (simp [go_sem]; done) | (simp [go_sem]; omega)))))), HC.out.grew' (by (repeat (first | with_reducible exact grew_refl _ | with_reducible assumption | with_reducible refine grew_split ?_ | with_reducible refine grew_mk ?_ | with_reducible refine grew_plus ?_ | with_reducible refine grew_alloc ?_ | with_reducible refine grew_drew ?_ | (with_reducible refine grew_set ?_ (by first | exact Nat.le_refl _ | omega | (simp [go_sem]; done) | (simp [go_sem]; omega)))))), HG.out.trans (grown_of_grew (by (repeat (first | with_reducible exact grew_refl _ | with_reducible assumption | with_reducible refine grew_split ?_ | with_reducible refine grew_mk ?_ | with_reducible refine grew_plus ?_ | with_reducible refine grew_alloc ?_ | with_reducible refine grew_drew ?_ | (with_reducible refine grew_set ?_ (by first | exact Nat.le_refl _ | omega | (simp [go_sem]; done) | (simp [go_sem]; omega)))))) _), blk_grew HR.out (by (repeat (first | with_reducible exact grew_refl _ | with_reducible assumption | with_reducible refine grew_split ?_ | with_reducible refine grew_mk ?_ | with_reducible refine grew_plus ?_ | with_reducible refine grew_alloc ?_ | with_reducible refine grew_drew ?_ | (with_reducible refine grew_set ?_ (by first | exact Nat.le_refl _ | omega | (simp [go_sem]; done) | (simp [go_sem]; omega))))))⟩ ?_
          clear HB HO HC HG HR hbl HE2 HV
          clear hc0 hc1 hc2 hc3 hc4 hc5 hc6 hc7 hc8 hc9
          clear fc0 fc1 fc2 fc3 fc4 fc5 fc6 fc7 fc8 fc9
          rintro wz ⟨hB, hO, hC, hG, hR⟩
          have hbl := hB.lt
          (have hc0 := hB.cell 0; have hc1 := hB.cell 1; have hc2 := hB.cell 2; have hc3 := hB.cell 3; have hc4 := hB.cell 4; have hc5 := hB.cell 5; have hc6 := hB.cell 6; have hc7 := hB.cell 7; have hc8 := hB.cell 8; have hc9 := hB.cell 9; simp [go_sem] at hc0 hc1 hc2 hc3 hc4 hc5 hc6 hc7 hc8 hc9)
          (have fc0 := hB.frozen 0; have fc1 := hB.frozen 1; have fc2 := hB.frozen 2; have fc3 := hB.frozen 3; have fc4 := hB.frozen 4; have fc5 := hB.frozen 5; have fc6 := hB.frozen 6; have fc7 := hB.frozen 7; have fc8 := hB.frozen 8; have fc9 := hB.frozen 9)
          (have HB := hid hB; have HO := hid hO; have HC := hid hC; have HG := hid hG; have HR := hid hR)
          clear hB hO hC hG hR
          go_cut [18] (fun _ wx => CnR w0 w g A c bs (M + 4010 + 70 * (k : Int) + 70) b5 wx)
          case first =>
            go_wp2_with fail
            go_region_with (first
              | (go_at_call 31; refine (s_command w0 g A c bs _ v l _ hA (HC.out.grew' (by (repeat (first | with_reducible exact grew_refl _ | with_reducible assumption | with_reducible refine grew_split ?_ | with_reducible refine grew_mk ?_ | with_reducible refine grew_plus ?_ | with_reducible refine grew_alloc ?_ | with_reducible refine grew_drew ?_ | (with_reducible refine grew_set ?_ (by first | exact Nat.le_refl _ | omega | (simp [go_sem]; done) | (simp [go_sem]; omega))))))) (by omega) (by omega)).mono ?_; rintro e w6 ⟨⟨x, rfl, hx⟩, hC6, hG6⟩; have hG6' := (grown_of_grew (w := wz) (by (repeat (first | with_reducible exact grew_refl _ | with_reducible assumption | with_reducible refine grew_split ?_ | with_reducible refine grew_mk ?_ | with_reducible refine grew_plus ?_ | with_reducible refine grew_alloc ?_ | with_reducible refine grew_drew ?_ | (with_reducible refine grew_set ?_ (by first | exact Nat.le_refl _ | omega | (simp [go_sem]; done) | (simp [go_sem]; omega)))))) (some g)).trans hG6; have HB6 := hid (HB.out.grown hG6' (fun e => by injection e with e; omega)); have HR6 := hid (HR.out.grown hG6' (fun e => by injection e with e; omega)); have HO6 := hid (HO.out.kept hG6' (fun k hk => by injection hk with hk; omega)); have HG6 := hid (HG.out.trans hG6'); have HC6 := hid hC6; have HE6 := hid (HE.out.grew hC6.world); obtain ⟨D', L', r, hp⟩ : ∃ D' L' r, exeF v.core l x = (D', L', r) := ⟨_, _, _, rfl⟩; have hok6 := exeF_ok HOK.out x; rw [hp] at hok6; obtain ⟨q1, q2, q3⟩ := conOk_small hok6; have HXP := hid hp; clear hC6 hG6 hG6' hp hok6; simp only at q1 q2 q3; (have hd0 := HB6.out.cell 0; have hd1 := HB6.out.cell 1; have hd2 := HB6.out.cell 2; have hd3 := HB6.out.cell 3; have hd4 := HB6.out.cell 4; have hd5 := HB6.out.cell 5; have hd6 := HB6.out.cell 6; have hd7 := HB6.out.cell 7; have hd8 := HB6.out.cell 8; have hd9 := HB6.out.cell 9; simp [go_sem] at hd0 hd1 hd2 hd3 hd4 hd5 hd6 hd7 hd8 hd9); (have fd0 := HB6.out.frozen 0; have fd1 := HB6.out.frozen 1; have fd2 := HB6.out.frozen 2; have fd3 := HB6.out.frozen 3; have fd4 := HB6.out.frozen 4; have fd5 := HB6.out.frozen 5; have fd6 := HB6.out.frozen 6; have fd7 := HB6.out.frozen 7; have fd8 := HB6.out.frozen 8; have fd9 := HB6.out.frozen 9); have hbl6 := HB6.out.lt)
              | (go_at_call 9; refine (s_ExecuteCommand v l x _ (HO6.out.sl.grew (by (repeat (first | with_reducible exact grew_refl _ | with_reducible assumption | with_reducible refine grew_split ?_ | with_reducible refine grew_mk ?_ | with_reducible refine grew_plus ?_ | with_reducible refine grew_alloc ?_ | with_reducible refine grew_drew ?_ | (with_reducible refine grew_set ?_ (by first | exact Nat.le_refl _ | omega | (simp [go_sem]; done) | (simp [go_sem]; omega))))))) (by omega) (by omega) (by omega) (by omega) (HE6.out.grew (by (repeat (first | with_reducible exact grew_refl _ | with_reducible assumption | with_reducible refine grew_split ?_ | with_reducible refine grew_mk ?_ | with_reducible refine grew_plus ?_ | with_reducible refine grew_alloc ?_ | with_reducible refine grew_drew ?_ | (with_reducible refine grew_set ?_ (by first | exact Nat.le_refl _ | omega | (simp [go_sem]; done) | (simp [go_sem]; omega)))))))).mono ?_; rw [HXP.out]; rintro e w7 ⟨⟨A3, c3, rfl, hO3⟩, hg7⟩; have hg7' := grew_two' (show ∃ g, _ = plus w6 g by (repeat (first | with_reducible exact grew_refl _ | with_reducible assumption | with_reducible refine grew_split ?_ | with_reducible refine grew_mk ?_ | with_reducible refine grew_plus ?_ | with_reducible refine grew_alloc ?_ | with_reducible refine grew_drew ?_ | (with_reducible refine grew_set ?_ (by first | exact Nat.le_refl _ | omega | (simp [go_sem]; done) | (simp [go_sem]; omega)))))) hg7; have HB7 := hid (blk_grew HB6.out hg7'); have HR7 := hid (blk_grew HR6.out hg7'); have HO7 := hid (hO3.less (B' := w.heap.size + 1) (by first | (simp [go_sem]; omega) | omega)); have HC7 := hid (HC6.out.grew' hg7'); have HG7 := hid (HG6.out.trans (grown_of_grew hg7' _)); clear hO3 hg7 hg7'; (have he0 := HB7.out.cell 0; have he1 := HB7.out.cell 1; have he2 := HB7.out.cell 2; have he3 := HB7.out.cell 3; have he4 := HB7.out.cell 4; have he5 := HB7.out.cell 5; have he6 := HB7.out.cell 6; have he7 := HB7.out.cell 7; have he8 := HB7.out.cell 8; have he9 := HB7.out.cell 9; simp [go_sem] at he0 he1 he2 he3 he4 he5 he6 he7 he8 he9); (have fe0 := HB7.out.frozen 0; have fe1 := HB7.out.frozen 1; have fe2 := HB7.out.frozen 2; have fe3 := HB7.out.frozen 3; have fe4 := HB7.out.frozen 4; have fe5 := HB7.out.frozen 5; have fe6 := HB7.out.frozen 6; have fe7 := HB7.out.frozen 7; have fe8 := HB7.out.frozen 8; have fe9 := HB7.out.frozen 9); have hbl7 := HB7.out.lt))
            all_goals
              go_wp2_with fail
              go_meet
              refine ⟨⟨D', A3, c3⟩, L', ?_, q1, ?_, by omega, by omega, ?_, ?_, ?_⟩
              · exact (by (have h := ((((((((((HB7.out.set_ 0 (.int .i64 (D').minute)).set_ 1 (.int .i64 (D').state)).set_ 2 (.slice A3 (D').lines.length c3)).set_ 3 (.int .i64 (D').line)).set_ 4 (.int .i64 (D').since)).set_ 5 (.int .i64 (D').cast)).set_ 6 (.int .i64 (D').fuel)).set_ 7 (.string (L').d)).set_ 8 (.string (L').p)).set_ 9 (.int .i64 (L').n)); simp only [List.setIfInBounds_toArray, List.set_cons_zero, List.set_cons_succ] at h; exact h))
              · exact OwnF.apart HO7.out HB7.out (by decide) (by (repeat (first | with_reducible exact grown_refl _ _ | with_reducible refine grown_set ?_)))
              · exact (HC7.out.kept (row := some b5) (by (repeat (first | with_reducible exact grown_refl _ _ | with_reducible refine grown_set ?_))) (fun k hk => by injection hk with hk; omega)).le (by omega)
              · exact grown_join (row := some b5) HG7.out (by (repeat (first | with_reducible exact grown_refl _ _ | with_reducible refine grown_set ?_))) (fun k hk => by injection hk with hk; omega)
              · (repeat (first | with_reducible exact HR7.out | with_reducible refine Blk.far ?_ (by simp; omega) _))
          case rest =>
            have hN := hcut
            clear hcut HB HO HC HG HR hbl
            clear hc0 hc1 hc2 hc3 hc4 hc5 hc6 hc7 hc8 hc9
            clear fc0 fc1 fc2 fc3 fc4 fc5 fc6 fc7 fc8 fc9
            go_wp2_with fail
            go_roundw
            case rel => exact ⟨k + 1, by omega, rfl, by rw [show M + 4010 + 70 * ((k + 1 : Nat) : Int) = M + 4010 + 70 * (k : Int) + 70 by omega]; exact hN⟩
            case measure => simp [intOf]; omega
      · have hz : n - k = 0 := by omega
        rw [hz]
        go_wp2_with fail
        go_meet
        exact ⟨v, l, HB.out, hv8, HO.out, hl1, hl2, HC.out.le (by omega), HG.out, HR.out⟩
  case rest =>
    clear HL2
    obtain ⟨v, l, hB, hv8, hO, hl1, hl2, hC, hG, hR⟩ := hcut
    have HE2 := hid (HE.out.grew hC.world)
    (have HB := hid hB; have HO := hid hO; have HC := hid hC; have HG := hid hG; have HR := hid hR)
    clear hB hO hC hG hR
    go_wp2_with fail
    refine (s_one w0 g A c bs _ 24 _ hA HC.out (by omega) (by omega)).mono ?_
    rintro e w3 ⟨⟨q, rfl⟩, hC3, hG3⟩
    have HC3 := hid hC3
    have HB3 := hid (HB.out.grown hG3 (fun e => by injection e with e; omega))
    have HR3 := hid (HR.out.grown hG3 (fun e => by injection e with e; omega))
    have HO3 := hid (HO.out.kept hG3 (fun k hk => by injection hk with hk; omega))
    have HG3 := hid (HG.out.trans hG3)
    have hbl3 := HB3.out.lt
    have hrl3 := HR3.out.lt
    (have hc0 := HB3.out.cell 0; have hc1 := HB3.out.cell 1; have hc2 := HB3.out.cell 2; have hc3 := HB3.out.cell 3; have hc4 := HB3.out.cell 4; have hc5 := HB3.out.cell 5; have hc6 := HB3.out.cell 6; have hc7 := HB3.out.cell 7; have hc8 := HB3.out.cell 8; have hc9 := HB3.out.cell 9; simp [go_sem] at hc0 hc1 hc2 hc3 hc4 hc5 hc6 hc7 hc8 hc9)
    (have fc0 := HB3.out.frozen 0; have fc1 := HB3.out.frozen 1; have fc2 := HB3.out.frozen 2; have fc3 := HB3.out.frozen 3; have fc4 := HB3.out.frozen 4; have fc5 := HB3.out.frozen 5; have fc6 := HB3.out.frozen 6; have fc7 := HB3.out.frozen 7; have fc8 := HB3.out.frozen 8; have fc9 := HB3.out.frozen 9)
    (have hr0 := HR3.out.cell 0; have hr1 := HR3.out.cell 1; have hr2 := HR3.out.cell 2; have hr3 := HR3.out.cell 3; have hr4 := HR3.out.cell 4; have hr5 := HR3.out.cell 5; have hr6 := HR3.out.cell 6; have hr7 := HR3.out.cell 7; have hr8 := HR3.out.cell 8; have hr9 := HR3.out.cell 9; simp [go_sem] at hr0 hr1 hr2 hr3 hr4 hr5 hr6 hr7 hr8 hr9)
    (have fr0 := HR3.out.frozen 0; have fr1 := HR3.out.frozen 1; have fr2 := HR3.out.frozen 2; have fr3 := HR3.out.frozen 3; have fr4 := HR3.out.frozen 4; have fr5 := HR3.out.frozen 5; have fr6 := HR3.out.frozen 6; have fr7 := HR3.out.frozen 7; have fr8 := HR3.out.frozen 8; have fr9 := HR3.out.frozen 9)
    clear hC3 hG3 HB HO HC HG HR
    cases q
    · go_wp2_with fail
      (refine bodyPost_ret (v := ConV.val ⟨v, l⟩) (by simp [results, Tryz.results27, go_sem, *]) rfl ?_; exact ⟨⟨v, l, rfl, hv8, HO3.out.kept (row := some (w.heap.size)) (by (repeat (first | with_reducible exact grown_refl _ _ | with_reducible refine grown_set ?_))) (fun k hk => by injection hk with hk; omega), by omega, by omega⟩, (HC3.out.kept (row := some (w.heap.size)) (by (repeat (first | with_reducible exact grown_refl _ _ | with_reducible refine grown_set ?_))) (fun k hk => by injection hk with hk; omega)).le (by omega), grown_join (row := some (w.heap.size)) HG3.out (by (repeat (first | with_reducible exact grown_refl _ _ | with_reducible refine grown_set ?_))) (fun k hk => by injection hk with hk; omega)⟩)
    · go_wp2_with fail
      refine (s_anyLog w0 g A c bs _ _ hA HE.out HC3.out (by omega)).mono ?_
      rintro e w4 ⟨⟨l4, rfl, z1, z2, z3⟩, hC4, hG4⟩
      have HC4 := hid hC4
      have HB4 := hid (HB3.out.grown hG4 (fun e => by injection e with e; omega))
      have HR4 := hid (HR3.out.grown hG4 (fun e => by injection e with e; omega))
      have HO4 := hid (HO3.out.kept hG4 (fun k hk => by injection hk with hk; omega))
      have HG4 := hid (HG3.out.trans hG4)
      have hbl4 := HB4.out.lt
      have hrl4 := HR4.out.lt
      clear hc0 hc1 hc2 hc3 hc4 hc5 hc6 hc7 hc8 hc9
      clear fc0 fc1 fc2 fc3 fc4 fc5 fc6 fc7 fc8 fc9
      clear hr0 hr1 hr2 hr3 hr4 hr5 hr6 hr7 hr8 hr9
      clear fr0 fr1 fr2 fr3 fr4 fr5 fr6 fr7 fr8 fr9
      (have hc0 := HB4.out.cell 0; have hc1 := HB4.out.cell 1; have hc2 := HB4.out.cell 2; have hc3 := HB4.out.cell 3; have hc4 := HB4.out.cell 4; have hc5 := HB4.out.cell 5; have hc6 := HB4.out.cell 6; have hc7 := HB4.out.cell 7; have hc8 := HB4.out.cell 8; have hc9 := HB4.out.cell 9; simp [go_sem] at hc0 hc1 hc2 hc3 hc4 hc5 hc6 hc7 hc8 hc9)
      (have fc0 := HB4.out.frozen 0; have fc1 := HB4.out.frozen 1; have fc2 := HB4.out.frozen 2; have fc3 := HB4.out.frozen 3; have fc4 := HB4.out.frozen 4; have fc5 := HB4.out.frozen 5; have fc6 := HB4.out.frozen 6; have fc7 := HB4.out.frozen 7; have fc8 := HB4.out.frozen 8; have fc9 := HB4.out.frozen 9)
      (have hr0 := HR4.out.cell 0; have hr1 := HR4.out.cell 1; have hr2 := HR4.out.cell 2; have hr3 := HR4.out.cell 3; have hr4 := HR4.out.cell 4; have hr5 := HR4.out.cell 5; have hr6 := HR4.out.cell 6; have hr7 := HR4.out.cell 7; have hr8 := HR4.out.cell 8; have hr9 := HR4.out.cell 9; simp [go_sem] at hr0 hr1 hr2 hr3 hr4 hr5 hr6 hr7 hr8 hr9)
      (have fr0 := HR4.out.frozen 0; have fr1 := HR4.out.frozen 1; have fr2 := HR4.out.frozen 2; have fr3 := HR4.out.frozen 3; have fr4 := HR4.out.frozen 4; have fr5 := HR4.out.frozen 5; have fr6 := HR4.out.frozen 6; have fr7 := HR4.out.frozen 7; have fr8 := HR4.out.frozen 8; have fr9 := HR4.out.frozen 9)
      clear hC4 hG4 HB3 HO3 HC3 HG3 HR3 hbl3 hrl3
      go_upto_region 8 with fail
      refine opq_wp (fun wx => Blk wx b5 30 #[.int .i64 (v.core).minute, .int .i64 (v.core).state, .slice v.A (v.core).lines.length v.c, .int .i64 (v.core).line, .int .i64 (v.core).since, .int .i64 (v.core).cast, .int .i64 (v.core).fuel, .string (l4).d, .string (l4).p, .int .i64 (l4).n] ∧ OwnF (w.heap.size + 1) 80 2 LineR.row wx v.A v.core.lines ∧ CurU w0 wx g A c bs (M + 5000) ∧ w.grownBy wx (some g) ∧ Blk wx w.heap.size 30 #[.int .i64 0, .int .i64 0, .slice none 0 0, .int .i64 0, .int .i64 0, .int .i64 0, .int .i64 0, .string ByteArray.empty, .string ByteArray.empty, .int .i64 0]) ⟨?_, ?_, ?_, ?_, ?_⟩ ?_
      · have h := ((HB4.out.set_ 7 (.string l4.d)).set_ 8 (.string l4.p)).set_ 9 (.int .i64 l4.n)
        simp only [List.setIfInBounds_toArray, List.set_cons_zero, List.set_cons_succ] at h
        exact h
      · exact OwnF.apart HO4.out HB4.out (by decide) (by (repeat (first | with_reducible exact grown_refl _ _ | with_reducible refine grown_set ?_)))
      · exact (HC4.out.kept (row := some b5) (by (repeat (first | with_reducible exact grown_refl _ _ | with_reducible refine grown_set ?_))) (fun k hk => by injection hk with hk; omega)).le (by omega)
      · exact grown_join (row := some b5) HG4.out (by (repeat (first | with_reducible exact grown_refl _ _ | with_reducible refine grown_set ?_))) (fun k hk => by injection hk with hk; omega)
      · (repeat (first | with_reducible exact HR4.out | with_reducible refine Blk.far ?_ (by simp; omega) _))
      clear HC4 HB4 HR4 HO4 HG4 hbl4 hrl4
      clear hc0 hc1 hc2 hc3 hc4 hc5 hc6 hc7 hc8 hc9
      clear fc0 fc1 fc2 fc3 fc4 fc5 fc6 fc7 fc8 fc9
      clear hr0 hr1 hr2 hr3 hr4 hr5 hr6 hr7 hr8 hr9
      clear fr0 fr1 fr2 fr3 fr4 fr5 fr6 fr7 fr8 fr9
      rintro w5 ⟨hB, hO, hC, hG, hR⟩
      have HC5 := hid hC
      have HB5 := hid hB
      have HR5 := hid hR
      have HO5 := hid hO
      have HG5 := hid hG
      have hbl5 := hB.lt
      have hrl5 := hR.lt
      (have hc0 := hB.cell 0; have hc1 := hB.cell 1; have hc2 := hB.cell 2; have hc3 := hB.cell 3; have hc4 := hB.cell 4; have hc5 := hB.cell 5; have hc6 := hB.cell 6; have hc7 := hB.cell 7; have hc8 := hB.cell 8; have hc9 := hB.cell 9; simp [go_sem] at hc0 hc1 hc2 hc3 hc4 hc5 hc6 hc7 hc8 hc9)
      (have fc0 := hB.frozen 0; have fc1 := hB.frozen 1; have fc2 := hB.frozen 2; have fc3 := hB.frozen 3; have fc4 := hB.frozen 4; have fc5 := hB.frozen 5; have fc6 := hB.frozen 6; have fc7 := hB.frozen 7; have fc8 := hB.frozen 8; have fc9 := hB.frozen 9)
      (have hr0 := hR.cell 0; have hr1 := hR.cell 1; have hr2 := hR.cell 2; have hr3 := hR.cell 3; have hr4 := hR.cell 4; have hr5 := hR.cell 5; have hr6 := hR.cell 6; have hr7 := hR.cell 7; have hr8 := hR.cell 8; have hr9 := hR.cell 9; simp [go_sem] at hr0 hr1 hr2 hr3 hr4 hr5 hr6 hr7 hr8 hr9)
      (have fr0 := hR.frozen 0; have fr1 := hR.frozen 1; have fr2 := hR.frozen 2; have fr3 := hR.frozen 3; have fr4 := hR.frozen 4; have fr5 := hR.frozen 5; have fr6 := hR.frozen 6; have fr7 := hR.frozen 7; have fr8 := hR.frozen 8; have fr9 := hR.frozen 9)
      clear hC hB hR hO hG
      go_wp2_with fail
      (refine bodyPost_ret (v := ConV.val ⟨v, l4⟩) (by simp [results, Tryz.results27, go_sem, *]) rfl ?_; exact ⟨⟨v, l4, rfl, hv8, HO5.out.kept (row := some (w.heap.size)) (by (repeat (first | with_reducible exact grown_refl _ _ | with_reducible refine grown_set ?_))) (fun k hk => by injection hk with hk; omega), by omega, by omega⟩, (HC5.out.kept (row := some (w.heap.size)) (by (repeat (first | with_reducible exact grown_refl _ _ | with_reducible refine grown_set ?_))) (fun k hk => by injection hk with hk; omega)).le (by omega), grown_join (row := some (w.heap.size)) HG5.out (by (repeat (first | with_reducible exact grown_refl _ _ | with_reducible refine grown_set ?_))) (fun k hk => by injection hk with hk; omega)⟩)
end Go.Proofs.YtecghfcgahgfiaaGreatDoor
/- A code of draws that came in: its bytes. -/
namespace Go.Proofs.YtecghfcgahgfiaaGreatDoor
open Go.ChangeShapes Go.WideShapes Go.ChangeAt Go.RowKit Go.Deep Go.Joins

set_option maxRecDepth 100000 in
theorem open_code {H : Type} {enc : TypeId × Value → H} {w : World} {r : Reach} {b0 base : Nat} {spare : Nat → Bool} {held : Bool} {v : Value} {d : DataW H} {p : List MemPlace} (hv : Value.okWide Tryz.prog w r b0 22 v) (h : DataW.Trod enc Tryz.prog w base spare held 22 v d p) :
    ∃ (A : Option Addr) (c : Nat) (l : List Int), v = .slice A l.length c ∧ Sl w 1 byteRow A l ∧ (∀ x ∈ l, 0 ≤ x ∧ x ≤ 255) ∧ l.length ≤ maxLen := by
  obtain ⟨a, n, c, rfl⟩ := okWide_slice Tryz.underlying22 hv
  obtain ⟨fuel, hf⟩ := h
  obtain ⟨A, c, l, e, hS, hl, hln⟩ := read_list byteRow 1 (fun x => 0 ≤ x ∧ x ≤ 255) Tryz.underlying22 (by kernel_rfl) (fun _ => ⟨_, rfl⟩) (fun n cs y h => by
    obtain ⟨k, e, _, hw⟩ := DataW.trod_int Tryz.underlying5 h
    refine ⟨k, ?_, e⟩
    simp only [Lit.wf, Bool.and_eq_true, decide_eq_true_eq] at hw
    have h1 : IntKind.u8.min = 0 := rfl
    have h2 : IntKind.u8.max = 255 := rfl
    rw [h1, h2] at hw
    exact hw) hf
  simp only [Value.cells, List.cons.injEq, and_true] at e
  exact ⟨A, c, l, by simpa using e, hS, hl, hln⟩
end Go.Proofs.YtecghfcgahgfiaaGreatDoor
