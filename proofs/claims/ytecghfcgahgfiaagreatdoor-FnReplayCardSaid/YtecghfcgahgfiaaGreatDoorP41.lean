import Derived.Test.YtecghfcgahgfiaaGreatDoorP40
import Derived.Test.YtecghfcgahgfiaaGreatDoorP38
import Derived.Test.YtecghfcgahgfiaaGreatDoorP18
/- The reference's draw for the law on consoles: a console and a command. -/
namespace Go.Proofs.YtecghfcgahgfiaaGreatDoor
open Go.RowKit

attribute [local go_sem ↓] Go.wp_at_zero Go.wp_at_succ
theorem cur_newK (w W : World) (A : Option Addr) (c : Nat) (bs : List Int) (g : Nat) (hW : ∃ x, W = plus w x) (hg : g = W.heap.size) : CurU w (W.alloc (.cells #[.slice A bs.length c, .int .i64 0, .int .u64 0] 60)) g A c bs 0 := by
  subst hg
  exact ⟨0, ⟨by (repeat (first | with_reducible exact grew_refl _ | with_reducible assumption | with_reducible refine grew_split ?_ | with_reducible refine grew_mk ?_ | with_reducible refine grew_plus ?_ | with_reducible refine grew_alloc ?_ | with_reducible refine grew_drew ?_ | (with_reducible refine grew_set ?_ (by first | exact Nat.le_refl _ | omega | (simp [go_sem]; done) | (simp [go_sem]; omega))))), by have := (below_of_grew hW).size; omega, ⟨0, Blk.new _ _ _⟩, by omega⟩, by omega⟩
theorem Code0.grewK {w w' : World} {A : Option Addr} {bs : List Int} (h : Code0 w A bs) (hg : ∃ g, w' = plus w g) : Code0 w' A bs := ⟨h.sl.grew hg, h.ok, h.len⟩
/-- What is known while a law's console is drawn: it lies in its box b. -/
def DnR (w : World) (A : Option Addr) (c : Nat) (bs : List Int) (M : Int) (b : Nat) (wx : World) : Prop :=
  ∃ (v : DayV) (l : LogR), Blk wx b 30 #[.int .i64 (v.core).minute, .int .i64 (v.core).state, .slice v.A (v.core).lines.length v.c, .int .i64 (v.core).line, .int .i64 (v.core).since, .int .i64 (v.core).cast, .int .i64 (v.core).fuel, .string (l).d, .string (l).p, .int .i64 (l).n] ∧ v.core.lines.length ≤ 8 ∧ OwnF (w.heap.size + 2) 80 2 LineR.row wx v.A v.core.lines ∧ l.d.size ≤ 30000 ∧ l.p.size ≤ 30000 ∧ CurU w wx (w.heap.size + 1) A c bs M ∧ Blk wx w.heap.size 30 #[.int .i64 0, .int .i64 0, .slice none 0 0, .int .i64 0, .int .i64 0, .int .i64 0, .int .i64 0, .string ByteArray.empty, .string ByteArray.empty, .int .i64 0]
set_option maxHeartbeats 3000000 in
set_option maxRecDepth 100000 in
theorem s_DrawExecuteCommand (A : Option Addr) (c : Nat) (bs : List Int) (w : World) (hA : Code0 w A bs) (hE : Env w) :
    Calls Tryz.prog 7 #[.slice A bs.length c] w fun e w' => (∃ (v : DayV) (l : LogR) (line : ByteArray), e = .returned (.tuple #[ConV.val ⟨v, l⟩, .string line]) ∧ v.core.lines.length ≤ 8 ∧ Sl w' 2 LineR.row v.A v.core.lines ∧ l.d.size ≤ 30000 ∧ l.p.size ≤ 30000 ∧ line.size ≤ 40) ∧ ∃ g, w' = plus w g := by
  have HA := hid hA
  have HE := hid hE
  clear hA hE
  go_enter Tryz.func7, Tryz.ntmps7
  go_wp2_with fail
  refine (s_console w (w.heap.size + 1) A c bs 0 _ HA.out HE.out (cur_newK w _ A c bs _ (by (repeat (first | with_reducible exact grew_refl _ | with_reducible assumption | with_reducible refine grew_split ?_ | with_reducible refine grew_mk ?_ | with_reducible refine grew_plus ?_ | with_reducible refine grew_alloc ?_ | with_reducible refine grew_drew ?_ | (with_reducible refine grew_set ?_ (by first | exact Nat.le_refl _ | omega | (simp [go_sem]; done) | (simp [go_sem]; omega)))))) (by simp)) (by omega)).mono ?_
  rintro e w1 ⟨⟨v, l, rfl, hv8, hO, hl1, hl2⟩, hC1, hG1⟩
  have HO1 := hid (hO.less (B' := w.heap.size + 2) (by simp))
  have HC1 := hid hC1
  have HR1 := hid (((blk_new (w := w) (b := w.heap.size) (t := 30) (cs := #[.int .i64 0, .int .i64 0, .slice none 0 0, .int .i64 0, .int .i64 0, .int .i64 0, .int .i64 0, .string ByteArray.empty, .string ByteArray.empty, .int .i64 0]) rfl).alloc _).grown hG1 (fun e => by injection e with e; omega))
  clear hO hC1 hG1
  go_upto_region 3 with fail
  generalize hb5 : w1.heap.size = b5
  have hb5w : w.heap.size + 2 ≤ b5 := by rw [← hb5]; have h := HC1.out.lt; omega
  refine opq_wp (fun wx => DnR w A c bs 5000 b5 wx) ⟨v, l, blk_new hb5.symm, hv8, HO1.out.grew (by (repeat (first | with_reducible exact grew_refl _ | with_reducible assumption | with_reducible refine grew_split ?_ | with_reducible refine grew_mk ?_ | with_reducible refine grew_plus ?_ | with_reducible refine grew_alloc ?_ | with_reducible refine grew_drew ?_ | (with_reducible refine grew_set ?_ (by first | exact Nat.le_refl _ | omega | (simp [go_sem]; done) | (simp [go_sem]; omega)))))), hl1, hl2, (HC1.out.grew' (by (repeat (first | with_reducible exact grew_refl _ | with_reducible assumption | with_reducible refine grew_split ?_ | with_reducible refine grew_mk ?_ | with_reducible refine grew_plus ?_ | with_reducible refine grew_alloc ?_ | with_reducible refine grew_drew ?_ | (with_reducible refine grew_set ?_ (by first | exact Nat.le_refl _ | omega | (simp [go_sem]; done) | (simp [go_sem]; omega))))))).le (by omega), HR1.out.alloc _⟩ ?_
  clear HC1 HR1 HO1 hb5 hv8 hl1 hl2
  rintro wq ⟨v, l, hB, hv8, hO, hl1, hl2, hC, hR⟩
  (have HB := hid hB; have HO := hid hO; have HC := hid hC; have HR := hid hR)
  clear hB hO hC hR
  go_wp2_with fail
  refine (s_one w (w.heap.size + 1) A c bs _ 40 _ HA.out HC.out (by omega) (by omega)).mono ?_
  rintro e w2 ⟨⟨q, rfl⟩, hC2, hG2⟩
  have HD2 := hid (show DnR w A c bs 5010 b5 w2 from ⟨v, l, HB.out.grown hG2 (fun e => by injection e with e; omega), hv8, HO.out.kept hG2 (fun k hk => by injection hk with hk; omega), hl1, hl2, hC2.le (by omega), HR.out.grown hG2 (fun e => by injection e with e; omega)⟩)
  clear hC2 hG2 HB HO HC HR hv8 hl1 hl2
  go_upto_if 15 with fail
  go_cut [6] (fun _ wx => DnR w A c bs 5020 b5 wx)
  case first =>
    obtain ⟨v, l, hB, hv8, hO, hl1, hl2, hC, hR⟩ := HD2.out
    (have HB := hid hB; have HO := hid hO; have HC := hid hC; have HR := hid hR)
    have hbl := hB.lt
    clear hB hO hC hR HD2
    cases q
    · go_wp2_with fail
      go_meet
      exact ⟨v, l, HB.out, hv8, HO.out, hl1, hl2, HC.out.le (by omega), HR.out⟩
    · go_upto_region 5 with fail
      generalize hb6 : w2.heap.size = b6
      have hb65 : b5 < b6 := by omega
      refine opq_wp (fun wx => Blk wx b6 28 #[.string (zLog).d, .string (zLog).p, .int .i64 (zLog).n] ∧ Blk wx b5 30 #[.int .i64 (v.core).minute, .int .i64 (v.core).state, .slice v.A (v.core).lines.length v.c, .int .i64 (v.core).line, .int .i64 (v.core).since, .int .i64 (v.core).cast, .int .i64 (v.core).fuel, .string (l).d, .string (l).p, .int .i64 (l).n] ∧ OwnF (w.heap.size + 2) 80 2 LineR.row wx v.A v.core.lines ∧ CurU w wx (w.heap.size + 1) A c bs 5010 ∧ Blk wx w.heap.size 30 #[.int .i64 0, .int .i64 0, .slice none 0 0, .int .i64 0, .int .i64 0, .int .i64 0, .int .i64 0, .string ByteArray.empty, .string ByteArray.empty, .int .i64 0]) ⟨blk_new hb6.symm, HB.out.alloc _, HO.out.grew (by (repeat (first | with_reducible exact grew_refl _ | with_reducible assumption | with_reducible refine grew_split ?_ | with_reducible refine grew_mk ?_ | with_reducible refine grew_plus ?_ | with_reducible refine grew_alloc ?_ | with_reducible refine grew_drew ?_ | (with_reducible refine grew_set ?_ (by first | exact Nat.le_refl _ | omega | (simp [go_sem]; done) | (simp [go_sem]; omega)))))), HC.out.grew' (by (repeat (first | with_reducible exact grew_refl _ | with_reducible assumption | with_reducible refine grew_split ?_ | with_reducible refine grew_mk ?_ | with_reducible refine grew_plus ?_ | with_reducible refine grew_alloc ?_ | with_reducible refine grew_drew ?_ | (with_reducible refine grew_set ?_ (by first | exact Nat.le_refl _ | omega | (simp [go_sem]; done) | (simp [go_sem]; omega)))))), HR.out.alloc _⟩ ?_
      clear HB HO HC HR hb6 hbl
      rintro w3 ⟨hL, hB, hO, hC, hR⟩
      (have HB := hid hB; have HO := hid hO; have HC := hid hC; have HR := hid hR)
      have HL := hid hL
      clear hL hB hO hC hR
      go_wp2_with fail
      refine (s_pick w (w.heap.size + 1) A c bs _ 2 _ HA.out HC.out (by omega) (by omega)).mono ?_
      rintro e w4 ⟨⟨n', rfl, n0, n1⟩, hC4, hG4⟩
      obtain ⟨n, hn0⟩ : ∃ k : Nat, 59 + n' = (k : Int) := ⟨(59 + n').toNat, by omega⟩
      have hn60 : n ≤ 60 := by omega
      have hw59 : IntKind.i64.wrap (59 + n') = (n : Int) := by rw [IntWalk.i64_in _ (by omega), hn0]
      have HL4 := hid (HL.out.grown hG4 (fun e => by injection e with e; omega))
      have HB4 := hid (HB.out.grown hG4 (fun e => by injection e with e; omega))
      have HR4 := hid (HR.out.grown hG4 (fun e => by injection e with e; omega))
      have HO4 := hid (HO.out.kept hG4 (fun k hk => by injection hk with hk; omega))
      have HC4 := hid hC4
      clear hC4 hG4 HL HB HR HO HC n0 n1
      go_wp2_with fail
      go_loopw [7] (fun i wr => ∃ (k : Nat) (m : LogR), k ≤ n ∧ i = .int .i64 ((n - k : Nat) : Int) ∧ Lg k m ∧ Blk wr b6 28 #[.string (m).d, .string (m).p, .int .i64 (m).n] ∧ Blk wr b5 30 #[.int .i64 (v.core).minute, .int .i64 (v.core).state, .slice v.A (v.core).lines.length v.c, .int .i64 (v.core).line, .int .i64 (v.core).since, .int .i64 (v.core).cast, .int .i64 (v.core).fuel, .string (l).d, .string (l).p, .int .i64 (l).n] ∧ OwnF (w.heap.size + 2) 80 2 LineR.row wr v.A v.core.lines ∧ CurU w wr (w.heap.size + 1) A c bs 5012 ∧ Blk wr w.heap.size 30 #[.int .i64 0, .int .i64 0, .slice none 0 0, .int .i64 0, .int .i64 0, .int .i64 0, .int .i64 0, .string ByteArray.empty, .string ByteArray.empty, .int .i64 0]) (fun i _ => (intOf i).toNat)
      case atStart => exact ⟨0, zLog, by omega, by simp, ⟨by decide, by decide, by decide⟩, HL4.out, HB4.out, HO4.out, HC4.out.le (by omega), HR4.out⟩
      case round =>
        clear HL4 HB4 HO4 HC4 HR4 hw59
        obtain ⟨k, m, hk, rfl, hm, hL, hB, hO, hC, hR⟩ := hrel
        (have HB := hid hB; have HO := hid hO; have HC := hid hC; have HR := hid hR)
        have HL := hid hL
        have HM := hid hm
        obtain ⟨z1, z2, z3⟩ := hm
        have HE2 := hid (HE.out.grew hC.world)
        have hll := hL.lt
        (have hc0 := hL.cell 0; have hc1 := hL.cell 1; have hc2 := hL.cell 2; simp [go_sem] at hc0 hc1 hc2)
        (have fc0 := hL.frozen 0; have fc1 := hL.frozen 1; have fc2 := hL.frozen 2)
        have hbl := hB.lt
        (have fd0 := hB.frozen 0; have fd1 := hB.frozen 1; have fd2 := hB.frozen 2; have fd3 := hB.frozen 3; have fd4 := hB.frozen 4; have fd5 := hB.frozen 5; have fd6 := hB.frozen 6; have fd7 := hB.frozen 7; have fd8 := hB.frozen 8; have fd9 := hB.frozen 9)
        obtain ⟨⟨_, hd7⟩, ⟨_, hd8⟩, ⟨_, hd9⟩, _⟩ := hB.some3 7 (by simp)
        clear hL hB hO hC hR
        by_cases hlt : k < n
        · have hpos : (0 : Int) < ((n - k : Nat) : Int) := by omega
          have hsub : IntKind.i64.wrap (((n - k : Nat) : Int) - 1) = ((n - (k + 1) : Nat) : Int) := by rw [IntWalk.i64_in _ (by omega)]; omega
          go_wp2_with fail
          obtain ⟨m2, o2, hm2⟩ : ∃ m2 o2, appF m ⟨⟨#[120]⟩, ⟨#[]⟩⟩ = (m2, o2) := ⟨_, _, rfl⟩
          have hM2 : Lg (k + 1) m2 := by have h := HM.out.app ⟨⟨#[120]⟩, ⟨#[]⟩⟩; rw [hm2] at h; exact h
          refine (s_AppendRecord m ⟨⟨#[120]⟩, ⟨#[]⟩⟩ _ (by omega) (by omega) (by decide) (by decide) (HE2.out.grew (by (repeat (first | with_reducible exact grew_refl _ | with_reducible assumption | with_reducible refine grew_split ?_ | with_reducible refine grew_mk ?_ | with_reducible refine grew_plus ?_ | with_reducible refine grew_alloc ?_ | with_reducible refine grew_drew ?_ | (with_reducible refine grew_set ?_ (by first | exact Nat.le_refl _ | omega | (simp [go_sem]; done) | (simp [go_sem]; omega)))))))).mono ?_
          rw [hm2]
          have HM2 := hid hM2
          clear hm2 hM2
          rintro e w' ⟨rfl, gx, rfl⟩
          go_wp2_with fail
          go_roundw
          case rel =>
            refine ⟨k + 1, m2, by omega, rfl, HM2.out, ?_, ?_, ?_, ?_, ?_⟩
            · have h := ((HL.out.set_ 0 (.string m2.d)).set_ 1 (.string m2.p)).set_ 2 (.int .i64 m2.n)
              simp only [List.setIfInBounds_toArray, List.set_cons_zero, List.set_cons_succ] at h
              exact blk_grew h (by (repeat (first | with_reducible exact grew_refl _ | with_reducible assumption | with_reducible refine grew_split ?_ | with_reducible refine grew_mk ?_ | with_reducible refine grew_plus ?_ | with_reducible refine grew_alloc ?_ | with_reducible refine grew_drew ?_ | (with_reducible refine grew_set ?_ (by first | exact Nat.le_refl _ | omega | (simp [go_sem]; done) | (simp [go_sem]; omega))))))
            · have h : Blk (((wr.setCell ⟨b6, 0, none⟩ (.string m2.d)).setCell ⟨b6, 1, none⟩ (.string m2.p)).setCell ⟨b6, 2, none⟩ (.int .i64 m2.n)) b5 30 #[.int .i64 (v.core).minute, .int .i64 (v.core).state, .slice v.A (v.core).lines.length v.c, .int .i64 (v.core).line, .int .i64 (v.core).since, .int .i64 (v.core).cast, .int .i64 (v.core).fuel, .string (l).d, .string (l).p, .int .i64 (l).n] := (((HB.out.far (by simp; omega) _).far (by simp; omega) _).far (by simp; omega) _)
              exact blk_grew h (by (repeat (first | with_reducible exact grew_refl _ | with_reducible assumption | with_reducible refine grew_split ?_ | with_reducible refine grew_mk ?_ | with_reducible refine grew_plus ?_ | with_reducible refine grew_alloc ?_ | with_reducible refine grew_drew ?_ | (with_reducible refine grew_set ?_ (by first | exact Nat.le_refl _ | omega | (simp [go_sem]; done) | (simp [go_sem]; omega))))))
            · exact OwnF.grew (OwnF.apart HO.out HL.out (by decide) (grown_set (g := b6) (grown_set (grown_set (grown_refl _ _))))) (by (repeat (first | with_reducible exact grew_refl _ | with_reducible assumption | with_reducible refine grew_split ?_ | with_reducible refine grew_mk ?_ | with_reducible refine grew_plus ?_ | with_reducible refine grew_alloc ?_ | with_reducible refine grew_drew ?_ | (with_reducible refine grew_set ?_ (by first | exact Nat.le_refl _ | omega | (simp [go_sem]; done) | (simp [go_sem]; omega))))))
            · exact CurU.grew' (HC.out.kept (row := some b6) (grown_set (g := b6) (grown_set (grown_set (grown_refl _ _)))) (fun k hk => by injection hk with hk; omega)) (by (repeat (first | with_reducible exact grew_refl _ | with_reducible assumption | with_reducible refine grew_split ?_ | with_reducible refine grew_mk ?_ | with_reducible refine grew_plus ?_ | with_reducible refine grew_alloc ?_ | with_reducible refine grew_drew ?_ | (with_reducible refine grew_set ?_ (by first | exact Nat.le_refl _ | omega | (simp [go_sem]; done) | (simp [go_sem]; omega))))))
            · have h : Blk (((wr.setCell ⟨b6, 0, none⟩ (.string m2.d)).setCell ⟨b6, 1, none⟩ (.string m2.p)).setCell ⟨b6, 2, none⟩ (.int .i64 m2.n)) w.heap.size 30 #[.int .i64 0, .int .i64 0, .slice none 0 0, .int .i64 0, .int .i64 0, .int .i64 0, .int .i64 0, .string ByteArray.empty, .string ByteArray.empty, .int .i64 0] := (((HR.out.far (by simp; omega) _).far (by simp; omega) _).far (by simp; omega) _)
              exact blk_grew h (by (repeat (first | with_reducible exact grew_refl _ | with_reducible assumption | with_reducible refine grew_split ?_ | with_reducible refine grew_mk ?_ | with_reducible refine grew_plus ?_ | with_reducible refine grew_alloc ?_ | with_reducible refine grew_drew ?_ | (with_reducible refine grew_set ?_ (by first | exact Nat.le_refl _ | omega | (simp [go_sem]; done) | (simp [go_sem]; omega))))))
          case measure => simp [intOf]; omega
        · have hz : n - k = 0 := by omega
          rw [hz]
          go_wp2_with fail
          go_meet
          refine ⟨v, m, ?_, hv8, ?_, by omega, by omega, ?_, ?_⟩
          · have h := ((HB.out.set_ 7 (.string m.d)).set_ 8 (.string m.p)).set_ 9 (.int .i64 m.n)
            simp only [List.setIfInBounds_toArray, List.set_cons_zero, List.set_cons_succ] at h
            exact h
          · exact OwnF.apart HO.out HB.out (by decide) (grown_set (g := b5) (grown_set (grown_set (grown_refl _ _))))
          · exact (HC.out.kept (row := some b5) (grown_set (g := b5) (grown_set (grown_set (grown_refl _ _)))) (fun k hk => by injection hk with hk; omega)).le (by omega)
          · exact (((HR.out.far (by simp; omega) _).far (by simp; omega) _).far (by simp; omega) _)
  case rest =>
    clear HD2
    obtain ⟨v, l, hB, hv8, hO, hl1, hl2, hC, hR⟩ := hcut
    (have HB := hid hB; have HO := hid hO; have HC := hid hC; have HR := hid hR)
    have hbl := hB.lt
    (have hc0 := hB.cell 0; have hc1 := hB.cell 1; have hc2 := hB.cell 2; have hc3 := hB.cell 3; have hc4 := hB.cell 4; have hc5 := hB.cell 5; have hc6 := hB.cell 6; have hc7 := hB.cell 7; have hc8 := hB.cell 8; have hc9 := hB.cell 9; simp [go_sem] at hc0 hc1 hc2 hc3 hc4 hc5 hc6 hc7 hc8 hc9)
    clear hB hO hC hR
    go_wp2_with fail
    refine (s_command w (w.heap.size + 1) A c bs _ v l _ HA.out (HC.out.grew' (by (repeat (first | with_reducible exact grew_refl _ | with_reducible assumption | with_reducible refine grew_split ?_ | with_reducible refine grew_mk ?_ | with_reducible refine grew_plus ?_ | with_reducible refine grew_alloc ?_ | with_reducible refine grew_drew ?_ | (with_reducible refine grew_set ?_ (by first | exact Nat.le_refl _ | omega | (simp [go_sem]; done) | (simp [go_sem]; omega))))))) (by omega) (by omega)).mono ?_
    rintro e w3 ⟨⟨x, rfl, hx⟩, hC3, hG3⟩
    have HC3 := hid hC3
    have HB3 := hid (HB.out.grown hG3 (fun e => by injection e with e; omega))
    have HR3 := hid (HR.out.grown hG3 (fun e => by injection e with e; omega))
    have HO3 := hid (HO.out.kept hG3 (fun k hk => by injection hk with hk; omega))
    clear hc0 hc1 hc2 hc3 hc4 hc5 hc6 hc7 hc8 hc9
    clear hC3 hG3 HB HO HC HR hbl
    go_wp2_with fail
    refine (s_one w (w.heap.size + 1) A c bs _ 8 _ HA.out HC3.out (by omega) (by omega)).mono ?_
    rintro e w4 ⟨⟨q2, rfl⟩, hC4, hG4⟩
    have HC4 := hid hC4
    have HB4 := hid (HB3.out.grown hG4 (fun e => by injection e with e; omega))
    have HR4 := hid (HR3.out.grown hG4 (fun e => by injection e with e; omega))
    have HO4 := hid (HO3.out.kept hG4 (fun k hk => by injection hk with hk; omega))
    clear hC4 hG4 HB3 HO3 HC3 HR3
    cases q2
    · (have hc0 := HB4.out.cell 0; have hc1 := HB4.out.cell 1; have hc2 := HB4.out.cell 2; have hc3 := HB4.out.cell 3; have hc4 := HB4.out.cell 4; have hc5 := HB4.out.cell 5; have hc6 := HB4.out.cell 6; have hc7 := HB4.out.cell 7; have hc8 := HB4.out.cell 8; have hc9 := HB4.out.cell 9; simp [go_sem] at hc0 hc1 hc2 hc3 hc4 hc5 hc6 hc7 hc8 hc9)
      (have hr0 := HR4.out.cell 0; have hr1 := HR4.out.cell 1; have hr2 := HR4.out.cell 2; have hr3 := HR4.out.cell 3; have hr4 := HR4.out.cell 4; have hr5 := HR4.out.cell 5; have hr6 := HR4.out.cell 6; have hr7 := HR4.out.cell 7; have hr8 := HR4.out.cell 8; have hr9 := HR4.out.cell 9; simp [go_sem] at hr0 hr1 hr2 hr3 hr4 hr5 hr6 hr7 hr8 hr9)
      (have fr0 := HR4.out.frozen 0; have fr1 := HR4.out.frozen 1; have fr2 := HR4.out.frozen 2; have fr3 := HR4.out.frozen 3; have fr4 := HR4.out.frozen 4; have fr5 := HR4.out.frozen 5; have fr6 := HR4.out.frozen 6; have fr7 := HR4.out.frozen 7; have fr8 := HR4.out.frozen 8; have fr9 := HR4.out.frozen 9)
      have hbl := HB4.out.lt
      have hrl := HR4.out.lt
      have HW := hid HC4.out.world
      go_wp2_with fail
      refine bodyPost_ret (v := .tuple #[ConV.val ⟨v, l⟩, .string x]) (by simp [results, Tryz.results7, go_sem, *]) rfl ?_
      have h := HW.out
      exact ⟨⟨v, l, x, rfl, hv8, (HO4.out.kept (row := some (w.heap.size)) (by (repeat (first | with_reducible exact grown_refl _ _ | with_reducible refine grown_set ?_))) (fun k hk => by injection hk with hk; omega)).sl, hl1, hl2, by omega⟩, by (repeat (first | with_reducible exact grew_refl _ | with_reducible assumption | with_reducible refine grew_split ?_ | with_reducible refine grew_mk ?_ | with_reducible refine grew_plus ?_ | with_reducible refine grew_alloc ?_ | with_reducible refine grew_drew ?_ | (with_reducible refine grew_set ?_ (by first | exact Nat.le_refl _ | omega | (simp [go_sem]; done) | (simp [go_sem]; omega)))))⟩
    · go_wp2_with fail
      refine (s_spoilt w (w.heap.size + 1) A c bs _ x ⟨#[32, 48, 49, 97, 64, 35, 44]⟩ _ HA.out HC4.out (by omega) (by omega) (by decide) (by decide)).mono ?_
      rintro e w5 ⟨⟨y, rfl, hy⟩, hC5, hG5⟩
      have HW := hid hC5.world
      have HB5 := hid (HB4.out.grown hG5 (fun e => by injection e with e; omega))
      have HR5 := hid (HR4.out.grown hG5 (fun e => by injection e with e; omega))
      have HO5 := hid (HO4.out.kept hG5 (fun k hk => by injection hk with hk; omega))
      clear hC5 hG5
      (have hc0 := HB5.out.cell 0; have hc1 := HB5.out.cell 1; have hc2 := HB5.out.cell 2; have hc3 := HB5.out.cell 3; have hc4 := HB5.out.cell 4; have hc5 := HB5.out.cell 5; have hc6 := HB5.out.cell 6; have hc7 := HB5.out.cell 7; have hc8 := HB5.out.cell 8; have hc9 := HB5.out.cell 9; simp [go_sem] at hc0 hc1 hc2 hc3 hc4 hc5 hc6 hc7 hc8 hc9)
      (have hr0 := HR5.out.cell 0; have hr1 := HR5.out.cell 1; have hr2 := HR5.out.cell 2; have hr3 := HR5.out.cell 3; have hr4 := HR5.out.cell 4; have hr5 := HR5.out.cell 5; have hr6 := HR5.out.cell 6; have hr7 := HR5.out.cell 7; have hr8 := HR5.out.cell 8; have hr9 := HR5.out.cell 9; simp [go_sem] at hr0 hr1 hr2 hr3 hr4 hr5 hr6 hr7 hr8 hr9)
      (have fr0 := HR5.out.frozen 0; have fr1 := HR5.out.frozen 1; have fr2 := HR5.out.frozen 2; have fr3 := HR5.out.frozen 3; have fr4 := HR5.out.frozen 4; have fr5 := HR5.out.frozen 5; have fr6 := HR5.out.frozen 6; have fr7 := HR5.out.frozen 7; have fr8 := HR5.out.frozen 8; have fr9 := HR5.out.frozen 9)
      have hbl := HB5.out.lt
      have hrl := HR5.out.lt
      go_wp2_with fail
      refine bodyPost_ret (v := .tuple #[ConV.val ⟨v, l⟩, .string y]) (by simp [results, Tryz.results7, go_sem, *]) rfl ?_
      have h := HW.out
      exact ⟨⟨v, l, y, rfl, hv8, (HO5.out.kept (row := some (w.heap.size)) (by (repeat (first | with_reducible exact grown_refl _ _ | with_reducible refine grown_set ?_))) (fun k hk => by injection hk with hk; omega)).sl, hl1, hl2, by omega⟩, by (repeat (first | with_reducible exact grew_refl _ | with_reducible assumption | with_reducible refine grew_split ?_ | with_reducible refine grew_mk ?_ | with_reducible refine grew_plus ?_ | with_reducible refine grew_alloc ?_ | with_reducible refine grew_drew ?_ | (with_reducible refine grew_set ?_ (by first | exact Nat.le_refl _ | omega | (simp [go_sem]; done) | (simp [go_sem]; omega)))))⟩
end Go.Proofs.YtecghfcgahgfiaaGreatDoor
/- The reference's draw for the law on scripts: a console and a text of some lines. -/
namespace Go.Proofs.YtecghfcgahgfiaaGreatDoor
open Go.RowKit

attribute [local go_sem ↓] Go.wp_at_zero Go.wp_at_succ
set_option maxHeartbeats 3000000 in
set_option maxRecDepth 100000 in
theorem s_DrawRunScript (A : Option Addr) (c : Nat) (bs : List Int) (w : World) (hA : Code0 w A bs) (hE : Env w) :
    Calls Tryz.prog 14 #[.slice A bs.length c] w fun e w' => (∃ (v : DayV) (l : LogR) (t : ByteArray), e = .returned (.tuple #[ConV.val ⟨v, l⟩, .string t]) ∧ v.core.lines.length ≤ 8 ∧ Sl w' 2 LineR.row v.A v.core.lines ∧ l.d.size ≤ 30000 ∧ l.p.size ≤ 30000 ∧ t.size ≤ 300) ∧ ∃ g, w' = plus w g := by
  have HA := hid hA
  have HE := hid hE
  clear hA hE
  go_enter Tryz.func14, Tryz.ntmps14
  go_wp2_with fail
  refine (s_console w (w.heap.size + 1) A c bs 0 _ HA.out HE.out (cur_newK w _ A c bs _ (by (repeat (first | with_reducible exact grew_refl _ | with_reducible assumption | with_reducible refine grew_split ?_ | with_reducible refine grew_mk ?_ | with_reducible refine grew_plus ?_ | with_reducible refine grew_alloc ?_ | with_reducible refine grew_drew ?_ | (with_reducible refine grew_set ?_ (by first | exact Nat.le_refl _ | omega | (simp [go_sem]; done) | (simp [go_sem]; omega)))))) (by simp)) (by omega)).mono ?_
  rintro e w1 ⟨⟨v, l, rfl, hv8, hO, hl1, hl2⟩, hC1, hG1⟩
  have HO1 := hid (hO.less (B' := w.heap.size + 2) (by simp))
  have HC1 := hid hC1
  have HR1 := hid (((blk_new (w := w) (b := w.heap.size) (t := 30) (cs := #[.int .i64 0, .int .i64 0, .slice none 0 0, .int .i64 0, .int .i64 0, .int .i64 0, .int .i64 0, .string ByteArray.empty, .string ByteArray.empty, .int .i64 0]) rfl).alloc _).grown hG1 (fun e => by injection e with e; omega))
  clear hO hC1 hG1
  go_upto_region 3 with fail
  generalize hb5 : w1.heap.size = b5
  have hb5w : w.heap.size + 2 ≤ b5 := by rw [← hb5]; have h := HC1.out.lt; omega
  refine opq_wp (fun wx => DnR w A c bs 5000 b5 wx) ⟨v, l, blk_new hb5.symm, hv8, HO1.out.grew (by (repeat (first | with_reducible exact grew_refl _ | with_reducible assumption | with_reducible refine grew_split ?_ | with_reducible refine grew_mk ?_ | with_reducible refine grew_plus ?_ | with_reducible refine grew_alloc ?_ | with_reducible refine grew_drew ?_ | (with_reducible refine grew_set ?_ (by first | exact Nat.le_refl _ | omega | (simp [go_sem]; done) | (simp [go_sem]; omega)))))), hl1, hl2, (HC1.out.grew' (by (repeat (first | with_reducible exact grew_refl _ | with_reducible assumption | with_reducible refine grew_split ?_ | with_reducible refine grew_mk ?_ | with_reducible refine grew_plus ?_ | with_reducible refine grew_alloc ?_ | with_reducible refine grew_drew ?_ | (with_reducible refine grew_set ?_ (by first | exact Nat.le_refl _ | omega | (simp [go_sem]; done) | (simp [go_sem]; omega))))))).le (by omega), HR1.out.alloc _⟩ ?_
  clear HC1 HR1 HO1 hb5 hv8 hl1 hl2
  rintro wq ⟨v, l, hB, hv8, hO, hl1, hl2, hC, hR⟩
  (have HB := hid hB; have HO := hid hO; have HC := hid hC; have HR := hid hR)
  clear hB hO hC hR
  have hbl := HB.out.lt
  (have hc0 := HB.out.cell 0; have hc1 := HB.out.cell 1; have hc2 := HB.out.cell 2; have hc3 := HB.out.cell 3; have hc4 := HB.out.cell 4; have hc5 := HB.out.cell 5; have hc6 := HB.out.cell 6; have hc7 := HB.out.cell 7; have hc8 := HB.out.cell 8; have hc9 := HB.out.cell 9; simp [go_sem] at hc0 hc1 hc2 hc3 hc4 hc5 hc6 hc7 hc8 hc9)
  go_wp2_with fail
  refine (s_command w (w.heap.size + 1) A c bs _ v l _ HA.out (HC.out.grew' (by (repeat (first | with_reducible exact grew_refl _ | with_reducible assumption | with_reducible refine grew_split ?_ | with_reducible refine grew_mk ?_ | with_reducible refine grew_plus ?_ | with_reducible refine grew_alloc ?_ | with_reducible refine grew_drew ?_ | (with_reducible refine grew_set ?_ (by first | exact Nat.le_refl _ | omega | (simp [go_sem]; done) | (simp [go_sem]; omega))))))) (by omega) (by omega)).mono ?_
  rintro e w2 ⟨⟨x, rfl, hx⟩, hC2, hG2⟩
  have HC2 := hid hC2
  have HB2 := hid (HB.out.grown hG2 (fun e => by injection e with e; omega))
  have HR2 := hid (HR.out.grown hG2 (fun e => by injection e with e; omega))
  have HO2 := hid (HO.out.kept hG2 (fun k hk => by injection hk with hk; omega))
  clear hc0 hc1 hc2 hc3 hc4 hc5 hc6 hc7 hc8 hc9
  clear hC2 hG2 HB HO HC HR hbl
  go_wp2_with fail
  refine (s_pick w (w.heap.size + 1) A c bs _ 5 _ HA.out HC2.out (by omega) (by omega)).mono ?_
  rintro e w3 ⟨⟨n', rfl, n0, n1⟩, hC3, hG3⟩
  obtain ⟨n, hn0⟩ : ∃ k : Nat, n' = (k : Int) := ⟨n'.toNat, by omega⟩
  subst hn0
  have hn4 : n ≤ 4 := by omega
  have HC3 := hid hC3
  have HB3 := hid (HB2.out.grown hG3 (fun e => by injection e with e; omega))
  have HR3 := hid (HR2.out.grown hG3 (fun e => by injection e with e; omega))
  have HO3 := hid (HO2.out.kept hG3 (fun k hk => by injection hk with hk; omega))
  clear hC3 hG3 HB2 HO2 HC2 HR2 n0 n1
  go_upto_block 0 with fail
  go_cut [6, 7] (fun t _ wx => ∃ y : ByteArray, t = .string y ∧ y.size ≤ 200 ∧ Blk wx b5 30 #[.int .i64 (v.core).minute, .int .i64 (v.core).state, .slice v.A (v.core).lines.length v.c, .int .i64 (v.core).line, .int .i64 (v.core).since, .int .i64 (v.core).cast, .int .i64 (v.core).fuel, .string (l).d, .string (l).p, .int .i64 (l).n] ∧ OwnF (w.heap.size + 2) 80 2 LineR.row wx v.A v.core.lines ∧ CurU w wx (w.heap.size + 1) A c bs 5500 ∧ Blk wx w.heap.size 30 #[.int .i64 0, .int .i64 0, .slice none 0 0, .int .i64 0, .int .i64 0, .int .i64 0, .int .i64 0, .string ByteArray.empty, .string ByteArray.empty, .int .i64 0])
  case first =>
    go_wp2_with fail
    go_loopw [6, 7] (fun t i wr => ∃ (k : Nat) (y : ByteArray), k ≤ n ∧ i = .int .i64 ((n - k : Nat) : Int) ∧ t = .string y ∧ y.size ≤ 40 + 40 * k ∧ Blk wr b5 30 #[.int .i64 (v.core).minute, .int .i64 (v.core).state, .slice v.A (v.core).lines.length v.c, .int .i64 (v.core).line, .int .i64 (v.core).since, .int .i64 (v.core).cast, .int .i64 (v.core).fuel, .string (l).d, .string (l).p, .int .i64 (l).n] ∧ OwnF (w.heap.size + 2) 80 2 LineR.row wr v.A v.core.lines ∧ CurU w wr (w.heap.size + 1) A c bs (5100 + 70 * (k : Int)) ∧ Blk wr w.heap.size 30 #[.int .i64 0, .int .i64 0, .slice none 0 0, .int .i64 0, .int .i64 0, .int .i64 0, .int .i64 0, .string ByteArray.empty, .string ByteArray.empty, .int .i64 0]) (fun _ i _ => (intOf i).toNat)
    case atStart => exact ⟨0, x, by omega, by simp, rfl, by omega, HB3.out, HO3.out, HC3.out.le (by omega), HR3.out⟩
    case round =>
      clear HB3 HO3 HC3 HR3
      obtain ⟨k, y, hk, rfl, rfl, hy, hB, hO, hC, hR⟩ := hrel
      (have HB := hid hB; have HO := hid hO; have HC := hid hC; have HR := hid hR)
      have hbl := hB.lt
      (have hc0 := hB.cell 0; have hc1 := hB.cell 1; have hc2 := hB.cell 2; have hc3 := hB.cell 3; have hc4 := hB.cell 4; have hc5 := hB.cell 5; have hc6 := hB.cell 6; have hc7 := hB.cell 7; have hc8 := hB.cell 8; have hc9 := hB.cell 9; simp [go_sem] at hc0 hc1 hc2 hc3 hc4 hc5 hc6 hc7 hc8 hc9)
      clear hB hO hC hR
      by_cases hlt : k < n
      · have hpos : (0 : Int) < ((n - k : Nat) : Int) := by omega
        have hsub : IntKind.i64.wrap (((n - k : Nat) : Int) - 1) = ((n - (k + 1) : Nat) : Int) := by rw [IntWalk.i64_in _ (by omega)]; omega
        have hs1 : ¬ 9223372036854775807 < y.size + 1 := by omega
        go_wp2_with fail
        refine (s_command w (w.heap.size + 1) A c bs _ v l _ HA.out (HC.out.grew' (by (repeat (first | with_reducible exact grew_refl _ | with_reducible assumption | with_reducible refine grew_split ?_ | with_reducible refine grew_mk ?_ | with_reducible refine grew_plus ?_ | with_reducible refine grew_alloc ?_ | with_reducible refine grew_drew ?_ | (with_reducible refine grew_set ?_ (by first | exact Nat.le_refl _ | omega | (simp [go_sem]; done) | (simp [go_sem]; omega))))))) (by omega) (by omega)).mono ?_
        rintro e w4 ⟨⟨z, rfl, hz⟩, hC4, hG4⟩
        have hs2 : ¬ 9223372036854775807 < y.size + 1 + z.size := by omega
        have HC4 := hid hC4
        have HB4 := hid (HB.out.grown hG4 (fun e => by injection e with e; omega))
        have HR4 := hid (HR.out.grown hG4 (fun e => by injection e with e; omega))
        have HO4 := hid (HO.out.kept hG4 (fun k hk => by injection hk with hk; omega))
        clear hc0 hc1 hc2 hc3 hc4 hc5 hc6 hc7 hc8 hc9
        clear hC4 hG4 HB HO HC HR hbl
        go_wp2_with fail
        go_roundw
        case rel => exact ⟨k + 1, _, by omega, rfl, rfl, by simp only [ByteArray.size_append]; (have e1 : (⟨#[10]⟩ : ByteArray).size = 1 := rfl); omega, HB4.out, HO4.out, HC4.out.le (by omega), HR4.out⟩
        case measure => simp [intOf]; omega
      · have hz : n - k = 0 := by omega
        rw [hz]
        go_wp2_with fail
        go_meet
        exact ⟨y, rfl, by omega, HB.out, HO.out, HC.out.le (by omega), HR.out⟩
  case rest =>
    clear HB3 HO3 HC3 HR3
    obtain ⟨y, rfl, hy, hB, hO, hC, hR⟩ := hcut
    (have HB := hid hB; have HO := hid hO; have HC := hid hC; have HR := hid hR)
    clear hB hO hC hR
    go_wp2_with fail
    refine (s_one w (w.heap.size + 1) A c bs _ 20 _ HA.out HC.out (by omega) (by omega)).mono ?_
    rintro e w4 ⟨⟨q, rfl⟩, hC4, hG4⟩
    have HC4 := hid hC4
    have HB4 := hid (HB.out.grown hG4 (fun e => by injection e with e; omega))
    have HR4 := hid (HR.out.grown hG4 (fun e => by injection e with e; omega))
    have HO4 := hid (HO.out.kept hG4 (fun k hk => by injection hk with hk; omega))
    clear hC4 hG4 HB HO HC HR
    go_upto_if 30 with fail
    go_cut [6] (fun t wx => ∃ y : ByteArray, t = .string y ∧ y.size ≤ 200 ∧ Blk wx b5 30 #[.int .i64 (v.core).minute, .int .i64 (v.core).state, .slice v.A (v.core).lines.length v.c, .int .i64 (v.core).line, .int .i64 (v.core).since, .int .i64 (v.core).cast, .int .i64 (v.core).fuel, .string (l).d, .string (l).p, .int .i64 (l).n] ∧ OwnF (w.heap.size + 2) 80 2 LineR.row wx v.A v.core.lines ∧ CurU w wx (w.heap.size + 1) A c bs 5600 ∧ Blk wx w.heap.size 30 #[.int .i64 0, .int .i64 0, .slice none 0 0, .int .i64 0, .int .i64 0, .int .i64 0, .int .i64 0, .string ByteArray.empty, .string ByteArray.empty, .int .i64 0])
    case first =>
      cases q
      · go_wp2_with fail
        go_meet
        exact ⟨y, rfl, hy, HB4.out, HO4.out, HC4.out.le (by omega), HR4.out⟩
      · go_wp2_with fail
        refine (s_pick w (w.heap.size + 1) A c bs _ 2 _ HA.out HC4.out (by omega) (by omega)).mono ?_
        rintro e w5 ⟨⟨n', rfl, n0, n1⟩, hC5, hG5⟩
        obtain ⟨n, hn0⟩ : ∃ k : Nat, 29 + n' = (k : Int) := ⟨(29 + n').toNat, by omega⟩
        have hn30 : n ≤ 30 := by omega
        have hn2 : n' ≤ 1 := by omega
        clear n1
        have HC5 := hid hC5
        have HB5 := hid (HB4.out.grown hG5 (fun e => by injection e with e; omega))
        have HR5 := hid (HR4.out.grown hG5 (fun e => by injection e with e; omega))
        have HO5 := hid (HO4.out.kept hG5 (fun k hk => by injection hk with hk; omega))
        clear hC5 hG5 HB4 HO4 HC4 HR4
        go_wp2_with fail
        go_loopw [6, 8] (fun t i wr => ∃ (k : Nat) (y : ByteArray), k ≤ n ∧ i = .int .i64 ((n - k : Nat) : Int) ∧ t = .string y ∧ y.size ≤ k ∧ wr = w5) (fun _ i _ => (intOf i).toNat)
        case atStart => exact ⟨0, ⟨#[]⟩, by omega, by simp, rfl, by decide, rfl⟩
        case round =>
          obtain ⟨k, y, hk, rfl, rfl, hy, rfl⟩ := hrel
          by_cases hlt : k < n
          · have hpos : (0 : Int) < ((n - k : Nat) : Int) := by omega
            have hsub : IntKind.i64.wrap (((n - k : Nat) : Int) - 1) = ((n - (k + 1) : Nat) : Int) := by rw [IntWalk.i64_in _ (by omega)]; omega
            have hs1 : ¬ 9223372036854775807 < y.size + 1 := by omega
            go_wp2_with fail
            go_roundw
            case rel => exact ⟨k + 1, _, by omega, rfl, rfl, by simp only [ByteArray.size_append]; (have e1 : (⟨#[10]⟩ : ByteArray).size = 1 := rfl); omega, trivial⟩
            case measure => simp [intOf]; omega
          · have hz : n - k = 0 := by omega
            rw [hz]
            go_wp2_with fail
            go_meet
            exact ⟨y, rfl, by omega, HB5.out, HO5.out, HC5.out.le (by omega), HR5.out⟩
    case rest =>
      clear HB4 HO4 HC4 HR4
      obtain ⟨t, rfl, ht, hB, hO, hC, hR⟩ := hcut
      (have hc0 := hB.cell 0; have hc1 := hB.cell 1; have hc2 := hB.cell 2; have hc3 := hB.cell 3; have hc4 := hB.cell 4; have hc5 := hB.cell 5; have hc6 := hB.cell 6; have hc7 := hB.cell 7; have hc8 := hB.cell 8; have hc9 := hB.cell 9; simp [go_sem] at hc0 hc1 hc2 hc3 hc4 hc5 hc6 hc7 hc8 hc9)
      (have hr0 := hR.cell 0; have hr1 := hR.cell 1; have hr2 := hR.cell 2; have hr3 := hR.cell 3; have hr4 := hR.cell 4; have hr5 := hR.cell 5; have hr6 := hR.cell 6; have hr7 := hR.cell 7; have hr8 := hR.cell 8; have hr9 := hR.cell 9; simp [go_sem] at hr0 hr1 hr2 hr3 hr4 hr5 hr6 hr7 hr8 hr9)
      (have fr0 := hR.frozen 0; have fr1 := hR.frozen 1; have fr2 := hR.frozen 2; have fr3 := hR.frozen 3; have fr4 := hR.frozen 4; have fr5 := hR.frozen 5; have fr6 := hR.frozen 6; have fr7 := hR.frozen 7; have fr8 := hR.frozen 8; have fr9 := hR.frozen 9)
      have hbl := hB.lt
      have hrl := hR.lt
      have HW := hid hC.world
      have HO := hid hO
      clear hB hO hC hR
      go_wp2_with fail
      refine bodyPost_ret (v := .tuple #[ConV.val ⟨v, l⟩, .string t]) (by simp [results, Tryz.results14, go_sem, *]) rfl ?_
      have h := HW.out
      exact ⟨⟨v, l, t, rfl, hv8, (HO.out.kept (row := some (w.heap.size)) (by (repeat (first | with_reducible exact grown_refl _ _ | with_reducible refine grown_set ?_))) (fun k hk => by injection hk with hk; omega)).sl, hl1, hl2, by omega⟩, by (repeat (first | with_reducible exact grew_refl _ | with_reducible assumption | with_reducible refine grew_split ?_ | with_reducible refine grew_mk ?_ | with_reducible refine grew_plus ?_ | with_reducible refine grew_alloc ?_ | with_reducible refine grew_drew ?_ | (with_reducible refine grew_set ?_ (by first | exact Nat.le_refl _ | omega | (simp [go_sem]; done) | (simp [go_sem]; omega)))))⟩
end Go.Proofs.YtecghfcgahgfiaaGreatDoor
