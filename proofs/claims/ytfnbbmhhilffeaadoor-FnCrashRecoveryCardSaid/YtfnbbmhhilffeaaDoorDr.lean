/- The reference's draws of logs: DrawAppendRecord, DrawRecoverLog. -/
import Derived.Test.YtfnbbmhhilffeaaDoorDq
namespace Go.Proofs.YtfnbbmhhilffeaaDoor
open Go.RowKit

attribute [local go_sem ↓] Go.wp_at_zero Go.wp_at_succ
/-- What is known while DrawAppendRecord draws. -/
def AR (w : World) (A : Option Addr) (c : Nat) (bs : List Int) (M : Int) (b : Nat) (wx : World) : Prop :=
  ∃ l : LogR, Lbig l ∧ Blk wx b 25 #[.string (l).d, .string (l).p, .int .i64 (l).n] ∧ CurU w wx (w.heap.size + 2) A c bs M ∧ Blk wx w.heap.size 25 #[.string ByteArray.empty, .string ByteArray.empty, .int .i64 0] ∧ Blk wx (w.heap.size + 1) 27 #[.string ByteArray.empty, .string ByteArray.empty]
set_option maxHeartbeats 4000000 in
set_option maxRecDepth 100000 in
theorem s_DrawAppend (A : Option Addr) (c : Nat) (bs : List Int) (w : World) (hA : Code0 w A bs) (hE : Env w) :
    Calls Tryd.prog 7 #[.slice A bs.length c] w fun e w' => (∃ (l : LogR) (r : RecR), e = .returned (.tuple #[l.val, r.val]) ∧ Lbig l ∧ r.c.size ≤ 20 ∧ r.r.size ≤ 20) ∧ ∃ g, w' = plus w g := by
  have HA := hid hA
  have HE := hid hE
  clear hA hE
  go_enter Tryd.func7, Tryd.ntmps7
  go_wp2_with fail
  refine (s_anyLog w (w.heap.size + 2) A c bs 0 _ HA.out HE.out (cur_at w _ A c bs _ (by (repeat (first | with_reducible exact grew_refl _ | with_reducible assumption | with_reducible refine grew_split ?_ | with_reducible refine grew_mk ?_ | with_reducible refine grew_plus ?_ | with_reducible refine grew_alloc ?_ | with_reducible refine grew_drew ?_ | (with_reducible refine grew_set ?_ (by first | exact Nat.le_refl _ | omega | (simp [go_sem]; done) | (simp [go_sem]; omega)))))) (by simp)) (by omega)).mono ?_
  rintro e w1 ⟨⟨l0, rfl, hl⟩, hC1, hG1⟩
  have HL0 := hid (show Lbig l0 from ⟨by have := hl.1; omega, hl.2.1, by have := hl.2.2; omega⟩)
  have HC1 := hid hC1
  have HR1 := hid (((blk_new (w := w) (b := w.heap.size) (t := 25) (cs := #[.string ByteArray.empty, .string ByteArray.empty, .int .i64 0]) rfl).alloc _).alloc _ |>.grown hG1 (fun e => by injection e with e; omega))
  have HS1 := hid ((blk_new (w := w.alloc _) (b := w.heap.size + 1) (t := 27) (cs := #[.string ByteArray.empty, .string ByteArray.empty]) (by simp)).alloc _ |>.grown hG1 (fun e => by injection e with e; omega))
  clear hC1 hG1 hl
  go_upto_region 3 with fail
  generalize hb5 : w1.heap.size = b5
  have hbw : w.heap.size + 3 ≤ b5 := by rw [← hb5]; have h := HC1.out.lt; omega
  refine opq_wp (fun wx => AR w A c bs 400 b5 wx) ⟨l0, HL0.out, blk_new hb5.symm, HC1.out.grew' (by (repeat (first | with_reducible exact grew_refl _ | with_reducible assumption | with_reducible refine grew_split ?_ | with_reducible refine grew_mk ?_ | with_reducible refine grew_plus ?_ | with_reducible refine grew_alloc ?_ | with_reducible refine grew_drew ?_ | (with_reducible refine grew_set ?_ (by first | exact Nat.le_refl _ | omega | (simp [go_sem]; done) | (simp [go_sem]; omega)))))), HR1.out.alloc _, HS1.out.alloc _⟩ ?_
  clear HC1 HR1 HS1 HL0 hb5
  rintro wq ⟨l, hL, hB, hC, hR, hS⟩
  have HL := hid hL
  have HB := hid hB
  have HC := hid hC
  have HR := hid hR
  have HS := hid hS
  clear hL hB hC hR hS
  go_wp2_with fail
  refine (s_one w (w.heap.size + 2) A c bs _ 40 _ HA.out (HC.out.grew' (by (repeat (first | with_reducible exact grew_refl _ | with_reducible assumption | with_reducible refine grew_split ?_ | with_reducible refine grew_mk ?_ | with_reducible refine grew_plus ?_ | with_reducible refine grew_alloc ?_ | with_reducible refine grew_drew ?_ | (with_reducible refine grew_set ?_ (by first | exact Nat.le_refl _ | omega | (simp [go_sem]; done) | (simp [go_sem]; omega))))))) (by omega) (by omega)).mono ?_
  rintro e w2 ⟨⟨b, rfl⟩, hC2, hG2⟩
  have hB2 := HB.out.grown hG2 (fun e => by injection e with e; omega)
  have HB2 := hid hB2
  have HC2 := hid hC2
  have HR2 := hid (HR.out.grown hG2 (fun e => by injection e with e; omega))
  have HS2 := hid (HS.out.grown hG2 (fun e => by injection e with e; omega))
  have hbl2 := hB2.lt
  (have hc0 := hB2.cell 0; have hc1 := hB2.cell 1; have hc2 := hB2.cell 2; simp [go_sem] at hc0 hc1 hc2)
  (have fc0 := hB2.frozen 0; have fc1 := hB2.frozen 1; have fc2 := hB2.frozen 2)
  clear hC2 hG2 hB2
  go_upto_if 13 with fail
  go_cut [5] (fun p wx => p = .pointer (some ⟨b5, 0, none⟩) ∧ AR w A c bs 500 b5 wx)
  case first =>
    cases b
    · go_wp2_with fail
      go_meet
      exact ⟨rfl, l, HL.out, HB2.out, HC2.out.le (by omega), HR2.out, HS2.out⟩
    · go_wp2_with fail
      refine (s_pick w (w.heap.size + 2) A c bs _ 2 _ HA.out ((HC2.out.kept (grown_set (g := b5) (grown_set (grown_set (grown_refl _ _)))) (fun k hk => by injection hk with hk; omega)).grew' (by (repeat (first | with_reducible exact grew_refl _ | with_reducible assumption | with_reducible refine grew_split ?_ | with_reducible refine grew_mk ?_ | with_reducible refine grew_plus ?_ | with_reducible refine grew_alloc ?_ | with_reducible refine grew_drew ?_ | (with_reducible refine grew_set ?_ (by first | exact Nat.le_refl _ | omega | (simp [go_sem]; done) | (simp [go_sem]; omega))))))) (by omega) (by omega)).mono ?_
      rintro e w3 ⟨⟨n', rfl, n0, n1⟩, hC3, hG3⟩
      obtain ⟨n, hn0⟩ : ∃ k : Nat, n' = (k : Int) := ⟨n'.toNat, by omega⟩
      subst hn0
      have HB3 := hid (((((HB2.out.set_ 0 (.string ByteArray.empty)).set_ 1 (.string ByteArray.empty)).set_ 2 (.int .i64 0))).grown hG3 (fun e => by injection e with e; omega))
      have HC3 := hid hC3
      have HR3 := hid ((((HR2.out.far (by simp; omega) _).far (by simp; omega) _).far (by simp; omega) _).grown hG3 (fun e => by injection e with e; omega))
      have HS3 := hid ((((HS2.out.far (by simp; omega) _).far (by simp; omega) _).far (by simp; omega) _).grown hG3 (fun e => by injection e with e; omega))
      clear hC3 hG3 hc0 hc1 hc2 fc0 fc1 fc2
      have hN : ∃ N : Nat, N ≤ 60 ∧ (59 : Int) + (n : Int) = (N : Int) := ⟨59 + n, by omega, by omega⟩
      obtain ⟨N, hN1, hN2⟩ := hN
      go_wp2_with fail
      go_loopw [6] (fun i wr => ∃ k : Nat, k ≤ N ∧ i = .int .i64 ((N - k : Nat) : Int) ∧ ∃ l : LogR, Lg k l ∧ Blk wr b5 25 #[.string (l).d, .string (l).p, .int .i64 (l).n] ∧ CurU w wr (w.heap.size + 2) A c bs 500 ∧ Blk wr w.heap.size 25 #[.string ByteArray.empty, .string ByteArray.empty, .int .i64 0] ∧ Blk wr (w.heap.size + 1) 27 #[.string ByteArray.empty, .string ByteArray.empty]) (fun i _ => (intOf i).toNat)
      case atStart => exact ⟨0, by omega, vint (by omega), zLog, ⟨by decide, by decide, by decide⟩, HB3.out, HC3.out.le (by omega), HR3.out, HS3.out⟩
      case round =>
        obtain ⟨k, hk, rfl, l, hL, hB, hC, hR, hS⟩ := hrel
        have HL := hid hL
        obtain ⟨z1, z2, z3⟩ := hL
        have HB := hid hB
        have HC := hid hC
        have HR := hid hR
        have HS := hid hS
        have hbl := hB.lt
        (have hc0 := hB.cell 0; have hc1 := hB.cell 1; have hc2 := hB.cell 2; simp [go_sem] at hc0 hc1 hc2)
        (have fc0 := hB.frozen 0; have fc1 := hB.frozen 1; have fc2 := hB.frozen 2)
        clear hB hC hR hS
        by_cases hlt : k < N
        · have hpos : (0 : Int) < ((N - k : Nat) : Int) := by omega
          have hsub : IntKind.i64.wrap (((N - k : Nat) : Int) - 1) = ((N - (k + 1) : Nat) : Int) := by rw [IntWalk.i64_in _ (by omega)]; omega
          go_wp2_with fail
          refine (s_AppendRecord l ⟨⟨#[120]⟩, ⟨#[]⟩⟩ _ (by omega) (by omega) (by decide) (by decide) (HE.out.grew (grew_two' HC.out.world (by (repeat (first | with_reducible exact grew_refl _ | with_reducible assumption | with_reducible refine grew_split ?_ | with_reducible refine grew_mk ?_ | with_reducible refine grew_plus ?_ | with_reducible refine grew_alloc ?_ | with_reducible refine grew_drew ?_ | (with_reducible refine grew_set ?_ (by first | exact Nat.le_refl _ | omega | (simp [go_sem]; done) | (simp [go_sem]; omega))))))))).mono ?_
          (rintro e w' ⟨rfl, gx, rfl⟩)
          go_wp2_with fail
          go_roundw
          case rel => exact ⟨k + 1, by omega, rfl, (appF l ⟨⟨#[120]⟩, ⟨#[]⟩⟩).1, HL.out.app _, (((HB.out.set_ 0 _).set_ 1 _).set_ 2 _).plus gx, ((HC.out.kept (grown_set (g := b5) (grown_set (grown_set (grown_refl _ _)))) (fun k hk => by injection hk with hk; omega)).grew' (by (repeat (first | with_reducible exact grew_refl _ | with_reducible assumption | with_reducible refine grew_split ?_ | with_reducible refine grew_mk ?_ | with_reducible refine grew_plus ?_ | with_reducible refine grew_alloc ?_ | with_reducible refine grew_drew ?_ | (with_reducible refine grew_set ?_ (by first | exact Nat.le_refl _ | omega | (simp [go_sem]; done) | (simp [go_sem]; omega))))))), (((HR.out.far (by simp; omega) _).far (by simp; omega) _).far (by simp; omega) _).plus gx, (((HS.out.far (by simp; omega) _).far (by simp; omega) _).far (by simp; omega) _).plus gx⟩
          case measure => simp [intOf]; omega
        · have hz : N - k = 0 := by omega
          rw [hz]
          go_wp2_with fail
          go_meet
          exact ⟨rfl, l, ⟨by omega, by omega, by omega⟩, HB.out, HC.out, HR.out, HS.out⟩
  case rest =>
    obtain ⟨rfl, l4, hL, hB, hC, hR, hS⟩ := hcut
    clear hc0 hc1 hc2 fc0 fc1 fc2 hbl2 HB2 HC2 HR2 HS2
    have HL4 := hid hL
    have HB4 := hid hB
    have HC4 := hid hC
    have HR4 := hid hR
    have HS4 := hid hS
    have hbl := hB.lt
    (have hc0 := hB.cell 0; have hc1 := hB.cell 1; have hc2 := hB.cell 2; simp [go_sem] at hc0 hc1 hc2)
    clear hL hB hC hR hS
    go_upto_region 9 with fail
    go_region_with (go_at_call 29; refine (s_logRecord w (w.heap.size + 2) A c bs _ _ HA.out (HC4.out.grew' (by (repeat (first | with_reducible exact grew_refl _ | with_reducible assumption | with_reducible refine grew_split ?_ | with_reducible refine grew_mk ?_ | with_reducible refine grew_plus ?_ | with_reducible refine grew_alloc ?_ | with_reducible refine grew_drew ?_ | (with_reducible refine grew_set ?_ (by first | exact Nat.le_refl _ | omega | (simp [go_sem]; done) | (simp [go_sem]; omega))))))) (by omega)).mono ?_; rintro e w6 ⟨⟨r, rfl, hr1, hr2⟩, hC6, hG6⟩; have hB6 := HB4.out.grown ((grown_of_grew (by (repeat (first | with_reducible exact grew_refl _ | with_reducible assumption | with_reducible refine grew_split ?_ | with_reducible refine grew_mk ?_ | with_reducible refine grew_plus ?_ | with_reducible refine grew_alloc ?_ | with_reducible refine grew_drew ?_ | (with_reducible refine grew_set ?_ (by first | exact Nat.le_refl _ | omega | (simp [go_sem]; done) | (simp [go_sem]; omega)))))) (some (w.heap.size + 2))).trans hG6) (fun e => by injection e with e; omega); have hR6 := HR4.out.grown ((grown_of_grew (by (repeat (first | with_reducible exact grew_refl _ | with_reducible assumption | with_reducible refine grew_split ?_ | with_reducible refine grew_mk ?_ | with_reducible refine grew_plus ?_ | with_reducible refine grew_alloc ?_ | with_reducible refine grew_drew ?_ | (with_reducible refine grew_set ?_ (by first | exact Nat.le_refl _ | omega | (simp [go_sem]; done) | (simp [go_sem]; omega)))))) (some (w.heap.size + 2))).trans hG6) (fun e => by injection e with e; omega); have hS6 := HS4.out.grown ((grown_of_grew (by (repeat (first | with_reducible exact grew_refl _ | with_reducible assumption | with_reducible refine grew_split ?_ | with_reducible refine grew_mk ?_ | with_reducible refine grew_plus ?_ | with_reducible refine grew_alloc ?_ | with_reducible refine grew_drew ?_ | (with_reducible refine grew_set ?_ (by first | exact Nat.le_refl _ | omega | (simp [go_sem]; done) | (simp [go_sem]; omega)))))) (some (w.heap.size + 2))).trans hG6) (fun e => by injection e with e; omega); have hbl6 := hB6.lt; have hrl6 := hR6.lt; have hsl6 := hS6.lt; (have hd0 := hB6.cell 0; have hd1 := hB6.cell 1; have hd2 := hB6.cell 2; simp [go_sem] at hd0 hd1 hd2); (have he0 := hR6.cell 0; have he1 := hR6.cell 1; have he2 := hR6.cell 2; simp [go_sem] at he0 he1 he2); (have fe0 := hR6.frozen 0; have fe1 := hR6.frozen 1; have fe2 := hR6.frozen 2); (have hf0 := hS6.cell 0; have hf1 := hS6.cell 1; simp [go_sem] at hf0 hf1); (have ff0 := hS6.frozen 0; have ff1 := hS6.frozen 1); have HW := hid hC6.world; clear hC6 hG6 hB6 hR6 hS6)
    all_goals
      go_wp2_with fail
      refine bodyPost_ret (v := .tuple #[l4.val, r.val]) (by simp [results, Tryd.results7, go_sem, *]) rfl ?_
      have h := HW.out
      exact ⟨⟨l4, r, rfl, HL4.out, hr1, hr2⟩, by (repeat (first | with_reducible exact grew_refl _ | with_reducible assumption | with_reducible refine grew_split ?_ | with_reducible refine grew_mk ?_ | with_reducible refine grew_plus ?_ | with_reducible refine grew_alloc ?_ | with_reducible refine grew_drew ?_ | (with_reducible refine grew_set ?_ (by first | exact Nat.le_refl _ | omega | (simp [go_sem]; done) | (simp [go_sem]; omega)))))⟩
end Go.Proofs.YtfnbbmhhilffeaaDoor
