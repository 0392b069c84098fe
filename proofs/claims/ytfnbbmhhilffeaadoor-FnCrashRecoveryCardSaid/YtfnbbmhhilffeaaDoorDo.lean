/- The reference's draw of a log: the loop. (draft) -/
import Derived.Test.YtfnbbmhhilffeaaDoorDn
namespace Go.Proofs.YtfnbbmhhilffeaaDoor
open Go.RowKit

attribute [local go_sem ↓] Go.wp_at_zero Go.wp_at_succ
def LQ (w0 w : World) (g : Nat) (A : Option Addr) (c : Nat) (bs : List Int) (M : Int) (b k : Nat) (wx : World) : Prop :=
  ∃ l : LogR, Lg k l ∧ Blk wx b 25 #[.string (l).d, .string (l).p, .int .i64 (l).n] ∧ CurU w0 wx g A c bs M ∧ w.grownBy wx (some g) ∧ Blk wx w.heap.size 25 #[.string ByteArray.empty, .string ByteArray.empty, .int .i64 0]
set_option maxHeartbeats 4000000 in
set_option maxRecDepth 100000 in
theorem s_log (w0 : World) (g : Nat) (A : Option Addr) (c : Nat) (bs : List Int) (M : Int) (w : World) (hA : Code0 w0 A bs) (hE : Env w0) (hC : CurU w0 w g A c bs M) (h1 : M ≤ 1099511610000) :
    Calls Tryd.prog 40 #[.pointer (some ⟨g, 0, none⟩)] w fun e w' => (∃ l : LogR, e = .returned l.val ∧ Lg 7 l) ∧ CurU w0 w' g A c bs (M + 300) ∧ w.grownBy w' (some g) := by
  have HC := hid hC
  have HE := hid hE
  have hgl := hC.lt
  have hgf := hC.far
  clear hC hE
  go_enter Tryd.func40, Tryd.ntmps40
  go_wp2_with fail
  refine (s_pick w0 g A c bs M 7 _ hA (HC.out.grew' (by (repeat (first | with_reducible exact grew_refl _ | with_reducible assumption | with_reducible refine grew_split ?_ | with_reducible refine grew_mk ?_ | with_reducible refine grew_plus ?_ | with_reducible refine grew_alloc ?_ | with_reducible refine grew_drew ?_ | (with_reducible refine grew_set ?_ (by first | exact Nat.le_refl _ | omega | (simp [go_sem]; done) | (simp [go_sem]; omega))))))) (by omega) (by omega)).mono ?_
  rintro e w1 ⟨⟨n', rfl, n0, n1⟩, hC1, hG1⟩
  obtain ⟨n, hn0⟩ : ∃ k : Nat, n' = (k : Int) := ⟨n'.toNat, by omega⟩
  subst hn0
  have HC1 := hid hC1
  have HB1 := hid ((blk_new (w := w.alloc (.cells #[.string ByteArray.empty, .string ByteArray.empty, .int .i64 0] 25)) (t := 25) (cs := #[.string ByteArray.empty, .string ByteArray.empty, .int .i64 0]) (b := w.heap.size + 1) (by simp)).grown hG1 (fun e => by injection e with e; omega))
  have HR1 := hid ((((blk_new (w := w) (t := 25) (cs := #[.string ByteArray.empty, .string ByteArray.empty, .int .i64 0]) rfl).alloc _)).grown hG1 (fun e => by injection e with e; omega))
  have HG1 := hid ((grown_of_grew (w := w) (by (repeat (first | with_reducible exact grew_refl _ | with_reducible assumption | with_reducible refine grew_split ?_ | with_reducible refine grew_mk ?_ | with_reducible refine grew_plus ?_ | with_reducible refine grew_alloc ?_ | with_reducible refine grew_drew ?_ | (with_reducible refine grew_set ?_ (by first | exact Nat.le_refl _ | omega | (simp [go_sem]; done) | (simp [go_sem]; omega)))))) (some g)).trans hG1)
  clear hC1 hG1
  go_wp2_with fail
  go_loopw [4] (fun i wr => ∃ k : Nat, k ≤ n ∧ i = .int .i64 ((n - k : Nat) : Int) ∧ LQ w0 w g A c bs (M + 2 + 30 * (k : Int)) (w.heap.size + 1) k wr) (fun i _ => (intOf i).toNat)
  case atStart => exact ⟨0, by omega, rfl, zLog, ⟨by decide, by decide, by decide⟩, HB1.out, HC1.out.le (by omega), HG1.out, HR1.out⟩
  case round =>
    obtain ⟨k, hk, rfl, l, hL, hB, hC, hG, hR⟩ := hrel
    have HL := hid hL
    have HB := hid hB
    have HC2 := hid hC
    have HG := hid hG
    have HR := hid hR
    have hbl := hB.lt
    have hgl2 := hC.lt
    obtain ⟨z1, z2, z3⟩ := hL
    have hc0 := hB.cell 0
    have hc1 := hB.cell 1
    have hc2 := hB.cell 2
    simp [go_sem] at hc0 hc1 hc2
    have fc0 := hB.frozen 0
    have fc1 := hB.frozen 1
    have fc2 := hB.frozen 2
    clear hB hC hG hR
    by_cases hlt : k < n
    · have hpos : (0 : Int) < ((n - k : Nat) : Int) := by omega
      have hsub : IntKind.i64.wrap (((n - k : Nat) : Int) - 1) = ((n - (k + 1) : Nat) : Int) := by rw [IntWalk.i64_in _ (by omega)]; omega
      go_upto_region 5 with fail
      have KEEP : Hid (∀ W : World, wr.grownBy W (some g) → (W.cell? ⟨w.heap.size + 1, 0, none⟩ = some (.string l.d) ∧ W.cell? ⟨w.heap.size + 1, 1, none⟩ = some (.string l.p) ∧ W.cell? ⟨w.heap.size + 1, 2, none⟩ = some (.int .i64 l.n))) := hid (by
        intro W hW
        have h := HB.out.grown hW (fun e => by injection e with e; omega)
        have h0 := h.cell 0
        have h1 := h.cell 1
        have h2 := h.cell 2
        simp [go_sem] at h0 h1 h2
        exact ⟨h0, h1, h2⟩)
      go_cut [3] (fun p wx => p = .pointer (some ⟨w.heap.size + 1, 0, none⟩) ∧ LQ w0 w g A c bs (M + 2 + 30 * (k : Int) + 20) (w.heap.size + 1) (k + 1) wx)
      case first =>
        go_region_with (first | (go_at_call 29; refine (s_logRecord w0 g A c bs _ _ hA (HC2.out.grew' (by (repeat (first | with_reducible exact grew_refl _ | with_reducible assumption | with_reducible refine grew_split ?_ | with_reducible refine grew_mk ?_ | with_reducible refine grew_plus ?_ | with_reducible refine grew_alloc ?_ | with_reducible refine grew_drew ?_ | (with_reducible refine grew_set ?_ (by first | exact Nat.le_refl _ | omega | (simp [go_sem]; done) | (simp [go_sem]; omega))))))) (by omega)).mono ?_; rintro e w3 ⟨⟨r, rfl, hr1, hr2⟩, hC3, hG3⟩; have hb3 := HB.out.grown ((grown_of_grew (w := wr) (by (repeat (first | with_reducible exact grew_refl _ | with_reducible assumption | with_reducible refine grew_split ?_ | with_reducible refine grew_mk ?_ | with_reducible refine grew_plus ?_ | with_reducible refine grew_alloc ?_ | with_reducible refine grew_drew ?_ | (with_reducible refine grew_set ?_ (by first | exact Nat.le_refl _ | omega | (simp [go_sem]; done) | (simp [go_sem]; omega)))))) (some g)).trans hG3) (fun e => by injection e with e; omega); have HR3 := hid (HR.out.grown ((grown_of_grew (w := wr) (by (repeat (first | with_reducible exact grew_refl _ | with_reducible assumption | with_reducible refine grew_split ?_ | with_reducible refine grew_mk ?_ | with_reducible refine grew_plus ?_ | with_reducible refine grew_alloc ?_ | with_reducible refine grew_drew ?_ | (with_reducible refine grew_set ?_ (by first | exact Nat.le_refl _ | omega | (simp [go_sem]; done) | (simp [go_sem]; omega)))))) (some g)).trans hG3) (fun e => by injection e with e; omega)); have hbl3 := hb3.lt; have hd0 := hb3.cell 0; have hd1 := hb3.cell 1; have hd2 := hb3.cell 2; simp [go_sem] at hd0 hd1 hd2; have fd0 := hb3.frozen 0; have fd1 := hb3.frozen 1; have fd2 := hb3.frozen 2; have HB3 := hid hb3; have HC3 := hid hC3; have HG3 := hid (HG.out.trans ((grown_of_grew (w := wr) (by (repeat (first | with_reducible exact grew_refl _ | with_reducible assumption | with_reducible refine grew_split ?_ | with_reducible refine grew_mk ?_ | with_reducible refine grew_plus ?_ | with_reducible refine grew_alloc ?_ | with_reducible refine grew_drew ?_ | (with_reducible refine grew_set ?_ (by first | exact Nat.le_refl _ | omega | (simp [go_sem]; done) | (simp [go_sem]; omega)))))) (some g)).trans hG3)); clear hC3 hG3 hb3) | (go_at_call 9; refine (s_AppendRecord l r _ (by omega) (by omega) (by unfold maxLen; omega) (by unfold maxLen; omega) (HE.out.grew (grew_two' HC3.out.world (by (repeat (first | with_reducible exact grew_refl _ | with_reducible assumption | with_reducible refine grew_split ?_ | with_reducible refine grew_mk ?_ | with_reducible refine grew_plus ?_ | with_reducible refine grew_alloc ?_ | with_reducible refine grew_drew ?_ | (with_reducible refine grew_set ?_ (by first | exact Nat.le_refl _ | omega | (simp [go_sem]; done) | (simp [go_sem]; omega))))))))).mono ?_; (rintro e w' ⟨rfl, gx, rfl⟩)))
        all_goals
          go_wp2_with fail
          go_meet
          exact ⟨rfl, (appF l r).1, HL.out.app r, (((HB3.out.set_ 0 _).set_ 1 _).set_ 2 _).plus gx, (HC3.out.kept (grown_set (g := w.heap.size + 1) (grown_set (grown_set (grown_refl _ _)))) (fun k hk => by injection hk with hk; omega)).grew' (by (repeat (first | with_reducible exact grew_refl _ | with_reducible assumption | with_reducible refine grew_split ?_ | with_reducible refine grew_mk ?_ | with_reducible refine grew_plus ?_ | with_reducible refine grew_alloc ?_ | with_reducible refine grew_drew ?_ | (with_reducible refine grew_set ?_ (by first | exact Nat.le_refl _ | omega | (simp [go_sem]; done) | (simp [go_sem]; omega)))))), (grown_join HG3.out (grown_set (g := w.heap.size + 1) (grown_set (grown_set (grown_refl _ _)))) (fun k hk => by injection hk with hk; omega)).trans (grown_of_grew (by (repeat (first | with_reducible exact grew_refl _ | with_reducible assumption | with_reducible refine grew_split ?_ | with_reducible refine grew_mk ?_ | with_reducible refine grew_plus ?_ | with_reducible refine grew_alloc ?_ | with_reducible refine grew_drew ?_ | (with_reducible refine grew_set ?_ (by first | exact Nat.le_refl _ | omega | (simp [go_sem]; done) | (simp [go_sem]; omega)))))) _), (((HR3.out.far (by simp) _).far (by simp) _).far (by simp) _).plus gx⟩
      case rest =>
        clear hc0 hc1 hc2 fc0 fc1 fc2 KEEP HB HC2 HG HR HL z1 z2 z3 hbl hgl2
        obtain ⟨rfl, l4, hL4, hB4, hC4, hG4, hR4⟩ := hcut
        have HB4 := hid hB4
        have HC4 := hid hC4
        have HG4 := hid hG4
        have HR4 := hid hR4
        have HL4 := hid hL4
        obtain ⟨z1, z2, z3⟩ := hL4
        clear hB4 hC4 hG4 hR4
        go_wp2_with fail
        refine (s_one w0 g A c bs _ 4 _ hA HC4.out (by omega) (by omega)).mono ?_
        rintro e w5 ⟨⟨b, rfl⟩, hC5, hG5⟩
        have hB5 := HB4.out.grown hG5 (fun e => by injection e with e; omega)
        have HR5 := hid (HR4.out.grown hG5 (fun e => by injection e with e; omega))
        have HC5 := hid hC5
        have HG5 := hid (HG4.out.trans hG5)
        have hbl5 := hB5.lt
        have hd0 := hB5.cell 0
        have hd1 := hB5.cell 1
        have hd2 := hB5.cell 2
        simp [go_sem] at hd0 hd1 hd2
        have fd0 := hB5.frozen 0
        have fd1 := hB5.frozen 1
        have fd2 := hB5.frozen 2
        have HB5 := hid hB5
        clear hC5 hG5 hB5
        cases b
        · go_wp2_with fail
          go_roundw
          case rel => exact ⟨k + 1, by omega, rfl, l4, HL4.out, HB5.out, HC5.out.le (by omega), HG5.out, HR5.out⟩
          case measure => simp [intOf]; omega
        · go_wp2_with fail
          refine (s_SyncLog l4 _ (by omega) (by omega) (HE.out.grew (grew_two' HC5.out.world (by (repeat (first | with_reducible exact grew_refl _ | with_reducible assumption | with_reducible refine grew_split ?_ | with_reducible refine grew_mk ?_ | with_reducible refine grew_plus ?_ | with_reducible refine grew_alloc ?_ | with_reducible refine grew_drew ?_ | (with_reducible refine grew_set ?_ (by first | exact Nat.le_refl _ | omega | (simp [go_sem]; done) | (simp [go_sem]; omega))))))))).mono ?_
          (rintro e w' ⟨rfl, gx, rfl⟩)
          go_wp2_with fail
          go_roundw
          case rel => exact ⟨k + 1, by omega, rfl, (syncF l4).1, HL4.out.sync, (((HB5.out.set_ 0 _).set_ 1 _).set_ 2 _).plus gx, ((HC5.out.kept (grown_set (g := w.heap.size + 1) (grown_set (grown_set (grown_refl _ _)))) (fun k hk => by injection hk with hk; omega)).grew' (by (repeat (first | with_reducible exact grew_refl _ | with_reducible assumption | with_reducible refine grew_split ?_ | with_reducible refine grew_mk ?_ | with_reducible refine grew_plus ?_ | with_reducible refine grew_alloc ?_ | with_reducible refine grew_drew ?_ | (with_reducible refine grew_set ?_ (by first | exact Nat.le_refl _ | omega | (simp [go_sem]; done) | (simp [go_sem]; omega))))))).le (by omega), (grown_join HG5.out (grown_set (g := w.heap.size + 1) (grown_set (grown_set (grown_refl _ _)))) (fun k hk => by injection hk with hk; omega)).trans (grown_of_grew (by (repeat (first | with_reducible exact grew_refl _ | with_reducible assumption | with_reducible refine grew_split ?_ | with_reducible refine grew_mk ?_ | with_reducible refine grew_plus ?_ | with_reducible refine grew_alloc ?_ | with_reducible refine grew_drew ?_ | (with_reducible refine grew_set ?_ (by first | exact Nat.le_refl _ | omega | (simp [go_sem]; done) | (simp [go_sem]; omega)))))) _), (((HR5.out.far (by simp) _).far (by simp) _).far (by simp) _).plus gx⟩
          case measure => simp [intOf]; omega
    · have hz : n - k = 0 := by omega
      rw [hz]
      have hkn : k ≤ 7 := by omega
      have hd0 := HR.out.cell 0
      have hd1 := HR.out.cell 1
      have hd2 := HR.out.cell 2
      simp [go_sem] at hd0 hd1 hd2
      have fd0 := HR.out.frozen 0
      have fd1 := HR.out.frozen 1
      have fd2 := HR.out.frozen 2
      go_wp2_with fail
      refine bodyPost_ret (v := l.val) (by simp [results, Tryd.results40, go_sem, *]) rfl ?_
      exact ⟨⟨l, rfl, HL.out.le hkn⟩, (HC2.out.kept (grown_set (g := w.heap.size) (grown_set (grown_set (grown_refl _ _)))) (fun k hk => by injection hk with hk; omega)).le (by omega), grown_join HG.out (grown_set (g := w.heap.size) (grown_set (grown_set (grown_refl _ _)))) (fun k hk => by injection hk with hk; omega)⟩
end Go.Proofs.YtfnbbmhhilffeaaDoor
