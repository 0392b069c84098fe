/- The reference's draws of logs: any log, and what the laws on logs draw. -/
import Derived.Test.YtfnbbmhhilffeaaDoorDo
import Derived.Deep.RegionHeld3
namespace Go.Proofs.YtfnbbmhhilffeaaDoor
open Go.RowKit

attribute [local go_sem ↓] Go.wp_at_zero Go.wp_at_succ
def Lsz (l : LogR) : Prop := l.d.size + l.p.size ≤ 6000 ∧ 0 ≤ l.n ∧ l.n ≤ 60
def LA (w0 w : World) (g : Nat) (A : Option Addr) (c : Nat) (bs : List Int) (M : Int) (b : Nat) (wx : World) : Prop :=
  ∃ l : LogR, Lg 7 l ∧ Blk wx b 25 #[.string (l).d, .string (l).p, .int .i64 (l).n] ∧ CurU w0 wx g A c bs M ∧ w.grownBy wx (some g) ∧ Blk wx w.heap.size 25 #[.string ByteArray.empty, .string ByteArray.empty, .int .i64 0]
set_option maxHeartbeats 4000000 in
set_option maxRecDepth 100000 in
theorem s_anyLog (w0 : World) (g : Nat) (A : Option Addr) (c : Nat) (bs : List Int) (M : Int) (w : World) (hA : Code0 w0 A bs) (hE : Env w0) (hC : CurU w0 w g A c bs M) (h1 : M ≤ 1099511600000) :
    Calls Tryd.prog 26 #[.pointer (some ⟨g, 0, none⟩)] w fun e w' => (∃ l : LogR, e = .returned l.val ∧ Lsz l) ∧ CurU w0 w' g A c bs (M + 400) ∧ w.grownBy w' (some g) := by
  have HC := hid hC
  have HE := hid hE
  have hgl := hC.lt
  have hgf := hC.far
  clear hC hE
  go_enter Tryd.func26, Tryd.ntmps26
  go_wp2_with fail
  refine (s_log w0 g A c bs M _ hA HE.out (HC.out.grew' (by (repeat (first | with_reducible exact grew_refl _ | with_reducible assumption | with_reducible refine grew_split ?_ | with_reducible refine grew_mk ?_ | with_reducible refine grew_plus ?_ | with_reducible refine grew_alloc ?_ | with_reducible refine grew_drew ?_ | (with_reducible refine grew_set ?_ (by first | exact Nat.le_refl _ | omega | (simp [go_sem]; done) | (simp [go_sem]; omega))))))) (by omega)).mono ?_
  rintro e w1 ⟨⟨l0, rfl, hl0⟩, hC1, hG1⟩
  have HC1 := hid hC1
  have HG1 := hid ((grown_of_grew (w := w) (by (repeat (first | with_reducible exact grew_refl _ | with_reducible assumption | with_reducible refine grew_split ?_ | with_reducible refine grew_mk ?_ | with_reducible refine grew_plus ?_ | with_reducible refine grew_alloc ?_ | with_reducible refine grew_drew ?_ | (with_reducible refine grew_set ?_ (by first | exact Nat.le_refl _ | omega | (simp [go_sem]; done) | (simp [go_sem]; omega)))))) (some g)).trans hG1)
  have HR1 := hid ((blk_new (w := w) (t := 25) (cs := #[.string ByteArray.empty, .string ByteArray.empty, .int .i64 0]) rfl).grown hG1 (fun e => by injection e with e; omega))
  have hL1 := hl0
  clear hC1 hG1 hl0
  go_upto_region 2 with fail
  generalize hb5 : w1.heap.size = b5
  refine opq_wp (fun wx => LA w0 w g A c bs (M + 300) b5 wx) ⟨l0, hL1, blk_new hb5.symm, HC1.out.grew' (by (repeat (first | with_reducible exact grew_refl _ | with_reducible assumption | with_reducible refine grew_split ?_ | with_reducible refine grew_mk ?_ | with_reducible refine grew_plus ?_ | with_reducible refine grew_alloc ?_ | with_reducible refine grew_drew ?_ | (with_reducible refine grew_set ?_ (by first | exact Nat.le_refl _ | omega | (simp [go_sem]; done) | (simp [go_sem]; omega)))))), HG1.out.trans (grown_of_grew (by (repeat (first | with_reducible exact grew_refl _ | with_reducible assumption | with_reducible refine grew_split ?_ | with_reducible refine grew_mk ?_ | with_reducible refine grew_plus ?_ | with_reducible refine grew_alloc ?_ | with_reducible refine grew_drew ?_ | (with_reducible refine grew_set ?_ (by first | exact Nat.le_refl _ | omega | (simp [go_sem]; done) | (simp [go_sem]; omega)))))) _), HR1.out.alloc _⟩ ?_
  have hb5w : w.heap.size + 1 ≤ b5 := by rw [← hb5]; have h := HR1.out.lt; omega
  clear HC1 HG1 HR1 hb5
  rintro wq ⟨l, hL, hB, hC, hG, hR⟩
  have HL := hid hL
  obtain ⟨z1, z2, z3⟩ := hL
  (have HB0 := hid hB; have HC0 := hid hC; have HG0 := hid hG; have HR0 := hid hR; have hbl := hB.lt; have hrl := hR.lt; have hgl2 := hC.lt; (have hc0 := hB.cell 0; have hc1 := hB.cell 1; have hc2 := hB.cell 2; simp [go_sem] at hc0 hc1 hc2); (have fc0 := hB.frozen 0; have fc1 := hB.frozen 1; have fc2 := hB.frozen 2); clear hB hC hG hR)
  go_wp2_with fail
  refine (s_pick w0 g A c bs _ 24 _ hA HC0.out (by omega) (by omega)).mono ?_
  rintro e w5 ⟨⟨n, rfl, n0, n1⟩, hC5, hG5⟩
  have hC := hC5
  have hB := HB0.out.grown hG5 (fun e => by injection e with e; omega)
  have hR := HR0.out.grown hG5 (fun e => by injection e with e; omega)
  have hG := HG0.out.trans hG5
  clear hC5 hG5 hc0 hc1 hc2 fc0 fc1 fc2
  (have HB5 := hid hB; have HC5 := hid hC; have HG5 := hid hG; have HR5 := hid hR; have hbl := hB.lt; have hrl := hR.lt; have hgl2 := hC.lt; (have hc0 := hB.cell 0; have hc1 := hB.cell 1; have hc2 := hB.cell 2; simp [go_sem] at hc0 hc1 hc2); (have fc0 := hB.frozen 0; have fc1 := hB.frozen 1; have fc2 := hB.frozen 2); clear hB hC hG hR)
  go_upto_block 0 with fail
  go_cut [3] (fun p wx => p = .pointer (some ⟨b5, 0, none⟩) ∧ ∃ l : LogR, (l.d.size + l.p.size ≤ 6000 ∧ 0 ≤ l.n ∧ l.n ≤ 60) ∧ Blk wx b5 25 #[.string (l).d, .string (l).p, .int .i64 (l).n] ∧ CurU w0 wx g A c bs (M + 400) ∧ w.grownBy wx (some g) ∧ Blk wx w.heap.size 25 #[.string ByteArray.empty, .string ByteArray.empty, .int .i64 0])
  case first =>
    rcases (show n = 0 ∨ n = 1 ∨ n = 2 ∨ 2 < n by omega) with rfl | rfl | rfl | hn5
    · have hw1 : IntKind.i64.wrap (l.n + 1) = l.n + 1 := IntWalk.i64_in _ (by omega)
      go_wp2_with fail
      go_meet
      exact ⟨rfl, ⟨l.d, l.p, l.n + 1⟩, ⟨by simp only; omega, by simp only; omega, by simp only; omega⟩, HB5.out.set_ 2 _, (HC5.out.kept (grown_set (g := b5) (grown_refl _ _)) (fun k hk => by injection hk with hk; omega)).le (by omega), grown_join HG5.out (grown_set (g := b5) (grown_refl _ _)) (fun k hk => by injection hk with hk; omega), HR5.out.far (by simp; omega) _⟩
    · go_wp2_with fail
      refine (s_spoilt w0 g A c bs _ l.p _ _ hA (HC5.out.grew' (by (repeat (first | with_reducible exact grew_refl _ | with_reducible assumption | with_reducible refine grew_split ?_ | with_reducible refine grew_mk ?_ | with_reducible refine grew_plus ?_ | with_reducible refine grew_alloc ?_ | with_reducible refine grew_drew ?_ | (with_reducible refine grew_set ?_ (by first | exact Nat.le_refl _ | omega | (simp [go_sem]; done) | (simp [go_sem]; omega))))))) (by omega) (by omega) (by decide) (by decide)).mono ?_
      rintro e w6 ⟨⟨x6, rfl, hx6⟩, hC6, hG6⟩
      have hB := (blk_grew HB5.out (by (repeat (first | with_reducible exact grew_refl _ | with_reducible assumption | with_reducible refine grew_split ?_ | with_reducible refine grew_mk ?_ | with_reducible refine grew_plus ?_ | with_reducible refine grew_alloc ?_ | with_reducible refine grew_drew ?_ | (with_reducible refine grew_set ?_ (by first | exact Nat.le_refl _ | omega | (simp [go_sem]; done) | (simp [go_sem]; omega))))))).grown hG6 (fun e => by injection e with e; omega)
      have hR := (blk_grew HR5.out (by (repeat (first | with_reducible exact grew_refl _ | with_reducible assumption | with_reducible refine grew_split ?_ | with_reducible refine grew_mk ?_ | with_reducible refine grew_plus ?_ | with_reducible refine grew_alloc ?_ | with_reducible refine grew_drew ?_ | (with_reducible refine grew_set ?_ (by first | exact Nat.le_refl _ | omega | (simp [go_sem]; done) | (simp [go_sem]; omega))))))).grown hG6 (fun e => by injection e with e; omega)
      have hG := (HG5.out.trans (grown_of_grew (by (repeat (first | with_reducible exact grew_refl _ | with_reducible assumption | with_reducible refine grew_split ?_ | with_reducible refine grew_mk ?_ | with_reducible refine grew_plus ?_ | with_reducible refine grew_alloc ?_ | with_reducible refine grew_drew ?_ | (with_reducible refine grew_set ?_ (by first | exact Nat.le_refl _ | omega | (simp [go_sem]; done) | (simp [go_sem]; omega)))))) _)).trans hG6
      have hC := hC6
      clear hC6 hG6 hc0 hc1 hc2 fc0 fc1 fc2
      have HB6 := hid hB
      have HR6 := hid hR
      have HG6 := hid hG
      have HC6 := hid hC
      have hbl6 := hB.lt
      (have hc0 := hB.cell 0; have hc1 := hB.cell 1; have hc2 := hB.cell 2; simp [go_sem] at hc0 hc1 hc2)
      (have fc0 := hB.frozen 0; have fc1 := hB.frozen 1; have fc2 := hB.frozen 2)
      clear hB hR hG hC
      go_wp2_with fail
      go_meet
      exact ⟨rfl, ⟨l.d, x6, l.n⟩, ⟨by simp only; omega, by simp only; omega, by simp only; omega⟩, HB6.out.set_ 1 _, (HC6.out.kept (grown_set (g := b5) (grown_refl _ _)) (fun k hk => by injection hk with hk; omega)).le (by omega), grown_join HG6.out (grown_set (g := b5) (grown_refl _ _)) (fun k hk => by injection hk with hk; omega), HR6.out.far (by simp; omega) _⟩
    · have hs : ¬ 9223372036854775807 < l.d.size + l.p.size := by omega
      go_wp2_with fail
      go_meet
      exact ⟨rfl, ⟨l.d ++ l.p, l.p, l.n⟩, ⟨by simp only [ByteArray.size_append]; omega, by simp only; omega, by simp only; omega⟩, HB5.out.set_ 0 _, (HC5.out.kept (grown_set (g := b5) (grown_refl _ _)) (fun k hk => by injection hk with hk; omega)).le (by omega), grown_join HG5.out (grown_set (g := b5) (grown_refl _ _)) (fun k hk => by injection hk with hk; omega), HR5.out.far (by simp; omega) _⟩
    · have e0 : (n == 0) = false := by simp; omega
      have e1 : (n == 1) = false := by simp; omega
      have e2 : (n == 2) = false := by simp; omega
      go_wp2_with fail
      go_meet
      exact ⟨rfl, l, ⟨by omega, by omega, by omega⟩, HB5.out, HC5.out.le (by omega), HG5.out, HR5.out⟩
  case rest =>
    obtain ⟨rfl, l4, hL4, hB, hC, hG, hR⟩ := hcut
    clear hc0 hc1 hc2 fc0 fc1 fc2
    (have HB6 := hid hB; have HC6 := hid hC; have HG6 := hid hG; have HR6 := hid hR; have hbl := hB.lt; have hrl := hR.lt; have hgl2 := hC.lt; (have hc0 := hB.cell 0; have hc1 := hB.cell 1; have hc2 := hB.cell 2; simp [go_sem] at hc0 hc1 hc2); (have fc0 := hB.frozen 0; have fc1 := hB.frozen 1; have fc2 := hB.frozen 2); clear hB hC hG hR)
    (have hd0 := HR6.out.cell 0; have hd1 := HR6.out.cell 1; have hd2 := HR6.out.cell 2; simp [go_sem] at hd0 hd1 hd2)
    (have fd0 := HR6.out.frozen 0; have fd1 := HR6.out.frozen 1; have fd2 := HR6.out.frozen 2)
    go_wp2_with fail
    refine bodyPost_ret (v := l4.val) (by simp [results, Tryd.results26, go_sem, *]) rfl ?_
    exact ⟨⟨l4, rfl, hL4⟩, (HC6.out.kept (grown_set (g := w.heap.size) (grown_set (grown_set (grown_refl _ _)))) (fun k hk => by injection hk with hk; omega)).le (by omega), grown_join HG6.out (grown_set (g := w.heap.size) (grown_set (grown_set (grown_refl _ _)))) (fun k hk => by injection hk with hk; omega)⟩
end Go.Proofs.YtfnbbmhhilffeaaDoor
