/- The reference's draws of logs: what the laws on logs draw. -/
import Derived.Test.YtfnbbmhhilffeaaDoorDp
import Derived.Test.YtfnbbmhhilffeaaDoorOpenCode
import Derived.Test.YtfnbbmhhilffeaaDoorM1
namespace Go.Proofs.YtfnbbmhhilffeaaDoor
open Go.RowKit

attribute [local go_sem ↓] Go.wp_at_zero Go.wp_at_succ
def Lbig (l : LogR) : Prop := l.d.size + l.p.size ≤ 30000 ∧ 0 ≤ l.n ∧ l.n ≤ 100
theorem Code0.grewC {w w' : World} {A : Option Addr} {bs : List Int} (h : Code0 w A bs) (hg : ∃ g, w' = plus w g) : Code0 w' A bs := ⟨h.sl.grew hg, h.ok, h.len⟩
theorem cur_at (w W : World) (A : Option Addr) (c : Nat) (bs : List Int) (g : Nat) (hW : ∃ x, W = plus w x) (hg : g = W.heap.size) : CurU w (W.alloc (.cells #[.slice A bs.length c, .int .i64 0, .int .u64 0] 51)) g A c bs 0 := by
  subst hg
  exact ⟨0, ⟨by (repeat (first | with_reducible exact grew_refl _ | with_reducible assumption | with_reducible refine grew_split ?_ | with_reducible refine grew_mk ?_ | with_reducible refine grew_plus ?_ | with_reducible refine grew_alloc ?_ | with_reducible refine grew_drew ?_ | (with_reducible refine grew_set ?_ (by first | exact Nat.le_refl _ | omega | (simp [go_sem]; done) | (simp [go_sem]; omega))))), by have := (below_of_grew hW).size; omega, ⟨0, Blk.new _ _ _⟩, by omega⟩, by omega⟩
set_option maxHeartbeats 2000000 in
theorem s_DrawEncode (A : Option Addr) (c : Nat) (bs : List Int) (w : World) (hA : Code0 w A bs) :
    Calls Tryd.prog 17 #[.slice A bs.length c] w fun e w' => (∃ (k : Int) (r : RecR), e = .returned (.tuple #[.int .i64 k, r.val]) ∧ -1 ≤ k ∧ k ≤ 60 ∧ r.c.size ≤ 20 ∧ r.r.size ≤ 20) ∧ ∃ g, w' = plus w g := by
  have HA := hid hA
  clear hA
  go_enter Tryd.func17, Tryd.ntmps17
  go_wp2_with fail
  refine (s_amongL w (w.heap.size + 1) A c bs 0 [0, 1, 12, 59, 60, -1] _ rfl _ _ _ (by simp) HA.out (cur_at w _ A c bs _ (by (repeat (first | with_reducible exact grew_refl _ | with_reducible assumption | with_reducible refine grew_split ?_ | with_reducible refine grew_mk ?_ | with_reducible refine grew_plus ?_ | with_reducible refine grew_alloc ?_ | with_reducible refine grew_drew ?_ | (with_reducible refine grew_set ?_ (by first | exact Nat.le_refl _ | omega | (simp [go_sem]; done) | (simp [go_sem]; omega)))))) (by simp)) (by omega) (by decide) (by decide)).mono ?_
  rintro e w1 ⟨⟨k, rfl, hk⟩, hC1, hG1⟩
  have hk2 : -1 ≤ k ∧ k ≤ 60 := by simp at hk; omega
  have HC1 := hid hC1
  have HR1 := hid (((blk_new (w := w) (b := w.heap.size) (t := 27) (cs := #[.string ByteArray.empty, .string ByteArray.empty]) rfl).alloc _).grown hG1 (fun e => by injection e with e; omega))
  clear hC1 hG1 hk
  go_wp2_with fail
  refine (s_logRecord w (w.heap.size + 1) A c bs _ _ HA.out HC1.out (by omega)).mono ?_
  rintro e w2 ⟨⟨r, rfl, hr1, hr2⟩, hC2, hG2⟩
  have hR2 := HR1.out.grown hG2 (fun e => by injection e with e; omega)
  have hw2 := hC2.world
  have HW := hid hw2
  have hrl := hR2.lt
  (have hd0 := hR2.cell 0; have hd1 := hR2.cell 1; simp [go_sem] at hd0 hd1)
  (have fd0 := hR2.frozen 0; have fd1 := hR2.frozen 1)
  clear hC2 hG2 hR2 hw2
  go_wp2_with fail
  refine bodyPost_ret (v := .tuple #[.int .i64 k, r.val]) (by simp [results, Tryd.results17, go_sem, *]) rfl ?_
  have h := HW.out
  exact ⟨⟨k, r, rfl, hk2.1, hk2.2, hr1, hr2⟩, by (repeat (first | with_reducible exact grew_refl _ | with_reducible assumption | with_reducible refine grew_split ?_ | with_reducible refine grew_mk ?_ | with_reducible refine grew_plus ?_ | with_reducible refine grew_alloc ?_ | with_reducible refine grew_drew ?_ | (with_reducible refine grew_set ?_ (by first | exact Nat.le_refl _ | omega | (simp [go_sem]; done) | (simp [go_sem]; omega)))))⟩
set_option maxHeartbeats 4000000 in
set_option maxRecDepth 100000 in
theorem s_DrawCrash (A : Option Addr) (c : Nat) (bs : List Int) (w : World) (hA : Code0 w A bs) (hE : Env w) :
    Calls Tryd.prog 22 #[.slice A bs.length c] w fun e w' => (∃ (l : LogR) (k : Int) (b : Bool), e = .returned (.tuple #[l.val, .int .i64 k, .bool b]) ∧ Lbig l ∧ -1 ≤ k ∧ k ≤ 100000) ∧ ∃ g, w' = plus w g := by
  have HA := hid hA
  have HE := hid hE
  clear hA hE
  go_enter Tryd.func22, Tryd.ntmps22
  go_wp2_with fail
  refine (s_anyLog w (w.heap.size + 1) A c bs 0 _ HA.out HE.out (cur_at w _ A c bs _ (by (repeat (first | with_reducible exact grew_refl _ | with_reducible assumption | with_reducible refine grew_split ?_ | with_reducible refine grew_mk ?_ | with_reducible refine grew_plus ?_ | with_reducible refine grew_alloc ?_ | with_reducible refine grew_drew ?_ | (with_reducible refine grew_set ?_ (by first | exact Nat.le_refl _ | omega | (simp [go_sem]; done) | (simp [go_sem]; omega)))))) (by simp)) (by omega)).mono ?_
  rintro e w1 ⟨⟨l, rfl, hl⟩, hC1, hG1⟩
  have HL := hid hl
  obtain ⟨z1, z2, z3⟩ := hl
  have HC1 := hid hC1
  have HR1 := hid (((blk_new (w := w) (b := w.heap.size) (t := 25) (cs := #[.string ByteArray.empty, .string ByteArray.empty, .int .i64 0]) rfl).alloc _).grown hG1 (fun e => by injection e with e; omega))
  clear hC1 hG1
  go_upto_region 3 with fail
  generalize hb5 : w1.heap.size = b5
  have hbw : w.heap.size + 2 ≤ b5 := by rw [← hb5]; have h := HC1.out.lt; omega
  refine opq_wp (fun wx => Blk wx b5 25 #[.string (l).d, .string (l).p, .int .i64 (l).n] ∧ CurU w wx (w.heap.size + 1) A c bs 400 ∧ Blk wx w.heap.size 25 #[.string ByteArray.empty, .string ByteArray.empty, .int .i64 0]) ⟨blk_new hb5.symm, HC1.out.grew' (by (repeat (first | with_reducible exact grew_refl _ | with_reducible assumption | with_reducible refine grew_split ?_ | with_reducible refine grew_mk ?_ | with_reducible refine grew_plus ?_ | with_reducible refine grew_alloc ?_ | with_reducible refine grew_drew ?_ | (with_reducible refine grew_set ?_ (by first | exact Nat.le_refl _ | omega | (simp [go_sem]; done) | (simp [go_sem]; omega)))))), HR1.out.alloc _⟩ ?_
  clear HC1 HR1 hb5
  rintro wq ⟨hB, hC, hR⟩
  have HB := hid hB
  have HC := hid hC
  have HR := hid hR
  have hbl := hB.lt
  (have hc0 := hB.cell 0; have hc1 := hB.cell 1; have hc2 := hB.cell 2; simp [go_sem] at hc0 hc1 hc2)
  clear hB hC hR
  have hlz : (0 : Int) ≤ (l.p.size : Int) := by omega
  go_wp2_with fail
  refine (s_pick w (w.heap.size + 1) A c bs _ ((l.p.size : Int) + 3) _ HA.out (HC.out.grew' (by (repeat (first | with_reducible exact grew_refl _ | with_reducible assumption | with_reducible refine grew_split ?_ | with_reducible refine grew_mk ?_ | with_reducible refine grew_plus ?_ | with_reducible refine grew_alloc ?_ | with_reducible refine grew_drew ?_ | (with_reducible refine grew_set ?_ (by first | exact Nat.le_refl _ | omega | (simp [go_sem]; done) | (simp [go_sem]; omega))))))) (by omega) (by omega)).mono ?_
  rintro e w5 ⟨⟨n, rfl, n0, n1⟩, hC5, hG5⟩
  have hB5 := HB.out.grown hG5 (fun e => by injection e with e; omega)
  have HC5 := hid hC5
  have HR5 := hid (HR.out.grown hG5 (fun e => by injection e with e; omega))
  have HB5 := hid hB5
  have hbl5 := hB5.lt
  clear hc0 hc1 hc2
  (have hc0 := hB5.cell 0; have hc1 := hB5.cell 1; have hc2 := hB5.cell 2; simp [go_sem] at hc0 hc1 hc2)
  clear hC5 hG5 hB5
  go_wp2_with fail
  go_region_with (go_at_call 27; refine (s_one w (w.heap.size + 1) A c bs _ 2 _ HA.out (HC5.out.grew' (by (repeat (first | with_reducible exact grew_refl _ | with_reducible assumption | with_reducible refine grew_split ?_ | with_reducible refine grew_mk ?_ | with_reducible refine grew_plus ?_ | with_reducible refine grew_alloc ?_ | with_reducible refine grew_drew ?_ | (with_reducible refine grew_set ?_ (by first | exact Nat.le_refl _ | omega | (simp [go_sem]; done) | (simp [go_sem]; omega))))))) (by omega) (by omega)).mono ?_; rintro e w6 ⟨⟨b, rfl⟩, hC6, hG6⟩; have hB6 := HB5.out.grown ((grown_of_grew (w := w5) (by (repeat (first | with_reducible exact grew_refl _ | with_reducible assumption | with_reducible refine grew_split ?_ | with_reducible refine grew_mk ?_ | with_reducible refine grew_plus ?_ | with_reducible refine grew_alloc ?_ | with_reducible refine grew_drew ?_ | (with_reducible refine grew_set ?_ (by first | exact Nat.le_refl _ | omega | (simp [go_sem]; done) | (simp [go_sem]; omega)))))) (some (w.heap.size + 1))).trans hG6) (fun e => by injection e with e; omega); have hR6 := HR5.out.grown ((grown_of_grew (w := w5) (by (repeat (first | with_reducible exact grew_refl _ | with_reducible assumption | with_reducible refine grew_split ?_ | with_reducible refine grew_mk ?_ | with_reducible refine grew_plus ?_ | with_reducible refine grew_alloc ?_ | with_reducible refine grew_drew ?_ | (with_reducible refine grew_set ?_ (by first | exact Nat.le_refl _ | omega | (simp [go_sem]; done) | (simp [go_sem]; omega)))))) (some (w.heap.size + 1))).trans hG6) (fun e => by injection e with e; omega); have hbl6 := hB6.lt; have hrl6 := hR6.lt; (have hd0 := hB6.cell 0; have hd1 := hB6.cell 1; have hd2 := hB6.cell 2; simp [go_sem] at hd0 hd1 hd2); (have he0 := hR6.cell 0; have he1 := hR6.cell 1; have he2 := hR6.cell 2; simp [go_sem] at he0 he1 he2); (have fe0 := hR6.frozen 0; have fe1 := hR6.frozen 1; have fe2 := hR6.frozen 2); have HW := hid hC6.world; clear hC6 hG6 hB6 hR6)
  all_goals
    go_wp2_with fail
    refine bodyPost_ret (v := .tuple #[l.val, .int .i64 (n - 1), .bool b]) (by simp [results, Tryd.results22, go_sem, *]) rfl ?_
    have h := HW.out
    exact ⟨⟨l, n - 1, b, rfl, ⟨by omega, by omega, by omega⟩, by omega, by omega⟩, by (repeat (first | with_reducible exact grew_refl _ | with_reducible assumption | with_reducible refine grew_split ?_ | with_reducible refine grew_mk ?_ | with_reducible refine grew_plus ?_ | with_reducible refine grew_alloc ?_ | with_reducible refine grew_drew ?_ | (with_reducible refine grew_set ?_ (by first | exact Nat.le_refl _ | omega | (simp [go_sem]; done) | (simp [go_sem]; omega)))))⟩
end Go.Proofs.YtfnbbmhhilffeaaDoor
