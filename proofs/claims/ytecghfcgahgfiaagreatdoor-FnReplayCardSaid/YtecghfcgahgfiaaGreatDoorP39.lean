import Derived.Test.YtecghfcgahgfiaaGreatDoorP38
import Derived.Test.YtecghfcgahgfiaaGreatDoorP18
import Derived.Deep.RegionHeld3
/- The reference's draw of a record. -/
namespace Go.Proofs.YtecghfcgahgfiaaGreatDoor
open Go.RowKit

attribute [local go_sem ↓] Go.wp_at_zero Go.wp_at_succ
/-- What is known while a record is drawn: it lies in its box b. -/
def LRec (w0 w : World) (g : Nat) (A : Option Addr) (c : Nat) (bs : List Int) (M : Int) (b : Nat) (wx : World) : Prop :=
  ∃ e : RecR, Blk wx b 40 #[.string e.c, .string e.r] ∧ e.c.size ≤ 20 ∧ e.r.size ≤ 20 ∧ CurU w0 wx g A c bs M ∧ w.grownBy wx (some g) ∧ Blk wx w.heap.size 40 #[.string ByteArray.empty, .string ByteArray.empty]
theorem byte_info : (Tryz.prog.info? 5).map (fun i => (i.zero, i.size, i.bytes)) = some (some (.int .u8 0), 1, 1) := by kernel_rfl
/-- A text of zeros, made by way of a list of bytes. -/
def zeros (n : Nat) : ByteArray := ⟨(List.replicate n (0 : UInt8)).toArray⟩
theorem zeros_size (n : Nat) : (zeros n).size = n := by show (List.replicate n (0 : UInt8)).toArray.size = n; simp
theorem made_at (n j : Nat) (hj : j < n) : (madeCells (Value.int .u8 0).cells n)[j]? = some (.int .u8 0) := by
  have h1 : madeCells (Value.int .u8 0).cells n = (List.replicate n (Value.int .u8 0)).toArray := by
    rw [← toList_madeCells_one]; rfl
  rw [h1]; simp [hj]
theorem make_zeros (n : Nat) (hn : n ≤ 1000000) (W : World) : (Instr.makeSlice 22 (.int .i64 (n : Int)) (.int .i64 (n : Int))).run Tryz.prog W = .ok (.slice (some ⟨W.heap.size, 0, none⟩) n n) (W.alloc (.cells (madeCells (Value.int .u8 0).cells n) 5)) := by
  obtain ⟨i0, hi0, hz0, hz1, hz2⟩ := info_parts byte_info
  rcases run_make_rowN (P := Tryz.prog) 22 5 i0 _ Tryz.underlying22 hi0 hz0 n (by rw [hz2]; omega) W with h | h
  · rw [hz1, Nat.mul_one] at h; exact h
  · rw [hz2] at h; cases h
theorem back_zeros (n : Nat) (W : World) : (convert 22 9 (.slice (some ⟨W.heap.size, 0, none⟩) n n)).run Tryz.prog (W.alloc (.cells (madeCells (Value.int .u8 0).cells n) 5)) = .ok (.string (zeros n)) (W.alloc (.cells (madeCells (Value.int .u8 0).cells n) 5)) := by
  have h := run_convert_bytes_back (P := Tryz.prog) (W.alloc (.cells (madeCells (Value.int .u8 0).cells n) 5)) 22 9 5 ⟨W.heap.size, 0, none⟩ n (List.replicate n (0 : UInt8)) Tryz.underlying22 Tryz.underlying5 Tryz.underlying9 (fun j hj => ?_)
  · rw [List.length_replicate] at h; exact h
  · rw [List.length_replicate] at hj
    rw [add_zero_off, (Blk.new W 5 _).cell j, made_at n j hj]
    simp
set_option maxHeartbeats 4000000 in
set_option maxRecDepth 100000 in
theorem s_logRecord (w0 : World) (g : Nat) (A : Option Addr) (c : Nat) (bs : List Int) (M : Int) (w : World) (hA : Code0 w0 A bs) (hC : CurU w0 w g A c bs M) (h1 : M ≤ 1099511620000) :
    Calls Tryz.prog 53 #[.pointer (some ⟨g, 0, none⟩)] w fun e w' => (∃ r : RecR, e = .returned r.val ∧ r.c.size ≤ 20 ∧ r.r.size ≤ 20) ∧ CurU w0 w' g A c bs (M + 20) ∧ w.grownBy w' (some g) := by
  have HC := hid hC
  have hgl := hC.lt
  have hgf := hC.far
  clear hC
  go_enter Tryz.func53, Tryz.ntmps53
  go_wp2_with fail
  refine (s_ofL w0 g A c bs M [_, _, _, _, _] _ rfl _ _ _ (by simp) hA (HC.out.grew' (by (repeat (first | with_reducible exact grew_refl _ | with_reducible assumption | with_reducible refine grew_split ?_ | with_reducible refine grew_mk ?_ | with_reducible refine grew_plus ?_ | with_reducible refine grew_alloc ?_ | with_reducible refine grew_drew ?_ | (with_reducible refine grew_set ?_ (by first | exact Nat.le_refl _ | omega | (simp [go_sem]; done) | (simp [go_sem]; omega))))))) (by omega) (by simp) (by simp)).mono ?_
  rintro e w1 ⟨⟨x1, rfl, hx1⟩, hC1, hG1⟩
  have hz1 : x1.size ≤ 20 := by simp at hx1; rcases hx1 with rfl | rfl | rfl | rfl | rfl <;> decide
  have HC1 := hid hC1
  have HG1 := hid ((grown_of_grew (w := w) (by (repeat (first | with_reducible exact grew_refl _ | with_reducible assumption | with_reducible refine grew_split ?_ | with_reducible refine grew_mk ?_ | with_reducible refine grew_plus ?_ | with_reducible refine grew_alloc ?_ | with_reducible refine grew_drew ?_ | (with_reducible refine grew_set ?_ (by first | exact Nat.le_refl _ | omega | (simp [go_sem]; done) | (simp [go_sem]; omega)))))) (some g)).trans hG1)
  have HR1 := hid ((blk_grew (blk_new (w := w) rfl) (by (repeat (first | with_reducible exact grew_refl _ | with_reducible assumption | with_reducible refine grew_split ?_ | with_reducible refine grew_mk ?_ | with_reducible refine grew_plus ?_ | with_reducible refine grew_alloc ?_ | with_reducible refine grew_drew ?_ | (with_reducible refine grew_set ?_ (by first | exact Nat.le_refl _ | omega | (simp [go_sem]; done) | (simp [go_sem]; omega))))))).grown hG1 (fun e => by injection e with e; omega))
  clear hC1 hG1 hx1
  go_wp2_with fail
  refine (s_ofL w0 g A c bs _ [_, _, _, _, _] _ rfl _ _ _ (by simp) hA (HC1.out.grew' (by (repeat (first | with_reducible exact grew_refl _ | with_reducible assumption | with_reducible refine grew_split ?_ | with_reducible refine grew_mk ?_ | with_reducible refine grew_plus ?_ | with_reducible refine grew_alloc ?_ | with_reducible refine grew_drew ?_ | (with_reducible refine grew_set ?_ (by first | exact Nat.le_refl _ | omega | (simp [go_sem]; done) | (simp [go_sem]; omega))))))) (by omega) (by simp) (by simp)).mono ?_
  rintro e w2 ⟨⟨x2, rfl, hx2⟩, hC2, hG2⟩
  have hz2 : x2.size ≤ 20 := by simp at hx2; rcases hx2 with rfl | rfl | rfl | rfl | rfl <;> decide
  have HC2 := hid hC2
  have HG2 := hid ((HG1.out.trans (grown_of_grew (by (repeat (first | with_reducible exact grew_refl _ | with_reducible assumption | with_reducible refine grew_split ?_ | with_reducible refine grew_mk ?_ | with_reducible refine grew_plus ?_ | with_reducible refine grew_alloc ?_ | with_reducible refine grew_drew ?_ | (with_reducible refine grew_set ?_ (by first | exact Nat.le_refl _ | omega | (simp [go_sem]; done) | (simp [go_sem]; omega)))))) _)).trans hG2)
  have HR2 := hid ((blk_grew HR1.out (by (repeat (first | with_reducible exact grew_refl _ | with_reducible assumption | with_reducible refine grew_split ?_ | with_reducible refine grew_mk ?_ | with_reducible refine grew_plus ?_ | with_reducible refine grew_alloc ?_ | with_reducible refine grew_drew ?_ | (with_reducible refine grew_set ?_ (by first | exact Nat.le_refl _ | omega | (simp [go_sem]; done) | (simp [go_sem]; omega))))))).grown hG2 (fun e => by injection e with e; omega))
  clear hC2 hG2 hx2 HR1 HG1 HC1
  go_upto_region 2 with fail
  generalize hb5 : w2.heap.size = b5
  refine opq_wp (fun wx => LRec w0 w g A c bs (M + 4) b5 wx) ⟨⟨x1, x2⟩, blk_new hb5.symm, hz1, hz2, (HC2.out.grew' (by (repeat (first | with_reducible exact grew_refl _ | with_reducible assumption | with_reducible refine grew_split ?_ | with_reducible refine grew_mk ?_ | with_reducible refine grew_plus ?_ | with_reducible refine grew_alloc ?_ | with_reducible refine grew_drew ?_ | (with_reducible refine grew_set ?_ (by first | exact Nat.le_refl _ | omega | (simp [go_sem]; done) | (simp [go_sem]; omega))))))).le (by omega), HG2.out.trans (grown_of_grew (by (repeat (first | with_reducible exact grew_refl _ | with_reducible assumption | with_reducible refine grew_split ?_ | with_reducible refine grew_mk ?_ | with_reducible refine grew_plus ?_ | with_reducible refine grew_alloc ?_ | with_reducible refine grew_drew ?_ | (with_reducible refine grew_set ?_ (by first | exact Nat.le_refl _ | omega | (simp [go_sem]; done) | (simp [go_sem]; omega)))))) _), HR2.out.alloc _⟩ ?_
  have hb5w : w.heap.size + 1 ≤ b5 := by rw [← hb5]; have h := HR2.out.lt; omega
  clear HC2 HG2 HR2 hb5
  rintro wq ⟨r, hB, hr1, hr2, hC, hG, hR⟩
  (have HB0 := hid hB; have HC0 := hid hC; have HG0 := hid hG; have HR0 := hid hR; have hbl := hB.lt; have hrl := hR.lt; have hgl2 := hC.lt; (have hc0 := hB.cell 0; have hc1 := hB.cell 1; simp [go_sem] at hc0 hc1); (have fc0 := hB.frozen 0; have fc1 := hB.frozen 1); clear hB hC hG hR)
  go_wp2_with fail
  refine (s_pick w0 g A c bs _ 24 _ hA HC0.out (by omega) (by omega)).mono ?_
  rintro e w5 ⟨⟨n, rfl, n0, n1⟩, hC5, hG5⟩
  have hC := hC5
  have hB := HB0.out.grown hG5 (fun e => by injection e with e; omega)
  have hR := HR0.out.grown hG5 (fun e => by injection e with e; omega)
  have hG := HG0.out.trans hG5
  clear hC5 hG5 hc0 hc1 fc0 fc1
  (have HB5 := hid hB; have HC5 := hid hC; have HG5 := hid hG; have HR5 := hid hR; have hbl := hB.lt; have hrl := hR.lt; have hgl2 := hC.lt; (have hc0 := hB.cell 0; have hc1 := hB.cell 1; simp [go_sem] at hc0 hc1); (have fc0 := hB.frozen 0; have fc1 := hB.frozen 1); clear hB hC hG hR)
  go_upto_block 0 with fail
  go_cut [3] (fun p wx => p = .pointer (some ⟨b5, 0, none⟩) ∧ LRec w0 w g A c bs (M + 20) b5 wx)
  case first =>
    rcases (show n = 0 ∨ n = 1 ∨ 1 < n by omega) with rfl | rfl | hn5
    · have hmk : ∀ W : World, (Instr.makeSlice 22 (.int .i64 3) (.int .i64 3)).run Tryz.prog W = .ok (.slice (some ⟨W.heap.size, 0, none⟩) 3 3) (W.alloc (.cells (madeCells (Value.int .u8 0).cells 3) 5)) := make_zeros 3 (by omega)
      have hbk : ∀ W : World, (convert 22 9 (.slice (some ⟨W.heap.size, 0, none⟩) 3 3)).run Tryz.prog (W.alloc (.cells (madeCells #[.int .u8 0] 3) 5)) = .ok (.string (zeros 3)) (W.alloc (.cells (madeCells #[.int .u8 0] 3) 5)) := fun W => back_zeros 3 W
      go_wp2_with fail
      (refine (s_ofL w0 g A c bs _ [_, _, _, _, _] _ rfl _ _ _ (by first | rfl | simp) hA (HC5.out.grew' (by (repeat (first | with_reducible exact grew_refl _ | with_reducible assumption | with_reducible refine grew_split ?_ | with_reducible refine grew_mk ?_ | with_reducible refine grew_plus ?_ | with_reducible refine grew_alloc ?_ | with_reducible refine grew_drew ?_ | (with_reducible refine grew_set ?_ (by first | exact Nat.le_refl _ | omega | (simp [go_sem]; done) | (simp [go_sem]; omega))))))) (by omega) (by simp) (by simp)).mono ?_; rintro e w6 ⟨⟨x6, rfl, hx6⟩, hC6, hG6⟩; have HC6 := hid hC6; have HB6 := hid ((blk_grew HB5.out (by (repeat (first | with_reducible exact grew_refl _ | with_reducible assumption | with_reducible refine grew_split ?_ | with_reducible refine grew_mk ?_ | with_reducible refine grew_plus ?_ | with_reducible refine grew_alloc ?_ | with_reducible refine grew_drew ?_ | (with_reducible refine grew_set ?_ (by first | exact Nat.le_refl _ | omega | (simp [go_sem]; done) | (simp [go_sem]; omega))))))).grown hG6 (fun e => by injection e with e; omega)); have HR6 := hid ((blk_grew HR5.out (by (repeat (first | with_reducible exact grew_refl _ | with_reducible assumption | with_reducible refine grew_split ?_ | with_reducible refine grew_mk ?_ | with_reducible refine grew_plus ?_ | with_reducible refine grew_alloc ?_ | with_reducible refine grew_drew ?_ | (with_reducible refine grew_set ?_ (by first | exact Nat.le_refl _ | omega | (simp [go_sem]; done) | (simp [go_sem]; omega))))))).grown hG6 (fun e => by injection e with e; omega)); have HG6 := hid ((HG5.out.trans (grown_of_grew (by (repeat (first | with_reducible exact grew_refl _ | with_reducible assumption | with_reducible refine grew_split ?_ | with_reducible refine grew_mk ?_ | with_reducible refine grew_plus ?_ | with_reducible refine grew_alloc ?_ | with_reducible refine grew_drew ?_ | (with_reducible refine grew_set ?_ (by first | exact Nat.le_refl _ | omega | (simp [go_sem]; done) | (simp [go_sem]; omega)))))) _)).trans hG6); clear hC6 hG6 hc0 hc1 fc0 fc1; (have hc0 := HB6.out.cell 0; have hc1 := HB6.out.cell 1; simp [go_sem] at hc0 hc1); (have fc0 := HB6.out.frozen 0; have fc1 := HB6.out.frozen 1); have hbl6 := HB6.out.lt)
      have hx20 : x6.size ≤ 20 := by simp at hx6; rcases hx6 with rfl | rfl | rfl | rfl | rfl <;> first | decide | (rw [zeros_size]; omega)
      clear hx6 hmk hbk
      go_wp2_with fail
      go_meet
      exact ⟨rfl, ⟨x6, r.r⟩, HB6.out.set_ 0 _, hx20, hr2, (HC6.out.kept (grown_set (g := b5) (grown_refl _ _)) (fun k hk => by injection hk with hk; omega)).le (by omega), grown_join HG6.out (grown_set (g := b5) (grown_refl _ _)) (fun k hk => by injection hk with hk; omega), HR6.out.far (by simp; omega) _⟩
    · go_wp2_with fail
      (refine (s_ofL w0 g A c bs _ [_, _, _] _ rfl _ _ _ (by first | rfl | simp) hA (HC5.out.grew' (by (repeat (first | with_reducible exact grew_refl _ | with_reducible assumption | with_reducible refine grew_split ?_ | with_reducible refine grew_mk ?_ | with_reducible refine grew_plus ?_ | with_reducible refine grew_alloc ?_ | with_reducible refine grew_drew ?_ | (with_reducible refine grew_set ?_ (by first | exact Nat.le_refl _ | omega | (simp [go_sem]; done) | (simp [go_sem]; omega))))))) (by omega) (by simp) (by simp)).mono ?_; rintro e w6 ⟨⟨x6, rfl, hx6⟩, hC6, hG6⟩; have HC6 := hid hC6; have HB6 := hid ((blk_grew HB5.out (by (repeat (first | with_reducible exact grew_refl _ | with_reducible assumption | with_reducible refine grew_split ?_ | with_reducible refine grew_mk ?_ | with_reducible refine grew_plus ?_ | with_reducible refine grew_alloc ?_ | with_reducible refine grew_drew ?_ | (with_reducible refine grew_set ?_ (by first | exact Nat.le_refl _ | omega | (simp [go_sem]; done) | (simp [go_sem]; omega))))))).grown hG6 (fun e => by injection e with e; omega)); have HR6 := hid ((blk_grew HR5.out (by (repeat (first | with_reducible exact grew_refl _ | with_reducible assumption | with_reducible refine grew_split ?_ | with_reducible refine grew_mk ?_ | with_reducible refine grew_plus ?_ | with_reducible refine grew_alloc ?_ | with_reducible refine grew_drew ?_ | (with_reducible refine grew_set ?_ (by first | exact Nat.le_refl _ | omega | (simp [go_sem]; done) | (simp [go_sem]; omega))))))).grown hG6 (fun e => by injection e with e; omega)); have HG6 := hid ((HG5.out.trans (grown_of_grew (by (repeat (first | with_reducible exact grew_refl _ | with_reducible assumption | with_reducible refine grew_split ?_ | with_reducible refine grew_mk ?_ | with_reducible refine grew_plus ?_ | with_reducible refine grew_alloc ?_ | with_reducible refine grew_drew ?_ | (with_reducible refine grew_set ?_ (by first | exact Nat.le_refl _ | omega | (simp [go_sem]; done) | (simp [go_sem]; omega)))))) _)).trans hG6); clear hC6 hG6 hc0 hc1 fc0 fc1; (have hc0 := HB6.out.cell 0; have hc1 := HB6.out.cell 1; simp [go_sem] at hc0 hc1); (have fc0 := HB6.out.frozen 0; have fc1 := HB6.out.frozen 1); have hbl6 := HB6.out.lt)
      have hx20 : x6.size ≤ 20 := by simp at hx6; rcases hx6 with rfl | rfl | rfl <;> decide
      clear hx6
      go_wp2_with fail
      go_meet
      exact ⟨rfl, ⟨r.c, x6⟩, HB6.out.set_ 1 _, hr1, hx20, (HC6.out.kept (grown_set (g := b5) (grown_refl _ _)) (fun k hk => by injection hk with hk; omega)).le (by omega), grown_join HG6.out (grown_set (g := b5) (grown_refl _ _)) (fun k hk => by injection hk with hk; omega), HR6.out.far (by simp; omega) _⟩
    · have e0 : (n == 0) = false := by simp; omega
      have e1 : (n == 1) = false := by simp; omega
      go_wp2_with fail
      go_meet
      exact ⟨rfl, r, HB5.out, hr1, hr2, HC5.out.le (by omega), HG5.out, HR5.out⟩
  case rest =>
    obtain ⟨rfl, r, hB, hr1, hr2, hC, hG, hR⟩ := hcut
    clear hc0 hc1 fc0 fc1
    (have HB6 := hid hB; have HC6 := hid hC; have HG6 := hid hG; have HR6 := hid hR; have hbl := hB.lt; have hrl := hR.lt; have hgl2 := hC.lt; (have hc0 := hB.cell 0; have hc1 := hB.cell 1; simp [go_sem] at hc0 hc1); (have fc0 := hB.frozen 0; have fc1 := hB.frozen 1); clear hB hC hG hR)
    (have hd0 := HR6.out.cell 0; have hd1 := HR6.out.cell 1; simp [go_sem] at hd0 hd1)
    (have fd0 := HR6.out.frozen 0; have fd1 := HR6.out.frozen 1)
    go_wp2_with fail
    refine bodyPost_ret (v := r.val) (by simp [results, Tryz.results53, go_sem, *]) rfl ?_
    exact ⟨⟨r, rfl, hr1, hr2⟩, (HC6.out.kept (grown_set (g := w.heap.size) (grown_set (grown_refl _ _))) (fun k hk => by injection hk with hk; omega)).le (by omega), grown_join HG6.out (grown_set (g := w.heap.size) (grown_set (grown_refl _ _))) (fun k hk => by injection hk with hk; omega)⟩
end Go.Proofs.YtecghfcgahgfiaaGreatDoor
/- The reference's draw of a log. (draft) -/
namespace Go.Proofs.YtecghfcgahgfiaaGreatDoor
open Go.RowKit

attribute [local go_sem ↓] Go.wp_at_zero Go.wp_at_succ
/-- A log of which no more than so many records were made. -/
def Lg (k : Nat) (l : LogR) : Prop := l.d.size + l.p.size ≤ 400 * k ∧ 0 ≤ l.n ∧ l.n ≤ k
theorem Lg.app {k : Nat} {l : LogR} (h : Lg k l) (e : RecR) : Lg (k + 1) (appF l e).1 := by
  obtain ⟨h1, h2, h3⟩ := h
  unfold appF
  split
  · rename_i hc
    simp only [Bool.and_eq_true] at hc
    split
    · exact ⟨by simp only; omega, by simp only; omega, by simp only; omega⟩
    · have := LogR.count hc.1
      have hz := lineV_size hc.2 (k := l.n.toNat) (by omega)
      refine ⟨?_, by simp only; omega, by simp only; omega⟩
      simp only [ByteArray.size_append]; omega
  · exact ⟨by simp only; omega, by simp only; omega, by simp only; omega⟩
theorem Lg.sync {k : Nat} {l : LogR} (h : Lg k l) : Lg k (syncF l).1 := by
  obtain ⟨h1, h2, h3⟩ := h
  unfold syncF
  split
  · refine ⟨?_, h2, h3⟩
    simp only [ByteArray.size_append]
    show _ + 0 ≤ _
    omega
  · exact ⟨by show 0 + 0 ≤ _; omega, by show (0 : Int) ≤ 0; omega, by show (0 : Int) ≤ _; omega⟩
theorem Lg.le {k m : Nat} {l : LogR} (h : Lg k l) (hm : k ≤ m) : Lg m l := ⟨by have := h.1; omega, h.2.1, by have := h.2.2; omega⟩
end Go.Proofs.YtecghfcgahgfiaaGreatDoor
/- The reference's draw of a log: the loop. (draft) -/
namespace Go.Proofs.YtecghfcgahgfiaaGreatDoor
open Go.RowKit

attribute [local go_sem ↓] Go.wp_at_zero Go.wp_at_succ
def LQ (w0 w : World) (g : Nat) (A : Option Addr) (c : Nat) (bs : List Int) (M : Int) (b k : Nat) (wx : World) : Prop :=
  ∃ l : LogR, Lg k l ∧ Blk wx b 28 #[.string (l).d, .string (l).p, .int .i64 (l).n] ∧ CurU w0 wx g A c bs M ∧ w.grownBy wx (some g) ∧ Blk wx w.heap.size 28 #[.string ByteArray.empty, .string ByteArray.empty, .int .i64 0]
set_option maxHeartbeats 4000000 in
set_option maxRecDepth 100000 in
theorem s_log (w0 : World) (g : Nat) (A : Option Addr) (c : Nat) (bs : List Int) (M : Int) (w : World) (hA : Code0 w0 A bs) (hE : Env w0) (hC : CurU w0 w g A c bs M) (h1 : M ≤ 1099511610000) :
    Calls Tryz.prog 88 #[.pointer (some ⟨g, 0, none⟩)] w fun e w' => (∃ l : LogR, e = .returned l.val ∧ Lg 7 l) ∧ CurU w0 w' g A c bs (M + 300) ∧ w.grownBy w' (some g) := by
  have HC := hid hC
  have HE := hid hE
  have hgl := hC.lt
  have hgf := hC.far
  clear hC hE
  go_enter Tryz.func88, Tryz.ntmps88
  go_wp2_with fail
  refine (s_pick w0 g A c bs M 7 _ hA (HC.out.grew' (by (repeat (first | with_reducible exact grew_refl _ | with_reducible assumption | with_reducible refine grew_split ?_ | with_reducible refine grew_mk ?_ | with_reducible refine grew_plus ?_ | with_reducible refine grew_alloc ?_ | with_reducible refine grew_drew ?_ | (with_reducible refine grew_set ?_ (by first | exact Nat.le_refl _ | omega | (simp [go_sem]; done) | (simp [go_sem]; omega))))))) (by omega) (by omega)).mono ?_
  rintro e w1 ⟨⟨n', rfl, n0, n1⟩, hC1, hG1⟩
  obtain ⟨n, hn0⟩ : ∃ k : Nat, n' = (k : Int) := ⟨n'.toNat, by omega⟩
  subst hn0
  have HC1 := hid hC1
  have HB1 := hid ((blk_new (w := w.alloc (.cells #[.string ByteArray.empty, .string ByteArray.empty, .int .i64 0] 28)) (t := 28) (cs := #[.string ByteArray.empty, .string ByteArray.empty, .int .i64 0]) (b := w.heap.size + 1) (by simp)).grown hG1 (fun e => by injection e with e; omega))
  have HR1 := hid ((((blk_new (w := w) (t := 28) (cs := #[.string ByteArray.empty, .string ByteArray.empty, .int .i64 0]) rfl).alloc _)).grown hG1 (fun e => by injection e with e; omega))
  have HG1 := hid ((grown_of_grew (w := w) (by (repeat (first | with_reducible exact grew_refl _ | with_reducible assumption | with_reducible refine grew_split ?_ | with_reducible refine grew_mk ?_ | with_reducible refine grew_plus ?_ | with_reducible refine grew_alloc ?_ | with_reducible refine grew_drew ?_ | (with_reducible refine grew_set ?_ (by first | exact Nat.le_refl _ | omega | (simp [go_sem]; done) | (simp [go_sem]; omega)))))) (some g)).trans hG1)
  clear hC1 hG1
  go_wp2_with fail
  go_loopw [4] (fun i wr => ∃ k : Nat, k ≤ n ∧ i = .int .i64 ((n - k : Nat) : Int) ∧ LQ w0 w g A c bs (M + 2 + 30 * (k : Int)) (w.heap.size + 1) k wr) (fun i _ => (intOf i).toNat)
  case atStart => exact ⟨0, by omega, rfl, zLog, ⟨by decide, by decide, by decide⟩, HB1.out, HC1.out.le (by omega), HG1.out, HR1.out⟩
  case round =>
    obtain ⟨k, hk, rfl, l, hL, hB, hC, hG, hR⟩ := hrel
    have HL := hid hL
    have HB := hid hB
    have HC2 := hid hC
    have HG := hid hG
    have HR := hid hR
    have hbl := hB.lt
    have hgl2 := hC.lt
    obtain ⟨z1, z2, z3⟩ := hL
    have hc0 := hB.cell 0
    have hc1 := hB.cell 1
    have hc2 := hB.cell 2
    simp [go_sem] at hc0 hc1 hc2
    have fc0 := hB.frozen 0
    have fc1 := hB.frozen 1
    have fc2 := hB.frozen 2
    clear hB hC hG hR
    by_cases hlt : k < n
    · have hpos : (0 : Int) < ((n - k : Nat) : Int) := by omega
      have hsub : IntKind.i64.wrap (((n - k : Nat) : Int) - 1) = ((n - (k + 1) : Nat) : Int) := by rw [IntWalk.i64_in _ (by omega)]; omega
      go_upto_region 5 with fail
      have KEEP : Hid (∀ W : World, wr.grownBy W (some g) → (W.cell? ⟨w.heap.size + 1, 0, none⟩ = some (.string l.d) ∧ W.cell? ⟨w.heap.size + 1, 1, none⟩ = some (.string l.p) ∧ W.cell? ⟨w.heap.size + 1, 2, none⟩ = some (.int .i64 l.n))) := hid (by
        intro W hW
        have h := HB.out.grown hW (fun e => by injection e with e; omega)
        have h0 := h.cell 0
        have h1 := h.cell 1
        have h2 := h.cell 2
        simp [go_sem] at h0 h1 h2
        exact ⟨h0, h1, h2⟩)
      go_cut [3] (fun p wx => p = .pointer (some ⟨w.heap.size + 1, 0, none⟩) ∧ LQ w0 w g A c bs (M + 2 + 30 * (k : Int) + 20) (w.heap.size + 1) (k + 1) wx)
      case first =>
        go_region_with (first | (go_at_call 53; refine (s_logRecord w0 g A c bs _ _ hA (HC2.out.grew' (by (repeat (first | with_reducible exact grew_refl _ | with_reducible assumption | with_reducible refine grew_split ?_ | with_reducible refine grew_mk ?_ | with_reducible refine grew_plus ?_ | with_reducible refine grew_alloc ?_ | with_reducible refine grew_drew ?_ | (with_reducible refine grew_set ?_ (by first | exact Nat.le_refl _ | omega | (simp [go_sem]; done) | (simp [go_sem]; omega))))))) (by omega)).mono ?_; rintro e w3 ⟨⟨r, rfl, hr1, hr2⟩, hC3, hG3⟩; have hb3 := HB.out.grown ((grown_of_grew (w := wr) (by (repeat (first | with_reducible exact grew_refl _ | with_reducible assumption | with_reducible refine grew_split ?_ | with_reducible refine grew_mk ?_ | with_reducible refine grew_plus ?_ | with_reducible refine grew_alloc ?_ | with_reducible refine grew_drew ?_ | (with_reducible refine grew_set ?_ (by first | exact Nat.le_refl _ | omega | (simp [go_sem]; done) | (simp [go_sem]; omega)))))) (some g)).trans hG3) (fun e => by injection e with e; omega); have HR3 := hid (HR.out.grown ((grown_of_grew (w := wr) (by (repeat (first | with_reducible exact grew_refl _ | with_reducible assumption | with_reducible refine grew_split ?_ | with_reducible refine grew_mk ?_ | with_reducible refine grew_plus ?_ | with_reducible refine grew_alloc ?_ | with_reducible refine grew_drew ?_ | (with_reducible refine grew_set ?_ (by first | exact Nat.le_refl _ | omega | (simp [go_sem]; done) | (simp [go_sem]; omega)))))) (some g)).trans hG3) (fun e => by injection e with e; omega)); have hbl3 := hb3.lt; have hd0 := hb3.cell 0; have hd1 := hb3.cell 1; have hd2 := hb3.cell 2; simp [go_sem] at hd0 hd1 hd2; have fd0 := hb3.frozen 0; have fd1 := hb3.frozen 1; have fd2 := hb3.frozen 2; have HB3 := hid hb3; have HC3 := hid hC3; have HG3 := hid (HG.out.trans ((grown_of_grew (w := wr) (by (repeat (first | with_reducible exact grew_refl _ | with_reducible assumption | with_reducible refine grew_split ?_ | with_reducible refine grew_mk ?_ | with_reducible refine grew_plus ?_ | with_reducible refine grew_alloc ?_ | with_reducible refine grew_drew ?_ | (with_reducible refine grew_set ?_ (by first | exact Nat.le_refl _ | omega | (simp [go_sem]; done) | (simp [go_sem]; omega)))))) (some g)).trans hG3)); clear hC3 hG3 hb3) | (go_at_call 30; refine (s_AppendRecord l r _ (by omega) (by omega) (by unfold maxLen; omega) (by unfold maxLen; omega) (HE.out.grew (grew_two' HC3.out.world (by (repeat (first | with_reducible exact grew_refl _ | with_reducible assumption | with_reducible refine grew_split ?_ | with_reducible refine grew_mk ?_ | with_reducible refine grew_plus ?_ | with_reducible refine grew_alloc ?_ | with_reducible refine grew_drew ?_ | (with_reducible refine grew_set ?_ (by first | exact Nat.le_refl _ | omega | (simp [go_sem]; done) | (simp [go_sem]; omega))))))))).mono ?_; (rintro e w' ⟨rfl, gx, rfl⟩)))
        all_goals
          go_wp2_with fail
          go_meet
          exact ⟨rfl, (appF l r).1, HL.out.app r, (((HB3.out.set_ 0 _).set_ 1 _).set_ 2 _).plus gx, (HC3.out.kept (grown_set (g := w.heap.size + 1) (grown_set (grown_set (grown_refl _ _)))) (fun k hk => by injection hk with hk; omega)).grew' (by (repeat (first | with_reducible exact grew_refl _ | with_reducible assumption | with_reducible refine grew_split ?_ | with_reducible refine grew_mk ?_ | with_reducible refine grew_plus ?_ | with_reducible refine grew_alloc ?_ | with_reducible refine grew_drew ?_ | (with_reducible refine grew_set ?_ (by first | exact Nat.le_refl _ | omega | (simp [go_sem]; done) | (simp [go_sem]; omega)))))), (grown_join HG3.out (grown_set (g := w.heap.size + 1) (grown_set (grown_set (grown_refl _ _)))) (fun k hk => by injection hk with hk; omega)).trans (grown_of_grew (by (repeat (first | with_reducible exact grew_refl _ | with_reducible assumption | with_reducible refine grew_split ?_ | with_reducible refine grew_mk ?_ | with_reducible refine grew_plus ?_ | with_reducible refine grew_alloc ?_ | with_reducible refine grew_drew ?_ | (with_reducible refine grew_set ?_ (by first | exact Nat.le_refl _ | omega | (simp [go_sem]; done) | (simp [go_sem]; omega)))))) _), (((HR3.out.far (by simp) _).far (by simp) _).far (by simp) _).plus gx⟩
      case rest =>
        clear hc0 hc1 hc2 fc0 fc1 fc2 KEEP HB HC2 HG HR HL z1 z2 z3 hbl hgl2
        obtain ⟨rfl, l4, hL4, hB4, hC4, hG4, hR4⟩ := hcut
        have HB4 := hid hB4
        have HC4 := hid hC4
        have HG4 := hid hG4
        have HR4 := hid hR4
        have HL4 := hid hL4
        obtain ⟨z1, z2, z3⟩ := hL4
        clear hB4 hC4 hG4 hR4
        go_wp2_with fail
        refine (s_one w0 g A c bs _ 4 _ hA HC4.out (by omega) (by omega)).mono ?_
        rintro e w5 ⟨⟨b, rfl⟩, hC5, hG5⟩
        have hB5 := HB4.out.grown hG5 (fun e => by injection e with e; omega)
        have HR5 := hid (HR4.out.grown hG5 (fun e => by injection e with e; omega))
        have HC5 := hid hC5
        have HG5 := hid (HG4.out.trans hG5)
        have hbl5 := hB5.lt
        have hd0 := hB5.cell 0
        have hd1 := hB5.cell 1
        have hd2 := hB5.cell 2
        simp [go_sem] at hd0 hd1 hd2
        have fd0 := hB5.frozen 0
        have fd1 := hB5.frozen 1
        have fd2 := hB5.frozen 2
        have HB5 := hid hB5
        clear hC5 hG5 hB5
        cases b
        · go_wp2_with fail
          go_roundw
          case rel => exact ⟨k + 1, by omega, rfl, l4, HL4.out, HB5.out, HC5.out.le (by omega), HG5.out, HR5.out⟩
          case measure => simp [intOf]; omega
        · go_wp2_with fail
          refine (s_SyncLog l4 _ (by omega) (by omega) (HE.out.grew (grew_two' HC5.out.world (by (repeat (first | with_reducible exact grew_refl _ | with_reducible assumption | with_reducible refine grew_split ?_ | with_reducible refine grew_mk ?_ | with_reducible refine grew_plus ?_ | with_reducible refine grew_alloc ?_ | with_reducible refine grew_drew ?_ | (with_reducible refine grew_set ?_ (by first | exact Nat.le_refl _ | omega | (simp [go_sem]; done) | (simp [go_sem]; omega))))))))).mono ?_
          (rintro e w' ⟨rfl, gx, rfl⟩)
          go_wp2_with fail
          go_roundw
          case rel => exact ⟨k + 1, by omega, rfl, (syncF l4).1, HL4.out.sync, (((HB5.out.set_ 0 _).set_ 1 _).set_ 2 _).plus gx, ((HC5.out.kept (grown_set (g := w.heap.size + 1) (grown_set (grown_set (grown_refl _ _)))) (fun k hk => by injection hk with hk; omega)).grew' (by (repeat (first | with_reducible exact grew_refl _ | with_reducible assumption | with_reducible refine grew_split ?_ | with_reducible refine grew_mk ?_ | with_reducible refine grew_plus ?_ | with_reducible refine grew_alloc ?_ | with_reducible refine grew_drew ?_ | (with_reducible refine grew_set ?_ (by first | exact Nat.le_refl _ | omega | (simp [go_sem]; done) | (simp [go_sem]; omega))))))).le (by omega), (grown_join HG5.out (grown_set (g := w.heap.size + 1) (grown_set (grown_set (grown_refl _ _)))) (fun k hk => by injection hk with hk; omega)).trans (grown_of_grew (by (repeat (first | with_reducible exact grew_refl _ | with_reducible assumption | with_reducible refine grew_split ?_ | with_reducible refine grew_mk ?_ | with_reducible refine grew_plus ?_ | with_reducible refine grew_alloc ?_ | with_reducible refine grew_drew ?_ | (with_reducible refine grew_set ?_ (by first | exact Nat.le_refl _ | omega | (simp [go_sem]; done) | (simp [go_sem]; omega)))))) _), (((HR5.out.far (by simp) _).far (by simp) _).far (by simp) _).plus gx⟩
          case measure => simp [intOf]; omega
    · have hz : n - k = 0 := by omega
      rw [hz]
      have hkn : k ≤ 7 := by omega
      have hd0 := HR.out.cell 0
      have hd1 := HR.out.cell 1
      have hd2 := HR.out.cell 2
      simp [go_sem] at hd0 hd1 hd2
      have fd0 := HR.out.frozen 0
      have fd1 := HR.out.frozen 1
      have fd2 := HR.out.frozen 2
      go_wp2_with fail
      refine bodyPost_ret (v := l.val) (by simp [results, Tryz.results88, go_sem, *]) rfl ?_
      exact ⟨⟨l, rfl, HL.out.le hkn⟩, (HC2.out.kept (grown_set (g := w.heap.size) (grown_set (grown_set (grown_refl _ _)))) (fun k hk => by injection hk with hk; omega)).le (by omega), grown_join HG.out (grown_set (g := w.heap.size) (grown_set (grown_set (grown_refl _ _)))) (fun k hk => by injection hk with hk; omega)⟩
end Go.Proofs.YtecghfcgahgfiaaGreatDoor
/- The reference's draws of logs: any log, and what the laws on logs draw. -/
namespace Go.Proofs.YtecghfcgahgfiaaGreatDoor
open Go.RowKit

attribute [local go_sem ↓] Go.wp_at_zero Go.wp_at_succ
def Lsz (l : LogR) : Prop := l.d.size + l.p.size ≤ 6000 ∧ 0 ≤ l.n ∧ l.n ≤ 60
def LA (w0 w : World) (g : Nat) (A : Option Addr) (c : Nat) (bs : List Int) (M : Int) (b : Nat) (wx : World) : Prop :=
  ∃ l : LogR, Lg 7 l ∧ Blk wx b 28 #[.string (l).d, .string (l).p, .int .i64 (l).n] ∧ CurU w0 wx g A c bs M ∧ w.grownBy wx (some g) ∧ Blk wx w.heap.size 28 #[.string ByteArray.empty, .string ByteArray.empty, .int .i64 0]
set_option maxHeartbeats 4000000 in
set_option maxRecDepth 100000 in
theorem s_anyLog (w0 : World) (g : Nat) (A : Option Addr) (c : Nat) (bs : List Int) (M : Int) (w : World) (hA : Code0 w0 A bs) (hE : Env w0) (hC : CurU w0 w g A c bs M) (h1 : M ≤ 1099511600000) :
    Calls Tryz.prog 60 #[.pointer (some ⟨g, 0, none⟩)] w fun e w' => (∃ l : LogR, e = .returned l.val ∧ Lsz l) ∧ CurU w0 w' g A c bs (M + 400) ∧ w.grownBy w' (some g) := by
  have HC := hid hC
  have HE := hid hE
  have hgl := hC.lt
  have hgf := hC.far
  clear hC hE
  go_enter Tryz.func60, Tryz.ntmps60
  go_wp2_with fail
  refine (s_log w0 g A c bs M _ hA HE.out (HC.out.grew' (by (repeat (first | with_reducible exact grew_refl _ | with_reducible assumption | with_reducible refine grew_split ?_ | with_reducible refine grew_mk ?_ | with_reducible refine grew_plus ?_ | with_reducible refine grew_alloc ?_ | with_reducible refine grew_drew ?_ | (with_reducible refine grew_set ?_ (by first | exact Nat.le_refl _ | omega | (simp [go_sem]; done) | (simp [go_sem]; omega))))))) (by omega)).mono ?_
  rintro e w1 ⟨⟨l0, rfl, hl0⟩, hC1, hG1⟩
  have HC1 := hid hC1
  have HG1 := hid ((grown_of_grew (w := w) (by (repeat (first | with_reducible exact grew_refl _ | with_reducible assumption | with_reducible refine grew_split ?_ | with_reducible refine grew_mk ?_ | with_reducible refine grew_plus ?_ | with_reducible refine grew_alloc ?_ | with_reducible refine grew_drew ?_ | (with_reducible refine grew_set ?_ (by first | exact Nat.le_refl _ | omega | (simp [go_sem]; done) | (simp [go_sem]; omega)))))) (some g)).trans hG1)
  have HR1 := hid ((blk_new (w := w) (t := 28) (cs := #[.string ByteArray.empty, .string ByteArray.empty, .int .i64 0]) rfl).grown hG1 (fun e => by injection e with e; omega))
  have hL1 := hl0
  clear hC1 hG1 hl0
  go_upto_region 2 with fail
  generalize hb5 : w1.heap.size = b5
  refine opq_wp (fun wx => LA w0 w g A c bs (M + 300) b5 wx) ⟨l0, hL1, blk_new hb5.symm, HC1.out.grew' (by (repeat (first | with_reducible exact grew_refl _ | with_reducible assumption | with_reducible refine grew_split ?_ | with_reducible refine grew_mk ?_ | with_reducible refine grew_plus ?_ | with_reducible refine grew_alloc ?_ | with_reducible refine grew_drew ?_ | (with_reducible refine grew_set ?_ (by first | exact Nat.le_refl _ | omega | (simp [go_sem]; done) | (simp [go_sem]; omega)))))), HG1.out.trans (grown_of_grew (by (repeat (first | with_reducible exact grew_refl _ | with_reducible assumption | with_reducible refine grew_split ?_ | with_reducible refine grew_mk ?_ | with_reducible refine grew_plus ?_ | with_reducible refine grew_alloc ?_ | with_reducible refine grew_drew ?_ | (with_reducible refine grew_set ?_ (by first | exact Nat.le_refl _ | omega | (simp [go_sem]; done) | (simp [go_sem]; omega)))))) _), HR1.out.alloc _⟩ ?_
  have hb5w : w.heap.size + 1 ≤ b5 := by rw [← hb5]; have h := HR1.out.lt; omega
  clear HC1 HG1 HR1 hb5
  rintro wq ⟨l, hL, hB, hC, hG, hR⟩
  have HL := hid hL
  obtain ⟨z1, z2, z3⟩ := hL
  (have HB0 := hid hB; have HC0 := hid hC; have HG0 := hid hG; have HR0 := hid hR; have hbl := hB.lt; have hrl := hR.lt; have hgl2 := hC.lt; (have hc0 := hB.cell 0; have hc1 := hB.cell 1; have hc2 := hB.cell 2; simp [go_sem] at hc0 hc1 hc2); (have fc0 := hB.frozen 0; have fc1 := hB.frozen 1; have fc2 := hB.frozen 2); clear hB hC hG hR)
  go_wp2_with fail
  refine (s_pick w0 g A c bs _ 24 _ hA HC0.out (by omega) (by omega)).mono ?_
  rintro e w5 ⟨⟨n, rfl, n0, n1⟩, hC5, hG5⟩
  have hC := hC5
  have hB := HB0.out.grown hG5 (fun e => by injection e with e; omega)
  have hR := HR0.out.grown hG5 (fun e => by injection e with e; omega)
  have hG := HG0.out.trans hG5
  clear hC5 hG5 hc0 hc1 hc2 fc0 fc1 fc2
  (have HB5 := hid hB; have HC5 := hid hC; have HG5 := hid hG; have HR5 := hid hR; have hbl := hB.lt; have hrl := hR.lt; have hgl2 := hC.lt; (have hc0 := hB.cell 0; have hc1 := hB.cell 1; have hc2 := hB.cell 2; simp [go_sem] at hc0 hc1 hc2); (have fc0 := hB.frozen 0; have fc1 := hB.frozen 1; have fc2 := hB.frozen 2); clear hB hC hG hR)
  go_upto_block 0 with fail
  go_cut [3] (fun p wx => p = .pointer (some ⟨b5, 0, none⟩) ∧ ∃ l : LogR, (l.d.size + l.p.size ≤ 6000 ∧ 0 ≤ l.n ∧ l.n ≤ 60) ∧ Blk wx b5 28 #[.string (l).d, .string (l).p, .int .i64 (l).n] ∧ CurU w0 wx g A c bs (M + 400) ∧ w.grownBy wx (some g) ∧ Blk wx w.heap.size 28 #[.string ByteArray.empty, .string ByteArray.empty, .int .i64 0])
  case first =>
    rcases (show n = 0 ∨ n = 1 ∨ n = 2 ∨ 2 < n by omega) with rfl | rfl | rfl | hn5
    · have hw1 : IntKind.i64.wrap (l.n + 1) = l.n + 1 := IntWalk.i64_in _ (by omega)
      go_wp2_with fail
      go_meet
      exact ⟨rfl, ⟨l.d, l.p, l.n + 1⟩, ⟨by simp only; omega, by simp only; omega, by simp only; omega⟩, HB5.out.set_ 2 _, (HC5.out.kept (grown_set (g := b5) (grown_refl _ _)) (fun k hk => by injection hk with hk; omega)).le (by omega), grown_join HG5.out (grown_set (g := b5) (grown_refl _ _)) (fun k hk => by injection hk with hk; omega), HR5.out.far (by simp; omega) _⟩
    · go_wp2_with fail
      refine (s_spoilt w0 g A c bs _ l.p _ _ hA (HC5.out.grew' (by (repeat (first | with_reducible exact grew_refl _ | with_reducible assumption | with_reducible refine grew_split ?_ | with_reducible refine grew_mk ?_ | with_reducible refine grew_plus ?_ | with_reducible refine grew_alloc ?_ | with_reducible refine grew_drew ?_ | (with_reducible refine grew_set ?_ (by first | exact Nat.le_refl _ | omega | (simp [go_sem]; done) | (simp [go_sem]; omega))))))) (by omega) (by omega) (by decide) (by decide)).mono ?_
      rintro e w6 ⟨⟨x6, rfl, hx6⟩, hC6, hG6⟩
      have hB := (blk_grew HB5.out (by (repeat (first | with_reducible exact grew_refl _ | with_reducible assumption | with_reducible refine grew_split ?_ | with_reducible refine grew_mk ?_ | with_reducible refine grew_plus ?_ | with_reducible refine grew_alloc ?_ | with_reducible refine grew_drew ?_ | (with_reducible refine grew_set ?_ (by first | exact Nat.le_refl _ | omega | (simp [go_sem]; done) | (simp [go_sem]; omega))))))).grown hG6 (fun e => by injection e with e; omega)
      have hR := (blk_grew HR5.out (by (repeat (first | with_reducible exact grew_refl _ | with_reducible assumption | with_reducible refine grew_split ?_ | with_reducible refine grew_mk ?_ | with_reducible refine grew_plus ?_ | with_reducible refine grew_alloc ?_ | with_reducible refine grew_drew ?_ | (with_reducible refine grew_set ?_ (by first | exact Nat.le_refl _ | omega | (simp [go_sem]; done) | (simp [go_sem]; omega))))))).grown hG6 (fun e => by injection e with e; omega)
      have hG := (HG5.out.trans (grown_of_grew (by (repeat (first | with_reducible exact grew_refl _ | with_reducible assumption | with_reducible refine grew_split ?_ | with_reducible refine grew_mk ?_ | with_reducible refine grew_plus ?_ | with_reducible refine grew_alloc ?_ | with_reducible refine grew_drew ?_ | (with_reducible refine grew_set ?_ (by first | exact Nat.le_refl _ | omega | (simp [go_sem]; done) | (simp [go_sem]; omega)))))) _)).trans hG6
      have hC := hC6
      clear hC6 hG6 hc0 hc1 hc2 fc0 fc1 fc2
      have HB6 := hid hB
      have HR6 := hid hR
      have HG6 := hid hG
      have HC6 := hid hC
      have hbl6 := hB.lt
      (have hc0 := hB.cell 0; have hc1 := hB.cell 1; have hc2 := hB.cell 2; simp [go_sem] at hc0 hc1 hc2)
      (have fc0 := hB.frozen 0; have fc1 := hB.frozen 1; have fc2 := hB.frozen 2)
      clear hB hR hG hC
      go_wp2_with fail
      go_meet
      exact ⟨rfl, ⟨l.d, x6, l.n⟩, ⟨by simp only; omega, by simp only; omega, by simp only; omega⟩, HB6.out.set_ 1 _, (HC6.out.kept (grown_set (g := b5) (grown_refl _ _)) (fun k hk => by injection hk with hk; omega)).le (by omega), grown_join HG6.out (grown_set (g := b5) (grown_refl _ _)) (fun k hk => by injection hk with hk; omega), HR6.out.far (by simp; omega) _⟩
    · have hs : ¬ 9223372036854775807 < l.d.size + l.p.size := by omega
      go_wp2_with fail
      go_meet
      exact ⟨rfl, ⟨l.d ++ l.p, l.p, l.n⟩, ⟨by simp only [ByteArray.size_append]; omega, by simp only; omega, by simp only; omega⟩, HB5.out.set_ 0 _, (HC5.out.kept (grown_set (g := b5) (grown_refl _ _)) (fun k hk => by injection hk with hk; omega)).le (by omega), grown_join HG5.out (grown_set (g := b5) (grown_refl _ _)) (fun k hk => by injection hk with hk; omega), HR5.out.far (by simp; omega) _⟩
    · have e0 : (n == 0) = false := by simp; omega
      have e1 : (n == 1) = false := by simp; omega
      have e2 : (n == 2) = false := by simp; omega
      go_wp2_with fail
      go_meet
      exact ⟨rfl, l, ⟨by omega, by omega, by omega⟩, HB5.out, HC5.out.le (by omega), HG5.out, HR5.out⟩
  case rest =>
    obtain ⟨rfl, l4, hL4, hB, hC, hG, hR⟩ := hcut
    clear hc0 hc1 hc2 fc0 fc1 fc2
    (have HB6 := hid hB; have HC6 := hid hC; have HG6 := hid hG; have HR6 := hid hR; have hbl := hB.lt; have hrl := hR.lt; have hgl2 := hC.lt; (have hc0 := hB.cell 0; have hc1 := hB.cell 1; have hc2 := hB.cell 2; simp [go_sem] at hc0 hc1 hc2); (have fc0 := hB.frozen 0; have fc1 := hB.frozen 1; have fc2 := hB.frozen 2); clear hB hC hG hR)
    (have hd0 := HR6.out.cell 0; have hd1 := HR6.out.cell 1; have hd2 := HR6.out.cell 2; simp [go_sem] at hd0 hd1 hd2)
    (have fd0 := HR6.out.frozen 0; have fd1 := HR6.out.frozen 1; have fd2 := HR6.out.frozen 2)
    go_wp2_with fail
    refine bodyPost_ret (v := l4.val) (by simp [results, Tryz.results60, go_sem, *]) rfl ?_
    exact ⟨⟨l4, rfl, hL4⟩, (HC6.out.kept (grown_set (g := w.heap.size) (grown_set (grown_set (grown_refl _ _)))) (fun k hk => by injection hk with hk; omega)).le (by omega), grown_join HG6.out (grown_set (g := w.heap.size) (grown_set (grown_set (grown_refl _ _)))) (fun k hk => by injection hk with hk; omega)⟩
end Go.Proofs.YtecghfcgahgfiaaGreatDoor
