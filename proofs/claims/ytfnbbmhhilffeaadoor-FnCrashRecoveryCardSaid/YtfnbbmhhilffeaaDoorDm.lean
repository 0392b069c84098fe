/- The reference's draw of a record. -/
import Derived.Test.YtfnbbmhhilffeaaDoorDl
namespace Go.Proofs.YtfnbbmhhilffeaaDoor
open Go.RowKit

attribute [local go_sem ↓] Go.wp_at_zero Go.wp_at_succ
/-- What is known while a record is drawn: it lies in its box b. -/
def LRec (w0 w : World) (g : Nat) (A : Option Addr) (c : Nat) (bs : List Int) (M : Int) (b : Nat) (wx : World) : Prop :=
  ∃ e : RecR, Blk wx b 27 #[.string e.c, .string e.r] ∧ e.c.size ≤ 20 ∧ e.r.size ≤ 20 ∧ CurU w0 wx g A c bs M ∧ w.grownBy wx (some g) ∧ Blk wx w.heap.size 27 #[.string ByteArray.empty, .string ByteArray.empty]
theorem byte_info : (Tryd.prog.info? 5).map (fun i => (i.zero, i.size, i.bytes)) = some (some (.int .u8 0), 1, 1) := by kernel_rfl
/-- A text of zeros, made by way of a list of bytes. -/
def zeros (n : Nat) : ByteArray := ⟨(List.replicate n (0 : UInt8)).toArray⟩
theorem zeros_size (n : Nat) : (zeros n).size = n := by show (List.replicate n (0 : UInt8)).toArray.size = n; simp
theorem made_at (n j : Nat) (hj : j < n) : (madeCells (Value.int .u8 0).cells n)[j]? = some (.int .u8 0) := by
  have h1 : madeCells (Value.int .u8 0).cells n = (List.replicate n (Value.int .u8 0)).toArray := by
    rw [← toList_madeCells_one]; rfl
  rw [h1]; simp [hj]
theorem make_zeros (n : Nat) (hn : n ≤ 1000000) (W : World) : (Instr.makeSlice 22 (.int .i64 (n : Int)) (.int .i64 (n : Int))).run Tryd.prog W = .ok (.slice (some ⟨W.heap.size, 0, none⟩) n n) (W.alloc (.cells (madeCells (Value.int .u8 0).cells n) 5)) := by
  obtain ⟨i0, hi0, hz0, hz1, hz2⟩ := info_parts byte_info
  rcases run_make_rowN (P := Tryd.prog) 22 5 i0 _ Tryd.underlying22 hi0 hz0 n (by rw [hz2]; omega) W with h | h
  · rw [hz1, Nat.mul_one] at h; exact h
  · rw [hz2] at h; cases h
theorem back_zeros (n : Nat) (W : World) : (convert 22 9 (.slice (some ⟨W.heap.size, 0, none⟩) n n)).run Tryd.prog (W.alloc (.cells (madeCells (Value.int .u8 0).cells n) 5)) = .ok (.string (zeros n)) (W.alloc (.cells (madeCells (Value.int .u8 0).cells n) 5)) := by
  have h := run_convert_bytes_back (P := Tryd.prog) (W.alloc (.cells (madeCells (Value.int .u8 0).cells n) 5)) 22 9 5 ⟨W.heap.size, 0, none⟩ n (List.replicate n (0 : UInt8)) Tryd.underlying22 Tryd.underlying5 Tryd.underlying9 (fun j hj => ?_)
  · rw [List.length_replicate] at h; exact h
  · rw [List.length_replicate] at hj
    rw [add_zero_off, (Blk.new W 5 _).cell j, made_at n j hj]
    simp
set_option maxHeartbeats 4000000 in
set_option maxRecDepth 100000 in
theorem s_logRecord (w0 : World) (g : Nat) (A : Option Addr) (c : Nat) (bs : List Int) (M : Int) (w : World) (hA : Code0 w0 A bs) (hC : CurU w0 w g A c bs M) (h1 : M ≤ 1099511620000) :
    Calls Tryd.prog 29 #[.pointer (some ⟨g, 0, none⟩)] w fun e w' => (∃ r : RecR, e = .returned r.val ∧ r.c.size ≤ 20 ∧ r.r.size ≤ 20) ∧ CurU w0 w' g A c bs (M + 20) ∧ w.grownBy w' (some g) := by
  have HC := hid hC
  have hgl := hC.lt
  have hgf := hC.far
  clear hC
  go_enter Tryd.func29, Tryd.ntmps29
  go_wp2_with fail
  refine (s_ofL w0 g A c bs M [_, _, _, _, _] _ rfl _ _ _ (by simp) hA (HC.out.grew' (by (repeat (first | with_reducible exact grew_refl _ | with_reducible assumption | with_reducible refine grew_split ?_ | with_reducible refine grew_mk ?_ | with_reducible refine grew_plus ?_ | with_reducible refine grew_alloc ?_ | with_reducible refine grew_drew ?_ | (with_reducible refine grew_set ?_ (by first | exact Nat.le_refl _ | omega | (simp [go_sem]; done) | (simp [go_sem]; omega))))))) (by omega) (by simp) (by simp)).mono ?_
  rintro e w1 ⟨⟨x1, rfl, hx1⟩, hC1, hG1⟩
  have hz1 : x1.size ≤ 20 := by simp at hx1; rcases hx1 with rfl | rfl | rfl | rfl | rfl <;> decide
  have HC1 := hid hC1
  have HG1 := hid ((grown_of_grew (w := w) (by (repeat (first | with_reducible exact grew_refl _ | with_reducible assumption | with_reducible refine grew_split ?_ | with_reducible refine grew_mk ?_ | with_reducible refine grew_plus ?_ | with_reducible refine grew_alloc ?_ | with_reducible refine grew_drew ?_ | (with_reducible refine grew_set ?_ (by first | exact Nat.le_refl _ | omega | (simp [go_sem]; done) | (simp [go_sem]; omega)))))) (some g)).trans hG1)
  have HR1 := hid ((blk_grew (blk_new (w := w) rfl) (by (repeat (first | with_reducible exact grew_refl _ | with_reducible assumption | with_reducible refine grew_split ?_ | with_reducible refine grew_mk ?_ | with_reducible refine grew_plus ?_ | with_reducible refine grew_alloc ?_ | with_reducible refine grew_drew ?_ | (with_reducible refine grew_set ?_ (by first | exact Nat.le_refl _ | omega | (simp [go_sem]; done) | (simp [go_sem]; omega))))))).grown hG1 (fun e => by injection e with e; omega))
  clear hC1 hG1 hx1
  go_wp2_with fail
  refine (s_ofL w0 g A c bs _ [_, _, _, _, _] _ rfl _ _ _ (by simp) hA (HC1.out.grew' (by (repeat (first | with_reducible exact grew_refl _ | with_reducible assumption | with_reducible refine grew_split ?_ | with_reducible refine grew_mk ?_ | with_reducible refine grew_plus ?_ | with_reducible refine grew_alloc ?_ | with_reducible refine grew_drew ?_ | (with_reducible refine grew_set ?_ (by first | exact Nat.le_refl _ | omega | (simp [go_sem]; done) | (simp [go_sem]; omega))))))) (by omega) (by simp) (by simp)).mono ?_
  rintro e w2 ⟨⟨x2, rfl, hx2⟩, hC2, hG2⟩
  have hz2 : x2.size ≤ 20 := by simp at hx2; rcases hx2 with rfl | rfl | rfl | rfl | rfl <;> decide
  have HC2 := hid hC2
  have HG2 := hid ((HG1.out.trans (grown_of_grew (by (repeat (first | with_reducible exact grew_refl _ | with_reducible assumption | with_reducible refine grew_split ?_ | with_reducible refine grew_mk ?_ | with_reducible refine grew_plus ?_ | with_reducible refine grew_alloc ?_ | with_reducible refine grew_drew ?_ | (with_reducible refine grew_set ?_ (by first | exact Nat.le_refl _ | omega | (simp [go_sem]; done) | (simp [go_sem]; omega)))))) _)).trans hG2)
  have HR2 := hid ((blk_grew HR1.out (by (repeat (first | with_reducible exact grew_refl _ | with_reducible assumption | with_reducible refine grew_split ?_ | with_reducible refine grew_mk ?_ | with_reducible refine grew_plus ?_ | with_reducible refine grew_alloc ?_ | with_reducible refine grew_drew ?_ | (with_reducible refine grew_set ?_ (by first | exact Nat.le_refl _ | omega | (simp [go_sem]; done) | (simp [go_sem]; omega))))))).grown hG2 (fun e => by injection e with e; omega))
  clear hC2 hG2 hx2 HR1 HG1 HC1
  go_upto_region 2 with fail
  generalize hb5 : w2.heap.size = b5
  refine opq_wp (fun wx => LRec w0 w g A c bs (M + 4) b5 wx) ⟨⟨x1, x2⟩, blk_new hb5.symm, hz1, hz2, (HC2.out.grew' (by (repeat (first | with_reducible exact grew_refl _ | with_reducible assumption | with_reducible refine grew_split ?_ | with_reducible refine grew_mk ?_ | with_reducible refine grew_plus ?_ | with_reducible refine grew_alloc ?_ | with_reducible refine grew_drew ?_ | (with_reducible refine grew_set ?_ (by first | exact Nat.le_refl _ | omega | (simp [go_sem]; done) | (simp [go_sem]; omega))))))).le (by omega), HG2.out.trans (grown_of_grew (by (repeat (first | with_reducible exact grew_refl _ | with_reducible assumption | with_reducible refine grew_split ?_ | with_reducible refine grew_mk ?_ | with_reducible refine grew_plus ?_ | with_reducible refine grew_alloc ?_ | with_reducible refine grew_drew ?_ | (with_reducible refine grew_set ?_ (by first | exact Nat.le_refl _ | omega | (simp [go_sem]; done) | (simp [go_sem]; omega)))))) _), HR2.out.alloc _⟩ ?_
  have hb5w : w.heap.size + 1 ≤ b5 := by rw [← hb5]; have h := HR2.out.lt; omega
  clear HC2 HG2 HR2 hb5
  rintro wq ⟨r, hB, hr1, hr2, hC, hG, hR⟩
  (have HB0 := hid hB; have HC0 := hid hC; have HG0 := hid hG; have HR0 := hid hR; have hbl := hB.lt; have hrl := hR.lt; have hgl2 := hC.lt; (have hc0 := hB.cell 0; have hc1 := hB.cell 1; simp [go_sem] at hc0 hc1); (have fc0 := hB.frozen 0; have fc1 := hB.frozen 1); clear hB hC hG hR)
  go_wp2_with fail
  refine (s_pick w0 g A c bs _ 24 _ hA HC0.out (by omega) (by omega)).mono ?_
  rintro e w5 ⟨⟨n, rfl, n0, n1⟩, hC5, hG5⟩
  have hC := hC5
  have hB := HB0.out.grown hG5 (fun e => by injection e with e; omega)
  have hR := HR0.out.grown hG5 (fun e => by injection e with e; omega)
  have hG := HG0.out.trans hG5
  clear hC5 hG5 hc0 hc1 fc0 fc1
  (have HB5 := hid hB; have HC5 := hid hC; have HG5 := hid hG; have HR5 := hid hR; have hbl := hB.lt; have hrl := hR.lt; have hgl2 := hC.lt; (have hc0 := hB.cell 0; have hc1 := hB.cell 1; simp [go_sem] at hc0 hc1); (have fc0 := hB.frozen 0; have fc1 := hB.frozen 1); clear hB hC hG hR)
  go_upto_block 0 with fail
  go_cut [3] (fun p wx => p = .pointer (some ⟨b5, 0, none⟩) ∧ LRec w0 w g A c bs (M + 20) b5 wx)
  case first =>
    rcases (show n = 0 ∨ n = 1 ∨ 1 < n by omega) with rfl | rfl | hn5
    · have hmk : ∀ W : World, (Instr.makeSlice 22 (.int .i64 3) (.int .i64 3)).run Tryd.prog W = .ok (.slice (some ⟨W.heap.size, 0, none⟩) 3 3) (W.alloc (.cells (madeCells (Value.int .u8 0).cells 3) 5)) := make_zeros 3 (by omega)
      have hbk : ∀ W : World, (convert 22 9 (.slice (some ⟨W.heap.size, 0, none⟩) 3 3)).run Tryd.prog (W.alloc (.cells (madeCells #[.int .u8 0] 3) 5)) = .ok (.string (zeros 3)) (W.alloc (.cells (madeCells #[.int .u8 0] 3) 5)) := fun W => back_zeros 3 W
      go_wp2_with fail
      (refine (s_ofL w0 g A c bs _ [_, _, _, _, _] _ rfl _ _ _ (by first | rfl | simp) hA (HC5.out.grew' (by (repeat (first | with_reducible exact grew_refl _ | with_reducible assumption | with_reducible refine grew_split ?_ | with_reducible refine grew_mk ?_ | with_reducible refine grew_plus ?_ | with_reducible refine grew_alloc ?_ | with_reducible refine grew_drew ?_ | (with_reducible refine grew_set ?_ (by first | exact Nat.le_refl _ | omega | (simp [go_sem]; done) | (simp [go_sem]; omega))))))) (by omega) (by simp) (by simp)).mono ?_; rintro e w6 ⟨⟨x6, rfl, hx6⟩, hC6, hG6⟩; have HC6 := hid hC6; have HB6 := hid ((blk_grew HB5.out (by (repeat (first | with_reducible exact grew_refl _ | with_reducible assumption | with_reducible refine grew_split ?_ | with_reducible refine grew_mk ?_ | with_reducible refine grew_plus ?_ | with_reducible refine grew_alloc ?_ | with_reducible refine grew_drew ?_ | (with_reducible refine grew_set ?_ (by first | exact Nat.le_refl _ | omega | (simp [go_sem]; done) | (simp [go_sem]; omega))))))).grown hG6 (fun e => by injection e with e; omega)); have HR6 := hid ((blk_grew HR5.out (by (repeat (first | with_reducible exact grew_refl _ | with_reducible assumption | with_reducible refine grew_split ?_ | with_reducible refine grew_mk ?_ | with_reducible refine grew_plus ?_ | with_reducible refine grew_alloc ?_ | with_reducible refine grew_drew ?_ | (with_reducible refine grew_set ?_ (by first | exact Nat.le_refl _ | omega | (simp [go_sem]; done) | (simp [go_sem]; omega))))))).grown hG6 (fun e => by injection e with e; omega)); have HG6 := hid ((HG5.out.trans (grown_of_grew (by (repeat (first | with_reducible exact grew_refl _ | with_reducible assumption | with_reducible refine grew_split ?_ | with_reducible refine grew_mk ?_ | with_reducible refine grew_plus ?_ | with_reducible refine grew_alloc ?_ | with_reducible refine grew_drew ?_ | (with_reducible refine grew_set ?_ (by first | exact Nat.le_refl _ | omega | (simp [go_sem]; done) | (simp [go_sem]; omega)))))) _)).trans hG6); clear hC6 hG6 hc0 hc1 fc0 fc1; (have hc0 := HB6.out.cell 0; have hc1 := HB6.out.cell 1; simp [go_sem] at hc0 hc1); (have fc0 := HB6.out.frozen 0; have fc1 := HB6.out.frozen 1); have hbl6 := HB6.out.lt)
      have hx20 : x6.size ≤ 20 := by simp at hx6; rcases hx6 with rfl | rfl | rfl | rfl | rfl <;> first | decide | (rw [zeros_size]; omega)
      clear hx6 hmk hbk
      go_wp2_with fail
      go_meet
      exact ⟨rfl, ⟨x6, r.r⟩, HB6.out.set_ 0 _, hx20, hr2, (HC6.out.kept (grown_set (g := b5) (grown_refl _ _)) (fun k hk => by injection hk with hk; omega)).le (by omega), grown_join HG6.out (grown_set (g := b5) (grown_refl _ _)) (fun k hk => by injection hk with hk; omega), HR6.out.far (by simp; omega) _⟩
    · go_wp2_with fail
      (refine (s_ofL w0 g A c bs _ [_, _, _] _ rfl _ _ _ (by first | rfl | simp) hA (HC5.out.grew' (by (repeat (first | with_reducible exact grew_refl _ | with_reducible assumption | with_reducible refine grew_split ?_ | with_reducible refine grew_mk ?_ | with_reducible refine grew_plus ?_ | with_reducible refine grew_alloc ?_ | with_reducible refine grew_drew ?_ | (with_reducible refine grew_set ?_ (by first | exact Nat.le_refl _ | omega | (simp [go_sem]; done) | (simp [go_sem]; omega))))))) (by omega) (by simp) (by simp)).mono ?_; rintro e w6 ⟨⟨x6, rfl, hx6⟩, hC6, hG6⟩; have HC6 := hid hC6; have HB6 := hid ((blk_grew HB5.out (by (repeat (first | with_reducible exact grew_refl _ | with_reducible assumption | with_reducible refine grew_split ?_ | with_reducible refine grew_mk ?_ | with_reducible refine grew_plus ?_ | with_reducible refine grew_alloc ?_ | with_reducible refine grew_drew ?_ | (with_reducible refine grew_set ?_ (by first | exact Nat.le_refl _ | omega | (simp [go_sem]; done) | (simp [go_sem]; omega))))))).grown hG6 (fun e => by injection e with e; omega)); have HR6 := hid ((blk_grew HR5.out (by (repeat (first | with_reducible exact grew_refl _ | with_reducible assumption | with_reducible refine grew_split ?_ | with_reducible refine grew_mk ?_ | with_reducible refine grew_plus ?_ | with_reducible refine grew_alloc ?_ | with_reducible refine grew_drew ?_ | (with_reducible refine grew_set ?_ (by first | exact Nat.le_refl _ | omega | (simp [go_sem]; done) | (simp [go_sem]; omega))))))).grown hG6 (fun e => by injection e with e; omega)); have HG6 := hid ((HG5.out.trans (grown_of_grew (by (repeat (first | with_reducible exact grew_refl _ | with_reducible assumption | with_reducible refine grew_split ?_ | with_reducible refine grew_mk ?_ | with_reducible refine grew_plus ?_ | with_reducible refine grew_alloc ?_ | with_reducible refine grew_drew ?_ | (with_reducible refine grew_set ?_ (by first | exact Nat.le_refl _ | omega | (simp [go_sem]; done) | (simp [go_sem]; omega)))))) _)).trans hG6); clear hC6 hG6 hc0 hc1 fc0 fc1; (have hc0 := HB6.out.cell 0; have hc1 := HB6.out.cell 1; simp [go_sem] at hc0 hc1); (have fc0 := HB6.out.frozen 0; have fc1 := HB6.out.frozen 1); have hbl6 := HB6.out.lt)
      have hx20 : x6.size ≤ 20 := by simp at hx6; rcases hx6 with rfl | rfl | rfl <;> decide
      clear hx6
      go_wp2_with fail
      go_meet
      exact ⟨rfl, ⟨r.c, x6⟩, HB6.out.set_ 1 _, hr1, hx20, (HC6.out.kept (grown_set (g := b5) (grown_refl _ _)) (fun k hk => by injection hk with hk; omega)).le (by omega), grown_join HG6.out (grown_set (g := b5) (grown_refl _ _)) (fun k hk => by injection hk with hk; omega), HR6.out.far (by simp; omega) _⟩
    · have e0 : (n == 0) = false := by simp; omega
      have e1 : (n == 1) = false := by simp; omega
      go_wp2_with fail
      go_meet
      exact ⟨rfl, r, HB5.out, hr1, hr2, HC5.out.le (by omega), HG5.out, HR5.out⟩
  case rest =>
    obtain ⟨rfl, r, hB, hr1, hr2, hC, hG, hR⟩ := hcut
    clear hc0 hc1 fc0 fc1
    (have HB6 := hid hB; have HC6 := hid hC; have HG6 := hid hG; have HR6 := hid hR; have hbl := hB.lt; have hrl := hR.lt; have hgl2 := hC.lt; (have hc0 := hB.cell 0; have hc1 := hB.cell 1; simp [go_sem] at hc0 hc1); (have fc0 := hB.frozen 0; have fc1 := hB.frozen 1); clear hB hC hG hR)
    (have hd0 := HR6.out.cell 0; have hd1 := HR6.out.cell 1; simp [go_sem] at hd0 hd1)
    (have fd0 := HR6.out.frozen 0; have fd1 := HR6.out.frozen 1)
    go_wp2_with fail
    refine bodyPost_ret (v := r.val) (by simp [results, Tryd.results29, go_sem, *]) rfl ?_
    exact ⟨⟨r, rfl, hr1, hr2⟩, (HC6.out.kept (grown_set (g := w.heap.size) (grown_set (grown_refl _ _))) (fun k hk => by injection hk with hk; omega)).le (by omega), grown_join HG6.out (grown_set (g := w.heap.size) (grown_set (grown_refl _ _))) (fun k hk => by injection hk with hk; omega)⟩
end Go.Proofs.YtfnbbmhhilffeaaDoor
