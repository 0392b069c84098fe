/- The reference's draws of logs: DrawRecoverLog. -/
import Derived.Test.YtfnbbmhhilffeaaDoorDq
namespace Go.Proofs.YtfnbbmhhilffeaaDoor
open Go.RowKit

attribute [local go_sem ↓] Go.wp_at_zero Go.wp_at_succ
theorem line_small {k : Nat} {e : RecR} (hk : k < 1000) (h1 : e.c.size ≤ 20) (h2 : e.r.size ≤ 20) : (lineV k e).size ≤ 1000 := by
  have z1 := num_size k (by omega) (by omega)
  have h := bl_len (lineV k e)
  rw [lineV_bytes] at h
  have hs := sumL_range (textB k (bl e.c) (bl e.r))
  have z2 := num_size (sumL (textB k (bl e.c) (bl e.r))) (by omega) (by omega)
  have e1 : (num (k : Int)).size = (Go.Lib.itoa k).length := by simp [num, ByteArray.size]
  have e2 : (num (sumL (textB k (bl e.c) (bl e.r)))).size = (Go.Lib.itoa (sumL (textB k (bl e.c) (bl e.r)))).length := by simp [num, ByteArray.size]
  have e3 := bl_len e.c
  have e4 := bl_len e.r
  simp only [RecR.line, lineB, textB, List.length_append, List.length_cons, List.length_nil] at h
  simp only [textB] at e2 z2
  omega
set_option maxHeartbeats 4000000 in
set_option maxRecDepth 100000 in
theorem s_DrawRecover (A : Option Addr) (c : Nat) (bs : List Int) (w : World) (hA : Code0 w A bs) (hE : Env w) :
    Calls Tryd.prog 20 #[.slice A bs.length c] w fun e w' => (∃ s : ByteArray, e = .returned (.string s) ∧ s.size ≤ 100000) ∧ ∃ g, w' = plus w g := by
  have HA := hid hA
  have HE := hid hE
  clear hA hE
  go_enter Tryd.func20, Tryd.ntmps20
  go_wp2_with fail
  refine (s_log w w.heap.size A c bs 0 _ HA.out HE.out (cur_at w _ A c bs _ (by (repeat (first | with_reducible exact grew_refl _ | with_reducible assumption | with_reducible refine grew_split ?_ | with_reducible refine grew_mk ?_ | with_reducible refine grew_plus ?_ | with_reducible refine grew_alloc ?_ | with_reducible refine grew_drew ?_ | (with_reducible refine grew_set ?_ (by first | exact Nat.le_refl _ | omega | (simp [go_sem]; done) | (simp [go_sem]; omega)))))) (by simp)) (by omega)).mono ?_
  rintro e w1 ⟨⟨l0, rfl, hl⟩, hC1, hG1⟩
  obtain ⟨z1, z2, z3⟩ := hl
  have HC1 := hid hC1
  clear hC1 hG1
  have hs0 : ¬ 9223372036854775807 < l0.d.size + l0.p.size := by omega
  have hsz : (l0.d ++ l0.p).size ≤ 3000 := by rw [ByteArray.size_append]; omega
  go_upto_region 4 with fail
  generalize l0.d ++ l0.p = t at hsz
  clear hs0
  refine opq_wp (fun wx => CurU w wx w.heap.size A c bs 300) (HC1.out.grew' (by (repeat (first | with_reducible exact grew_refl _ | with_reducible assumption | with_reducible refine grew_split ?_ | with_reducible refine grew_mk ?_ | with_reducible refine grew_plus ?_ | with_reducible refine grew_alloc ?_ | with_reducible refine grew_drew ?_ | (with_reducible refine grew_set ?_ (by first | exact Nat.le_refl _ | omega | (simp [go_sem]; done) | (simp [go_sem]; omega))))))) ?_
  clear HC1
  rintro wq hC
  have HC := hid hC
  clear hC z1 z2 z3
  go_wp2_with fail
  refine (s_pick w w.heap.size A c bs _ 4 _ HA.out (HC.out.grew' (by (repeat (first | with_reducible exact grew_refl _ | with_reducible assumption | with_reducible refine grew_split ?_ | with_reducible refine grew_mk ?_ | with_reducible refine grew_plus ?_ | with_reducible refine grew_alloc ?_ | with_reducible refine grew_drew ?_ | (with_reducible refine grew_set ?_ (by first | exact Nat.le_refl _ | omega | (simp [go_sem]; done) | (simp [go_sem]; omega))))))) (by omega) (by omega)).mono ?_
  rintro e w2 ⟨⟨n, rfl, n0, n1⟩, hC2, hG2⟩
  have HC2 := hid hC2
  clear hC2 hG2 HC
  go_upto_block 0 with fail
  go_cut [5] (fun s wx => ∃ x : ByteArray, s = .string x ∧ x.size ≤ 5000 ∧ CurU w wx w.heap.size A c bs 400)
  case first =>
    rcases (show n = 0 ∨ n = 1 ∨ n = 2 ∨ n = 3 by omega) with rfl | rfl | rfl | rfl
    · go_wp2_with fail
      refine (s_spoilt w w.heap.size A c bs _ t _ _ HA.out (HC2.out.grew' (by (repeat (first | with_reducible exact grew_refl _ | with_reducible assumption | with_reducible refine grew_split ?_ | with_reducible refine grew_mk ?_ | with_reducible refine grew_plus ?_ | with_reducible refine grew_alloc ?_ | with_reducible refine grew_drew ?_ | (with_reducible refine grew_set ?_ (by first | exact Nat.le_refl _ | omega | (simp [go_sem]; done) | (simp [go_sem]; omega))))))) (by omega) (by omega) (by decide) (by decide)).mono ?_
      rintro e w3 ⟨⟨x, rfl, hx⟩, hC3, hG3⟩
      have HC3 := hid hC3
      clear hC3 hG3
      go_wp2_with fail
      go_meet
      exact ⟨x, rfl, by omega, HC3.out.le (by omega)⟩
    · have ht0 : (0 : Int) ≤ (t.size : Int) := by omega
      go_wp2_with fail
      refine (s_pick w w.heap.size A c bs _ ((t.size : Int) + 1) _ HA.out (HC2.out.grew' (by (repeat (first | with_reducible exact grew_refl _ | with_reducible assumption | with_reducible refine grew_split ?_ | with_reducible refine grew_mk ?_ | with_reducible refine grew_plus ?_ | with_reducible refine grew_alloc ?_ | with_reducible refine grew_drew ?_ | (with_reducible refine grew_set ?_ (by first | exact Nat.le_refl _ | omega | (simp [go_sem]; done) | (simp [go_sem]; omega))))))) (by omega) (by omega)).mono ?_
      rintro e w3 ⟨⟨i', rfl, i0, i1⟩, hC3, hG3⟩
      obtain ⟨i, hi0⟩ : ∃ k : Nat, i' = (k : Int) := ⟨i'.toNat, by omega⟩
      subst hi0
      have hi : i ≤ t.size := by omega
      have HC3 := hid hC3
      clear hC3 hG3
      go_wp2_with fail
      go_meet
      exact ⟨_, rfl, by simp; omega, HC3.out.le (by omega)⟩
    · go_wp2_with fail
      refine (s_pick w w.heap.size A c bs _ 4 _ HA.out (HC2.out.grew' (by (repeat (first | with_reducible exact grew_refl _ | with_reducible assumption | with_reducible refine grew_split ?_ | with_reducible refine grew_mk ?_ | with_reducible refine grew_plus ?_ | with_reducible refine grew_alloc ?_ | with_reducible refine grew_drew ?_ | (with_reducible refine grew_set ?_ (by first | exact Nat.le_refl _ | omega | (simp [go_sem]; done) | (simp [go_sem]; omega))))))) (by omega) (by omega)).mono ?_
      rintro e w3 ⟨⟨i', rfl, i0, i1⟩, hC3, hG3⟩
      obtain ⟨i, hi0⟩ : ∃ k : Nat, i' = (k : Int) := ⟨i'.toNat, by omega⟩
      subst hi0
      have HC3 := hid hC3
      clear hC3 hG3
      go_wp2_with fail
      refine (s_logRecord w w.heap.size A c bs _ _ HA.out (HC3.out.grew' (by (repeat (first | with_reducible exact grew_refl _ | with_reducible assumption | with_reducible refine grew_split ?_ | with_reducible refine grew_mk ?_ | with_reducible refine grew_plus ?_ | with_reducible refine grew_alloc ?_ | with_reducible refine grew_drew ?_ | (with_reducible refine grew_set ?_ (by first | exact Nat.le_refl _ | omega | (simp [go_sem]; done) | (simp [go_sem]; omega))))))) (by omega)).mono ?_
      rintro e w4 ⟨⟨r, rfl, hr1, hr2⟩, hC4, hG4⟩
      have HC4 := hid hC4
      have hlz := line_small (k := i) (e := r) (by omega) hr1 hr2
      clear hC4 hG4
      go_wp2_with fail
      refine (s_l27Line i r _ (by omega) (by omega) (by omega)).mono ?_
      (rintro e w' ⟨rfl, gx, rfl⟩)
      have hs1 : ¬ 9223372036854775807 < t.size + (lineV i r).size := by omega
      go_wp2_with fail
      go_meet
      exact ⟨_, rfl, by rw [ByteArray.size_append]; omega, (HC4.out.grew' (by (repeat (first | with_reducible exact grew_refl _ | with_reducible assumption | with_reducible refine grew_split ?_ | with_reducible refine grew_mk ?_ | with_reducible refine grew_plus ?_ | with_reducible refine grew_alloc ?_ | with_reducible refine grew_drew ?_ | (with_reducible refine grew_set ?_ (by first | exact Nat.le_refl _ | omega | (simp [go_sem]; done) | (simp [go_sem]; omega))))))).le (by omega)⟩
    · go_wp2_with fail
      go_meet
      exact ⟨t, rfl, by omega, HC2.out.le (by omega)⟩
  case rest =>
    obtain ⟨x, rfl, hx, hC⟩ := hcut
    have HC := hid hC
    clear hC HC2
    go_wp2_with fail
    refine (s_one w w.heap.size A c bs _ 40 _ HA.out (HC.out.grew' (by (repeat (first | with_reducible exact grew_refl _ | with_reducible assumption | with_reducible refine grew_split ?_ | with_reducible refine grew_mk ?_ | with_reducible refine grew_plus ?_ | with_reducible refine grew_alloc ?_ | with_reducible refine grew_drew ?_ | (with_reducible refine grew_set ?_ (by first | exact Nat.le_refl _ | omega | (simp [go_sem]; done) | (simp [go_sem]; omega))))))) (by omega) (by omega)).mono ?_
    rintro e w5 ⟨⟨b, rfl⟩, hC5, hG5⟩
    have HC5 := hid hC5
    clear hC5 hG5
    cases b
    · go_wp2_with fail
      go_ret
      have h := HC5.out.world
      exact ⟨⟨x, rfl, by omega⟩, by (repeat (first | with_reducible exact grew_refl _ | with_reducible assumption | with_reducible refine grew_split ?_ | with_reducible refine grew_mk ?_ | with_reducible refine grew_plus ?_ | with_reducible refine grew_alloc ?_ | with_reducible refine grew_drew ?_ | (with_reducible refine grew_set ?_ (by first | exact Nat.le_refl _ | omega | (simp [go_sem]; done) | (simp [go_sem]; omega)))))⟩
    · go_wp2_with fail
      refine (s_pick w w.heap.size A c bs _ 2 _ HA.out (HC5.out.grew' (by (repeat (first | with_reducible exact grew_refl _ | with_reducible assumption | with_reducible refine grew_split ?_ | with_reducible refine grew_mk ?_ | with_reducible refine grew_plus ?_ | with_reducible refine grew_alloc ?_ | with_reducible refine grew_drew ?_ | (with_reducible refine grew_set ?_ (by first | exact Nat.le_refl _ | omega | (simp [go_sem]; done) | (simp [go_sem]; omega))))))) (by omega) (by omega)).mono ?_
      rintro e w6 ⟨⟨y, rfl, y0, y1⟩, hC6, hG6⟩
      obtain ⟨N, hN1, hN2, hN3⟩ : ∃ N : Nat, (30000 : Int) + y = (N : Int) ∧ N ≤ 30001 ∧ (N : Int) ≤ 30001 := ⟨(30000 + y).toNat, by omega, by omega, by omega⟩
      have hmk := fun W => make_zeros N (by omega) W
      have hbk : ∀ W : World, (convert 22 9 (.slice (some ⟨W.heap.size, 0, none⟩) N N)).run Tryd.prog (W.alloc (.cells (madeCells #[.int .u8 0] N) 5)) = .ok (.string (zeros N)) (W.alloc (.cells (madeCells #[.int .u8 0] N) 5)) := fun W => back_zeros N W
      have HW := hid hC6.world
      have hzz := zeros_size N
      clear hC6 hG6
      go_wp2_with fail
      go_ret
      have h := HW.out
      exact ⟨⟨zeros N, rfl, by omega⟩, by (repeat (first | with_reducible exact grew_refl _ | with_reducible assumption | with_reducible refine grew_split ?_ | with_reducible refine grew_mk ?_ | with_reducible refine grew_plus ?_ | with_reducible refine grew_alloc ?_ | with_reducible refine grew_drew ?_ | (with_reducible refine grew_set ?_ (by first | exact Nat.le_refl _ | omega | (simp [go_sem]; done) | (simp [go_sem]; omega)))))⟩
end Go.Proofs.YtfnbbmhhilffeaaDoor
