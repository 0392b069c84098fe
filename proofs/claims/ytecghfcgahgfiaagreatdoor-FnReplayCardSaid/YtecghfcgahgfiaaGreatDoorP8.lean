import Derived.Test.YtecghfcgahgfiaaGreatDoorP7
import Derived.Deep.RegionHeld3
import Derived.Deep.DrawnRows
import Derived.Test.YtecghfcgahgfiaaGreatDoorP5
import Derived.Test.YtecghfcgahgfiaaGreatDoorProg
/- Decoding one line, in the reference. -/
namespace Go.Proofs.YtecghfcgahgfiaaGreatDoor
open Go.RowKit

theorem recAt_parse {line : Bytes} {k : Nat} {x : RecR} (h : recAt line k = some x) : (cutB 35 line).1 = (Go.Lib.itoa k ++ [32]) ++ (bl x.c ++ 64 :: bl x.r) ∧ cutB 64 (bl x.c ++ 64 :: bl x.r) = (bl x.c, bl x.r, true) := by
  obtain ⟨h1, h2⟩ := recAt_some h
  refine ⟨?_, cut_at h1⟩
  rw [← h2, cut_text h1 k]
  simp [textB]
/-- A record that is told, or none. -/
def ReadPost (line : Bytes) (k : Nat) (e : Ending) : Prop := ∃ x : RecR, e = .returned (.tuple #[x.val, .bool (recAt line k).isSome]) ∧ ∀ y, recAt line k = some y → x = y
theorem ReadPost.no {line : Bytes} {k : Nat} {x : RecR} (h : recAt line k = none) : ReadPost line k (.returned (.tuple #[x.val, .bool false])) := ⟨x, by rw [h]; rfl, fun y hy => by rw [h] at hy; cases hy⟩
theorem ReadPost.yes {line : Bytes} {k : Nat} {x : RecR} (h : recAt line k = some x) : ReadPost line k (.returned (.tuple #[x.val, .bool true])) := ⟨x, by rw [h]; rfl, fun y hy => by rw [h] at hy; injection hy⟩
theorem none_of {line : Bytes} {k : Nat} (h : ∀ x, recAt line k = some x → False) : recAt line k = none := by
  cases hr : recAt line k with
  | none => rfl
  | some x => exact (h x hr).elim
theorem own_head {B : Nat} {e : TypeId} {w : World} {A : Option Addr} {c : Nat} {l : List ByteArray} {x : ByteArray} {r : List ByteArray} (h : Own B e 1 strRow w A c l) (hl : l = x :: r) : ∃ b off, A = some ⟨b, off, none⟩ ∧ b < w.heap.size ∧ w.cell? ⟨b, off, none⟩ = some (.string x) := by
  subst hl
  obtain ⟨b, off, hA, hb, hc⟩ := (h.sl strRow_len).at_ (k := 0) (by simp)
  refine ⟨b, off, hA, hb, ?_⟩
  have := hc 0 (by simp) 0 _ rfl
  simpa using this
theorem wp_opaq7 {P : Program} {c : Code} {Q : Exit → Act → World → Prop} {a : Act} {W : World} (F : World → Prop) (hF : F W) (h : ∀ wr, F wr → c.wp P Q a wr) : c.wp P Q a W := h W hF
theorem cell_far {w : World} {b r i j : Nat} {u v : Value} (h : w.cell? ⟨b, i, none⟩ = some u) (hne : r ≠ b) : (w.setCell ⟨r, j, none⟩ v).cell? ⟨b, i, none⟩ = some u := by
  rw [World.cell?_setCell_other w ⟨r, j, none⟩ ⟨b, i, none⟩ v (by intro e; injection e with e1; exact hne e1)]; exact h
set_option maxHeartbeats 2000000 in
theorem s_l27Read (s : ByteArray) (k : Nat) (w : World) (hs : s.size ≤ 4194304) (hk : k < 60) :
    Calls Tryz.prog 110 #[.string s, .int .i64 k] w fun e' w' => ReadPost (bl s) k e' ∧ ∃ g, w' = plus w g := by
  have z1 := num_size k (by omega) (by omega)
  obtain ⟨r1, h1, -⟩ := split_head s 35
  obtain ⟨t2, ht2⟩ : ∃ t, t = mk (cutB 35 (bl s)).1 := ⟨_, rfl⟩
  have s2 : t2.size ≤ 4194304 := by rw [ht2, mk_size]; have := cutB_len 35 (bl s); have := bl_len s; omega
  have h1' : splitV s 35 = t2 :: r1 := h1.trans (by rw [ht2])
  have H1 := hid h1'
  have hb2 : (cutB 35 (bl s)).1 = bl t2 := by rw [ht2]
  have HB2 := hid hb2
  have p1 := splitV_pos s 35
  clear h1 h1' ht2 hb2
  go_enter Tryz.func110, Tryz.ntmps110
  go_wp2_with fail
  refine (s_l1Num _ _ (by omega) (by omega)).mono ?_
  (rintro e w' ⟨rfl, gx, rfl⟩)
  go_wp2_with fail
  refine (s_l1Split s 35 _ rfl _ hs).mono ?_
  rintro e w' ⟨⟨A1, c1, rfl, hO1⟩, g1, rfl⟩
  obtain ⟨b1, o1, rfl, hlt1, hc1⟩ := own_head hO1 H1.out
  (try rw [plus_plus] at hlt1 hc1)
  clear hO1
  have hah : bl (num k ++ ⟨#[32]⟩) = Go.Lib.itoa k ++ [32] := by rw [bl_app]; rfl
  have hal : (Go.Lib.itoa k ++ [32]).length = (num k).size + 1 := by rw [← hah, bl_len, ByteArray.size_append]; rfl
  have HAH := hid hah
  have HAL := hid hal
  clear hah hal
  by_cases hsz : t2.size < (num k).size + 1
  · have HN : Hid (recAt (bl s) k = none) := hid (none_of fun x hx => by
      have h1 := (recAt_parse hx).1
      rw [HB2.out] at h1
      have h2 := congrArg List.length h1
      rw [List.length_append, HAL.out, bl_len] at h2
      omega)
    go_wp2_with fail
    (refine bodyPost_ret (v := .tuple #[noRec.val, .bool false]) (by simp [results, Tryz.results110, go_sem, noRec]) rfl ?_; exact ⟨ReadPost.no HN.out, by (repeat (first | with_reducible exact grew_refl _ | with_reducible assumption | with_reducible refine grew_split ?_ | with_reducible refine grew_mk ?_ | with_reducible refine grew_plus ?_ | with_reducible refine grew_alloc ?_ | with_reducible refine grew_drew ?_ | (with_reducible refine grew_set ?_ (by first | exact Nat.le_refl _ | omega | (simp [go_sem]; done) | (simp [go_sem]; omega)))))⟩)
  have h0 : (0 : Int) ≤ ((num k).size : Int) + 1 := by omega
  have h1 : ((num k).size : Int) + 1 ≤ (t2.size : Int) := by omega
  cases hpre : ((t2.extract 0 ((num k).size + 1)).toList == (num k ++ ⟨#[32]⟩).toList)
  · have HN : Hid (recAt (bl s) k = none) := hid (none_of fun x hx => by
      have h1 := (recAt_parse hx).1
      rw [HB2.out] at h1
      rw [str_eq, beq_eq_false_iff_ne, bl_extract, List.drop_zero, Nat.sub_zero, h1, HAH.out] at hpre
      exact hpre (List.take_left' HAL.out))
    go_wp2_with fail
    (refine bodyPost_ret (v := .tuple #[noRec.val, .bool false]) (by simp [results, Tryz.results110, go_sem, noRec]) rfl ?_; exact ⟨ReadPost.no HN.out, by (repeat (first | with_reducible exact grew_refl _ | with_reducible assumption | with_reducible refine grew_split ?_ | with_reducible refine grew_mk ?_ | with_reducible refine grew_plus ?_ | with_reducible refine grew_alloc ?_ | with_reducible refine grew_drew ?_ | (with_reducible refine grew_set ?_ (by first | exact Nat.le_refl _ | omega | (simp [go_sem]; done) | (simp [go_sem]; omega)))))⟩)
  obtain ⟨t3, ht3⟩ : ∃ t, t = t2.extract ((num k).size + 1) t2.size := ⟨_, rfl⟩
  have HT3 := hid ht3
  have s3 : t3.size ≤ 4194304 := by rw [ht3, ByteArray.size_extract]; omega
  have hjoin : bl t2 = (Go.Lib.itoa k ++ [32]) ++ bl t3 := by
    have h2 := hpre
    rw [str_eq, beq_iff_eq, bl_extract, List.drop_zero, Nat.sub_zero, HAH.out] at h2
    have h4 : ((bl t2).drop ((num k).size + 1)).take (t2.size - ((num k).size + 1)) = (bl t2).drop ((num k).size + 1) := List.take_of_length_le (by rw [List.length_drop, bl_len]; omega)
    rw [ht3, bl_extract, ← h2, h4, List.take_append_drop]
  have HJ := hid hjoin
  clear hjoin
  obtain ⟨r3, h3, -⟩ := split_head t3 64
  obtain ⟨t4, ht4⟩ : ∃ t, t = mk (cutB 64 (bl t3)).1 := ⟨_, rfl⟩
  have s4 : t4.size ≤ 4194304 := by rw [ht4, mk_size]; have := cutB_len 64 (bl t3); have := bl_len t3; omega
  have h3' : splitV t3 64 = t4 :: r3 := h3.trans (by rw [ht4])
  have H3 := hid h3'
  have hb4 : (cutB 64 (bl t3)).1 = bl t4 := by rw [ht4]
  have HB4 := hid hb4
  have p3 := splitV_pos t3 64
  have PA : Hid (∀ x, recAt (bl s) k = some x → bl t3 = bl x.c ++ 64 :: bl x.r ∧ t4 = x.c) := hid fun x hx => by
    obtain ⟨q1, q2⟩ := recAt_parse hx
    rw [HB2.out, HJ.out] at q1
    have q3 := List.append_cancel_left q1
    refine ⟨q3, ?_⟩
    rw [ht4, q3, q2]
  clear h3 h3' ht4 hb4
  go_wp2_with fail
  rw [← ht3]
  clear ht3
  refine (s_l1Split t3 64 _ rfl _ s3).mono ?_
  rintro e w' ⟨⟨A3, c3, rfl, hO3⟩, g3, rfl⟩
  obtain ⟨b3, o3, rfl, hlt3, hc3⟩ := own_head hO3 H3.out
  (try rw [plus_plus] at hlt3 hc3)
  clear hO3
  by_cases heq : t4.size = t3.size
  · have HN : Hid (recAt (bl s) k = none) := hid (none_of fun x hx => by
      obtain ⟨q1, q2⟩ := PA.out x hx
      have := congrArg List.length q1
      rw [bl_len, List.length_append, bl_len, List.length_cons, bl_len] at this
      rw [← q2] at this
      omega)
    have heq' : ((t4.size : Int) == (t3.size : Int)) = true := by rw [heq]; simp
    clear heq
    go_wp2_with fail
    (refine bodyPost_ret (v := .tuple #[noRec.val, .bool false]) (by simp [results, Tryz.results110, go_sem, noRec]) rfl ?_; exact ⟨ReadPost.no HN.out, by (repeat (first | with_reducible exact grew_refl _ | with_reducible assumption | with_reducible refine grew_split ?_ | with_reducible refine grew_mk ?_ | with_reducible refine grew_plus ?_ | with_reducible refine grew_alloc ?_ | with_reducible refine grew_drew ?_ | (with_reducible refine grew_set ?_ (by first | exact Nat.le_refl _ | omega | (simp [go_sem]; done) | (simp [go_sem]; omega)))))⟩)
  have heq' : ((t4.size : Int) == (t3.size : Int)) = false := by rw [beq_eq_false_iff_ne]; omega
  have hle : t4.size ≤ t3.size := by have := cutB_len 64 (bl t3); rw [HB4.out, bl_len, bl_len] at this; exact this
  have g0 : (0 : Int) ≤ (t4.size : Int) + 1 := by omega
  have g1' : (t4.size : Int) + 1 ≤ (t3.size : Int) := by omega
  obtain ⟨t5, ht5⟩ : ∃ t, t = t3.extract (t4.size + 1) t3.size := ⟨_, rfl⟩
  have s5 : t5.size ≤ 4194304 := by rw [ht5, ByteArray.size_extract]; omega
  have PX : Hid (∀ x, recAt (bl s) k = some x → x = ⟨t4, t5⟩) := hid fun x hx => by
    obtain ⟨q1, q2⟩ := PA.out x hx
    obtain ⟨c, r⟩ := x
    simp only at q1 q2
    subst q2
    have e5 : t5 = r := ba_ext (by
      have h4 : ((bl t3).drop (t4.size + 1)).take (t3.size - (t4.size + 1)) = (bl t3).drop (t4.size + 1) := List.take_of_length_le (by rw [List.length_drop, bl_len]; omega)
      rw [ht5, bl_extract, h4, q1, ← bl_len t4]
      exact drop_line rfl)
    rw [e5]
  clear heq
  go_wp2_with fail
  rw [← ht5]
  clear ht5
  generalize hb : w.heap.size + 1 + ((gx.add g1).add g3).objs.size = b
  refine wp_opaq7 (fun wr => Blk wr w.heap.size 40 #[.string ⟨#[]⟩, .string ⟨#[]⟩] ∧ Blk wr b 40 #[.string t4, .string t5] ∧ w.heap.size < b ∧ ∃ g, wr = plus w g) ⟨((Blk.new w _ _).plus _).alloc _, blk_new (by subst hb; simp [go_sem]), by omega, by (repeat (first | with_reducible exact grew_refl _ | with_reducible assumption | with_reducible refine grew_split ?_ | with_reducible refine grew_mk ?_ | with_reducible refine grew_plus ?_ | with_reducible refine grew_alloc ?_ | with_reducible refine grew_drew ?_ | (with_reducible refine grew_set ?_ (by first | exact Nat.le_refl _ | omega | (simp [go_sem]; done) | (simp [go_sem]; omega)))))⟩ ?_
  clear hb hc1 hc3 hlt1 hlt3
  rintro wq ⟨hR, hB, hlb, hg⟩
  have HR := hid hR
  have HB := hid hB
  have HG := hid hg
  clear hR hB hg
  have KEEP : Hid (∀ W : World, (∃ g, W = plus wq g) → ((fun w' => w'.cell? ⟨b, 0, none⟩ = some (.string t4) ∧ w'.cell? ⟨b, 1, none⟩ = some (.string t5))) W) := hid (fun W hW => by have h0 := Blk.cell (blk_grew HB.out hW) 0; have h1 := Blk.cell (blk_grew HB.out hW) 1; simp at h0 h1; exact ⟨h0, h1⟩)
  have KEEP2 : Hid (∀ W : World, (∃ g, W = plus wq g) → W.cell? ⟨w.heap.size, 0, none⟩ = some (.string ⟨#[]⟩) ∧ W.cell? ⟨w.heap.size, 1, none⟩ = some (.string ⟨#[]⟩) ∧ W.frozen? ⟨w.heap.size, 0, none⟩ = false ∧ W.frozen? ⟨w.heap.size, 1, none⟩ = false) := hid (fun W hW => by
    have h := blk_grew HR.out hW
    have h0 := h.cell 0
    have h1 := h.cell 1
    simp at h0 h1
    exact ⟨h0, h1, h.frozen 0, h.frozen 1⟩)
  cases hok : RecR.ok ⟨t4, t5⟩
  · have HN : Hid (recAt (bl s) k = none) := hid (none_of fun x hx => by
      have h1 := (recAt_some hx).1
      rw [PX.out x hx, hok] at h1; cases h1)
    refine wp_region_held_drew (S := (fun w' => w'.cell? ⟨b, 0, none⟩ = some (.string t4) ∧ w'.cell? ⟨b, 1, none⟩ = some (.string t5))) (by kernel_rfl) (KEEP.out _ (grew_drew (grew_refl _))) (fun hHeld => ?_)
    (refine wpAnyH_take (i := 0) (v := ?_) rfl (by kernel_rfl) (by kernel_rfl) (by kernel_rfl) (fun _ _ _ h => h) (Or.inl ⟨by rfl, ?_⟩) hHeld ?_; rotate_left 1; (· (intro w hSw; (try dsimp only at hSw); first | (go_simp; done) | (go_simp; with_reducible rfl))); (try simp only [Act.put, List.getElem_toArray, List.getElem_cons_zero, List.setIfInBounds_toArray, List.set_cons_zero, List.set_cons_succ]))
    (refine wpAnyH_take (i := 1) (v := ?_) rfl (by kernel_rfl) (by kernel_rfl) (by kernel_rfl) (fun _ _ _ h => h) (Or.inl ⟨by rfl, ?_⟩) hHeld ?_; rotate_left 1; (· (intro w hSw; (try dsimp only at hSw); first | (go_simp; done) | (go_simp; with_reducible rfl))); (try simp only [Act.put, List.getElem_toArray, List.getElem_cons_succ, List.getElem_cons_zero, List.setIfInBounds_toArray, List.set_cons_zero, List.set_cons_succ]))
    (refine wpAnyH_ready (rs := [2]) (by kernel_rfl) (by simp) ?_; refine AllReadyH.cons rfl (fun K hK => ?_) AllReadyH.nil; go_simp; ((go_at_call 39; refine (s_l27Good t4 t5 _ hok _ (by unfold maxLen; omega) (by unfold maxLen; omega)).mono ?_; rintro e w' ⟨rfl, g7, rfl⟩; go_wp2_with fail)); refine hK.out _ _ ?_ (fun hHeld => ?_); (· ((exact KEEP.out _ (by (repeat (first | with_reducible exact grew_refl _ | with_reducible assumption | with_reducible refine grew_split ?_ | with_reducible refine grew_mk ?_ | with_reducible refine grew_plus ?_ | with_reducible refine grew_alloc ?_ | with_reducible refine grew_drew ?_ | (with_reducible refine grew_set ?_ (by first | exact Nat.le_refl _ | omega | (simp [go_sem]; done) | (simp [go_sem]; omega))))))))); clear hK K; (try simp only [Act.put, List.getElem_toArray, List.getElem_cons_succ, List.getElem_cons_zero, List.setIfInBounds_toArray, List.set_cons_zero, List.set_cons_succ]))
    obtain ⟨hr0, hr1, hf0, hf1⟩ := KEEP2.out (plus wq.drew g7) (by (repeat (first | with_reducible exact grew_refl _ | with_reducible assumption | with_reducible refine grew_split ?_ | with_reducible refine grew_mk ?_ | with_reducible refine grew_plus ?_ | with_reducible refine grew_alloc ?_ | with_reducible refine grew_drew ?_ | (with_reducible refine grew_set ?_ (by first | exact Nat.le_refl _ | omega | (simp [go_sem]; done) | (simp [go_sem]; omega))))))
    (refine wpAnyH_take (i := 3) (v := ?_) rfl (by kernel_rfl) (by kernel_rfl) (by kernel_rfl) (fun _ _ _ h => h) (Or.inl ⟨by rfl, ?_⟩) hHeld ?_; rotate_left 1; (· (intro w hSw; (try dsimp only at hSw); first | (go_simp; done) | (go_simp; with_reducible rfl))); (try simp only [Act.put, List.getElem_toArray, List.getElem_cons_succ, List.getElem_cons_zero, List.setIfInBounds_toArray, List.set_cons_zero, List.set_cons_succ]))
    (refine wpAnyH_take (i := 4) (v := undef) rfl (by kernel_rfl) (by kernel_rfl) (by kernel_rfl) (fun _ _ _ h => h) (Or.inr ⟨by rfl, rfl⟩) hHeld ?_; (try simp only [Act.put, List.getElem_toArray, List.getElem_cons_succ, List.getElem_cons_zero, List.setIfInBounds_toArray, List.set_cons_zero, List.set_cons_succ]))
    (refine wpAnyH_take (i := 5) (v := undef) rfl (by kernel_rfl) (by kernel_rfl) (by kernel_rfl) (fun _ _ _ h => h) (Or.inr ⟨by rfl, rfl⟩) hHeld ?_; (try simp only [Act.put, List.getElem_toArray, List.getElem_cons_succ, List.getElem_cons_zero, List.setIfInBounds_toArray, List.set_cons_zero, List.set_cons_succ]))
    (refine wpAnyH_take (i := 6) (v := undef) rfl (by kernel_rfl) (by kernel_rfl) (by kernel_rfl) (fun _ _ _ h => h) (Or.inr ⟨by rfl, rfl⟩) hHeld ?_; (try simp only [Act.put, List.getElem_toArray, List.getElem_cons_succ, List.getElem_cons_zero, List.setIfInBounds_toArray, List.set_cons_zero, List.set_cons_succ]))
    (refine wpAnyH_take (i := 7) (v := undef) rfl (by kernel_rfl) (by kernel_rfl) (by kernel_rfl) (fun _ _ _ h => h) (Or.inr ⟨by rfl, rfl⟩) hHeld ?_; (try simp only [Act.put, List.getElem_toArray, List.getElem_cons_succ, List.getElem_cons_zero, List.setIfInBounds_toArray, List.set_cons_zero, List.set_cons_succ]))
    (refine wpAnyH_take (i := 8) (v := undef) rfl (by kernel_rfl) (by kernel_rfl) (by kernel_rfl) (fun _ _ _ h => h) (Or.inr ⟨by rfl, rfl⟩) hHeld ?_; (try simp only [Act.put, List.getElem_toArray, List.getElem_cons_succ, List.getElem_cons_zero, List.setIfInBounds_toArray, List.set_cons_zero, List.set_cons_succ]))
    (refine wpAnyH_take (i := 9) (v := undef) rfl (by kernel_rfl) (by kernel_rfl) (by kernel_rfl) (fun _ _ _ h => h) (Or.inr ⟨by rfl, rfl⟩) hHeld ?_; (try simp only [Act.put, List.getElem_toArray, List.getElem_cons_succ, List.getElem_cons_zero, List.setIfInBounds_toArray, List.set_cons_zero, List.set_cons_succ]))
    (refine wpAnyH_take (i := 10) (v := ?_) rfl (by kernel_rfl) (by kernel_rfl) (by kernel_rfl) (fun _ _ _ h => h) (Or.inl ⟨by rfl, ?_⟩) hHeld ?_; rotate_left 1; (· (intro w hSw; (try dsimp only at hSw); first | (go_simp; done) | (go_simp; with_reducible rfl))); (try simp only [Act.put, List.getElem_toArray, List.getElem_cons_succ, List.getElem_cons_zero, List.setIfInBounds_toArray, List.set_cons_zero, List.set_cons_succ]))
    (refine wpAnyH_ready (rs := [11]) (by kernel_rfl) (by simp) ?_; refine AllReadyH.cons rfl (fun K hK => ?_) AllReadyH.nil; go_simp; have hs := KEEP.out (plus wq.drew g7) (by (repeat (first | with_reducible exact grew_refl _ | with_reducible assumption | with_reducible refine grew_split ?_ | with_reducible refine grew_mk ?_ | with_reducible refine grew_plus ?_ | with_reducible refine grew_alloc ?_ | with_reducible refine grew_drew ?_ | (with_reducible refine grew_set ?_ (by first | exact Nat.le_refl _ | omega | (simp [go_sem]; done) | (simp [go_sem]; omega)))))); refine hK.out _ _ ⟨cell_far (cell_far hs.1 (by omega)) (by omega), cell_far (cell_far hs.2 (by omega)) (by omega)⟩ (fun hHeld => ?_); clear hK K hs; (try simp only [Act.put, List.getElem_toArray, List.getElem_cons_succ, List.getElem_cons_zero, List.setIfInBounds_toArray, List.set_cons_zero, List.set_cons_succ]); (refine wpAnyH_take (i := 12) (v := ?_) rfl (by kernel_rfl) (by kernel_rfl) (by kernel_rfl) (fun _ _ _ h => h) (Or.inl ⟨by rfl, ?_⟩) hHeld ?_; rotate_left 1; (· (intro w hSw; (try dsimp only at hSw); first | (go_simp; done) | (go_simp; with_reducible rfl))); (try simp only [Act.put, List.getElem_toArray, List.getElem_cons_succ, List.getElem_cons_zero, List.setIfInBounds_toArray, List.set_cons_zero, List.set_cons_succ])); refine wpAnyH_done (by kernel_rfl) ?_ _; go_wp2_with fail; have hg := HG.out; have hR2 := ((blk_grew HR.out (w' := plus wq.drew g7) (by (repeat (first | with_reducible exact grew_refl _ | with_reducible assumption | with_reducible refine grew_split ?_ | with_reducible refine grew_mk ?_ | with_reducible refine grew_plus ?_ | with_reducible refine grew_alloc ?_ | with_reducible refine grew_drew ?_ | (with_reducible refine grew_set ?_ (by first | exact Nat.le_refl _ | omega | (simp [go_sem]; done) | (simp [go_sem]; omega))))))).set_ 0 (.string t4)).set_ 1 (.string t5); have hq0 := hR2.cell 0; have hq1 := hR2.cell 1; have hgW : ∃ g, ((plus wq.drew g7).setCell ⟨w.heap.size, 0, none⟩ (.string t4)).setCell ⟨w.heap.size, 1, none⟩ (.string t5) = plus w g := (by (repeat (first | with_reducible exact grew_refl _ | with_reducible assumption | with_reducible refine grew_split ?_ | with_reducible refine grew_mk ?_ | with_reducible refine grew_plus ?_ | with_reducible refine grew_alloc ?_ | with_reducible refine grew_drew ?_ | (with_reducible refine grew_set ?_ (by first | exact Nat.le_refl _ | omega | (simp [go_sem]; done) | (simp [go_sem]; omega)))))); clear hr0 hr1 hf0 hf1 hHeld hR2; generalize ((plus wq.drew g7).setCell ⟨w.heap.size, 0, none⟩ (.string t4)).setCell ⟨w.heap.size, 1, none⟩ (.string t5) = W at hq0 hq1 hgW ⊢; simp at hq0 hq1; refine bodyPost_ret (v := .tuple #[RecR.val ⟨t4, t5⟩, .bool false]) (by simp [results, Tryz.results110, go_sem, hq0, hq1]) rfl ?_; exact ⟨ReadPost.no HN.out, hgW⟩)
  have hsum : ¬ 9223372036854775807 < s.size + 1 := by omega
  have z9 : (lineV k ⟨t4, t5⟩).size ≤ 1000 := by
    have h1 := line_len hok k hk
    have h2 := bl_len (lineV k ⟨t4, t5⟩)
    rw [lineV_bytes, List.length_append, List.length_singleton] at h2
    omega
  obtain ⟨o1, o2, _, _, _, o3⟩ := RecR.parts hok
  simp only at o1 o2 o3
  by_cases hline : RecR.line ⟨t4, t5⟩ k = bl s
  · have HY := hid (recAt_of hok hline)
    have hcmp : ((lineV k ⟨t4, t5⟩).toList == (s ++ ⟨#[10]⟩).toList) = true := by
      rw [str_eq, beq_iff_eq, lineV_bytes, bl_app, hline]
    clear hline
    (refine wp_region_held_drew (S := (fun w' => w'.cell? ⟨b, 0, none⟩ = some (.string t4) ∧ w'.cell? ⟨b, 1, none⟩ = some (.string t5))) (by kernel_rfl) (KEEP.out _ (grew_drew (grew_refl _))) (fun hHeld => ?_); (refine wpAnyH_take (i := 0) (v := ?_) rfl (by kernel_rfl) (by kernel_rfl) (by kernel_rfl) (fun _ _ _ h => h) (Or.inl ⟨by rfl, ?_⟩) hHeld ?_; rotate_left 1; (· (intro w hSw; (try dsimp only at hSw); first | (go_simp; done) | (go_simp; with_reducible rfl))); (try simp only [Act.put, List.getElem_toArray, List.getElem_cons_zero, List.setIfInBounds_toArray, List.set_cons_zero, List.set_cons_succ])); (refine wpAnyH_take (i := 1) (v := ?_) rfl (by kernel_rfl) (by kernel_rfl) (by kernel_rfl) (fun _ _ _ h => h) (Or.inl ⟨by rfl, ?_⟩) hHeld ?_; rotate_left 1; (· (intro w hSw; (try dsimp only at hSw); first | (go_simp; done) | (go_simp; with_reducible rfl))); (try simp only [Act.put, List.getElem_toArray, List.getElem_cons_succ, List.getElem_cons_zero, List.setIfInBounds_toArray, List.set_cons_zero, List.set_cons_succ])); (refine wpAnyH_ready (rs := [2]) (by kernel_rfl) (by simp) ?_; refine AllReadyH.cons rfl (fun K hK => ?_) AllReadyH.nil; go_simp; ((go_at_call 39; refine (s_l27Good t4 t5 _ hok _ (by unfold maxLen; omega) (by unfold maxLen; omega)).mono ?_; rintro e w' ⟨rfl, g7, rfl⟩; go_wp2_with fail)); refine hK.out _ _ ?_ (fun hHeld => ?_); (· ((exact KEEP.out _ (by (repeat (first | with_reducible exact grew_refl _ | with_reducible assumption | with_reducible refine grew_split ?_ | with_reducible refine grew_mk ?_ | with_reducible refine grew_plus ?_ | with_reducible refine grew_alloc ?_ | with_reducible refine grew_drew ?_ | (with_reducible refine grew_set ?_ (by first | exact Nat.le_refl _ | omega | (simp [go_sem]; done) | (simp [go_sem]; omega))))))))); clear hK K; (try simp only [Act.put, List.getElem_toArray, List.getElem_cons_succ, List.getElem_cons_zero, List.setIfInBounds_toArray, List.set_cons_zero, List.set_cons_succ])); (refine wpAnyH_take (i := 3) (v := ?_) rfl (by kernel_rfl) (by kernel_rfl) (by kernel_rfl) (fun _ _ _ h => h) (Or.inl ⟨by rfl, ?_⟩) hHeld ?_; rotate_left 1; (· (intro w hSw; (try dsimp only at hSw); first | (go_simp; done) | (go_simp; with_reducible rfl))); (try simp only [Act.put, List.getElem_toArray, List.getElem_cons_succ, List.getElem_cons_zero, List.setIfInBounds_toArray, List.set_cons_zero, List.set_cons_succ])); (refine wpAnyH_take (i := 4) (v := ?_) rfl (by kernel_rfl) (by kernel_rfl) (by kernel_rfl) (fun _ _ _ h => h) (Or.inl ⟨by rfl, ?_⟩) hHeld ?_; rotate_left 1; (· (intro w hSw; (try dsimp only at hSw); first | (go_simp; done) | (go_simp; with_reducible rfl))); (try simp only [Act.put, List.getElem_toArray, List.getElem_cons_succ, List.getElem_cons_zero, List.setIfInBounds_toArray, List.set_cons_zero, List.set_cons_succ])); (refine wpAnyH_take (i := 5) (v := ?_) rfl (by kernel_rfl) (by kernel_rfl) (by kernel_rfl) (fun _ _ _ h => h) (Or.inl ⟨by rfl, ?_⟩) hHeld ?_; rotate_left 1; (· (intro w hSw; (try dsimp only at hSw); first | (go_simp; done) | (go_simp; with_reducible rfl))); (try simp only [Act.put, List.getElem_toArray, List.getElem_cons_succ, List.getElem_cons_zero, List.setIfInBounds_toArray, List.set_cons_zero, List.set_cons_succ])); (refine wpAnyH_take (i := 7) (v := ?_) rfl (by kernel_rfl) (by kernel_rfl) (by kernel_rfl) (fun _ _ _ h => h) (Or.inl ⟨by rfl, ?_⟩) hHeld ?_; rotate_left 1; (· (intro w hSw; (try dsimp only at hSw); first | (go_simp; done) | (go_simp; with_reducible rfl))); (try simp only [Act.put, List.getElem_toArray, List.getElem_cons_succ, List.getElem_cons_zero, List.setIfInBounds_toArray, List.set_cons_zero, List.set_cons_succ])); (refine wpAnyH_take (i := 8) (v := ?_) rfl (by kernel_rfl) (by kernel_rfl) (by kernel_rfl) (fun _ _ _ h => h) (Or.inl ⟨by rfl, ?_⟩) hHeld ?_; rotate_left 1; (· (intro w hSw; (try dsimp only at hSw); first | (go_simp; done) | (go_simp; with_reducible rfl))); (try simp only [Act.put, List.getElem_toArray, List.getElem_cons_succ, List.getElem_cons_zero, List.setIfInBounds_toArray, List.set_cons_zero, List.set_cons_succ])); (refine wpAnyH_ready (rs := [6]) (by kernel_rfl) (by simp) ?_; refine AllReadyH.cons rfl (fun K hK => ?_) AllReadyH.nil; go_simp; ((go_at_call 62; refine (s_l27Line k ⟨t4, t5⟩ _ (by omega) (by simp only; omega) (by simp only; omega)).mono ?_; rintro e w' ⟨rfl, g8, rfl⟩; go_wp2_with fail)); refine hK.out _ _ ?_ (fun hHeld => ?_); (· ((exact KEEP.out _ (by (repeat (first | with_reducible exact grew_refl _ | with_reducible assumption | with_reducible refine grew_split ?_ | with_reducible refine grew_mk ?_ | with_reducible refine grew_plus ?_ | with_reducible refine grew_alloc ?_ | with_reducible refine grew_drew ?_ | (with_reducible refine grew_set ?_ (by first | exact Nat.le_refl _ | omega | (simp [go_sem]; done) | (simp [go_sem]; omega))))))))); clear hK K; (try simp only [Act.put, List.getElem_toArray, List.getElem_cons_succ, List.getElem_cons_zero, List.setIfInBounds_toArray, List.set_cons_zero, List.set_cons_succ])); obtain ⟨hr0, hr1, hf0, hf1⟩ := KEEP2.out (plus wq.drew (g7.add g8)) (by (repeat (first | with_reducible exact grew_refl _ | with_reducible assumption | with_reducible refine grew_split ?_ | with_reducible refine grew_mk ?_ | with_reducible refine grew_plus ?_ | with_reducible refine grew_alloc ?_ | with_reducible refine grew_drew ?_ | (with_reducible refine grew_set ?_ (by first | exact Nat.le_refl _ | omega | (simp [go_sem]; done) | (simp [go_sem]; omega)))))); (refine wpAnyH_take (i := 9) (v := ?_) rfl (by kernel_rfl) (by kernel_rfl) (by kernel_rfl) (fun _ _ _ h => h) (Or.inl ⟨by rfl, ?_⟩) hHeld ?_; rotate_left 1; (· (intro w hSw; (try dsimp only at hSw); first | (go_simp; done) | (go_simp; with_reducible rfl))); (try simp only [Act.put, List.getElem_toArray, List.getElem_cons_succ, List.getElem_cons_zero, List.setIfInBounds_toArray, List.set_cons_zero, List.set_cons_succ])); (refine wpAnyH_take (i := 10) (v := ?_) rfl (by kernel_rfl) (by kernel_rfl) (by kernel_rfl) (fun _ _ _ h => h) (Or.inl ⟨by rfl, ?_⟩) hHeld ?_; rotate_left 1; (· (intro w hSw; (try dsimp only at hSw); first | (go_simp; done) | (go_simp; with_reducible rfl))); (try simp only [Act.put, List.getElem_toArray, List.getElem_cons_succ, List.getElem_cons_zero, List.setIfInBounds_toArray, List.set_cons_zero, List.set_cons_succ])))
    (refine wpAnyH_ready (rs := [11]) (by kernel_rfl) (by simp) ?_; refine AllReadyH.cons rfl (fun K hK => ?_) AllReadyH.nil; go_simp; have hs := KEEP.out (plus wq.drew (g7.add g8)) (by (repeat (first | with_reducible exact grew_refl _ | with_reducible assumption | with_reducible refine grew_split ?_ | with_reducible refine grew_mk ?_ | with_reducible refine grew_plus ?_ | with_reducible refine grew_alloc ?_ | with_reducible refine grew_drew ?_ | (with_reducible refine grew_set ?_ (by first | exact Nat.le_refl _ | omega | (simp [go_sem]; done) | (simp [go_sem]; omega)))))); refine hK.out _ _ ⟨cell_far (cell_far hs.1 (by omega)) (by omega), cell_far (cell_far hs.2 (by omega)) (by omega)⟩ (fun hHeld => ?_); clear hK K hs; (try simp only [Act.put, List.getElem_toArray, List.getElem_cons_succ, List.getElem_cons_zero, List.setIfInBounds_toArray, List.set_cons_zero, List.set_cons_succ]); (refine wpAnyH_take (i := 12) (v := ?_) rfl (by kernel_rfl) (by kernel_rfl) (by kernel_rfl) (fun _ _ _ h => h) (Or.inl ⟨by rfl, ?_⟩) hHeld ?_; rotate_left 1; (· (intro w hSw; (try dsimp only at hSw); first | (go_simp; done) | (go_simp; with_reducible rfl))); (try simp only [Act.put, List.getElem_toArray, List.getElem_cons_succ, List.getElem_cons_zero, List.setIfInBounds_toArray, List.set_cons_zero, List.set_cons_succ])); refine wpAnyH_done (by kernel_rfl) ?_ _; go_wp2_with fail; have hg := HG.out; have hR2 := ((blk_grew HR.out (w' := plus wq.drew (g7.add g8)) (by (repeat (first | with_reducible exact grew_refl _ | with_reducible assumption | with_reducible refine grew_split ?_ | with_reducible refine grew_mk ?_ | with_reducible refine grew_plus ?_ | with_reducible refine grew_alloc ?_ | with_reducible refine grew_drew ?_ | (with_reducible refine grew_set ?_ (by first | exact Nat.le_refl _ | omega | (simp [go_sem]; done) | (simp [go_sem]; omega))))))).set_ 0 (.string t4)).set_ 1 (.string t5); have hq0 := hR2.cell 0; have hq1 := hR2.cell 1; have hgW : ∃ g, ((plus wq.drew (g7.add g8)).setCell ⟨w.heap.size, 0, none⟩ (.string t4)).setCell ⟨w.heap.size, 1, none⟩ (.string t5) = plus w g := (by (repeat (first | with_reducible exact grew_refl _ | with_reducible assumption | with_reducible refine grew_split ?_ | with_reducible refine grew_mk ?_ | with_reducible refine grew_plus ?_ | with_reducible refine grew_alloc ?_ | with_reducible refine grew_drew ?_ | (with_reducible refine grew_set ?_ (by first | exact Nat.le_refl _ | omega | (simp [go_sem]; done) | (simp [go_sem]; omega)))))); clear hr0 hr1 hf0 hf1 hHeld hR2; generalize ((plus wq.drew (g7.add g8)).setCell ⟨w.heap.size, 0, none⟩ (.string t4)).setCell ⟨w.heap.size, 1, none⟩ (.string t5) = W at hq0 hq1 hgW ⊢; simp at hq0 hq1; refine bodyPost_ret (v := .tuple #[RecR.val ⟨t4, t5⟩, .bool true]) (by simp [results, Tryz.results110, go_sem, hq0, hq1]) rfl ?_; exact ⟨ReadPost.yes HY.out, hgW⟩)
  · have HN : Hid (recAt (bl s) k = none) := hid (none_of fun x hx => by
      have h1 := (recAt_some hx).2
      rw [PX.out x hx] at h1; exact hline h1)
    have hcmp : ((lineV k ⟨t4, t5⟩).toList == (s ++ ⟨#[10]⟩).toList) = false := by
      rw [str_eq, beq_eq_false_iff_ne, lineV_bytes, bl_app]
      intro e
      exact hline (List.append_cancel_right e)
    clear hline
    (refine wp_region_held_drew (S := (fun w' => w'.cell? ⟨b, 0, none⟩ = some (.string t4) ∧ w'.cell? ⟨b, 1, none⟩ = some (.string t5))) (by kernel_rfl) (KEEP.out _ (grew_drew (grew_refl _))) (fun hHeld => ?_); (refine wpAnyH_take (i := 0) (v := ?_) rfl (by kernel_rfl) (by kernel_rfl) (by kernel_rfl) (fun _ _ _ h => h) (Or.inl ⟨by rfl, ?_⟩) hHeld ?_; rotate_left 1; (· (intro w hSw; (try dsimp only at hSw); first | (go_simp; done) | (go_simp; with_reducible rfl))); (try simp only [Act.put, List.getElem_toArray, List.getElem_cons_zero, List.setIfInBounds_toArray, List.set_cons_zero, List.set_cons_succ])); (refine wpAnyH_take (i := 1) (v := ?_) rfl (by kernel_rfl) (by kernel_rfl) (by kernel_rfl) (fun _ _ _ h => h) (Or.inl ⟨by rfl, ?_⟩) hHeld ?_; rotate_left 1; (· (intro w hSw; (try dsimp only at hSw); first | (go_simp; done) | (go_simp; with_reducible rfl))); (try simp only [Act.put, List.getElem_toArray, List.getElem_cons_succ, List.getElem_cons_zero, List.setIfInBounds_toArray, List.set_cons_zero, List.set_cons_succ])); (refine wpAnyH_ready (rs := [2]) (by kernel_rfl) (by simp) ?_; refine AllReadyH.cons rfl (fun K hK => ?_) AllReadyH.nil; go_simp; ((go_at_call 39; refine (s_l27Good t4 t5 _ hok _ (by unfold maxLen; omega) (by unfold maxLen; omega)).mono ?_; rintro e w' ⟨rfl, g7, rfl⟩; go_wp2_with fail)); refine hK.out _ _ ?_ (fun hHeld => ?_); (· ((exact KEEP.out _ (by (repeat (first | with_reducible exact grew_refl _ | with_reducible assumption | with_reducible refine grew_split ?_ | with_reducible refine grew_mk ?_ | with_reducible refine grew_plus ?_ | with_reducible refine grew_alloc ?_ | with_reducible refine grew_drew ?_ | (with_reducible refine grew_set ?_ (by first | exact Nat.le_refl _ | omega | (simp [go_sem]; done) | (simp [go_sem]; omega))))))))); clear hK K; (try simp only [Act.put, List.getElem_toArray, List.getElem_cons_succ, List.getElem_cons_zero, List.setIfInBounds_toArray, List.set_cons_zero, List.set_cons_succ])); (refine wpAnyH_take (i := 3) (v := ?_) rfl (by kernel_rfl) (by kernel_rfl) (by kernel_rfl) (fun _ _ _ h => h) (Or.inl ⟨by rfl, ?_⟩) hHeld ?_; rotate_left 1; (· (intro w hSw; (try dsimp only at hSw); first | (go_simp; done) | (go_simp; with_reducible rfl))); (try simp only [Act.put, List.getElem_toArray, List.getElem_cons_succ, List.getElem_cons_zero, List.setIfInBounds_toArray, List.set_cons_zero, List.set_cons_succ])); (refine wpAnyH_take (i := 4) (v := ?_) rfl (by kernel_rfl) (by kernel_rfl) (by kernel_rfl) (fun _ _ _ h => h) (Or.inl ⟨by rfl, ?_⟩) hHeld ?_; rotate_left 1; (· (intro w hSw; (try dsimp only at hSw); first | (go_simp; done) | (go_simp; with_reducible rfl))); (try simp only [Act.put, List.getElem_toArray, List.getElem_cons_succ, List.getElem_cons_zero, List.setIfInBounds_toArray, List.set_cons_zero, List.set_cons_succ])); (refine wpAnyH_take (i := 5) (v := ?_) rfl (by kernel_rfl) (by kernel_rfl) (by kernel_rfl) (fun _ _ _ h => h) (Or.inl ⟨by rfl, ?_⟩) hHeld ?_; rotate_left 1; (· (intro w hSw; (try dsimp only at hSw); first | (go_simp; done) | (go_simp; with_reducible rfl))); (try simp only [Act.put, List.getElem_toArray, List.getElem_cons_succ, List.getElem_cons_zero, List.setIfInBounds_toArray, List.set_cons_zero, List.set_cons_succ])); (refine wpAnyH_take (i := 7) (v := ?_) rfl (by kernel_rfl) (by kernel_rfl) (by kernel_rfl) (fun _ _ _ h => h) (Or.inl ⟨by rfl, ?_⟩) hHeld ?_; rotate_left 1; (· (intro w hSw; (try dsimp only at hSw); first | (go_simp; done) | (go_simp; with_reducible rfl))); (try simp only [Act.put, List.getElem_toArray, List.getElem_cons_succ, List.getElem_cons_zero, List.setIfInBounds_toArray, List.set_cons_zero, List.set_cons_succ])); (refine wpAnyH_take (i := 8) (v := ?_) rfl (by kernel_rfl) (by kernel_rfl) (by kernel_rfl) (fun _ _ _ h => h) (Or.inl ⟨by rfl, ?_⟩) hHeld ?_; rotate_left 1; (· (intro w hSw; (try dsimp only at hSw); first | (go_simp; done) | (go_simp; with_reducible rfl))); (try simp only [Act.put, List.getElem_toArray, List.getElem_cons_succ, List.getElem_cons_zero, List.setIfInBounds_toArray, List.set_cons_zero, List.set_cons_succ])); (refine wpAnyH_ready (rs := [6]) (by kernel_rfl) (by simp) ?_; refine AllReadyH.cons rfl (fun K hK => ?_) AllReadyH.nil; go_simp; ((go_at_call 62; refine (s_l27Line k ⟨t4, t5⟩ _ (by omega) (by simp only; omega) (by simp only; omega)).mono ?_; rintro e w' ⟨rfl, g8, rfl⟩; go_wp2_with fail)); refine hK.out _ _ ?_ (fun hHeld => ?_); (· ((exact KEEP.out _ (by (repeat (first | with_reducible exact grew_refl _ | with_reducible assumption | with_reducible refine grew_split ?_ | with_reducible refine grew_mk ?_ | with_reducible refine grew_plus ?_ | with_reducible refine grew_alloc ?_ | with_reducible refine grew_drew ?_ | (with_reducible refine grew_set ?_ (by first | exact Nat.le_refl _ | omega | (simp [go_sem]; done) | (simp [go_sem]; omega))))))))); clear hK K; (try simp only [Act.put, List.getElem_toArray, List.getElem_cons_succ, List.getElem_cons_zero, List.setIfInBounds_toArray, List.set_cons_zero, List.set_cons_succ])); obtain ⟨hr0, hr1, hf0, hf1⟩ := KEEP2.out (plus wq.drew (g7.add g8)) (by (repeat (first | with_reducible exact grew_refl _ | with_reducible assumption | with_reducible refine grew_split ?_ | with_reducible refine grew_mk ?_ | with_reducible refine grew_plus ?_ | with_reducible refine grew_alloc ?_ | with_reducible refine grew_drew ?_ | (with_reducible refine grew_set ?_ (by first | exact Nat.le_refl _ | omega | (simp [go_sem]; done) | (simp [go_sem]; omega)))))); (refine wpAnyH_take (i := 9) (v := ?_) rfl (by kernel_rfl) (by kernel_rfl) (by kernel_rfl) (fun _ _ _ h => h) (Or.inl ⟨by rfl, ?_⟩) hHeld ?_; rotate_left 1; (· (intro w hSw; (try dsimp only at hSw); first | (go_simp; done) | (go_simp; with_reducible rfl))); (try simp only [Act.put, List.getElem_toArray, List.getElem_cons_succ, List.getElem_cons_zero, List.setIfInBounds_toArray, List.set_cons_zero, List.set_cons_succ])); (refine wpAnyH_take (i := 10) (v := ?_) rfl (by kernel_rfl) (by kernel_rfl) (by kernel_rfl) (fun _ _ _ h => h) (Or.inl ⟨by rfl, ?_⟩) hHeld ?_; rotate_left 1; (· (intro w hSw; (try dsimp only at hSw); first | (go_simp; done) | (go_simp; with_reducible rfl))); (try simp only [Act.put, List.getElem_toArray, List.getElem_cons_succ, List.getElem_cons_zero, List.setIfInBounds_toArray, List.set_cons_zero, List.set_cons_succ])))
    (refine wpAnyH_ready (rs := [11]) (by kernel_rfl) (by simp) ?_; refine AllReadyH.cons rfl (fun K hK => ?_) AllReadyH.nil; go_simp; have hs := KEEP.out (plus wq.drew (g7.add g8)) (by (repeat (first | with_reducible exact grew_refl _ | with_reducible assumption | with_reducible refine grew_split ?_ | with_reducible refine grew_mk ?_ | with_reducible refine grew_plus ?_ | with_reducible refine grew_alloc ?_ | with_reducible refine grew_drew ?_ | (with_reducible refine grew_set ?_ (by first | exact Nat.le_refl _ | omega | (simp [go_sem]; done) | (simp [go_sem]; omega)))))); refine hK.out _ _ ⟨cell_far (cell_far hs.1 (by omega)) (by omega), cell_far (cell_far hs.2 (by omega)) (by omega)⟩ (fun hHeld => ?_); clear hK K hs; (try simp only [Act.put, List.getElem_toArray, List.getElem_cons_succ, List.getElem_cons_zero, List.setIfInBounds_toArray, List.set_cons_zero, List.set_cons_succ]); (refine wpAnyH_take (i := 12) (v := ?_) rfl (by kernel_rfl) (by kernel_rfl) (by kernel_rfl) (fun _ _ _ h => h) (Or.inl ⟨by rfl, ?_⟩) hHeld ?_; rotate_left 1; (· (intro w hSw; (try dsimp only at hSw); first | (go_simp; done) | (go_simp; with_reducible rfl))); (try simp only [Act.put, List.getElem_toArray, List.getElem_cons_succ, List.getElem_cons_zero, List.setIfInBounds_toArray, List.set_cons_zero, List.set_cons_succ])); refine wpAnyH_done (by kernel_rfl) ?_ _; go_wp2_with fail; have hg := HG.out; have hR2 := ((blk_grew HR.out (w' := plus wq.drew (g7.add g8)) (by (repeat (first | with_reducible exact grew_refl _ | with_reducible assumption | with_reducible refine grew_split ?_ | with_reducible refine grew_mk ?_ | with_reducible refine grew_plus ?_ | with_reducible refine grew_alloc ?_ | with_reducible refine grew_drew ?_ | (with_reducible refine grew_set ?_ (by first | exact Nat.le_refl _ | omega | (simp [go_sem]; done) | (simp [go_sem]; omega))))))).set_ 0 (.string t4)).set_ 1 (.string t5); have hq0 := hR2.cell 0; have hq1 := hR2.cell 1; have hgW : ∃ g, ((plus wq.drew (g7.add g8)).setCell ⟨w.heap.size, 0, none⟩ (.string t4)).setCell ⟨w.heap.size, 1, none⟩ (.string t5) = plus w g := (by (repeat (first | with_reducible exact grew_refl _ | with_reducible assumption | with_reducible refine grew_split ?_ | with_reducible refine grew_mk ?_ | with_reducible refine grew_plus ?_ | with_reducible refine grew_alloc ?_ | with_reducible refine grew_drew ?_ | (with_reducible refine grew_set ?_ (by first | exact Nat.le_refl _ | omega | (simp [go_sem]; done) | (simp [go_sem]; omega)))))); clear hr0 hr1 hf0 hf1 hHeld hR2; generalize ((plus wq.drew (g7.add g8)).setCell ⟨w.heap.size, 0, none⟩ (.string t4)).setCell ⟨w.heap.size, 1, none⟩ (.string t5) = W at hq0 hq1 hgW ⊢; simp at hq0 hq1; refine bodyPost_ret (v := .tuple #[RecR.val ⟨t4, t5⟩, .bool false]) (by simp [results, Tryz.results110, go_sem, hq0, hq1]) rfl ?_; exact ⟨ReadPost.no HN.out, hgW⟩)
end Go.Proofs.YtecghfcgahgfiaaGreatDoor
/- The laws' conversions of lists of ints: copies, comparison of equal ones, marks. -/
namespace Go.Proofs.YtecghfcgahgfiaaGreatDoor
open Go.RowKit

def intRow (n : Int) : List Value := [.int .i64 n]
theorem intRow_len (n : Int) : (intRow n).length = 1 := rfl
theorem icells {w : World} {b off : Nat} {l : List Int} (hc : ∀ i (hi : i < l.length) j u, (intRow l[i])[j]? = some u → w.cell? ⟨b, off + i * 1 + j, none⟩ = some u) {k : Nat} (hk : k < l.length) :
    w.cell? ⟨b, off + k, none⟩ = some (.int .i64 l[k]) := by
  have := hc k hk 0 _ rfl
  simpa using this
theorem int_info : (Tryz.prog.info? 3).map (fun i => (i.zero, i.size, i.bytes)) = some (some (.int .i64 0), 1, 8) := by kernel_rfl
def marksI (k : Int) (n : Nat) : List Int := (List.range n).map fun (i : Nat) => k + (i : Int)
theorem marksI_len (k : Int) (n : Nat) : (marksI k n).length = n := by simp [marksI]
theorem marksI_get (k : Int) (n i : Nat) (hi : i < (marksI k n).length) : (marksI k n)[i] = k + i := by simp [marksI]
end Go.Proofs.YtecghfcgahgfiaaGreatDoor
