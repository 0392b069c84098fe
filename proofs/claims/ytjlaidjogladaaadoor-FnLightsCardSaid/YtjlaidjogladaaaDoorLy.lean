/- What the law on lights draws. -/
import Derived.Test.YtjlaidjogladaaaDoorLu
import Derived.Test.YtjlaidjogladaaaDoorOpenCode
namespace Go.Proofs.YtjlaidjogladaaaDoor
open Go.RowKit

theorem cur_newY (w W : World) (A : Option Addr) (c : Nat) (bs : List Int) (g : Nat) (hW : ∃ x, W = plus w x) (hg : g = W.heap.size) : CurU w (W.alloc (.cells #[.slice A bs.length c, .int .i64 0, .int .u64 0] 44)) g A c bs 0 := by
  subst hg
  exact ⟨0, ⟨by (repeat (first | with_reducible exact grew_refl _ | with_reducible assumption | with_reducible refine grew_split ?_ | with_reducible refine grew_mk ?_ | with_reducible refine grew_plus ?_ | with_reducible refine grew_alloc ?_ | with_reducible refine grew_drew ?_ | (with_reducible refine grew_set ?_ (by first | exact Nat.le_refl _ | omega | (simp [go_sem]; done) | (simp [go_sem]; omega))))), by have := (below_of_grew hW).size; omega, ⟨0, Blk.new _ _ _⟩, by omega⟩, by omega⟩
theorem Code0.grewY {w w' : World} {A : Option Addr} {bs : List Int} (h : Code0 w A bs) (hg : ∃ g, w' = plus w g) : Code0 w' A bs := ⟨h.sl.grew hg, h.ok, h.len⟩
/-- What a draw of a light hands back. -/
def LightDrawn (w : World) (e : Ending) (w' : World) : Prop :=
  (∃ v : LightV, e = .returned v.val ∧ v.core.nm.size ≤ 20 ∧ 0 < v.core.ph.length ∧ v.core.ph.length ≤ 12 ∧ OwnF (w.heap.size + 1) 56 2 PhaseR.row w' v.A v.core.ph) ∧ ∃ g, w' = plus w g
set_option maxHeartbeats 2000000 in
theorem s_DrawIsLight (A : Option Addr) (c : Nat) (bs : List Int) (w : World) (hA : Code0 w A bs) :
    Calls Tryd.prog 30 #[.slice A bs.length c] w fun e w' => LightDrawn w e w' := by
  have HA := hid hA
  clear hA
  go_enter Tryd.func30, Tryd.ntmps30
  go_wp2_with fail
  refine (s_amongL w (w.heap.size + 1) A c bs 0 [1, 42, 999] _ rfl _ _ _ (by simp) HA.out (cur_newY w _ A c bs _ (by (repeat (first | with_reducible exact grew_refl _ | with_reducible assumption | with_reducible refine grew_split ?_ | with_reducible refine grew_mk ?_ | with_reducible refine grew_plus ?_ | with_reducible refine grew_alloc ?_ | with_reducible refine grew_drew ?_ | (with_reducible refine grew_set ?_ (by first | exact Nat.le_refl _ | omega | (simp [go_sem]; done) | (simp [go_sem]; omega)))))) (by simp)) (by omega) (by simp) (by simp)).mono ?_
  rintro e w1 ⟨⟨id, rfl, -⟩, hC1, hG1⟩
  have HC1 := hid hC1
  have HR1 := hid (((blk_new (w := w) (b := w.heap.size) (t := 28) (cs := #[.int .i64 0, .string ByteArray.empty, .int .i64 0, .int .i64 0, .int .i64 0, .slice none 0 0]) rfl).alloc _).grown hG1 (fun e => by injection e with e; omega))
  have hz1 := hG1.size
  simp [go_sem] at hz1
  clear hC1 hG1
  go_wp2_with fail
  refine (s_light w (w.heap.size + 1) A c bs _ id _ HA.out HC1.out (by omega)).mono ?_
  rintro e w2 ⟨⟨v, rfl, hv1, hv2, hv3, hv4⟩, hC2, hG2⟩
  have HO := hid (hv4.less (B' := w.heap.size + 1) (by omega))
  have hR2 := HR1.out.grown hG2 (fun e => by injection e with e; omega)
  have hrl := hR2.lt
  (have hr0 := hR2.cell 0; have hr1 := hR2.cell 1; have hr2 := hR2.cell 2; have hr3 := hR2.cell 3; have hr4 := hR2.cell 4; have hr5 := hR2.cell 5; simp [go_sem] at hr0 hr1 hr2 hr3 hr4 hr5)
  (have fr0 := hR2.frozen 0; have fr1 := hR2.frozen 1; have fr2 := hR2.frozen 2; have fr3 := hR2.frozen 3; have fr4 := hR2.frozen 4; have fr5 := hR2.frozen 5)
  have HW := hid hC2.world
  clear hC2 hG2 hR2 HR1 HC1 hv4
  go_wp2_with fail
  refine bodyPost_ret (v := v.val) (by simp [results, Tryd.results30, go_sem, *]) rfl ?_
  have h := HW.out
  exact ⟨⟨v, rfl, hv1, hv2, hv3, HO.out.kept (grown_set (g := w.heap.size) (grown_set (grown_set (grown_set (grown_set (grown_set (grown_refl _ _))))))) (fun k hk => by injection hk with hk; omega)⟩, by (repeat (first | with_reducible exact grew_refl _ | with_reducible assumption | with_reducible refine grew_split ?_ | with_reducible refine grew_mk ?_ | with_reducible refine grew_plus ?_ | with_reducible refine grew_alloc ?_ | with_reducible refine grew_drew ?_ | (with_reducible refine grew_set ?_ (by first | exact Nat.le_refl _ | omega | (simp [go_sem]; done) | (simp [go_sem]; omega)))))⟩
set_option maxHeartbeats 2000000 in
theorem s_DrawLightText (A : Option Addr) (c : Nat) (bs : List Int) (w : World) (hA : Code0 w A bs) :
    Calls Tryd.prog 13 #[.slice A bs.length c] w fun e w' => LightDrawn w e w' := by
  have HA := hid hA
  clear hA
  go_enter Tryd.func13, Tryd.ntmps13
  go_wp2_with fail
  refine (s_DrawIsLight A c bs _ (HA.out.grewY (by (repeat (first | with_reducible exact grew_refl _ | with_reducible assumption | with_reducible refine grew_split ?_ | with_reducible refine grew_mk ?_ | with_reducible refine grew_plus ?_ | with_reducible refine grew_alloc ?_ | with_reducible refine grew_drew ?_ | (with_reducible refine grew_set ?_ (by first | exact Nat.le_refl _ | omega | (simp [go_sem]; done) | (simp [go_sem]; omega)))))))).mono ?_
  rintro e w1 ⟨⟨v, rfl, hv1, hv2, hv3, hv4⟩, g1, rfl⟩
  have HO := hid hv4
  clear hv4
  go_wp2_with fail
  refine bodyPost_ret (v := v.val) (by simp [results, Tryd.results13, go_sem, *]) rfl ?_
  refine ⟨⟨v, rfl, hv1, hv2, hv3, ?_⟩, by (repeat (first | with_reducible exact grew_refl _ | with_reducible assumption | with_reducible refine grew_split ?_ | with_reducible refine grew_mk ?_ | with_reducible refine grew_plus ?_ | with_reducible refine grew_alloc ?_ | with_reducible refine grew_drew ?_ | (with_reducible refine grew_set ?_ (by first | exact Nat.le_refl _ | omega | (simp [go_sem]; done) | (simp [go_sem]; omega)))))⟩
  exact (OwnF.base HO.out (by simp) (by simp)).less (by simp)
set_option maxHeartbeats 4000000 in
set_option maxRecDepth 100000 in
theorem s_DrawIsLit (A : Option Addr) (c : Nat) (bs : List Int) (w : World) (hA : Code0 w A bs) :
    Calls Tryd.prog 5 #[.slice A bs.length c] w fun e w' => (∃ (v : LightV) (m : Int), e = .returned (.tuple #[v.val, .int .i64 m]) ∧ v.core.nm.size ≤ 20 ∧ 0 < v.core.ph.length ∧ v.core.ph.length ≤ 12 ∧ Sl w' 2 PhaseR.row v.A v.core.ph ∧ -1 ≤ m ∧ m ≤ 1000001) ∧ ∃ g, w' = plus w g := by
  have HA := hid hA
  clear hA
  go_enter Tryd.func5, Tryd.ntmps5
  go_wp2_with fail
  refine (s_light w (w.heap.size + 1) A c bs _ 5 _ HA.out (cur_newY w _ A c bs _ (by (repeat (first | with_reducible exact grew_refl _ | with_reducible assumption | with_reducible refine grew_split ?_ | with_reducible refine grew_mk ?_ | with_reducible refine grew_plus ?_ | with_reducible refine grew_alloc ?_ | with_reducible refine grew_drew ?_ | (with_reducible refine grew_set ?_ (by first | exact Nat.le_refl _ | omega | (simp [go_sem]; done) | (simp [go_sem]; omega)))))) (by simp)) (by omega)).mono ?_
  rintro e w1 ⟨⟨v, rfl, hv1, hv2, hv3, hv4⟩, hC1, hG1⟩
  have HO1 := hid (hv4.less (B' := w.heap.size + 2) (by simp))
  have HC1 := hid hC1
  have HR1 := hid (((blk_new (w := w) (b := w.heap.size) (t := 28) (cs := #[.int .i64 0, .string ByteArray.empty, .int .i64 0, .int .i64 0, .int .i64 0, .slice none 0 0]) rfl).alloc _).grown hG1 (fun e => by injection e with e; omega))
  clear hC1 hG1 hv4
  go_upto_region 3 with fail
  generalize hb5 : w1.heap.size = b5
  have hbw : w.heap.size + 2 ≤ b5 := by rw [← hb5]; have h := HC1.out.lt; omega
  refine opq_wp (fun wx => Blk wx b5 28 #[.int .i64 (v.core).id, .string (v.core).nm, .int .i64 (v.core).x, .int .i64 (v.core).y, .int .i64 (v.core).range, .slice v.A (v.core).ph.length v.c] ∧ OwnF (w.heap.size + 2) 56 2 PhaseR.row wx v.A v.core.ph ∧ CurU w wx (w.heap.size + 1) A c bs 300 ∧ Blk wx w.heap.size 28 #[.int .i64 0, .string ByteArray.empty, .int .i64 0, .int .i64 0, .int .i64 0, .slice none 0 0]) ⟨blk_new hb5.symm, HO1.out.grew (by (repeat (first | with_reducible exact grew_refl _ | with_reducible assumption | with_reducible refine grew_split ?_ | with_reducible refine grew_mk ?_ | with_reducible refine grew_plus ?_ | with_reducible refine grew_alloc ?_ | with_reducible refine grew_drew ?_ | (with_reducible refine grew_set ?_ (by first | exact Nat.le_refl _ | omega | (simp [go_sem]; done) | (simp [go_sem]; omega)))))), (HC1.out.grew' (by (repeat (first | with_reducible exact grew_refl _ | with_reducible assumption | with_reducible refine grew_split ?_ | with_reducible refine grew_mk ?_ | with_reducible refine grew_plus ?_ | with_reducible refine grew_alloc ?_ | with_reducible refine grew_drew ?_ | (with_reducible refine grew_set ?_ (by first | exact Nat.le_refl _ | omega | (simp [go_sem]; done) | (simp [go_sem]; omega))))))).le (by omega), HR1.out.alloc _⟩ ?_
  clear HC1 HR1 HO1 hb5
  rintro wq ⟨hB, hO, hC, hR⟩
  have HB := hid hB
  have HO := hid hO
  have HC := hid hC
  have HR := hid hR
  have hbl := hB.lt
  (have hc0 := hB.cell 0; have hc1 := hB.cell 1; have hc2 := hB.cell 2; have hc3 := hB.cell 3; have hc4 := hB.cell 4; have hc5 := hB.cell 5; simp [go_sem] at hc0 hc1 hc2 hc3 hc4 hc5)
  clear hB hO hC hR
  go_region_with (go_at_call 17; refine (s_moment w (w.heap.size + 1) A c bs _ _ HA.out (HC.out.grew' (by (repeat (first | with_reducible exact grew_refl _ | with_reducible assumption | with_reducible refine grew_split ?_ | with_reducible refine grew_mk ?_ | with_reducible refine grew_plus ?_ | with_reducible refine grew_alloc ?_ | with_reducible refine grew_drew ?_ | (with_reducible refine grew_set ?_ (by first | exact Nat.le_refl _ | omega | (simp [go_sem]; done) | (simp [go_sem]; omega))))))) (by omega)).mono ?_; rintro e w6 ⟨⟨m, rfl, m0, m1⟩, hC6, hG6⟩; have hG6' := (grown_of_grew (w := wq) (by (repeat (first | with_reducible exact grew_refl _ | with_reducible assumption | with_reducible refine grew_split ?_ | with_reducible refine grew_mk ?_ | with_reducible refine grew_plus ?_ | with_reducible refine grew_alloc ?_ | with_reducible refine grew_drew ?_ | (with_reducible refine grew_set ?_ (by first | exact Nat.le_refl _ | omega | (simp [go_sem]; done) | (simp [go_sem]; omega)))))) (some (w.heap.size + 1))).trans hG6; have hB6 := HB.out.grown hG6' (fun e => by injection e with e; omega); have hR6 := HR.out.grown hG6' (fun e => by injection e with e; omega); have HO6 := hid (HO.out.kept hG6' (fun k hk => by injection hk with hk; omega)); have hbl6 := hB6.lt; have hrl6 := hR6.lt; (have hd0 := hB6.cell 0; have hd1 := hB6.cell 1; have hd2 := hB6.cell 2; have hd3 := hB6.cell 3; have hd4 := hB6.cell 4; have hd5 := hB6.cell 5; simp [go_sem] at hd0 hd1 hd2 hd3 hd4 hd5); (have he0 := hR6.cell 0; have he1 := hR6.cell 1; have he2 := hR6.cell 2; have he3 := hR6.cell 3; have he4 := hR6.cell 4; have he5 := hR6.cell 5; simp [go_sem] at he0 he1 he2 he3 he4 he5); (have fe0 := hR6.frozen 0; have fe1 := hR6.frozen 1; have fe2 := hR6.frozen 2; have fe3 := hR6.frozen 3; have fe4 := hR6.frozen 4; have fe5 := hR6.frozen 5); have HW := hid hC6.world; clear hC6 hG6 hG6' hB6 hR6)
  all_goals
    go_wp2_with fail
    refine bodyPost_ret (v := .tuple #[v.val, .int .i64 m]) (by simp [results, Tryd.results5, go_sem, *]) rfl ?_
    have h := HW.out
    exact ⟨⟨v, m, rfl, hv1, hv2, hv3, OwnF.sl (OwnF.kept HO6.out (grown_set (g := w.heap.size) (grown_set (grown_set (grown_set (grown_set (grown_set (grown_refl _ _))))))) (fun k hk => by injection hk with hk; omega)), m0, m1⟩, by (repeat (first | with_reducible exact grew_refl _ | with_reducible assumption | with_reducible refine grew_split ?_ | with_reducible refine grew_mk ?_ | with_reducible refine grew_plus ?_ | with_reducible refine grew_alloc ?_ | with_reducible refine grew_drew ?_ | (with_reducible refine grew_set ?_ (by first | exact Nat.le_refl _ | omega | (simp [go_sem]; done) | (simp [go_sem]; omega)))))⟩
end Go.Proofs.YtjlaidjogladaaaDoor
