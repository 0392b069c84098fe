/- The reference's draws of days and steps: what the laws on days draw. -/
import Derived.Test.YtcljcbbkbepmjaaE8
import Derived.Test.YtcljcbbkbepmjaaOpenCode
import Derived.Deep.RegionWith
namespace Go.Proofs.Ytcljcbbkbepmjaa
open Go.RowKit

attribute [local go_sem ↓] Go.wp_at_zero Go.wp_at_succ
theorem cur_new (w W : World) (A : Option Addr) (c : Nat) (bs : List Int) (g : Nat) (hW : ∃ x, W = plus w x) (hg : g = W.heap.size) : CurU w (W.alloc (.cells #[.slice A bs.length c, .int .i64 0, .int .u64 0] 52)) g A c bs 0 := by
  subst hg
  exact ⟨0, ⟨by (repeat (first | with_reducible exact grew_refl _ | with_reducible assumption | with_reducible refine grew_split ?_ | with_reducible refine grew_mk ?_ | with_reducible refine grew_plus ?_ | with_reducible refine grew_alloc ?_ | with_reducible refine grew_drew ?_ | (with_reducible refine grew_set ?_ (by first | exact Nat.le_refl _ | omega | (simp [go_sem]; done) | (simp [go_sem]; omega))))), by have := (below_of_grew hW).size; omega, ⟨0, Blk.new _ _ _⟩, by omega⟩, by omega⟩
theorem Code0.grewE {w w' : World} {A : Option Addr} {bs : List Int} (h : Code0 w A bs) (hg : ∃ g, w' = plus w g) : Code0 w' A bs := ⟨h.sl.grew hg, h.ok, h.len⟩
/-- What a draw of a day hands back. -/
def DayDrawn (w : World) (e : Ending) (w' : World) : Prop := (∃ v : DayV, e = .returned v.val ∧ v.core.lines.length ≤ 8 ∧ OwnF w.heap.size 59 2 LineR.row w' v.A v.core.lines) ∧ ∃ g, w' = plus w g
set_option maxHeartbeats 4000000 in
set_option maxRecDepth 100000 in
theorem s_DrawStepDay (A : Option Addr) (c : Nat) (bs : List Int) (w : World) (hA : Code0 w A bs) :
    Calls Try.prog 5 #[.slice A bs.length c] w fun e w' => (∃ (v : DayV) (k x : Int), e = .returned (.tuple #[v.val, .agg #[.int .i64 k, .int .i64 x]]) ∧ v.core.lines.length ≤ 8 ∧ Sl w' 2 LineR.row v.A v.core.lines ∧ -1 ≤ x ∧ x ≤ 1000002) ∧ ∃ g, w' = plus w g := by
  have HA := hid hA
  clear hA
  go_enter Try.func5, Try.ntmps5
  go_wp2_with fail
  refine (s_surveyDay w (w.heap.size + 2) A c bs 0 _ HA.out (cur_new w _ A c bs _ (by (repeat (first | with_reducible exact grew_refl _ | with_reducible assumption | with_reducible refine grew_split ?_ | with_reducible refine grew_mk ?_ | with_reducible refine grew_plus ?_ | with_reducible refine grew_alloc ?_ | with_reducible refine grew_drew ?_ | (with_reducible refine grew_set ?_ (by first | exact Nat.le_refl _ | omega | (simp [go_sem]; done) | (simp [go_sem]; omega)))))) (by simp)) (by omega)).mono ?_
  rintro e w1 ⟨⟨v, rfl, hl8, hO⟩, hC1, hG1⟩
  have HO1 := hid (OwnF.less (B' := w.heap.size + 3) hO (by simp))
  have HC1 := hid hC1
  have HR1 := hid ((((blk_new (w := w) (b := w.heap.size) (t := 26) (cs := #[.int .i64 0, .int .i64 0, .slice none 0 0, .int .i64 0, .int .i64 0, .int .i64 0, .int .i64 0]) rfl).alloc _).alloc _).grown hG1 (fun e => by injection e with e; omega))
  have HS1 := hid (((blk_new (w := w.alloc _) (b := w.heap.size + 1) (t := 28) (cs := #[.int .i64 0, .int .i64 0]) (by simp)).alloc _).grown hG1 (fun e => by injection e with e; omega))
  clear hC1 hG1 hO
  go_upto_region 3 with fail
  generalize hb5 : w1.heap.size = b5
  have hbw : w.heap.size + 3 ≤ b5 := by rw [← hb5]; have h := HC1.out.lt; omega
  refine opq_wp (fun wx => Blk wx b5 26 #[.int .i64 (v.core).minute, .int .i64 (v.core).state, .slice v.A (v.core).lines.length v.c, .int .i64 (v.core).line, .int .i64 (v.core).since, .int .i64 (v.core).cast, .int .i64 (v.core).fuel] ∧ OwnF (w.heap.size + 3) 59 2 LineR.row wx v.A v.core.lines ∧ CurU w wx (w.heap.size + 2) A c bs 4000 ∧ Blk wx w.heap.size 26 #[.int .i64 0, .int .i64 0, .slice none 0 0, .int .i64 0, .int .i64 0, .int .i64 0, .int .i64 0] ∧ Blk wx (w.heap.size + 1) 28 #[.int .i64 0, .int .i64 0]) ⟨blk_new hb5.symm, HO1.out.grew (by (repeat (first | with_reducible exact grew_refl _ | with_reducible assumption | with_reducible refine grew_split ?_ | with_reducible refine grew_mk ?_ | with_reducible refine grew_plus ?_ | with_reducible refine grew_alloc ?_ | with_reducible refine grew_drew ?_ | (with_reducible refine grew_set ?_ (by first | exact Nat.le_refl _ | omega | (simp [go_sem]; done) | (simp [go_sem]; omega)))))), (HC1.out.grew' (by (repeat (first | with_reducible exact grew_refl _ | with_reducible assumption | with_reducible refine grew_split ?_ | with_reducible refine grew_mk ?_ | with_reducible refine grew_plus ?_ | with_reducible refine grew_alloc ?_ | with_reducible refine grew_drew ?_ | (with_reducible refine grew_set ?_ (by first | exact Nat.le_refl _ | omega | (simp [go_sem]; done) | (simp [go_sem]; omega))))))).le (by omega), HR1.out.alloc _, HS1.out.alloc _⟩ ?_
  clear HC1 HR1 HS1 HO1 hb5
  rintro wq ⟨hB, hO, hC, hR, hS⟩
  have HB := hid hB
  have HO := hid hO
  have HC := hid hC
  have HR := hid hR
  have HS := hid hS
  have hbl := hB.lt
  (have hq0 := hB.cell 0; have hq1 := hB.cell 1; have hq2 := hB.cell 2; have hq3 := hB.cell 3; have hq4 := hB.cell 4; have hq5 := hB.cell 5; have hq6 := hB.cell 6; simp [go_sem] at hq0 hq1 hq2 hq3 hq4 hq5 hq6)
  clear hB hO hC hR hS
  go_region_with (go_at_call 21; refine (s_dayStep w (w.heap.size + 2) A c bs _ v _ HA.out (HC.out.grew' (by (repeat (first | with_reducible exact grew_refl _ | with_reducible assumption | with_reducible refine grew_split ?_ | with_reducible refine grew_mk ?_ | with_reducible refine grew_plus ?_ | with_reducible refine grew_alloc ?_ | with_reducible refine grew_drew ?_ | (with_reducible refine grew_set ?_ (by first | exact Nat.le_refl _ | omega | (simp [go_sem]; done) | (simp [go_sem]; omega))))))) (by omega) (by omega)).mono ?_; rintro e w6 ⟨⟨k, x, rfl, x0, x1⟩, hC6, hG6⟩; have hG6' := (grown_of_grew (w := wq) (by (repeat (first | with_reducible exact grew_refl _ | with_reducible assumption | with_reducible refine grew_split ?_ | with_reducible refine grew_mk ?_ | with_reducible refine grew_plus ?_ | with_reducible refine grew_alloc ?_ | with_reducible refine grew_drew ?_ | (with_reducible refine grew_set ?_ (by first | exact Nat.le_refl _ | omega | (simp [go_sem]; done) | (simp [go_sem]; omega)))))) (some (w.heap.size + 2))).trans hG6; have hB6 := HB.out.grown hG6' (fun e => by injection e with e; omega); have hR6 := HR.out.grown hG6' (fun e => by injection e with e; omega); have hS6 := HS.out.grown hG6' (fun e => by injection e with e; omega); have HO6 := hid (HO.out.kept hG6' (fun k hk => by injection hk with hk; omega)); have hbl6 := hB6.lt; have hrl6 := hR6.lt; have hsl6 := hS6.lt; (have hd0 := hB6.cell 0; have hd1 := hB6.cell 1; have hd2 := hB6.cell 2; have hd3 := hB6.cell 3; have hd4 := hB6.cell 4; have hd5 := hB6.cell 5; have hd6 := hB6.cell 6; simp [go_sem] at hd0 hd1 hd2 hd3 hd4 hd5 hd6); (have he0 := hR6.cell 0; have he1 := hR6.cell 1; have he2 := hR6.cell 2; have he3 := hR6.cell 3; have he4 := hR6.cell 4; have he5 := hR6.cell 5; have he6 := hR6.cell 6; simp [go_sem] at he0 he1 he2 he3 he4 he5 he6); (have fe0 := hR6.frozen 0; have fe1 := hR6.frozen 1; have fe2 := hR6.frozen 2; have fe3 := hR6.frozen 3; have fe4 := hR6.frozen 4; have fe5 := hR6.frozen 5; have fe6 := hR6.frozen 6); have hs0 := hS6.cell 0; have hs1 := hS6.cell 1; simp [go_sem] at hs0 hs1; have fs0 := hS6.frozen 0; have fs1 := hS6.frozen 1; have HW := hid hC6.world; clear hC6 hG6 hG6' hB6 hR6 hS6)
  all_goals
    go_wp2_with fail
    refine bodyPost_ret (v := .tuple #[v.val, .agg #[.int .i64 k, .int .i64 x]]) (by simp [results, Try.results5, go_sem, *]) rfl ?_
    have h := HW.out
    exact ⟨⟨v, k, x, rfl, hl8, OwnF.sl (OwnF.kept (OwnF.kept HO6.out (grown_set (g := w.heap.size) (grown_set (grown_set (grown_set (grown_set (grown_set (grown_set (grown_refl _ _)))))))) (fun k hk => by injection hk with hk; omega)) (grown_set (g := w.heap.size + 1) (grown_set (grown_refl _ _))) (fun k hk => by injection hk with hk; omega)), x0, x1⟩, by (repeat (first | with_reducible exact grew_refl _ | with_reducible assumption | with_reducible refine grew_split ?_ | with_reducible refine grew_mk ?_ | with_reducible refine grew_plus ?_ | with_reducible refine grew_alloc ?_ | with_reducible refine grew_drew ?_ | (with_reducible refine grew_set ?_ (by first | exact Nat.le_refl _ | omega | (simp [go_sem]; done) | (simp [go_sem]; omega)))))⟩
set_option maxHeartbeats 2000000 in
theorem s_DrawNewSurveyDay (A : Option Addr) (c : Nat) (bs : List Int) (w : World) (hA : Code0 w A bs) :
    Calls Try.prog 17 #[.slice A bs.length c] w fun e w' => (∃ (B : Option Addr) (d : Nat) (l : List Int) (x : Int), e = .returned (.tuple #[.slice B l.length d, .int .i64 x]) ∧ l.length ≤ 16 ∧ Sl w' 1 intRow B l ∧ -1 ≤ x ∧ x ≤ 10000) ∧ ∃ g, w' = plus w g := by
  have HA := hid hA
  clear hA
  go_enter Try.func17, Try.ntmps17
  go_wp2_with fail
  refine (s_minutes25 w w.heap.size A c bs 0 _ HA.out (cur_new w _ A c bs _ (by (repeat (first | with_reducible exact grew_refl _ | with_reducible assumption | with_reducible refine grew_split ?_ | with_reducible refine grew_mk ?_ | with_reducible refine grew_plus ?_ | with_reducible refine grew_alloc ?_ | with_reducible refine grew_drew ?_ | (with_reducible refine grew_set ?_ (by first | exact Nat.le_refl _ | omega | (simp [go_sem]; done) | (simp [go_sem]; omega)))))) (by simp)) (by omega)).mono ?_
  rintro e w1 ⟨⟨B, d, l, rfl, hS1, hml⟩, hC1, hG1⟩
  have HC1 := hid hC1
  have HS1 := hid hS1
  clear hC1 hG1 hS1
  go_wp2_with fail
  refine (s_amongL w w.heap.size A c bs _ [0, 100, 9999, 10000, -1] _ rfl _ _ _ (by simp) HA.out HC1.out (by omega) (by decide) (by decide)).mono ?_
  rintro e w2 ⟨⟨x, rfl, hx⟩, hC2, hG2⟩
  have hx2 : -1 ≤ x ∧ x ≤ 10000 := by simp at hx; omega
  have HS2 := hid (HS1.out.kept hG2 (fun k hk => by injection hk with hk; subst hk; simp))
  have HW := hid hC2.world
  clear hC2 hG2 hx
  go_wp2_with fail
  go_ret2
  have h := HW.out
  exact ⟨⟨B, d, l, x, rfl, hml, HS2.out.sl, hx2.1, hx2.2⟩, by (repeat (first | with_reducible exact grew_refl _ | with_reducible assumption | with_reducible refine grew_split ?_ | with_reducible refine grew_mk ?_ | with_reducible refine grew_plus ?_ | with_reducible refine grew_alloc ?_ | with_reducible refine grew_drew ?_ | (with_reducible refine grew_set ?_ (by first | exact Nat.le_refl _ | omega | (simp [go_sem]; done) | (simp [go_sem]; omega)))))⟩
end Go.Proofs.Ytcljcbbkbepmjaa
