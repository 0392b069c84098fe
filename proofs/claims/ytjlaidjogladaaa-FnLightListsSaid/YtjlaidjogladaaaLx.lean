/- What the laws on lists of lights draw. -/
import Derived.Test.YtjlaidjogladaaaLw
import Derived.Test.YtjlaidjogladaaaOpenCode
namespace Go.Proofs.Ytjlaidjogladaaa
open Go.RowKit

theorem cur_newL (w W : World) (A : Option Addr) (c : Nat) (bs : List Int) (g : Nat) (hW : ∃ x, W = plus w x) (hg : g = W.heap.size) : CurU w (W.alloc (.cells #[.slice A bs.length c, .int .i64 0, .int .u64 0] 75)) g A c bs 0 := by
  subst hg
  exact ⟨0, ⟨by (repeat (first | with_reducible exact grew_refl _ | with_reducible assumption | with_reducible refine grew_split ?_ | with_reducible refine grew_mk ?_ | with_reducible refine grew_plus ?_ | with_reducible refine grew_alloc ?_ | with_reducible refine grew_drew ?_ | (with_reducible refine grew_set ?_ (by first | exact Nat.le_refl _ | omega | (simp [go_sem]; done) | (simp [go_sem]; omega))))), by have := (below_of_grew hW).size; omega, ⟨0, Blk.new _ _ _⟩, by omega⟩, by omega⟩
theorem Code0.grewL {w w' : World} {A : Option Addr} {bs : List Int} (h : Code0 w A bs) (hg : ∃ g, w' = plus w g) : Code0 w' A bs := ⟨h.sl.grew hg, h.ok, h.len⟩
set_option maxHeartbeats 1000000 in
theorem s_DrawAreLights (A : Option Addr) (c : Nat) (bs : List Int) (w : World) (hA : Code0 w A bs) :
    Calls Try.prog 59 #[.slice A bs.length c] w fun e w' => (∃ (B : Option Addr) (d : Nat) (L : List LightV), e = .returned (.slice B L.length d) ∧ L.length ≤ 12 ∧ L.length ≤ d ∧ LtsO w.heap.size w' B L) ∧ ∃ g, w' = plus w g := by
  have HA := hid hA
  clear hA
  go_enter Try.func59, Try.ntmps59
  go_wp2_with fail
  refine (s_lights w w.heap.size A c bs 0 _ HA.out (cur_newL w _ A c bs _ (by (repeat (first | with_reducible exact grew_refl _ | with_reducible assumption | with_reducible refine grew_split ?_ | with_reducible refine grew_mk ?_ | with_reducible refine grew_plus ?_ | with_reducible refine grew_alloc ?_ | with_reducible refine grew_drew ?_ | (with_reducible refine grew_set ?_ (by first | exact Nat.le_refl _ | omega | (simp [go_sem]; done) | (simp [go_sem]; omega)))))) (by simp)) (by omega)).mono ?_
  rintro e w1 ⟨⟨B, d, L, rfl, hl, hd, hO⟩, hC1, -⟩
  have HO := hid (hO.less (B' := w.heap.size) (by simp))
  have HW := hid hC1.world
  clear hO hC1
  go_wp2_with fail
  go_ret
  have h := HW.out
  exact ⟨⟨B, d, L, rfl, hl, hd, HO.out⟩, by (repeat (first | with_reducible exact grew_refl _ | with_reducible assumption | with_reducible refine grew_split ?_ | with_reducible refine grew_mk ?_ | with_reducible refine grew_plus ?_ | with_reducible refine grew_alloc ?_ | with_reducible refine grew_drew ?_ | (with_reducible refine grew_set ?_ (by first | exact Nat.le_refl _ | omega | (simp [go_sem]; done) | (simp [go_sem]; omega)))))⟩
set_option maxHeartbeats 1000000 in
theorem s_DrawConfusablePairs (A : Option Addr) (c : Nat) (bs : List Int) (w : World) (hA : Code0 w A bs) :
    Calls Try.prog 25 #[.slice A bs.length c] w fun e w' => (∃ (B : Option Addr) (d : Nat) (L : List LightV), e = .returned (.slice B L.length d) ∧ L.length ≤ 12 ∧ L.length ≤ d ∧ LtsO w.heap.size w' B L) ∧ ∃ g, w' = plus w g := by
  have HA := hid hA
  clear hA
  go_enter Try.func25, Try.ntmps25
  go_wp2_with fail
  refine (s_DrawAreLights A c bs _ HA.out).mono ?_
  rintro e w1 ⟨⟨B, d, L, rfl, hl, hd, hO⟩, hg⟩
  have HO := hid hO
  have HW := hid hg
  clear hO hg
  go_wp2_with fail
  go_ret
  have h := HW.out
  exact ⟨⟨B, d, L, rfl, hl, hd, HO.out⟩, by (repeat (first | with_reducible exact grew_refl _ | with_reducible assumption | with_reducible refine grew_split ?_ | with_reducible refine grew_mk ?_ | with_reducible refine grew_plus ?_ | with_reducible refine grew_alloc ?_ | with_reducible refine grew_drew ?_ | (with_reducible refine grew_set ?_ (by first | exact Nat.le_refl _ | omega | (simp [go_sem]; done) | (simp [go_sem]; omega)))))⟩
set_option maxHeartbeats 1000000 in
theorem s_DrawAllDarkAt (A : Option Addr) (c : Nat) (bs : List Int) (w : World) (hA : Code0 w A bs) :
    Calls Try.prog 22 #[.slice A bs.length c] w fun e w' => (∃ (B : Option Addr) (d : Nat) (L : List LightV) (m : Int), e = .returned (.tuple #[.slice B L.length d, .int .i64 m]) ∧ L.length ≤ 12 ∧ L.length ≤ d ∧ LtsO (w.heap.size + 1) w' B L ∧ -1 ≤ m ∧ m ≤ 1000001) ∧ ∃ g, w' = plus w g := by
  have HA := hid hA
  clear hA
  go_enter Try.func22, Try.ntmps22
  go_wp2_with fail
  refine (s_lights w w.heap.size A c bs 0 _ HA.out (cur_newL w _ A c bs _ (by (repeat (first | with_reducible exact grew_refl _ | with_reducible assumption | with_reducible refine grew_split ?_ | with_reducible refine grew_mk ?_ | with_reducible refine grew_plus ?_ | with_reducible refine grew_alloc ?_ | with_reducible refine grew_drew ?_ | (with_reducible refine grew_set ?_ (by first | exact Nat.le_refl _ | omega | (simp [go_sem]; done) | (simp [go_sem]; omega)))))) (by simp)) (by omega)).mono ?_
  rintro e w1 ⟨⟨B, d, L, rfl, hl, hd, hO⟩, hC1, -⟩
  have HO := hid (hO.less (B' := w.heap.size + 1) (by simp))
  have HC1 := hid hC1
  clear hO hC1
  go_wp2_with fail
  refine (s_moment w w.heap.size A c bs _ _ HA.out HC1.out (by omega)).mono ?_
  rintro e w2 ⟨⟨m, rfl, m0, m1⟩, hC2, hG2⟩
  have HO2 := hid (HO.out.kept hG2 (fun k hk => by injection hk with hk; omega))
  have HW := hid hC2.world
  clear hC2 hG2
  go_wp2_with fail
  go_ret2
  have h := HW.out
  exact ⟨⟨B, d, L, m, rfl, hl, hd, HO2.out, m0, m1⟩, by (repeat (first | with_reducible exact grew_refl _ | with_reducible assumption | with_reducible refine grew_split ?_ | with_reducible refine grew_mk ?_ | with_reducible refine grew_plus ?_ | with_reducible refine grew_alloc ?_ | with_reducible refine grew_drew ?_ | (with_reducible refine grew_set ?_ (by first | exact Nat.le_refl _ | omega | (simp [go_sem]; done) | (simp [go_sem]; omega)))))⟩
set_option maxHeartbeats 2000000 in
theorem s_DrawSeenFrom (A : Option Addr) (c : Nat) (bs : List Int) (w : World) (hA : Code0 w A bs) :
    Calls Try.prog 29 #[.slice A bs.length c] w fun e w' => (∃ (B : Option Addr) (d : Nat) (L : List LightV) (x y : Int), e = .returned (.tuple #[.slice B L.length d, .agg #[.int .i64 x, .int .i64 y]]) ∧ L.length ≤ 12 ∧ L.length ≤ d ∧ LtsO (w.heap.size + 2) w' B L) ∧ ∃ g, w' = plus w g := by
  have HA := hid hA
  clear hA
  go_enter Try.func29, Try.ntmps29
  go_wp2_with fail
  refine (s_lights w (w.heap.size + 1) A c bs 0 _ HA.out (cur_newL w _ A c bs _ (by (repeat (first | with_reducible exact grew_refl _ | with_reducible assumption | with_reducible refine grew_split ?_ | with_reducible refine grew_mk ?_ | with_reducible refine grew_plus ?_ | with_reducible refine grew_alloc ?_ | with_reducible refine grew_drew ?_ | (with_reducible refine grew_set ?_ (by first | exact Nat.le_refl _ | omega | (simp [go_sem]; done) | (simp [go_sem]; omega)))))) (by simp)) (by omega)).mono ?_
  rintro e w1 ⟨⟨B, d, L, rfl, hl, hd, hO⟩, hC1, hG1⟩
  have HO := hid (hO.less (B' := w.heap.size + 2) (by simp))
  have HC1 := hid hC1
  have HR1 := hid (((blk_new (w := w) (b := w.heap.size) (t := 37) (cs := #[.int .i64 0, .int .i64 0]) rfl).alloc _).grown hG1 (fun e => by injection e with e; omega))
  clear hO hC1 hG1
  go_wp2_with fail
  refine (s_spot w (w.heap.size + 1) A c bs _ _ HA.out HC1.out (by omega)).mono ?_
  rintro e w2 ⟨⟨x, y, rfl⟩, hC2, hG2⟩
  have HO2 := hid (HO.out.kept hG2 (fun k hk => by injection hk with hk; omega))
  have hR2 := HR1.out.grown hG2 (fun e => by injection e with e; omega)
  have hrl := hR2.lt
  obtain ⟨⟨_, hq0⟩, ⟨_, hq1⟩, hf0, hf1⟩ := hR2.some2 0 (by simp)
  have HW := hid hC2.world
  clear hC2 hG2 hR2 HR1 HC1 HO
  go_wp2_with fail
  refine bodyPost_ret (v := .tuple #[.slice B L.length d, .agg #[.int .i64 x, .int .i64 y]]) (by simp [results, Try.results29, go_sem, *]) rfl ?_
  have h := HW.out
  exact ⟨⟨B, d, L, x, y, rfl, hl, hd, HO2.out.kept (grown_set (g := w.heap.size) (grown_set (grown_refl _ _))) (fun k hk => by injection hk with hk; omega)⟩, by (repeat (first | with_reducible exact grew_refl _ | with_reducible assumption | with_reducible refine grew_split ?_ | with_reducible refine grew_mk ?_ | with_reducible refine grew_plus ?_ | with_reducible refine grew_alloc ?_ | with_reducible refine grew_drew ?_ | (with_reducible refine grew_set ?_ (by first | exact Nat.le_refl _ | omega | (simp [go_sem]; done) | (simp [go_sem]; omega)))))⟩
set_option maxHeartbeats 2000000 in
theorem s_DrawLitFrom (A : Option Addr) (c : Nat) (bs : List Int) (w : World) (hA : Code0 w A bs) :
    Calls Try.prog 15 #[.slice A bs.length c] w fun e w' => (∃ (B : Option Addr) (d : Nat) (L : List LightV) (x y m : Int), e = .returned (.tuple #[.slice B L.length d, .agg #[.int .i64 x, .int .i64 y], .int .i64 m]) ∧ L.length ≤ 12 ∧ L.length ≤ d ∧ LtsO (w.heap.size + 2) w' B L ∧ -1 ≤ m ∧ m ≤ 1000001) ∧ ∃ g, w' = plus w g := by
  have HA := hid hA
  clear hA
  go_enter Try.func15, Try.ntmps15
  go_wp2_with fail
  refine (s_lights w (w.heap.size + 1) A c bs 0 _ HA.out (cur_newL w _ A c bs _ (by (repeat (first | with_reducible exact grew_refl _ | with_reducible assumption | with_reducible refine grew_split ?_ | with_reducible refine grew_mk ?_ | with_reducible refine grew_plus ?_ | with_reducible refine grew_alloc ?_ | with_reducible refine grew_drew ?_ | (with_reducible refine grew_set ?_ (by first | exact Nat.le_refl _ | omega | (simp [go_sem]; done) | (simp [go_sem]; omega)))))) (by simp)) (by omega)).mono ?_
  rintro e w1 ⟨⟨B, d, L, rfl, hl, hd, hO⟩, hC1, hG1⟩
  have HO := hid (hO.less (B' := w.heap.size + 2) (by simp))
  have HC1 := hid hC1
  have HR1 := hid (((blk_new (w := w) (b := w.heap.size) (t := 37) (cs := #[.int .i64 0, .int .i64 0]) rfl).alloc _).grown hG1 (fun e => by injection e with e; omega))
  clear hO hC1 hG1
  go_wp2_with fail
  refine (s_spot w (w.heap.size + 1) A c bs _ _ HA.out HC1.out (by omega)).mono ?_
  rintro e w2 ⟨⟨x, y, rfl⟩, hC2, hG2⟩
  have HO2 := hid (HO.out.kept hG2 (fun k hk => by injection hk with hk; omega))
  have HR2 := hid (HR1.out.grown hG2 (fun e => by injection e with e; omega))
  have HC2 := hid hC2
  clear hC2 hG2 HR1 HC1 HO
  go_wp2_with fail
  refine (s_moment w (w.heap.size + 1) A c bs _ _ HA.out HC2.out (by omega)).mono ?_
  rintro e w3 ⟨⟨m, rfl, m0, m1⟩, hC3, hG3⟩
  have HO3 := hid (HO2.out.kept hG3 (fun k hk => by injection hk with hk; omega))
  have hR3 := HR2.out.grown hG3 (fun e => by injection e with e; omega)
  have hrl := hR3.lt
  obtain ⟨⟨_, hq0⟩, ⟨_, hq1⟩, hf0, hf1⟩ := hR3.some2 0 (by simp)
  have HW := hid hC3.world
  clear hC3 hG3 hR3 HR2 HC2 HO2
  go_wp2_with fail
  refine bodyPost_ret (v := .tuple #[.slice B L.length d, .agg #[.int .i64 x, .int .i64 y], .int .i64 m]) (by simp [results, Try.results15, go_sem, *]) rfl ?_
  have h := HW.out
  exact ⟨⟨B, d, L, x, y, m, rfl, hl, hd, HO3.out.kept (grown_set (g := w.heap.size) (grown_set (grown_refl _ _))) (fun k hk => by injection hk with hk; omega), m0, m1⟩, by (repeat (first | with_reducible exact grew_refl _ | with_reducible assumption | with_reducible refine grew_split ?_ | with_reducible refine grew_mk ?_ | with_reducible refine grew_plus ?_ | with_reducible refine grew_alloc ?_ | with_reducible refine grew_drew ?_ | (with_reducible refine grew_set ?_ (by first | exact Nat.le_refl _ | omega | (simp [go_sem]; done) | (simp [go_sem]; omega)))))⟩
end Go.Proofs.Ytjlaidjogladaaa
