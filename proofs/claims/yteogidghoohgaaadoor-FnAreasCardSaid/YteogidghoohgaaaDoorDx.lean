/- More of the reference's draws of areas: of a merge, of one row. -/
import Derived.Test.YteogidghoohgaaaDoorDw
namespace Go.Proofs.YteogidghoohgaaaDoor
open Go.RowKit

theorem Code0.grew1 {w w' : World} {A : Option Addr} {bs : List Int} (h : Code0 w A bs) (hg : ∃ g, w' = plus w g) : Code0 w' A bs := ⟨h.sl.grew hg, h.ok, h.len⟩
theorem own_ne0 {α : Type} {B : Nat} {e : TypeId} {s : Nat} {cells : α → List Value} {w : World} {A : Option Addr} {l : List α} (h : OwnF B e s cells w A l) (hp : 0 < l.length) {g : Nat} (hg : g < B) : ∀ a, A = some a → a.block ≠ g := by
  intro a ha e
  rcases h with h | ⟨g', cs, h1, h2, _⟩
  · rw [h] at hp; simp at hp
  · rw [h1] at ha; injection ha with ha; rw [← ha] at e; simp at e; omega
set_option maxHeartbeats 1000000 in
theorem s_DrawMerge (A : Option Addr) (c : Nat) (bs : List Int) (w : World) (hA : Code0 w A bs) :
    Calls Tryd.prog 19 #[.slice A bs.length c] w fun e w' => (∃ (B : Option Addr) (d : Nat) (L : List AreaR) (x y : ByteArray), e = .returned (.tuple #[.slice B L.length d, .string x, .string y]) ∧ OwnF w.heap.size 40 6 AreaR.row w' B L ∧ L.length ≤ 12 ∧ (∀ r ∈ L, r.nm.size ≤ 20) ∧ x.size ≤ 20 ∧ y.size ≤ 20) ∧ ∃ g, w' = plus w g := by
  have HA := hid hA
  clear hA
  go_enter Tryd.func19, Tryd.ntmps19
  go_wp2_with fail
  refine (s_areaRows w w.heap.size A c bs 0 _ HA.out (cur_new w A c bs _ rfl) (by omega)).mono ?_
  rintro e w1 ⟨⟨B, d, L, rfl, hO, hl, hs⟩, hC1, -⟩
  have HO := hid hO
  have HS := hid hs
  have HC1 := hid hC1
  clear hO hs hC1
  go_wp2_with fail
  refine (s_areaName w w.heap.size A c bs _ L B d _ HA.out HC1.out (by omega) HO.out.sl (fun hp => own_ne0 HO.out hp (by simp)) hl HS.out).mono ?_
  rintro e w2 ⟨⟨x, rfl, hx⟩, hC2, hG2⟩
  have HO2 := hid (HO.out.kept hG2 (fun k hk => by injection hk with hk; simp; omega))
  have HC2 := hid hC2
  clear hC2 hG2
  go_wp2_with fail
  refine (s_areaName w w.heap.size A c bs _ L B d _ HA.out HC2.out (by omega) HO2.out.sl (fun hp => own_ne0 HO2.out hp (by simp)) hl HS.out).mono ?_
  rintro e w3 ⟨⟨y, rfl, hy⟩, hC3, hG3⟩
  have HO3 := hid (HO2.out.kept hG3 (fun k hk => by injection hk with hk; simp; omega))
  have hw := hid hC3.world
  clear hC3 hG3
  go_wp2_with fail
  go_ret3
  exact ⟨⟨B, d, L, x, y, rfl, HO3.out.less (by simp), hl, HS.out, hx, hy⟩, hw.out⟩
set_option maxHeartbeats 1000000 in
theorem s_DrawRow (A : Option Addr) (c : Nat) (bs : List Int) (w : World) (hA : Code0 w A bs) :
    Calls Tryd.prog 54 #[.slice A bs.length c] w fun e w' => (∃ r : AreaR, e = .returned r.val ∧ r.nm.size ≤ 20) ∧ ∃ g, w' = plus w g := by
  have HA := hid hA
  clear hA
  go_enter Tryd.func54, Tryd.ntmps54
  go_wp2_with fail
  refine (s_areaRow (w.alloc (.cells #[.string ByteArray.empty, .int .i64 0, .int .i64 0, .int .i64 0, .int .i64 0, .int .i64 0] 40)) (w.heap.size + 1) A c bs 0 _ _ (HA.out.grew1 (by (repeat (first | with_reducible exact grew_refl _ | with_reducible assumption | with_reducible refine grew_split ?_ | with_reducible refine grew_mk ?_ | with_reducible refine grew_plus ?_ | with_reducible refine grew_alloc ?_ | with_reducible refine grew_drew ?_ | (with_reducible refine grew_set ?_ (by first | exact Nat.le_refl _ | omega | (simp [go_sem]; done) | (simp [go_sem]; omega))))))) (cur_new _ A c bs _ (by simp)) (by omega) (by decide)).mono ?_
  rintro e w1 ⟨⟨r, rfl, hr⟩, hC1, hG1⟩
  have hw := hid hC1.world
  have hR := (blk_new (w := w) rfl).alloc (.cells #[.slice A bs.length c, .int .i64 0, .int .u64 0] 64) |>.grown hG1 (fun e => by injection e with e; omega)
  have hrl := hR.lt
  (have hd0 := hR.cell 0; have hd1 := hR.cell 1; have hd2 := hR.cell 2; have hd3 := hR.cell 3; have hd4 := hR.cell 4; have hd5 := hR.cell 5; simp [go_sem] at hd0 hd1 hd2 hd3 hd4 hd5)
  (have fd0 := hR.frozen 0; have fd1 := hR.frozen 1; have fd2 := hR.frozen 2; have fd3 := hR.frozen 3; have fd4 := hR.frozen 4; have fd5 := hR.frozen 5)
  clear hC1 hG1 hR
  go_wp2_with fail
  refine bodyPost_ret (v := r.val) (by simp [results, Tryd.results54, go_sem, *]) rfl ?_
  have h := hw.out
  exact ⟨⟨r, rfl, hr⟩, by obtain ⟨g, rfl⟩ := h; (repeat (first | with_reducible exact grew_refl _ | with_reducible assumption | with_reducible refine grew_split ?_ | with_reducible refine grew_mk ?_ | with_reducible refine grew_plus ?_ | with_reducible refine grew_alloc ?_ | with_reducible refine grew_drew ?_ | (with_reducible refine grew_set ?_ (by first | exact Nat.le_refl _ | omega | (simp [go_sem]; done) | (simp [go_sem]; omega)))))⟩
set_option maxHeartbeats 1000000 in
theorem s_DrawLine (A : Option Addr) (c : Nat) (bs : List Int) (w : World) (hA : Code0 w A bs) :
    Calls Tryd.prog 24 #[.slice A bs.length c] w fun e w' => (∃ r : AreaR, e = .returned r.val ∧ r.nm.size ≤ 20) ∧ ∃ g, w' = plus w g := by
  have HA := hid hA
  clear hA
  go_enter Tryd.func24, Tryd.ntmps24
  go_wp2_with fail
  refine (s_DrawRow A c bs _ (HA.out.grew1 (by (repeat (first | with_reducible exact grew_refl _ | with_reducible assumption | with_reducible refine grew_split ?_ | with_reducible refine grew_mk ?_ | with_reducible refine grew_plus ?_ | with_reducible refine grew_alloc ?_ | with_reducible refine grew_drew ?_ | (with_reducible refine grew_set ?_ (by first | exact Nat.le_refl _ | omega | (simp [go_sem]; done) | (simp [go_sem]; omega)))))))).mono ?_
  rintro e w1 ⟨⟨r, rfl, hr⟩, g, rfl⟩
  go_wp2_with fail
  refine bodyPost_ret (v := r.val) (by simp [results, Tryd.results24, go_sem, *]) rfl ?_
  exact ⟨⟨r, rfl, hr⟩, by (repeat (first | with_reducible exact grew_refl _ | with_reducible assumption | with_reducible refine grew_split ?_ | with_reducible refine grew_mk ?_ | with_reducible refine grew_plus ?_ | with_reducible refine grew_alloc ?_ | with_reducible refine grew_drew ?_ | (with_reducible refine grew_set ?_ (by first | exact Nat.le_refl _ | omega | (simp [go_sem]; done) | (simp [go_sem]; omega)))))⟩
end Go.Proofs.YteogidghoohgaaaDoor
