/- The package's orders of areas: its closures, the library's stable sort of a short list. -/
import Derived.Test.YteogidghoohgaaaDoorAs
import Derived.Test.YteogidghoohgaaaDoorAl
import Derived.Test.YteogidghoohgaaaDoorA3
import Derived.Test.YteogidghoohgaaaDoorMs
import Derived.BigRegion
import Derived.Deep.DrawnRows
import Derived.Deep.DeepCutAuto
import Derived.Deep.RegionHeld3
namespace Go.Proofs.YteogidghoohgaaaDoor
open Go.RowKit

attribute [local go_sem ↓] Go.wp_at_zero Go.wp_at_succ
def cmpI (a b : Int) : Int := if a < b then -1 else if a > b then 1 else 0
def noV (_ _ : AreaR) : Int := 0
def shV (x y : AreaR) : Int := cmpI (x.least - x.spread) (y.least - y.spread)
def orV (a b : Int) : Int := if a = 0 then b else a
theorem orV_0 {a b : Int} (h : a = 0) : orV a b = b := by simp [orV, h]
theorem orV_1 {a b : Int} (h : a ≠ 0) : orV a b = a := by simp [orV, h]
def woV (x y : AreaR) : Int := if cmpI (shareR x) (shareR y) = 0 then cmpI y.spread x.spread else cmpI (shareR x) (shareR y)
theorem cmpI_neg (a b : Int) : (cmpI a b < 0) ↔ a < b := by
  unfold cmpI
  by_cases h : a < b
  · rw [if_pos h]; exact ⟨fun _ => h, fun _ => by decide⟩
  · rw [if_neg h]
    by_cases h2 : a > b
    · rw [if_pos h2]; exact ⟨fun h => absurd h (by decide), fun h3 => absurd h3 h⟩
    · rw [if_neg h2]; exact ⟨fun h => absurd h (by decide), fun h3 => absurd h3 h⟩
theorem cmpI_zero (a b : Int) : (cmpI a b = 0) ↔ a = b := by
  unfold cmpI
  by_cases h : a < b
  · rw [if_pos h]; exact ⟨fun h => absurd h (by decide), fun h3 => by omega⟩
  · rw [if_neg h]
    by_cases h2 : a > b
    · rw [if_pos h2]; exact ⟨fun h => absurd h (by decide), fun h3 => by omega⟩
    · rw [if_neg h2]; exact ⟨fun _ => by omega, fun _ => rfl⟩
theorem noV_gt (x y : AreaR) : decide (noV x y < 0) = gtNo y x := by simp [noV, gtNo]
theorem shV_gt (x y : AreaR) : decide (shV x y < 0) = gtSh y x := by
  rw [Bool.eq_iff_iff, decide_eq_true_eq, shV, cmpI_neg, gtSh, decide_eq_true_eq]
theorem woV_gt (x y : AreaR) : decide (woV x y < 0) = gtWo y x := by
  rw [Bool.eq_iff_iff, decide_eq_true_eq, gtWo, Bool.or_eq_true, Bool.and_eq_true, decide_eq_true_eq, decide_eq_true_eq, decide_eq_true_eq, woV]
  by_cases h : shareR x = shareR y
  · rw [if_pos ((cmpI_zero _ _).2 h), cmpI_neg]; omega
  · rw [if_neg (fun e => h ((cmpI_zero _ _).1 e)), cmpI_neg]; omega
theorem shareR_bounds {r : AreaR} (h : r.ok = true) : 0 ≤ shareR r ∧ shareR r ≤ 1000 := by
  obtain ⟨a1, a2, a3, a4, _⟩ := AreaR.bounds h
  unfold shareR
  refine ⟨Int.ediv_nonneg (by omega) (by omega), ?_⟩
  have h2 : 1000 * r.cov / r.cells ≤ 1000 * r.cells / r.cells := Int.ediv_le_ediv (by omega) (by omega)
  rw [Int.mul_ediv_cancel _ (by omega)] at h2
  exact h2
theorem c_isNaN (a : Int) (w : World) : Calls Tryd.prog 62 #[.int .i64 a] w fun e w' => e = .returned (.bool false) ∧ w = w' := by
  have h : (a != a) = false := by simp
  go_enter Tryd.func62, Tryd.ntmps62
  go_wp2
  go_ret
  exact ⟨rfl, rfl⟩
theorem c_Compare (a b : Int) (w : World) : Calls Tryd.prog 43 #[.int .i64 a, .int .i64 b] w fun e w' => e = .returned (.int .i64 (cmpI a b)) ∧ w = w' := by
  go_enter Tryd.func43, Tryd.ntmps43
  go_wp2_with (go_at_call 62; refine (c_isNaN _ _).mono ?_; (rintro e w' ⟨rfl, rfl⟩))
  all_goals
    go_ret
    refine ⟨ret_int ?_, rfl⟩
    unfold cmpI
    grind
set_option maxHeartbeats 400000 in
theorem i_isDone (r : AreaR) (w : World) : Calls Tryd.prog 40 #[r.val] w fun e w' => e = .returned (.bool (doneR r)) ∧ ∃ g, w' = plus w g := by
  go_enter Tryd.func40, Tryd.ntmps40
  go_wp2
  all_goals
    go_ret
    refine ⟨ret_bool ?_, by (repeat (first | with_reducible exact grew_refl _ | with_reducible assumption | with_reducible refine grew_split ?_ | with_reducible refine grew_mk ?_ | with_reducible refine grew_plus ?_ | with_reducible refine grew_alloc ?_ | with_reducible refine grew_drew ?_ | (with_reducible refine grew_set ?_ (by first | exact Nat.le_refl _ | omega | (simp [go_sem]; done) | (simp [go_sem]; omega)))))⟩
    simp only [doneR]
    grind
set_option maxHeartbeats 400000 in
theorem i_shareQ (r : AreaR) (w : World) (h : r.ok = true) : Calls Tryd.prog 44 #[r.val] w fun e w' => e = .returned (.int .i64 (shareR r)) ∧ ∃ g, w' = plus w g := by
  obtain ⟨a1, a2, a3, a4, _⟩ := AreaR.bounds h
  have h0 : 0 ≤ 1000 * r.cov := by omega
  have h1 : 1000 * r.cov ≤ 9999000 := by omega
  go_enter Tryd.func44, Tryd.ntmps44
  go_wp2
  go_ret
  exact ⟨rfl, by (repeat (first | with_reducible exact grew_refl _ | with_reducible assumption | with_reducible refine grew_split ?_ | with_reducible refine grew_mk ?_ | with_reducible refine grew_plus ?_ | with_reducible refine grew_alloc ?_ | with_reducible refine grew_drew ?_ | (with_reducible refine grew_set ?_ (by first | exact Nat.le_refl _ | omega | (simp [go_sem]; done) | (simp [go_sem]; omega)))))⟩
set_option maxHeartbeats 400000 in
theorem i_Done1 (x y : AreaR) (w : World) (_hx : x.ok = true) (_hy : y.ok = true) : Calls Tryd.prog 46 #[x.val, y.val] w fun e w' => e = .returned (.int .i64 (noV x y)) ∧ ∃ g, w' = plus w g := by
  go_enter Tryd.func46, Tryd.ntmps46
  go_wp2
  go_ret
  exact ⟨rfl, by (repeat (first | with_reducible exact grew_refl _ | with_reducible assumption | with_reducible refine grew_split ?_ | with_reducible refine grew_mk ?_ | with_reducible refine grew_plus ?_ | with_reducible refine grew_alloc ?_ | with_reducible refine grew_drew ?_ | (with_reducible refine grew_set ?_ (by first | exact Nat.le_refl _ | omega | (simp [go_sem]; done) | (simp [go_sem]; omega)))))⟩
set_option maxHeartbeats 400000 in
theorem i_Work1 (r : AreaR) (w : World) : Calls Tryd.prog 39 #[r.val] w fun e w' => e = .returned (.bool (undone r)) ∧ ∃ g, w' = plus w g := by
  go_enter Tryd.func39, Tryd.ntmps39
  go_wp2_with (go_at_call 40; refine (i_isDone r _).mono ?_; (rintro e w' ⟨rfl, gx, rfl⟩))
  go_ret
  exact ⟨rfl, by (repeat (first | with_reducible exact grew_refl _ | with_reducible assumption | with_reducible refine grew_split ?_ | with_reducible refine grew_mk ?_ | with_reducible refine grew_plus ?_ | with_reducible refine grew_alloc ?_ | with_reducible refine grew_drew ?_ | (with_reducible refine grew_set ?_ (by first | exact Nat.le_refl _ | omega | (simp [go_sem]; done) | (simp [go_sem]; omega)))))⟩
set_option maxHeartbeats 1000000 in
theorem c_Or (a b : Int) (b0 c : Nat) (w : World) (hb : b0 < w.heap.size) (h0 : w.cell? ⟨b0, 0, none⟩ = some (.int .i64 a)) (h1 : w.cell? ⟨b0, 1, none⟩ = some (.int .i64 b)) :
    Calls Tryd.prog 42 #[.slice (some ⟨b0, 0, none⟩) 2 c] w fun e w' => e = .returned (.int .i64 (orV a b)) ∧ ∃ g, w' = plus w g := by
  have HH := hid (And.intro h0 h1)
  clear h0 h1
  go_enter Tryd.func42, Tryd.ntmps42
  go_wp2_with fail
  go_loopw [8, 5] (fun i _ wr => ∃ k : Nat, k ≤ 2 ∧ i = .int .i64 k ∧ (0 < k → a = 0) ∧ (1 < k → b = 0) ∧ (∃ g, wr = plus w g)) (fun i _ _ => 2 - (intOf i).toNat)
  case atStart => exact ⟨0, by omega, rfl, by omega, by omega, _, plus_refl _⟩
  case round =>
    obtain ⟨k, hk, rfl, ha, hb2, g, rfl⟩ := hrel
    obtain ⟨h0, h1⟩ := HH.out
    have HA := hid ha
    have HB := hid hb2
    clear ha hb2
    rcases (show k = 0 ∨ k = 1 ∨ k = 2 by omega) with rfl | rfl | rfl
    · by_cases hz : a = 0
      · have hz' : (a != 0) = false := by simp [hz]
        have HZ := hid hz
        clear hz
        go_wp2
        go_roundw
        case rel => exact ⟨1, by omega, by go_num, fun _ => HZ.out, by omega, by (repeat (first | with_reducible exact grew_refl _ | with_reducible assumption | with_reducible refine grew_split ?_ | with_reducible refine grew_mk ?_ | with_reducible refine grew_plus ?_ | with_reducible refine grew_alloc ?_ | with_reducible refine grew_drew ?_ | (with_reducible refine grew_set ?_ (by first | exact Nat.le_refl _ | omega | (simp [go_sem]; done) | (simp [go_sem]; omega)))))⟩
        case measure => simp [intOf]
      · have hz' : (a != 0) = true := by simp [hz]
        have HZ := hid hz
        clear hz
        go_wp2
        go_ret
        exact ⟨ret_int (orV_1 HZ.out).symm, by (repeat (first | with_reducible exact grew_refl _ | with_reducible assumption | with_reducible refine grew_split ?_ | with_reducible refine grew_mk ?_ | with_reducible refine grew_plus ?_ | with_reducible refine grew_alloc ?_ | with_reducible refine grew_drew ?_ | (with_reducible refine grew_set ?_ (by first | exact Nat.le_refl _ | omega | (simp [go_sem]; done) | (simp [go_sem]; omega)))))⟩
    · by_cases hz : b = 0
      · have hz' : (b != 0) = false := by simp [hz]
        have HZ := hid hz
        clear hz
        go_wp2
        go_roundw
        case rel => exact ⟨2, by omega, by go_num, fun _ => HA.out (by omega), fun _ => HZ.out, by (repeat (first | with_reducible exact grew_refl _ | with_reducible assumption | with_reducible refine grew_split ?_ | with_reducible refine grew_mk ?_ | with_reducible refine grew_plus ?_ | with_reducible refine grew_alloc ?_ | with_reducible refine grew_drew ?_ | (with_reducible refine grew_set ?_ (by first | exact Nat.le_refl _ | omega | (simp [go_sem]; done) | (simp [go_sem]; omega)))))⟩
        case measure => simp [intOf]
      · have hz' : (b != 0) = true := by simp [hz]
        have HZ := hid hz
        clear hz
        go_wp2
        go_ret
        exact ⟨ret_int (orV_0 (HA.out (by omega))).symm, by (repeat (first | with_reducible exact grew_refl _ | with_reducible assumption | with_reducible refine grew_split ?_ | with_reducible refine grew_mk ?_ | with_reducible refine grew_plus ?_ | with_reducible refine grew_alloc ?_ | with_reducible refine grew_drew ?_ | (with_reducible refine grew_set ?_ (by first | exact Nat.le_refl _ | omega | (simp [go_sem]; done) | (simp [go_sem]; omega)))))⟩
    · go_wp2
      go_ret
      exact ⟨ret_int (by rw [orV_0 (HA.out (by omega)), HB.out (by omega)]), by (repeat (first | with_reducible exact grew_refl _ | with_reducible assumption | with_reducible refine grew_split ?_ | with_reducible refine grew_mk ?_ | with_reducible refine grew_plus ?_ | with_reducible refine grew_alloc ?_ | with_reducible refine grew_drew ?_ | (with_reducible refine grew_set ?_ (by first | exact Nat.le_refl _ | omega | (simp [go_sem]; done) | (simp [go_sem]; omega)))))⟩
set_option maxHeartbeats 2000000 in
set_option maxRecDepth 100000 in
theorem i_Work2 (x y : AreaR) (w : World) (hx : x.ok = true) (hy : y.ok = true) : Calls Tryd.prog 41 #[x.val, y.val] w fun e w' => e = .returned (.int .i64 (woV x y)) ∧ ∃ g, w' = plus w g := by
  obtain ⟨s0, s1⟩ := shareR_bounds hx
  obtain ⟨r0, r1⟩ := shareR_bounds hy
  obtain ⟨_, _, _, _, _, _, a7, a8, _⟩ := AreaR.bounds hx
  obtain ⟨_, _, _, _, _, _, b7, b8, _⟩ := AreaR.bounds hy
  have HX := hid hx
  have HY := hid hy
  clear hx hy
  go_enter Tryd.func41, Tryd.ntmps41
  go_wp2_with fail
  generalize hb1 : w.heap.size = b1
  refine opq_wp (fun W => Blk W b1 40 #[.string (x).nm, .int .i64 (x).cells, .int .i64 (x).cov, .int .i64 (x).least, .int .i64 (x).spread, .int .i64 (x).minutes] ∧ Blk W (b1 + 1) 40 #[.string (y).nm, .int .i64 (y).cells, .int .i64 (y).cov, .int .i64 (y).least, .int .i64 (y).spread, .int .i64 (y).minutes] ∧ ∃ g, W = plus w g) ⟨(blk_new hb1.symm).alloc _, blk_new (by subst hb1; simp), by (repeat (first | with_reducible exact grew_refl _ | with_reducible assumption | with_reducible refine grew_split ?_ | with_reducible refine grew_mk ?_ | with_reducible refine grew_plus ?_ | with_reducible refine grew_alloc ?_ | with_reducible refine grew_drew ?_ | (with_reducible refine grew_set ?_ (by first | exact Nat.le_refl _ | omega | (simp [go_sem]; done) | (simp [go_sem]; omega)))))⟩ ?_
  rintro wr ⟨hB1, hB2, hg⟩
  have hl1 := hB1.lt
  have hl2 := hB2.lt
  (have hc0 := hB1.cell 0; have hc1 := hB1.cell 1; have hc2 := hB1.cell 2; have hc3 := hB1.cell 3; have hc4 := hB1.cell 4; have hc5 := hB1.cell 5; simp [go_sem] at hc0 hc1 hc2 hc3 hc4 hc5)
  (have hd0 := hB2.cell 0; have hd1 := hB2.cell 1; have hd2 := hB2.cell 2; have hd3 := hB2.cell 3; have hd4 := hB2.cell 4; have hd5 := hB2.cell 5; simp [go_sem] at hd0 hd1 hd2 hd3 hd4 hd5)
  have HG := hid hg
  clear hB1 hB2 hg
  have KEEP : Hid (∀ W : World, (∃ g, W = plus wr g) → ((fun w' => w'.cell? ⟨b1, 0, none⟩ = some (.string x.nm) ∧ w'.cell? ⟨b1, 1, none⟩ = some (.int .i64 x.cells) ∧ w'.cell? ⟨b1, 2, none⟩ = some (.int .i64 x.cov) ∧ w'.cell? ⟨b1, 3, none⟩ = some (.int .i64 x.least) ∧ w'.cell? ⟨b1, 4, none⟩ = some (.int .i64 x.spread) ∧ w'.cell? ⟨b1, 5, none⟩ = some (.int .i64 x.minutes) ∧ w'.cell? ⟨b1 + 1, 0, none⟩ = some (.string y.nm) ∧ w'.cell? ⟨b1 + 1, 1, none⟩ = some (.int .i64 y.cells) ∧ w'.cell? ⟨b1 + 1, 2, none⟩ = some (.int .i64 y.cov) ∧ w'.cell? ⟨b1 + 1, 3, none⟩ = some (.int .i64 y.least) ∧ w'.cell? ⟨b1 + 1, 4, none⟩ = some (.int .i64 y.spread) ∧ w'.cell? ⟨b1 + 1, 5, none⟩ = some (.int .i64 y.minutes))) W) := hid (by
    rintro W ⟨g, rfl⟩
    simp only [cell?_plus _ _ hl1, cell?_plus _ _ hl2, hc0, hc1, hc2, hc3, hc4, hc5, hd0, hd1, hd2, hd3, hd4, hd5, and_self])
  go_region_held3 (fun w' => w'.cell? ⟨b1, 0, none⟩ = some (.string x.nm) ∧ w'.cell? ⟨b1, 1, none⟩ = some (.int .i64 x.cells) ∧ w'.cell? ⟨b1, 2, none⟩ = some (.int .i64 x.cov) ∧ w'.cell? ⟨b1, 3, none⟩ = some (.int .i64 x.least) ∧ w'.cell? ⟨b1, 4, none⟩ = some (.int .i64 x.spread) ∧ w'.cell? ⟨b1, 5, none⟩ = some (.int .i64 x.minutes) ∧ w'.cell? ⟨b1 + 1, 0, none⟩ = some (.string y.nm) ∧ w'.cell? ⟨b1 + 1, 1, none⟩ = some (.int .i64 y.cells) ∧ w'.cell? ⟨b1 + 1, 2, none⟩ = some (.int .i64 y.cov) ∧ w'.cell? ⟨b1 + 1, 3, none⟩ = some (.int .i64 y.least) ∧ w'.cell? ⟨b1 + 1, 4, none⟩ = some (.int .i64 y.spread) ∧ w'.cell? ⟨b1 + 1, 5, none⟩ = some (.int .i64 y.minutes)) (exact KEEP.out _ (by (repeat (first | with_reducible exact grew_refl _ | with_reducible assumption | with_reducible refine grew_split ?_ | with_reducible refine grew_mk ?_ | with_reducible refine grew_plus ?_ | with_reducible refine grew_alloc ?_ | with_reducible refine grew_drew ?_ | (with_reducible refine grew_set ?_ (by first | exact Nat.le_refl _ | omega | (simp [go_sem]; done) | (simp [go_sem]; omega))))))) (first
    | (go_at_call 44; (first | (refine (i_shareQ x _ HX.out).mono ?_) | (refine (i_shareQ y _ HY.out).mono ?_)); (rintro e w' ⟨rfl, gx, rfl⟩))
    | (go_at_call 43; refine (c_Compare _ _ _).mono ?_; (rintro e w' ⟨rfl, rfl⟩))
    | (go_at_call 42; refine (c_Or (cmpI (shareR x) (shareR y)) (cmpI y.spread x.spread) _ _ _ (by first | (simp [go_sem]; done) | (simp [go_sem]; omega) | (simp [go_sem, Ext.add]; done) | (simp [go_sem, Ext.add]; omega) | omega) (by simp [go_sem]; done) (by simp [go_sem]; done)).mono ?_; (rintro e w' ⟨rfl, gx, rfl⟩)))
  all_goals
    go_wp2_with fail
    go_ret
    have hg := HG.out
    exact ⟨rfl, by (repeat (first | with_reducible exact grew_refl _ | with_reducible assumption | with_reducible refine grew_split ?_ | with_reducible refine grew_mk ?_ | with_reducible refine grew_plus ?_ | with_reducible refine grew_alloc ?_ | with_reducible refine grew_drew ?_ | (with_reducible refine grew_set ?_ (by first | exact Nat.le_refl _ | omega | (simp [go_sem]; done) | (simp [go_sem]; omega)))))⟩
end Go.Proofs.YteogidghoohgaaaDoor
