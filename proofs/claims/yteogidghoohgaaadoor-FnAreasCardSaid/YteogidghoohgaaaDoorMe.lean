/- Merging two areas, in the program. -/
import Derived.Test.YteogidghoohgaaaDoorMd
import Derived.Deep.RegionHeld3
import Derived.Deep.DrawnRows
import Derived.Deep.DeepCutAuto
import Derived.Deep.CutBlock
import Derived.BigRegion
namespace Go.Proofs.YteogidghoohgaaaDoor
open Go.RowKit

attribute [local go_sem ↓] Go.wp_at_zero Go.wp_at_succ
theorem bset34 {W : World} {g : Nat} {T : TypeId} {a0 a1 a2 a3 a4 a5 u v : Value} (h : Blk W g T #[a0, a1, a2, a3, a4, a5]) : Blk ((W.setCell ⟨g, 3, none⟩ u).setCell ⟨g, 4, none⟩ v) g T #[a0, a1, a2, u, v, a5] := (h.set_ 3 u).set_ 4 v
theorem bset43 {W : World} {g : Nat} {T : TypeId} {a0 a1 a2 a3 a4 a5 u v : Value} (h : Blk W g T #[a0, a1, a2, a3, a4, a5]) : Blk ((W.setCell ⟨g, 4, none⟩ v).setCell ⟨g, 3, none⟩ u) g T #[a0, a1, a2, u, v, a5] := (h.set_ 4 v).set_ 3 u
theorem bset125 {W : World} {g : Nat} {T : TypeId} {a0 a1 a2 a3 a4 a5 u v s : Value} (h : Blk W g T #[a0, a1, a2, a3, a4, a5]) : Blk (((W.setCell ⟨g, 1, none⟩ u).setCell ⟨g, 2, none⟩ v).setCell ⟨g, 5, none⟩ s) g T #[a0, u, v, a3, a4, s] := ((h.set_ 1 u).set_ 2 v).set_ 5 s
set_option maxHeartbeats 4000000 in
set_option maxRecDepth 100000 in
theorem i_MergeAreas (l : List AreaR) (A : Option Addr) (c : Nat) (a b : ByteArray) (w : World) (hA : Sl w 6 AreaR.row A l) (hs : ∀ r ∈ l, r.nm.size ≤ maxLen) (hl : l.length ≤ maxLen) :
    Calls Tryd.prog 20 #[.slice A l.length c, .string a, .string b] w fun e w' => MergePost w.heap.size (mergeF l a b) e w' ∧ ∃ g, w' = plus w g := by
  have HA := hid hA
  have HS := hid hs
  clear hA hs
  cases hg : areasB l
  · rw [mergeF_bad hg]
    have HGD := hid hg
    obtain ⟨x, hx⟩ : ∃ x, findI l a = x := ⟨_, rfl⟩
    obtain ⟨y, hy⟩ : ∃ y, findI l b = y := ⟨_, rfl⟩
    have HFA := hid hx
    have HFB := hid hy
    clear hx hy hg
    go_enter Tryd.func20, Tryd.ntmps20
    go_wp2_with fail
    (refine (i_areaIndex l _ _ a _ (HA.out.grew (by (repeat (first | with_reducible exact grew_refl _ | with_reducible assumption | with_reducible refine grew_split ?_ | with_reducible refine grew_mk ?_ | with_reducible refine grew_plus ?_ | with_reducible refine grew_alloc ?_ | with_reducible refine grew_drew ?_ | (with_reducible refine grew_set ?_ (by first | exact Nat.le_refl _ | omega | (simp [go_sem]; done) | (simp [go_sem]; omega))))))) hl).mono ?_; rw [HFA.out]; (rintro e w' ⟨rfl, gx, rfl⟩); go_wp2_with fail)
    (refine (i_areaIndex l _ _ b _ (HA.out.grew (by (repeat (first | with_reducible exact grew_refl _ | with_reducible assumption | with_reducible refine grew_split ?_ | with_reducible refine grew_mk ?_ | with_reducible refine grew_plus ?_ | with_reducible refine grew_alloc ?_ | with_reducible refine grew_drew ?_ | (with_reducible refine grew_set ?_ (by first | exact Nat.le_refl _ | omega | (simp [go_sem]; done) | (simp [go_sem]; omega))))))) hl).mono ?_; rw [HFB.out]; (rintro e w' ⟨rfl, gx, rfl⟩); go_wp2_with fail)
    (refine (i_AreAreaRows l _ _ _ HGD.out _ (HA.out.grew (by (repeat (first | with_reducible exact grew_refl _ | with_reducible assumption | with_reducible refine grew_split ?_ | with_reducible refine grew_mk ?_ | with_reducible refine grew_plus ?_ | with_reducible refine grew_alloc ?_ | with_reducible refine grew_drew ?_ | (with_reducible refine grew_set ?_ (by first | exact Nat.le_refl _ | omega | (simp [go_sem]; done) | (simp [go_sem]; omega))))))) HS.out hl).mono ?_; (rintro e w' ⟨rfl, gx, rfl⟩); go_wp2_with fail)
    go_ret2
    exact ⟨MergePost.no, by (repeat (first | with_reducible exact grew_refl _ | with_reducible assumption | with_reducible refine grew_split ?_ | with_reducible refine grew_mk ?_ | with_reducible refine grew_plus ?_ | with_reducible refine grew_alloc ?_ | with_reducible refine grew_drew ?_ | (with_reducible refine grew_set ?_ (by first | exact Nat.le_refl _ | omega | (simp [go_sem]; done) | (simp [go_sem]; omega)))))⟩
  have HGD := hid hg
  by_cases hno : findI l a < 0 ∨ findI l b < 0 ∨ findI l a = findI l b
  · rw [mergeF_no hno]
    obtain ⟨x, hx⟩ : ∃ x, findI l a = x := ⟨_, rfl⟩
    obtain ⟨y, hy⟩ : ∃ y, findI l b = y := ⟨_, rfl⟩
    rw [hx, hy] at hno
    have HFA := hid hx
    have HFB := hid hy
    clear hx hy hg
    by_cases hx0 : x < 0
    · clear hno
      go_enter Tryd.func20, Tryd.ntmps20
      go_wp2_with fail
      (refine (i_areaIndex l _ _ a _ (HA.out.grew (by (repeat (first | with_reducible exact grew_refl _ | with_reducible assumption | with_reducible refine grew_split ?_ | with_reducible refine grew_mk ?_ | with_reducible refine grew_plus ?_ | with_reducible refine grew_alloc ?_ | with_reducible refine grew_drew ?_ | (with_reducible refine grew_set ?_ (by first | exact Nat.le_refl _ | omega | (simp [go_sem]; done) | (simp [go_sem]; omega))))))) hl).mono ?_; rw [HFA.out]; (rintro e w' ⟨rfl, gx, rfl⟩); go_wp2_with fail)
      (refine (i_areaIndex l _ _ b _ (HA.out.grew (by (repeat (first | with_reducible exact grew_refl _ | with_reducible assumption | with_reducible refine grew_split ?_ | with_reducible refine grew_mk ?_ | with_reducible refine grew_plus ?_ | with_reducible refine grew_alloc ?_ | with_reducible refine grew_drew ?_ | (with_reducible refine grew_set ?_ (by first | exact Nat.le_refl _ | omega | (simp [go_sem]; done) | (simp [go_sem]; omega))))))) hl).mono ?_; rw [HFB.out]; (rintro e w' ⟨rfl, gx, rfl⟩); go_wp2_with fail)
      (refine (i_AreAreaRows l _ _ _ HGD.out _ (HA.out.grew (by (repeat (first | with_reducible exact grew_refl _ | with_reducible assumption | with_reducible refine grew_split ?_ | with_reducible refine grew_mk ?_ | with_reducible refine grew_plus ?_ | with_reducible refine grew_alloc ?_ | with_reducible refine grew_drew ?_ | (with_reducible refine grew_set ?_ (by first | exact Nat.le_refl _ | omega | (simp [go_sem]; done) | (simp [go_sem]; omega))))))) HS.out hl).mono ?_; (rintro e w' ⟨rfl, gx, rfl⟩); go_wp2_with fail)
      go_ret2
      exact ⟨MergePost.no, by (repeat (first | with_reducible exact grew_refl _ | with_reducible assumption | with_reducible refine grew_split ?_ | with_reducible refine grew_mk ?_ | with_reducible refine grew_plus ?_ | with_reducible refine grew_alloc ?_ | with_reducible refine grew_drew ?_ | (with_reducible refine grew_set ?_ (by first | exact Nat.le_refl _ | omega | (simp [go_sem]; done) | (simp [go_sem]; omega)))))⟩
    · by_cases hy0 : y < 0
      · clear hno
        go_enter Tryd.func20, Tryd.ntmps20
        go_wp2_with fail
        (refine (i_areaIndex l _ _ a _ (HA.out.grew (by (repeat (first | with_reducible exact grew_refl _ | with_reducible assumption | with_reducible refine grew_split ?_ | with_reducible refine grew_mk ?_ | with_reducible refine grew_plus ?_ | with_reducible refine grew_alloc ?_ | with_reducible refine grew_drew ?_ | (with_reducible refine grew_set ?_ (by first | exact Nat.le_refl _ | omega | (simp [go_sem]; done) | (simp [go_sem]; omega))))))) hl).mono ?_; rw [HFA.out]; (rintro e w' ⟨rfl, gx, rfl⟩); go_wp2_with fail)
        (refine (i_areaIndex l _ _ b _ (HA.out.grew (by (repeat (first | with_reducible exact grew_refl _ | with_reducible assumption | with_reducible refine grew_split ?_ | with_reducible refine grew_mk ?_ | with_reducible refine grew_plus ?_ | with_reducible refine grew_alloc ?_ | with_reducible refine grew_drew ?_ | (with_reducible refine grew_set ?_ (by first | exact Nat.le_refl _ | omega | (simp [go_sem]; done) | (simp [go_sem]; omega))))))) hl).mono ?_; rw [HFB.out]; (rintro e w' ⟨rfl, gx, rfl⟩); go_wp2_with fail)
        (refine (i_AreAreaRows l _ _ _ HGD.out _ (HA.out.grew (by (repeat (first | with_reducible exact grew_refl _ | with_reducible assumption | with_reducible refine grew_split ?_ | with_reducible refine grew_mk ?_ | with_reducible refine grew_plus ?_ | with_reducible refine grew_alloc ?_ | with_reducible refine grew_drew ?_ | (with_reducible refine grew_set ?_ (by first | exact Nat.le_refl _ | omega | (simp [go_sem]; done) | (simp [go_sem]; omega))))))) HS.out hl).mono ?_; (rintro e w' ⟨rfl, gx, rfl⟩); go_wp2_with fail)
        go_ret2
        exact ⟨MergePost.no, by (repeat (first | with_reducible exact grew_refl _ | with_reducible assumption | with_reducible refine grew_split ?_ | with_reducible refine grew_mk ?_ | with_reducible refine grew_plus ?_ | with_reducible refine grew_alloc ?_ | with_reducible refine grew_drew ?_ | (with_reducible refine grew_set ?_ (by first | exact Nat.le_refl _ | omega | (simp [go_sem]; done) | (simp [go_sem]; omega)))))⟩
      · obtain rfl : x = y := by omega
        clear hno
        go_enter Tryd.func20, Tryd.ntmps20
        go_wp2_with fail
        (refine (i_areaIndex l _ _ a _ (HA.out.grew (by (repeat (first | with_reducible exact grew_refl _ | with_reducible assumption | with_reducible refine grew_split ?_ | with_reducible refine grew_mk ?_ | with_reducible refine grew_plus ?_ | with_reducible refine grew_alloc ?_ | with_reducible refine grew_drew ?_ | (with_reducible refine grew_set ?_ (by first | exact Nat.le_refl _ | omega | (simp [go_sem]; done) | (simp [go_sem]; omega))))))) hl).mono ?_; rw [HFA.out]; (rintro e w' ⟨rfl, gx, rfl⟩); go_wp2_with fail)
        (refine (i_areaIndex l _ _ b _ (HA.out.grew (by (repeat (first | with_reducible exact grew_refl _ | with_reducible assumption | with_reducible refine grew_split ?_ | with_reducible refine grew_mk ?_ | with_reducible refine grew_plus ?_ | with_reducible refine grew_alloc ?_ | with_reducible refine grew_drew ?_ | (with_reducible refine grew_set ?_ (by first | exact Nat.le_refl _ | omega | (simp [go_sem]; done) | (simp [go_sem]; omega))))))) hl).mono ?_; rw [HFB.out]; (rintro e w' ⟨rfl, gx, rfl⟩); go_wp2_with fail)
        (refine (i_AreAreaRows l _ _ _ HGD.out _ (HA.out.grew (by (repeat (first | with_reducible exact grew_refl _ | with_reducible assumption | with_reducible refine grew_split ?_ | with_reducible refine grew_mk ?_ | with_reducible refine grew_plus ?_ | with_reducible refine grew_alloc ?_ | with_reducible refine grew_drew ?_ | (with_reducible refine grew_set ?_ (by first | exact Nat.le_refl _ | omega | (simp [go_sem]; done) | (simp [go_sem]; omega))))))) HS.out hl).mono ?_; (rintro e w' ⟨rfl, gx, rfl⟩); go_wp2_with fail)
        go_ret2
        exact ⟨MergePost.no, by (repeat (first | with_reducible exact grew_refl _ | with_reducible assumption | with_reducible refine grew_split ?_ | with_reducible refine grew_mk ?_ | with_reducible refine grew_plus ?_ | with_reducible refine grew_alloc ?_ | with_reducible refine grew_drew ?_ | (with_reducible refine grew_set ?_ (by first | exact Nat.le_refl _ | omega | (simp [go_sem]; done) | (simp [go_sem]; omega)))))⟩
  · rcases findI_cases (l := l) (s := a) with hfa | ⟨i, hi, hfa⟩
    · omega
    rcases findI_cases (l := l) (s := b) with hfb | ⟨k, hk, hfb⟩
    · omega
    have hne : i ≠ k := by
      intro e; subst e
      rw [hfa, hfb] at hno; omega
    have hl10 := areasB_len hg
    have HFA := hid hfa
    have HFB := hid hfb
    have hF := mergeF_go hg hfa hfb hi hk hne
    have HF := hid hF
    have hoi := areasB_ok hg hi
    have hok := areasB_ok hg hk
    obtain ⟨b0, off, rfl, hb0, hc⟩ := HA.out.at_ hi
    obtain ⟨hc0, hc1, hc2, hc3, hc4, hc5⟩ := AreaR.cells6 hc hi
    obtain ⟨hd0, hd1, hd2, hd3, hd4, hd5⟩ := AreaR.cells6 hc hk
    have hxn : (bothR l[i] l[k]).nm.size ≤ maxLen := (show l[i].nm.size ≤ maxLen from HS.out _ (List.getElem_mem hi))
    generalize hx : l[i] = x at hF hoi hc0 hc1 hc2 hc3 hc4 hc5 hxn
    generalize hy : l[k] = y at hF hok hd0 hd1 hd2 hd3 hd4 hd5 hxn
    obtain ⟨a1, a2, a3, a4, a5, a6, a7, a8, a9, a10, a11, _⟩ := AreaR.bounds hoi
    obtain ⟨b1, b2, b3, b4, b5, b6, b7, b8, b9, b10, b11, _⟩ := AreaR.bounds hok
    have hii : ¬ (i : Int) < 0 := by omega
    have hkk : ¬ (k : Int) < 0 := by omega
    have hil : (i : Int) < (l.length : Int) := by omega
    have hkl : (k : Int) < (l.length : Int) := by omega
    have hi0 : (0 : Int) ≤ (i : Int) := by omega
    have hk0 : (0 : Int) ≤ (k : Int) := by omega
    have hik : ((i : Int) == (k : Int)) = false := by simp; omega
    have HNE := hid hne
    have HX := hid hx
    have HY := hid hy
    have A11 := hid a11
    have B11 := hid b11
    clear a11 b11
    clear hno hfa hfb hF hne hg hc hoi hok hx hy
    have KEEP : Hid (∀ W : World, (∃ g, W = plus w g) → ((fun w' => w'.cell? ⟨b0, off + i * 6, none⟩ = some (.string x.nm) ∧ w'.cell? ⟨b0, off + i * 6 + 1, none⟩ = some (.int .i64 x.cells) ∧ w'.cell? ⟨b0, off + i * 6 + 2, none⟩ = some (.int .i64 x.cov) ∧ w'.cell? ⟨b0, off + i * 6 + 3, none⟩ = some (.int .i64 x.least) ∧ w'.cell? ⟨b0, off + i * 6 + 4, none⟩ = some (.int .i64 x.spread) ∧ w'.cell? ⟨b0, off + i * 6 + 5, none⟩ = some (.int .i64 x.minutes) ∧ w'.cell? ⟨b0, off + k * 6, none⟩ = some (.string y.nm) ∧ w'.cell? ⟨b0, off + k * 6 + 1, none⟩ = some (.int .i64 y.cells) ∧ w'.cell? ⟨b0, off + k * 6 + 2, none⟩ = some (.int .i64 y.cov) ∧ w'.cell? ⟨b0, off + k * 6 + 3, none⟩ = some (.int .i64 y.least) ∧ w'.cell? ⟨b0, off + k * 6 + 4, none⟩ = some (.int .i64 y.spread) ∧ w'.cell? ⟨b0, off + k * 6 + 5, none⟩ = some (.int .i64 y.minutes))) W) := hid (by
      rintro W ⟨g, rfl⟩
      simp only [cell?_plus _ _ hb0, hc0, hc1, hc2, hc3, hc4, hc5, hd0, hd1, hd2, hd3, hd4, hd5, and_self])
    go_enter Tryd.func20, Tryd.ntmps20
    go_wp2_with fail
    (refine (i_areaIndex l _ _ a _ (HA.out.grew (by (repeat (first | with_reducible exact grew_refl _ | with_reducible assumption | with_reducible refine grew_split ?_ | with_reducible refine grew_mk ?_ | with_reducible refine grew_plus ?_ | with_reducible refine grew_alloc ?_ | with_reducible refine grew_drew ?_ | (with_reducible refine grew_set ?_ (by first | exact Nat.le_refl _ | omega | (simp [go_sem]; done) | (simp [go_sem]; omega))))))) hl).mono ?_; rw [HFA.out]; (rintro e w' ⟨rfl, gx, rfl⟩); go_wp2_with fail)
    (refine (i_areaIndex l _ _ b _ (HA.out.grew (by (repeat (first | with_reducible exact grew_refl _ | with_reducible assumption | with_reducible refine grew_split ?_ | with_reducible refine grew_mk ?_ | with_reducible refine grew_plus ?_ | with_reducible refine grew_alloc ?_ | with_reducible refine grew_drew ?_ | (with_reducible refine grew_set ?_ (by first | exact Nat.le_refl _ | omega | (simp [go_sem]; done) | (simp [go_sem]; omega))))))) hl).mono ?_; rw [HFB.out]; (rintro e w' ⟨rfl, gx, rfl⟩); go_wp2_with fail)
    (refine (i_AreAreaRows l _ _ _ HGD.out _ (HA.out.grew (by (repeat (first | with_reducible exact grew_refl _ | with_reducible assumption | with_reducible refine grew_split ?_ | with_reducible refine grew_mk ?_ | with_reducible refine grew_plus ?_ | with_reducible refine grew_alloc ?_ | with_reducible refine grew_drew ?_ | (with_reducible refine grew_set ?_ (by first | exact Nat.le_refl _ | omega | (simp [go_sem]; done) | (simp [go_sem]; omega))))))) HS.out hl).mono ?_; (rintro e w' ⟨rfl, gx, rfl⟩); go_wp2_with fail)
    go_upto_region 4 with fail
    go_cut [10, 11] (fun p q wx => ∃ b1 b2 : Nat, p = .pointer (some ⟨b1, 0, none⟩) ∧ q = .pointer (some ⟨b2, 0, none⟩) ∧ b1 ≠ b2 ∧ w.heap.size ≤ b1 ∧ w.heap.size ≤ b2 ∧ Blk wx b1 40 #[.string (x).nm, .int .i64 (x).cells, .int .i64 (x).cov, .int .i64 (x).least, .int .i64 (x).spread, .int .i64 (x).minutes] ∧ Blk wx b2 40 #[.string (y).nm, .int .i64 (y).cells, .int .i64 (y).cov, .int .i64 (y).least, .int .i64 (y).spread, .int .i64 (y).minutes] ∧ ∃ g, wx = plus w g)
    case first =>
      go_region_held3 (fun w' => w'.cell? ⟨b0, off + i * 6, none⟩ = some (.string x.nm) ∧ w'.cell? ⟨b0, off + i * 6 + 1, none⟩ = some (.int .i64 x.cells) ∧ w'.cell? ⟨b0, off + i * 6 + 2, none⟩ = some (.int .i64 x.cov) ∧ w'.cell? ⟨b0, off + i * 6 + 3, none⟩ = some (.int .i64 x.least) ∧ w'.cell? ⟨b0, off + i * 6 + 4, none⟩ = some (.int .i64 x.spread) ∧ w'.cell? ⟨b0, off + i * 6 + 5, none⟩ = some (.int .i64 x.minutes) ∧ w'.cell? ⟨b0, off + k * 6, none⟩ = some (.string y.nm) ∧ w'.cell? ⟨b0, off + k * 6 + 1, none⟩ = some (.int .i64 y.cells) ∧ w'.cell? ⟨b0, off + k * 6 + 2, none⟩ = some (.int .i64 y.cov) ∧ w'.cell? ⟨b0, off + k * 6 + 3, none⟩ = some (.int .i64 y.least) ∧ w'.cell? ⟨b0, off + k * 6 + 4, none⟩ = some (.int .i64 y.spread) ∧ w'.cell? ⟨b0, off + k * 6 + 5, none⟩ = some (.int .i64 y.minutes)) (exact KEEP.out _ (by (repeat (first | with_reducible exact grew_refl _ | with_reducible assumption | with_reducible refine grew_split ?_ | with_reducible refine grew_mk ?_ | with_reducible refine grew_plus ?_ | with_reducible refine grew_alloc ?_ | with_reducible refine grew_drew ?_ | (with_reducible refine grew_set ?_ (by first | exact Nat.le_refl _ | omega | (simp [go_sem]; done) | (simp [go_sem]; omega))))))) (fail)
      all_goals
        go_wp2_with fail
        go_meet
        exact ⟨_, _, rfl, rfl, by first | (simp [go_sem]; done) | (simp [go_sem]; omega) | (simp [go_sem, Ext.add]; done) | (simp [go_sem, Ext.add]; omega) | omega, by first | (simp [go_sem]; done) | (simp [go_sem]; omega) | (simp [go_sem, Ext.add]; done) | (simp [go_sem, Ext.add]; omega) | omega, by first | (simp [go_sem]; done) | (simp [go_sem]; omega) | (simp [go_sem, Ext.add]; done) | (simp [go_sem, Ext.add]; omega) | omega, by first | exact blk_new (by first | (simp [go_sem]; done) | (simp [go_sem]; omega) | (simp [go_sem, Ext.add]; done) | (simp [go_sem, Ext.add]; omega) | omega) | exact (blk_new (by first | (simp [go_sem]; done) | (simp [go_sem]; omega) | (simp [go_sem, Ext.add]; done) | (simp [go_sem, Ext.add]; omega) | omega)).alloc _, by first | exact blk_new (by first | (simp [go_sem]; done) | (simp [go_sem]; omega) | (simp [go_sem, Ext.add]; done) | (simp [go_sem, Ext.add]; omega) | omega) | exact (blk_new (by first | (simp [go_sem]; done) | (simp [go_sem]; omega) | (simp [go_sem, Ext.add]; done) | (simp [go_sem, Ext.add]; omega) | omega)).alloc _, by (repeat (first | with_reducible exact grew_refl _ | with_reducible assumption | with_reducible refine grew_split ?_ | with_reducible refine grew_mk ?_ | with_reducible refine grew_plus ?_ | with_reducible refine grew_alloc ?_ | with_reducible refine grew_drew ?_ | (with_reducible refine grew_set ?_ (by first | exact Nat.le_refl _ | omega | (simp [go_sem]; done) | (simp [go_sem]; omega)))))⟩
    case rest =>
      obtain ⟨g1, g2, rfl, rfl, hne, hz1, hz2, hB1, hB2, hg⟩ := hcut
      (have hx0 := hB1.cell 0; have hx1 := hB1.cell 1; have hx2 := hB1.cell 2; have hx3 := hB1.cell 3; have hx4 := hB1.cell 4; have hx5 := hB1.cell 5; simp [go_sem] at hx0 hx1 hx2 hx3 hx4 hx5)
      (have hy0 := hB2.cell 0; have hy1 := hB2.cell 1; have hy2 := hB2.cell 2; have hy3 := hB2.cell 3; have hy4 := hB2.cell 4; have hy5 := hB2.cell 5; simp [go_sem] at hy0 hy1 hy2 hy3 hy4 hy5)
      (have fx0 := hB1.frozen 0; have fx1 := hB1.frozen 1; have fx2 := hB1.frozen 2; have fx3 := hB1.frozen 3; have fx4 := hB1.frozen 4; have fx5 := hB1.frozen 5)
      have hl1 := hB1.lt
      have hl2 := hB2.lt
      have HB1 := hid hB1
      have HB2 := hid hB2
      have HG := hid hg
      clear hB1 hB2 hg
      obtain ⟨zl, hzl⟩ : ∃ zl, (bothR x y).least = zl := ⟨_, rfl⟩
      obtain ⟨zs, hzs⟩ : ∃ zs, (bothR x y).spread = zs := ⟨_, rfl⟩
      simp only [bothR] at hzl hzs
      have KEEP2 : Hid (∀ W : World, Blk W g2 40 #[.string (y).nm, .int .i64 (y).cells, .int .i64 (y).cov, .int .i64 (y).least, .int .i64 (y).spread, .int .i64 (y).minutes] → ((fun w' => w'.cell? ⟨g2, 3, none⟩ = some (.int .i64 y.least) ∧ w'.cell? ⟨g2, 4, none⟩ = some (.int .i64 y.spread))) W) := hid (by
        intro W h
        have h3 := h.cell 3
        have h4 := h.cell 4
        simp [go_sem] at h3 h4
        exact ⟨h3, h4⟩)
      have HZL := hid hzl
      have HZS := hid hzs
      have HNE2 := hid hne
      clear hzl hzs
      go_upto_block 0 with fail
      go_cut [10] (fun p wx => p = .pointer (some ⟨g1, 0, none⟩) ∧ Blk wx g1 40 #[.string x.nm, .int .i64 x.cells, .int .i64 x.cov, .int .i64 zl, .int .i64 zs, .int .i64 x.minutes] ∧ Blk wx g2 40 #[.string (y).nm, .int .i64 (y).cells, .int .i64 (y).cov, .int .i64 (y).least, .int .i64 (y).spread, .int .i64 (y).minutes] ∧ ∃ g, wx = plus w g)
      case first =>
        by_cases hx0 : x.cov = 0
        · have e0 : (x.cov == 0) = true := by simp [hx0]
          have e1 : zl = y.least ∧ zs = y.spread := by
            have h1 := HZL.out
            have h2 := HZS.out
            have h3 := A11.out
            have h4 := B11.out
            rw [if_pos hx0] at h1 h2
            split at h1 <;> split at h2 <;> omega
          obtain ⟨rfl, rfl⟩ := e1
          clear hx0
          go_wp2_with fail
          go_region_held3 (fun w' => w'.cell? ⟨g2, 3, none⟩ = some (.int .i64 y.least) ∧ w'.cell? ⟨g2, 4, none⟩ = some (.int .i64 y.spread)) ((refine KEEP2.out _ ?_; (repeat (first | exact HB2.out | (with_reducible refine blk_drew ?_) | refine Blk.far ?_ (by simp; omega) _)))) (fail)
          all_goals
            go_wp2_with fail
            go_meet
            refine ⟨rfl, blk_drew ?_, (by (repeat (first | exact HB2.out | (with_reducible refine blk_drew ?_) | refine Blk.far ?_ (by simp; omega) _))), by have h := HG.out; (repeat (first | with_reducible exact grew_refl _ | with_reducible assumption | with_reducible refine grew_split ?_ | with_reducible refine grew_mk ?_ | with_reducible refine grew_plus ?_ | with_reducible refine grew_alloc ?_ | with_reducible refine grew_drew ?_ | (with_reducible refine grew_set ?_ (by first | exact Nat.le_refl _ | omega | (simp [go_sem]; done) | (simp [go_sem]; omega)))))⟩
            (first | exact bset34 HB1.out | exact bset43 HB1.out)
        · have e0 : (x.cov == 0) = false := by simp [hx0]
          by_cases hy0 : y.cov = 0
          · have e2 : decide (0 < y.cov) = false := by simp; omega
            have e1 : zl = x.least ∧ zs = x.spread := by
              have h1 := HZL.out
              have h2 := HZS.out
              rw [if_pos hy0] at h1 h2
              omega
            obtain ⟨rfl, rfl⟩ := e1
            clear hx0 hy0
            go_wp2_with fail
            go_meet
            exact ⟨rfl, HB1.out, HB2.out, HG.out⟩
          · have e2 : decide (0 < y.cov) = true := by simp; omega
            have e1 : zl = min x.least y.least ∧ zs = max x.spread y.spread := by
              have h1 := HZL.out
              have h2 := HZS.out
              rw [if_neg hy0, if_neg hx0] at h1 h2
              omega
            clear hx0 hy0
            have hord : (x.least ≤ y.least ∧ zl = x.least ∨ y.least < x.least ∧ zl = y.least) ∧ (y.spread ≤ x.spread ∧ zs = x.spread ∨ x.spread < y.spread ∧ zs = y.spread) := by omega
            clear e1
            obtain ⟨⟨o1, rfl⟩ | ⟨o1, rfl⟩, ⟨o2, rfl⟩ | ⟨o2, rfl⟩⟩ := hord
            all_goals
              go_wp2_with fail
              go_region
              all_goals
                go_wp2_with fail
                go_meet
                refine ⟨rfl, blk_drew ?_, (by (repeat (first | exact HB2.out | (with_reducible refine blk_drew ?_) | refine Blk.far ?_ (by simp; omega) _))), by have h := HG.out; (repeat (first | with_reducible exact grew_refl _ | with_reducible assumption | with_reducible refine grew_split ?_ | with_reducible refine grew_mk ?_ | with_reducible refine grew_plus ?_ | with_reducible refine grew_alloc ?_ | with_reducible refine grew_drew ?_ | (with_reducible refine grew_set ?_ (by first | exact Nat.le_refl _ | omega | (simp [go_sem]; done) | (simp [go_sem]; omega)))))⟩
                (first | exact bset34 HB1.out | exact bset43 HB1.out)
      case rest =>
        obtain ⟨rfl, hB1, hB2, hg⟩ := hcut
        clear hx0 hx1 hx2 hx3 hx4 hx5 hy0 hy1 hy2 hy3 hy4 hy5 fx0 fx1 fx2 fx3 fx4 fx5 hl1 hl2
        (have hx0 := hB1.cell 0; have hx1 := hB1.cell 1; have hx2 := hB1.cell 2; have hx3 := hB1.cell 3; have hx4 := hB1.cell 4; have hx5 := hB1.cell 5; simp [go_sem] at hx0 hx1 hx2 hx3 hx4 hx5)
        (have hy0 := hB2.cell 0; have hy1 := hB2.cell 1; have hy2 := hB2.cell 2; have hy3 := hB2.cell 3; have hy4 := hB2.cell 4; have hy5 := hB2.cell 5; simp [go_sem] at hy0 hy1 hy2 hy3 hy4 hy5)
        (have fx0 := hB1.frozen 0; have fx1 := hB1.frozen 1; have fx2 := hB1.frozen 2; have fx3 := hB1.frozen 3; have fx4 := hB1.frozen 4; have fx5 := hB1.frozen 5)
        have hl1 := hB1.lt
        have hl2 := hB2.lt
        have HB3 := hid hB1
        have HG3 := hid hg
        clear hB1 hB2 hg
        go_upto_region 12 with fail
        obtain ⟨z, hz⟩ : ∃ z : AreaR, (⟨x.nm, x.cells + y.cells, x.cov + y.cov, zl, zs, x.minutes + y.minutes⟩ : AreaR) = z := ⟨_, rfl⟩
        have hzx : bothR x y = z := by rw [← hz, ← HZL.out, ← HZS.out]; rfl
        refine opq_wp (fun W => Blk W g1 40 #[.string (z).nm, .int .i64 (z).cells, .int .i64 (z).cov, .int .i64 (z).least, .int .i64 (z).spread, .int .i64 (z).minutes] ∧ ∃ g, W = plus w g) ⟨by subst hz; exact bset125 HB3.out, by have h := HG3.out; (repeat (first | with_reducible exact grew_refl _ | with_reducible assumption | with_reducible refine grew_split ?_ | with_reducible refine grew_mk ?_ | with_reducible refine grew_plus ?_ | with_reducible refine grew_alloc ?_ | with_reducible refine grew_drew ?_ | (with_reducible refine grew_set ?_ (by first | exact Nat.le_refl _ | omega | (simp [go_sem]; done) | (simp [go_sem]; omega)))))⟩ ?_
        rintro wr ⟨hB1, gr, rfl⟩
        have HZX := hid hzx
        have HB4 := hid hB1
        have hzn : z.nm.size ≤ maxLen := by rw [← hzx]; exact hxn
        clear hx0 hx1 hx2 hx3 hx4 hx5 hy0 hy1 hy2 hy3 hy4 hy5 fx0 fx1 fx2 fx3 fx4 fx5 hl1 hl2 hB1 hz hzx
        have hl1 := HB4.out.lt
        go_upto_region 13 with (at_builtin; go_loud (refine wpList_appL (B := w.heap.size) rfl _ _ _ rfl 40 6 56 _ Tryd.underlying26 area_info rfl (by omega) (by omega) (fun _ => rfl) AreaR.one _ 0 ([] : List AreaR) 0 rfl rfl (Own.newIn (o := .cells #[] 40) (by (repeat (first | with_reducible exact grew_refl _ | with_reducible assumption | with_reducible refine grew_split ?_ | with_reducible refine grew_mk ?_ | with_reducible refine grew_plus ?_ | with_reducible refine grew_alloc ?_ | with_reducible refine grew_drew ?_ | (with_reducible refine grew_set ?_ (by first | exact Nat.le_refl _ | omega | (simp [go_sem]; done) | (simp [go_sem]; omega)))))) rfl (by first | rfl | first | (simp [go_sem]; done) | (simp [go_sem]; omega) | (simp [go_sem, Ext.add]; done) | (simp [go_sem, Ext.add]; omega) | omega) (by first | (simp [go_sem]; done) | (simp [go_sem]; omega) | (simp [go_sem, Ext.add]; done) | (simp [go_sem, Ext.add]; omega) | omega)) (by first | (simp [go_sem]; done) | (simp [go_sem]; omega) | (simp [go_sem, Ext.add]; done) | (simp [go_sem, Ext.add]; omega) | omega) l (by simp; omega) b0 off l.length c rfl rfl (HA.out.grew (by (repeat (first | with_reducible exact grew_refl _ | with_reducible assumption | with_reducible refine grew_split ?_ | with_reducible refine grew_mk ?_ | with_reducible refine grew_plus ?_ | with_reducible refine grew_alloc ?_ | with_reducible refine grew_drew ?_ | (with_reducible refine grew_set ?_ (by first | exact Nat.le_refl _ | omega | (simp [go_sem]; done) | (simp [go_sem]; omega))))))).read ?_); intro A1 c1 w1 hO1 hg1 hat1)
        have hl1' := hl1
        simp [go_sem] at hl1'
        simp only [List.nil_append] at hO1
        obtain ⟨g3, cur, rfl, hb3, hK3, hlc, hcm, hcs, hf3⟩ := hO1.open_ (fun _ => rfl) (by omega)
        have hn3 : g3 ≠ g1 := by
          rcases hat1 _ rfl with ⟨a0, h1, h2⟩ | h2
          · injection h1 with h1; rw [← h1] at h2; simp at h2; omega
          · simp at h2; omega
        have hB5 := blk_kept (blk_grew HB4.out (by (repeat (first | with_reducible exact grew_refl _ | with_reducible assumption | with_reducible refine grew_split ?_ | with_reducible refine grew_mk ?_ | with_reducible refine grew_plus ?_ | with_reducible refine grew_alloc ?_ | with_reducible refine grew_drew ?_ | (with_reducible refine grew_set ?_ (by first | exact Nat.le_refl _ | omega | (simp [go_sem]; done) | (simp [go_sem]; omega))))))) hg1 (by intro a ha; injection ha with ha; subst ha; first | (simp [go_sem]; done) | (simp [go_sem]; omega) | (simp [go_sem, Ext.add]; done) | (simp [go_sem, Ext.add]; omega) | omega)
        have hw1 := grew_own (w0 := w) (by (repeat (first | with_reducible exact grew_refl _ | with_reducible assumption | with_reducible refine grew_split ?_ | with_reducible refine grew_mk ?_ | with_reducible refine grew_plus ?_ | with_reducible refine grew_alloc ?_ | with_reducible refine grew_drew ?_ | (with_reducible refine grew_set ?_ (by first | exact Nat.le_refl _ | omega | (simp [go_sem]; done) | (simp [go_sem]; omega)))))) hg1 (by intro a ha; injection ha with ha; subst ha; first | (simp [go_sem]; done) | (simp [go_sem]; omega) | (simp [go_sem, Ext.add]; done) | (simp [go_sem, Ext.add]; omega) | omega)
        (have hx0 := hB5.cell 0; have hx1 := hB5.cell 1; have hx2 := hB5.cell 2; have hx3 := hB5.cell 3; have hx4 := hB5.cell 4; have hx5 := hB5.cell 5; simp [go_sem] at hx0 hx1 hx2 hx3 hx4 hx5)
        obtain ⟨⟨_, hz0⟩, ⟨_, hz1⟩, ⟨_, hz2⟩, ⟨_, hz3⟩, ⟨_, hz4⟩, ⟨_, hz5⟩, hf0, hf1, hf2, hf3', hf4, hf5⟩ := hK3.some6 (i * 6) (by omega)
        have hg3 := hK3.lt
        have HK3 := hid hK3
        have HF3 := hid hf3
        have HB5 := hid hB5
        have HW1 := hid hw1
        have HCS := hid hcs
        have HN3 := hid hn3
        clear hO1 hg1 hat1 hK3 hf3 hB5 hw1 hcs
        go_wp2_with fail
        have hD := i_Delete (l.set i z) g3 c1 k _ _ (HK3.out.put6 (i * 6) (.string z.nm) (.int .i64 z.cells) (.int .i64 z.cov) (.int .i64 z.least) (.int .i64 z.spread) (.int .i64 z.minutes)) (HF3.out.set_ (r := z) (fun _ => rfl) (by rw [HCS.out]; omega)) (by rw [size_put, List.length_set, HCS.out]; omega) (by rw [List.length_set]; exact hlc) hcm (by rw [List.length_set]; exact hk)
        rw [List.length_set] at hD
        have hML : mergeP l z i k = (l.set i z).take k ++ (l.set i z).drop (k + 1) := rfl
        rw [← hML] at hD
        have hMn := mergeP_nm (x := z) (i := i) (k := k) HS.out hzn
        have hMl := mergeP_len l z i k
        have hF2 : mergeF l a b = if areasB (mergeP l z i k) then (mergeP l z i k, true) else ([], false) := by rw [HF.out, HX.out, HY.out, HZX.out]
        clear hML
        generalize mergeP l z i k = M at hD hMn hMl hF2
        have HMN := hid hMn
        have HF2 := hid hF2
        clear hMn hF2
        refine hD.mono ?_
        rintro e w2 ⟨rfl, ⟨cs2, hB6, hs6, hf6⟩, hg6⟩
        have hw2 := grew_grown (w0 := w) (by have h := HW1.out; (repeat (first | with_reducible exact grew_refl _ | with_reducible assumption | with_reducible refine grew_split ?_ | with_reducible refine grew_mk ?_ | with_reducible refine grew_plus ?_ | with_reducible refine grew_alloc ?_ | with_reducible refine grew_drew ?_ | (with_reducible refine grew_set ?_ (by first | exact Nat.le_refl _ | omega | (simp [go_sem]; done) | (simp [go_sem]; omega)))))) hg6 (by intro q hq; injection hq with hq; omega)
        have HW2 := hid hw2
        have HO := hid (show OwnF w.heap.size 40 6 AreaR.row w2 (some ⟨g3, 0, none⟩) M from .inr ⟨g3, cs2, rfl, hb3, hB6, by rw [hs6, size_put, HCS.out]; omega, hf6⟩)
        clear hD hw2 hB6 hs6 hf6 hg6 hx0 hx1 hx2 hx3 hx4 hx5 hz0 hz1 hz2 hz3 hz4 hz5 hf0 hf1 hf2 hf3' hf4 hf5
        go_wp2_with fail
        cases hg : areasB M
        · have HGM := hid hg
          have hp : mergeF l a b = ([], false) := by rw [HF2.out, hg]; rfl
          have HP := hid hp
          clear hp hg
          refine (i_AreAreaRows M _ _ _ HGM.out _ HO.out.sl HMN.out (by unfold maxLen; omega)).mono ?_
          (rintro e w' ⟨rfl, gx, rfl⟩)
          go_wp2_with fail
          go_ret2
          rw [HP.out]
          have hh := HW2.out
          exact ⟨MergePost.no, by (repeat (first | with_reducible exact grew_refl _ | with_reducible assumption | with_reducible refine grew_split ?_ | with_reducible refine grew_mk ?_ | with_reducible refine grew_plus ?_ | with_reducible refine grew_alloc ?_ | with_reducible refine grew_drew ?_ | (with_reducible refine grew_set ?_ (by first | exact Nat.le_refl _ | omega | (simp [go_sem]; done) | (simp [go_sem]; omega)))))⟩
        · have HGM := hid hg
          have hp : mergeF l a b = (M, true) := by rw [HF2.out, hg]; rfl
          have HP := hid hp
          clear hp hg
          refine (i_AreAreaRows M _ _ _ HGM.out _ HO.out.sl HMN.out (by unfold maxLen; omega)).mono ?_
          (rintro e w' ⟨rfl, gx, rfl⟩)
          go_wp2_with fail
          go_ret2
          rw [HP.out]
          have hh := HW2.out
          exact ⟨⟨_, c1, rfl, HO.out.grew (by (repeat (first | with_reducible exact grew_refl _ | with_reducible assumption | with_reducible refine grew_split ?_ | with_reducible refine grew_mk ?_ | with_reducible refine grew_plus ?_ | with_reducible refine grew_alloc ?_ | with_reducible refine grew_drew ?_ | (with_reducible refine grew_set ?_ (by first | exact Nat.le_refl _ | omega | (simp [go_sem]; done) | (simp [go_sem]; omega))))))⟩, by (repeat (first | with_reducible exact grew_refl _ | with_reducible assumption | with_reducible refine grew_split ?_ | with_reducible refine grew_mk ?_ | with_reducible refine grew_plus ?_ | with_reducible refine grew_alloc ?_ | with_reducible refine grew_drew ?_ | (with_reducible refine grew_set ?_ (by first | exact Nat.le_refl _ | omega | (simp [go_sem]; done) | (simp [go_sem]; omega)))))⟩
end Go.Proofs.YteogidghoohgaaaDoor
