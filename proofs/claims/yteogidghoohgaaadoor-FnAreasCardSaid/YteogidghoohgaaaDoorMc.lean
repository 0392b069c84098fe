/- Merging two areas, in the reference. -/
import Derived.Test.YteogidghoohgaaaDoorMb
import Derived.Test.YteogidghoohgaaaDoorMk
import Derived.Test.YteogidghoohgaaaDoorA3
import Derived.Deep.RegionHeld3
import Derived.Deep.DrawnRows
namespace Go.Proofs.YteogidghoohgaaaDoor
open Go.RowKit

attribute [local go_sem ↓] Go.wp_at_zero Go.wp_at_succ
/-- The list with two areas merged, and whether that can be told. -/
def mergeF (l : List AreaR) (a b : ByteArray) : List AreaR × Bool :=
  if areasB l then (match l[(findI l a).toNat]?, l[(findI l b).toNat]? with
    | some x, some y => if findI l a < 0 ∨ findI l b < 0 ∨ findI l a = findI l b then ([], false) else
        if areasB (mergeP l (bothR x y) (findI l a).toNat (findI l b).toNat) then (mergeP l (bothR x y) (findI l a).toNat (findI l b).toNat, true) else ([], false)
    | _, _ => ([], false)) else ([], false)
theorem mergeF_bad {l : List AreaR} {a b : ByteArray} (h : areasB l = false) : mergeF l a b = ([], false) := by simp [mergeF, h]
theorem mergeF_no {l : List AreaR} {a b : ByteArray} (h : findI l a < 0 ∨ findI l b < 0 ∨ findI l a = findI l b) : mergeF l a b = ([], false) := by
  unfold mergeF
  split
  · split
    · first | rfl | rw [if_pos h]
    · rfl
  · rfl
theorem mergeF_go {l : List AreaR} {a b : ByteArray} {i k : Nat} (hg : areasB l = true) (ha : findI l a = i) (hb : findI l b = k) (hi : i < l.length) (hk : k < l.length) (hne : i ≠ k) :
    mergeF l a b = if areasB (mergeP l (bothR l[i] l[k]) i k) then (mergeP l (bothR l[i] l[k]) i k, true) else ([], false) := by
  unfold mergeF
  rw [if_pos hg, ha, hb]
  simp only [Int.toNat_natCast, List.getElem?_eq_getElem hi, List.getElem?_eq_getElem hk]
  rw [if_neg (by omega)]
theorem mergeP_len (l : List AreaR) (x : AreaR) (i k : Nat) : (mergeP l x i k).length ≤ l.length := by
  simp only [mergeP, List.length_append, List.length_take, List.length_drop, List.length_set]; omega
theorem mergeP_nm {l : List AreaR} {x : AreaR} {i k : Nat} (h : ∀ r ∈ l, r.nm.size ≤ maxLen) (hx : x.nm.size ≤ maxLen) : ∀ r ∈ mergeP l x i k, r.nm.size ≤ maxLen := by
  intro r hr
  have : r ∈ l.set i x := by
    rcases List.mem_append.1 hr with h | h
    · exact List.mem_of_mem_take h
    · exact List.mem_of_mem_drop h
  rcases List.mem_or_eq_of_mem_set this with h1 | rfl
  · exact h r h1
  · exact hx
theorem AreaR.one (r : AreaR) : ∀ u ∈ r.row, u.oneCell' = true := by
  intro u hu
  simp [AreaR.row] at hu
  rcases hu with rfl | rfl | rfl | rfl | rfl | rfl <;> rfl
theorem ret_slm {A : Option Addr} {n m c : Nat} {a b : Bool} (h : n = m) (h' : a = b) : Ending.returned (.tuple #[.slice A n c, .bool a]) = .returned (.tuple #[.slice A m c, .bool b]) := by rw [h, h']
def MergePost (B : Nat) (p : List AreaR × Bool) (e : Ending) (w' : World) : Prop := ∃ A' c', e = .returned (.tuple #[.slice A' p.1.length c', .bool p.2]) ∧ OwnF B 40 6 AreaR.row w' A' p.1
theorem MergePost.no {B c : Nat} {A : Option Addr} {w' : World} : MergePost B ([], false) (.returned (.tuple #[.slice A 0 c, .bool false])) w' := ⟨A, c, rfl, .inl rfl⟩
set_option maxHeartbeats 4000000 in
set_option maxRecDepth 100000 in
theorem s_MergeAreas (l : List AreaR) (A : Option Addr) (c : Nat) (a b : ByteArray) (w : World) (hA : Sl w 6 AreaR.row A l) (hs : ∀ r ∈ l, r.nm.size ≤ maxLen) (hl : l.length ≤ maxLen) :
    Calls Tryd.prog 21 #[.slice A l.length c, .string a, .string b] w fun e w' => MergePost w.heap.size (mergeF l a b) e w' ∧ ∃ g, w' = plus w g := by
  have HA := hid hA
  have HS := hid hs
  clear hA hs
  by_cases hno : find2 l a = -1 ∨ find2 l b = -1 ∨ find2 l a = find2 l b
  · have hF : mergeF l a b = ([], false) := by
      cases hg : areasB l
      · exact mergeF_bad hg
      · rw [find2_good hg, find2_good hg] at hno
        have h1 := findI_ge l a
        have h2 := findI_ge l b
        exact mergeF_no (by omega)
    rw [hF]
    obtain ⟨x, hx⟩ : ∃ x, find2 l a = x := ⟨_, rfl⟩
    obtain ⟨y, hy⟩ : ∃ y, find2 l b = y := ⟨_, rfl⟩
    rw [hx, hy] at hno
    have HFA := hid hx
    have HFB := hid hy
    clear hF hx hy
    have hxg : -1 ≤ x ∧ -1 ≤ y := by
      have h1 := findI_ge l a
      have h2 := findI_ge l b
      have h3 := HFA.out
      have h4 := HFB.out
      unfold find2 at h3 h4
      split at h3 <;> (try split at h4) <;> omega
    by_cases hx0 : x < 0
    · clear hno
      go_enter Tryd.func21, Tryd.ntmps21
      go_wp2_with fail
      (first | (refine (s_l26Find l _ _ a _ (HA.out.grew (by (repeat (first | with_reducible exact grew_refl _ | with_reducible assumption | with_reducible refine grew_split ?_ | with_reducible refine grew_mk ?_ | with_reducible refine grew_plus ?_ | with_reducible refine grew_alloc ?_ | with_reducible refine grew_drew ?_ | (with_reducible refine grew_set ?_ (by first | exact Nat.le_refl _ | omega | (simp [go_sem]; done) | (simp [go_sem]; omega))))))) HS.out hl).mono ?_; rw [HFA.out]; (rintro e w' ⟨rfl, gx, rfl⟩); go_wp2_with fail))
      (refine (s_l26Find l _ _ b _ (HA.out.grew (by (repeat (first | with_reducible exact grew_refl _ | with_reducible assumption | with_reducible refine grew_split ?_ | with_reducible refine grew_mk ?_ | with_reducible refine grew_plus ?_ | with_reducible refine grew_alloc ?_ | with_reducible refine grew_drew ?_ | (with_reducible refine grew_set ?_ (by first | exact Nat.le_refl _ | omega | (simp [go_sem]; done) | (simp [go_sem]; omega))))))) HS.out hl).mono ?_; rw [HFB.out]; (rintro e w' ⟨rfl, gx, rfl⟩); go_wp2_with fail)
      go_ret2
      exact ⟨MergePost.no, by (repeat (first | with_reducible exact grew_refl _ | with_reducible assumption | with_reducible refine grew_split ?_ | with_reducible refine grew_mk ?_ | with_reducible refine grew_plus ?_ | with_reducible refine grew_alloc ?_ | with_reducible refine grew_drew ?_ | (with_reducible refine grew_set ?_ (by first | exact Nat.le_refl _ | omega | (simp [go_sem]; done) | (simp [go_sem]; omega)))))⟩
    · by_cases hy0 : y < 0
      · clear hno
        go_enter Tryd.func21, Tryd.ntmps21
        go_wp2_with fail
        (first | (refine (s_l26Find l _ _ a _ (HA.out.grew (by (repeat (first | with_reducible exact grew_refl _ | with_reducible assumption | with_reducible refine grew_split ?_ | with_reducible refine grew_mk ?_ | with_reducible refine grew_plus ?_ | with_reducible refine grew_alloc ?_ | with_reducible refine grew_drew ?_ | (with_reducible refine grew_set ?_ (by first | exact Nat.le_refl _ | omega | (simp [go_sem]; done) | (simp [go_sem]; omega))))))) HS.out hl).mono ?_; rw [HFA.out]; (rintro e w' ⟨rfl, gx, rfl⟩); go_wp2_with fail))
        (refine (s_l26Find l _ _ b _ (HA.out.grew (by (repeat (first | with_reducible exact grew_refl _ | with_reducible assumption | with_reducible refine grew_split ?_ | with_reducible refine grew_mk ?_ | with_reducible refine grew_plus ?_ | with_reducible refine grew_alloc ?_ | with_reducible refine grew_drew ?_ | (with_reducible refine grew_set ?_ (by first | exact Nat.le_refl _ | omega | (simp [go_sem]; done) | (simp [go_sem]; omega))))))) HS.out hl).mono ?_; rw [HFB.out]; (rintro e w' ⟨rfl, gx, rfl⟩); go_wp2_with fail)
        go_ret2
        exact ⟨MergePost.no, by (repeat (first | with_reducible exact grew_refl _ | with_reducible assumption | with_reducible refine grew_split ?_ | with_reducible refine grew_mk ?_ | with_reducible refine grew_plus ?_ | with_reducible refine grew_alloc ?_ | with_reducible refine grew_drew ?_ | (with_reducible refine grew_set ?_ (by first | exact Nat.le_refl _ | omega | (simp [go_sem]; done) | (simp [go_sem]; omega)))))⟩
      · obtain rfl : x = y := by omega
        clear hno
        go_enter Tryd.func21, Tryd.ntmps21
        go_wp2_with fail
        (first | (refine (s_l26Find l _ _ a _ (HA.out.grew (by (repeat (first | with_reducible exact grew_refl _ | with_reducible assumption | with_reducible refine grew_split ?_ | with_reducible refine grew_mk ?_ | with_reducible refine grew_plus ?_ | with_reducible refine grew_alloc ?_ | with_reducible refine grew_drew ?_ | (with_reducible refine grew_set ?_ (by first | exact Nat.le_refl _ | omega | (simp [go_sem]; done) | (simp [go_sem]; omega))))))) HS.out hl).mono ?_; rw [HFA.out]; (rintro e w' ⟨rfl, gx, rfl⟩); go_wp2_with fail))
        (refine (s_l26Find l _ _ b _ (HA.out.grew (by (repeat (first | with_reducible exact grew_refl _ | with_reducible assumption | with_reducible refine grew_split ?_ | with_reducible refine grew_mk ?_ | with_reducible refine grew_plus ?_ | with_reducible refine grew_alloc ?_ | with_reducible refine grew_drew ?_ | (with_reducible refine grew_set ?_ (by first | exact Nat.le_refl _ | omega | (simp [go_sem]; done) | (simp [go_sem]; omega))))))) HS.out hl).mono ?_; rw [HFB.out]; (rintro e w' ⟨rfl, gx, rfl⟩); go_wp2_with fail)
        go_ret2
        exact ⟨MergePost.no, by (repeat (first | with_reducible exact grew_refl _ | with_reducible assumption | with_reducible refine grew_split ?_ | with_reducible refine grew_mk ?_ | with_reducible refine grew_plus ?_ | with_reducible refine grew_alloc ?_ | with_reducible refine grew_drew ?_ | (with_reducible refine grew_set ?_ (by first | exact Nat.le_refl _ | omega | (simp [go_sem]; done) | (simp [go_sem]; omega)))))⟩
  · cases hg : areasB l
    · rw [find2_bad hg] at hno; omega
    rcases findI_cases (l := l) (s := a) with hfa | ⟨i, hi, hfa⟩
    · rw [find2_none hfa] at hno; omega
    rcases findI_cases (l := l) (s := b) with hfb | ⟨k, hk, hfb⟩
    · rw [find2_none hfb] at hno; omega
    have hne : i ≠ k := by
      intro e; subst e
      rw [find2_good hg, find2_good hg, hfa, hfb] at hno; omega
    have hl10 := areasB_len hg
    have HFA := hid ((find2_good (s := a) hg).trans hfa)
    have HFB := hid ((find2_good (s := b) hg).trans hfb)
    obtain ⟨x, hx⟩ : ∃ x, bothR l[i] l[k] = x := ⟨_, rfl⟩
    have hF := mergeF_go hg hfa hfb hi hk hne
    rw [hx] at hF
    have HF := hid hF
    have HOI := hid (areasB_ok hg hi)
    have HOK := hid (areasB_ok hg hk)
    have HX := hid hx
    have hxn : x.nm.size ≤ maxLen := by rw [← hx]; exact (show l[i].nm.size ≤ maxLen from HS.out _ (List.getElem_mem hi))
    have hii : ¬ (i : Int) < 0 := by omega
    have hkk : ¬ (k : Int) < 0 := by omega
    have hik : ((i : Int) == (k : Int)) = false := by simp; omega
    have HNE := hid hne
    clear hno hfa hfb hx hF hne hg
    go_enter Tryd.func21, Tryd.ntmps21
    go_wp2_with fail
    (first | (refine (s_l26Find l _ _ a _ (HA.out.grew (by (repeat (first | with_reducible exact grew_refl _ | with_reducible assumption | with_reducible refine grew_split ?_ | with_reducible refine grew_mk ?_ | with_reducible refine grew_plus ?_ | with_reducible refine grew_alloc ?_ | with_reducible refine grew_drew ?_ | (with_reducible refine grew_set ?_ (by first | exact Nat.le_refl _ | omega | (simp [go_sem]; done) | (simp [go_sem]; omega))))))) HS.out hl).mono ?_; rw [HFA.out]; (rintro e w' ⟨rfl, gx, rfl⟩); go_wp2_with fail))
    (refine (s_l26Find l _ _ b _ (HA.out.grew (by (repeat (first | with_reducible exact grew_refl _ | with_reducible assumption | with_reducible refine grew_split ?_ | with_reducible refine grew_mk ?_ | with_reducible refine grew_plus ?_ | with_reducible refine grew_alloc ?_ | with_reducible refine grew_drew ?_ | (with_reducible refine grew_set ?_ (by first | exact Nat.le_refl _ | omega | (simp [go_sem]; done) | (simp [go_sem]; omega))))))) HS.out hl).mono ?_; rw [HFB.out]; (rintro e w' ⟨rfl, gx, rfl⟩); go_wp2_with fail)
    go_loopw [10, 11] (fun o n wr => ∃ (m : Nat) (A' : Option Addr) (c' : Nat), m ≤ l.length ∧ n = .int .i64 m ∧ o = .slice A' (mergeTo l x i k m).length c' ∧ Own w.heap.size 40 6 AreaR.row wr A' c' (mergeTo l x i k m) ∧ ∃ g, wr = plus w g) (fun _ n _ => l.length - (intOf n).toNat)
    case atStart => exact ⟨0, _, _, Nat.zero_le _, rfl, rfl, Own.newIn (o := .cells #[] 40) (by (repeat (first | with_reducible exact grew_refl _ | with_reducible assumption | with_reducible refine grew_split ?_ | with_reducible refine grew_mk ?_ | with_reducible refine grew_plus ?_ | with_reducible refine grew_alloc ?_ | with_reducible refine grew_drew ?_ | (with_reducible refine grew_set ?_ (by first | exact Nat.le_refl _ | omega | (simp [go_sem]; done) | (simp [go_sem]; omega)))))) rfl (by first | rfl | first | (simp [go_sem]; done) | (simp [go_sem]; omega) | (simp [go_sem, Ext.add]; done) | (simp [go_sem, Ext.add]; omega) | omega) (by first | (simp [go_sem]; done) | (simp [go_sem]; omega) | (simp [go_sem, Ext.add]; done) | (simp [go_sem, Ext.add]; omega) | omega), by (repeat (first | with_reducible exact grew_refl _ | with_reducible assumption | with_reducible refine grew_split ?_ | with_reducible refine grew_mk ?_ | with_reducible refine grew_plus ?_ | with_reducible refine grew_alloc ?_ | with_reducible refine grew_drew ?_ | (with_reducible refine grew_set ?_ (by first | exact Nat.le_refl _ | omega | (simp [go_sem]; done) | (simp [go_sem]; omega)))))⟩
    case round =>
      obtain ⟨m, A', c', hm, rfl, rfl, hO, gq, rfl⟩ := hrel
      have HO := hid hO
      have HQ := hid (mergeTo_len l x i k m)
      have hq := mergeTo_len l x i k m
      clear hO
      by_cases hlt : m < l.length
      · obtain ⟨b0, off, rfl, hb0, hc⟩ := HA.out.at_ hlt
        by_cases hmi : m = i
        · subst hmi
          have HT := hid (mergeTo_i (l := l) (x := x) (k := k) hlt)
          generalize hM : mergeTo l x m k m = M at HO HT hq HQ
          obtain ⟨hc0, hc1, hc2, hc3, hc4, hc5⟩ := AreaR.cells6 hc hlt
          obtain ⟨hd0, hd1, hd2, hd3, hd4, hd5⟩ := AreaR.cells6 hc hk
          clear hc hM
          go_wp2_with fail
          have KEEP : Hid (∀ W : World, (∃ g, W = plus w g) → ((fun w' => w'.cell? ⟨b0, off + m * 6, none⟩ = some (.string l[m].nm) ∧ w'.cell? ⟨b0, off + m * 6 + 1, none⟩ = some (.int .i64 l[m].cells) ∧ w'.cell? ⟨b0, off + m * 6 + 2, none⟩ = some (.int .i64 l[m].cov) ∧ w'.cell? ⟨b0, off + m * 6 + 3, none⟩ = some (.int .i64 l[m].least) ∧ w'.cell? ⟨b0, off + m * 6 + 4, none⟩ = some (.int .i64 l[m].spread) ∧ w'.cell? ⟨b0, off + m * 6 + 5, none⟩ = some (.int .i64 l[m].minutes) ∧ w'.cell? ⟨b0, off + k * 6, none⟩ = some (.string l[k].nm) ∧ w'.cell? ⟨b0, off + k * 6 + 1, none⟩ = some (.int .i64 l[k].cells) ∧ w'.cell? ⟨b0, off + k * 6 + 2, none⟩ = some (.int .i64 l[k].cov) ∧ w'.cell? ⟨b0, off + k * 6 + 3, none⟩ = some (.int .i64 l[k].least) ∧ w'.cell? ⟨b0, off + k * 6 + 4, none⟩ = some (.int .i64 l[k].spread) ∧ w'.cell? ⟨b0, off + k * 6 + 5, none⟩ = some (.int .i64 l[k].minutes))) W) := hid (by
            rintro W ⟨g, rfl⟩
            simp only [cell?_plus _ _ hb0, hc0, hc1, hc2, hc3, hc4, hc5, hd0, hd1, hd2, hd3, hd4, hd5, and_self])
          go_region_held3 (fun w' => w'.cell? ⟨b0, off + m * 6, none⟩ = some (.string l[m].nm) ∧ w'.cell? ⟨b0, off + m * 6 + 1, none⟩ = some (.int .i64 l[m].cells) ∧ w'.cell? ⟨b0, off + m * 6 + 2, none⟩ = some (.int .i64 l[m].cov) ∧ w'.cell? ⟨b0, off + m * 6 + 3, none⟩ = some (.int .i64 l[m].least) ∧ w'.cell? ⟨b0, off + m * 6 + 4, none⟩ = some (.int .i64 l[m].spread) ∧ w'.cell? ⟨b0, off + m * 6 + 5, none⟩ = some (.int .i64 l[m].minutes) ∧ w'.cell? ⟨b0, off + k * 6, none⟩ = some (.string l[k].nm) ∧ w'.cell? ⟨b0, off + k * 6 + 1, none⟩ = some (.int .i64 l[k].cells) ∧ w'.cell? ⟨b0, off + k * 6 + 2, none⟩ = some (.int .i64 l[k].cov) ∧ w'.cell? ⟨b0, off + k * 6 + 3, none⟩ = some (.int .i64 l[k].least) ∧ w'.cell? ⟨b0, off + k * 6 + 4, none⟩ = some (.int .i64 l[k].spread) ∧ w'.cell? ⟨b0, off + k * 6 + 5, none⟩ = some (.int .i64 l[k].minutes)) (first | (exact KEEP.out _ (grew_own (by (repeat (first | with_reducible exact grew_refl _ | with_reducible assumption | with_reducible refine grew_split ?_ | with_reducible refine grew_mk ?_ | with_reducible refine grew_plus ?_ | with_reducible refine grew_alloc ?_ | with_reducible refine grew_drew ?_ | (with_reducible refine grew_set ?_ (by first | exact Nat.le_refl _ | omega | (simp [go_sem]; done) | (simp [go_sem]; omega)))))) hg1 (fun a ha => (HO.out.ne a ha).1))) | (exact KEEP.out _ (by (repeat (first | with_reducible exact grew_refl _ | with_reducible assumption | with_reducible refine grew_split ?_ | with_reducible refine grew_mk ?_ | with_reducible refine grew_plus ?_ | with_reducible refine grew_alloc ?_ | with_reducible refine grew_drew ?_ | (with_reducible refine grew_set ?_ (by first | exact Nat.le_refl _ | omega | (simp [go_sem]; done) | (simp [go_sem]; omega)))))))) (first | (go_at_call 52; refine (s_l26Both l[m] l[k] HOI.out HOK.out _).mono ?_; rw [HX.out]; (rintro e w' ⟨rfl, gx, rfl⟩)) | (refine step_appB (B := w.heap.size) (by rfl) _ _ _ (by rfl) 40 6 56 _ Tryd.underlying26 area_info rfl (by omega) (by omega) A' c' M M.length rfl (by rfl) (HO.out.grew (by (repeat (first | with_reducible exact grew_refl _ | with_reducible assumption | with_reducible refine grew_split ?_ | with_reducible refine grew_mk ?_ | with_reducible refine grew_plus ?_ | with_reducible refine grew_alloc ?_ | with_reducible refine grew_drew ?_ | (with_reducible refine grew_set ?_ (by first | exact Nat.le_refl _ | omega | (simp [go_sem]; done) | (simp [go_sem]; omega))))))) (by first | (simp [go_sem]; done) | (simp [go_sem]; omega) | (simp [go_sem, Ext.add]; done) | (simp [go_sem, Ext.add]; omega) | omega) (by omega) _ x _ (by rfl) rfl (by intro j u hj; match j, hj with | 0, hj => simp [AreaR.row] at hj; subst hj; simp [Addr.add, go_sem] | 1, hj => simp [AreaR.row] at hj; subst hj; simp [Addr.add, go_sem] | 2, hj => simp [AreaR.row] at hj; subst hj; simp [Addr.add, go_sem] | 3, hj => simp [AreaR.row] at hj; subst hj; simp [Addr.add, go_sem] | 4, hj => simp [AreaR.row] at hj; subst hj; simp [Addr.add, go_sem] | 5, hj => simp [AreaR.row] at hj; subst hj; simp [Addr.add, go_sem]) (AreaR.one _) ?_; intro A1 c1 w1 hO1 hg1 hat1))
          go_wp2_with fail
          go_roundw
          case rel => exact ⟨m + 1, A1, c1, by omega, by go_num, vsl (by rw [HT.out]; simp), by rw [HT.out]; exact hO1, grew_own (by (repeat (first | with_reducible exact grew_refl _ | with_reducible assumption | with_reducible refine grew_split ?_ | with_reducible refine grew_mk ?_ | with_reducible refine grew_plus ?_ | with_reducible refine grew_alloc ?_ | with_reducible refine grew_drew ?_ | (with_reducible refine grew_set ?_ (by first | exact Nat.le_refl _ | omega | (simp [go_sem]; done) | (simp [go_sem]; omega)))))) hg1 (fun a ha => (HO.out.ne a ha).1)⟩
          case measure => simp [intOf]; omega
        · have e1 : ((m : Int) == (i : Int)) = false := by simp; omega
          by_cases hmk : m = k
          · subst hmk
            have HT := hid (mergeTo_k (l := l) (x := x) (i := i) hlt hmi)
            clear hc
            go_wp2_with fail
            go_roundw
            case rel => exact ⟨m + 1, A', c', by omega, by go_num, vsl (by rw [HT.out]), by rw [HT.out]; exact HO.out, by (repeat (first | with_reducible exact grew_refl _ | with_reducible assumption | with_reducible refine grew_split ?_ | with_reducible refine grew_mk ?_ | with_reducible refine grew_plus ?_ | with_reducible refine grew_alloc ?_ | with_reducible refine grew_drew ?_ | (with_reducible refine grew_set ?_ (by first | exact Nat.le_refl _ | omega | (simp [go_sem]; done) | (simp [go_sem]; omega)))))⟩
            case measure => simp [intOf]; omega
          · have e2 : ((m : Int) == (k : Int)) = false := by simp; omega
            have HT := hid (mergeTo_n (l := l) (x := x) hlt hmi hmk)
            generalize hM : mergeTo l x i k m = M at HO HT hq HQ
            obtain ⟨hc0, hc1, hc2, hc3, hc4, hc5⟩ := AreaR.cells6 hc hlt
            clear hc hM hmi hmk
            go_wp2_with (at_builtin; go_loud (refine wpList_appB (B := w.heap.size) rfl _ _ _ rfl 40 6 56 _ Tryd.underlying26 area_info rfl (by omega) (by omega) A' c' M M.length rfl rfl (HO.out.grew (by (repeat (first | with_reducible exact grew_refl _ | with_reducible assumption | with_reducible refine grew_split ?_ | with_reducible refine grew_mk ?_ | with_reducible refine grew_plus ?_ | with_reducible refine grew_alloc ?_ | with_reducible refine grew_drew ?_ | (with_reducible refine grew_set ?_ (by first | exact Nat.le_refl _ | omega | (simp [go_sem]; done) | (simp [go_sem]; omega))))))) (by first | (simp [go_sem]; done) | (simp [go_sem]; omega) | (simp [go_sem, Ext.add]; done) | (simp [go_sem, Ext.add]; omega) | omega) (by omega) _ l[m] _ rfl rfl (by intro j u hj; match j, hj with | 0, hj => simp [AreaR.row] at hj; subst hj; simp [Addr.add, go_sem] | 1, hj => simp [AreaR.row] at hj; subst hj; simp [Addr.add, go_sem] | 2, hj => simp [AreaR.row] at hj; subst hj; simp [Addr.add, go_sem] | 3, hj => simp [AreaR.row] at hj; subst hj; simp [Addr.add, go_sem] | 4, hj => simp [AreaR.row] at hj; subst hj; simp [Addr.add, go_sem] | 5, hj => simp [AreaR.row] at hj; subst hj; simp [Addr.add, go_sem]) (AreaR.one _) ?_); intro A1 c1 w1 hO1 hg1 hat1)
            go_roundw
            case rel => exact ⟨m + 1, A1, c1, by omega, by go_num, vsl (by rw [HT.out]; simp), by rw [HT.out]; exact hO1, grew_own (by (repeat (first | with_reducible exact grew_refl _ | with_reducible assumption | with_reducible refine grew_split ?_ | with_reducible refine grew_mk ?_ | with_reducible refine grew_plus ?_ | with_reducible refine grew_alloc ?_ | with_reducible refine grew_drew ?_ | (with_reducible refine grew_set ?_ (by first | exact Nat.le_refl _ | omega | (simp [go_sem]; done) | (simp [go_sem]; omega)))))) hg1 (fun a ha => (HO.out.ne a ha).1)⟩
            case measure => simp [intOf]; omega
      · obtain rfl : m = l.length := by omega
        have HE := hid (mergeTo_eq l x i k hk HNE.out)
        generalize hM : mergeTo l x i k l.length = M at HO hq HQ HE
        have HN := hid (fun r (hr : r ∈ M) => mergeP_nm (x := x) (i := i) (k := k) HS.out hxn r (by rw [← HE.out]; exact hr))
        clear hM
        cases hg : areasB M
        · have HGD := hid hg
          have hp : mergeF l a b = ([], false) := by rw [HF.out, ← HE.out, hg]; rfl
          have HP := hid hp
          clear hp hg
          go_wp2_with (go_at_call 29; refine (s_l26Good M _ _ _ HGD.out _ ((HO.out.sl (fun _ => rfl)).grew (by (repeat (first | with_reducible exact grew_refl _ | with_reducible assumption | with_reducible refine grew_split ?_ | with_reducible refine grew_mk ?_ | with_reducible refine grew_plus ?_ | with_reducible refine grew_alloc ?_ | with_reducible refine grew_drew ?_ | (with_reducible refine grew_set ?_ (by first | exact Nat.le_refl _ | omega | (simp [go_sem]; done) | (simp [go_sem]; omega))))))) HN.out (by unfold maxLen; omega)).mono ?_; (rintro e w' ⟨rfl, gx, rfl⟩))
          go_ret2
          rw [HP.out]
          exact ⟨MergePost.no, by (repeat (first | with_reducible exact grew_refl _ | with_reducible assumption | with_reducible refine grew_split ?_ | with_reducible refine grew_mk ?_ | with_reducible refine grew_plus ?_ | with_reducible refine grew_alloc ?_ | with_reducible refine grew_drew ?_ | (with_reducible refine grew_set ?_ (by first | exact Nat.le_refl _ | omega | (simp [go_sem]; done) | (simp [go_sem]; omega)))))⟩
        · have HGD := hid hg
          have hp : mergeF l a b = (M, true) := by rw [HF.out, ← HE.out, hg]; rfl
          have HP := hid hp
          clear hp hg
          go_wp2_with (go_at_call 29; refine (s_l26Good M _ _ _ HGD.out _ ((HO.out.sl (fun _ => rfl)).grew (by (repeat (first | with_reducible exact grew_refl _ | with_reducible assumption | with_reducible refine grew_split ?_ | with_reducible refine grew_mk ?_ | with_reducible refine grew_plus ?_ | with_reducible refine grew_alloc ?_ | with_reducible refine grew_drew ?_ | (with_reducible refine grew_set ?_ (by first | exact Nat.le_refl _ | omega | (simp [go_sem]; done) | (simp [go_sem]; omega))))))) HN.out (by unfold maxLen; omega)).mono ?_; (rintro e w' ⟨rfl, gx, rfl⟩))
          go_ret2
          rw [HP.out]
          exact ⟨⟨A', c', rfl, (HO.out.f (fun _ => rfl)).grew (by (repeat (first | with_reducible exact grew_refl _ | with_reducible assumption | with_reducible refine grew_split ?_ | with_reducible refine grew_mk ?_ | with_reducible refine grew_plus ?_ | with_reducible refine grew_alloc ?_ | with_reducible refine grew_drew ?_ | (with_reducible refine grew_set ?_ (by first | exact Nat.le_refl _ | omega | (simp [go_sem]; done) | (simp [go_sem]; omega))))))⟩, by (repeat (first | with_reducible exact grew_refl _ | with_reducible assumption | with_reducible refine grew_split ?_ | with_reducible refine grew_mk ?_ | with_reducible refine grew_plus ?_ | with_reducible refine grew_alloc ?_ | with_reducible refine grew_drew ?_ | (with_reducible refine grew_set ?_ (by first | exact Nat.le_refl _ | omega | (simp [go_sem]; done) | (simp [go_sem]; omega)))))⟩
end Go.Proofs.YteogidghoohgaaaDoor
